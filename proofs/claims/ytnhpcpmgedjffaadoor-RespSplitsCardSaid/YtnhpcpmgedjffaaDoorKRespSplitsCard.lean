/- Proved: the law RespSplits returns true for every input that the row reads, and its arguments read afterwards as before. Conditions: those of the given card alone (sizes within the form's reach, the listed variables tied to the program's text). -/
import Derived.Test.YtnhpcpmgedjffaaDoorCards
import Derived.Test.YtnhpcpmgedjffaaDoorTie
import Derived.SevenTiedAt
import Derived.Test.YtnhpcpmgedjffaaDoorKRespSplits10
/-! The tied card of RespSplits. -/
namespace Go.Proofs.YtnhpcpmgedjffaaDoor
open Go
set_option maxRecDepth 100000
set_option maxHeartbeats 8000000 in
theorem respSplits_card : Rows.RespSplitsCardSaid :=
  Claim7.holds_tied_plain_at .later [] [.data, .data, .data, .data, .pinned] true Rows.respSplitsCard.stood.harness true
    respSplits.proved (fun _ h => by cases h) (by as_aux_lemma => kernel_rfl) (fun _ h => by cases h) respSplits_row_tie rfl ⟨rfl, rfl⟩ (by as_aux_lemma => kernel_rfl) rfl
    (fun f fn hf hfn => by
      obtain rfl : f = 7 := Option.some.inj ((show Tryd.prog.funcNamed "ostiary/ostiarylaw15.RespSplits" = some 7 by as_aux_lemma => kernel_rfl).symm.trans hf) |>.symm
      obtain rfl : fn = Tryd.f7 := (Option.some.inj (Tryd.func7.symm.trans hfn)).symm
      exact ⟨by as_aux_lemma => kernel_rfl, fun j t ht => by
        rw [Tryd.params7] at ht
        have hm : t ∈ ([54] : List TypeId) := by simpa using Array.mem_of_getElem? ht
        have hall : (([54] : List TypeId).all fun u => !Tryd.prog.wantsStandIn u) = true := by as_aux_lemma => kernel_rfl
        exact (show Tryd.prog.wantsStandIn t = false by simpa using List.all_eq_true.1 hall t hm)⟩)
    (by as_aux_lemma => kernel_rfl)
#print axioms respSplits_card
end Go.Proofs.YtnhpcpmgedjffaaDoor
