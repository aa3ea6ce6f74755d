/- Proved: the law RespPlain returns true for every input that the row reads, and its arguments read afterwards as before. Conditions: those of the given card alone (sizes within the form's reach, the listed variables tied to the program's text). -/
import Derived.Test.YtnhpcpmgedjffaaDoorCards
import Derived.Test.YtnhpcpmgedjffaaDoorTie
import Derived.SevenTiedAt
import Derived.Test.YtnhpcpmgedjffaaDoorKRespPlain9
/-! The tied card of RespPlain. -/
namespace Go.Proofs.YtnhpcpmgedjffaaDoor
open Go
set_option maxRecDepth 100000
set_option maxHeartbeats 8000000 in
theorem respPlain_card : Rows.RespPlainCardSaid :=
  Claim7.holds_tied_plain_at .later [] [.data, .data, .data, .data, .pinned] true Rows.respPlainCard.stood.harness true
    respPlain.proved (fun _ h => by cases h) (by as_aux_lemma => kernel_rfl) (fun _ h => by cases h) respPlain_row_tie rfl ⟨rfl, rfl⟩ (by as_aux_lemma => kernel_rfl) rfl
    (fun f fn hf hfn => by
      obtain rfl : f = 8 := Option.some.inj ((show Tryd.prog.funcNamed "ostiary/ostiarylaw15.RespPlain" = some 8 by as_aux_lemma => kernel_rfl).symm.trans hf) |>.symm
      obtain rfl : fn = Tryd.f8 := (Option.some.inj (Tryd.func8.symm.trans hfn)).symm
      exact ⟨by as_aux_lemma => kernel_rfl, fun j t ht => by
        rw [Tryd.params8] at ht
        have hm : t ∈ ([3, 4] : List TypeId) := by simpa using Array.mem_of_getElem? ht
        have hall : (([3, 4] : List TypeId).all fun u => !Tryd.prog.wantsStandIn u) = true := by as_aux_lemma => kernel_rfl
        exact (show Tryd.prog.wantsStandIn t = false by simpa using List.all_eq_true.1 hall t hm)⟩)
    (by as_aux_lemma => kernel_rfl)
#print axioms respPlain_card
end Go.Proofs.YtnhpcpmgedjffaaDoor
