/- Proved: the law HeadWrites returns true for every input that the row reads, and its arguments read afterwards as before. Conditions: those of the given card alone (sizes within the form's reach, the listed variables tied to the program's text). -/
import Derived.Test.YtnhpcpmgedjffaaGreatDoorCards
import Derived.Test.YtnhpcpmgedjffaaGreatDoorTie
import Derived.SevenTiedAt
import Derived.Test.YtnhpcpmgedjffaaGreatDoorKHeadWrites10
/-! The tied card of HeadWrites. -/
namespace Go.Proofs.YtnhpcpmgedjffaaGreatDoor
open Go
set_option maxRecDepth 100000
set_option maxHeartbeats 8000000 in
theorem headWrites_card : Rows.HeadWritesCardSaid :=
  Claim7.holds_tied_plain_at .later [] [.data, .data, .data, .data, .pinned] true Rows.headWritesCard.stood.harness true
    headWrites.proved (fun _ h => by cases h) (by as_aux_lemma => kernel_rfl) (fun _ h => by cases h) headWrites_row_tie rfl ⟨rfl, rfl⟩ (by as_aux_lemma => kernel_rfl) rfl
    (fun f fn hf hfn => by
      obtain rfl : f = 4 := Option.some.inj ((show Tryz.prog.funcNamed "ostiary/ostiarylaw13.HeadWrites" = some 4 by as_aux_lemma => kernel_rfl).symm.trans hf) |>.symm
      obtain rfl : fn = Tryz.f4 := (Option.some.inj (Tryz.func4.symm.trans hfn)).symm
      exact ⟨by as_aux_lemma => kernel_rfl, fun j t ht => by
        rw [Tryz.params4] at ht
        have hm : t ∈ ([35] : List TypeId) := by simpa using Array.mem_of_getElem? ht
        have hall : (([35] : List TypeId).all fun u => !Tryz.prog.wantsStandIn u) = true := by as_aux_lemma => kernel_rfl
        exact (show Tryz.prog.wantsStandIn t = false by simpa using List.all_eq_true.1 hall t hm)⟩)
    (by as_aux_lemma => kernel_rfl)
#print axioms headWrites_card
end Go.Proofs.YtnhpcpmgedjffaaGreatDoor
