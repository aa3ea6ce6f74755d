/- Proved: the law HeadLengths returns true for every input that the row reads, and its arguments read afterwards as before. Conditions: those of the given card alone (sizes within the form's reach, the listed variables tied to the program's text). -/
import Derived.Test.YtnhpcpmgedjffaaGreatDoorCards
import Derived.Test.YtnhpcpmgedjffaaGreatDoorTie
import Derived.SevenTiedAt
import Derived.Test.YtnhpcpmgedjffaaGreatDoorKHeadLengths7
/-! The tied card of HeadLengths. -/
namespace Go.Proofs.YtnhpcpmgedjffaaGreatDoor
open Go
set_option maxRecDepth 100000
set_option maxHeartbeats 8000000 in
theorem headLengths_card : Rows.HeadLengthsCardSaid :=
  Claim7.holds_tied_plain_at .later [] [.data, .data, .data, .data, .sentinel, .sentinel, .pinned] true Rows.headLengthsCard.stood.harness true
    headLengths.proved (fun _ h => by cases h) (by as_aux_lemma => kernel_rfl) (fun _ h => by cases h) headLengths_row_tie rfl ⟨rfl, rfl⟩ (by as_aux_lemma => kernel_rfl) rfl
    (fun f fn hf hfn => by
      obtain rfl : f = 9 := Option.some.inj ((show Tryz.prog.funcNamed "ostiary/ostiarylaw13.HeadLengths" = some 9 by as_aux_lemma => kernel_rfl).symm.trans hf) |>.symm
      obtain rfl : fn = Tryz.f9 := (Option.some.inj (Tryz.func9.symm.trans hfn)).symm
      exact ⟨by as_aux_lemma => kernel_rfl, fun j t ht => by
        rw [Tryz.params9] at ht
        have hm : t ∈ ([3, 9] : List TypeId) := by simpa using Array.mem_of_getElem? ht
        have hall : (([3, 9] : List TypeId).all fun u => !Tryz.prog.wantsStandIn u) = true := by as_aux_lemma => kernel_rfl
        exact (show Tryz.prog.wantsStandIn t = false by simpa using List.all_eq_true.1 hall t hm)⟩)
    (by as_aux_lemma => kernel_rfl)
#print axioms headLengths_card
end Go.Proofs.YtnhpcpmgedjffaaGreatDoor
