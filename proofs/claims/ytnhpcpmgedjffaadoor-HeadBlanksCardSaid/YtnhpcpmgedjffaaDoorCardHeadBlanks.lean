/- Proved: the law HeadBlanks returns true for every name, value and pair of numbers of blanks that the row reads, and its arguments read afterwards as before. Conditions: those of the given card alone (sizes within the form's reach, the listed variables tied to the program's text). -/
import Derived.Test.YtnhpcpmgedjffaaDoorLawHeadBlanks
import Derived.Test.YtnhpcpmgedjffaaDoorCards
import Derived.Test.YtnhpcpmgedjffaaDoorTie
import Derived.SevenTiedAt
/-! The tied card of HeadBlanks. -/
namespace Go.Proofs.YtnhpcpmgedjffaaDoor
open Go
set_option maxRecDepth 100000
theorem headBlanks_card : Rows.HeadBlanksCardSaid :=
  Claim7.holds_tied_plain_at .later [] [.data, .data, .data, .data, .pinned] true Rows.headBlanksCard.stood.harness true
    headBlanks.proved (fun _ h => by cases h) (by kernel_rfl) (fun _ h => by cases h) headBlanks_row_tie rfl ⟨rfl, rfl⟩ (by kernel_rfl) rfl
    (fun f fn hf hfn => by
      obtain rfl : f = 10 := Option.some.inj ((show Tryd.prog.funcNamed "ostiary/ostiarylaw13.HeadBlanks" = some 10 by kernel_rfl).symm.trans hf) |>.symm
      obtain rfl : fn = Tryd.f10 := (Option.some.inj (Tryd.func10.symm.trans hfn)).symm
      exact ⟨by kernel_rfl, fun j t ht => by
        rw [Tryd.params10] at ht
        have hm : t ∈ [9, 9, 3, 3] := by simpa using Array.mem_of_getElem? ht
        have hall : ([9, 9, 3, 3].all fun u => !Tryd.prog.wantsStandIn u) = true := by kernel_rfl
        exact (show Tryd.prog.wantsStandIn t = false by simpa using List.all_eq_true.1 hall t hm)⟩)
    (by kernel_rfl)
#print axioms headBlanks_card
end Go.Proofs.YtnhpcpmgedjffaaDoor
