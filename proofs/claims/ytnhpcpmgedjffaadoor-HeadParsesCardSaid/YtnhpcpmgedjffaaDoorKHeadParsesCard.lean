/- Proved: the law HeadParses returns true for every input that the row reads, and its arguments read afterwards as before. Conditions: those of the given card alone (sizes within the form's reach, the listed variables tied to the program's text). -/
import Derived.Test.YtnhpcpmgedjffaaDoorCards
import Derived.Test.YtnhpcpmgedjffaaDoorTie
import Derived.SevenTiedAt
import Derived.Test.YtnhpcpmgedjffaaDoorKHeadParses8
/-! The tied card of HeadParses. -/
namespace Go.Proofs.YtnhpcpmgedjffaaDoor
open Go
set_option maxRecDepth 100000
theorem headParses_card : Rows.HeadParsesCardSaid :=
  Claim7.holds_tied_plain_at .later [] [.data, .pinned] true Rows.headParsesCard.stood.harness true
    headParses.proved (fun _ h => by cases h) (by kernel_rfl) (fun _ h => by cases h) headParses_row_tie rfl ⟨rfl, rfl⟩ (by kernel_rfl) rfl
    (fun f fn hf hfn => by
      obtain rfl : f = 9 := Option.some.inj ((show Tryd.prog.funcNamed "ostiary/ostiarylaw13.HeadParses" = some 9 by kernel_rfl).symm.trans hf) |>.symm
      obtain rfl : fn = Tryd.f9 := (Option.some.inj (Tryd.func9.symm.trans hfn)).symm
      exact ⟨by kernel_rfl, fun j t ht => by
        rw [Tryd.params9] at ht
        have hm : t ∈ ([25] : List TypeId) := by simpa using Array.mem_of_getElem? ht
        have hall : (([25] : List TypeId).all fun u => !Tryd.prog.wantsStandIn u) = true := by kernel_rfl
        exact (show Tryd.prog.wantsStandIn t = false by simpa using List.all_eq_true.1 hall t hm)⟩)
    (by kernel_rfl)
#print axioms headParses_card
end Go.Proofs.YtnhpcpmgedjffaaDoor
