import Derived.Test.YtnhpcpmgedjffaaDoorProg
import Derived.Test.YtnhpcpmgedjffaaDoorOfstr
import Derived.Lib.LaidTab
import Derived.Shelf.Unicode.DecodeSlow
import Derived.WalkSmall
import Derived.Lib.ItoaNum
/-! What the package-level variables hold: handed from contract to contract. -/
namespace Go.Proofs.YtnhpcpmgedjffaaDoorX
open Go.RowKit Go.Proofs.YtnhpcpmgedjffaaDoorW.PrintWords Go.Proofs.YtnhpcpmgedjffaaDoorW.PrintLast Go.Proofs.YtnhpcpmgedjffaaDoorW.PrintMore

/-- A premise on the variables: bit 0: internal/bytealg.MaxLen holds some int; bit 1: strconv's powers of ten; bit 2: unicode/utf8's two tables. -/
def GG (f : Nat) (w : World) : Prop :=
  (f.testBit 0 = true → ∃ m : Int, w.cell? ⟨0, 0, none⟩ = some (.int .i64 m)) ∧
  (f.testBit 1 = true → Lib.TabIs Tryd.prog w "internal/strconv.uint64pow10" .u64 Lib.pow10Tab ∧ 1 < w.heap.size) ∧
  (f.testBit 2 = true → Lib.Utf8Tabs 2 3 w)
theorem bit_sub {f f' i : Nat} (h : f' &&& f = f') (hi : f'.testBit i = true) : f.testBit i = true := by
  rw [← h, Nat.testBit_and] at hi
  exact (Bool.and_eq_true_iff.1 hi).2
theorem GG_sub {f f' : Nat} {w : World} (h : GG f w) (hs : f' &&& f = f') : GG f' w :=
  ⟨fun hi => h.1 (bit_sub hs hi), fun hi => h.2.1 (bit_sub hs hi), fun hi => h.2.2 (bit_sub hs hi)⟩
theorem GG_step {f f' : Nat} {w W : World} (h : GG f w) (hs : f' &&& f = f') (hb : Below w.heap.size w W) : GG f' W := by
  have hc : ∀ {a : Addr} {v : Value}, w.cell? a = some v → W.cell? a = some v := fun hc => pw_cell_below hb hc
  refine ⟨fun hi => ?_, fun hi => ?_, fun hi => ?_⟩
  · obtain ⟨m, hm⟩ := h.1 (bit_sub hs hi)
    exact ⟨m, hc hm⟩
  · obtain ⟨ht, hg⟩ := h.2.1 (bit_sub hs hi)
    exact ⟨var?_below hb (by kernel_rfl) hg ht, Nat.lt_of_lt_of_le hg hb.size⟩
  · obtain ⟨h1, h2⟩ := h.2.2 (bit_sub hs hi)
    exact ⟨fun c hlt => hc (h1 c hlt), fun i hlt => ⟨hc (h2 i hlt).1, hc (h2 i hlt).2⟩⟩
theorem GG_drewN {f : Nat} {w : World} (h : GG f w) (n : Nat) : GG f (w.drewN n) := h
theorem GG_drew {f : Nat} {w : World} (h : GG f w) : GG f w.drew := h
end Go.Proofs.YtnhpcpmgedjffaaDoorX
