import Derived.Test.YtnhpcpmgedjffaaDoorShelf
import Derived.Test.YtnhpcpmgedjffaaDoorGg
import Derived.Test.YtnhpcpmgedjffaaDoorWord
import Derived.Shelf.Strings.SlTrimAscii
/-! Contracts of library functions, in the printed contracts' form. -/
namespace Go.Proofs.YtnhpcpmgedjffaaDoorX
open Go.RowKit Go.Proofs.YtnhpcpmgedjffaaDoorW.PrintWords Go.Proofs.YtnhpcpmgedjffaaDoorW.PrintLast Go.Proofs.YtnhpcpmgedjffaaDoorW.PrintMore
set_option linter.unusedVariables false
set_option linter.unusedSimpArgs false

/-! ### strings.Cut -/
def xCut (s sep : ByteArray) : ByteArray × ByteArray × Bool := (⟨(Lib.cut s.data.toList sep.data.toList).1.toArray⟩, ⟨(Lib.cut s.data.toList sep.data.toList).2.1.toArray⟩, (Lib.cut s.data.toList sep.data.toList).2.2)
theorem strings_Cut_x (s sep : ByteArray) (w : World) (hG : GG 1 w) (hs : s.size < 4294967281) :
    Calls Tryd.prog 56 #[.string s, .string sep] w fun e w' => e = .returned (.tuple #[.string (xCut s sep).1, .string (xCut s sep).2.1, .bool (xCut s sep).2.2]) ∧ Drawn0 w w' := by
  obtain ⟨m, hm⟩ := hG.1 (by decide)
  refine (Tryd.strings_Cut s sep m w hs hm).mono ?_
  rintro e w' ⟨he, n, hw⟩
  exact ⟨he, ⟨⟨n, hw⟩⟩⟩

/-! ### strings.Split, at a separator that is not empty -/
theorem R_new {α : Type} {enc : α → Value} {h1 : ∀ x, (enc x).oneCell' = true} (w : World) (e : Nat) (xs : List α) {ok : Nat → Prop} (hok : ok w.heap.size) (hm : xs.length ≤ maxLen) :
    Kd.R (Kd.scalar enc h1) e (w.alloc (.cells (xs.map enc).toArray e)) w.heap.size ok (.slice (some ⟨w.heap.size, 0, none⟩) xs.length xs.length) xs := by
  refine ⟨fun k hk => ?_, encs enc xs, ?_, Kd.reps_scalar xs⟩
  · have : w.heap.size = k := by simpa [Value.ownBlock] using hk
    subst this
    exact hok
  · have h2 := World.ownsRow_lit (base := w.heap.size) (e := e) (size := 1) w (xs.map enc).toArray xs.length (Nat.le_refl _) hm (by simp)
    exact (show (w.alloc (.cells (xs.map enc).toArray e)).ownsRow w.heap.size e 1 _ xs.length (encs enc xs) from by simpa [encs] using h2)
def xSplit (s sep : ByteArray) : List ByteArray := Lib.splitB sep 0 (Lib.countB s sep) s
theorem xSplit_length (s sep : ByteArray) (h1 : 1 ≤ sep.size) : (xSplit s sep).length = Lib.countB s sep + 1 := Lib.splitB_all sep h1 0 _ s rfl
theorem strings_Split_x (s sep : ByteArray) (w : World) (hG : GG 1 w) (hs : s.size < 4294967281) (h1 : 1 ≤ sep.size) (hl : (xSplit s sep).length ≤ 4294967295) :
    Calls Tryd.prog 74 #[.string s, .string sep] w fun e w' => ∃ v0_ : Value, e = .returned v0_ ∧ Kd.R Kd.string 9 w' w.heap.size (fun _ => True) v0_ (xSplit s sep) ∧ Below w.heap.size w w' := by
  obtain ⟨m, hm⟩ := hG.1 (by decide)
  refine (Tryd.strings_Split s sep m w hs hm h1).mono ?_
  rintro e w' ⟨he, hw⟩
  rw [← xSplit_length s sep h1] at he
  subst hw
  exact ⟨_, he, R_new w _ (xSplit s sep) trivial (by unfold maxLen; omega), below_alloc (Below.refl _ _) _⟩

/-! ### strings.Trim, at an ASCII cutset -/
def xTrim (s cs : ByteArray) : ByteArray := ⟨(Lib.trimS s.data.toList cs.data.toList).toArray⟩
def isAscii (cs : ByteArray) : Bool := cs.data.toList.all (fun b => decide (b.toNat < 128))
theorem strings_Trim_x (s cs : ByteArray) (w : World) (hs : s.size ≤ 9223372036854775807) (hcs : cs.size < 4294967281) (ha : isAscii cs = true) :
    Calls Tryd.prog 78 #[.string s, .string cs] w fun e w' => e = .returned (.string (xTrim s cs)) ∧ Below w.heap.size w w' := by
  refine (Any.strings_Trim_laid Tryd.lays160 (by kernel_rfl) s cs w hs hcs fun j b hj => ?_).mono ?_
  · have := List.all_eq_true.1 ha b (List.mem_of_getElem? hj)
    simpa using this
  · rintro e w' ⟨he, hb⟩
    exact ⟨he, hb⟩

/-! ### bytes.Index, bytes.Cut, at a separator of two bytes or more -/
def isBytes (l : List Int) : Bool := l.all fun x => decide (0 ≤ x) && decide (x < 256)
theorem isBytes_mem {l : List Int} (h : isBytes l = true) : ∀ x ∈ l, 0 ≤ x ∧ x < 256 := fun x hx => by
  have := List.all_eq_true.1 h x hx
  simpa using this
def xIndex (l sep : List Int) : Int := Lib.index (Lib.bytesOf l) (Lib.bytesOf sep)
theorem C_cells {w : World} {A : Option Addr} {l : List Int} (h : Kd.C (Kd.int .u8) w A l.length l) (h0 : 0 < l.length) : ∃ a, A = some a ∧ ∀ i, i < l.length → w.cell? (a.add i) = some (.int .u8 (l.getD i 0)) := by
  obtain ⟨ad, ha, hc⟩ := (Kd.reads_of_C (d := (0 : Int)) h).2.2 h0
  refine ⟨ad, ha, fun i hi => ?_⟩
  exact hc i hi
theorem bytes_Index_x (A0 : Option Addr) (c0 : Nat) (l0 : List Int) (A1 : Option Addr) (c1 : Nat) (l1 : List Int) (w : World) (hr0 : Kd.C (Kd.int .u8) w A0 l0.length l0) (hc0 : l0.length ≤ c0) (hr1 : Kd.C (Kd.int .u8) w A1 l1.length l1) (hc1 : l1.length ≤ c1) (hG : GG 1 w)
    (h2 : 2 ≤ l1.length) (h3 : l1.length ≤ 9223372036854775807) (hb0 : isBytes l0 = true) (hb1 : isBytes l1 = true) (hs : l0.length < 4294967281) :
    Calls Tryd.prog 131 #[.slice A0 l0.length c0, .slice A1 l1.length c1] w fun e w' => e = .returned (.int .i64 (xIndex l0 l1)) ∧ ∃ q, w' = w.drewN q := by
  obtain ⟨m, hm⟩ := hG.1 (by decide)
  by_cases hlt : l0.length < l1.length
  · refine (Any.bytes_Index_longer Tryd.lays185 A0 A1 l0.length c0 l1.length c1 w h2 hlt h3).mono ?_
    rintro e w' ⟨he, hw⟩
    refine ⟨?_, 0, hw⟩
    rw [he]
    have : xIndex l0 l1 = -1 := by
      unfold xIndex
      have e0 : (Lib.bytesOf l0).length = l0.length := by simp [Lib.bytesOf]
      have e1 : (Lib.bytesOf l1).length = l1.length := by simp [Lib.bytesOf]
      exact Lib.index_long (by omega) (fun e => by rw [e] at e1; omega)
    rw [this]
  · obtain ⟨a0, e0, hx0⟩ := C_cells hr0 (by omega)
    obtain ⟨a1, e1, hx1⟩ := C_cells hr1 (by omega)
    subst e0 e1
    exact Any.bytes_Index_at Tryd.lays185 a0 a1 l0.length c0 l1.length c1 l0 l1 m w rfl rfl (isBytes_mem hb0) (isBytes_mem hb1) hx0 hx1 hc0 hs h3 hm
def xCutB (l sep : List Int) : List Int × List Int × Bool :=
  if 0 ≤ xIndex l sep then (l.take (xIndex l sep).toNat, l.drop ((xIndex l sep).toNat + sep.length), true) else (l, [], false)
theorem bytes_Cut_x (P0_ : Nat → Prop) (A0 : Option Addr) (c0 : Nat) (l0 : List Int) (A1 : Option Addr) (c1 : Nat) (l1 : List Int) (w : World)
    (hs0 : Kd.V (Kd.int .u8) 5 w w.heap.size (fun k_ => P0_ k_) (.slice A0 l0.length c0) l0) (hr1 : Kd.C (Kd.int .u8) w A1 l1.length l1) (hc1 : l1.length ≤ c1) (hG : GG 1 w)
    (h2 : 2 ≤ l1.length) (h3 : l1.length ≤ 9223372036854775807) (hb0 : isBytes l0 = true) (hb1 : isBytes l1 = true) (hs : l0.length < 4294967281) :
    Calls Tryd.prog 103 #[.slice A0 l0.length c0, .slice A1 l1.length c1] w fun e w' => ∃ v0_ v1_ : Value, e = .returned (.tuple #[v0_, v1_, .bool (xCutB l0 l1).2.2]) ∧ Kd.V (Kd.int .u8) 5 w' w.heap.size (fun k_ => (P0_ k_ ∨ w.heap.size ≤ k_)) v0_ (xCutB l0 l1).1 ∧ Kd.V (Kd.int .u8) 5 w' w.heap.size (fun k_ => (P0_ k_ ∨ w.heap.size ≤ k_)) v1_ (xCutB l0 l1).2.1 ∧ Below w.heap.size w w' := by
  have hV := Kd.V_reads' hs0
  have hF := (Kd.V_at hs0).2.2
  have hle := Lib.index_ge (Lib.bytesOf l0) (Lib.bytesOf l1)
  have e0 : (Lib.bytesOf l0).length = l0.length := by simp [Lib.bytesOf]
  have e1 : (Lib.bytesOf l1).length = l1.length := by simp [Lib.bytesOf]
  have hroom := Lib.index_room (Lib.bytesOf l0) (Lib.bytesOf l1)
  rw [e0, e1] at hroom
  refine (Any.bytes_Cut_of Tryd.laysSlT4 A0 A1 l0.length c0 l1.length c1 (xIndex l0 l1) w hV.2.1 hle hroom (by omega) (bytes_Index_x A0 c0 l0 A1 c1 l1 w hV.2.2 hV.2.1 hr1 hc1 hG h2 h3 hb0 hb1 hs)).mono ?_
  rintro e w' ⟨he, q, rfl⟩
  unfold Lib.cutV at he
  unfold xCutB
  by_cases h0 : 0 ≤ xIndex l0 l1
  · rw [if_pos h0] at he
    rw [if_pos h0]
    have hr := hroom h0
    have hi : (xIndex l0 l1).toNat + l1.length ≤ l0.length := by have : xIndex l0 l1 + l1.length ≤ l0.length := hr; omega
    refine ⟨_, _, he, ?_, ?_, pw_below_drewN (Below.refl _ _) q⟩
    · have hl : (l0.take (xIndex l0 l1).toNat).length = (xIndex l0 l1).toNat := by rw [List.length_take]; omega
      have := Kd.V_mk (e := 5) (base := w.heap.size) (c := c0) (by rw [hl]; omega) (Kd.F_mono (ok' := fun k_ => (P0_ k_ ∨ w.heap.size ≤ k_)) (Kd.F_take hF (m := (xIndex l0 l1).toNat) (by omega)) (fun _ hk => .inl hk))
      rw [hl] at this
      exact Kd.V_drewN this q
    · have hl : (l0.drop ((xIndex l0 l1).toNat + l1.length)).length = l0.length - ((xIndex l0 l1).toNat + l1.length) := List.length_drop
      have := Kd.V_mk (e := 5) (base := w.heap.size) (c := c0 - ((xIndex l0 l1).toNat + l1.length)) (by rw [hl]; have := hV.2.1; omega) (Kd.F_mono (ok' := fun k_ => (P0_ k_ ∨ w.heap.size ≤ k_)) (Kd.F_cut hF (m := (xIndex l0 l1).toNat + l1.length) (c := c0) hi hV.2.1) (fun _ hk => .inl hk))
      rw [hl] at this
      have hm : (Kd.int .u8).sz = 1 := rfl
      rw [hm, Nat.mul_one] at this
      exact Kd.V_drewN this q
  · rw [if_neg h0] at he
    rw [if_neg h0]
    exact ⟨_, _, he, Kd.V_drewN (Kd.V_mono hs0 (fun _ hk => .inl hk)) q, Kd.V_nil _ _ _ _ _, pw_below_drewN (Below.refl _ _) q⟩
end Go.Proofs.YtnhpcpmgedjffaaDoorX
