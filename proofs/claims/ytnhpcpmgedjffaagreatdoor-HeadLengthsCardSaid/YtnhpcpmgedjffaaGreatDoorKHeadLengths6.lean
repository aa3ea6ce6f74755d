import Derived.Test.YtnhpcpmgedjffaaGreatDoorKHeadLengths5
-- Written by the proof's own program out of the translation; Lean checks it.
namespace Go.Proofs.YtnhpcpmgedjffaaGreatDoor.P
open Go.RowKit Go.Proofs.YtnhpcpmgedjffaaGreatDoorW.PrintWords Go.Proofs.YtnhpcpmgedjffaaGreatDoorW.PrintLast Go.Proofs.YtnhpcpmgedjffaaGreatDoorW.PrintMore Go.Proofs.YtnhpcpmgedjffaaGreatDoorX
attribute [local go_sem] max2_int min2_int max_two min_two max_three min_three max_four min_four   -- for this text's walks alone
set_option linter.unusedVariables false
set_option linter.unusedSimpArgs false

/-! ### ostiarylaw13_HeadLengths: function 9 -/
mutual
def ostiarylaw13_HeadLengths.j0 : Nat → Int → ByteArray → Bool → Bool → Option (Bool)
 | 0, _, _, _, _ => none
 | k + 1, x0, x1, x5, x25 => if x25 = true then (some x5) else ((ostiarylaw13_decimal.f k x0).bind fun t223 => ((ostiarylaw13_of.f 1 (⟨#[67, 111, 110, 116, 101, 110, 116, 45, 76, 101, 110, 103, 116, 104]⟩ : ByteArray) t223).bind fun bt224 => ((head_Length.f k bt224.1 bt224.2.1 bt224.2.2.1 bt224.2.2.2).bind fun bt231 => (if x0 ≤ 65535 then (if bt231.1 = x0 then (if bt231.2 = 200 then (if x0 > 65535 then (ostiarylaw13_HeadLengths.j1 k x1 x5 t223 (bt231.2 != 413) bt224.1 bt224.2.1 bt224.2.2.1 bt224.2.2.2) else (ostiarylaw13_HeadLengths.j1 k x1 x5 t223 false bt224.1 bt224.2.1 bt224.2.2.1 bt224.2.2.2)) else (ostiarylaw13_HeadLengths.j1 k x1 x5 t223 true bt224.1 bt224.2.1 bt224.2.2.1 bt224.2.2.2)) else (ostiarylaw13_HeadLengths.j1 k x1 x5 t223 true bt224.1 bt224.2.1 bt224.2.2.1 bt224.2.2.2)) else (if x0 > 65535 then (ostiarylaw13_HeadLengths.j1 k x1 x5 t223 (bt231.2 != 413) bt224.1 bt224.2.1 bt224.2.2.1 bt224.2.2.2) else (ostiarylaw13_HeadLengths.j1 k x1 x5 t223 false bt224.1 bt224.2.1 bt224.2.2.1 bt224.2.2.2))))))
def ostiarylaw13_HeadLengths.j1 : Nat → ByteArray → Bool → ByteArray → Bool → ByteArray → ByteArray → Int → List (S52) → Option (Bool)
 | 0, _, _, _, _, _, _, _, _ => none
 | k + 1, x1, x5, x6, x54, x231000, x231001, x231002, x231003 => if x54 = true then (some false) else (if x231003.length < 4398046511104 then ((some (x231003 ++ [(⟨(⟨#[67, 79, 78, 84, 69, 78, 84, 45, 108, 101, 110, 103, 116, 104]⟩ : ByteArray), x1⟩ : S52)] : List (S52))).bind fun y233 => ((head_Length.f k x231000 x231001 x231002 y233).bind fun bt236 => (if y233.length < 4398046511104 then ((head_Length.f k x231000 x231001 x231002 (y233 ++ [(⟨(⟨#[84, 114, 97, 110, 115, 102, 101, 114, 45, 69, 110, 99, 111, 100, 105, 110, 103]⟩ : ByteArray), (⟨#[105, 100, 101, 110, 116, 105, 116, 121]⟩ : ByteArray)⟩ : S52)])).bind fun bt241 => (if x5 = true then (if ((bt236.2 == 400) == (x1.toList != x6.toList)) = true then (some (bt241.2 == 501)) else (some false)) else (some false))) else (none)))) else (none))
end
def ostiarylaw13_HeadLengths.f (k : Nat) (a0 : Int) (a1 : ByteArray) : Option (Bool) := (ostiarylaw13_awake.f).bind fun t222 => (if a0 < 0 then (ostiarylaw13_HeadLengths.j0 k a0 a1 t222 true) else (if a0 > 1073741824 then (ostiarylaw13_HeadLengths.j0 k a0 a1 t222 true) else (ostiarylaw13_HeadLengths.j0 k a0 a1 t222 (decide ((a1.size : Int) > 100)))))
theorem ostiarylaw13_HeadLengths.mono_l : ∀ k, (∀ y0 y1 y2 y3, LeO (ostiarylaw13_HeadLengths.j0 k y0 y1 y2 y3) (ostiarylaw13_HeadLengths.j0 (k + 1) y0 y1 y2 y3)) ∧ (∀ y0 y1 y2 y3 y4 y5 y6 y7, LeO (ostiarylaw13_HeadLengths.j1 k y0 y1 y2 y3 y4 y5 y6 y7) (ostiarylaw13_HeadLengths.j1 (k + 1) y0 y1 y2 y3 y4 y5 y6 y7))
 | 0 => ⟨fun _ _ _ _ r h => by simp [ostiarylaw13_HeadLengths.j0] at h, fun _ _ _ _ _ _ _ _ r h => by simp [ostiarylaw13_HeadLengths.j1] at h⟩
 | k + 1 => by
  obtain ⟨ih0, ih1⟩ := ostiarylaw13_HeadLengths.mono_l k
  refine ⟨?_, ?_⟩
  ·intro y0 y1 y2 y3
   unfold ostiarylaw13_HeadLengths.j0
   repeat' first
   | (with_reducible exact ih0 _ _ _ _)
   | (with_reducible exact ih1 _ _ _ _ _ _ _ _)
   | (with_reducible exact head_Length.mono _ _ _ _ _)
   | (with_reducible exact ostiarylaw13_decimal.mono _ _)
   | (with_reducible exact LeO.refl _)
   | (with_reducible exact LeO.none _)
   | (with_reducible refine LeO.ite ?_ ?_)
   | (with_reducible refine LeO.bind ?_ (fun _ => ?_))
   | exact ih0 _ _ _ _
   | exact ih1 _ _ _ _ _ _ _ _
   | exact head_Length.mono _ _ _ _ _
   | exact ostiarylaw13_decimal.mono _ _
   | exact LeO.none _
   | refine LeO.ite ?_ ?_
   | refine LeO.bind ?_ (fun _ => ?_)
  ·intro y0 y1 y2 y3 y4 y5 y6 y7
   unfold ostiarylaw13_HeadLengths.j1
   repeat' first
   | (with_reducible exact ih0 _ _ _ _)
   | (with_reducible exact ih1 _ _ _ _ _ _ _ _)
   | (with_reducible exact head_Length.mono _ _ _ _ _)
   | (with_reducible exact ostiarylaw13_decimal.mono _ _)
   | (with_reducible exact LeO.refl _)
   | (with_reducible exact LeO.none _)
   | (with_reducible refine LeO.ite ?_ ?_)
   | (with_reducible refine LeO.bind ?_ (fun _ => ?_))
   | exact ih0 _ _ _ _
   | exact ih1 _ _ _ _ _ _ _ _
   | exact head_Length.mono _ _ _ _ _
   | exact ostiarylaw13_decimal.mono _ _
   | exact LeO.none _
   | refine LeO.ite ?_ ?_
   | refine LeO.bind ?_ (fun _ => ?_)
theorem ostiarylaw13_HeadLengths.mono : ∀ a0 a1 k, LeO (ostiarylaw13_HeadLengths.f k a0 a1) (ostiarylaw13_HeadLengths.f (k + 1) a0 a1) := by
 intro a0 a1 k
 obtain ⟨ih0, ih1⟩ := ostiarylaw13_HeadLengths.mono_l k
 unfold ostiarylaw13_HeadLengths.f
 repeat' first
   | (with_reducible exact ih0 _ _ _ _)
   | (with_reducible exact ih1 _ _ _ _ _ _ _ _)
   | (with_reducible exact head_Length.mono _ _ _ _ _)
   | (with_reducible exact ostiarylaw13_decimal.mono _ _)
   | (with_reducible exact LeO.refl _)
   | (with_reducible exact LeO.none _)
   | (with_reducible refine LeO.ite ?_ ?_)
   | (with_reducible refine LeO.bind ?_ (fun _ => ?_))
   | exact ih0 _ _ _ _
   | exact ih1 _ _ _ _ _ _ _ _
   | exact head_Length.mono _ _ _ _ _
   | exact ostiarylaw13_decimal.mono _ _
   | exact LeO.none _
   | refine LeO.ite ?_ ?_
   | refine LeO.bind ?_ (fun _ => ?_)
set_option maxHeartbeats 8000000 in
set_option maxRecDepth 100000 in
theorem ostiarylaw13_HeadLengths.calls (k : Nat) (a0 : Int) (a1 : ByteArray) (r : Bool) (w : World) (hG : GG 5 w) (h : ostiarylaw13_HeadLengths.f k a0 a1 = some r) :
  Calls Tryz.prog 9 #[.int .i64 a0, .string a1] w fun e w' => e = .returned (.bool r) ∧ Below w.heap.size w w' := by
 have hu35 := Tryz.underlying35
 have hu52 := Tryz.underlying52
 have HGG := Aside0.mk hG
 clear hG
 have HB := Aside0.mk (Below.refl w.heap.size w)
 have H : ((ostiarylaw13_awake.f).bind fun t222 => (if a0 < 0 then (ostiarylaw13_HeadLengths.j0 k a0 a1 t222 true) else (if a0 > 1073741824 then (ostiarylaw13_HeadLengths.j0 k a0 a1 t222 true) else (ostiarylaw13_HeadLengths.j0 k a0 a1 t222 (decide ((a1.size : Int) > 100)))))) = some r := h
 clear h
 replace H := Option.bind_eq_some_iff.mp H
 obtain ⟨t222, A30, H⟩ := H
 replace H : (if a0 < 0 then (ostiarylaw13_HeadLengths.j0 k a0 a1 t222 true) else (if a0 > 1073741824 then (ostiarylaw13_HeadLengths.j0 k a0 a1 t222 true) else (ostiarylaw13_HeadLengths.j0 k a0 a1 t222 (decide ((a1.size : Int) > 100))))) = some r := H
 have A3 := Aside0.mk A30
 clear A30
 have HC4 := Aside0.mk H
 clear H
 go_enter Tryz.func9, Tryz.ntmps9
 go_upto_region 2 with (first | ((with_reducible refine gate_callee (f := 31) rfl ?_); refine goesL_ (some 14) rfl rfl Tryz.func31 (by kernel_rfl) rfl #[] rfl (by (try simp only [List.map_toArray, List.map_cons, List.map_nil]); first | done | rfl | (simp only [List.length_drop, List.length_take]; rfl)) ?_; (with_reducible refine (ostiarylaw13_awake.calls  t222 _ ?side1 A3.out).mono ?_); (case side1 => exact GG_step HGG.out (by decide) (by repeat (first | (with_reducible first | exact HB.out | apply below_alloc | apply pw_below_drewN | apply below_drew1) | exact HB.out))); rintro e w5 ⟨rfl, hb⟩; refine ⟨_, rfl, ?_⟩; have n0_ := Aside0.mk (below_step (by repeat (first | (with_reducible first | exact HB.out | apply below_alloc | apply pw_below_drewN | apply below_drew1) | exact HB.out)) hb); clear HB; have HB := n0_; clear n0_; (try clear hb); (try clear hb2); (try clear hk); (try clear hi)))
 (try simp only [Act.put, List.setIfInBounds_toArray, List.set_cons_zero, List.set_cons_succ])
 go_cut [25] (fun v25 wc => ∃ (kq : Nat) (x25_3 : Bool), v25 = .bool x25_3 ∧ Aside0 (ostiarylaw13_HeadLengths.j0 kq a0 a1 t222 x25_3 = some r) ∧ Aside0 (kq ≤ k) ∧ Aside0 (Below w.heap.size w wc))
 case first =>
  have H := HC4.out
  clear HC4
  by_cases c6 : a0 < 0
  ·rw [if_pos c6] at H
   have c6b0 : decide (a0 < 0) = true := decide_eq_true c6
   clear c6
   (first | rw [c6b0] | (simp only [i64_w, i32_w]; rw [c6b0]) | skip)
   have H' := Aside0.mk H
   clear H
   go_wp2
   go_meet
   case rel => exact ⟨_, (true), (by first | rfl | (simp; done) | (simp [*]; done)), H', ⟨by first | omega | exact Nat.le_refl _⟩, ⟨by repeat (first | (with_reducible first | exact HB.out | apply below_alloc | apply pw_below_drewN | apply below_drew1) | exact HB.out)⟩⟩
  ·rw [if_neg c6] at H
   have c6b0 : decide (a0 < 0) = false := decide_eq_false c6
   clear c6
   (first | rw [c6b0] | (simp only [i64_w, i32_w]; rw [c6b0]) | skip)
   by_cases c7 : a0 > 1073741824
   ·rw [if_pos c7] at H
    have c7b0 : decide (1073741824 < a0) = true := decide_eq_true c7
    clear c7
    have H' := Aside0.mk H
    clear H
    go_wp2
    go_meet
    case rel => exact ⟨_, (true), (by first | rfl | (simp; done) | (simp [*]; done)), H', ⟨by first | omega | exact Nat.le_refl _⟩, ⟨by repeat (first | (with_reducible first | exact HB.out | apply below_alloc | apply pw_below_drewN | apply below_drew1) | exact HB.out)⟩⟩
   ·rw [if_neg c7] at H
    have c7b0 : decide (1073741824 < a0) = false := decide_eq_false c7
    clear c7
    have H' := Aside0.mk H
    clear H
    go_wp2
    go_meet
    case rel => exact ⟨_, (decide ((a1.size : Int) > 100)), (by first | rfl | (simp; done) | (simp [*]; done)), H', ⟨by first | omega | exact Nat.le_refl _⟩, ⟨by repeat (first | (with_reducible first | exact HB.out | apply below_alloc | apply pw_below_drewN | apply below_drew1) | exact HB.out)⟩⟩
 case rest =>
  clear HC4
  try clear p2
  try clear c3
  try clear c6
  try clear c6b0
  try clear c7
  try clear c7b0
  obtain ⟨kq, x25_3, rfl, HA, HJ3, HB⟩ := hcut
  cases kq with
  | zero => exact absurd HA.out (by simp [ostiarylaw13_HeadLengths.j0])
  | succ kj3 =>
   have H := HA.out
   clear HA
   simp only [ostiarylaw13_HeadLengths.j0] at H
   by_cases c8 : x25_3 = true
   ·subst c8
    have H1 : (some t222) = some r := by rw [if_pos rfl] at H; exact H
    clear H
    have H := H1
    clear H1
    obtain rfl := Option.some.inj H
    go_wp2
    go_ret
    exact ⟨by first | rfl | (simp [errW_none, errW_some] <;> rfl) | (simp [*, errW_none, errW_some] <;> rfl), by repeat (first | (with_reducible first | exact HB.out | apply below_alloc | apply pw_below_drewN | apply below_drew1) | exact HB.out)⟩
   ·replace c8 := Bool.eq_false_iff.mpr c8
    subst c8
    have H1 : ((ostiarylaw13_decimal.f kj3 a0).bind fun t223 => ((ostiarylaw13_of.f 1 (⟨#[67, 111, 110, 116, 101, 110, 116, 45, 76, 101, 110, 103, 116, 104]⟩ : ByteArray) t223).bind fun bt224 => ((head_Length.f kj3 bt224.1 bt224.2.1 bt224.2.2.1 bt224.2.2.2).bind fun bt231 => (if a0 ≤ 65535 then (if bt231.1 = a0 then (if bt231.2 = 200 then (if a0 > 65535 then (ostiarylaw13_HeadLengths.j1 kj3 a1 t222 t223 (bt231.2 != 413) bt224.1 bt224.2.1 bt224.2.2.1 bt224.2.2.2) else (ostiarylaw13_HeadLengths.j1 kj3 a1 t222 t223 false bt224.1 bt224.2.1 bt224.2.2.1 bt224.2.2.2)) else (ostiarylaw13_HeadLengths.j1 kj3 a1 t222 t223 true bt224.1 bt224.2.1 bt224.2.2.1 bt224.2.2.2)) else (ostiarylaw13_HeadLengths.j1 kj3 a1 t222 t223 true bt224.1 bt224.2.1 bt224.2.2.1 bt224.2.2.2)) else (if a0 > 65535 then (ostiarylaw13_HeadLengths.j1 kj3 a1 t222 t223 (bt231.2 != 413) bt224.1 bt224.2.1 bt224.2.2.1 bt224.2.2.2) else (ostiarylaw13_HeadLengths.j1 kj3 a1 t222 t223 false bt224.1 bt224.2.1 bt224.2.2.1 bt224.2.2.2)))))) = some r := by rw [if_neg (show ¬ (false = true) by decide)] at H; exact H
    clear H
    have H := H1
    clear H1
    replace H := Option.bind_eq_some_iff.mp H
    obtain ⟨t223, A90, H⟩ := H
    replace H : ((ostiarylaw13_of.f 1 (⟨#[67, 111, 110, 116, 101, 110, 116, 45, 76, 101, 110, 103, 116, 104]⟩ : ByteArray) t223).bind fun bt224 => ((head_Length.f kj3 bt224.1 bt224.2.1 bt224.2.2.1 bt224.2.2.2).bind fun bt231 => (if a0 ≤ 65535 then (if bt231.1 = a0 then (if bt231.2 = 200 then (if a0 > 65535 then (ostiarylaw13_HeadLengths.j1 kj3 a1 t222 t223 (bt231.2 != 413) bt224.1 bt224.2.1 bt224.2.2.1 bt224.2.2.2) else (ostiarylaw13_HeadLengths.j1 kj3 a1 t222 t223 false bt224.1 bt224.2.1 bt224.2.2.1 bt224.2.2.2)) else (ostiarylaw13_HeadLengths.j1 kj3 a1 t222 t223 true bt224.1 bt224.2.1 bt224.2.2.1 bt224.2.2.2)) else (ostiarylaw13_HeadLengths.j1 kj3 a1 t222 t223 true bt224.1 bt224.2.1 bt224.2.2.1 bt224.2.2.2)) else (if a0 > 65535 then (ostiarylaw13_HeadLengths.j1 kj3 a1 t222 t223 (bt231.2 != 413) bt224.1 bt224.2.1 bt224.2.2.1 bt224.2.2.2) else (ostiarylaw13_HeadLengths.j1 kj3 a1 t222 t223 false bt224.1 bt224.2.1 bt224.2.2.1 bt224.2.2.2))))) = some r := H
    have A9 := Aside0.mk A90
    clear A90
    replace H := Option.bind_eq_some_iff.mp H
    obtain ⟨⟨t224, t225, t226, t227⟩, A100, H⟩ := H
    replace H : ((head_Length.f kj3 t224 t225 t226 t227).bind fun bt231 => (if a0 ≤ 65535 then (if bt231.1 = a0 then (if bt231.2 = 200 then (if a0 > 65535 then (ostiarylaw13_HeadLengths.j1 kj3 a1 t222 t223 (bt231.2 != 413) t224 t225 t226 t227) else (ostiarylaw13_HeadLengths.j1 kj3 a1 t222 t223 false t224 t225 t226 t227)) else (ostiarylaw13_HeadLengths.j1 kj3 a1 t222 t223 true t224 t225 t226 t227)) else (ostiarylaw13_HeadLengths.j1 kj3 a1 t222 t223 true t224 t225 t226 t227)) else (if a0 > 65535 then (ostiarylaw13_HeadLengths.j1 kj3 a1 t222 t223 (bt231.2 != 413) t224 t225 t226 t227) else (ostiarylaw13_HeadLengths.j1 kj3 a1 t222 t223 false t224 t225 t226 t227)))) = some r := H
    have A10 := Aside0.mk A100
    clear A100
    replace H := Option.bind_eq_some_iff.mp H
    obtain ⟨⟨t231, t232⟩, A110, H⟩ := H
    replace H : (if a0 ≤ 65535 then (if t231 = a0 then (if t232 = 200 then (if a0 > 65535 then (ostiarylaw13_HeadLengths.j1 kj3 a1 t222 t223 (t232 != 413) t224 t225 t226 t227) else (ostiarylaw13_HeadLengths.j1 kj3 a1 t222 t223 false t224 t225 t226 t227)) else (ostiarylaw13_HeadLengths.j1 kj3 a1 t222 t223 true t224 t225 t226 t227)) else (ostiarylaw13_HeadLengths.j1 kj3 a1 t222 t223 true t224 t225 t226 t227)) else (if a0 > 65535 then (ostiarylaw13_HeadLengths.j1 kj3 a1 t222 t223 (t232 != 413) t224 t225 t226 t227) else (ostiarylaw13_HeadLengths.j1 kj3 a1 t222 t223 false t224 t225 t226 t227))) = some r := H
    have A11 := Aside0.mk A110
    clear A110
    have HC12 := Aside0.mk H
    clear H
    go_upto_region 7 with (first | ((with_reducible refine gate_callee (f := 48) rfl ?_); refine goesL_ (some 28) rfl rfl Tryz.func48 (by kernel_rfl) rfl #[.int .i64 a0] rfl (by (try simp only [List.map_toArray, List.map_cons, List.map_nil]); first | done | rfl | (simp only [List.length_drop, List.length_take]; rfl)) ?_; (with_reducible refine (ostiarylaw13_decimal.calls kj3 a0 t223 _ A9.out).mono ?_); rintro e w13 ⟨rfl, hb⟩; refine ⟨_, rfl, ?_⟩; have n0_ := Aside0.mk (below_step (by repeat (first | (with_reducible first | exact HB.out | apply below_alloc | apply pw_below_drewN | apply below_drew1) | exact HB.out)) hb); clear HB; have HB := n0_; clear n0_; (try clear hb); (try clear hb2); (try clear hk); (try clear hi)) | ((with_reducible refine gate_callee (f := 49) rfl ?_); refine goesL_ (some 30) rfl rfl Tryz.func49 (by kernel_rfl) rfl #[.int .i64 1, .string (⟨#[67, 111, 110, 116, 101, 110, 116, 45, 76, 101, 110, 103, 116, 104]⟩ : ByteArray), .string t223] rfl (by (try simp only [List.map_toArray, List.map_cons, List.map_nil]); first | done | rfl | (simp only [List.length_drop, List.length_take]; rfl)) ?_; (with_reducible refine (ostiarylaw13_of.calls 1 (⟨#[67, 111, 110, 116, 101, 110, 116, 45, 76, 101, 110, 103, 116, 104]⟩ : ByteArray) t223 t224 t225 t226 t227 _ A10.out).mono ?_); rintro e w14 ⟨v228, rfl, ho0, hb⟩; refine ⟨_, rfl, ?_⟩; have n0_ := Aside0.mk (Kd.R_lower ho0 (below_size (by repeat (first | (with_reducible first | exact HB.out | apply below_alloc | apply pw_below_drewN | apply below_drew1) | exact HB.out)))); have n1_ := Aside0.mk (below_step (by repeat (first | (with_reducible first | exact HB.out | apply below_alloc | apply pw_below_drewN | apply below_drew1) | exact HB.out)) hb); clear HB; have HO229 := n0_; have HB := n1_; clear n0_ n1_; (try clear hb); (try clear hb2); (try clear hk); (try clear hi); (try clear ho0)) | ((with_reducible refine gate_dst (N := 7) rfl ?_); (try (refine gate_guard (by rfl) ?_; dsimp only)); refine box_event ?hg (N := 7) ?hd (cs := #[.string (⟨#[]⟩ : ByteArray), .string (⟨#[]⟩ : ByteArray), .int .i64 0, .slice none 0 0]) (t := 35) ?hr ?_; (case hd => rfl); (case hg => rfl); (case hr => first | (go_simp; done) | (go_simp; rfl)); intro gb230 hg w15 hbox hb; have n0_ := Aside0.mk (Kd.R_below (by (with_reducible repeat (first | apply Kd.R_alloc | apply Kd.R_drewN | apply Kd.R_drew)); exact HO229.out) hb); have n1_ := Aside0.mk (below_step (by repeat (first | (with_reducible first | exact HB.out | apply below_alloc | apply pw_below_drewN | apply below_drew1) | exact HB.out)) hb); have n2_ := Aside0.mk (hbox); have n3_ := Aside0.mk ((by rw [hg]; exact (below_size (by repeat (first | (with_reducible first | exact HB.out | apply below_alloc | apply pw_below_drewN | apply below_drew1) | exact HB.out))) : w.heap.size ≤ gb230)); have n4_ := Aside0.mk ((by rw [hg]; exact (below_size (by repeat (first | (with_reducible first | exact HB.out | apply below_alloc | apply pw_below_drewN | apply below_drew1) | exact HB.out))) : w.heap.size ≤ gb230)); clear HO229; clear HB; have HO229 := n0_; have HB := n1_; have BK230 := n2_; have GW230 := n3_; have GE230 := n4_; clear n0_ n1_ n2_ n3_ n4_; clear hb hbox hg; have hcz16_0 : w15.cell? ⟨gb230, 0, none⟩ = some (.string (⟨#[]⟩ : ByteArray)) := (blk_cell BK230.out 0).trans rfl; have hcz16_1 : w15.cell? ⟨gb230, 1, none⟩ = some (.string (⟨#[]⟩ : ByteArray)) := (blk_cell BK230.out 1).trans rfl; have hcz16_2 : w15.cell? ⟨gb230, 2, none⟩ = some (.int .i64 0) := (blk_cell BK230.out 2).trans rfl; have hcz16_3 : w15.cell? ⟨gb230, 3, none⟩ = some (.slice none 0 0) := (blk_cell BK230.out 3).trans rfl; have hfz16_0 := blk_frozen BK230.out 0; have hfz16_1 := blk_frozen BK230.out 1; have hfz16_2 := blk_frozen BK230.out 2; have hfz16_3 := blk_frozen BK230.out 3; obtain ⟨Ao17, co17, eo17⟩ := Kd.R_slice HO229.out; subst eo17) | ((with_reducible refine gate_callee (f := 50) rfl ?_); refine goesL_ (some 33) rfl rfl Tryz.func50 (by kernel_rfl) rfl #[.agg #[.string t224, .string t225, .int .i64 t226, .slice Ao17 t227.length co17]] rfl (by (try simp only [List.map_toArray, List.map_cons, List.map_nil]); first | done | rfl | (simp only [List.length_drop, List.length_take]; rfl)) ?_; (with_reducible refine (head_Length.calls kj3 t224 t225 t226 _ _ t227 t231 t232 _ ?side1 ?side2 A11.out).mono ?_); (case side1 => refine (Kd.R_reads' (e := 52) (base := w.heap.size) (ok := fun k_ => True) (n := t227.length) (c := co17) ?_).2.2; exact (by (with_reducible repeat (first | apply Kd.R_alloc | apply Kd.R_drewN | apply Kd.R_drew)); exact (Kd.R_mono (Kd.R_far (p := ⟨gb230, 3, none⟩) (Kd.R_far (p := ⟨gb230, 2, none⟩) (Kd.R_far (p := ⟨gb230, 1, none⟩) (Kd.R_far (p := ⟨gb230, 0, none⟩) (Kd.R_types HO229.out BK230.out (by decide)) (fun _ hk => hk.2) (.string t224)) (fun _ hk => hk.2) (.string t225)) (fun _ hk => hk.2) (.int .i64 t226)) (fun _ hk => hk.2) (.slice Ao17 t227.length co17)) (fun _ h_ => h_.1)))); (case side2 => exact (Kd.R_reads' HO229.out).2.1); rintro e w18 ⟨rfl, hb⟩; refine ⟨_, rfl, ?_⟩; have n0_ := Aside0.mk (Kd.R_below (by (with_reducible repeat (first | apply Kd.R_alloc | apply Kd.R_drewN | apply Kd.R_drew)); exact (Kd.R_mono (Kd.R_far (p := ⟨gb230, 3, none⟩) (Kd.R_far (p := ⟨gb230, 2, none⟩) (Kd.R_far (p := ⟨gb230, 1, none⟩) (Kd.R_far (p := ⟨gb230, 0, none⟩) (Kd.R_types HO229.out BK230.out (by decide)) (fun _ hk => hk.2) (.string t224)) (fun _ hk => hk.2) (.string t225)) (fun _ hk => hk.2) (.int .i64 t226)) (fun _ hk => hk.2) (.slice Ao17 t227.length co17)) (fun _ h_ => h_.1))) hb); have n1_ := Aside0.mk (blk_below (g := gb230) (o := .cells #[.string t224, .string t225, .int .i64 t226, .slice Ao17 t227.length co17] 35 (0, 0)) (by (with_reducible repeat (first | refine blk_drewN ?_ _ | refine blk_drew ?_ | refine blk_alloc ?_ _)); refine blk_put (cs := #[.string t224, .string t225, .int .i64 t226, .slice none 0 0]) ?_ 3 _ rfl; (with_reducible repeat (first | refine blk_drewN ?_ _ | refine blk_drew ?_ | refine blk_alloc ?_ _)); refine blk_put (cs := #[.string t224, .string t225, .int .i64 0, .slice none 0 0]) ?_ 2 _ rfl; (with_reducible repeat (first | refine blk_drewN ?_ _ | refine blk_drew ?_ | refine blk_alloc ?_ _)); refine blk_put (cs := #[.string t224, .string (⟨#[]⟩ : ByteArray), .int .i64 0, .slice none 0 0]) ?_ 1 _ rfl; (with_reducible repeat (first | refine blk_drewN ?_ _ | refine blk_drew ?_ | refine blk_alloc ?_ _)); refine blk_put (cs := #[.string (⟨#[]⟩ : ByteArray), .string (⟨#[]⟩ : ByteArray), .int .i64 0, .slice none 0 0]) ?_ 0 _ rfl; (with_reducible repeat (first | refine blk_drewN ?_ _ | refine blk_drew ?_ | refine blk_alloc ?_ _)); exact BK230.out) hb); have n2_ := Aside0.mk (below_step (by repeat (first | (with_reducible first | exact HB.out | apply below_alloc | apply pw_below_drewN | apply below_drew1 | refine below_set ?_ GE230.out) | exact HB.out)) hb); clear HO229; clear BK230; clear HB; have HO229 := n0_; have BK230 := n1_; have HB := n2_; clear n0_ n1_ n2_; (try clear hb); (try clear hb2); (try clear hk); (try clear hi)))
    (try simp only [Act.put, List.setIfInBounds_toArray, List.set_cons_zero, List.set_cons_succ])
    go_cut [54] (fun v54 wc => ∃ (kq : Nat) (x54_11 : Bool), v54 = .bool x54_11 ∧ Aside0 (ostiarylaw13_HeadLengths.j1 kq a1 t222 t223 x54_11 t224 t225 t226 t227 = some r) ∧ Aside0 (kq ≤ kj3) ∧ Aside0 (Kd.R k52 52 wc w.heap.size (fun _ => True) (.slice Ao17 t227.length co17) t227) ∧ Aside0 (wc.heap[gb230]? = some (.cells #[.string t224, .string t225, .int .i64 t226, (.slice Ao17 t227.length co17)] 35 (0, 0))) ∧ Aside0 (Below w.heap.size w wc))
    case first =>
     have H := HC12.out
     clear HC12
     by_cases c19 : a0 ≤ 65535
     ·rw [if_pos c19] at H
      have c19b0 : decide (a0 ≤ 65535) = true := decide_eq_true c19
      clear c19
      (first | rw [c19b0] | (simp only [i64_w, i32_w]; rw [c19b0]) | skip)
      by_cases c20 : t231 = a0
      ·rw [if_pos c20] at H
       have c20b0 : (t231 == a0) = true := beq_iff_eq.mpr c20
       have c20b1 : (t231 != a0) = false := bne_eq_false_iff_eq.mpr c20
       clear c20
       by_cases c21 : t232 = 200
       ·rw [if_pos c21] at H
        have c21b0 : (t232 == 200) = true := beq_iff_eq.mpr c21
        have c21b1 : (t232 != 200) = false := bne_eq_false_iff_eq.mpr c21
        clear c21
        by_cases c22 : a0 > 65535
        ·rw [if_pos c22] at H
         have c22b0 : decide (65535 < a0) = true := decide_eq_true c22
         clear c22
         have H' := Aside0.mk H
         clear H
         go_wp2
         go_meet
         case rel => exact ⟨_, ((t232 != 413)), (by first | rfl | (simp; done) | (simp [*]; done)), H', ⟨by have := HJ3.out; first | omega | exact Nat.le_refl _⟩, ⟨by (with_reducible repeat (first | apply Kd.R_alloc | apply Kd.R_drewN | apply Kd.R_drew)); exact HO229.out⟩, ⟨by (with_reducible repeat (first | refine blk_drewN ?_ _ | refine blk_drew ?_ | refine blk_alloc ?_ _)); exact BK230.out⟩, ⟨by repeat (first | (with_reducible first | exact HB.out | apply below_alloc | apply pw_below_drewN | apply below_drew1 | refine below_set ?_ GE230.out) | exact HB.out)⟩⟩
        ·rw [if_neg c22] at H
         have c22b0 : decide (65535 < a0) = false := decide_eq_false c22
         clear c22
         have H' := Aside0.mk H
         clear H
         go_wp2
         go_meet
         case rel => exact ⟨_, (false), (by first | rfl | (simp; done) | (simp [*]; done)), H', ⟨by have := HJ3.out; first | omega | exact Nat.le_refl _⟩, ⟨by (with_reducible repeat (first | apply Kd.R_alloc | apply Kd.R_drewN | apply Kd.R_drew)); exact HO229.out⟩, ⟨by (with_reducible repeat (first | refine blk_drewN ?_ _ | refine blk_drew ?_ | refine blk_alloc ?_ _)); exact BK230.out⟩, ⟨by repeat (first | (with_reducible first | exact HB.out | apply below_alloc | apply pw_below_drewN | apply below_drew1 | refine below_set ?_ GE230.out) | exact HB.out)⟩⟩
       ·rw [if_neg c21] at H
        have c21b0 : (t232 == 200) = false := beq_eq_false_iff_ne.mpr c21
        have c21b1 : (t232 != 200) = true := bne_iff_ne.mpr c21
        have H' := Aside0.mk H
        clear H
        go_wp2
        go_meet
        case rel => exact ⟨_, (true), (by first | rfl | (simp; done) | (simp [*]; done)), H', ⟨by have := HJ3.out; first | omega | exact Nat.le_refl _⟩, ⟨by (with_reducible repeat (first | apply Kd.R_alloc | apply Kd.R_drewN | apply Kd.R_drew)); exact HO229.out⟩, ⟨by (with_reducible repeat (first | refine blk_drewN ?_ _ | refine blk_drew ?_ | refine blk_alloc ?_ _)); exact BK230.out⟩, ⟨by repeat (first | (with_reducible first | exact HB.out | apply below_alloc | apply pw_below_drewN | apply below_drew1 | refine below_set ?_ GE230.out) | exact HB.out)⟩⟩
      ·rw [if_neg c20] at H
       have c20b0 : (t231 == a0) = false := beq_eq_false_iff_ne.mpr c20
       have c20b1 : (t231 != a0) = true := bne_iff_ne.mpr c20
       have H' := Aside0.mk H
       clear H
       go_wp2
       go_meet
       case rel => exact ⟨_, (true), (by first | rfl | (simp; done) | (simp [*]; done)), H', ⟨by have := HJ3.out; first | omega | exact Nat.le_refl _⟩, ⟨by (with_reducible repeat (first | apply Kd.R_alloc | apply Kd.R_drewN | apply Kd.R_drew)); exact HO229.out⟩, ⟨by (with_reducible repeat (first | refine blk_drewN ?_ _ | refine blk_drew ?_ | refine blk_alloc ?_ _)); exact BK230.out⟩, ⟨by repeat (first | (with_reducible first | exact HB.out | apply below_alloc | apply pw_below_drewN | apply below_drew1 | refine below_set ?_ GE230.out) | exact HB.out)⟩⟩
     ·rw [if_neg c19] at H
      have c19b0 : decide (a0 ≤ 65535) = false := decide_eq_false c19
      clear c19
      (first | rw [c19b0] | (simp only [i64_w, i32_w]; rw [c19b0]) | skip)
      by_cases c23 : a0 > 65535
      ·rw [if_pos c23] at H
       have c23b0 : decide (65535 < a0) = true := decide_eq_true c23
       clear c23
       have H' := Aside0.mk H
       clear H
       go_wp2
       go_meet
       case rel => exact ⟨_, ((t232 != 413)), (by first | rfl | (simp; done) | (simp [*]; done)), H', ⟨by have := HJ3.out; first | omega | exact Nat.le_refl _⟩, ⟨by (with_reducible repeat (first | apply Kd.R_alloc | apply Kd.R_drewN | apply Kd.R_drew)); exact HO229.out⟩, ⟨by (with_reducible repeat (first | refine blk_drewN ?_ _ | refine blk_drew ?_ | refine blk_alloc ?_ _)); exact BK230.out⟩, ⟨by repeat (first | (with_reducible first | exact HB.out | apply below_alloc | apply pw_below_drewN | apply below_drew1 | refine below_set ?_ GE230.out) | exact HB.out)⟩⟩
      ·rw [if_neg c23] at H
       have c23b0 : decide (65535 < a0) = false := decide_eq_false c23
       clear c23
       have H' := Aside0.mk H
       clear H
       go_wp2
       go_meet
       case rel => exact ⟨_, (false), (by first | rfl | (simp; done) | (simp [*]; done)), H', ⟨by have := HJ3.out; first | omega | exact Nat.le_refl _⟩, ⟨by (with_reducible repeat (first | apply Kd.R_alloc | apply Kd.R_drewN | apply Kd.R_drew)); exact HO229.out⟩, ⟨by (with_reducible repeat (first | refine blk_drewN ?_ _ | refine blk_drew ?_ | refine blk_alloc ?_ _)); exact BK230.out⟩, ⟨by repeat (first | (with_reducible first | exact HB.out | apply below_alloc | apply pw_below_drewN | apply below_drew1 | refine below_set ?_ GE230.out) | exact HB.out)⟩⟩
    case rest =>
     clear HC12
     try clear c1
     try clear c2
     try clear p2
     try clear c3
     try clear c4
     try clear c5
     try clear c6
     try clear c6b0
     try clear c7
     try clear c7b0
     try clear c8
     try clear c9
     try clear c19
     try clear c19b0
     try clear c20
     try clear c20b0
     try clear c20b1
     try clear c21
     try clear c21b0
     try clear c21b1
     try clear c22
     try clear c22b0
     try clear c23
     try clear c23b0
     try clear hcz16_0
     try clear hcz16_1
     try clear hcz16_2
     try clear hcz16_3
     try clear hfz16_0
     try clear hfz16_1
     try clear hfz16_2
     try clear hfz16_3
     try clear p2
     obtain ⟨kq, x54_11, rfl, HA, HJ11, HO_231003, BK230, HB⟩ := hcut
     cases kq with
     | zero => exact absurd HA.out (by simp [ostiarylaw13_HeadLengths.j1])
     | succ kj11 =>
      have H := HA.out
      clear HA
      simp only [ostiarylaw13_HeadLengths.j1] at H
      by_cases c24 : x54_11 = true
      ·subst c24
       have H1 : (some false) = some r := by rw [if_pos rfl] at H; exact H
       clear H
       have H := H1
       clear H1
       obtain rfl := Option.some.inj H
       go_wp2
       go_ret
       exact ⟨by first | rfl | (simp [errW_none, errW_some] <;> rfl) | (simp [*, errW_none, errW_some] <;> rfl), by repeat (first | (with_reducible first | exact HB.out | apply below_alloc | apply pw_below_drewN | apply below_drew1 | refine below_set ?_ GE230.out) | exact HB.out)⟩
      ·replace c24 := Bool.eq_false_iff.mpr c24
       subst c24
       have H1 : (if t227.length < 4398046511104 then ((some (t227 ++ [(⟨(⟨#[67, 79, 78, 84, 69, 78, 84, 45, 108, 101, 110, 103, 116, 104]⟩ : ByteArray), a1⟩ : S52)] : List (S52))).bind fun y233 => ((head_Length.f kj11 t224 t225 t226 y233).bind fun bt236 => (if y233.length < 4398046511104 then ((head_Length.f kj11 t224 t225 t226 (y233 ++ [(⟨(⟨#[84, 114, 97, 110, 115, 102, 101, 114, 45, 69, 110, 99, 111, 100, 105, 110, 103]⟩ : ByteArray), (⟨#[105, 100, 101, 110, 116, 105, 116, 121]⟩ : ByteArray)⟩ : S52)])).bind fun bt241 => (if t222 = true then (if ((bt236.2 == 400) == (a1.toList != t223.toList)) = true then (some (bt241.2 == 501)) else (some false)) else (some false))) else (none)))) else (none)) = some r := by rw [if_neg (show ¬ (false = true) by decide)] at H; exact H
       clear H
       have H := H1
       clear H1
       by_cases c25 : t227.length < 4398046511104
       ·rw [if_pos c25] at H
        have LMc25 := Aside0.mk c25
        clear c25
        obtain ⟨y233, hy233⟩ : ∃ y_ : List (S52), y_ = (t227 ++ [(⟨(⟨#[67, 79, 78, 84, 69, 78, 84, 45, 108, 101, 110, 103, 116, 104]⟩ : ByteArray), a1⟩ : S52)]) := ⟨_, rfl⟩
        replace H : ((head_Length.f kj11 t224 t225 t226 y233).bind fun bt236 => (if y233.length < 4398046511104 then ((head_Length.f kj11 t224 t225 t226 (y233 ++ [(⟨(⟨#[84, 114, 97, 110, 115, 102, 101, 114, 45, 69, 110, 99, 111, 100, 105, 110, 103]⟩ : ByteArray), (⟨#[105, 100, 101, 110, 116, 105, 116, 121]⟩ : ByteArray)⟩ : S52)])).bind fun bt241 => (if t222 = true then (if ((bt236.2 == 400) == (a1.toList != t223.toList)) = true then (some (bt241.2 == 501)) else (some false)) else (some false))) else (none))) = some r := by first | (rw [hy233]; with_reducible exact H) | (have H2_ := (Option.bind_some _ _).symm.trans H; rw [hy233]; with_reducible exact H2_) | (have H2_ := (Option.bind_some _ _).symm.trans H; with_reducible exact H2_) | with_reducible exact H | (rw [hy233]; exact H) | exact H
        have Ny233 := Aside0.mk hy233
        clear hy233
        replace H := Option.bind_eq_some_iff.mp H
        obtain ⟨⟨t236, t237⟩, A260, H⟩ := H
        replace H : (if y233.length < 4398046511104 then ((head_Length.f kj11 t224 t225 t226 (y233 ++ [(⟨(⟨#[84, 114, 97, 110, 115, 102, 101, 114, 45, 69, 110, 99, 111, 100, 105, 110, 103]⟩ : ByteArray), (⟨#[105, 100, 101, 110, 116, 105, 116, 121]⟩ : ByteArray)⟩ : S52)])).bind fun bt241 => (if t222 = true then (if ((t237 == 400) == (a1.toList != t223.toList)) = true then (some (bt241.2 == 501)) else (some false)) else (some false))) else (none)) = some r := H
        have A26 := Aside0.mk A260
        clear A260
        by_cases c27 : y233.length < 4398046511104
        ·rw [if_pos c27] at H
         have LMc27 := Aside0.mk c27
         clear c27
         obtain ⟨y238, hy238⟩ : ∃ y_ : List (S52), y_ = (y233 ++ [(⟨(⟨#[84, 114, 97, 110, 115, 102, 101, 114, 45, 69, 110, 99, 111, 100, 105, 110, 103]⟩ : ByteArray), (⟨#[105, 100, 101, 110, 116, 105, 116, 121]⟩ : ByteArray)⟩ : S52)]) := ⟨_, rfl⟩
         replace H : ((head_Length.f kj11 t224 t225 t226 y238).bind fun bt241 => (if t222 = true then (if ((t237 == 400) == (a1.toList != t223.toList)) = true then (some (bt241.2 == 501)) else (some false)) else (some false))) = some r := by first | (rw [hy238]; with_reducible exact H) | (have H2_ := (Option.bind_some _ _).symm.trans H; rw [hy238]; with_reducible exact H2_) | (have H2_ := (Option.bind_some _ _).symm.trans H; with_reducible exact H2_) | with_reducible exact H | (rw [hy238]; exact H) | exact H
         have Ny238 := Aside0.mk hy238
         clear hy238
         replace H := Option.bind_eq_some_iff.mp H
         obtain ⟨⟨t241, t242⟩, A280, H⟩ := H
         replace H : (if t222 = true then (if ((t237 == 400) == (a1.toList != t223.toList)) = true then (some (t242 == 501)) else (some false)) else (some false)) = some r := H
         have A28 := Aside0.mk A280
         clear A280
         by_cases c29 : t222 = true
         ·subst c29
          have H1 : (if ((t237 == 400) == (a1.toList != t223.toList)) = true then (some (t242 == 501)) else (some false)) = some r := by rw [if_pos rfl] at H; exact H
          clear H
          have H := H1
          clear H1
          by_cases c30 : ((t237 == 400) == (a1.toList != t223.toList)) = true
          ·rw [if_pos c30] at H
           have c30b0 : ((t237 == 400) == (a1.toList != t223.toList)) = true := c30
           have c30b9 : ((t237 == 400) = !(a1.toList == t223.toList)) := by simpa [bne] using c30
           (try (have c30b1 : decide ((t237 == 400) = (a1.toList != t223.toList)) = true := by simpa using c30))
           (try (have c30b2 : ((t237 == 400) == (a1.toList != t223.toList)) = true := by simpa using c30))
           clear c30
           obtain rfl := Option.some.inj H
           have hcz31_0 : wc.cell? ⟨gb230, 0, none⟩ = some (.string t224) := (blk_cell BK230.out 0).trans rfl
           have hcz31_1 : wc.cell? ⟨gb230, 1, none⟩ = some (.string t225) := (blk_cell BK230.out 1).trans rfl
           have hcz31_2 : wc.cell? ⟨gb230, 2, none⟩ = some (.int .i64 t226) := (blk_cell BK230.out 2).trans rfl
           have hcz31_3 : wc.cell? ⟨gb230, 3, none⟩ = some (.slice Ao17 t227.length co17) := (blk_cell BK230.out 3).trans rfl
           have hfz31_0 := blk_frozen BK230.out 0
           have hfz31_1 := blk_frozen BK230.out 1
           have hfz31_2 := blk_frozen BK230.out 2
           have hfz31_3 := blk_frozen BK230.out 3
           go_wp2_with (first | ((with_reducible refine gate_builtin (b := .append) (xs := #[.tmp 56, .tmp 59]) rfl ?_); (try (refine gate_guard (by rfl) ?_; dsimp only)); at_builtin; refine Kd.R_append k52 (w0 := w) w.heap.size rfl (.tmp 56) (.tmp 59) 33 52 (.agg #[(.string ⟨#[]⟩), (.string ⟨#[]⟩)]) 32 rfl Tryz.underlying33 info52 rfl (by decide) (by omega) (.slice Ao17 t227.length co17) t227 (⟨(⟨#[67, 79, 78, 84, 69, 78, 84, 45, 108, 101, 110, 103, 116, 104]⟩ : ByteArray), a1⟩ : S52) [.string (⟨#[67, 79, 78, 84, 69, 78, 84, 45, 108, 101, 110, 103, 116, 104]⟩ : ByteArray), .string a1] (fun _ => True) (fun _ => False) rfl rfl ?aP (fun _ hk => hk.elim) ?aF ?aO ?aB ?aS ?aL ?_; (case aP => exact k52_mkM _ _ _ (⟨(⟨#[67, 79, 78, 84, 69, 78, 84, 45, 108, 101, 110, 103, 116, 104]⟩ : ByteArray), a1⟩ : S52)); (case aB => exact (by repeat (first | (with_reducible first | exact HB.out | apply below_alloc | apply pw_below_drewN | apply below_drew1 | refine below_set ?_ GE230.out) | exact HB.out))); (case aF => exact (fun _ _ => trivial)); (case aO => exact (by (with_reducible repeat (first | apply Kd.R_alloc | apply Kd.R_drewN | apply Kd.R_drew)); exact HO_231003.out)); (case aS => exact (below_size (by repeat (first | (with_reducible first | exact HB.out | apply below_alloc | apply pw_below_drewN | apply below_drew1 | refine below_set ?_ GE230.out) | exact HB.out)))); (case aL => have := LMc25.out; omega); intro v234 w32 ho hb hg hat; rw [← Ny233.out] at ho; have n0_ := Aside0.mk (blk_grown (g := gb230) (o := .cells #[.string t224, .string t225, .int .i64 t226, .slice Ao17 t227.length co17] 35 (0, 0)) (by (with_reducible repeat (first | refine blk_drewN ?_ _ | refine blk_drew ?_ | refine blk_alloc ?_ _)); exact BK230.out) hg (Kd.R_ne HO_231003.out BK230.out (by decide))); have n1_ := Aside0.mk (hb); have n2_ := Aside0.mk (ho); clear BK230; clear HB; clear HO_231003; have BK230 := n0_; have HB := n1_; have HO235 := n2_; clear n0_ n1_ n2_; clear ho hb hg hat; obtain ⟨Ao33, co33, eo33⟩ := Kd.R_slice HO235.out; subst eo33; have hcz34_0 : w32.cell? ⟨gb230, 0, none⟩ = some (.string t224) := (blk_cell BK230.out 0).trans rfl; have hcz34_1 : w32.cell? ⟨gb230, 1, none⟩ = some (.string t225) := (blk_cell BK230.out 1).trans rfl; have hcz34_2 : w32.cell? ⟨gb230, 2, none⟩ = some (.int .i64 t226) := (blk_cell BK230.out 2).trans rfl; have hcz34_3 : w32.cell? ⟨gb230, 3, none⟩ = some (.slice Ao17 t227.length co17) := (blk_cell BK230.out 3).trans rfl; have hfz34_0 := blk_frozen BK230.out 0; have hfz34_1 := blk_frozen BK230.out 1; have hfz34_2 := blk_frozen BK230.out 2; have hfz34_3 := blk_frozen BK230.out 3) | ((with_reducible refine gate_callee (f := 50) rfl ?_); refine goesL_ (some 64) rfl rfl Tryz.func50 (by kernel_rfl) rfl #[.agg #[.string t224, .string t225, .int .i64 t226, .slice Ao33 y233.length co33]] rfl (by (try simp only [List.map_toArray, List.map_cons, List.map_nil]); first | done | rfl | (simp only [List.length_drop, List.length_take]; rfl)) ?_; (with_reducible refine (head_Length.calls kj11 t224 t225 t226 _ _ y233 t236 t237 _ ?side1 ?side2 A26.out).mono ?_); (case side1 => refine (Kd.R_reads' (e := 52) (base := w.heap.size) (ok := fun k_ => True) (n := y233.length) (c := co33) ?_).2.2; exact (by (with_reducible repeat (first | apply Kd.R_alloc | apply Kd.R_drewN | apply Kd.R_drew)); exact (Kd.R_mono (Kd.R_far (p := ⟨gb230, 3, none⟩) (Kd.R_types HO235.out BK230.out (by decide)) (fun _ hk => hk.2) (.slice Ao33 y233.length co33)) (fun _ h_ => h_.1)))); (case side2 => exact (Kd.R_reads' HO235.out).2.1); rintro e w35 ⟨rfl, hb⟩; refine ⟨_, rfl, ?_⟩; have n0_ := Aside0.mk (Kd.R_below (by (with_reducible repeat (first | apply Kd.R_alloc | apply Kd.R_drewN | apply Kd.R_drew)); exact (Kd.R_mono (Kd.R_far (p := ⟨gb230, 3, none⟩) (Kd.R_types HO235.out BK230.out (by decide)) (fun _ hk => hk.2) (.slice Ao33 y233.length co33)) (fun _ h_ => h_.1))) hb); have n1_ := Aside0.mk (blk_below (g := gb230) (o := .cells #[.string t224, .string t225, .int .i64 t226, .slice Ao33 y233.length co33] 35 (0, 0)) (by (with_reducible repeat (first | refine blk_drewN ?_ _ | refine blk_drew ?_ | refine blk_alloc ?_ _)); refine blk_put (cs := #[.string t224, .string t225, .int .i64 t226, .slice Ao17 t227.length co17]) ?_ 3 _ rfl; (with_reducible repeat (first | refine blk_drewN ?_ _ | refine blk_drew ?_ | refine blk_alloc ?_ _)); exact BK230.out) hb); have n2_ := Aside0.mk (below_step (by repeat (first | (with_reducible first | exact HB.out | apply below_alloc | apply pw_below_drewN | apply below_drew1 | refine below_set ?_ GE230.out) | exact HB.out)) hb); clear HO235; clear BK230; clear HB; have HO235 := n0_; have BK230 := n1_; have HB := n2_; clear n0_ n1_ n2_; (try clear hb); (try clear hb2); (try clear hk); (try clear hi); have hcz36_0 : w35.cell? ⟨gb230, 0, none⟩ = some (.string t224) := (blk_cell BK230.out 0).trans rfl; have hcz36_1 : w35.cell? ⟨gb230, 1, none⟩ = some (.string t225) := (blk_cell BK230.out 1).trans rfl; have hcz36_2 : w35.cell? ⟨gb230, 2, none⟩ = some (.int .i64 t226) := (blk_cell BK230.out 2).trans rfl; have hcz36_3 : w35.cell? ⟨gb230, 3, none⟩ = some (.slice Ao33 y233.length co33) := (blk_cell BK230.out 3).trans rfl; have hfz36_0 := blk_frozen BK230.out 0; have hfz36_1 := blk_frozen BK230.out 1; have hfz36_2 := blk_frozen BK230.out 2; have hfz36_3 := blk_frozen BK230.out 3) | ((with_reducible refine gate_builtin (b := .append) (xs := #[.tmp 68, .tmp 70]) rfl ?_); (try (refine gate_guard (by rfl) ?_; dsimp only)); at_builtin; refine Kd.R_append k52 (w0 := w) w.heap.size rfl (.tmp 68) (.tmp 70) 33 52 (.agg #[(.string ⟨#[]⟩), (.string ⟨#[]⟩)]) 32 rfl Tryz.underlying33 info52 rfl (by decide) (by omega) (.slice Ao33 y233.length co33) y233 (⟨(⟨#[84, 114, 97, 110, 115, 102, 101, 114, 45, 69, 110, 99, 111, 100, 105, 110, 103]⟩ : ByteArray), (⟨#[105, 100, 101, 110, 116, 105, 116, 121]⟩ : ByteArray)⟩ : S52) [.string (⟨#[84, 114, 97, 110, 115, 102, 101, 114, 45, 69, 110, 99, 111, 100, 105, 110, 103]⟩ : ByteArray), .string (⟨#[105, 100, 101, 110, 116, 105, 116, 121]⟩ : ByteArray)] (fun _ => True) (fun _ => False) rfl rfl ?aP (fun _ hk => hk.elim) ?aF ?aO ?aB ?aS ?aL ?_; (case aP => exact k52_mkM _ _ _ (⟨(⟨#[84, 114, 97, 110, 115, 102, 101, 114, 45, 69, 110, 99, 111, 100, 105, 110, 103]⟩ : ByteArray), (⟨#[105, 100, 101, 110, 116, 105, 116, 121]⟩ : ByteArray)⟩ : S52)); (case aB => exact (by repeat (first | (with_reducible first | exact HB.out | apply below_alloc | apply pw_below_drewN | apply below_drew1 | refine below_set ?_ GE230.out) | exact HB.out))); (case aF => exact (fun _ _ => trivial)); (case aO => exact (by (with_reducible repeat (first | apply Kd.R_alloc | apply Kd.R_drewN | apply Kd.R_drew)); exact HO235.out)); (case aS => exact (below_size (by repeat (first | (with_reducible first | exact HB.out | apply below_alloc | apply pw_below_drewN | apply below_drew1 | refine below_set ?_ GE230.out) | exact HB.out)))); (case aL => have := LMc27.out; omega); intro v239 w37 ho hb hg hat; rw [← Ny238.out] at ho; have n0_ := Aside0.mk (blk_grown (g := gb230) (o := .cells #[.string t224, .string t225, .int .i64 t226, .slice Ao33 y233.length co33] 35 (0, 0)) (by (with_reducible repeat (first | refine blk_drewN ?_ _ | refine blk_drew ?_ | refine blk_alloc ?_ _)); exact BK230.out) hg (Kd.R_ne HO235.out BK230.out (by decide))); have n1_ := Aside0.mk (hb); have n2_ := Aside0.mk (ho); clear BK230; clear HB; clear HO235; have BK230 := n0_; have HB := n1_; have HO240 := n2_; clear n0_ n1_ n2_; clear ho hb hg hat; obtain ⟨Ao38, co38, eo38⟩ := Kd.R_slice HO240.out; subst eo38; have hcz39_0 : w37.cell? ⟨gb230, 0, none⟩ = some (.string t224) := (blk_cell BK230.out 0).trans rfl; have hcz39_1 : w37.cell? ⟨gb230, 1, none⟩ = some (.string t225) := (blk_cell BK230.out 1).trans rfl; have hcz39_2 : w37.cell? ⟨gb230, 2, none⟩ = some (.int .i64 t226) := (blk_cell BK230.out 2).trans rfl; have hcz39_3 : w37.cell? ⟨gb230, 3, none⟩ = some (.slice Ao33 y233.length co33) := (blk_cell BK230.out 3).trans rfl; have hfz39_0 := blk_frozen BK230.out 0; have hfz39_1 := blk_frozen BK230.out 1; have hfz39_2 := blk_frozen BK230.out 2; have hfz39_3 := blk_frozen BK230.out 3) | ((with_reducible refine gate_callee (f := 50) rfl ?_); refine goesL_ (some 75) rfl rfl Tryz.func50 (by kernel_rfl) rfl #[.agg #[.string t224, .string t225, .int .i64 t226, .slice Ao38 y238.length co38]] rfl (by (try simp only [List.map_toArray, List.map_cons, List.map_nil]); first | done | rfl | (simp only [List.length_drop, List.length_take]; rfl)) ?_; (with_reducible refine (head_Length.calls kj11 t224 t225 t226 _ _ y238 t241 t242 _ ?side1 ?side2 A28.out).mono ?_); (case side1 => refine (Kd.R_reads' (e := 52) (base := w.heap.size) (ok := fun k_ => True) (n := y238.length) (c := co38) ?_).2.2; exact (by (with_reducible repeat (first | apply Kd.R_alloc | apply Kd.R_drewN | apply Kd.R_drew)); exact (Kd.R_mono (Kd.R_far (p := ⟨gb230, 3, none⟩) (Kd.R_types HO240.out BK230.out (by decide)) (fun _ hk => hk.2) (.slice Ao38 y238.length co38)) (fun _ h_ => h_.1)))); (case side2 => exact (Kd.R_reads' HO240.out).2.1); rintro e w40 ⟨rfl, hb⟩; refine ⟨_, rfl, ?_⟩; have n0_ := Aside0.mk (Kd.R_below (by (with_reducible repeat (first | apply Kd.R_alloc | apply Kd.R_drewN | apply Kd.R_drew)); exact (Kd.R_mono (Kd.R_far (p := ⟨gb230, 3, none⟩) (Kd.R_types HO240.out BK230.out (by decide)) (fun _ hk => hk.2) (.slice Ao38 y238.length co38)) (fun _ h_ => h_.1))) hb); have n1_ := Aside0.mk (blk_below (g := gb230) (o := .cells #[.string t224, .string t225, .int .i64 t226, .slice Ao38 y238.length co38] 35 (0, 0)) (by (with_reducible repeat (first | refine blk_drewN ?_ _ | refine blk_drew ?_ | refine blk_alloc ?_ _)); refine blk_put (cs := #[.string t224, .string t225, .int .i64 t226, .slice Ao33 y233.length co33]) ?_ 3 _ rfl; (with_reducible repeat (first | refine blk_drewN ?_ _ | refine blk_drew ?_ | refine blk_alloc ?_ _)); exact BK230.out) hb); have n2_ := Aside0.mk (below_step (by repeat (first | (with_reducible first | exact HB.out | apply below_alloc | apply pw_below_drewN | apply below_drew1 | refine below_set ?_ GE230.out) | exact HB.out)) hb); clear HO240; clear BK230; clear HB; have HO240 := n0_; have BK230 := n1_; have HB := n2_; clear n0_ n1_ n2_; (try clear hb); (try clear hb2); (try clear hk); (try clear hi)))
           go_ret
           exact ⟨by first | rfl | (simp [errW_none, errW_some] <;> rfl) | (simp [*, errW_none, errW_some] <;> rfl), by repeat (first | (with_reducible first | exact HB.out | apply below_alloc | apply pw_below_drewN | apply below_drew1 | refine below_set ?_ GE230.out) | exact HB.out)⟩
          ·rw [if_neg c30] at H
           have c30b0 : ((t237 == 400) == (a1.toList != t223.toList)) = false := by simpa using c30
           have c30b9 : ¬ ((t237 == 400) = !(a1.toList == t223.toList)) := by simpa [bne] using c30
           (try (have c30b1 : decide ((t237 == 400) = (a1.toList != t223.toList)) = false := by simpa using c30))
           (try (have c30b2 : ((t237 == 400) == (a1.toList != t223.toList)) = false := by simpa using c30))
           (try (have c30b3 : ¬ ((t237 == 400) = (a1.toList != t223.toList)) := by simpa using c30))
           clear c30
           obtain rfl := Option.some.inj H
           have hcz41_0 : wc.cell? ⟨gb230, 0, none⟩ = some (.string t224) := (blk_cell BK230.out 0).trans rfl
           have hcz41_1 : wc.cell? ⟨gb230, 1, none⟩ = some (.string t225) := (blk_cell BK230.out 1).trans rfl
           have hcz41_2 : wc.cell? ⟨gb230, 2, none⟩ = some (.int .i64 t226) := (blk_cell BK230.out 2).trans rfl
           have hcz41_3 : wc.cell? ⟨gb230, 3, none⟩ = some (.slice Ao17 t227.length co17) := (blk_cell BK230.out 3).trans rfl
           have hfz41_0 := blk_frozen BK230.out 0
           have hfz41_1 := blk_frozen BK230.out 1
           have hfz41_2 := blk_frozen BK230.out 2
           have hfz41_3 := blk_frozen BK230.out 3
           go_wp2_with (first | ((with_reducible refine gate_builtin (b := .append) (xs := #[.tmp 56, .tmp 59]) rfl ?_); (try (refine gate_guard (by rfl) ?_; dsimp only)); at_builtin; refine Kd.R_append k52 (w0 := w) w.heap.size rfl (.tmp 56) (.tmp 59) 33 52 (.agg #[(.string ⟨#[]⟩), (.string ⟨#[]⟩)]) 32 rfl Tryz.underlying33 info52 rfl (by decide) (by omega) (.slice Ao17 t227.length co17) t227 (⟨(⟨#[67, 79, 78, 84, 69, 78, 84, 45, 108, 101, 110, 103, 116, 104]⟩ : ByteArray), a1⟩ : S52) [.string (⟨#[67, 79, 78, 84, 69, 78, 84, 45, 108, 101, 110, 103, 116, 104]⟩ : ByteArray), .string a1] (fun _ => True) (fun _ => False) rfl rfl ?aP (fun _ hk => hk.elim) ?aF ?aO ?aB ?aS ?aL ?_; (case aP => exact k52_mkM _ _ _ (⟨(⟨#[67, 79, 78, 84, 69, 78, 84, 45, 108, 101, 110, 103, 116, 104]⟩ : ByteArray), a1⟩ : S52)); (case aB => exact (by repeat (first | (with_reducible first | exact HB.out | apply below_alloc | apply pw_below_drewN | apply below_drew1 | refine below_set ?_ GE230.out) | exact HB.out))); (case aF => exact (fun _ _ => trivial)); (case aO => exact (by (with_reducible repeat (first | apply Kd.R_alloc | apply Kd.R_drewN | apply Kd.R_drew)); exact HO_231003.out)); (case aS => exact (below_size (by repeat (first | (with_reducible first | exact HB.out | apply below_alloc | apply pw_below_drewN | apply below_drew1 | refine below_set ?_ GE230.out) | exact HB.out)))); (case aL => have := LMc25.out; omega); intro v234 w42 ho hb hg hat; rw [← Ny233.out] at ho; have n0_ := Aside0.mk (blk_grown (g := gb230) (o := .cells #[.string t224, .string t225, .int .i64 t226, .slice Ao17 t227.length co17] 35 (0, 0)) (by (with_reducible repeat (first | refine blk_drewN ?_ _ | refine blk_drew ?_ | refine blk_alloc ?_ _)); exact BK230.out) hg (Kd.R_ne HO_231003.out BK230.out (by decide))); have n1_ := Aside0.mk (hb); have n2_ := Aside0.mk (ho); clear BK230; clear HB; clear HO_231003; have BK230 := n0_; have HB := n1_; have HO235 := n2_; clear n0_ n1_ n2_; clear ho hb hg hat; obtain ⟨Ao43, co43, eo43⟩ := Kd.R_slice HO235.out; subst eo43; have hcz44_0 : w42.cell? ⟨gb230, 0, none⟩ = some (.string t224) := (blk_cell BK230.out 0).trans rfl; have hcz44_1 : w42.cell? ⟨gb230, 1, none⟩ = some (.string t225) := (blk_cell BK230.out 1).trans rfl; have hcz44_2 : w42.cell? ⟨gb230, 2, none⟩ = some (.int .i64 t226) := (blk_cell BK230.out 2).trans rfl; have hcz44_3 : w42.cell? ⟨gb230, 3, none⟩ = some (.slice Ao17 t227.length co17) := (blk_cell BK230.out 3).trans rfl; have hfz44_0 := blk_frozen BK230.out 0; have hfz44_1 := blk_frozen BK230.out 1; have hfz44_2 := blk_frozen BK230.out 2; have hfz44_3 := blk_frozen BK230.out 3) | ((with_reducible refine gate_callee (f := 50) rfl ?_); refine goesL_ (some 64) rfl rfl Tryz.func50 (by kernel_rfl) rfl #[.agg #[.string t224, .string t225, .int .i64 t226, .slice Ao43 y233.length co43]] rfl (by (try simp only [List.map_toArray, List.map_cons, List.map_nil]); first | done | rfl | (simp only [List.length_drop, List.length_take]; rfl)) ?_; (with_reducible refine (head_Length.calls kj11 t224 t225 t226 _ _ y233 t236 t237 _ ?side1 ?side2 A26.out).mono ?_); (case side1 => refine (Kd.R_reads' (e := 52) (base := w.heap.size) (ok := fun k_ => True) (n := y233.length) (c := co43) ?_).2.2; exact (by (with_reducible repeat (first | apply Kd.R_alloc | apply Kd.R_drewN | apply Kd.R_drew)); exact (Kd.R_mono (Kd.R_far (p := ⟨gb230, 3, none⟩) (Kd.R_types HO235.out BK230.out (by decide)) (fun _ hk => hk.2) (.slice Ao43 y233.length co43)) (fun _ h_ => h_.1)))); (case side2 => exact (Kd.R_reads' HO235.out).2.1); rintro e w45 ⟨rfl, hb⟩; refine ⟨_, rfl, ?_⟩; have n0_ := Aside0.mk (Kd.R_below (by (with_reducible repeat (first | apply Kd.R_alloc | apply Kd.R_drewN | apply Kd.R_drew)); exact (Kd.R_mono (Kd.R_far (p := ⟨gb230, 3, none⟩) (Kd.R_types HO235.out BK230.out (by decide)) (fun _ hk => hk.2) (.slice Ao43 y233.length co43)) (fun _ h_ => h_.1))) hb); have n1_ := Aside0.mk (blk_below (g := gb230) (o := .cells #[.string t224, .string t225, .int .i64 t226, .slice Ao43 y233.length co43] 35 (0, 0)) (by (with_reducible repeat (first | refine blk_drewN ?_ _ | refine blk_drew ?_ | refine blk_alloc ?_ _)); refine blk_put (cs := #[.string t224, .string t225, .int .i64 t226, .slice Ao17 t227.length co17]) ?_ 3 _ rfl; (with_reducible repeat (first | refine blk_drewN ?_ _ | refine blk_drew ?_ | refine blk_alloc ?_ _)); exact BK230.out) hb); have n2_ := Aside0.mk (below_step (by repeat (first | (with_reducible first | exact HB.out | apply below_alloc | apply pw_below_drewN | apply below_drew1 | refine below_set ?_ GE230.out) | exact HB.out)) hb); clear HO235; clear BK230; clear HB; have HO235 := n0_; have BK230 := n1_; have HB := n2_; clear n0_ n1_ n2_; (try clear hb); (try clear hb2); (try clear hk); (try clear hi); have hcz46_0 : w45.cell? ⟨gb230, 0, none⟩ = some (.string t224) := (blk_cell BK230.out 0).trans rfl; have hcz46_1 : w45.cell? ⟨gb230, 1, none⟩ = some (.string t225) := (blk_cell BK230.out 1).trans rfl; have hcz46_2 : w45.cell? ⟨gb230, 2, none⟩ = some (.int .i64 t226) := (blk_cell BK230.out 2).trans rfl; have hcz46_3 : w45.cell? ⟨gb230, 3, none⟩ = some (.slice Ao43 y233.length co43) := (blk_cell BK230.out 3).trans rfl; have hfz46_0 := blk_frozen BK230.out 0; have hfz46_1 := blk_frozen BK230.out 1; have hfz46_2 := blk_frozen BK230.out 2; have hfz46_3 := blk_frozen BK230.out 3) | ((with_reducible refine gate_builtin (b := .append) (xs := #[.tmp 68, .tmp 70]) rfl ?_); (try (refine gate_guard (by rfl) ?_; dsimp only)); at_builtin; refine Kd.R_append k52 (w0 := w) w.heap.size rfl (.tmp 68) (.tmp 70) 33 52 (.agg #[(.string ⟨#[]⟩), (.string ⟨#[]⟩)]) 32 rfl Tryz.underlying33 info52 rfl (by decide) (by omega) (.slice Ao43 y233.length co43) y233 (⟨(⟨#[84, 114, 97, 110, 115, 102, 101, 114, 45, 69, 110, 99, 111, 100, 105, 110, 103]⟩ : ByteArray), (⟨#[105, 100, 101, 110, 116, 105, 116, 121]⟩ : ByteArray)⟩ : S52) [.string (⟨#[84, 114, 97, 110, 115, 102, 101, 114, 45, 69, 110, 99, 111, 100, 105, 110, 103]⟩ : ByteArray), .string (⟨#[105, 100, 101, 110, 116, 105, 116, 121]⟩ : ByteArray)] (fun _ => True) (fun _ => False) rfl rfl ?aP (fun _ hk => hk.elim) ?aF ?aO ?aB ?aS ?aL ?_; (case aP => exact k52_mkM _ _ _ (⟨(⟨#[84, 114, 97, 110, 115, 102, 101, 114, 45, 69, 110, 99, 111, 100, 105, 110, 103]⟩ : ByteArray), (⟨#[105, 100, 101, 110, 116, 105, 116, 121]⟩ : ByteArray)⟩ : S52)); (case aB => exact (by repeat (first | (with_reducible first | exact HB.out | apply below_alloc | apply pw_below_drewN | apply below_drew1 | refine below_set ?_ GE230.out) | exact HB.out))); (case aF => exact (fun _ _ => trivial)); (case aO => exact (by (with_reducible repeat (first | apply Kd.R_alloc | apply Kd.R_drewN | apply Kd.R_drew)); exact HO235.out)); (case aS => exact (below_size (by repeat (first | (with_reducible first | exact HB.out | apply below_alloc | apply pw_below_drewN | apply below_drew1 | refine below_set ?_ GE230.out) | exact HB.out)))); (case aL => have := LMc27.out; omega); intro v239 w47 ho hb hg hat; rw [← Ny238.out] at ho; have n0_ := Aside0.mk (blk_grown (g := gb230) (o := .cells #[.string t224, .string t225, .int .i64 t226, .slice Ao43 y233.length co43] 35 (0, 0)) (by (with_reducible repeat (first | refine blk_drewN ?_ _ | refine blk_drew ?_ | refine blk_alloc ?_ _)); exact BK230.out) hg (Kd.R_ne HO235.out BK230.out (by decide))); have n1_ := Aside0.mk (hb); have n2_ := Aside0.mk (ho); clear BK230; clear HB; clear HO235; have BK230 := n0_; have HB := n1_; have HO240 := n2_; clear n0_ n1_ n2_; clear ho hb hg hat; obtain ⟨Ao48, co48, eo48⟩ := Kd.R_slice HO240.out; subst eo48; have hcz49_0 : w47.cell? ⟨gb230, 0, none⟩ = some (.string t224) := (blk_cell BK230.out 0).trans rfl; have hcz49_1 : w47.cell? ⟨gb230, 1, none⟩ = some (.string t225) := (blk_cell BK230.out 1).trans rfl; have hcz49_2 : w47.cell? ⟨gb230, 2, none⟩ = some (.int .i64 t226) := (blk_cell BK230.out 2).trans rfl; have hcz49_3 : w47.cell? ⟨gb230, 3, none⟩ = some (.slice Ao43 y233.length co43) := (blk_cell BK230.out 3).trans rfl; have hfz49_0 := blk_frozen BK230.out 0; have hfz49_1 := blk_frozen BK230.out 1; have hfz49_2 := blk_frozen BK230.out 2; have hfz49_3 := blk_frozen BK230.out 3) | ((with_reducible refine gate_callee (f := 50) rfl ?_); refine goesL_ (some 75) rfl rfl Tryz.func50 (by kernel_rfl) rfl #[.agg #[.string t224, .string t225, .int .i64 t226, .slice Ao48 y238.length co48]] rfl (by (try simp only [List.map_toArray, List.map_cons, List.map_nil]); first | done | rfl | (simp only [List.length_drop, List.length_take]; rfl)) ?_; (with_reducible refine (head_Length.calls kj11 t224 t225 t226 _ _ y238 t241 t242 _ ?side1 ?side2 A28.out).mono ?_); (case side1 => refine (Kd.R_reads' (e := 52) (base := w.heap.size) (ok := fun k_ => True) (n := y238.length) (c := co48) ?_).2.2; exact (by (with_reducible repeat (first | apply Kd.R_alloc | apply Kd.R_drewN | apply Kd.R_drew)); exact (Kd.R_mono (Kd.R_far (p := ⟨gb230, 3, none⟩) (Kd.R_types HO240.out BK230.out (by decide)) (fun _ hk => hk.2) (.slice Ao48 y238.length co48)) (fun _ h_ => h_.1)))); (case side2 => exact (Kd.R_reads' HO240.out).2.1); rintro e w50 ⟨rfl, hb⟩; refine ⟨_, rfl, ?_⟩; have n0_ := Aside0.mk (Kd.R_below (by (with_reducible repeat (first | apply Kd.R_alloc | apply Kd.R_drewN | apply Kd.R_drew)); exact (Kd.R_mono (Kd.R_far (p := ⟨gb230, 3, none⟩) (Kd.R_types HO240.out BK230.out (by decide)) (fun _ hk => hk.2) (.slice Ao48 y238.length co48)) (fun _ h_ => h_.1))) hb); have n1_ := Aside0.mk (blk_below (g := gb230) (o := .cells #[.string t224, .string t225, .int .i64 t226, .slice Ao48 y238.length co48] 35 (0, 0)) (by (with_reducible repeat (first | refine blk_drewN ?_ _ | refine blk_drew ?_ | refine blk_alloc ?_ _)); refine blk_put (cs := #[.string t224, .string t225, .int .i64 t226, .slice Ao43 y233.length co43]) ?_ 3 _ rfl; (with_reducible repeat (first | refine blk_drewN ?_ _ | refine blk_drew ?_ | refine blk_alloc ?_ _)); exact BK230.out) hb); have n2_ := Aside0.mk (below_step (by repeat (first | (with_reducible first | exact HB.out | apply below_alloc | apply pw_below_drewN | apply below_drew1 | refine below_set ?_ GE230.out) | exact HB.out)) hb); clear HO240; clear BK230; clear HB; have HO240 := n0_; have BK230 := n1_; have HB := n2_; clear n0_ n1_ n2_; (try clear hb); (try clear hb2); (try clear hk); (try clear hi)))
           go_ret
           exact ⟨by first | rfl | (simp [errW_none, errW_some] <;> rfl) | (simp [*, errW_none, errW_some] <;> rfl), by repeat (first | (with_reducible first | exact HB.out | apply below_alloc | apply pw_below_drewN | apply below_drew1 | refine below_set ?_ GE230.out) | exact HB.out)⟩
         ·replace c29 := Bool.eq_false_iff.mpr c29
          subst c29
          have H1 : (some false) = some r := by rw [if_neg (show ¬ (false = true) by decide)] at H; exact H
          clear H
          have H := H1
          clear H1
          obtain rfl := Option.some.inj H
          have hcz51_0 : wc.cell? ⟨gb230, 0, none⟩ = some (.string t224) := (blk_cell BK230.out 0).trans rfl
          have hcz51_1 : wc.cell? ⟨gb230, 1, none⟩ = some (.string t225) := (blk_cell BK230.out 1).trans rfl
          have hcz51_2 : wc.cell? ⟨gb230, 2, none⟩ = some (.int .i64 t226) := (blk_cell BK230.out 2).trans rfl
          have hcz51_3 : wc.cell? ⟨gb230, 3, none⟩ = some (.slice Ao17 t227.length co17) := (blk_cell BK230.out 3).trans rfl
          have hfz51_0 := blk_frozen BK230.out 0
          have hfz51_1 := blk_frozen BK230.out 1
          have hfz51_2 := blk_frozen BK230.out 2
          have hfz51_3 := blk_frozen BK230.out 3
          go_wp2_with (first | ((with_reducible refine gate_builtin (b := .append) (xs := #[.tmp 56, .tmp 59]) rfl ?_); (try (refine gate_guard (by rfl) ?_; dsimp only)); at_builtin; refine Kd.R_append k52 (w0 := w) w.heap.size rfl (.tmp 56) (.tmp 59) 33 52 (.agg #[(.string ⟨#[]⟩), (.string ⟨#[]⟩)]) 32 rfl Tryz.underlying33 info52 rfl (by decide) (by omega) (.slice Ao17 t227.length co17) t227 (⟨(⟨#[67, 79, 78, 84, 69, 78, 84, 45, 108, 101, 110, 103, 116, 104]⟩ : ByteArray), a1⟩ : S52) [.string (⟨#[67, 79, 78, 84, 69, 78, 84, 45, 108, 101, 110, 103, 116, 104]⟩ : ByteArray), .string a1] (fun _ => True) (fun _ => False) rfl rfl ?aP (fun _ hk => hk.elim) ?aF ?aO ?aB ?aS ?aL ?_; (case aP => exact k52_mkM _ _ _ (⟨(⟨#[67, 79, 78, 84, 69, 78, 84, 45, 108, 101, 110, 103, 116, 104]⟩ : ByteArray), a1⟩ : S52)); (case aB => exact (by repeat (first | (with_reducible first | exact HB.out | apply below_alloc | apply pw_below_drewN | apply below_drew1 | refine below_set ?_ GE230.out) | exact HB.out))); (case aF => exact (fun _ _ => trivial)); (case aO => exact (by (with_reducible repeat (first | apply Kd.R_alloc | apply Kd.R_drewN | apply Kd.R_drew)); exact HO_231003.out)); (case aS => exact (below_size (by repeat (first | (with_reducible first | exact HB.out | apply below_alloc | apply pw_below_drewN | apply below_drew1 | refine below_set ?_ GE230.out) | exact HB.out)))); (case aL => have := LMc25.out; omega); intro v234 w52 ho hb hg hat; rw [← Ny233.out] at ho; have n0_ := Aside0.mk (blk_grown (g := gb230) (o := .cells #[.string t224, .string t225, .int .i64 t226, .slice Ao17 t227.length co17] 35 (0, 0)) (by (with_reducible repeat (first | refine blk_drewN ?_ _ | refine blk_drew ?_ | refine blk_alloc ?_ _)); exact BK230.out) hg (Kd.R_ne HO_231003.out BK230.out (by decide))); have n1_ := Aside0.mk (hb); have n2_ := Aside0.mk (ho); clear BK230; clear HB; clear HO_231003; have BK230 := n0_; have HB := n1_; have HO235 := n2_; clear n0_ n1_ n2_; clear ho hb hg hat; obtain ⟨Ao53, co53, eo53⟩ := Kd.R_slice HO235.out; subst eo53; have hcz54_0 : w52.cell? ⟨gb230, 0, none⟩ = some (.string t224) := (blk_cell BK230.out 0).trans rfl; have hcz54_1 : w52.cell? ⟨gb230, 1, none⟩ = some (.string t225) := (blk_cell BK230.out 1).trans rfl; have hcz54_2 : w52.cell? ⟨gb230, 2, none⟩ = some (.int .i64 t226) := (blk_cell BK230.out 2).trans rfl; have hcz54_3 : w52.cell? ⟨gb230, 3, none⟩ = some (.slice Ao17 t227.length co17) := (blk_cell BK230.out 3).trans rfl; have hfz54_0 := blk_frozen BK230.out 0; have hfz54_1 := blk_frozen BK230.out 1; have hfz54_2 := blk_frozen BK230.out 2; have hfz54_3 := blk_frozen BK230.out 3) | ((with_reducible refine gate_callee (f := 50) rfl ?_); refine goesL_ (some 64) rfl rfl Tryz.func50 (by kernel_rfl) rfl #[.agg #[.string t224, .string t225, .int .i64 t226, .slice Ao53 y233.length co53]] rfl (by (try simp only [List.map_toArray, List.map_cons, List.map_nil]); first | done | rfl | (simp only [List.length_drop, List.length_take]; rfl)) ?_; (with_reducible refine (head_Length.calls kj11 t224 t225 t226 _ _ y233 t236 t237 _ ?side1 ?side2 A26.out).mono ?_); (case side1 => refine (Kd.R_reads' (e := 52) (base := w.heap.size) (ok := fun k_ => True) (n := y233.length) (c := co53) ?_).2.2; exact (by (with_reducible repeat (first | apply Kd.R_alloc | apply Kd.R_drewN | apply Kd.R_drew)); exact (Kd.R_mono (Kd.R_far (p := ⟨gb230, 3, none⟩) (Kd.R_types HO235.out BK230.out (by decide)) (fun _ hk => hk.2) (.slice Ao53 y233.length co53)) (fun _ h_ => h_.1)))); (case side2 => exact (Kd.R_reads' HO235.out).2.1); rintro e w55 ⟨rfl, hb⟩; refine ⟨_, rfl, ?_⟩; have n0_ := Aside0.mk (Kd.R_below (by (with_reducible repeat (first | apply Kd.R_alloc | apply Kd.R_drewN | apply Kd.R_drew)); exact (Kd.R_mono (Kd.R_far (p := ⟨gb230, 3, none⟩) (Kd.R_types HO235.out BK230.out (by decide)) (fun _ hk => hk.2) (.slice Ao53 y233.length co53)) (fun _ h_ => h_.1))) hb); have n1_ := Aside0.mk (blk_below (g := gb230) (o := .cells #[.string t224, .string t225, .int .i64 t226, .slice Ao53 y233.length co53] 35 (0, 0)) (by (with_reducible repeat (first | refine blk_drewN ?_ _ | refine blk_drew ?_ | refine blk_alloc ?_ _)); refine blk_put (cs := #[.string t224, .string t225, .int .i64 t226, .slice Ao17 t227.length co17]) ?_ 3 _ rfl; (with_reducible repeat (first | refine blk_drewN ?_ _ | refine blk_drew ?_ | refine blk_alloc ?_ _)); exact BK230.out) hb); have n2_ := Aside0.mk (below_step (by repeat (first | (with_reducible first | exact HB.out | apply below_alloc | apply pw_below_drewN | apply below_drew1 | refine below_set ?_ GE230.out) | exact HB.out)) hb); clear HO235; clear BK230; clear HB; have HO235 := n0_; have BK230 := n1_; have HB := n2_; clear n0_ n1_ n2_; (try clear hb); (try clear hb2); (try clear hk); (try clear hi); have hcz56_0 : w55.cell? ⟨gb230, 0, none⟩ = some (.string t224) := (blk_cell BK230.out 0).trans rfl; have hcz56_1 : w55.cell? ⟨gb230, 1, none⟩ = some (.string t225) := (blk_cell BK230.out 1).trans rfl; have hcz56_2 : w55.cell? ⟨gb230, 2, none⟩ = some (.int .i64 t226) := (blk_cell BK230.out 2).trans rfl; have hcz56_3 : w55.cell? ⟨gb230, 3, none⟩ = some (.slice Ao53 y233.length co53) := (blk_cell BK230.out 3).trans rfl; have hfz56_0 := blk_frozen BK230.out 0; have hfz56_1 := blk_frozen BK230.out 1; have hfz56_2 := blk_frozen BK230.out 2; have hfz56_3 := blk_frozen BK230.out 3) | ((with_reducible refine gate_builtin (b := .append) (xs := #[.tmp 68, .tmp 70]) rfl ?_); (try (refine gate_guard (by rfl) ?_; dsimp only)); at_builtin; refine Kd.R_append k52 (w0 := w) w.heap.size rfl (.tmp 68) (.tmp 70) 33 52 (.agg #[(.string ⟨#[]⟩), (.string ⟨#[]⟩)]) 32 rfl Tryz.underlying33 info52 rfl (by decide) (by omega) (.slice Ao53 y233.length co53) y233 (⟨(⟨#[84, 114, 97, 110, 115, 102, 101, 114, 45, 69, 110, 99, 111, 100, 105, 110, 103]⟩ : ByteArray), (⟨#[105, 100, 101, 110, 116, 105, 116, 121]⟩ : ByteArray)⟩ : S52) [.string (⟨#[84, 114, 97, 110, 115, 102, 101, 114, 45, 69, 110, 99, 111, 100, 105, 110, 103]⟩ : ByteArray), .string (⟨#[105, 100, 101, 110, 116, 105, 116, 121]⟩ : ByteArray)] (fun _ => True) (fun _ => False) rfl rfl ?aP (fun _ hk => hk.elim) ?aF ?aO ?aB ?aS ?aL ?_; (case aP => exact k52_mkM _ _ _ (⟨(⟨#[84, 114, 97, 110, 115, 102, 101, 114, 45, 69, 110, 99, 111, 100, 105, 110, 103]⟩ : ByteArray), (⟨#[105, 100, 101, 110, 116, 105, 116, 121]⟩ : ByteArray)⟩ : S52)); (case aB => exact (by repeat (first | (with_reducible first | exact HB.out | apply below_alloc | apply pw_below_drewN | apply below_drew1 | refine below_set ?_ GE230.out) | exact HB.out))); (case aF => exact (fun _ _ => trivial)); (case aO => exact (by (with_reducible repeat (first | apply Kd.R_alloc | apply Kd.R_drewN | apply Kd.R_drew)); exact HO235.out)); (case aS => exact (below_size (by repeat (first | (with_reducible first | exact HB.out | apply below_alloc | apply pw_below_drewN | apply below_drew1 | refine below_set ?_ GE230.out) | exact HB.out)))); (case aL => have := LMc27.out; omega); intro v239 w57 ho hb hg hat; rw [← Ny238.out] at ho; have n0_ := Aside0.mk (blk_grown (g := gb230) (o := .cells #[.string t224, .string t225, .int .i64 t226, .slice Ao53 y233.length co53] 35 (0, 0)) (by (with_reducible repeat (first | refine blk_drewN ?_ _ | refine blk_drew ?_ | refine blk_alloc ?_ _)); exact BK230.out) hg (Kd.R_ne HO235.out BK230.out (by decide))); have n1_ := Aside0.mk (hb); have n2_ := Aside0.mk (ho); clear BK230; clear HB; clear HO235; have BK230 := n0_; have HB := n1_; have HO240 := n2_; clear n0_ n1_ n2_; clear ho hb hg hat; obtain ⟨Ao58, co58, eo58⟩ := Kd.R_slice HO240.out; subst eo58; have hcz59_0 : w57.cell? ⟨gb230, 0, none⟩ = some (.string t224) := (blk_cell BK230.out 0).trans rfl; have hcz59_1 : w57.cell? ⟨gb230, 1, none⟩ = some (.string t225) := (blk_cell BK230.out 1).trans rfl; have hcz59_2 : w57.cell? ⟨gb230, 2, none⟩ = some (.int .i64 t226) := (blk_cell BK230.out 2).trans rfl; have hcz59_3 : w57.cell? ⟨gb230, 3, none⟩ = some (.slice Ao53 y233.length co53) := (blk_cell BK230.out 3).trans rfl; have hfz59_0 := blk_frozen BK230.out 0; have hfz59_1 := blk_frozen BK230.out 1; have hfz59_2 := blk_frozen BK230.out 2; have hfz59_3 := blk_frozen BK230.out 3) | ((with_reducible refine gate_callee (f := 50) rfl ?_); refine goesL_ (some 75) rfl rfl Tryz.func50 (by kernel_rfl) rfl #[.agg #[.string t224, .string t225, .int .i64 t226, .slice Ao58 y238.length co58]] rfl (by (try simp only [List.map_toArray, List.map_cons, List.map_nil]); first | done | rfl | (simp only [List.length_drop, List.length_take]; rfl)) ?_; (with_reducible refine (head_Length.calls kj11 t224 t225 t226 _ _ y238 t241 t242 _ ?side1 ?side2 A28.out).mono ?_); (case side1 => refine (Kd.R_reads' (e := 52) (base := w.heap.size) (ok := fun k_ => True) (n := y238.length) (c := co58) ?_).2.2; exact (by (with_reducible repeat (first | apply Kd.R_alloc | apply Kd.R_drewN | apply Kd.R_drew)); exact (Kd.R_mono (Kd.R_far (p := ⟨gb230, 3, none⟩) (Kd.R_types HO240.out BK230.out (by decide)) (fun _ hk => hk.2) (.slice Ao58 y238.length co58)) (fun _ h_ => h_.1)))); (case side2 => exact (Kd.R_reads' HO240.out).2.1); rintro e w60 ⟨rfl, hb⟩; refine ⟨_, rfl, ?_⟩; have n0_ := Aside0.mk (Kd.R_below (by (with_reducible repeat (first | apply Kd.R_alloc | apply Kd.R_drewN | apply Kd.R_drew)); exact (Kd.R_mono (Kd.R_far (p := ⟨gb230, 3, none⟩) (Kd.R_types HO240.out BK230.out (by decide)) (fun _ hk => hk.2) (.slice Ao58 y238.length co58)) (fun _ h_ => h_.1))) hb); have n1_ := Aside0.mk (blk_below (g := gb230) (o := .cells #[.string t224, .string t225, .int .i64 t226, .slice Ao58 y238.length co58] 35 (0, 0)) (by (with_reducible repeat (first | refine blk_drewN ?_ _ | refine blk_drew ?_ | refine blk_alloc ?_ _)); refine blk_put (cs := #[.string t224, .string t225, .int .i64 t226, .slice Ao53 y233.length co53]) ?_ 3 _ rfl; (with_reducible repeat (first | refine blk_drewN ?_ _ | refine blk_drew ?_ | refine blk_alloc ?_ _)); exact BK230.out) hb); have n2_ := Aside0.mk (below_step (by repeat (first | (with_reducible first | exact HB.out | apply below_alloc | apply pw_below_drewN | apply below_drew1 | refine below_set ?_ GE230.out) | exact HB.out)) hb); clear HO240; clear BK230; clear HB; have HO240 := n0_; have BK230 := n1_; have HB := n2_; clear n0_ n1_ n2_; (try clear hb); (try clear hb2); (try clear hk); (try clear hi)))
          go_ret
          exact ⟨by first | rfl | (simp [errW_none, errW_some] <;> rfl) | (simp [*, errW_none, errW_some] <;> rfl), by repeat (first | (with_reducible first | exact HB.out | apply below_alloc | apply pw_below_drewN | apply below_drew1 | refine below_set ?_ GE230.out) | exact HB.out)⟩
        ·rw [if_neg c27] at H
         exact absurd H (by simp)
       ·rw [if_neg c25] at H
        exact absurd H (by simp)

/-- THE ONE PURE STATEMENT of ostiarylaw13_HeadLengths: yours. -/
def ostiarylaw13_HeadLengths.Pure : Prop := ∀ (a0 : Int) (a1 : ByteArray), (Lit.int .i64 a0).wf = true → a1.size ≤ 140737488351232 → ∃ k, ostiarylaw13_HeadLengths.f k a0 a1 = some true
theorem ostiarylaw13_HeadLengths.walk (P : ostiarylaw13_HeadLengths.Pure) (a0 : Int) (a1 : ByteArray) (w : World) (w0 : (Lit.int .i64 a0).wf = true) (w1 : a1.size ≤ 140737488351232) (hG : GG 5 w) :
  Calls Tryz.prog 9 #[.int .i64 a0, .string a1] w fun e w' => e = .returned (.bool true) ∧ Below w.heap.size w w' := by
 obtain ⟨k, h⟩ := P a0 a1 w0 w1
 refine (ostiarylaw13_HeadLengths.calls k a0 a1 true w hG h).mono ?_
 rintro e w' ⟨rfl, hd⟩
 exact ⟨rfl, hd⟩


end Go.Proofs.YtnhpcpmgedjffaaGreatDoor.P
