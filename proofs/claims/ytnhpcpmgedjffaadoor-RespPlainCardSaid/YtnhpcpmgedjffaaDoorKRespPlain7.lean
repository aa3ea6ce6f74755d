import Derived.Test.YtnhpcpmgedjffaaDoorKRespPlain6
-- Written by the proof's own program out of the translation; Lean checks it.
namespace Go.Proofs.YtnhpcpmgedjffaaDoor.P
open Go.RowKit Go.Proofs.YtnhpcpmgedjffaaDoorW.PrintWords Go.Proofs.YtnhpcpmgedjffaaDoorW.PrintLast Go.Proofs.YtnhpcpmgedjffaaDoorW.PrintMore Go.Proofs.YtnhpcpmgedjffaaDoorX
attribute [local go_sem] max2_int min2_int max_two min_two max_three min_three max_four min_four   -- for this text's walks alone
set_option linter.unusedVariables false
set_option linter.unusedSimpArgs false

/-! ### resp_Check: function 33 -/
mutual
def resp_Check.j0 : Nat → Bool → Int → List (S67) → List Int → Bool → Option (Int)
 | 0, _, _, _, _, _ => none
 | k + 1, x21, x167000, x167001, x167002, x167003 => if x21 = true then (some 2) else (resp_Check.l0 k 0 x167001 (x167001.length : Int) 0)
def resp_Check.l0 : Nat → Int → List (S67) → Int → Int → Option (Int)
 | 0, _, _, _, _ => none
 | k + 1, x3, x23, x24, x25 => if x25 < x24 then (if 0 ≤ x25 then (if x25 < (x23.length : Int) then (if (wrap64 (x3 + (wrap64 ((((rd_T67 x23 x25).f0).size : Int) + (((rd_T67 x23 x25).f1).size : Int))))) > 4096 then (some 2) else ((resp_own.f k ((rd_T67 x23 x25).f0) ((rd_T67 x23 x25).f1)).bind fun t170 => (if t170 = true then (some 2) else ((resp_fine.f k ((rd_T67 x23 x25).f0) ((rd_T67 x23 x25).f1)).bind fun t171 => (if t171 = true then (resp_Check.l0 k (wrap64 (x3 + (wrap64 ((((rd_T67 x23 x25).f0).size : Int) + (((rd_T67 x23 x25).f1).size : Int))))) x23 x24 (wrap64 (x25 + 1))) else (some 2)))))) else (none)) else (none)) else (some 0)
end
def resp_Check.f (k : Nat) (a0_0 : Int) (l0_1 : List (S67)) (l0_2 : List Int) (a0_3 : Bool) : Option (Int) := (resp_Reason.f a0_0).bind fun t167 => (if t167.toList = ([] : List UInt8) then (resp_Check.j0 k true a0_0 l0_1 l0_2 a0_3) else (if (l0_1.length : Int) > 16 then (resp_Check.j0 k true a0_0 l0_1 l0_2 a0_3) else (resp_Check.j0 k (decide ((l0_2.length : Int) > 65535)) a0_0 l0_1 l0_2 a0_3)))
theorem resp_Check.mono_l : ∀ k, (∀ y0 y1 y2 y3 y4, LeO (resp_Check.j0 k y0 y1 y2 y3 y4) (resp_Check.j0 (k + 1) y0 y1 y2 y3 y4)) ∧ (∀ y0 y1 y2 y3, LeO (resp_Check.l0 k y0 y1 y2 y3) (resp_Check.l0 (k + 1) y0 y1 y2 y3))
 | 0 => ⟨fun _ _ _ _ _ r h => by simp [resp_Check.j0] at h, fun _ _ _ _ r h => by simp [resp_Check.l0] at h⟩
 | k + 1 => by
  obtain ⟨ih0, ih1⟩ := resp_Check.mono_l k
  refine ⟨?_, ?_⟩
  ·intro y0 y1 y2 y3 y4
   unfold resp_Check.j0
   repeat' first
   | (with_reducible exact ih0 _ _ _ _ _)
   | (with_reducible exact ih1 _ _ _ _)
   | (with_reducible exact resp_fine.mono _ _ _)
   | (with_reducible exact resp_own.mono _ _ _)
   | (with_reducible exact LeO.refl _)
   | (with_reducible exact LeO.none _)
   | (with_reducible refine LeO.ite ?_ ?_)
   | (with_reducible refine LeO.bind ?_ (fun _ => ?_))
   | exact ih0 _ _ _ _ _
   | exact ih1 _ _ _ _
   | exact resp_fine.mono _ _ _
   | exact resp_own.mono _ _ _
   | exact LeO.none _
   | refine LeO.ite ?_ ?_
   | refine LeO.bind ?_ (fun _ => ?_)
  ·intro y0 y1 y2 y3
   unfold resp_Check.l0
   repeat' first
   | (with_reducible exact ih0 _ _ _ _ _)
   | (with_reducible exact ih1 _ _ _ _)
   | (with_reducible exact resp_fine.mono _ _ _)
   | (with_reducible exact resp_own.mono _ _ _)
   | (with_reducible exact LeO.refl _)
   | (with_reducible exact LeO.none _)
   | (with_reducible refine LeO.ite ?_ ?_)
   | (with_reducible refine LeO.bind ?_ (fun _ => ?_))
   | exact ih0 _ _ _ _ _
   | exact ih1 _ _ _ _
   | exact resp_fine.mono _ _ _
   | exact resp_own.mono _ _ _
   | exact LeO.none _
   | refine LeO.ite ?_ ?_
   | refine LeO.bind ?_ (fun _ => ?_)
theorem resp_Check.mono : ∀ a0 a1 a2 a3 k, LeO (resp_Check.f k a0 a1 a2 a3) (resp_Check.f (k + 1) a0 a1 a2 a3) := by
 intro a0 a1 a2 a3 k
 obtain ⟨ih0, ih1⟩ := resp_Check.mono_l k
 unfold resp_Check.f
 repeat' first
   | (with_reducible exact ih0 _ _ _ _ _)
   | (with_reducible exact ih1 _ _ _ _)
   | (with_reducible exact resp_fine.mono _ _ _)
   | (with_reducible exact resp_own.mono _ _ _)
   | (with_reducible exact LeO.refl _)
   | (with_reducible exact LeO.none _)
   | (with_reducible refine LeO.ite ?_ ?_)
   | (with_reducible refine LeO.bind ?_ (fun _ => ?_))
   | exact ih0 _ _ _ _ _
   | exact ih1 _ _ _ _
   | exact resp_fine.mono _ _ _
   | exact resp_own.mono _ _ _
   | exact LeO.none _
   | refine LeO.ite ?_ ?_
   | refine LeO.bind ?_ (fun _ => ?_)
set_option maxHeartbeats 8000000 in
set_option maxRecDepth 100000 in
theorem resp_Check.calls (k : Nat) (a0_0 : Int) (A0_1 : Option Addr) (c0_1 : Nat) (l0_1 : List (S67)) (A0_2 : Option Addr) (c0_2 : Nat) (l0_2 : List Int) (a0_3 : Bool) (r : Int) (w : World) (hr0_1 : Kd.C k67 w A0_1 l0_1.length l0_1) (hc0_1 : l0_1.length ≤ c0_1) (hr0_2 : Kd.C (Kd.int .u8) w A0_2 l0_2.length l0_2) (hc0_2 : l0_2.length ≤ c0_2) (h : resp_Check.f k a0_0 l0_1 l0_2 a0_3 = some r) :
  Calls Tryd.prog 33 #[.agg #[.int .i64 a0_0, .slice A0_1 l0_1.length c0_1, .slice A0_2 l0_2.length c0_2, .bool a0_3]] w fun e w' => e = .returned (.int .i64 r) ∧ Below w.heap.size w w' := by
 have hu54 := Tryd.underlying54
 have hu67 := Tryd.underlying67
 have HR0_1 := Aside0.mk hr0_1
 have HC0_1 := Aside0.mk hc0_1
 clear hr0_1 hc0_1
 have HR0_2 := Aside0.mk hr0_2
 have HC0_2 := Aside0.mk hc0_2
 clear hr0_2 hc0_2
 have HB := Aside0.mk (Below.refl w.heap.size w)
 have H : ((resp_Reason.f a0_0).bind fun t167 => (if t167.toList = ([] : List UInt8) then (resp_Check.j0 k true a0_0 l0_1 l0_2 a0_3) else (if (l0_1.length : Int) > 16 then (resp_Check.j0 k true a0_0 l0_1 l0_2 a0_3) else (resp_Check.j0 k (decide ((l0_2.length : Int) > 65535)) a0_0 l0_1 l0_2 a0_3)))) = some r := h
 clear h
 have HC2 := Aside0.mk H
 clear H
 go_enter Tryd.func33, Tryd.ntmps33
 go_upto_region 1 with (first | ((with_reducible refine gate_dst (N := 1) rfl ?_); (try (refine gate_guard (by rfl) ?_; dsimp only)); refine box_event ?hg (N := 1) ?hd (cs := #[.int .i64 a0_0, .slice A0_1 l0_1.length c0_1, .slice A0_2 l0_2.length c0_2, .bool a0_3]) (t := 54) ?hr ?_; (case hd => rfl); (case hg => rfl); (case hr => first | (go_simp; done) | (go_simp; rfl)); intro gb166 hg w3 hbox hb; have n0_ := Aside0.mk (below_step (by repeat (first | (with_reducible first | exact HB.out | apply below_alloc | apply pw_below_drewN | apply below_drew1) | exact HB.out)) hb); have n1_ := Aside0.mk (hbox); have n2_ := Aside0.mk ((by rw [hg]; exact (below_size (by repeat (first | (with_reducible first | exact HB.out | apply below_alloc | apply pw_below_drewN | apply below_drew1) | exact HB.out))) : w.heap.size ≤ gb166)); have n3_ := Aside0.mk ((by rw [hg]; exact (below_size (by repeat (first | (with_reducible first | exact HB.out | apply below_alloc | apply pw_below_drewN | apply below_drew1) | exact HB.out))) : w.heap.size ≤ gb166)); clear HB; have HB := n0_; have BK166 := n1_; have GW166 := n2_; have GE166 := n3_; clear n0_ n1_ n2_ n3_; clear hb hbox hg))
 (try simp only [Act.put, List.setIfInBounds_toArray, List.set_cons_zero, List.set_cons_succ])
 go_cut [21] (fun v21 wc => ∃ (kq : Nat) (x21_1 : Bool), v21 = .bool x21_1 ∧ Aside0 (resp_Check.j0 kq x21_1 a0_0 l0_1 l0_2 a0_3 = some r) ∧ Aside0 (kq ≤ k) ∧ Aside0 (wc.heap[gb166]? = some (.cells #[.int .i64 a0_0, (.slice A0_1 l0_1.length c0_1), (.slice A0_2 l0_2.length c0_2), .bool a0_3] 54 (0, 0))) ∧ Aside0 (Below w.heap.size w wc))
 case first =>
  have H := HC2.out
  clear HC2
  replace H := Option.bind_eq_some_iff.mp H
  obtain ⟨t167, A40, H⟩ := H
  replace H : (if t167.toList = ([] : List UInt8) then (resp_Check.j0 k true a0_0 l0_1 l0_2 a0_3) else (if (l0_1.length : Int) > 16 then (resp_Check.j0 k true a0_0 l0_1 l0_2 a0_3) else (resp_Check.j0 k (decide ((l0_2.length : Int) > 65535)) a0_0 l0_1 l0_2 a0_3))) = some r := H
  have A4 := Aside0.mk A40
  clear A40
  by_cases c5 : t167.toList = ([] : List UInt8)
  ·rw [if_pos c5] at H
   have c5b0 : (t167.toList == ([] : List UInt8)) = true := beq_iff_eq.mpr c5
   have c5b1 : (t167.toList != ([] : List UInt8)) = false := bne_eq_false_iff_eq.mpr c5
   clear c5
   (first | rw [c5b0] | (simp only [i64_w, i32_w]; rw [c5b0]) | skip)
   have H' := Aside0.mk H
   clear H
   have hcz6_0 : w3.cell? ⟨gb166, 0, none⟩ = some (.int .i64 a0_0) := (blk_cell BK166.out 0).trans rfl
   have hcz6_1 : w3.cell? ⟨gb166, 1, none⟩ = some (.slice A0_1 l0_1.length c0_1) := (blk_cell BK166.out 1).trans rfl
   have hcz6_2 : w3.cell? ⟨gb166, 2, none⟩ = some (.slice A0_2 l0_2.length c0_2) := (blk_cell BK166.out 2).trans rfl
   have hcz6_3 : w3.cell? ⟨gb166, 3, none⟩ = some (.bool a0_3) := (blk_cell BK166.out 3).trans rfl
   have hfz6_0 := blk_frozen BK166.out 0
   have hfz6_1 := blk_frozen BK166.out 1
   have hfz6_2 := blk_frozen BK166.out 2
   have hfz6_3 := blk_frozen BK166.out 3
   go_wp2_with (first | ((with_reducible refine gate_callee (f := 36) rfl ?_); refine goesL_ (some 8) rfl rfl Tryd.func36 (by kernel_rfl) rfl #[.int .i64 a0_0] rfl (by (try simp only [List.map_toArray, List.map_cons, List.map_nil]); first | done | rfl | (simp only [List.length_drop, List.length_take]; rfl)) ?_; (with_reducible refine (resp_Reason.calls a0_0 t167 _ A4.out).mono ?_); rintro e w7 ⟨rfl, hb⟩; refine ⟨_, rfl, ?_⟩; have n0_ := Aside0.mk (blk_below (g := gb166) (o := .cells #[.int .i64 a0_0, .slice A0_1 l0_1.length c0_1, .slice A0_2 l0_2.length c0_2, .bool a0_3] 54 (0, 0)) (by (with_reducible repeat (first | refine blk_drewN ?_ _ | refine blk_drew ?_ | refine blk_alloc ?_ _)); exact BK166.out) hb); have n1_ := Aside0.mk (below_step (by repeat (first | (with_reducible first | exact HB.out | apply below_alloc | apply pw_below_drewN | apply below_drew1 | refine below_set ?_ GE166.out) | exact HB.out)) hb); clear BK166; clear HB; have BK166 := n0_; have HB := n1_; clear n0_ n1_; (try clear hb); (try clear hb2); (try clear hk); (try clear hi)))
   go_meet
   case rel => exact ⟨_, (true), (by first | rfl | (simp; done) | (simp [*]; done)), H', ⟨by first | omega | exact Nat.le_refl _⟩, ⟨by (with_reducible repeat (first | refine blk_drewN ?_ _ | refine blk_drew ?_ | refine blk_alloc ?_ _)); exact BK166.out⟩, ⟨by repeat (first | (with_reducible first | exact HB.out | apply below_alloc | apply pw_below_drewN | apply below_drew1 | refine below_set ?_ GE166.out) | exact HB.out)⟩⟩
  ·rw [if_neg c5] at H
   have c5b0 : (t167.toList == ([] : List UInt8)) = false := beq_eq_false_iff_ne.mpr c5
   have c5b1 : (t167.toList != ([] : List UInt8)) = true := bne_iff_ne.mpr c5
   (first | rw [c5b0] | (simp only [i64_w, i32_w]; rw [c5b0]) | skip)
   by_cases c8 : (l0_1.length : Int) > 16
   ·rw [if_pos c8] at H
    have c8b0 : decide (16 < (l0_1.length : Int)) = true := decide_eq_true c8
    have c8b1 : decide (16 < l0_1.length) = true := decide_eq_true (by omega)
    clear c8
    have H' := Aside0.mk H
    clear H
    have hcz9_0 : w3.cell? ⟨gb166, 0, none⟩ = some (.int .i64 a0_0) := (blk_cell BK166.out 0).trans rfl
    have hcz9_1 : w3.cell? ⟨gb166, 1, none⟩ = some (.slice A0_1 l0_1.length c0_1) := (blk_cell BK166.out 1).trans rfl
    have hcz9_2 : w3.cell? ⟨gb166, 2, none⟩ = some (.slice A0_2 l0_2.length c0_2) := (blk_cell BK166.out 2).trans rfl
    have hcz9_3 : w3.cell? ⟨gb166, 3, none⟩ = some (.bool a0_3) := (blk_cell BK166.out 3).trans rfl
    have hfz9_0 := blk_frozen BK166.out 0
    have hfz9_1 := blk_frozen BK166.out 1
    have hfz9_2 := blk_frozen BK166.out 2
    have hfz9_3 := blk_frozen BK166.out 3
    go_wp2_with (first | ((with_reducible refine gate_callee (f := 36) rfl ?_); refine goesL_ (some 8) rfl rfl Tryd.func36 (by kernel_rfl) rfl #[.int .i64 a0_0] rfl (by (try simp only [List.map_toArray, List.map_cons, List.map_nil]); first | done | rfl | (simp only [List.length_drop, List.length_take]; rfl)) ?_; (with_reducible refine (resp_Reason.calls a0_0 t167 _ A4.out).mono ?_); rintro e w10 ⟨rfl, hb⟩; refine ⟨_, rfl, ?_⟩; have n0_ := Aside0.mk (blk_below (g := gb166) (o := .cells #[.int .i64 a0_0, .slice A0_1 l0_1.length c0_1, .slice A0_2 l0_2.length c0_2, .bool a0_3] 54 (0, 0)) (by (with_reducible repeat (first | refine blk_drewN ?_ _ | refine blk_drew ?_ | refine blk_alloc ?_ _)); exact BK166.out) hb); have n1_ := Aside0.mk (below_step (by repeat (first | (with_reducible first | exact HB.out | apply below_alloc | apply pw_below_drewN | apply below_drew1 | refine below_set ?_ GE166.out) | exact HB.out)) hb); clear BK166; clear HB; have BK166 := n0_; have HB := n1_; clear n0_ n1_; (try clear hb); (try clear hb2); (try clear hk); (try clear hi); have hcz11_0 : w10.cell? ⟨gb166, 0, none⟩ = some (.int .i64 a0_0) := (blk_cell BK166.out 0).trans rfl; have hcz11_1 : w10.cell? ⟨gb166, 1, none⟩ = some (.slice A0_1 l0_1.length c0_1) := (blk_cell BK166.out 1).trans rfl; have hcz11_2 : w10.cell? ⟨gb166, 2, none⟩ = some (.slice A0_2 l0_2.length c0_2) := (blk_cell BK166.out 2).trans rfl; have hcz11_3 : w10.cell? ⟨gb166, 3, none⟩ = some (.bool a0_3) := (blk_cell BK166.out 3).trans rfl; have hfz11_0 := blk_frozen BK166.out 0; have hfz11_1 := blk_frozen BK166.out 1; have hfz11_2 := blk_frozen BK166.out 2; have hfz11_3 := blk_frozen BK166.out 3))
    go_meet
    case rel => exact ⟨_, (true), (by first | rfl | (simp; done) | (simp [*]; done)), H', ⟨by first | omega | exact Nat.le_refl _⟩, ⟨by (with_reducible repeat (first | refine blk_drewN ?_ _ | refine blk_drew ?_ | refine blk_alloc ?_ _)); exact BK166.out⟩, ⟨by repeat (first | (with_reducible first | exact HB.out | apply below_alloc | apply pw_below_drewN | apply below_drew1 | refine below_set ?_ GE166.out) | exact HB.out)⟩⟩
   ·rw [if_neg c8] at H
    have c8b0 : decide (16 < (l0_1.length : Int)) = false := decide_eq_false c8
    have c8b1 : decide (16 < l0_1.length) = false := decide_eq_false (by omega)
    clear c8
    have H' := Aside0.mk H
    clear H
    have hcz12_0 : w3.cell? ⟨gb166, 0, none⟩ = some (.int .i64 a0_0) := (blk_cell BK166.out 0).trans rfl
    have hcz12_1 : w3.cell? ⟨gb166, 1, none⟩ = some (.slice A0_1 l0_1.length c0_1) := (blk_cell BK166.out 1).trans rfl
    have hcz12_2 : w3.cell? ⟨gb166, 2, none⟩ = some (.slice A0_2 l0_2.length c0_2) := (blk_cell BK166.out 2).trans rfl
    have hcz12_3 : w3.cell? ⟨gb166, 3, none⟩ = some (.bool a0_3) := (blk_cell BK166.out 3).trans rfl
    have hfz12_0 := blk_frozen BK166.out 0
    have hfz12_1 := blk_frozen BK166.out 1
    have hfz12_2 := blk_frozen BK166.out 2
    have hfz12_3 := blk_frozen BK166.out 3
    go_wp2_with (first | ((with_reducible refine gate_callee (f := 36) rfl ?_); refine goesL_ (some 8) rfl rfl Tryd.func36 (by kernel_rfl) rfl #[.int .i64 a0_0] rfl (by (try simp only [List.map_toArray, List.map_cons, List.map_nil]); first | done | rfl | (simp only [List.length_drop, List.length_take]; rfl)) ?_; (with_reducible refine (resp_Reason.calls a0_0 t167 _ A4.out).mono ?_); rintro e w13 ⟨rfl, hb⟩; refine ⟨_, rfl, ?_⟩; have n0_ := Aside0.mk (blk_below (g := gb166) (o := .cells #[.int .i64 a0_0, .slice A0_1 l0_1.length c0_1, .slice A0_2 l0_2.length c0_2, .bool a0_3] 54 (0, 0)) (by (with_reducible repeat (first | refine blk_drewN ?_ _ | refine blk_drew ?_ | refine blk_alloc ?_ _)); exact BK166.out) hb); have n1_ := Aside0.mk (below_step (by repeat (first | (with_reducible first | exact HB.out | apply below_alloc | apply pw_below_drewN | apply below_drew1 | refine below_set ?_ GE166.out) | exact HB.out)) hb); clear BK166; clear HB; have BK166 := n0_; have HB := n1_; clear n0_ n1_; (try clear hb); (try clear hb2); (try clear hk); (try clear hi); have hcz14_0 : w13.cell? ⟨gb166, 0, none⟩ = some (.int .i64 a0_0) := (blk_cell BK166.out 0).trans rfl; have hcz14_1 : w13.cell? ⟨gb166, 1, none⟩ = some (.slice A0_1 l0_1.length c0_1) := (blk_cell BK166.out 1).trans rfl; have hcz14_2 : w13.cell? ⟨gb166, 2, none⟩ = some (.slice A0_2 l0_2.length c0_2) := (blk_cell BK166.out 2).trans rfl; have hcz14_3 : w13.cell? ⟨gb166, 3, none⟩ = some (.bool a0_3) := (blk_cell BK166.out 3).trans rfl; have hfz14_0 := blk_frozen BK166.out 0; have hfz14_1 := blk_frozen BK166.out 1; have hfz14_2 := blk_frozen BK166.out 2; have hfz14_3 := blk_frozen BK166.out 3))
    go_meet
    case rel => exact ⟨_, (decide ((l0_2.length : Int) > 65535)), (by first | rfl | (simp; done) | (simp [*]; done)), H', ⟨by first | omega | exact Nat.le_refl _⟩, ⟨by (with_reducible repeat (first | refine blk_drewN ?_ _ | refine blk_drew ?_ | refine blk_alloc ?_ _)); exact BK166.out⟩, ⟨by repeat (first | (with_reducible first | exact HB.out | apply below_alloc | apply pw_below_drewN | apply below_drew1 | refine below_set ?_ GE166.out) | exact HB.out)⟩⟩
 case rest =>
  clear HC2
  try clear p2
  try clear c3
  try clear c5
  try clear c5b0
  try clear c5b1
  try clear c8
  try clear c8b0
  try clear c8b1
  try clear hcz11_0
  try clear hcz11_1
  try clear hcz11_2
  try clear hcz11_3
  try clear hcz12_0
  try clear hcz12_1
  try clear hcz12_2
  try clear hcz12_3
  try clear hcz14_0
  try clear hcz14_1
  try clear hcz14_2
  try clear hcz14_3
  try clear hcz6_0
  try clear hcz6_1
  try clear hcz6_2
  try clear hcz6_3
  try clear hcz9_0
  try clear hcz9_1
  try clear hcz9_2
  try clear hcz9_3
  try clear hfz11_0
  try clear hfz11_1
  try clear hfz11_2
  try clear hfz11_3
  try clear hfz12_0
  try clear hfz12_1
  try clear hfz12_2
  try clear hfz12_3
  try clear hfz14_0
  try clear hfz14_1
  try clear hfz14_2
  try clear hfz14_3
  try clear hfz6_0
  try clear hfz6_1
  try clear hfz6_2
  try clear hfz6_3
  try clear hfz9_0
  try clear hfz9_1
  try clear hfz9_2
  try clear hfz9_3
  obtain ⟨kq, x21_1, rfl, HA, HJ1, BK166, HB⟩ := hcut
  cases kq with
  | zero => exact absurd HA.out (by simp [resp_Check.j0])
  | succ kj1 =>
   have H := HA.out
   clear HA
   simp only [resp_Check.j0] at H
   by_cases c15 : x21_1 = true
   ·subst c15
    have H1 : (some 2) = some r := by rw [if_pos rfl] at H; exact H
    clear H
    have H := H1
    clear H1
    obtain rfl := Option.some.inj H
    go_wp2
    go_ret
    exact ⟨by first | rfl | (simp [errW_none, errW_some] <;> rfl) | (simp [*, errW_none, errW_some] <;> rfl), by repeat (first | (with_reducible first | exact HB.out | apply below_alloc | apply pw_below_drewN | apply below_drew1 | refine below_set ?_ GE166.out) | exact HB.out)⟩
   ·replace c15 := Bool.eq_false_iff.mpr c15
    subst c15
    have H1 : (resp_Check.l0 kj1 0 l0_1 (l0_1.length : Int) 0) = some r := by rw [if_neg (show ¬ (false = true) by decide)] at H; exact H
    clear H
    have H := H1
    clear H1
    have H' := Aside0.mk H
    clear H
    have hcz16_0 : wc.cell? ⟨gb166, 0, none⟩ = some (.int .i64 a0_0) := (blk_cell BK166.out 0).trans rfl
    have hcz16_1 : wc.cell? ⟨gb166, 1, none⟩ = some (.slice A0_1 l0_1.length c0_1) := (blk_cell BK166.out 1).trans rfl
    have hcz16_2 : wc.cell? ⟨gb166, 2, none⟩ = some (.slice A0_2 l0_2.length c0_2) := (blk_cell BK166.out 2).trans rfl
    have hcz16_3 : wc.cell? ⟨gb166, 3, none⟩ = some (.bool a0_3) := (blk_cell BK166.out 3).trans rfl
    have hfz16_0 := blk_frozen BK166.out 0
    have hfz16_1 := blk_frozen BK166.out 1
    have hfz16_2 := blk_frozen BK166.out 2
    have hfz16_3 := blk_frozen BK166.out 3
    go_wp2
    go_loopg [3, 25] kj1 (fun kq v3 v25 w' => ∃ (x3_2 : Int) (x25_2 : Int), v3 = .int .i64 x3_2 ∧ v25 = .int .i64 x25_2 ∧ Aside0 (resp_Check.l0 kq x3_2 l0_1 (l0_1.length : Int) x25_2 = some r) ∧ Aside0 (kq ≤ kj1) ∧ Aside0 (w'.heap[gb166]? = some (.cells #[.int .i64 a0_0, (.slice A0_1 l0_1.length c0_1), (.slice A0_2 l0_2.length c0_2), .bool a0_3] 54 (0, 0))) ∧ Aside0 (Below w.heap.size w w'))
    case atStart => exact ⟨(0), (0), (by first | rfl | (simp; done) | (simp [*]; done)), (by first | rfl | (simp; done) | (simp [*]; done)), H', ⟨Nat.le_refl _⟩, ⟨by (with_reducible repeat (first | refine blk_drewN ?_ _ | refine blk_drew ?_ | refine blk_alloc ?_ _)); exact BK166.out⟩, ⟨by repeat (first | (with_reducible first | exact HB.out | apply below_alloc | apply pw_below_drewN | apply below_drew1 | refine below_set ?_ GE166.out) | exact HB.out)⟩⟩
    case round =>
     clear H'
     try clear c1
     try clear p2
     try clear c3
     try clear c5
     try clear c5b0
     try clear c5b1
     try clear c8
     try clear c8b0
     try clear c8b1
     try clear c15
     try clear hcz11_0
     try clear hcz11_1
     try clear hcz11_2
     try clear hcz11_3
     try clear hcz12_0
     try clear hcz12_1
     try clear hcz12_2
     try clear hcz12_3
     try clear hcz14_0
     try clear hcz14_1
     try clear hcz14_2
     try clear hcz14_3
     try clear hcz16_0
     try clear hcz16_1
     try clear hcz16_2
     try clear hcz16_3
     try clear hcz6_0
     try clear hcz6_1
     try clear hcz6_2
     try clear hcz6_3
     try clear hcz9_0
     try clear hcz9_1
     try clear hcz9_2
     try clear hcz9_3
     try clear hfz11_0
     try clear hfz11_1
     try clear hfz11_2
     try clear hfz11_3
     try clear hfz12_0
     try clear hfz12_1
     try clear hfz12_2
     try clear hfz12_3
     try clear hfz14_0
     try clear hfz14_1
     try clear hfz14_2
     try clear hfz14_3
     try clear hfz16_0
     try clear hfz16_1
     try clear hfz16_2
     try clear hfz16_3
     try clear hfz6_0
     try clear hfz6_1
     try clear hfz6_2
     try clear hfz6_3
     try clear hfz9_0
     try clear hfz9_1
     try clear hfz9_2
     try clear hfz9_3
     try clear p2
     obtain ⟨x3_2, x25_2, rfl, rfl, HA, HK2, BK166, HB⟩ := hrel
     cases gk with
     | zero => exact absurd HA.out (by simp [resp_Check.l0])
     | succ k2 =>
      have H := HA.out
      clear HA
      simp only [resp_Check.l0] at H
      by_cases c17 : x25_2 < (l0_1.length : Int)
      ·rw [if_pos c17] at H
       have c17b0 : decide (x25_2 < (l0_1.length : Int)) = true := decide_eq_true c17
       clear c17
       by_cases c18 : 0 ≤ x25_2
       ·rw [if_pos c18] at H
        have c18b0 : decide (0 ≤ x25_2) = true := decide_eq_true c18
        clear c18
        by_cases c19 : x25_2 < (l0_1.length : Int)
        ·rw [if_pos c19] at H
         have c19b0 : decide (x25_2 < (l0_1.length : Int)) = true := decide_eq_true c19
         clear c19
         by_cases c20 : (wrap64 (x3_2 + (wrap64 ((((rd_T67 l0_1 x25_2).f0).size : Int) + (((rd_T67 l0_1 x25_2).f1).size : Int))))) > 4096
         ·rw [if_pos c20] at H
          have c20b0 : decide (4096 < (wrap64 (x3_2 + (wrap64 ((((rd_T67 l0_1 x25_2).f0).size : Int) + (((rd_T67 l0_1 x25_2).f1).size : Int)))))) = true := decide_eq_true c20
          clear c20
          obtain rfl := Option.some.inj H
          have p168 : 0 ≤ (x25_2 : Int) := of_decide_eq_true (by first | (with_reducible assumption) | assumption)
          have q168 : x25_2 < (l0_1.length : Int) := of_decide_eq_true (by first | (with_reducible assumption) | assumption)
          obtain ⟨ad168, e168, hx168_0, hx168_1⟩ := at_T67 HR0_1.out x25_2 p168 q168
          cases e168
          replace hx168_0 := (HB.out.cell (World.block_lt_of_cell? w _ hx168_0)).trans hx168_0
          replace hx168_1 := (HB.out.cell (World.block_lt_of_cell? w _ hx168_1)).trans hx168_1
          replace p168 := eq_true p168
          replace q168 := eq_true q168
          go_wp2_with (first | ((with_reducible refine gate_dst (N := 5) rfl ?_); (try (refine gate_guard (by rfl) ?_; dsimp only)); refine box_event ?hg (N := 5) ?hd (cs := #[.string (⟨#[]⟩ : ByteArray), .string (⟨#[]⟩ : ByteArray)]) (t := 67) ?hr ?_; (case hd => rfl); (case hg => rfl); (case hr => first | (go_simp; done) | (go_simp; rfl)); intro gb169 hg w21 hbox hb; have n0_ := Aside0.mk (blk_below (g := gb166) (o := .cells #[.int .i64 a0_0, .slice (some ad168) l0_1.length c0_1, .slice A0_2 l0_2.length c0_2, .bool a0_3] 54 (0, 0)) (by (with_reducible repeat (first | refine blk_drewN ?_ _ | refine blk_drew ?_ | refine blk_alloc ?_ _)); exact BK166.out) hb); have n1_ := Aside0.mk (below_step (by repeat (first | (with_reducible first | exact HB.out | apply below_alloc | apply pw_below_drewN | apply below_drew1 | refine below_set ?_ GE166.out) | exact HB.out)) hb); have n2_ := Aside0.mk (hbox); have n3_ := Aside0.mk ((by rw [hg]; exact (below_size (by repeat (first | (with_reducible first | exact HB.out | apply below_alloc | apply pw_below_drewN | apply below_drew1 | refine below_set ?_ GE166.out) | exact HB.out))) : w.heap.size ≤ gb169)); have n4_ := Aside0.mk ((by rw [hg]; exact (below_size (by repeat (first | (with_reducible first | exact HB.out | apply below_alloc | apply pw_below_drewN | apply below_drew1 | refine below_set ?_ GE166.out) | exact HB.out))) : w.heap.size ≤ gb169)); have n5_ := Aside0.mk ((by rw [hg]; exact Nat.ne_of_lt (blk_lt (g := gb166) (o := .cells #[.int .i64 a0_0, .slice (some ad168) l0_1.length c0_1, .slice A0_2 l0_2.length c0_2, .bool a0_3] 54 (0, 0)) (by (with_reducible repeat (first | refine blk_drewN ?_ _ | refine blk_drew ?_ | refine blk_alloc ?_ _)); exact BK166.out)) : gb166 ≠ gb169)); have n6_ := Aside0.mk ((by rw [hg]; exact Nat.ne_of_gt (blk_lt (g := gb166) (o := .cells #[.int .i64 a0_0, .slice (some ad168) l0_1.length c0_1, .slice A0_2 l0_2.length c0_2, .bool a0_3] 54 (0, 0)) (by (with_reducible repeat (first | refine blk_drewN ?_ _ | refine blk_drew ?_ | refine blk_alloc ?_ _)); exact BK166.out)) : gb169 ≠ gb166)); clear BK166; clear HB; have BK166 := n0_; have HB := n1_; have BK169 := n2_; have GW169 := n3_; have GE169 := n4_; have NB166_169 := n5_; have NB169_166 := n6_; clear n0_ n1_ n2_ n3_ n4_ n5_ n6_; clear hb hbox hg; have hnb22 := NB169_166.out; have hnc22 := NB166_169.out; have hcz23_0 : w21.cell? ⟨gb169, 0, none⟩ = some (.string (⟨#[]⟩ : ByteArray)) := (blk_cell BK169.out 0).trans rfl; have hcz23_1 : w21.cell? ⟨gb169, 1, none⟩ = some (.string (⟨#[]⟩ : ByteArray)) := (blk_cell BK169.out 1).trans rfl; have hfz23_0 := blk_frozen BK169.out 0; have hfz23_1 := blk_frozen BK169.out 1))
          go_ret
          exact ⟨by first | rfl | (simp [errW_none, errW_some] <;> rfl) | (simp [*, errW_none, errW_some] <;> rfl), by repeat (first | (with_reducible first | exact HB.out | apply below_alloc | apply pw_below_drewN | apply below_drew1 | refine below_set ?_ GE166.out | refine below_set ?_ GE169.out) | exact HB.out)⟩
         ·rw [if_neg c20] at H
          have c20b0 : decide (4096 < (wrap64 (x3_2 + (wrap64 ((((rd_T67 l0_1 x25_2).f0).size : Int) + (((rd_T67 l0_1 x25_2).f1).size : Int)))))) = false := decide_eq_false c20
          clear c20
          replace H := Option.bind_eq_some_iff.mp H
          obtain ⟨t170, A240, H⟩ := H
          replace H : (if t170 = true then (some 2) else ((resp_fine.f k2 ((rd_T67 l0_1 x25_2).f0) ((rd_T67 l0_1 x25_2).f1)).bind fun t171 => (if t171 = true then (resp_Check.l0 k2 (wrap64 (x3_2 + (wrap64 ((((rd_T67 l0_1 x25_2).f0).size : Int) + (((rd_T67 l0_1 x25_2).f1).size : Int))))) l0_1 (l0_1.length : Int) (wrap64 (x25_2 + 1))) else (some 2)))) = some r := H
          have A24 := Aside0.mk A240
          clear A240
          by_cases c25 : t170 = true
          ·subst c25
           have H1 : (some 2) = some r := by rw [if_pos rfl] at H; exact H
           clear H
           have H := H1
           clear H1
           obtain rfl := Option.some.inj H
           have p168 : 0 ≤ (x25_2 : Int) := of_decide_eq_true (by first | (with_reducible assumption) | assumption)
           have q168 : x25_2 < (l0_1.length : Int) := of_decide_eq_true (by first | (with_reducible assumption) | assumption)
           obtain ⟨ad168, e168, hx168_0, hx168_1⟩ := at_T67 HR0_1.out x25_2 p168 q168
           cases e168
           replace hx168_0 := (HB.out.cell (World.block_lt_of_cell? w _ hx168_0)).trans hx168_0
           replace hx168_1 := (HB.out.cell (World.block_lt_of_cell? w _ hx168_1)).trans hx168_1
           replace p168 := eq_true p168
           replace q168 := eq_true q168
           go_wp2_with (first | ((with_reducible refine gate_dst (N := 5) rfl ?_); (try (refine gate_guard (by rfl) ?_; dsimp only)); refine box_event ?hg (N := 5) ?hd (cs := #[.string (⟨#[]⟩ : ByteArray), .string (⟨#[]⟩ : ByteArray)]) (t := 67) ?hr ?_; (case hd => rfl); (case hg => rfl); (case hr => first | (go_simp; done) | (go_simp; rfl)); intro gb169 hg w26 hbox hb; have n0_ := Aside0.mk (blk_below (g := gb166) (o := .cells #[.int .i64 a0_0, .slice (some ad168) l0_1.length c0_1, .slice A0_2 l0_2.length c0_2, .bool a0_3] 54 (0, 0)) (by (with_reducible repeat (first | refine blk_drewN ?_ _ | refine blk_drew ?_ | refine blk_alloc ?_ _)); exact BK166.out) hb); have n1_ := Aside0.mk (below_step (by repeat (first | (with_reducible first | exact HB.out | apply below_alloc | apply pw_below_drewN | apply below_drew1 | refine below_set ?_ GE166.out) | exact HB.out)) hb); have n2_ := Aside0.mk (hbox); have n3_ := Aside0.mk ((by rw [hg]; exact (below_size (by repeat (first | (with_reducible first | exact HB.out | apply below_alloc | apply pw_below_drewN | apply below_drew1 | refine below_set ?_ GE166.out) | exact HB.out))) : w.heap.size ≤ gb169)); have n4_ := Aside0.mk ((by rw [hg]; exact (below_size (by repeat (first | (with_reducible first | exact HB.out | apply below_alloc | apply pw_below_drewN | apply below_drew1 | refine below_set ?_ GE166.out) | exact HB.out))) : w.heap.size ≤ gb169)); have n5_ := Aside0.mk ((by rw [hg]; exact Nat.ne_of_lt (blk_lt (g := gb166) (o := .cells #[.int .i64 a0_0, .slice (some ad168) l0_1.length c0_1, .slice A0_2 l0_2.length c0_2, .bool a0_3] 54 (0, 0)) (by (with_reducible repeat (first | refine blk_drewN ?_ _ | refine blk_drew ?_ | refine blk_alloc ?_ _)); exact BK166.out)) : gb166 ≠ gb169)); have n6_ := Aside0.mk ((by rw [hg]; exact Nat.ne_of_gt (blk_lt (g := gb166) (o := .cells #[.int .i64 a0_0, .slice (some ad168) l0_1.length c0_1, .slice A0_2 l0_2.length c0_2, .bool a0_3] 54 (0, 0)) (by (with_reducible repeat (first | refine blk_drewN ?_ _ | refine blk_drew ?_ | refine blk_alloc ?_ _)); exact BK166.out)) : gb169 ≠ gb166)); clear BK166; clear HB; have BK166 := n0_; have HB := n1_; have BK169 := n2_; have GW169 := n3_; have GE169 := n4_; have NB166_169 := n5_; have NB169_166 := n6_; clear n0_ n1_ n2_ n3_ n4_ n5_ n6_; clear hb hbox hg; have hnb27 := NB169_166.out; have hnc27 := NB166_169.out; have hcz28_0 : w26.cell? ⟨gb169, 0, none⟩ = some (.string (⟨#[]⟩ : ByteArray)) := (blk_cell BK169.out 0).trans rfl; have hcz28_1 : w26.cell? ⟨gb169, 1, none⟩ = some (.string (⟨#[]⟩ : ByteArray)) := (blk_cell BK169.out 1).trans rfl; have hfz28_0 := blk_frozen BK169.out 0; have hfz28_1 := blk_frozen BK169.out 1) | (go_at_call 68; (with_reducible refine (resp_own.calls k2 ((rd_T67 l0_1 x25_2).f0) ((rd_T67 l0_1 x25_2).f1) true _ A24.out).mono ?_); rintro e w29 ⟨rfl, hb⟩; have n0_ := Aside0.mk (blk_below (g := gb166) (o := .cells #[.int .i64 a0_0, .slice (some ad168) l0_1.length c0_1, .slice A0_2 l0_2.length c0_2, .bool a0_3] 54 (0, 0)) (by (with_reducible repeat (first | refine blk_drewN ?_ _ | refine blk_drew ?_ | refine blk_alloc ?_ _)); refine blk_far ?_ NB166_169.out _; (with_reducible repeat (first | refine blk_drewN ?_ _ | refine blk_drew ?_ | refine blk_alloc ?_ _)); refine blk_far ?_ NB166_169.out _; (with_reducible repeat (first | refine blk_drewN ?_ _ | refine blk_drew ?_ | refine blk_alloc ?_ _)); exact BK166.out) hb); have n1_ := Aside0.mk (blk_below (g := gb169) (o := .cells #[.string ((rd_T67 l0_1 x25_2).f0), .string ((rd_T67 l0_1 x25_2).f1)] 67 (0, 0)) (by (with_reducible repeat (first | refine blk_drewN ?_ _ | refine blk_drew ?_ | refine blk_alloc ?_ _)); refine blk_put (cs := #[.string ((rd_T67 l0_1 x25_2).f0), .string (⟨#[]⟩ : ByteArray)]) ?_ 1 _ rfl; (with_reducible repeat (first | refine blk_drewN ?_ _ | refine blk_drew ?_ | refine blk_alloc ?_ _)); refine blk_put (cs := #[.string (⟨#[]⟩ : ByteArray), .string (⟨#[]⟩ : ByteArray)]) ?_ 0 _ rfl; (with_reducible repeat (first | refine blk_drewN ?_ _ | refine blk_drew ?_ | refine blk_alloc ?_ _)); exact BK169.out) hb); have n2_ := Aside0.mk (below_step (by repeat (first | (with_reducible first | exact HB.out | apply below_alloc | apply pw_below_drewN | apply below_drew1 | refine below_set ?_ GE166.out | refine below_set ?_ GE169.out) | exact HB.out)) hb); clear BK166; clear BK169; clear HB; have BK166 := n0_; have BK169 := n1_; have HB := n2_; clear n0_ n1_ n2_; (try clear hb); (try clear hb2); (try clear hk); (try clear hi)))
           go_ret
           exact ⟨by first | rfl | (simp [errW_none, errW_some] <;> rfl) | (simp [*, errW_none, errW_some] <;> rfl), by repeat (first | (with_reducible first | exact HB.out | apply below_alloc | apply pw_below_drewN | apply below_drew1 | refine below_set ?_ GE166.out | refine below_set ?_ GE169.out) | exact HB.out)⟩
          ·replace c25 := Bool.eq_false_iff.mpr c25
           subst c25
           have H1 : ((resp_fine.f k2 ((rd_T67 l0_1 x25_2).f0) ((rd_T67 l0_1 x25_2).f1)).bind fun t171 => (if t171 = true then (resp_Check.l0 k2 (wrap64 (x3_2 + (wrap64 ((((rd_T67 l0_1 x25_2).f0).size : Int) + (((rd_T67 l0_1 x25_2).f1).size : Int))))) l0_1 (l0_1.length : Int) (wrap64 (x25_2 + 1))) else (some 2))) = some r := by rw [if_neg (show ¬ (false = true) by decide)] at H; exact H
           clear H
           have H := H1
           clear H1
           replace H := Option.bind_eq_some_iff.mp H
           obtain ⟨t171, A300, H⟩ := H
           replace H : (if t171 = true then (resp_Check.l0 k2 (wrap64 (x3_2 + (wrap64 ((((rd_T67 l0_1 x25_2).f0).size : Int) + (((rd_T67 l0_1 x25_2).f1).size : Int))))) l0_1 (l0_1.length : Int) (wrap64 (x25_2 + 1))) else (some 2)) = some r := H
           have A30 := Aside0.mk A300
           clear A300
           by_cases c31 : t171 = true
           ·subst c31
            have H1 : (resp_Check.l0 k2 (wrap64 (x3_2 + (wrap64 ((((rd_T67 l0_1 x25_2).f0).size : Int) + (((rd_T67 l0_1 x25_2).f1).size : Int))))) l0_1 (l0_1.length : Int) (wrap64 (x25_2 + 1))) = some r := by rw [if_pos rfl] at H; exact H
            clear H
            have H := H1
            clear H1
            have H' := Aside0.mk H
            clear H
            have p168 : 0 ≤ (x25_2 : Int) := of_decide_eq_true (by first | (with_reducible assumption) | assumption)
            have q168 : x25_2 < (l0_1.length : Int) := of_decide_eq_true (by first | (with_reducible assumption) | assumption)
            obtain ⟨ad168, e168, hx168_0, hx168_1⟩ := at_T67 HR0_1.out x25_2 p168 q168
            cases e168
            replace hx168_0 := (HB.out.cell (World.block_lt_of_cell? w _ hx168_0)).trans hx168_0
            replace hx168_1 := (HB.out.cell (World.block_lt_of_cell? w _ hx168_1)).trans hx168_1
            replace p168 := eq_true p168
            replace q168 := eq_true q168
            go_wp2_with (first | ((with_reducible refine gate_dst (N := 5) rfl ?_); (try (refine gate_guard (by rfl) ?_; dsimp only)); refine box_event ?hg (N := 5) ?hd (cs := #[.string (⟨#[]⟩ : ByteArray), .string (⟨#[]⟩ : ByteArray)]) (t := 67) ?hr ?_; (case hd => rfl); (case hg => rfl); (case hr => first | (go_simp; done) | (go_simp; rfl)); intro gb169 hg w32 hbox hb; have n0_ := Aside0.mk (blk_below (g := gb166) (o := .cells #[.int .i64 a0_0, .slice (some ad168) l0_1.length c0_1, .slice A0_2 l0_2.length c0_2, .bool a0_3] 54 (0, 0)) (by (with_reducible repeat (first | refine blk_drewN ?_ _ | refine blk_drew ?_ | refine blk_alloc ?_ _)); exact BK166.out) hb); have n1_ := Aside0.mk (below_step (by repeat (first | (with_reducible first | exact HB.out | apply below_alloc | apply pw_below_drewN | apply below_drew1 | refine below_set ?_ GE166.out) | exact HB.out)) hb); have n2_ := Aside0.mk (hbox); have n3_ := Aside0.mk ((by rw [hg]; exact (below_size (by repeat (first | (with_reducible first | exact HB.out | apply below_alloc | apply pw_below_drewN | apply below_drew1 | refine below_set ?_ GE166.out) | exact HB.out))) : w.heap.size ≤ gb169)); have n4_ := Aside0.mk ((by rw [hg]; exact (below_size (by repeat (first | (with_reducible first | exact HB.out | apply below_alloc | apply pw_below_drewN | apply below_drew1 | refine below_set ?_ GE166.out) | exact HB.out))) : w.heap.size ≤ gb169)); have n5_ := Aside0.mk ((by rw [hg]; exact Nat.ne_of_lt (blk_lt (g := gb166) (o := .cells #[.int .i64 a0_0, .slice (some ad168) l0_1.length c0_1, .slice A0_2 l0_2.length c0_2, .bool a0_3] 54 (0, 0)) (by (with_reducible repeat (first | refine blk_drewN ?_ _ | refine blk_drew ?_ | refine blk_alloc ?_ _)); exact BK166.out)) : gb166 ≠ gb169)); have n6_ := Aside0.mk ((by rw [hg]; exact Nat.ne_of_gt (blk_lt (g := gb166) (o := .cells #[.int .i64 a0_0, .slice (some ad168) l0_1.length c0_1, .slice A0_2 l0_2.length c0_2, .bool a0_3] 54 (0, 0)) (by (with_reducible repeat (first | refine blk_drewN ?_ _ | refine blk_drew ?_ | refine blk_alloc ?_ _)); exact BK166.out)) : gb169 ≠ gb166)); clear BK166; clear HB; have BK166 := n0_; have HB := n1_; have BK169 := n2_; have GW169 := n3_; have GE169 := n4_; have NB166_169 := n5_; have NB169_166 := n6_; clear n0_ n1_ n2_ n3_ n4_ n5_ n6_; clear hb hbox hg; have hnb33 := NB169_166.out; have hnc33 := NB166_169.out; have hcz34_0 : w32.cell? ⟨gb169, 0, none⟩ = some (.string (⟨#[]⟩ : ByteArray)) := (blk_cell BK169.out 0).trans rfl; have hcz34_1 : w32.cell? ⟨gb169, 1, none⟩ = some (.string (⟨#[]⟩ : ByteArray)) := (blk_cell BK169.out 1).trans rfl; have hfz34_0 := blk_frozen BK169.out 0; have hfz34_1 := blk_frozen BK169.out 1) | (go_at_call 68; (with_reducible refine (resp_own.calls k2 ((rd_T67 l0_1 x25_2).f0) ((rd_T67 l0_1 x25_2).f1) false _ A24.out).mono ?_); rintro e w35 ⟨rfl, hb⟩; have n0_ := Aside0.mk (blk_below (g := gb166) (o := .cells #[.int .i64 a0_0, .slice (some ad168) l0_1.length c0_1, .slice A0_2 l0_2.length c0_2, .bool a0_3] 54 (0, 0)) (by (with_reducible repeat (first | refine blk_drewN ?_ _ | refine blk_drew ?_ | refine blk_alloc ?_ _)); refine blk_far ?_ NB166_169.out _; (with_reducible repeat (first | refine blk_drewN ?_ _ | refine blk_drew ?_ | refine blk_alloc ?_ _)); refine blk_far ?_ NB166_169.out _; (with_reducible repeat (first | refine blk_drewN ?_ _ | refine blk_drew ?_ | refine blk_alloc ?_ _)); exact BK166.out) hb); have n1_ := Aside0.mk (blk_below (g := gb169) (o := .cells #[.string ((rd_T67 l0_1 x25_2).f0), .string ((rd_T67 l0_1 x25_2).f1)] 67 (0, 0)) (by (with_reducible repeat (first | refine blk_drewN ?_ _ | refine blk_drew ?_ | refine blk_alloc ?_ _)); refine blk_put (cs := #[.string ((rd_T67 l0_1 x25_2).f0), .string (⟨#[]⟩ : ByteArray)]) ?_ 1 _ rfl; (with_reducible repeat (first | refine blk_drewN ?_ _ | refine blk_drew ?_ | refine blk_alloc ?_ _)); refine blk_put (cs := #[.string (⟨#[]⟩ : ByteArray), .string (⟨#[]⟩ : ByteArray)]) ?_ 0 _ rfl; (with_reducible repeat (first | refine blk_drewN ?_ _ | refine blk_drew ?_ | refine blk_alloc ?_ _)); exact BK169.out) hb); have n2_ := Aside0.mk (below_step (by repeat (first | (with_reducible first | exact HB.out | apply below_alloc | apply pw_below_drewN | apply below_drew1 | refine below_set ?_ GE166.out | refine below_set ?_ GE169.out) | exact HB.out)) hb); clear BK166; clear BK169; clear HB; have BK166 := n0_; have BK169 := n1_; have HB := n2_; clear n0_ n1_ n2_; (try clear hb); (try clear hb2); (try clear hk); (try clear hi); have hcz36_0 : w35.cell? ⟨gb169, 0, none⟩ = some (.string ((rd_T67 l0_1 x25_2).f0)) := (blk_cell BK169.out 0).trans rfl; have hcz36_1 : w35.cell? ⟨gb169, 1, none⟩ = some (.string ((rd_T67 l0_1 x25_2).f1)) := (blk_cell BK169.out 1).trans rfl; have hfz36_0 := blk_frozen BK169.out 0; have hfz36_1 := blk_frozen BK169.out 1) | (go_at_call 69; (with_reducible refine (resp_fine.calls k2 ((rd_T67 l0_1 x25_2).f0) ((rd_T67 l0_1 x25_2).f1) true _ A30.out).mono ?_); rintro e w37 ⟨rfl, hb⟩; have n0_ := Aside0.mk (blk_below (g := gb166) (o := .cells #[.int .i64 a0_0, .slice (some ad168) l0_1.length c0_1, .slice A0_2 l0_2.length c0_2, .bool a0_3] 54 (0, 0)) (by (with_reducible repeat (first | refine blk_drewN ?_ _ | refine blk_drew ?_ | refine blk_alloc ?_ _)); exact BK166.out) hb); have n1_ := Aside0.mk (blk_below (g := gb169) (o := .cells #[.string ((rd_T67 l0_1 x25_2).f0), .string ((rd_T67 l0_1 x25_2).f1)] 67 (0, 0)) (by (with_reducible repeat (first | refine blk_drewN ?_ _ | refine blk_drew ?_ | refine blk_alloc ?_ _)); exact BK169.out) hb); have n2_ := Aside0.mk (below_step (by repeat (first | (with_reducible first | exact HB.out | apply below_alloc | apply pw_below_drewN | apply below_drew1 | refine below_set ?_ GE166.out | refine below_set ?_ GE169.out) | exact HB.out)) hb); clear BK166; clear BK169; clear HB; have BK166 := n0_; have BK169 := n1_; have HB := n2_; clear n0_ n1_ n2_; (try clear hb); (try clear hb2); (try clear hk); (try clear hi)))
            go_roundg k2
            case measure => have := HJ1.out; have := HK2.out; omega
            case rel => exact ⟨(wrap64 (x3_2 + (wrap64 ((((rd_T67 l0_1 x25_2).f0).size : Int) + (((rd_T67 l0_1 x25_2).f1).size : Int))))), (wrap64 (x25_2 + 1)), (by first | rfl | (simp; done) | (simp [*]; done)), (by first | rfl | (simp; done) | (simp [*]; done)), H', ⟨by have := HJ1.out; have := HK2.out; omega⟩, ⟨by (with_reducible repeat (first | refine blk_drewN ?_ _ | refine blk_drew ?_ | refine blk_alloc ?_ _)); exact BK166.out⟩, ⟨by repeat (first | (with_reducible first | exact HB.out | apply below_alloc | apply pw_below_drewN | apply below_drew1 | refine below_set ?_ GE166.out | refine below_set ?_ GE169.out) | exact HB.out)⟩⟩
           ·replace c31 := Bool.eq_false_iff.mpr c31
            subst c31
            have H1 : (some 2) = some r := by rw [if_neg (show ¬ (false = true) by decide)] at H; exact H
            clear H
            have H := H1
            clear H1
            obtain rfl := Option.some.inj H
            have p168 : 0 ≤ (x25_2 : Int) := of_decide_eq_true (by first | (with_reducible assumption) | assumption)
            have q168 : x25_2 < (l0_1.length : Int) := of_decide_eq_true (by first | (with_reducible assumption) | assumption)
            obtain ⟨ad168, e168, hx168_0, hx168_1⟩ := at_T67 HR0_1.out x25_2 p168 q168
            cases e168
            replace hx168_0 := (HB.out.cell (World.block_lt_of_cell? w _ hx168_0)).trans hx168_0
            replace hx168_1 := (HB.out.cell (World.block_lt_of_cell? w _ hx168_1)).trans hx168_1
            replace p168 := eq_true p168
            replace q168 := eq_true q168
            go_wp2_with (first | ((with_reducible refine gate_dst (N := 5) rfl ?_); (try (refine gate_guard (by rfl) ?_; dsimp only)); refine box_event ?hg (N := 5) ?hd (cs := #[.string (⟨#[]⟩ : ByteArray), .string (⟨#[]⟩ : ByteArray)]) (t := 67) ?hr ?_; (case hd => rfl); (case hg => rfl); (case hr => first | (go_simp; done) | (go_simp; rfl)); intro gb169 hg w38 hbox hb; have n0_ := Aside0.mk (blk_below (g := gb166) (o := .cells #[.int .i64 a0_0, .slice (some ad168) l0_1.length c0_1, .slice A0_2 l0_2.length c0_2, .bool a0_3] 54 (0, 0)) (by (with_reducible repeat (first | refine blk_drewN ?_ _ | refine blk_drew ?_ | refine blk_alloc ?_ _)); exact BK166.out) hb); have n1_ := Aside0.mk (below_step (by repeat (first | (with_reducible first | exact HB.out | apply below_alloc | apply pw_below_drewN | apply below_drew1 | refine below_set ?_ GE166.out) | exact HB.out)) hb); have n2_ := Aside0.mk (hbox); have n3_ := Aside0.mk ((by rw [hg]; exact (below_size (by repeat (first | (with_reducible first | exact HB.out | apply below_alloc | apply pw_below_drewN | apply below_drew1 | refine below_set ?_ GE166.out) | exact HB.out))) : w.heap.size ≤ gb169)); have n4_ := Aside0.mk ((by rw [hg]; exact (below_size (by repeat (first | (with_reducible first | exact HB.out | apply below_alloc | apply pw_below_drewN | apply below_drew1 | refine below_set ?_ GE166.out) | exact HB.out))) : w.heap.size ≤ gb169)); have n5_ := Aside0.mk ((by rw [hg]; exact Nat.ne_of_lt (blk_lt (g := gb166) (o := .cells #[.int .i64 a0_0, .slice (some ad168) l0_1.length c0_1, .slice A0_2 l0_2.length c0_2, .bool a0_3] 54 (0, 0)) (by (with_reducible repeat (first | refine blk_drewN ?_ _ | refine blk_drew ?_ | refine blk_alloc ?_ _)); exact BK166.out)) : gb166 ≠ gb169)); have n6_ := Aside0.mk ((by rw [hg]; exact Nat.ne_of_gt (blk_lt (g := gb166) (o := .cells #[.int .i64 a0_0, .slice (some ad168) l0_1.length c0_1, .slice A0_2 l0_2.length c0_2, .bool a0_3] 54 (0, 0)) (by (with_reducible repeat (first | refine blk_drewN ?_ _ | refine blk_drew ?_ | refine blk_alloc ?_ _)); exact BK166.out)) : gb169 ≠ gb166)); clear BK166; clear HB; have BK166 := n0_; have HB := n1_; have BK169 := n2_; have GW169 := n3_; have GE169 := n4_; have NB166_169 := n5_; have NB169_166 := n6_; clear n0_ n1_ n2_ n3_ n4_ n5_ n6_; clear hb hbox hg; have hnb39 := NB169_166.out; have hnc39 := NB166_169.out; have hcz40_0 : w38.cell? ⟨gb169, 0, none⟩ = some (.string (⟨#[]⟩ : ByteArray)) := (blk_cell BK169.out 0).trans rfl; have hcz40_1 : w38.cell? ⟨gb169, 1, none⟩ = some (.string (⟨#[]⟩ : ByteArray)) := (blk_cell BK169.out 1).trans rfl; have hfz40_0 := blk_frozen BK169.out 0; have hfz40_1 := blk_frozen BK169.out 1) | (go_at_call 68; (with_reducible refine (resp_own.calls k2 ((rd_T67 l0_1 x25_2).f0) ((rd_T67 l0_1 x25_2).f1) false _ A24.out).mono ?_); rintro e w41 ⟨rfl, hb⟩; have n0_ := Aside0.mk (blk_below (g := gb166) (o := .cells #[.int .i64 a0_0, .slice (some ad168) l0_1.length c0_1, .slice A0_2 l0_2.length c0_2, .bool a0_3] 54 (0, 0)) (by (with_reducible repeat (first | refine blk_drewN ?_ _ | refine blk_drew ?_ | refine blk_alloc ?_ _)); refine blk_far ?_ NB166_169.out _; (with_reducible repeat (first | refine blk_drewN ?_ _ | refine blk_drew ?_ | refine blk_alloc ?_ _)); refine blk_far ?_ NB166_169.out _; (with_reducible repeat (first | refine blk_drewN ?_ _ | refine blk_drew ?_ | refine blk_alloc ?_ _)); exact BK166.out) hb); have n1_ := Aside0.mk (blk_below (g := gb169) (o := .cells #[.string ((rd_T67 l0_1 x25_2).f0), .string ((rd_T67 l0_1 x25_2).f1)] 67 (0, 0)) (by (with_reducible repeat (first | refine blk_drewN ?_ _ | refine blk_drew ?_ | refine blk_alloc ?_ _)); refine blk_put (cs := #[.string ((rd_T67 l0_1 x25_2).f0), .string (⟨#[]⟩ : ByteArray)]) ?_ 1 _ rfl; (with_reducible repeat (first | refine blk_drewN ?_ _ | refine blk_drew ?_ | refine blk_alloc ?_ _)); refine blk_put (cs := #[.string (⟨#[]⟩ : ByteArray), .string (⟨#[]⟩ : ByteArray)]) ?_ 0 _ rfl; (with_reducible repeat (first | refine blk_drewN ?_ _ | refine blk_drew ?_ | refine blk_alloc ?_ _)); exact BK169.out) hb); have n2_ := Aside0.mk (below_step (by repeat (first | (with_reducible first | exact HB.out | apply below_alloc | apply pw_below_drewN | apply below_drew1 | refine below_set ?_ GE166.out | refine below_set ?_ GE169.out) | exact HB.out)) hb); clear BK166; clear BK169; clear HB; have BK166 := n0_; have BK169 := n1_; have HB := n2_; clear n0_ n1_ n2_; (try clear hb); (try clear hb2); (try clear hk); (try clear hi); have hcz42_0 : w41.cell? ⟨gb169, 0, none⟩ = some (.string ((rd_T67 l0_1 x25_2).f0)) := (blk_cell BK169.out 0).trans rfl; have hcz42_1 : w41.cell? ⟨gb169, 1, none⟩ = some (.string ((rd_T67 l0_1 x25_2).f1)) := (blk_cell BK169.out 1).trans rfl; have hfz42_0 := blk_frozen BK169.out 0; have hfz42_1 := blk_frozen BK169.out 1) | (go_at_call 69; (with_reducible refine (resp_fine.calls k2 ((rd_T67 l0_1 x25_2).f0) ((rd_T67 l0_1 x25_2).f1) false _ A30.out).mono ?_); rintro e w43 ⟨rfl, hb⟩; have n0_ := Aside0.mk (blk_below (g := gb166) (o := .cells #[.int .i64 a0_0, .slice (some ad168) l0_1.length c0_1, .slice A0_2 l0_2.length c0_2, .bool a0_3] 54 (0, 0)) (by (with_reducible repeat (first | refine blk_drewN ?_ _ | refine blk_drew ?_ | refine blk_alloc ?_ _)); exact BK166.out) hb); have n1_ := Aside0.mk (blk_below (g := gb169) (o := .cells #[.string ((rd_T67 l0_1 x25_2).f0), .string ((rd_T67 l0_1 x25_2).f1)] 67 (0, 0)) (by (with_reducible repeat (first | refine blk_drewN ?_ _ | refine blk_drew ?_ | refine blk_alloc ?_ _)); exact BK169.out) hb); have n2_ := Aside0.mk (below_step (by repeat (first | (with_reducible first | exact HB.out | apply below_alloc | apply pw_below_drewN | apply below_drew1 | refine below_set ?_ GE166.out | refine below_set ?_ GE169.out) | exact HB.out)) hb); clear BK166; clear BK169; clear HB; have BK166 := n0_; have BK169 := n1_; have HB := n2_; clear n0_ n1_ n2_; (try clear hb); (try clear hb2); (try clear hk); (try clear hi)))
            go_ret
            exact ⟨by first | rfl | (simp [errW_none, errW_some] <;> rfl) | (simp [*, errW_none, errW_some] <;> rfl), by repeat (first | (with_reducible first | exact HB.out | apply below_alloc | apply pw_below_drewN | apply below_drew1 | refine below_set ?_ GE166.out | refine below_set ?_ GE169.out) | exact HB.out)⟩
        ·rw [if_neg c19] at H
         exact absurd H (by simp)
       ·rw [if_neg c18] at H
        exact absurd H (by simp)
      ·rw [if_neg c17] at H
       have c17b0 : decide (x25_2 < (l0_1.length : Int)) = false := decide_eq_false c17
       clear c17
       obtain rfl := Option.some.inj H
       go_wp2
       go_ret
       exact ⟨by first | rfl | (simp [errW_none, errW_some] <;> rfl) | (simp [*, errW_none, errW_some] <;> rfl), by repeat (first | (with_reducible first | exact HB.out | apply below_alloc | apply pw_below_drewN | apply below_drew1 | refine below_set ?_ GE166.out) | exact HB.out)⟩

/-! ### strconv_Itoa_66: function 66 -/
def strconv_Itoa_66.f (a0 : Int) : Option ByteArray := if -9223372036854775808 ≤ a0 ∧ a0 ≤ 9223372036854775807 then some ⟨(Lib.itoa a0).toArray⟩ else none
theorem strconv_Itoa_66.calls (a0 : Int) (r : ByteArray) (w : World) (hG : GG 2 w) (h : strconv_Itoa_66.f a0 = some r) :
  Calls Tryd.prog 66 #[.int .i64 a0] w fun e w' => e = .returned (.string r) ∧ Below w.heap.size w w' := by
 unfold strconv_Itoa_66.f at h
 by_cases hs : -9223372036854775808 ≤ a0 ∧ a0 ≤ 9223372036854775807
 ·rw [if_pos hs] at h
  refine (Tryd.strconv_Itoa a0 hs.1 hs.2 w (hG.2.1 (by decide)).1).mono ?_
  rintro e w' ⟨he, k, os, rfl⟩
  rw [Option.some.inj h] at he
  exact ⟨he, Lib.below_grow _ _ (Nat.le_refl _) _ _⟩
 ·rw [if_neg hs] at h
  cases h

/-! ### resp_Write: function 31 -/
/-! resp.Write: what it writes. -/
abbrev rH11 : ByteArray := ⟨#[72, 84, 84, 80, 47, 49, 46, 49, 32]⟩
abbrev rSP : ByteArray := ⟨#[32]⟩
abbrev rCOL : ByteArray := ⟨#[58, 32]⟩
abbrev rCLH : ByteArray := ⟨#[67, 111, 110, 116, 101, 110, 116, 45, 76, 101, 110, 103, 116, 104, 58, 32]⟩
abbrev rCC : ByteArray := ⟨#[67, 111, 110, 110, 101, 99, 116, 105, 111, 110, 58, 32, 99, 108, 111, 115, 101]⟩
def itoaB (n : Int) : ByteArray := ⟨(Lib.itoa n).toArray⟩
def rfield8 (f : S67) : List UInt8 := line8 [f.f0, rCOL, f.f1]
def rfirst8 (st : Int) : List UInt8 := line8 [rH11, itoaB st, rSP, reasonS st]
def rend8 (n : Int) (keep : Bool) : List UInt8 := line8 [rCLH, itoaB n] ++ ((if keep then [] else line8 [rCC]) ++ line8 [])
def resp8 (st : Int) (fs : List (S67)) (n : Int) (keep : Bool) : List UInt8 := rfirst8 st ++ (fs.flatMap rfield8 ++ rend8 n keep)
def n8 (l : List UInt8) : List Int := l.map fun b => (b.toNat : Int)
theorem sbf_below {b : Nat} {bs : List Value} {w W : World} (h : SBF b bs w) (hb : Below w.heap.size w W) : SBF b bs W := by
 rcases h with ⟨hB, v, hk, ho, hn⟩ | ⟨hB, v, hk, ho, hn⟩
 ·exact .inl ⟨hB, v, blk_below hk hb, ho.kept (row := none) (grown_of_below hb none) (by cases v.ownBlock <;> simp), hn⟩
 ·exact .inr ⟨hB, v, blk_below hk hb, ho.kept (row := none) (grown_of_below hb none) (by cases v.ownBlock <;> simp), hn⟩
theorem src_C {W : World} {A : Option Addr} {n : Nat} {ys : List Int} (hn : n = ys.length) (h : Kd.C (Kd.int .u8) W A n ys) (c : Nat) : Src Tryd.prog 1 25 (.slice A n c) ys.length (ys.map (Value.int .u8)) W := by
 subst hn
 have hr := Kd.reads_of_C (d := (0 : Int)) h
 cases A with
 | none =>
  have h0 : ys.length = 0 := by
   rcases Nat.eq_zero_or_pos ys.length with h0 | h0
   ·exact h0
   ·obtain ⟨ad, e, _⟩ := hr.2.2 h0
    cases e
  have hy : ys = [] := List.length_eq_zero_iff.1 h0
  subst hy
  exact Src.ofNil W Tryd.underlying25 c
 | some ad =>
  refine Src.ofSlice W Tryd.underlying25 ad ys.length c _ (by simp) (fun j u hj => ?_) (fun u hu => by obtain ⟨y, _, rfl⟩ := List.mem_map.1 hu; rfl)
  rw [List.getElem?_map] at hj
  obtain ⟨y, hy, rfl⟩ := Option.map_eq_some_iff.1 hj
  obtain ⟨hj, hy⟩ := List.getElem?_eq_some_iff.1 hy
  obtain ⟨ad', e, hc⟩ := hr.2.2 (by omega)
  cases e
  have := hc j hj
  simp only [List.getD_eq_getElem?_getD, List.getElem?_eq_getElem hj, hy] at this
  exact this
theorem ofstr_row (W : World) (L : List UInt8) (hs : L.length ≤ 9223372036854775807) :
  MRow (Lib.bytesWorld W 5 ⟨L.toArray⟩) W.heap.size (grownCap W L.length 0 5) (bytesOf ⟨L.toArray⟩) ∧ Below W.heap.size W (Lib.bytesWorld W 5 ⟨L.toArray⟩) ∧ (convert 9 25 (.string ⟨L.toArray⟩)).run Tryd.prog W = .ok (.slice (some ⟨W.heap.size, 0, none⟩) L.length (grownCap W L.length 0 5)) (Lib.bytesWorld W 5 ⟨L.toArray⟩) := by
 obtain ⟨g, cap, w1, hr, hg, hm, hb⟩ := run_ofstr_M (P := Tryd.prog) W 5 9 25 ⟨L.toArray⟩ Tryd.underlying9 Tryd.underlying25 Tryd.underlying5 hs
 have h2 := Lib.run_convert_string_bytes (P := Tryd.prog) W 9 25 5 ⟨L.toArray⟩ Tryd.underlying9 Tryd.underlying25 Tryd.underlying5
 rw [h2] at hr
 injection hr with h3 h4
 injection h3 with h5 h6 h7
 injection h5 with h8
 injection h8 with h9
 subst h4 h9 h7
 exact ⟨hm, hb, h2⟩
/-- What holds between two steps of resp.Write. -/
structure WSt (w W : World) (g b : Nat) (st : Int) (A1 : Option Addr) (n1 c1 : Nat) (A2 : Option Addr) (n2 c2 : Nat) (keep : Bool) (l : List UInt8) : Prop where
 sb : SBF b (c8 l) W
 blk : W.heap[g]? = some (.cells #[.int .i64 st, .slice A1 n1 c1, .slice A2 n2 c2, .bool keep] 54 (0, 0))
 hb : Below w.heap.size w W
 gb : g < b
 lb : b < W.heap.size
 lw : w.heap.size ≤ g
section
variable {w W W' : World} {g b : Nat} {st : Int} {A1 : Option Addr} {n1 c1 : Nat} {A2 : Option Addr} {n2 c2 : Nat} {keep : Bool} {l : List UInt8}
theorem WSt.call (h : WSt w W g b st A1 n1 c1 A2 n2 c2 keep l) (hb : Below W.heap.size W W') : WSt w W' g b st A1 n1 c1 A2 n2 c2 keep l :=
 ⟨sbf_below h.sb hb, blk_below h.blk hb, below_step h.hb hb, h.gb, Nat.lt_of_lt_of_le h.lb hb.size, h.lw⟩
theorem WSt.alloc (h : WSt w W g b st A1 n1 c1 A2 n2 c2 keep l) (o : Obj) : WSt w (W.alloc o) g b st A1 n1 c1 A2 n2 c2 keep l := h.call (below_alloc (Below.refl _ _) o)
theorem WSt.drew (h : WSt w W g b st A1 n1 c1 A2 n2 c2 keep l) : WSt w W.drew g b st A1 n1 c1 A2 n2 c2 keep l := h.call (below_drew (Below.refl _ _))
theorem WSt.line {l' : List UInt8} (h : WSt w W g b st A1 n1 c1 A2 n2 c2 keep l) (hs : SBF b (c8 l') W') (hb : Below b W W') (hk : SBK b W W') : WSt w W' g b st A1 n1 c1 A2 n2 c2 keep l' :=
 ⟨hs, kept_cells hk h.blk (Nat.ne_of_lt h.gb) (by decide), h.hb.trans (hb.mono (Nat.le_of_lt (Nat.lt_of_le_of_lt h.lw h.gb))), h.gb, Nat.lt_of_lt_of_le h.lb hb.size, h.lw⟩
theorem WSt.below (h : WSt w W g b st A1 n1 c1 A2 n2 c2 keep l) : Below w.heap.size w W := h.hb
theorem WSt.rd0 (h : WSt w W g b st A1 n1 c1 A2 n2 c2 keep l) : W.cell? ⟨g, 0, none⟩ = some (.int .i64 st) := (blk_cell h.blk 0).trans rfl
theorem WSt.rd1 (h : WSt w W g b st A1 n1 c1 A2 n2 c2 keep l) : W.cell? ⟨g, 1, none⟩ = some (.slice A1 n1 c1) := (blk_cell h.blk 1).trans rfl
theorem WSt.rd2 (h : WSt w W g b st A1 n1 c1 A2 n2 c2 keep l) : W.cell? ⟨g, 2, none⟩ = some (.slice A2 n2 c2) := (blk_cell h.blk 2).trans rfl
theorem WSt.rd3 (h : WSt w W g b st A1 n1 c1 A2 n2 c2 keep l) : W.cell? ⟨g, 3, none⟩ = some (.bool keep) := (blk_cell h.blk 3).trans rfl
theorem WSt.cells (h : WSt w W g b st A1 n1 c1 A2 n2 c2 keep l) : W.cell? ⟨g, 0, none⟩ = some (.int .i64 st) ∧ Aside0 (WSt w W g b st A1 n1 c1 A2 n2 c2 keep l) := ⟨h.rd0, ⟨h⟩⟩
theorem WSt.cells2 (h : WSt w W g b st A1 n1 c1 A2 n2 c2 keep l) : W.cell? ⟨g, 2, none⟩ = some (.slice A2 n2 c2) ∧ Aside0 (WSt w W g b st A1 n1 c1 A2 n2 c2 keep l) := ⟨h.rd2, ⟨h⟩⟩
end
/-- Behind the builder's String: the response's own block, and what lay there before. -/
structure WT (w W : World) (g : Nat) (A2 : Option Addr) (n2 c2 : Nat) : Prop where
 rd : W.cell? ⟨g, 2, none⟩ = some (.slice A2 n2 c2)
 hb : Below w.heap.size w W
 lw : w.heap.size ≤ g
 lt : g < W.heap.size
theorem WT.ofs {w W : World} {g : Nat} {A2 : Option Addr} {n2 c2 : Nat} (h : WT w W g A2 n2 c2) (L : List UInt8) (hs : L.length ≤ 9223372036854775807) : WT w (Lib.bytesWorld W 5 ⟨L.toArray⟩) g A2 n2 c2 := by
 have hb := (ofstr_row W L hs).2.1
 exact ⟨(hb.cell (p := ⟨g, 2, none⟩) h.lt).trans h.rd, below_step h.hb hb, h.lw, Nat.lt_of_lt_of_le h.lt hb.size⟩
theorem rstring {w W : World} {g b : Nat} {st : Int} {A1 : Option Addr} {n1 c1 : Nat} {A2 : Option Addr} {n2 c2 : Nat} {keep : Bool} {l : List UInt8} (h : WSt w W g b st A1 n1 c1 A2 n2 c2 keep l) (h0 : l ≠ []) :
  Calls Tryd.prog 67 #[.pointer (some ⟨b, 0, none⟩)] W fun e w' => e = .returned (.string ⟨l.toArray⟩) ∧ WT w w' g A2 n2 c2 := by
 refine (sb_String b l W h.sb h0).mono ?_
 rintro e w' ⟨rfl, hb, hk⟩
 have hblk := kept_cells hk h.blk (Nat.ne_of_lt h.gb) (by decide)
 exact ⟨rfl, (blk_cell hblk 2).trans rfl, h.hb.trans (hb.mono (Nat.le_of_lt (Nat.lt_of_le_of_lt h.lw h.gb))), h.lw, blk_lt hblk⟩
/-- The response's bytes, in a row of the call's own. -/
structure RFin (w W : World) (g cap : Nat) (l : List Int) : Prop where
 hm : MRow W g cap l
 hg : w.heap.size ≤ g
 hb : Below w.heap.size w W
theorem step_rapp {ops : Array Oper} {Q : Exit → Act → World → Prop} {o : Oper} {a : Act} {K : Act → World → Prop} {E : Prop} {w wt : World} {g : Nat} {A2 : Option Addr} {n2 c2 : Nat} {L : List UInt8} {body : List Int}
  (hgd : o.guard = none) {sl x : Operand} (ho : o.op = .call { callee := .builtin .append, args := #[sl, x], argTypes := #[25, 25] })
  (HT : WT w wt g A2 n2 c2) (hs : L.length + body.length ≤ 140737488355328) (hn : n2 = body.length) (hC : Kd.C (Kd.int .u8) w A2 n2 body)
  (hsl : a.eval sl = .slice (some ⟨wt.heap.size, 0, none⟩) L.length (grownCap wt L.length 0 5)) (hx : a.eval x = .slice A2 n2 c2)
  (hk : ∀ g' cap wv, RFin w wv g' cap (n8 L ++ body) → wv.cell? ⟨g, 2, none⟩ = some (.slice A2 n2 c2) → K (a.put o.dst (.slice (some ⟨g', 0, none⟩) (n8 L ++ body).length cap)) wv) :
  if Region.wanted o (yielded ops a.tmps) = true then Oper.wp Tryd.prog o a (Lib.bytesWorld wt 5 ⟨L.toArray⟩) K Q else E := by
 obtain ⟨i0, hi0, hz0, hs0, hb0⟩ := info_parts info_u8
 have h63 : L.length ≤ 9223372036854775807 := by omega
 obtain ⟨hm, hb, _⟩ := ofstr_row wt L h63
 have hO := HT.ofs L h63
 refine step_M_append hgd sl x 25 25 ho 5 Tryd.underlying25 hi0 hz0 hs0 hb0 hm (by rw [bytesOf_length]; rfl) hsl hx body hn (by have h := src_C hn (Kd.C_below hC hO.hb) c2; rw [← hn] at h; exact h) (by rw [bytesOf_length]; exact hs) ?_
 intro g' cap' wv l' hl hg hm' hgr
 subst hl
 have hlt := HT.lt
 have hw := HT.hb.size
 refine hk g' cap' wv ⟨hm', ?_, hO.hb.grown hgr hO.hb.size (fun k e => by cases e; exact hw)⟩ ?_
 ·have := hO.hb.size
  rcases hg with rfl | hg <;> omega
 ·rw [World.cell?_of_block (hgr.block g hO.lt (fun e => by cases e; omega))]
  exact hO.rd
/-- A line, called with its texts in a block of the call's own. -/
theorem rline_new {w W : World} {g b : Nat} {st : Int} {A1 : Option Addr} {n1 c1 : Nat} {A2 : Option Addr} {n2 c2 : Nat} {keep : Bool} {l : List UInt8} (h : WSt w W g b st A1 n1 c1 A2 n2 c2 keep l) (xs : List ByteArray) (cs : Array Value) (hcs : cs = (xs.map Value.string).toArray) (n : Nat) (gx : Nat) (hgx : gx = W.heap.size) (hn : xs.length = n) (hn2 : n ≤ 1000) (hlen : l.length + (line8 xs).length ≤ 140737488355328) :
  Calls Tryd.prog 64 #[.slice (some ⟨gx, 0, none⟩) n n, .pointer (some ⟨b, 0, none⟩)] (W.alloc (.cells cs 9)) fun e w' => e = .returned (.tuple #[]) ∧ WSt w w' g b st A1 n1 c1 A2 n2 c2 keep (l ++ line8 xs) := by
 subst hcs hgx
 have h1 := h.alloc (.cells (xs.map Value.string).toArray 9)
 refine (line_calls b l (some ⟨W.heap.size, 0, none⟩) n n xs _ h1.sb (.inr ⟨_, rfl, Nat.ne_of_gt h.lb, blk_new W _⟩) hn hn2 hlen h1.lb).mono ?_
 rintro e w' ⟨rfl, hs, hb, hk⟩
 exact ⟨rfl, h1.line hs hb hk⟩
theorem rline_nil {w W : World} {g b : Nat} {st : Int} {A1 : Option Addr} {n1 c1 : Nat} {A2 : Option Addr} {n2 c2 : Nat} {keep : Bool} {l : List UInt8} (h : WSt w W g b st A1 n1 c1 A2 n2 c2 keep l) (hlen : l.length + (line8 []).length ≤ 140737488355328) :
  Calls Tryd.prog 64 #[.slice none 0 0, .pointer (some ⟨b, 0, none⟩)] W fun e w' => e = .returned (.tuple #[]) ∧ WSt w w' g b st A1 n1 c1 A2 n2 c2 keep (l ++ line8 []) := by
 refine (line_calls b l none 0 0 [] _ h.sb (.inl rfl) rfl (by omega) hlen h.lb).mono ?_
 rintro e w' ⟨rfl, hs, hb, hk⟩
 exact ⟨rfl, h.line hs hb hk⟩
set_option maxHeartbeats 4000000 in
set_option maxRecDepth 100000 in
theorem rwrite_walk (st : Int) (A1 : Option Addr) (c1 : Nat) (fs : List (S67)) (A2 : Option Addr) (c2 : Nat) (body : List Int) (keep : Bool) (w : World)
  (hr1 : Kd.C k67 w A1 fs.length fs) (hc1 : fs.length ≤ c1) (hr2 : Kd.C (Kd.int .u8) w A2 body.length body) (hc2 : body.length ≤ c2)
  (hlim : (resp8 st fs body.length keep).length + body.length ≤ 140737488355328)
  (hchk : ∀ W, Below w.heap.size w W → Calls Tryd.prog 33 #[.agg #[.int .i64 st, .slice A1 fs.length c1, .slice A2 body.length c2, .bool keep]] W fun e w' => e = .returned (.int .i64 0) ∧ Below W.heap.size W w')
  (hito : ∀ (n : Int) W, Below w.heap.size w W → (n = st ∨ n = body.length) → Calls Tryd.prog 66 #[.int .i64 n] W fun e w' => e = .returned (.string (itoaB n)) ∧ Below W.heap.size W w') :
  Calls Tryd.prog 31 #[.agg #[.int .i64 st, .slice A1 fs.length c1, .slice A2 body.length c2, .bool keep]] w fun e w' => ∃ g cap, e = .returned (.tuple #[.slice (some ⟨g, 0, none⟩) (n8 (resp8 st fs body.length keep) ++ body).length cap, .int .i64 0]) ∧ MRow w' g cap (n8 (resp8 st fs body.length keep) ++ body) ∧ w.heap.size ≤ g ∧ Below w.heap.size w w' := by
 have HC1 := Aside0.mk hr1
 have HC2 := Aside0.mk hr2
 have HLIM := Aside0.mk hlim
 have HCHK := Aside0.mk hchk
 have HITO := Aside0.mk hito
 have HN1 := Aside0.mk hc1
 have HN2 := Aside0.mk hc2
 clear hr1 hr2 hlim hchk hito hc1 hc2
 obtain ⟨n2, hn2⟩ : ∃ n2, n2 = body.length := ⟨_, rfl⟩
 obtain ⟨n1, hn1⟩ : ∃ n1, n1 = fs.length := ⟨_, rfl⟩
 obtain ⟨i0, hi0, hz0, hs0, hb0⟩ := info_parts info_u8
 have HI := Aside0.mk hi0
 have HZ := Aside0.mk hz0
 have HS := Aside0.mk hs0
 have HBy := Aside0.mk hb0
 clear hi0 hz0 hs0 hb0
 have hu := Tryd.underlying54
 go_enter Tryd.func31, Tryd.ntmps31
 go_wp2_with (first
  | ((with_reducible refine gate_dst (N := 1) rfl ?_); refine box_event ?hg (N := 1) ?hd (cs := #[.int .i64 st, .slice A1 fs.length c1, .slice A2 body.length c2, .bool keep]) (t := 54) ?hr ?_; (case hd => rfl); (case hg => rfl); (case hr => first | (go_simp; done) | (go_simp; rfl)); intro g hg wb hbox hb; have GE := Aside0.mk (show w.heap.size ≤ g by rw [hg]; exact Nat.le_refl _); have BK := Aside0.mk hbox; have HB := Aside0.mk hb; clear hbox hb hg; have hx0 := blk_cell BK.out 0; have hx1 := blk_cell BK.out 1; have hx2 := blk_cell BK.out 2; have hx3 := blk_cell BK.out 3; simp at hx0 hx1 hx2 hx3)
  | (go_at_call 33; (with_reducible refine (HCHK.out _ HB.out).mono ?_); rintro e w1 ⟨rfl, hb⟩; have n0_ := Aside0.mk (blk_below BK.out hb); have n1_ := Aside0.mk (below_step HB.out hb); clear BK HB hb hx0 hx1 hx2 hx3; have BK := n0_; have HB := n1_; clear n0_ n1_))
 obtain ⟨b, hb⟩ : ∃ b, b = w1.heap.size := ⟨_, rfl⟩
 obtain ⟨W0, hW0⟩ : ∃ W0, W0 = w1.alloc (.cells #[.pointer none, .slice none 0 0] 98) := ⟨_, rfl⟩
 have HW : WSt w W0 g b st A1 fs.length c1 A2 body.length c2 keep [] := by
  refine ⟨?_, by rw [hW0]; exact blk_alloc BK.out _, by rw [hW0]; exact below_alloc HB.out _, by rw [hb]; exact blk_lt BK.out, by rw [hW0, hb]; simp, GE.out⟩
  rw [hW0, hb]
  exact Lib.IsBuilderF.of (Lib.fresh_isBuilder _ _ w1)
 rw [← hb, ← hW0]
 clear hb hW0 BK HB GE
 obtain ⟨n1, hn1⟩ : ∃ n1, n1 = fs.length := ⟨_, rfl⟩
 have HN := Aside0.mk hn1
 rw [← hn1] at HW ⊢
 clear hn1
 obtain ⟨n2, hn2⟩ : ∃ n2, n2 = body.length := ⟨_, rfl⟩
 have HNB := Aside0.mk hn2
 rw [← hn2] at HW HLIM HITO ⊢
 clear hn2
 have HL1 := Aside0.mk (show (rfirst8 st).length + (fs.flatMap rfield8).length + (rend8 n2 keep).length + n2 ≤ 140737488355328 by
  have h := HLIM.out
  simp only [resp8, List.length_append] at h ⊢
  omega)
 obtain ⟨hx0, HW⟩ := HW.cells
 go_region_held3 (fun W => W.cell? ⟨g, 0, none⟩ = some (.int .i64 st)) (first | assumption | exact H6.rd0 | exact (WSt.alloc H5 _).rd0 | exact H5.rd0 | exact H4.rd0 | exact (WSt.drew HW.out).rd0) (first
  | (go_at_call 66; (with_reducible refine (HITO.out _ _ (WSt.drew HW.out).hb (.inl rfl)).mono ?_); rintro e w4 ⟨rfl, hb⟩; have H4 : WSt w w4 g b st A1 n1 c1 A2 n2 c2 keep [] := WSt.call (WSt.drew HW.out) hb; clear hb)
  | (go_at_call 36; (with_reducible refine (reason_calls _ _).mono ?_); rintro e w5 ⟨rfl, hb⟩; have H5 := WSt.call H4 hb; clear H4 hb)
  | (go_at_call 64; (with_reducible refine (rline_new H5 [rH11, itoaB st, rSP, reasonS st] #[.string rH11, .string (itoaB st), .string rSP, .string (reasonS st)] rfl 4 _ rfl rfl (by omega) (by have h := HL1.out; unfold rfirst8 at h; simp only [List.length_nil]; omega)).mono ?_); rintro e w6 ⟨rfl, H6⟩; clear H5))
 have hy1 := H6.rd1
 have HW6 := Aside0.mk (show WSt w w6 g b st A1 n1 c1 A2 n2 c2 keep (rfirst8 st) from H6)
 clear H6 HW hx0
 go_wp2
 go_loopw [27] (fun v27 wr => ∃ k : Nat, k ≤ n1 ∧ v27 = .int .i64 k ∧ Aside0 (WSt w wr g b st A1 n1 c1 A2 n2 c2 keep (rfirst8 st ++ (fs.take k).flatMap rfield8))) (fun v27 _ => n1 - (intOf v27).toNat)
 case atStart => exact ⟨0, Nat.zero_le _, rfl, ⟨by simpa using HW6.out⟩⟩
 case round =>
  obtain ⟨k, hk, rfl, HW⟩ := hrel
  have hn63 : n1 ≤ 9223372036854775807 := by rw [HN.out]; exact HC1.out.2.1
  by_cases hlt : k < n1
  ·have hlt' : k < fs.length := by rw [← HN.out]; exact hlt
   obtain ⟨ad, e, hn, hv⟩ := at_T67 (Kd.C_below HC1.out HW.out.hb) (k : Int) (by omega) (by omega)
   cases e
   rw [Int.toNat_natCast] at hn hv
   have HR := Aside0.mk (show fs.take (k + 1) = fs.take k ++ [rd_T67 fs k] by
    rw [List.take_succ_eq_append_getElem hlt']
    congr 2
    simp [rd_T67, List.getD_eq_getElem?_getD, List.getElem?_eq_getElem hlt'])
   have HLIM2 := Aside0.mk (show ((fs.take (k + 1)).flatMap rfield8).length ≤ (fs.flatMap rfield8).length by
    have : fs.flatMap rfield8 = (fs.take (k + 1)).flatMap rfield8 ++ (fs.drop (k + 1)).flatMap rfield8 := by rw [← List.flatMap_append, List.take_append_drop]
    rw [this, List.length_append]; omega)
   obtain ⟨nm, hnm⟩ : ∃ nm, (rd_T67 fs k).f0 = nm := ⟨_, rfl⟩
   obtain ⟨vl, hvl⟩ : ∃ vl, (rd_T67 fs k).f1 = vl := ⟨_, rfl⟩
   rw [hnm] at hn
   rw [hvl] at hv
   have HF := Aside0.mk (show rfield8 (rd_T67 fs k) = line8 [nm, rCOL, vl] by unfold rfield8; rw [hnm, hvl])
   clear hnm hvl
   have HLIM3 := Aside0.mk (show (rfirst8 st ++ (fs.take k).flatMap rfield8).length + (line8 [nm, rCOL, vl]).length ≤ 140737488355328 by
    have h1 := HLIM2.out
    have h2 := HL1.out
    rw [HR.out, List.flatMap_append, List.length_append] at h1
    have h3 : ([rd_T67 fs ↑k].flatMap rfield8).length = (line8 [nm, rCOL, vl]).length := by rw [← HF.out]; simp
    rw [List.length_append]
    omega)
   go_wp2_with (go_at_call 64; (with_reducible refine (rline_new (WSt.alloc HW.out _) [nm, rCOL, vl] #[.string nm, .string rCOL, .string vl] rfl 3 _ (by simp) rfl (by omega) HLIM3.out).mono ?_); rintro e w7 ⟨rfl, H7⟩; clear HW hn hv)
   go_roundw
   case measure => simp [intOf]; omega
   case rel => exact ⟨k + 1, by omega, by go_num, ⟨by rw [HR.out, List.flatMap_append, List.flatMap_singleton, HF.out, ← List.append_assoc]; exact H7⟩⟩
  ·obtain rfl : k = n1 := by omega
   rw [show fs.take k = fs from by rw [HN.out, List.take_length]] at HW
   have hz2 := HW.out.rd2
   have HLa := Aside0.mk (show (rfirst8 st ++ fs.flatMap rfield8).length + (line8 [rCLH, itoaB n2]).length + ((if keep then [] else line8 [rCC]) ++ line8 []).length + n2 ≤ 140737488355328 by
    have h := HL1.out
    unfold rend8 at h
    simp only [List.length_append] at h ⊢
    omega)
   have HLb := Aside0.mk (show (rfirst8 st ++ fs.flatMap rfield8).length + (line8 [rCLH, itoaB n2]).length ≤ 140737488355328 by have := HLa.out; omega)
   have HNE : ∀ keep, Aside0 (resp8 st fs n2 keep ≠ []) := fun keep => ⟨by simp [resp8, rfirst8, line8]⟩
   cases keep with
   | true =>
    go_wp2_with (first
     | (go_at_call 66; (with_reducible refine (HITO.out _ _ HW.out.hb (.inr rfl)).mono ?_); rintro e w7 ⟨rfl, hb⟩; have H7 := HW.out.call hb; clear hb hz2)
     | (go_at_call 64; (with_reducible refine (rline_new H7 [rCLH, itoaB n2] #[.string rCLH, .string (itoaB n2)] rfl 2 _ rfl rfl (by omega) HLb.out).mono ?_); rintro e w8 ⟨rfl, H8⟩; clear H7; have hz3 := H8.rd3)
     | (go_at_call 64; (with_reducible refine (rline_nil H8 (by have h := HLa.out; simp only [List.length_append, if_pos, List.length_nil] at h ⊢; omega)).mono ?_); rintro e w9 ⟨rfl, H9⟩; clear H8 hz3))
    obtain ⟨L, hL⟩ : ∃ L, L = resp8 st fs n2 true := ⟨_, rfl⟩
    have HW9 := Aside0.mk (show WSt w w9 g b st A1 k c1 A2 n2 c2 true L by rw [hL]; simpa [resp8, rend8, List.append_assoc] using H9)
    have HNE := Aside0.mk (show L ≠ [] by rw [hL]; exact (HNE true).out)
    have HLL := Aside0.mk (show L.length + body.length ≤ 140737488355328 by rw [hL, ← HNB.out]; exact HLIM.out)
    have HSZ := Aside0.mk (show L.length ≤ 9223372036854775807 by have := HLL.out; omega)
    have HRES := Aside0.mk hL
    have HC3 := Aside0.mk (show Kd.C (Kd.int .u8) w A2 n2 body by rw [HNB.out]; exact HC2.out)
    clear H9 HW hL
    have hcv := fun W => (ofstr_row W L HSZ.out).2.2
    go_region_held3 (fun W => W.cell? ⟨g, 2, none⟩ = some (.slice A2 n2 c2)) (first | assumption | exact (HT.ofs L HSZ.out).rd | exact HT.rd | exact (WSt.drew HW9.out).rd2) (first
     | (go_at_call 67; (with_reducible refine (rstring (WSt.drew HW9.out) HNE.out).mono ?_); rintro e wt ⟨rfl, HT⟩)
     | (refine step_rapp rfl rfl HT HLL.out HNB.out HC3.out rfl rfl ?_; intro g' cap wv HV hrd))
    go_wp2
    go_ret2
    have he := HRES.out
    subst he
    have hE : n8 (resp8 st fs (n2 : Int) true) ++ body = n8 (resp8 st fs (body.length : Int) true) ++ body := by rw [HNB.out]
    have hm := HV.hm
    rw [hE] at hm
    refine ⟨g', cap, ?_, hm, HV.hg, HV.hb⟩
    rw [← hE, List.length_append]
    rfl
   | false =>
    go_wp2_with (first
     | (go_at_call 66; (with_reducible refine (HITO.out _ _ HW.out.hb (.inr rfl)).mono ?_); rintro e w7 ⟨rfl, hb⟩; have H7 := HW.out.call hb; clear hb hz2)
     | (go_at_call 64; (with_reducible refine (rline_new H7 [rCLH, itoaB n2] #[.string rCLH, .string (itoaB n2)] rfl 2 _ rfl rfl (by omega) HLb.out).mono ?_); rintro e w8 ⟨rfl, H8⟩; clear H7; have hz3 := H8.rd3)
     | (go_at_call 64; (with_reducible refine (rline_new H8 [rCC] #[.string rCC] rfl 1 _ rfl rfl (by omega) (by have h := HLa.out; simp only [Bool.false_eq_true, if_false, List.length_append] at h ⊢; omega)).mono ?_); rintro e w9 ⟨rfl, H9⟩; clear H8 hz3)
     | (go_at_call 64; (with_reducible refine (rline_nil H9 (by have h := HLa.out; simp only [Bool.false_eq_true, if_false, List.length_append, List.length_nil] at h ⊢; omega)).mono ?_); rintro e w10 ⟨rfl, H10⟩; clear H9))
    obtain ⟨L, hL⟩ : ∃ L, L = resp8 st fs n2 false := ⟨_, rfl⟩
    have HW9 := Aside0.mk (show WSt w w10 g b st A1 k c1 A2 n2 c2 false L by rw [hL]; simpa [resp8, rend8, List.append_assoc] using H10)
    have HNE := Aside0.mk (show L ≠ [] by rw [hL]; exact (HNE false).out)
    have HLL := Aside0.mk (show L.length + body.length ≤ 140737488355328 by rw [hL, ← HNB.out]; exact HLIM.out)
    have HSZ := Aside0.mk (show L.length ≤ 9223372036854775807 by have := HLL.out; omega)
    have HRES := Aside0.mk hL
    have HC3 := Aside0.mk (show Kd.C (Kd.int .u8) w A2 n2 body by rw [HNB.out]; exact HC2.out)
    clear H10 HW hL
    have hcv := fun W => (ofstr_row W L HSZ.out).2.2
    go_region_held3 (fun W => W.cell? ⟨g, 2, none⟩ = some (.slice A2 n2 c2)) (first | assumption | exact (HT.ofs L HSZ.out).rd | exact HT.rd | exact (WSt.drew HW9.out).rd2) (first
     | (go_at_call 67; (with_reducible refine (rstring (WSt.drew HW9.out) HNE.out).mono ?_); rintro e wt ⟨rfl, HT⟩)
     | (refine step_rapp rfl rfl HT HLL.out HNB.out HC3.out rfl rfl ?_; intro g' cap wv HV hrd))
    go_wp2
    go_ret2
    have he := HRES.out
    subst he
    have hE : n8 (resp8 st fs (n2 : Int) false) ++ body = n8 (resp8 st fs (body.length : Int) false) ++ body := by rw [HNB.out]
    have hm := HV.hm
    rw [hE] at hm
    refine ⟨g', cap, ?_, hm, HV.hg, HV.hb⟩
    rw [← hE, List.length_append]
    rfl
set_option maxHeartbeats 1000000 in
theorem rwrite_bad (e0 : Int) (he : e0 ≠ 0) (st : Int) (A1 : Option Addr) (n1 c1 : Nat) (A2 : Option Addr) (n2 c2 : Nat) (keep : Bool) (w : World)
  (hchk : ∀ W, Below w.heap.size w W → Calls Tryd.prog 33 #[.agg #[.int .i64 st, .slice A1 n1 c1, .slice A2 n2 c2, .bool keep]] W fun e w' => e = .returned (.int .i64 e0) ∧ Below W.heap.size W w') :
  Calls Tryd.prog 31 #[.agg #[.int .i64 st, .slice A1 n1 c1, .slice A2 n2 c2, .bool keep]] w fun e w' => e = .returned (.tuple #[.slice none 0 0, .int .i64 e0]) ∧ Below w.heap.size w w' := by
 have HCHK := Aside0.mk hchk
 clear hchk
 have hu := Tryd.underlying54
 have he1 : (e0 != 0) = true := by simpa using he
 have he2 : (e0 == 0) = false := by simpa using he
 go_enter Tryd.func31, Tryd.ntmps31
 go_wp2_with (first
  | ((with_reducible refine gate_dst (N := 1) rfl ?_); refine box_event ?hg (N := 1) ?hd (cs := #[.int .i64 st, .slice A1 n1 c1, .slice A2 n2 c2, .bool keep]) (t := 54) ?hr ?_; (case hd => rfl); (case hg => rfl); (case hr => first | (go_simp; done) | (go_simp; rfl)); intro g hg wb hbox hb; have BK := Aside0.mk hbox; have HB := Aside0.mk hb; clear hbox hb hg; have hx0 := blk_cell BK.out 0; have hx1 := blk_cell BK.out 1; have hx2 := blk_cell BK.out 2; have hx3 := blk_cell BK.out 3; simp at hx0 hx1 hx2 hx3)
  | (go_at_call 33; (with_reducible refine (HCHK.out _ HB.out).mono ?_); rintro e w1 ⟨rfl, hb⟩; have n1_ := Aside0.mk (below_step HB.out hb); clear BK HB hb hx0 hx1 hx2 hx3; have HB := n1_; clear n1_))
 go_ret2
 exact ⟨rfl, HB.out⟩

def resp_Write.f (k : Nat) (a0_0 : Int) (l0_1 : List (S67)) (l0_2 : List Int) (a0_3 : Bool) : Option (List Int × Int) := (resp_Check.f k a0_0 l0_1 l0_2 a0_3).bind fun t => if t = 0 then (if (-9223372036854775808 ≤ a0_0 ∧ a0_0 ≤ 9223372036854775807) ∧ (resp8 a0_0 l0_1 (l0_2.length : Int) a0_3).length + l0_2.length ≤ 140737488355328 then some (n8 (resp8 a0_0 l0_1 (l0_2.length : Int) a0_3) ++ l0_2, 0) else none) else some ([], t)
theorem resp_Write.mono : ∀ a0 a1 a2 a3 k, LeO (resp_Write.f k a0 a1 a2 a3) (resp_Write.f (k + 1) a0 a1 a2 a3) := by
 intro a0 a1 a2 a3 k
 unfold resp_Write.f
 exact LeO.bind (resp_Check.mono _ _ _ _ _) (fun _ => LeO.refl _)
/-- Where the response may be: its bytes in a row of the call's own. -/
theorem resp_Write.row (k : Nat) (a0_0 : Int) (A0_1 : Option Addr) (c0_1 : Nat) (l0_1 : List (S67)) (A0_2 : Option Addr) (c0_2 : Nat) (l0_2 : List Int) (a0_3 : Bool) (w : World) (hr0_1 : Kd.C k67 w A0_1 l0_1.length l0_1) (hc0_1 : l0_1.length ≤ c0_1) (hr0_2 : Kd.C (Kd.int .u8) w A0_2 l0_2.length l0_2) (hc0_2 : l0_2.length ≤ c0_2) (hG : GG 2 w) (hc : resp_Check.f k a0_0 l0_1 l0_2 a0_3 = some 0) (hs : (-9223372036854775808 ≤ a0_0 ∧ a0_0 ≤ 9223372036854775807) ∧ (resp8 a0_0 l0_1 (l0_2.length : Int) a0_3).length + l0_2.length ≤ 140737488355328) :
  Calls Tryd.prog 31 #[.agg #[.int .i64 a0_0, .slice A0_1 l0_1.length c0_1, .slice A0_2 l0_2.length c0_2, .bool a0_3]] w fun e w' => ∃ g cap, e = .returned (.tuple #[.slice (some ⟨g, 0, none⟩) (n8 (resp8 a0_0 l0_1 (l0_2.length : Int) a0_3) ++ l0_2).length cap, .int .i64 0]) ∧ MRow w' g cap (n8 (resp8 a0_0 l0_1 (l0_2.length : Int) a0_3) ++ l0_2) ∧ w.heap.size ≤ g ∧ Below w.heap.size w w' := by
 refine rwrite_walk a0_0 A0_1 c0_1 l0_1 A0_2 c0_2 l0_2 a0_3 w hr0_1 hc0_1 hr0_2 hc0_2 hs.2 (fun W hb => ?_) (fun n W hb hn => ?_)
 ·exact resp_Check.calls k a0_0 A0_1 c0_1 l0_1 A0_2 c0_2 l0_2 a0_3 0 W (Kd.C_below hr0_1 hb) hc0_1 (Kd.C_below hr0_2 hb) hc0_2 hc
 ·refine strconv_Itoa_66.calls n (itoaB n) W (GG_step hG rfl hb) ?_
  have h3 := (Kd.reads_of_C (d := (0 : Int)) hr0_2).2.1
  unfold strconv_Itoa_66.f
  rw [if_pos (by rcases hn with rfl | rfl <;> omega)]
  rfl
theorem resp_Write.calls (k : Nat) (a0_0 : Int) (A0_1 : Option Addr) (c0_1 : Nat) (l0_1 : List (S67)) (A0_2 : Option Addr) (c0_2 : Nat) (l0_2 : List Int) (a0_3 : Bool) (r1 : List Int) (r2 : Int) (w : World) (hr0_1 : Kd.C k67 w A0_1 l0_1.length l0_1) (hc0_1 : l0_1.length ≤ c0_1) (hr0_2 : Kd.C (Kd.int .u8) w A0_2 l0_2.length l0_2) (hc0_2 : l0_2.length ≤ c0_2) (hG : GG 2 w) (h : resp_Write.f k a0_0 l0_1 l0_2 a0_3 = some (r1, r2)) :
  Calls Tryd.prog 31 #[.agg #[.int .i64 a0_0, .slice A0_1 l0_1.length c0_1, .slice A0_2 l0_2.length c0_2, .bool a0_3]] w fun e w' => ∃ v0_ : Value, e = .returned (.tuple #[v0_, .int .i64 r2]) ∧ Kd.V (Kd.int .u8) 5 w' w.heap.size (fun k_ => (w.heap.size ≤ k_)) v0_ r1 ∧ Below w.heap.size w w' := by
 unfold resp_Write.f at h
 cases hc : resp_Check.f k a0_0 l0_1 l0_2 a0_3 with
 | none => rw [hc] at h; cases h
 | some t =>
  rw [hc, Option.bind_some] at h
  by_cases ht : t = 0
  ·rw [if_pos ht] at h
   subst ht
   by_cases hs : (-9223372036854775808 ≤ a0_0 ∧ a0_0 ≤ 9223372036854775807) ∧ (resp8 a0_0 l0_1 (l0_2.length : Int) a0_3).length + l0_2.length ≤ 140737488355328
   ·rw [if_pos hs] at h
    cases h
    refine (resp_Write.row k a0_0 A0_1 c0_1 l0_1 A0_2 c0_2 l0_2 a0_3 w hr0_1 hc0_1 hr0_2 hc0_2 hG hc hs).mono ?_
    rintro e w' ⟨g, cap, rfl, hm, hg, hb⟩
    exact ⟨_, rfl, hm.V _ _ hg, hb⟩
   ·rw [if_neg hs] at h; cases h
  ·rw [if_neg ht] at h
   cases h
   refine (rwrite_bad r2 ht a0_0 A0_1 l0_1.length c0_1 A0_2 l0_2.length c0_2 a0_3 w (fun W hb => resp_Check.calls k a0_0 A0_1 c0_1 l0_1 A0_2 c0_2 l0_2 a0_3 r2 W (Kd.C_below hr0_1 hb) hc0_1 (Kd.C_below hr0_2 hb) hc0_2 hc)).mono ?_
   rintro e w' ⟨rfl, hb⟩
   exact ⟨_, rfl, Kd.V_nil _ _ _ _ _, hb⟩

/-! ### ostiarylaw15_ab: function 63 -/
def ostiarylaw15_ab.f  : Option (Int × (List (S67)) × List Int × Bool) := some (200, (([(⟨(⟨#[97]⟩ : ByteArray), (⟨#[98]⟩ : ByteArray)⟩ : S67)] : List (S67))), (([120] : List Int)), true)
set_option maxHeartbeats 8000000 in
set_option maxRecDepth 100000 in
theorem ostiarylaw15_ab.calls  (r1 : Int) (r2 : List (S67)) (r3 : List Int) (r4 : Bool) (w : World) (h : ostiarylaw15_ab.f  = some (r1, r2, r3, r4)) :
  Calls Tryd.prog 63 #[] w fun e w' => ∃ v1_ v2_ : Value, e = .returned (.agg #[.int .i64 r1, v1_, v2_, .bool r4]) ∧ Kd.R k67 67 w' w.heap.size (fun k_ => (w.heap.size ≤ k_)) v1_ r2 ∧ Kd.V (Kd.int .u8) 5 w' w.heap.size (fun k_ => (w.heap.size ≤ k_) ∧ some k_ ≠ (v1_ : Value).ownBlock) v2_ r3 ∧ Below w.heap.size w w' := by
 have hu54 := Tryd.underlying54
 have hu67 := Tryd.underlying67
 have HB := Aside0.mk (Below.refl w.heap.size w)
 have H : (some (200, (([(⟨(⟨#[97]⟩ : ByteArray), (⟨#[98]⟩ : ByteArray)⟩ : S67)] : List (S67))), (([120] : List Int)), true)) = some (r1, r2, r3, r4) := h
 clear h
 obtain ⟨y173, hy173⟩ : ∃ y_ : List (S67), y_ = (([(⟨(⟨#[97]⟩ : ByteArray), (⟨#[98]⟩ : ByteArray)⟩ : S67)] : List (S67))) := ⟨_, rfl⟩
 replace H : (some (200, y173, (([120] : List Int)), true)) = some (r1, r2, r3, r4) := by first | (rw [hy173]; with_reducible exact H) | (have H2_ := (Option.bind_some _ _).symm.trans H; rw [hy173]; with_reducible exact H2_) | (have H2_ := (Option.bind_some _ _).symm.trans H; with_reducible exact H2_) | with_reducible exact H | (rw [hy173]; exact H) | exact H
 have Ny173 := Aside0.mk hy173
 clear hy173
 obtain ⟨y176, hy176⟩ : ∃ y_ : List Int, y_ = (([120] : List Int)) := ⟨_, rfl⟩
 replace H : (some (200, y173, y176, true)) = some (r1, r2, r3, r4) := by first | (rw [hy176]; with_reducible exact H) | (have H2_ := (Option.bind_some _ _).symm.trans H; rw [hy176]; with_reducible exact H2_) | (have H2_ := (Option.bind_some _ _).symm.trans H; with_reducible exact H2_) | with_reducible exact H | (rw [hy176]; exact H) | exact H
 have Ny176 := Aside0.mk hy176
 clear hy176
 simp only [Option.some.injEq, Prod.mk.injEq] at H
 obtain ⟨rfl, rfl, rfl, rfl⟩ := H
 go_enter Tryd.func63, Tryd.ntmps63
 go_wp2_with (first | ((with_reducible refine gate_dst (N := 0) rfl ?_); refine box_event ?hg (N := 0) ?hd (cs := #[.int .i64 0, .slice none 0 0, .slice none 0 0, .bool false]) (t := 54) ?hr ?_; (case hd => rfl); (case hg => rfl); (case hr => first | (go_simp; done) | (go_simp; rfl)); intro gb172 hg w1 hbox hb; have n0_ := Aside0.mk (below_step (by repeat (first | (with_reducible first | exact HB.out | apply below_alloc | apply pw_below_drewN | apply below_drew1) | exact HB.out)) hb); have n1_ := Aside0.mk (hbox); have n2_ := Aside0.mk ((by rw [hg]; exact (below_size (by repeat (first | (with_reducible first | exact HB.out | apply below_alloc | apply pw_below_drewN | apply below_drew1) | exact HB.out))) : w.heap.size ≤ gb172)); have n3_ := Aside0.mk ((by rw [hg]; exact (below_size (by repeat (first | (with_reducible first | exact HB.out | apply below_alloc | apply pw_below_drewN | apply below_drew1) | exact HB.out))) : w.heap.size ≤ gb172)); clear HB; have HB := n0_; have BK172 := n1_; have GW172 := n2_; have GE172 := n3_; clear n0_ n1_ n2_ n3_; clear hb hbox hg) | ((with_reducible refine gate_dst (N := 2) rfl ?_); refine Kd.R_lit k67 _ 67 ?hg (N := 2) ?hd (xs := ([(⟨(⟨#[97]⟩ : ByteArray), (⟨#[98]⟩ : ByteArray)⟩ : S67)] : List (S67))) (inner := [.string (⟨#[97]⟩ : ByteArray), .string (⟨#[98]⟩ : ByteArray)]) (ok := fun _ => True) (okp := fun _ => True) ?hr ?hp (fun _ hk => hk) trivial (Below.refl _ _) (Nat.le_refl _) (by simp) ?_; (case hd => rfl); (case hg => rfl); (case hr => first | (go_simp; done) | (go_simp; rfl)); (case hp => exact (Reps.c2 (show Kd.M k67 _ _ _ (⟨(⟨#[97]⟩ : ByteArray), (⟨#[98]⟩ : ByteArray)⟩ : S67) [.string (⟨#[97]⟩ : ByteArray), .string (⟨#[98]⟩ : ByteArray)] from (k67_mkM _ _ _ (⟨(⟨#[97]⟩ : ByteArray), (⟨#[98]⟩ : ByteArray)⟩ : S67) )) (Reps.none _ _))); intro v174 w2 ho3 hb hg_ hnew_; clear hg_ hnew_; (first | rw [← Ny173.out] at ho3 | (simp only [Int.reduceToNat] at ho3; rw [← Ny173.out] at ho3)); have n0_ := Aside0.mk (Kd.R_lower (Kd.R_newM (M := fun k_ => (w.heap.size ≤ k_)) ho3 (below_size (by repeat (first | (with_reducible first | exact HB.out | apply below_alloc | apply pw_below_drewN | apply below_drew1 | refine below_set ?_ GE172.out) | exact HB.out))) (fun k_ h_ => h_)) (below_size (by repeat (first | (with_reducible first | exact HB.out | apply below_alloc | apply pw_below_drewN | apply below_drew1 | refine below_set ?_ GE172.out) | exact HB.out)))); have n1_ := Aside0.mk (blk_below (g := gb172) (o := .cells #[.int .i64 0, .slice none 0 0, .slice none 0 0, .bool false] 54 (0, 0)) (by (with_reducible repeat (first | refine blk_drewN ?_ _ | refine blk_drew ?_ | refine blk_alloc ?_ _)); exact BK172.out) hb); have n2_ := Aside0.mk (below_step (by repeat (first | (with_reducible first | exact HB.out | apply below_alloc | apply pw_below_drewN | apply below_drew1 | refine below_set ?_ GE172.out) | exact HB.out)) hb); clear BK172; clear HB; have HO175 := n0_; have BK172 := n1_; have HB := n2_; clear n0_ n1_ n2_; clear hb ho3) | ((with_reducible refine gate_dst (N := 3) rfl ?_); refine V_ofconst _ 5 rfl (N := 3) rfl rfl 25 _ rfl (fun _ => rfl) ([120] : List Int) (by first | (go_simp; done) | (go_simp; rfl)) Tryd.underlying25 Tryd.underlying5 (ok := fun k_ => w2.heap.size ≤ k_) (Nat.le_refl _) (by decide) (Below.refl _ _) (Nat.le_refl _) ?_; intro v177 w4 ho5 hb hg_ hnew_; clear hg_ hnew_; (first | rw [← Ny176.out] at ho5 | (simp only [Int.reduceToNat] at ho5; rw [← Ny176.out] at ho5)); have n0_ := Aside0.mk (Kd.R_below (by (with_reducible repeat (first | apply Kd.R_alloc | apply Kd.R_drewN | apply Kd.R_drew)); exact HO175.out) hb); have n1_ := Aside0.mk (Kd.V_lower (Kd.V_mono (ok' := fun k_ => (w.heap.size ≤ k_) ∧ some k_ ≠ (v174 : Value).ownBlock ∧ k_ ≠ gb172) ho5 (fun k_ hk_ => ⟨(Nat.le_trans (below_size (by repeat (first | (with_reducible first | exact HB.out | apply below_alloc | apply pw_below_drewN | apply below_drew1 | refine below_set ?_ GE172.out) | exact HB.out))) hk_), (Kd.fresh' (Kd.R_lt (by (with_reducible repeat (first | apply Kd.R_alloc | apply Kd.R_drewN | apply Kd.R_drew)); exact HO175.out)) k_ hk_), (Kd.freshB (g := gb172) (o := .cells #[.int .i64 0, .slice none 0 0, .slice none 0 0, .bool false] 54 (0, 0)) (by (with_reducible repeat (first | refine blk_drewN ?_ _ | refine blk_drew ?_ | refine blk_alloc ?_ _)); exact BK172.out) k_ hk_)⟩)) (below_size (by repeat (first | (with_reducible first | exact HB.out | apply below_alloc | apply pw_below_drewN | apply below_drew1 | refine below_set ?_ GE172.out) | exact HB.out)))); have n2_ := Aside0.mk (blk_below (g := gb172) (o := .cells #[.int .i64 0, .slice none 0 0, .slice none 0 0, .bool false] 54 (0, 0)) (by (with_reducible repeat (first | refine blk_drewN ?_ _ | refine blk_drew ?_ | refine blk_alloc ?_ _)); exact BK172.out) hb); have n3_ := Aside0.mk (below_step (by repeat (first | (with_reducible first | exact HB.out | apply below_alloc | apply pw_below_drewN | apply below_drew1 | refine below_set ?_ GE172.out) | exact HB.out)) hb); clear HO175; clear BK172; clear HB; have HO175 := n0_; have HO178 := n1_; have BK172 := n2_; have HB := n3_; clear n0_ n1_ n2_ n3_; clear hb ho5; obtain ⟨Ao6, co6, eo6⟩ := Kd.V_slice HO178.out; subst eo6; obtain ⟨Ao7, co7, eo7⟩ := Kd.R_slice HO175.out; subst eo7; have hcz8_0 : w4.cell? ⟨gb172, 0, none⟩ = some (.int .i64 0) := (blk_cell BK172.out 0).trans rfl; have hcz8_1 : w4.cell? ⟨gb172, 1, none⟩ = some (.slice none 0 0) := (blk_cell BK172.out 1).trans rfl; have hcz8_2 : w4.cell? ⟨gb172, 2, none⟩ = some (.slice none 0 0) := (blk_cell BK172.out 2).trans rfl; have hcz8_3 : w4.cell? ⟨gb172, 3, none⟩ = some (.bool false) := (blk_cell BK172.out 3).trans rfl; have hfz8_0 := blk_frozen BK172.out 0; have hfz8_1 := blk_frozen BK172.out 1; have hfz8_2 := blk_frozen BK172.out 2; have hfz8_3 := blk_frozen BK172.out 3))
 refine bodyPost_ret (results_cell_row rfl _ _ gb172 54 #[.int .i64 200, .slice Ao7 y173.length co7, .slice Ao6 y176.length co6, .bool true] (0, 0) _ rfl (by (with_reducible repeat (first | refine blk_drewN ?_ _ | refine blk_drew ?_ | refine blk_alloc ?_ _)); refine blk_put (cs := #[.int .i64 200, .slice Ao7 y173.length co7, .slice Ao6 y176.length co6, .bool false]) ?_ 3 _ rfl; (with_reducible repeat (first | refine blk_drewN ?_ _ | refine blk_drew ?_ | refine blk_alloc ?_ _)); refine blk_put (cs := #[.int .i64 200, .slice Ao7 y173.length co7, .slice none 0 0, .bool false]) ?_ 2 _ rfl; (with_reducible repeat (first | refine blk_drewN ?_ _ | refine blk_drew ?_ | refine blk_alloc ?_ _)); refine blk_put (cs := #[.int .i64 200, .slice none 0 0, .slice none 0 0, .bool false]) ?_ 1 _ rfl; (with_reducible repeat (first | refine blk_drewN ?_ _ | refine blk_drew ?_ | refine blk_alloc ?_ _)); refine blk_put (cs := #[.int .i64 0, .slice none 0 0, .slice none 0 0, .bool false]) ?_ 0 _ rfl; (with_reducible repeat (first | refine blk_drewN ?_ _ | refine blk_drew ?_ | refine blk_alloc ?_ _)); exact BK172.out) Tryd.underlying54 rfl (by kernel_rfl)) rfl ?_
 exact ⟨_, _, by first | rfl | (simp [errW_none, errW_some] <;> rfl) | (simp [*, errW_none, errW_some] <;> rfl), by (with_reducible repeat (first | apply Kd.R_alloc | apply Kd.R_drewN | apply Kd.R_drew)); exact Kd.R_mono (Kd.R_far (p := ⟨gb172, 3, none⟩) (Kd.R_far (p := ⟨gb172, 2, none⟩) (Kd.R_far (p := ⟨gb172, 1, none⟩) (Kd.R_far (p := ⟨gb172, 0, none⟩) (Kd.R_types HO175.out BK172.out (by decide)) (fun _ hk => hk.2) (.int .i64 200)) (fun _ hk => hk.2) (.slice Ao7 y173.length co7)) (fun _ hk => hk.2) (.slice Ao6 y176.length co6)) (fun _ hk => hk.2) (.bool true)) (fun _ hk => hk.1.1), by (with_reducible repeat (first | apply Kd.V_alloc | apply Kd.V_drewN | apply Kd.V_drew)); exact Kd.V_mono (Kd.V_far (p := ⟨gb172, 3, none⟩) (Kd.V_far (p := ⟨gb172, 2, none⟩) (Kd.V_far (p := ⟨gb172, 1, none⟩) (Kd.V_far (p := ⟨gb172, 0, none⟩) (Kd.V_mono HO178.out (fun k_ hk => (⟨hk, hk.2.2⟩ : _ ∧ k_ ≠ gb172))) (fun _ hk => hk.2) (.int .i64 200)) (fun _ hk => hk.2) (.slice Ao7 y173.length co7)) (fun _ hk => hk.2) (.slice Ao6 y176.length co6)) (fun _ hk => hk.2) (.bool true)) (fun _ hk => ⟨hk.1.1, hk.1.2.1⟩), by repeat (first | (with_reducible first | exact HB.out | apply below_alloc | apply pw_below_drewN | apply below_drew1 | refine below_set ?_ GE172.out) | exact HB.out)⟩

/-! ### ostiarylaw15_awake: function 29 -/
def ostiarylaw15_awake.f (k : Nat)  : Option (Bool) := (ostiarylaw15_ab.f).bind fun bt179 => ((resp_Write.f k bt179.1 bt179.2.1 bt179.2.2.1 bt179.2.2.2).bind fun bt187 => (if bt187.2 = 0 then (if (strOfNums bt187.1).toList = ([72, 84, 84, 80, 47, 49, 46, 49, 32, 50, 48, 48, 32, 79, 75, 13, 10, 97, 58, 32, 98, 13, 10, 67, 111, 110, 116, 101, 110, 116, 45, 76, 101, 110, 103, 116, 104, 58, 32, 49, 13, 10, 13, 10, 120] : List UInt8) then ((resp_Reason.f 404).bind fun t191 => (some (t191.toList == ([78, 111, 116, 32, 70, 111, 117, 110, 100] : List UInt8)))) else (some false)) else (some false)))
theorem ostiarylaw15_awake.mono : ∀ k, LeO (ostiarylaw15_awake.f k ) (ostiarylaw15_awake.f (k + 1) ) := by
 intro  k
 unfold ostiarylaw15_awake.f
 repeat' first
   | (with_reducible exact resp_Write.mono _ _ _ _ _)
   | (with_reducible exact LeO.refl _)
   | (with_reducible exact LeO.none _)
   | (with_reducible refine LeO.ite ?_ ?_)
   | (with_reducible refine LeO.bind ?_ (fun _ => ?_))
   | exact resp_Write.mono _ _ _ _ _
   | exact LeO.none _
   | refine LeO.ite ?_ ?_
   | refine LeO.bind ?_ (fun _ => ?_)
set_option maxHeartbeats 8000000 in
set_option maxRecDepth 100000 in
theorem ostiarylaw15_awake.calls (k : Nat)  (r : Bool) (w : World) (hG : GG 2 w) (h : ostiarylaw15_awake.f k  = some r) :
  Calls Tryd.prog 29 #[] w fun e w' => e = .returned (.bool r) ∧ Below w.heap.size w w' := by
 have HGG := Aside0.mk hG
 clear hG
 have HB := Aside0.mk (Below.refl w.heap.size w)
 have H : ((ostiarylaw15_ab.f).bind fun bt179 => ((resp_Write.f k bt179.1 bt179.2.1 bt179.2.2.1 bt179.2.2.2).bind fun bt187 => (if bt187.2 = 0 then (if (strOfNums bt187.1).toList = ([72, 84, 84, 80, 47, 49, 46, 49, 32, 50, 48, 48, 32, 79, 75, 13, 10, 97, 58, 32, 98, 13, 10, 67, 111, 110, 116, 101, 110, 116, 45, 76, 101, 110, 103, 116, 104, 58, 32, 49, 13, 10, 13, 10, 120] : List UInt8) then ((resp_Reason.f 404).bind fun t191 => (some (t191.toList == ([78, 111, 116, 32, 70, 111, 117, 110, 100] : List UInt8)))) else (some false)) else (some false)))) = some r := h
 clear h
 replace H := Option.bind_eq_some_iff.mp H
 obtain ⟨⟨t179, t180, t183, t186⟩, A10, H⟩ := H
 replace H : ((resp_Write.f k t179 t180 t183 t186).bind fun bt187 => (if bt187.2 = 0 then (if (strOfNums bt187.1).toList = ([72, 84, 84, 80, 47, 49, 46, 49, 32, 50, 48, 48, 32, 79, 75, 13, 10, 97, 58, 32, 98, 13, 10, 67, 111, 110, 116, 101, 110, 116, 45, 76, 101, 110, 103, 116, 104, 58, 32, 49, 13, 10, 13, 10, 120] : List UInt8) then ((resp_Reason.f 404).bind fun t191 => (some (t191.toList == ([78, 111, 116, 32, 70, 111, 117, 110, 100] : List UInt8)))) else (some false)) else (some false))) = some r := H
 have A1 := Aside0.mk A10
 clear A10
 replace H := Option.bind_eq_some_iff.mp H
 obtain ⟨⟨t187, t190⟩, A20, H⟩ := H
 replace H : (if t190 = 0 then (if (strOfNums t187).toList = ([72, 84, 84, 80, 47, 49, 46, 49, 32, 50, 48, 48, 32, 79, 75, 13, 10, 97, 58, 32, 98, 13, 10, 67, 111, 110, 116, 101, 110, 116, 45, 76, 101, 110, 103, 116, 104, 58, 32, 49, 13, 10, 13, 10, 120] : List UInt8) then ((resp_Reason.f 404).bind fun t191 => (some (t191.toList == ([78, 111, 116, 32, 70, 111, 117, 110, 100] : List UInt8)))) else (some false)) else (some false)) = some r := H
 have A2 := Aside0.mk A20
 clear A20
 by_cases c3 : t190 = 0
 ·rw [if_pos c3] at H
  have c3b0 : (t190 == 0) = true := beq_iff_eq.mpr c3
  have c3b1 : (t190 != 0) = false := bne_eq_false_iff_eq.mpr c3
  clear c3
  by_cases c4 : (strOfNums t187).toList = ([72, 84, 84, 80, 47, 49, 46, 49, 32, 50, 48, 48, 32, 79, 75, 13, 10, 97, 58, 32, 98, 13, 10, 67, 111, 110, 116, 101, 110, 116, 45, 76, 101, 110, 103, 116, 104, 58, 32, 49, 13, 10, 13, 10, 120] : List UInt8)
  ·rw [if_pos c4] at H
   have c4b0 : ((strOfNums t187).toList == ([72, 84, 84, 80, 47, 49, 46, 49, 32, 50, 48, 48, 32, 79, 75, 13, 10, 97, 58, 32, 98, 13, 10, 67, 111, 110, 116, 101, 110, 116, 45, 76, 101, 110, 103, 116, 104, 58, 32, 49, 13, 10, 13, 10, 120] : List UInt8)) = true := beq_iff_eq.mpr c4
   have c4b1 : ((strOfNums t187).toList != ([72, 84, 84, 80, 47, 49, 46, 49, 32, 50, 48, 48, 32, 79, 75, 13, 10, 97, 58, 32, 98, 13, 10, 67, 111, 110, 116, 101, 110, 116, 45, 76, 101, 110, 103, 116, 104, 58, 32, 49, 13, 10, 13, 10, 120] : List UInt8)) = false := bne_eq_false_iff_eq.mpr c4
   clear c4
   replace H := Option.bind_eq_some_iff.mp H
   obtain ⟨t191, A50, H⟩ := H
   replace H : (some (t191.toList == ([78, 111, 116, 32, 70, 111, 117, 110, 100] : List UInt8))) = some r := H
   have A5 := Aside0.mk A50
   clear A50
   obtain rfl := Option.some.inj H
   go_enter Tryd.func29, Tryd.ntmps29
   go_wp2_with (first | ((with_reducible refine gate_callee (f := 63) rfl ?_); refine goesL_ (some 4) rfl rfl Tryd.func63 (by kernel_rfl) rfl #[] rfl (by (try simp only [List.map_toArray, List.map_cons, List.map_nil]); first | done | rfl | (simp only [List.length_drop, List.length_take]; rfl)) ?_; (with_reducible refine (ostiarylaw15_ab.calls  t179 t180 t183 t186 _ A1.out).mono ?_); rintro e w6 ⟨v181, v184, rfl, ho0, ho1, hb⟩; refine ⟨_, rfl, ?_⟩; have n0_ := Aside0.mk (Kd.R_lower (Kd.R_mono (ok' := fun k_ => True) ho0 (fun _ hk_ => trivial)) (below_size (by repeat (first | (with_reducible first | exact HB.out | apply below_alloc | apply pw_below_drewN | apply below_drew1) | exact HB.out)))); have n1_ := Aside0.mk (Kd.V_lower (Kd.V_mono (ok' := fun k_ => some k_ ≠ (v181 : Value).ownBlock) ho1 (fun k_ hk_ => hk_.2)) (below_size (by repeat (first | (with_reducible first | exact HB.out | apply below_alloc | apply pw_below_drewN | apply below_drew1) | exact HB.out)))); have n2_ := Aside0.mk (below_step (by repeat (first | (with_reducible first | exact HB.out | apply below_alloc | apply pw_below_drewN | apply below_drew1) | exact HB.out)) hb); clear HB; have HO182 := n0_; have HO185 := n1_; have HB := n2_; clear n0_ n1_ n2_; (try clear hb); (try clear hb2); (try clear hk); (try clear hi); (try clear ho0); (try clear ho1); obtain ⟨Ao7, co7, eo7⟩ := Kd.R_slice HO182.out; subst eo7; obtain ⟨Ao8, co8, eo8⟩ := Kd.V_slice HO185.out; subst eo8) | ((with_reducible refine gate_callee (f := 31) rfl ?_); refine goesL_ (some 5) rfl rfl Tryd.func31 (by kernel_rfl) rfl #[.agg #[.int .i64 t179, .slice Ao7 t180.length co7, .slice Ao8 t183.length co8, .bool t186]] rfl (by (try simp only [List.map_toArray, List.map_cons, List.map_nil]); first | done | rfl | (simp only [List.length_drop, List.length_take]; rfl)) ?_; (with_reducible refine (resp_Write.calls k t179 _ _ t180 _ _ t183 t186 t187 t190 _ ?side1 ?side2 ?side3 ?side4 ?side5 A2.out).mono ?_); (case side1 => repeat (first | exact (Kd.R_reads' HO182.out).2.2 | (with_reducible refine Kd.C_alloc ?_ _) | (with_reducible refine Kd.C_drewN ?_ _) | (with_reducible refine Kd.C_drew ?_))); (case side2 => exact (Kd.R_reads' HO182.out).2.1); (case side3 => repeat (first | exact (Kd.V_reads' HO185.out).2.2 | (with_reducible refine Kd.C_alloc ?_ _) | (with_reducible refine Kd.C_drewN ?_ _) | (with_reducible refine Kd.C_drew ?_))); (case side4 => exact (Kd.V_reads' HO185.out).2.1); (case side5 => exact GG_step HGG.out (by decide) (by repeat (first | (with_reducible first | exact HB.out | apply below_alloc | apply pw_below_drewN | apply below_drew1) | exact HB.out))); rintro e w9 ⟨v188, rfl, ho0, hb⟩; refine ⟨_, rfl, ?_⟩; have n0_ := Aside0.mk (Kd.R_below (by (with_reducible repeat (first | apply Kd.R_alloc | apply Kd.R_drewN | apply Kd.R_drew)); exact HO182.out) hb); have n1_ := Aside0.mk (Kd.V_below (by (with_reducible repeat (first | apply Kd.V_alloc | apply Kd.V_drewN | apply Kd.V_drew)); exact HO185.out) hb); have n2_ := Aside0.mk (Kd.V_lower (Kd.V_mono (ok' := fun k_ => some k_ ≠ (.slice Ao7 t180.length co7 : Value).ownBlock) ho0 (fun k_ hk_ => (Kd.fresh' (Kd.R_lt (by (with_reducible repeat (first | apply Kd.R_alloc | apply Kd.R_drewN | apply Kd.R_drew)); exact HO182.out)) k_ hk_))) (below_size (by repeat (first | (with_reducible first | exact HB.out | apply below_alloc | apply pw_below_drewN | apply below_drew1) | exact HB.out)))); have n3_ := Aside0.mk (below_step (by repeat (first | (with_reducible first | exact HB.out | apply below_alloc | apply pw_below_drewN | apply below_drew1) | exact HB.out)) hb); clear HO182; clear HO185; clear HB; have HO182 := n0_; have HO185 := n1_; have HO189 := n2_; have HB := n3_; clear n0_ n1_ n2_ n3_; (try clear hb); (try clear hb2); (try clear hk); (try clear hi); (try clear ho0); have hcv10 := V_string (P := Tryd.prog) Tryd.underlying25 Tryd.underlying5 Tryd.underlying9 HO189.out) | (go_at_call 36; (with_reducible refine (resp_Reason.calls 404 t191 _ A5.out).mono ?_); rintro e w11 ⟨rfl, hb⟩; have n0_ := Aside0.mk (Kd.R_below (by (with_reducible repeat (first | apply Kd.R_alloc | apply Kd.R_drewN | apply Kd.R_drew)); exact HO182.out) hb); have n1_ := Aside0.mk (Kd.V_below (by (with_reducible repeat (first | apply Kd.V_alloc | apply Kd.V_drewN | apply Kd.V_drew)); exact HO185.out) hb); have n2_ := Aside0.mk (Kd.V_below (by (with_reducible repeat (first | apply Kd.V_alloc | apply Kd.V_drewN | apply Kd.V_drew)); exact HO189.out) hb); have n3_ := Aside0.mk (below_step (by repeat (first | (with_reducible first | exact HB.out | apply below_alloc | apply pw_below_drewN | apply below_drew1) | exact HB.out)) hb); clear HO182; clear HO185; clear HO189; clear HB; have HO182 := n0_; have HO185 := n1_; have HO189 := n2_; have HB := n3_; clear n0_ n1_ n2_ n3_; (try clear hb); (try clear hb2); (try clear hk); (try clear hi)))
   go_ret
   exact ⟨by first | rfl | (simp [errW_none, errW_some] <;> rfl) | (simp [*, errW_none, errW_some] <;> rfl), by repeat (first | (with_reducible first | exact HB.out | apply below_alloc | apply pw_below_drewN | apply below_drew1) | exact HB.out)⟩
  ·rw [if_neg c4] at H
   have c4b0 : ((strOfNums t187).toList == ([72, 84, 84, 80, 47, 49, 46, 49, 32, 50, 48, 48, 32, 79, 75, 13, 10, 97, 58, 32, 98, 13, 10, 67, 111, 110, 116, 101, 110, 116, 45, 76, 101, 110, 103, 116, 104, 58, 32, 49, 13, 10, 13, 10, 120] : List UInt8)) = false := beq_eq_false_iff_ne.mpr c4
   have c4b1 : ((strOfNums t187).toList != ([72, 84, 84, 80, 47, 49, 46, 49, 32, 50, 48, 48, 32, 79, 75, 13, 10, 97, 58, 32, 98, 13, 10, 67, 111, 110, 116, 101, 110, 116, 45, 76, 101, 110, 103, 116, 104, 58, 32, 49, 13, 10, 13, 10, 120] : List UInt8)) = true := bne_iff_ne.mpr c4
   obtain rfl := Option.some.inj H
   go_enter Tryd.func29, Tryd.ntmps29
   go_wp2_with (first | ((with_reducible refine gate_callee (f := 63) rfl ?_); refine goesL_ (some 4) rfl rfl Tryd.func63 (by kernel_rfl) rfl #[] rfl (by (try simp only [List.map_toArray, List.map_cons, List.map_nil]); first | done | rfl | (simp only [List.length_drop, List.length_take]; rfl)) ?_; (with_reducible refine (ostiarylaw15_ab.calls  t179 t180 t183 t186 _ A1.out).mono ?_); rintro e w12 ⟨v181, v184, rfl, ho0, ho1, hb⟩; refine ⟨_, rfl, ?_⟩; have n0_ := Aside0.mk (Kd.R_lower (Kd.R_mono (ok' := fun k_ => True) ho0 (fun _ hk_ => trivial)) (below_size (by repeat (first | (with_reducible first | exact HB.out | apply below_alloc | apply pw_below_drewN | apply below_drew1) | exact HB.out)))); have n1_ := Aside0.mk (Kd.V_lower (Kd.V_mono (ok' := fun k_ => some k_ ≠ (v181 : Value).ownBlock) ho1 (fun k_ hk_ => hk_.2)) (below_size (by repeat (first | (with_reducible first | exact HB.out | apply below_alloc | apply pw_below_drewN | apply below_drew1) | exact HB.out)))); have n2_ := Aside0.mk (below_step (by repeat (first | (with_reducible first | exact HB.out | apply below_alloc | apply pw_below_drewN | apply below_drew1) | exact HB.out)) hb); clear HB; have HO182 := n0_; have HO185 := n1_; have HB := n2_; clear n0_ n1_ n2_; (try clear hb); (try clear hb2); (try clear hk); (try clear hi); (try clear ho0); (try clear ho1); obtain ⟨Ao13, co13, eo13⟩ := Kd.R_slice HO182.out; subst eo13; obtain ⟨Ao14, co14, eo14⟩ := Kd.V_slice HO185.out; subst eo14) | ((with_reducible refine gate_callee (f := 31) rfl ?_); refine goesL_ (some 5) rfl rfl Tryd.func31 (by kernel_rfl) rfl #[.agg #[.int .i64 t179, .slice Ao13 t180.length co13, .slice Ao14 t183.length co14, .bool t186]] rfl (by (try simp only [List.map_toArray, List.map_cons, List.map_nil]); first | done | rfl | (simp only [List.length_drop, List.length_take]; rfl)) ?_; (with_reducible refine (resp_Write.calls k t179 _ _ t180 _ _ t183 t186 t187 t190 _ ?side1 ?side2 ?side3 ?side4 ?side5 A2.out).mono ?_); (case side1 => repeat (first | exact (Kd.R_reads' HO182.out).2.2 | (with_reducible refine Kd.C_alloc ?_ _) | (with_reducible refine Kd.C_drewN ?_ _) | (with_reducible refine Kd.C_drew ?_))); (case side2 => exact (Kd.R_reads' HO182.out).2.1); (case side3 => repeat (first | exact (Kd.V_reads' HO185.out).2.2 | (with_reducible refine Kd.C_alloc ?_ _) | (with_reducible refine Kd.C_drewN ?_ _) | (with_reducible refine Kd.C_drew ?_))); (case side4 => exact (Kd.V_reads' HO185.out).2.1); (case side5 => exact GG_step HGG.out (by decide) (by repeat (first | (with_reducible first | exact HB.out | apply below_alloc | apply pw_below_drewN | apply below_drew1) | exact HB.out))); rintro e w15 ⟨v188, rfl, ho0, hb⟩; refine ⟨_, rfl, ?_⟩; have n0_ := Aside0.mk (Kd.R_below (by (with_reducible repeat (first | apply Kd.R_alloc | apply Kd.R_drewN | apply Kd.R_drew)); exact HO182.out) hb); have n1_ := Aside0.mk (Kd.V_below (by (with_reducible repeat (first | apply Kd.V_alloc | apply Kd.V_drewN | apply Kd.V_drew)); exact HO185.out) hb); have n2_ := Aside0.mk (Kd.V_lower (Kd.V_mono (ok' := fun k_ => some k_ ≠ (.slice Ao13 t180.length co13 : Value).ownBlock) ho0 (fun k_ hk_ => (Kd.fresh' (Kd.R_lt (by (with_reducible repeat (first | apply Kd.R_alloc | apply Kd.R_drewN | apply Kd.R_drew)); exact HO182.out)) k_ hk_))) (below_size (by repeat (first | (with_reducible first | exact HB.out | apply below_alloc | apply pw_below_drewN | apply below_drew1) | exact HB.out)))); have n3_ := Aside0.mk (below_step (by repeat (first | (with_reducible first | exact HB.out | apply below_alloc | apply pw_below_drewN | apply below_drew1) | exact HB.out)) hb); clear HO182; clear HO185; clear HB; have HO182 := n0_; have HO185 := n1_; have HO189 := n2_; have HB := n3_; clear n0_ n1_ n2_ n3_; (try clear hb); (try clear hb2); (try clear hk); (try clear hi); (try clear ho0); have hcv16 := V_string (P := Tryd.prog) Tryd.underlying25 Tryd.underlying5 Tryd.underlying9 HO189.out))
   go_ret
   exact ⟨by first | rfl | (simp [errW_none, errW_some] <;> rfl) | (simp [*, errW_none, errW_some] <;> rfl), by repeat (first | (with_reducible first | exact HB.out | apply below_alloc | apply pw_below_drewN | apply below_drew1) | exact HB.out)⟩
 ·rw [if_neg c3] at H
  have c3b0 : (t190 == 0) = false := beq_eq_false_iff_ne.mpr c3
  have c3b1 : (t190 != 0) = true := bne_iff_ne.mpr c3
  obtain rfl := Option.some.inj H
  go_enter Tryd.func29, Tryd.ntmps29
  go_wp2_with (first | ((with_reducible refine gate_callee (f := 63) rfl ?_); refine goesL_ (some 4) rfl rfl Tryd.func63 (by kernel_rfl) rfl #[] rfl (by (try simp only [List.map_toArray, List.map_cons, List.map_nil]); first | done | rfl | (simp only [List.length_drop, List.length_take]; rfl)) ?_; (with_reducible refine (ostiarylaw15_ab.calls  t179 t180 t183 t186 _ A1.out).mono ?_); rintro e w17 ⟨v181, v184, rfl, ho0, ho1, hb⟩; refine ⟨_, rfl, ?_⟩; have n0_ := Aside0.mk (Kd.R_lower (Kd.R_mono (ok' := fun k_ => True) ho0 (fun _ hk_ => trivial)) (below_size (by repeat (first | (with_reducible first | exact HB.out | apply below_alloc | apply pw_below_drewN | apply below_drew1) | exact HB.out)))); have n1_ := Aside0.mk (Kd.V_lower (Kd.V_mono (ok' := fun k_ => some k_ ≠ (v181 : Value).ownBlock) ho1 (fun k_ hk_ => hk_.2)) (below_size (by repeat (first | (with_reducible first | exact HB.out | apply below_alloc | apply pw_below_drewN | apply below_drew1) | exact HB.out)))); have n2_ := Aside0.mk (below_step (by repeat (first | (with_reducible first | exact HB.out | apply below_alloc | apply pw_below_drewN | apply below_drew1) | exact HB.out)) hb); clear HB; have HO182 := n0_; have HO185 := n1_; have HB := n2_; clear n0_ n1_ n2_; (try clear hb); (try clear hb2); (try clear hk); (try clear hi); (try clear ho0); (try clear ho1); obtain ⟨Ao18, co18, eo18⟩ := Kd.R_slice HO182.out; subst eo18; obtain ⟨Ao19, co19, eo19⟩ := Kd.V_slice HO185.out; subst eo19) | ((with_reducible refine gate_callee (f := 31) rfl ?_); refine goesL_ (some 5) rfl rfl Tryd.func31 (by kernel_rfl) rfl #[.agg #[.int .i64 t179, .slice Ao18 t180.length co18, .slice Ao19 t183.length co19, .bool t186]] rfl (by (try simp only [List.map_toArray, List.map_cons, List.map_nil]); first | done | rfl | (simp only [List.length_drop, List.length_take]; rfl)) ?_; (with_reducible refine (resp_Write.calls k t179 _ _ t180 _ _ t183 t186 t187 t190 _ ?side1 ?side2 ?side3 ?side4 ?side5 A2.out).mono ?_); (case side1 => repeat (first | exact (Kd.R_reads' HO182.out).2.2 | (with_reducible refine Kd.C_alloc ?_ _) | (with_reducible refine Kd.C_drewN ?_ _) | (with_reducible refine Kd.C_drew ?_))); (case side2 => exact (Kd.R_reads' HO182.out).2.1); (case side3 => repeat (first | exact (Kd.V_reads' HO185.out).2.2 | (with_reducible refine Kd.C_alloc ?_ _) | (with_reducible refine Kd.C_drewN ?_ _) | (with_reducible refine Kd.C_drew ?_))); (case side4 => exact (Kd.V_reads' HO185.out).2.1); (case side5 => exact GG_step HGG.out (by decide) (by repeat (first | (with_reducible first | exact HB.out | apply below_alloc | apply pw_below_drewN | apply below_drew1) | exact HB.out))); rintro e w20 ⟨v188, rfl, ho0, hb⟩; refine ⟨_, rfl, ?_⟩; have n0_ := Aside0.mk (Kd.R_below (by (with_reducible repeat (first | apply Kd.R_alloc | apply Kd.R_drewN | apply Kd.R_drew)); exact HO182.out) hb); have n1_ := Aside0.mk (Kd.V_below (by (with_reducible repeat (first | apply Kd.V_alloc | apply Kd.V_drewN | apply Kd.V_drew)); exact HO185.out) hb); have n2_ := Aside0.mk (Kd.V_lower (Kd.V_mono (ok' := fun k_ => some k_ ≠ (.slice Ao18 t180.length co18 : Value).ownBlock) ho0 (fun k_ hk_ => (Kd.fresh' (Kd.R_lt (by (with_reducible repeat (first | apply Kd.R_alloc | apply Kd.R_drewN | apply Kd.R_drew)); exact HO182.out)) k_ hk_))) (below_size (by repeat (first | (with_reducible first | exact HB.out | apply below_alloc | apply pw_below_drewN | apply below_drew1) | exact HB.out)))); have n3_ := Aside0.mk (below_step (by repeat (first | (with_reducible first | exact HB.out | apply below_alloc | apply pw_below_drewN | apply below_drew1) | exact HB.out)) hb); clear HO182; clear HO185; clear HB; have HO182 := n0_; have HO185 := n1_; have HO189 := n2_; have HB := n3_; clear n0_ n1_ n2_ n3_; (try clear hb); (try clear hb2); (try clear hk); (try clear hi); (try clear ho0)))
  go_ret
  exact ⟨by first | rfl | (simp [errW_none, errW_some] <;> rfl) | (simp [*, errW_none, errW_some] <;> rfl), by repeat (first | (with_reducible first | exact HB.out | apply below_alloc | apply pw_below_drewN | apply below_drew1) | exact HB.out)⟩

/-- THE ONE PURE STATEMENT of ostiarylaw15_awake: yours. -/
def ostiarylaw15_awake.Pure : Prop := ∃ k, ostiarylaw15_awake.f k  = some true
theorem ostiarylaw15_awake.walk (P : ostiarylaw15_awake.Pure)  (w : World)  (hG : GG 2 w) :
  Calls Tryd.prog 29 #[] w fun e w' => e = .returned (.bool true) ∧ Below w.heap.size w w' := by
 obtain ⟨k, h⟩ := P  
 refine (ostiarylaw15_awake.calls k  true w hG h).mono ?_
 rintro e w' ⟨rfl, hd⟩
 exact ⟨rfl, hd⟩

end Go.Proofs.YtnhpcpmgedjffaaDoor.P
