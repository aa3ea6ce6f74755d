import Derived.Test.YtnhpcpmgedjffaaGreatDoorKHeadWrites5
-- Written by the proof's own program out of the translation; Lean checks it.
namespace Go.Proofs.YtnhpcpmgedjffaaGreatDoor.P
open Go.RowKit Go.Proofs.YtnhpcpmgedjffaaGreatDoorW.PrintWords Go.Proofs.YtnhpcpmgedjffaaGreatDoorW.PrintLast Go.Proofs.YtnhpcpmgedjffaaGreatDoorW.PrintMore Go.Proofs.YtnhpcpmgedjffaaGreatDoorX
attribute [local go_sem] max2_int min2_int max_two min_two max_three min_three max_four min_four   -- for this text's walks alone
set_option linter.unusedVariables false
set_option linter.unusedSimpArgs false

/-! ### head_fine: function 82 -/
mutual
def head_fine.j0 : Nat → Bool → ByteArray → ByteArray → Int → List (S52) → Option (Bool)
 | 0, _, _, _, _, _ => none
 | k + 1, x36, x256000, x256001, x256002, x256003 => if x36 = true then (some false) else (head_fine.l0 k x256003 (x256003.length : Int) 0 x256000 x256001 x256002 x256003)
def head_fine.l0 : Nat → List (S52) → Int → Int → ByteArray → ByteArray → Int → List (S52) → Option (Bool)
 | 0, _, _, _, _, _, _, _ => none
 | k + 1, x38, x39, x40, x256000, x256001, x256002, x256003 => if x40 < x39 then (if 0 ≤ x40 then (if x40 < (x38.length : Int) then ((head_word.f ((rd_T52 x38 x40).f0) 64).bind fun t261 => (if t261 = true then ((head_value.f k ((rd_T52 x38 x40).f1)).bind fun t262 => (if t262 = true then (head_fine.l0 k x38 x39 (wrap64 (x40 + 1)) x256000 x256001 x256002 x256003) else (some false))) else (some false))) else (none)) else (none)) else ((head_hosts.f k x256000 x256001 x256002 x256003).bind fun t258 => (some t258))
end
def head_fine.f (k : Nat) (a0_0 : ByteArray) (a0_1 : ByteArray) (a0_2 : Int) (l0_3 : List (S52)) : Option (Bool) := (head_word.f a0_0 16).bind fun t256 => (if t256 = true then (if (a0_1.size : Int) > 2048 then (head_fine.j0 k true a0_0 a0_1 a0_2 l0_3) else ((head_target.f k a0_1).bind fun t257 => (if t257 = true then (if a0_2 < 0 then (head_fine.j0 k true a0_0 a0_1 a0_2 l0_3) else (if a0_2 > 1 then (head_fine.j0 k true a0_0 a0_1 a0_2 l0_3) else (head_fine.j0 k (decide ((l0_3.length : Int) > 32)) a0_0 a0_1 a0_2 l0_3))) else (head_fine.j0 k true a0_0 a0_1 a0_2 l0_3)))) else (head_fine.j0 k true a0_0 a0_1 a0_2 l0_3))
theorem head_fine.mono_l : ∀ k, (∀ y0 y1 y2 y3 y4, LeO (head_fine.j0 k y0 y1 y2 y3 y4) (head_fine.j0 (k + 1) y0 y1 y2 y3 y4)) ∧ (∀ y0 y1 y2 y3 y4 y5 y6, LeO (head_fine.l0 k y0 y1 y2 y3 y4 y5 y6) (head_fine.l0 (k + 1) y0 y1 y2 y3 y4 y5 y6))
 | 0 => ⟨fun _ _ _ _ _ r h => by simp [head_fine.j0] at h, fun _ _ _ _ _ _ _ r h => by simp [head_fine.l0] at h⟩
 | k + 1 => by
  obtain ⟨ih0, ih1⟩ := head_fine.mono_l k
  refine ⟨?_, ?_⟩
  ·intro y0 y1 y2 y3 y4
   unfold head_fine.j0
   repeat' first
   | (with_reducible exact ih0 _ _ _ _ _)
   | (with_reducible exact ih1 _ _ _ _ _ _ _)
   | (with_reducible exact head_hosts.mono _ _ _ _ _)
   | (with_reducible exact head_target.mono _ _)
   | (with_reducible exact head_value.mono _ _)
   | (with_reducible exact LeO.refl _)
   | (with_reducible exact LeO.none _)
   | (with_reducible refine LeO.ite ?_ ?_)
   | (with_reducible refine LeO.bind ?_ (fun _ => ?_))
   | exact ih0 _ _ _ _ _
   | exact ih1 _ _ _ _ _ _ _
   | exact head_hosts.mono _ _ _ _ _
   | exact head_target.mono _ _
   | exact head_value.mono _ _
   | exact LeO.none _
   | refine LeO.ite ?_ ?_
   | refine LeO.bind ?_ (fun _ => ?_)
  ·intro y0 y1 y2 y3 y4 y5 y6
   unfold head_fine.l0
   repeat' first
   | (with_reducible exact ih0 _ _ _ _ _)
   | (with_reducible exact ih1 _ _ _ _ _ _ _)
   | (with_reducible exact head_hosts.mono _ _ _ _ _)
   | (with_reducible exact head_target.mono _ _)
   | (with_reducible exact head_value.mono _ _)
   | (with_reducible exact LeO.refl _)
   | (with_reducible exact LeO.none _)
   | (with_reducible refine LeO.ite ?_ ?_)
   | (with_reducible refine LeO.bind ?_ (fun _ => ?_))
   | exact ih0 _ _ _ _ _
   | exact ih1 _ _ _ _ _ _ _
   | exact head_hosts.mono _ _ _ _ _
   | exact head_target.mono _ _
   | exact head_value.mono _ _
   | exact LeO.none _
   | refine LeO.ite ?_ ?_
   | refine LeO.bind ?_ (fun _ => ?_)
theorem head_fine.mono : ∀ a0 a1 a2 a3 k, LeO (head_fine.f k a0 a1 a2 a3) (head_fine.f (k + 1) a0 a1 a2 a3) := by
 intro a0 a1 a2 a3 k
 obtain ⟨ih0, ih1⟩ := head_fine.mono_l k
 unfold head_fine.f
 repeat' first
   | (with_reducible exact ih0 _ _ _ _ _)
   | (with_reducible exact ih1 _ _ _ _ _ _ _)
   | (with_reducible exact head_hosts.mono _ _ _ _ _)
   | (with_reducible exact head_target.mono _ _)
   | (with_reducible exact head_value.mono _ _)
   | (with_reducible exact LeO.refl _)
   | (with_reducible exact LeO.none _)
   | (with_reducible refine LeO.ite ?_ ?_)
   | (with_reducible refine LeO.bind ?_ (fun _ => ?_))
   | exact ih0 _ _ _ _ _
   | exact ih1 _ _ _ _ _ _ _
   | exact head_hosts.mono _ _ _ _ _
   | exact head_target.mono _ _
   | exact head_value.mono _ _
   | exact LeO.none _
   | refine LeO.ite ?_ ?_
   | refine LeO.bind ?_ (fun _ => ?_)
set_option maxHeartbeats 8000000 in
set_option maxRecDepth 100000 in
theorem head_fine.calls (k : Nat) (a0_0 : ByteArray) (a0_1 : ByteArray) (a0_2 : Int) (A0_3 : Option Addr) (c0_3 : Nat) (l0_3 : List (S52)) (r : Bool) (w : World) (hr0_3 : Kd.C k52 w A0_3 l0_3.length l0_3) (hc0_3 : l0_3.length ≤ c0_3) (h : head_fine.f k a0_0 a0_1 a0_2 l0_3 = some r) :
  Calls Tryz.prog 82 #[.agg #[.string a0_0, .string a0_1, .int .i64 a0_2, .slice A0_3 l0_3.length c0_3]] w fun e w' => e = .returned (.bool r) ∧ Below w.heap.size w w' := by
 have hu35 := Tryz.underlying35
 have hu52 := Tryz.underlying52
 have HR0_3 := Aside0.mk hr0_3
 have HC0_3 := Aside0.mk hc0_3
 clear hr0_3 hc0_3
 have HB := Aside0.mk (Below.refl w.heap.size w)
 have H : ((head_word.f a0_0 16).bind fun t256 => (if t256 = true then (if (a0_1.size : Int) > 2048 then (head_fine.j0 k true a0_0 a0_1 a0_2 l0_3) else ((head_target.f k a0_1).bind fun t257 => (if t257 = true then (if a0_2 < 0 then (head_fine.j0 k true a0_0 a0_1 a0_2 l0_3) else (if a0_2 > 1 then (head_fine.j0 k true a0_0 a0_1 a0_2 l0_3) else (head_fine.j0 k (decide ((l0_3.length : Int) > 32)) a0_0 a0_1 a0_2 l0_3))) else (head_fine.j0 k true a0_0 a0_1 a0_2 l0_3)))) else (head_fine.j0 k true a0_0 a0_1 a0_2 l0_3))) = some r := h
 clear h
 have HC2 := Aside0.mk H
 clear H
 go_enter Tryz.func82, Tryz.ntmps82
 go_upto_region 1 with (first | ((with_reducible refine gate_dst (N := 1) rfl ?_); (try (refine gate_guard (by rfl) ?_; dsimp only)); refine box_event ?hg (N := 1) ?hd (cs := #[.string a0_0, .string a0_1, .int .i64 a0_2, .slice A0_3 l0_3.length c0_3]) (t := 35) ?hr ?_; (case hd => rfl); (case hg => rfl); (case hr => first | (go_simp; done) | (go_simp; rfl)); intro gb255 hg w3 hbox hb; have n0_ := Aside0.mk (below_step (by repeat (first | (with_reducible first | exact HB.out | apply below_alloc | apply pw_below_drewN | apply below_drew1) | exact HB.out)) hb); have n1_ := Aside0.mk (hbox); have n2_ := Aside0.mk ((by rw [hg]; exact (below_size (by repeat (first | (with_reducible first | exact HB.out | apply below_alloc | apply pw_below_drewN | apply below_drew1) | exact HB.out))) : w.heap.size ≤ gb255)); have n3_ := Aside0.mk ((by rw [hg]; exact (below_size (by repeat (first | (with_reducible first | exact HB.out | apply below_alloc | apply pw_below_drewN | apply below_drew1) | exact HB.out))) : w.heap.size ≤ gb255)); clear HB; have HB := n0_; have BK255 := n1_; have GW255 := n2_; have GE255 := n3_; clear n0_ n1_ n2_ n3_; clear hb hbox hg))
 (try simp only [Act.put, List.setIfInBounds_toArray, List.set_cons_zero, List.set_cons_succ])
 go_cut [36] (fun v36 wc => ∃ (kq : Nat) (x36_1 : Bool), v36 = .bool x36_1 ∧ Aside0 (head_fine.j0 kq x36_1 a0_0 a0_1 a0_2 l0_3 = some r) ∧ Aside0 (kq ≤ k) ∧ Aside0 (wc.heap[gb255]? = some (.cells #[.string a0_0, .string a0_1, .int .i64 a0_2, (.slice A0_3 l0_3.length c0_3)] 35 (0, 0))) ∧ Aside0 (Below w.heap.size w wc))
 case first =>
  have H := HC2.out
  clear HC2
  replace H := Option.bind_eq_some_iff.mp H
  obtain ⟨t256, A40, H⟩ := H
  replace H : (if t256 = true then (if (a0_1.size : Int) > 2048 then (head_fine.j0 k true a0_0 a0_1 a0_2 l0_3) else ((head_target.f k a0_1).bind fun t257 => (if t257 = true then (if a0_2 < 0 then (head_fine.j0 k true a0_0 a0_1 a0_2 l0_3) else (if a0_2 > 1 then (head_fine.j0 k true a0_0 a0_1 a0_2 l0_3) else (head_fine.j0 k (decide ((l0_3.length : Int) > 32)) a0_0 a0_1 a0_2 l0_3))) else (head_fine.j0 k true a0_0 a0_1 a0_2 l0_3)))) else (head_fine.j0 k true a0_0 a0_1 a0_2 l0_3)) = some r := H
  have A4 := Aside0.mk A40
  clear A40
  by_cases c5 : t256 = true
  ·subst c5
   have H1 : (if (a0_1.size : Int) > 2048 then (head_fine.j0 k true a0_0 a0_1 a0_2 l0_3) else ((head_target.f k a0_1).bind fun t257 => (if t257 = true then (if a0_2 < 0 then (head_fine.j0 k true a0_0 a0_1 a0_2 l0_3) else (if a0_2 > 1 then (head_fine.j0 k true a0_0 a0_1 a0_2 l0_3) else (head_fine.j0 k (decide ((l0_3.length : Int) > 32)) a0_0 a0_1 a0_2 l0_3))) else (head_fine.j0 k true a0_0 a0_1 a0_2 l0_3)))) = some r := by rw [if_pos rfl] at H; exact H
   clear H
   have H := H1
   clear H1
   by_cases c6 : (a0_1.size : Int) > 2048
   ·rw [if_pos c6] at H
    have c6b0 : decide (2048 < (a0_1.size : Int)) = true := decide_eq_true c6
    have c6b1 : decide (2048 < a0_1.size) = true := decide_eq_true (by omega)
    clear c6
    (first | rw [c6b0] | (simp only [i64_w, i32_w]; rw [c6b0]) | skip)
    have H' := Aside0.mk H
    clear H
    have hcz7_0 : w3.cell? ⟨gb255, 0, none⟩ = some (.string a0_0) := (blk_cell BK255.out 0).trans rfl
    have hcz7_1 : w3.cell? ⟨gb255, 1, none⟩ = some (.string a0_1) := (blk_cell BK255.out 1).trans rfl
    have hcz7_2 : w3.cell? ⟨gb255, 2, none⟩ = some (.int .i64 a0_2) := (blk_cell BK255.out 2).trans rfl
    have hcz7_3 : w3.cell? ⟨gb255, 3, none⟩ = some (.slice A0_3 l0_3.length c0_3) := (blk_cell BK255.out 3).trans rfl
    have hfz7_0 := blk_frozen BK255.out 0
    have hfz7_1 := blk_frozen BK255.out 1
    have hfz7_2 := blk_frozen BK255.out 2
    have hfz7_3 := blk_frozen BK255.out 3
    go_wp2_with (first | ((with_reducible refine gate_callee (f := 109) rfl ?_); refine goesL_ (some 7) rfl rfl Tryz.func109 (by kernel_rfl) rfl #[.string a0_0, .int .i64 16] rfl (by (try simp only [List.map_toArray, List.map_cons, List.map_nil]); first | done | rfl | (simp only [List.length_drop, List.length_take]; rfl)) ?_; (with_reducible refine (head_word.calls a0_0 16 true _ A4.out).mono ?_); rintro e w8 ⟨rfl, hb⟩; refine ⟨_, rfl, ?_⟩; have n0_ := Aside0.mk (blk_below (g := gb255) (o := .cells #[.string a0_0, .string a0_1, .int .i64 a0_2, .slice A0_3 l0_3.length c0_3] 35 (0, 0)) (by (with_reducible repeat (first | refine blk_drewN ?_ _ | refine blk_drew ?_ | refine blk_alloc ?_ _)); exact BK255.out) hb); have n1_ := Aside0.mk (below_step (by repeat (first | (with_reducible first | exact HB.out | apply below_alloc | apply pw_below_drewN | apply below_drew1 | refine below_set ?_ GE255.out) | exact HB.out)) hb); clear BK255; clear HB; have BK255 := n0_; have HB := n1_; clear n0_ n1_; (try clear hb); (try clear hb2); (try clear hk); (try clear hi); have hcz9_0 : w8.cell? ⟨gb255, 0, none⟩ = some (.string a0_0) := (blk_cell BK255.out 0).trans rfl; have hcz9_1 : w8.cell? ⟨gb255, 1, none⟩ = some (.string a0_1) := (blk_cell BK255.out 1).trans rfl; have hcz9_2 : w8.cell? ⟨gb255, 2, none⟩ = some (.int .i64 a0_2) := (blk_cell BK255.out 2).trans rfl; have hcz9_3 : w8.cell? ⟨gb255, 3, none⟩ = some (.slice A0_3 l0_3.length c0_3) := (blk_cell BK255.out 3).trans rfl; have hfz9_0 := blk_frozen BK255.out 0; have hfz9_1 := blk_frozen BK255.out 1; have hfz9_2 := blk_frozen BK255.out 2; have hfz9_3 := blk_frozen BK255.out 3))
    go_meet
    case rel => exact ⟨_, (true), (by first | rfl | (simp; done) | (simp [*]; done)), H', ⟨by first | omega | exact Nat.le_refl _⟩, ⟨by (with_reducible repeat (first | refine blk_drewN ?_ _ | refine blk_drew ?_ | refine blk_alloc ?_ _)); exact BK255.out⟩, ⟨by repeat (first | (with_reducible first | exact HB.out | apply below_alloc | apply pw_below_drewN | apply below_drew1 | refine below_set ?_ GE255.out) | exact HB.out)⟩⟩
   ·rw [if_neg c6] at H
    have c6b0 : decide (2048 < (a0_1.size : Int)) = false := decide_eq_false c6
    have c6b1 : decide (2048 < a0_1.size) = false := decide_eq_false (by omega)
    clear c6
    (first | rw [c6b0] | (simp only [i64_w, i32_w]; rw [c6b0]) | skip)
    replace H := Option.bind_eq_some_iff.mp H
    obtain ⟨t257, A100, H⟩ := H
    replace H : (if t257 = true then (if a0_2 < 0 then (head_fine.j0 k true a0_0 a0_1 a0_2 l0_3) else (if a0_2 > 1 then (head_fine.j0 k true a0_0 a0_1 a0_2 l0_3) else (head_fine.j0 k (decide ((l0_3.length : Int) > 32)) a0_0 a0_1 a0_2 l0_3))) else (head_fine.j0 k true a0_0 a0_1 a0_2 l0_3)) = some r := H
    have A10 := Aside0.mk A100
    clear A100
    by_cases c11 : t257 = true
    ·subst c11
     have H1 : (if a0_2 < 0 then (head_fine.j0 k true a0_0 a0_1 a0_2 l0_3) else (if a0_2 > 1 then (head_fine.j0 k true a0_0 a0_1 a0_2 l0_3) else (head_fine.j0 k (decide ((l0_3.length : Int) > 32)) a0_0 a0_1 a0_2 l0_3))) = some r := by rw [if_pos rfl] at H; exact H
     clear H
     have H := H1
     clear H1
     by_cases c12 : a0_2 < 0
     ·rw [if_pos c12] at H
      have c12b0 : decide (a0_2 < 0) = true := decide_eq_true c12
      clear c12
      have H' := Aside0.mk H
      clear H
      have hcz13_0 : w3.cell? ⟨gb255, 0, none⟩ = some (.string a0_0) := (blk_cell BK255.out 0).trans rfl
      have hcz13_1 : w3.cell? ⟨gb255, 1, none⟩ = some (.string a0_1) := (blk_cell BK255.out 1).trans rfl
      have hcz13_2 : w3.cell? ⟨gb255, 2, none⟩ = some (.int .i64 a0_2) := (blk_cell BK255.out 2).trans rfl
      have hcz13_3 : w3.cell? ⟨gb255, 3, none⟩ = some (.slice A0_3 l0_3.length c0_3) := (blk_cell BK255.out 3).trans rfl
      have hfz13_0 := blk_frozen BK255.out 0
      have hfz13_1 := blk_frozen BK255.out 1
      have hfz13_2 := blk_frozen BK255.out 2
      have hfz13_3 := blk_frozen BK255.out 3
      go_wp2_with (first | ((with_reducible refine gate_callee (f := 109) rfl ?_); refine goesL_ (some 7) rfl rfl Tryz.func109 (by kernel_rfl) rfl #[.string a0_0, .int .i64 16] rfl (by (try simp only [List.map_toArray, List.map_cons, List.map_nil]); first | done | rfl | (simp only [List.length_drop, List.length_take]; rfl)) ?_; (with_reducible refine (head_word.calls a0_0 16 true _ A4.out).mono ?_); rintro e w14 ⟨rfl, hb⟩; refine ⟨_, rfl, ?_⟩; have n0_ := Aside0.mk (blk_below (g := gb255) (o := .cells #[.string a0_0, .string a0_1, .int .i64 a0_2, .slice A0_3 l0_3.length c0_3] 35 (0, 0)) (by (with_reducible repeat (first | refine blk_drewN ?_ _ | refine blk_drew ?_ | refine blk_alloc ?_ _)); exact BK255.out) hb); have n1_ := Aside0.mk (below_step (by repeat (first | (with_reducible first | exact HB.out | apply below_alloc | apply pw_below_drewN | apply below_drew1 | refine below_set ?_ GE255.out) | exact HB.out)) hb); clear BK255; clear HB; have BK255 := n0_; have HB := n1_; clear n0_ n1_; (try clear hb); (try clear hb2); (try clear hk); (try clear hi); have hcz15_0 : w14.cell? ⟨gb255, 0, none⟩ = some (.string a0_0) := (blk_cell BK255.out 0).trans rfl; have hcz15_1 : w14.cell? ⟨gb255, 1, none⟩ = some (.string a0_1) := (blk_cell BK255.out 1).trans rfl; have hcz15_2 : w14.cell? ⟨gb255, 2, none⟩ = some (.int .i64 a0_2) := (blk_cell BK255.out 2).trans rfl; have hcz15_3 : w14.cell? ⟨gb255, 3, none⟩ = some (.slice A0_3 l0_3.length c0_3) := (blk_cell BK255.out 3).trans rfl; have hfz15_0 := blk_frozen BK255.out 0; have hfz15_1 := blk_frozen BK255.out 1; have hfz15_2 := blk_frozen BK255.out 2; have hfz15_3 := blk_frozen BK255.out 3) | (go_at_call 111; (with_reducible refine (head_target.calls k a0_1 true _ A10.out).mono ?_); rintro e w16 ⟨rfl, hb⟩; have n0_ := Aside0.mk (blk_below (g := gb255) (o := .cells #[.string a0_0, .string a0_1, .int .i64 a0_2, .slice A0_3 l0_3.length c0_3] 35 (0, 0)) (by (with_reducible repeat (first | refine blk_drewN ?_ _ | refine blk_drew ?_ | refine blk_alloc ?_ _)); exact BK255.out) hb); have n1_ := Aside0.mk (below_step (by repeat (first | (with_reducible first | exact HB.out | apply below_alloc | apply pw_below_drewN | apply below_drew1 | refine below_set ?_ GE255.out) | exact HB.out)) hb); clear BK255; clear HB; have BK255 := n0_; have HB := n1_; clear n0_ n1_; (try clear hb); (try clear hb2); (try clear hk); (try clear hi); have hcz17_0 : w16.cell? ⟨gb255, 0, none⟩ = some (.string a0_0) := (blk_cell BK255.out 0).trans rfl; have hcz17_1 : w16.cell? ⟨gb255, 1, none⟩ = some (.string a0_1) := (blk_cell BK255.out 1).trans rfl; have hcz17_2 : w16.cell? ⟨gb255, 2, none⟩ = some (.int .i64 a0_2) := (blk_cell BK255.out 2).trans rfl; have hcz17_3 : w16.cell? ⟨gb255, 3, none⟩ = some (.slice A0_3 l0_3.length c0_3) := (blk_cell BK255.out 3).trans rfl; have hfz17_0 := blk_frozen BK255.out 0; have hfz17_1 := blk_frozen BK255.out 1; have hfz17_2 := blk_frozen BK255.out 2; have hfz17_3 := blk_frozen BK255.out 3))
      go_meet
      case rel => exact ⟨_, (true), (by first | rfl | (simp; done) | (simp [*]; done)), H', ⟨by first | omega | exact Nat.le_refl _⟩, ⟨by (with_reducible repeat (first | refine blk_drewN ?_ _ | refine blk_drew ?_ | refine blk_alloc ?_ _)); exact BK255.out⟩, ⟨by repeat (first | (with_reducible first | exact HB.out | apply below_alloc | apply pw_below_drewN | apply below_drew1 | refine below_set ?_ GE255.out) | exact HB.out)⟩⟩
     ·rw [if_neg c12] at H
      have c12b0 : decide (a0_2 < 0) = false := decide_eq_false c12
      clear c12
      by_cases c18 : a0_2 > 1
      ·rw [if_pos c18] at H
       have c18b0 : decide (1 < a0_2) = true := decide_eq_true c18
       clear c18
       have H' := Aside0.mk H
       clear H
       have hcz19_0 : w3.cell? ⟨gb255, 0, none⟩ = some (.string a0_0) := (blk_cell BK255.out 0).trans rfl
       have hcz19_1 : w3.cell? ⟨gb255, 1, none⟩ = some (.string a0_1) := (blk_cell BK255.out 1).trans rfl
       have hcz19_2 : w3.cell? ⟨gb255, 2, none⟩ = some (.int .i64 a0_2) := (blk_cell BK255.out 2).trans rfl
       have hcz19_3 : w3.cell? ⟨gb255, 3, none⟩ = some (.slice A0_3 l0_3.length c0_3) := (blk_cell BK255.out 3).trans rfl
       have hfz19_0 := blk_frozen BK255.out 0
       have hfz19_1 := blk_frozen BK255.out 1
       have hfz19_2 := blk_frozen BK255.out 2
       have hfz19_3 := blk_frozen BK255.out 3
       go_wp2_with (first | ((with_reducible refine gate_callee (f := 109) rfl ?_); refine goesL_ (some 7) rfl rfl Tryz.func109 (by kernel_rfl) rfl #[.string a0_0, .int .i64 16] rfl (by (try simp only [List.map_toArray, List.map_cons, List.map_nil]); first | done | rfl | (simp only [List.length_drop, List.length_take]; rfl)) ?_; (with_reducible refine (head_word.calls a0_0 16 true _ A4.out).mono ?_); rintro e w20 ⟨rfl, hb⟩; refine ⟨_, rfl, ?_⟩; have n0_ := Aside0.mk (blk_below (g := gb255) (o := .cells #[.string a0_0, .string a0_1, .int .i64 a0_2, .slice A0_3 l0_3.length c0_3] 35 (0, 0)) (by (with_reducible repeat (first | refine blk_drewN ?_ _ | refine blk_drew ?_ | refine blk_alloc ?_ _)); exact BK255.out) hb); have n1_ := Aside0.mk (below_step (by repeat (first | (with_reducible first | exact HB.out | apply below_alloc | apply pw_below_drewN | apply below_drew1 | refine below_set ?_ GE255.out) | exact HB.out)) hb); clear BK255; clear HB; have BK255 := n0_; have HB := n1_; clear n0_ n1_; (try clear hb); (try clear hb2); (try clear hk); (try clear hi); have hcz21_0 : w20.cell? ⟨gb255, 0, none⟩ = some (.string a0_0) := (blk_cell BK255.out 0).trans rfl; have hcz21_1 : w20.cell? ⟨gb255, 1, none⟩ = some (.string a0_1) := (blk_cell BK255.out 1).trans rfl; have hcz21_2 : w20.cell? ⟨gb255, 2, none⟩ = some (.int .i64 a0_2) := (blk_cell BK255.out 2).trans rfl; have hcz21_3 : w20.cell? ⟨gb255, 3, none⟩ = some (.slice A0_3 l0_3.length c0_3) := (blk_cell BK255.out 3).trans rfl; have hfz21_0 := blk_frozen BK255.out 0; have hfz21_1 := blk_frozen BK255.out 1; have hfz21_2 := blk_frozen BK255.out 2; have hfz21_3 := blk_frozen BK255.out 3) | (go_at_call 111; (with_reducible refine (head_target.calls k a0_1 true _ A10.out).mono ?_); rintro e w22 ⟨rfl, hb⟩; have n0_ := Aside0.mk (blk_below (g := gb255) (o := .cells #[.string a0_0, .string a0_1, .int .i64 a0_2, .slice A0_3 l0_3.length c0_3] 35 (0, 0)) (by (with_reducible repeat (first | refine blk_drewN ?_ _ | refine blk_drew ?_ | refine blk_alloc ?_ _)); exact BK255.out) hb); have n1_ := Aside0.mk (below_step (by repeat (first | (with_reducible first | exact HB.out | apply below_alloc | apply pw_below_drewN | apply below_drew1 | refine below_set ?_ GE255.out) | exact HB.out)) hb); clear BK255; clear HB; have BK255 := n0_; have HB := n1_; clear n0_ n1_; (try clear hb); (try clear hb2); (try clear hk); (try clear hi); have hcz23_0 : w22.cell? ⟨gb255, 0, none⟩ = some (.string a0_0) := (blk_cell BK255.out 0).trans rfl; have hcz23_1 : w22.cell? ⟨gb255, 1, none⟩ = some (.string a0_1) := (blk_cell BK255.out 1).trans rfl; have hcz23_2 : w22.cell? ⟨gb255, 2, none⟩ = some (.int .i64 a0_2) := (blk_cell BK255.out 2).trans rfl; have hcz23_3 : w22.cell? ⟨gb255, 3, none⟩ = some (.slice A0_3 l0_3.length c0_3) := (blk_cell BK255.out 3).trans rfl; have hfz23_0 := blk_frozen BK255.out 0; have hfz23_1 := blk_frozen BK255.out 1; have hfz23_2 := blk_frozen BK255.out 2; have hfz23_3 := blk_frozen BK255.out 3))
       go_meet
       case rel => exact ⟨_, (true), (by first | rfl | (simp; done) | (simp [*]; done)), H', ⟨by first | omega | exact Nat.le_refl _⟩, ⟨by (with_reducible repeat (first | refine blk_drewN ?_ _ | refine blk_drew ?_ | refine blk_alloc ?_ _)); exact BK255.out⟩, ⟨by repeat (first | (with_reducible first | exact HB.out | apply below_alloc | apply pw_below_drewN | apply below_drew1 | refine below_set ?_ GE255.out) | exact HB.out)⟩⟩
      ·rw [if_neg c18] at H
       have c18b0 : decide (1 < a0_2) = false := decide_eq_false c18
       clear c18
       have H' := Aside0.mk H
       clear H
       have hcz24_0 : w3.cell? ⟨gb255, 0, none⟩ = some (.string a0_0) := (blk_cell BK255.out 0).trans rfl
       have hcz24_1 : w3.cell? ⟨gb255, 1, none⟩ = some (.string a0_1) := (blk_cell BK255.out 1).trans rfl
       have hcz24_2 : w3.cell? ⟨gb255, 2, none⟩ = some (.int .i64 a0_2) := (blk_cell BK255.out 2).trans rfl
       have hcz24_3 : w3.cell? ⟨gb255, 3, none⟩ = some (.slice A0_3 l0_3.length c0_3) := (blk_cell BK255.out 3).trans rfl
       have hfz24_0 := blk_frozen BK255.out 0
       have hfz24_1 := blk_frozen BK255.out 1
       have hfz24_2 := blk_frozen BK255.out 2
       have hfz24_3 := blk_frozen BK255.out 3
       go_wp2_with (first | ((with_reducible refine gate_callee (f := 109) rfl ?_); refine goesL_ (some 7) rfl rfl Tryz.func109 (by kernel_rfl) rfl #[.string a0_0, .int .i64 16] rfl (by (try simp only [List.map_toArray, List.map_cons, List.map_nil]); first | done | rfl | (simp only [List.length_drop, List.length_take]; rfl)) ?_; (with_reducible refine (head_word.calls a0_0 16 true _ A4.out).mono ?_); rintro e w25 ⟨rfl, hb⟩; refine ⟨_, rfl, ?_⟩; have n0_ := Aside0.mk (blk_below (g := gb255) (o := .cells #[.string a0_0, .string a0_1, .int .i64 a0_2, .slice A0_3 l0_3.length c0_3] 35 (0, 0)) (by (with_reducible repeat (first | refine blk_drewN ?_ _ | refine blk_drew ?_ | refine blk_alloc ?_ _)); exact BK255.out) hb); have n1_ := Aside0.mk (below_step (by repeat (first | (with_reducible first | exact HB.out | apply below_alloc | apply pw_below_drewN | apply below_drew1 | refine below_set ?_ GE255.out) | exact HB.out)) hb); clear BK255; clear HB; have BK255 := n0_; have HB := n1_; clear n0_ n1_; (try clear hb); (try clear hb2); (try clear hk); (try clear hi); have hcz26_0 : w25.cell? ⟨gb255, 0, none⟩ = some (.string a0_0) := (blk_cell BK255.out 0).trans rfl; have hcz26_1 : w25.cell? ⟨gb255, 1, none⟩ = some (.string a0_1) := (blk_cell BK255.out 1).trans rfl; have hcz26_2 : w25.cell? ⟨gb255, 2, none⟩ = some (.int .i64 a0_2) := (blk_cell BK255.out 2).trans rfl; have hcz26_3 : w25.cell? ⟨gb255, 3, none⟩ = some (.slice A0_3 l0_3.length c0_3) := (blk_cell BK255.out 3).trans rfl; have hfz26_0 := blk_frozen BK255.out 0; have hfz26_1 := blk_frozen BK255.out 1; have hfz26_2 := blk_frozen BK255.out 2; have hfz26_3 := blk_frozen BK255.out 3) | (go_at_call 111; (with_reducible refine (head_target.calls k a0_1 true _ A10.out).mono ?_); rintro e w27 ⟨rfl, hb⟩; have n0_ := Aside0.mk (blk_below (g := gb255) (o := .cells #[.string a0_0, .string a0_1, .int .i64 a0_2, .slice A0_3 l0_3.length c0_3] 35 (0, 0)) (by (with_reducible repeat (first | refine blk_drewN ?_ _ | refine blk_drew ?_ | refine blk_alloc ?_ _)); exact BK255.out) hb); have n1_ := Aside0.mk (below_step (by repeat (first | (with_reducible first | exact HB.out | apply below_alloc | apply pw_below_drewN | apply below_drew1 | refine below_set ?_ GE255.out) | exact HB.out)) hb); clear BK255; clear HB; have BK255 := n0_; have HB := n1_; clear n0_ n1_; (try clear hb); (try clear hb2); (try clear hk); (try clear hi); have hcz28_0 : w27.cell? ⟨gb255, 0, none⟩ = some (.string a0_0) := (blk_cell BK255.out 0).trans rfl; have hcz28_1 : w27.cell? ⟨gb255, 1, none⟩ = some (.string a0_1) := (blk_cell BK255.out 1).trans rfl; have hcz28_2 : w27.cell? ⟨gb255, 2, none⟩ = some (.int .i64 a0_2) := (blk_cell BK255.out 2).trans rfl; have hcz28_3 : w27.cell? ⟨gb255, 3, none⟩ = some (.slice A0_3 l0_3.length c0_3) := (blk_cell BK255.out 3).trans rfl; have hfz28_0 := blk_frozen BK255.out 0; have hfz28_1 := blk_frozen BK255.out 1; have hfz28_2 := blk_frozen BK255.out 2; have hfz28_3 := blk_frozen BK255.out 3))
       go_meet
       case rel => exact ⟨_, (decide ((l0_3.length : Int) > 32)), (by first | rfl | (simp; done) | (simp [*]; done)), H', ⟨by first | omega | exact Nat.le_refl _⟩, ⟨by (with_reducible repeat (first | refine blk_drewN ?_ _ | refine blk_drew ?_ | refine blk_alloc ?_ _)); exact BK255.out⟩, ⟨by repeat (first | (with_reducible first | exact HB.out | apply below_alloc | apply pw_below_drewN | apply below_drew1 | refine below_set ?_ GE255.out) | exact HB.out)⟩⟩
    ·replace c11 := Bool.eq_false_iff.mpr c11
     subst c11
     have H1 : (head_fine.j0 k true a0_0 a0_1 a0_2 l0_3) = some r := by rw [if_neg (show ¬ (false = true) by decide)] at H; exact H
     clear H
     have H := H1
     clear H1
     have H' := Aside0.mk H
     clear H
     have hcz29_0 : w3.cell? ⟨gb255, 0, none⟩ = some (.string a0_0) := (blk_cell BK255.out 0).trans rfl
     have hcz29_1 : w3.cell? ⟨gb255, 1, none⟩ = some (.string a0_1) := (blk_cell BK255.out 1).trans rfl
     have hcz29_2 : w3.cell? ⟨gb255, 2, none⟩ = some (.int .i64 a0_2) := (blk_cell BK255.out 2).trans rfl
     have hcz29_3 : w3.cell? ⟨gb255, 3, none⟩ = some (.slice A0_3 l0_3.length c0_3) := (blk_cell BK255.out 3).trans rfl
     have hfz29_0 := blk_frozen BK255.out 0
     have hfz29_1 := blk_frozen BK255.out 1
     have hfz29_2 := blk_frozen BK255.out 2
     have hfz29_3 := blk_frozen BK255.out 3
     go_wp2_with (first | ((with_reducible refine gate_callee (f := 109) rfl ?_); refine goesL_ (some 7) rfl rfl Tryz.func109 (by kernel_rfl) rfl #[.string a0_0, .int .i64 16] rfl (by (try simp only [List.map_toArray, List.map_cons, List.map_nil]); first | done | rfl | (simp only [List.length_drop, List.length_take]; rfl)) ?_; (with_reducible refine (head_word.calls a0_0 16 true _ A4.out).mono ?_); rintro e w30 ⟨rfl, hb⟩; refine ⟨_, rfl, ?_⟩; have n0_ := Aside0.mk (blk_below (g := gb255) (o := .cells #[.string a0_0, .string a0_1, .int .i64 a0_2, .slice A0_3 l0_3.length c0_3] 35 (0, 0)) (by (with_reducible repeat (first | refine blk_drewN ?_ _ | refine blk_drew ?_ | refine blk_alloc ?_ _)); exact BK255.out) hb); have n1_ := Aside0.mk (below_step (by repeat (first | (with_reducible first | exact HB.out | apply below_alloc | apply pw_below_drewN | apply below_drew1 | refine below_set ?_ GE255.out) | exact HB.out)) hb); clear BK255; clear HB; have BK255 := n0_; have HB := n1_; clear n0_ n1_; (try clear hb); (try clear hb2); (try clear hk); (try clear hi); have hcz31_0 : w30.cell? ⟨gb255, 0, none⟩ = some (.string a0_0) := (blk_cell BK255.out 0).trans rfl; have hcz31_1 : w30.cell? ⟨gb255, 1, none⟩ = some (.string a0_1) := (blk_cell BK255.out 1).trans rfl; have hcz31_2 : w30.cell? ⟨gb255, 2, none⟩ = some (.int .i64 a0_2) := (blk_cell BK255.out 2).trans rfl; have hcz31_3 : w30.cell? ⟨gb255, 3, none⟩ = some (.slice A0_3 l0_3.length c0_3) := (blk_cell BK255.out 3).trans rfl; have hfz31_0 := blk_frozen BK255.out 0; have hfz31_1 := blk_frozen BK255.out 1; have hfz31_2 := blk_frozen BK255.out 2; have hfz31_3 := blk_frozen BK255.out 3) | (go_at_call 111; (with_reducible refine (head_target.calls k a0_1 false _ A10.out).mono ?_); rintro e w32 ⟨rfl, hb⟩; have n0_ := Aside0.mk (blk_below (g := gb255) (o := .cells #[.string a0_0, .string a0_1, .int .i64 a0_2, .slice A0_3 l0_3.length c0_3] 35 (0, 0)) (by (with_reducible repeat (first | refine blk_drewN ?_ _ | refine blk_drew ?_ | refine blk_alloc ?_ _)); exact BK255.out) hb); have n1_ := Aside0.mk (below_step (by repeat (first | (with_reducible first | exact HB.out | apply below_alloc | apply pw_below_drewN | apply below_drew1 | refine below_set ?_ GE255.out) | exact HB.out)) hb); clear BK255; clear HB; have BK255 := n0_; have HB := n1_; clear n0_ n1_; (try clear hb); (try clear hb2); (try clear hk); (try clear hi)))
     go_meet
     case rel => exact ⟨_, (true), (by first | rfl | (simp; done) | (simp [*]; done)), H', ⟨by first | omega | exact Nat.le_refl _⟩, ⟨by (with_reducible repeat (first | refine blk_drewN ?_ _ | refine blk_drew ?_ | refine blk_alloc ?_ _)); exact BK255.out⟩, ⟨by repeat (first | (with_reducible first | exact HB.out | apply below_alloc | apply pw_below_drewN | apply below_drew1 | refine below_set ?_ GE255.out) | exact HB.out)⟩⟩
  ·replace c5 := Bool.eq_false_iff.mpr c5
   subst c5
   have H1 : (head_fine.j0 k true a0_0 a0_1 a0_2 l0_3) = some r := by rw [if_neg (show ¬ (false = true) by decide)] at H; exact H
   clear H
   have H := H1
   clear H1
   have H' := Aside0.mk H
   clear H
   have hcz33_0 : w3.cell? ⟨gb255, 0, none⟩ = some (.string a0_0) := (blk_cell BK255.out 0).trans rfl
   have hcz33_1 : w3.cell? ⟨gb255, 1, none⟩ = some (.string a0_1) := (blk_cell BK255.out 1).trans rfl
   have hcz33_2 : w3.cell? ⟨gb255, 2, none⟩ = some (.int .i64 a0_2) := (blk_cell BK255.out 2).trans rfl
   have hcz33_3 : w3.cell? ⟨gb255, 3, none⟩ = some (.slice A0_3 l0_3.length c0_3) := (blk_cell BK255.out 3).trans rfl
   have hfz33_0 := blk_frozen BK255.out 0
   have hfz33_1 := blk_frozen BK255.out 1
   have hfz33_2 := blk_frozen BK255.out 2
   have hfz33_3 := blk_frozen BK255.out 3
   go_wp2_with (first | ((with_reducible refine gate_callee (f := 109) rfl ?_); refine goesL_ (some 7) rfl rfl Tryz.func109 (by kernel_rfl) rfl #[.string a0_0, .int .i64 16] rfl (by (try simp only [List.map_toArray, List.map_cons, List.map_nil]); first | done | rfl | (simp only [List.length_drop, List.length_take]; rfl)) ?_; (with_reducible refine (head_word.calls a0_0 16 false _ A4.out).mono ?_); rintro e w34 ⟨rfl, hb⟩; refine ⟨_, rfl, ?_⟩; have n0_ := Aside0.mk (blk_below (g := gb255) (o := .cells #[.string a0_0, .string a0_1, .int .i64 a0_2, .slice A0_3 l0_3.length c0_3] 35 (0, 0)) (by (with_reducible repeat (first | refine blk_drewN ?_ _ | refine blk_drew ?_ | refine blk_alloc ?_ _)); exact BK255.out) hb); have n1_ := Aside0.mk (below_step (by repeat (first | (with_reducible first | exact HB.out | apply below_alloc | apply pw_below_drewN | apply below_drew1 | refine below_set ?_ GE255.out) | exact HB.out)) hb); clear BK255; clear HB; have BK255 := n0_; have HB := n1_; clear n0_ n1_; (try clear hb); (try clear hb2); (try clear hk); (try clear hi)))
   go_meet
   case rel => exact ⟨_, (true), (by first | rfl | (simp; done) | (simp [*]; done)), H', ⟨by first | omega | exact Nat.le_refl _⟩, ⟨by (with_reducible repeat (first | refine blk_drewN ?_ _ | refine blk_drew ?_ | refine blk_alloc ?_ _)); exact BK255.out⟩, ⟨by repeat (first | (with_reducible first | exact HB.out | apply below_alloc | apply pw_below_drewN | apply below_drew1 | refine below_set ?_ GE255.out) | exact HB.out)⟩⟩
 case rest =>
  clear HC2
  try clear c1
  try clear p2
  try clear c5
  try clear c6
  try clear c6b0
  try clear c6b1
  try clear c8
  try clear c10
  try clear c11
  try clear c12
  try clear c12b0
  try clear c18
  try clear c18b0
  try clear hcz13_0
  try clear hcz13_1
  try clear hcz13_2
  try clear hcz13_3
  try clear hcz15_0
  try clear hcz15_1
  try clear hcz15_2
  try clear hcz15_3
  try clear hcz17_0
  try clear hcz17_1
  try clear hcz17_2
  try clear hcz17_3
  try clear hcz19_0
  try clear hcz19_1
  try clear hcz19_2
  try clear hcz19_3
  try clear hcz21_0
  try clear hcz21_1
  try clear hcz21_2
  try clear hcz21_3
  try clear hcz23_0
  try clear hcz23_1
  try clear hcz23_2
  try clear hcz23_3
  try clear hcz24_0
  try clear hcz24_1
  try clear hcz24_2
  try clear hcz24_3
  try clear hcz26_0
  try clear hcz26_1
  try clear hcz26_2
  try clear hcz26_3
  try clear hcz28_0
  try clear hcz28_1
  try clear hcz28_2
  try clear hcz28_3
  try clear hcz29_0
  try clear hcz29_1
  try clear hcz29_2
  try clear hcz29_3
  try clear hcz31_0
  try clear hcz31_1
  try clear hcz31_2
  try clear hcz31_3
  try clear hcz33_0
  try clear hcz33_1
  try clear hcz33_2
  try clear hcz33_3
  try clear hcz7_0
  try clear hcz7_1
  try clear hcz7_2
  try clear hcz7_3
  try clear hcz9_0
  try clear hcz9_1
  try clear hcz9_2
  try clear hcz9_3
  try clear hfz13_0
  try clear hfz13_1
  try clear hfz13_2
  try clear hfz13_3
  try clear hfz15_0
  try clear hfz15_1
  try clear hfz15_2
  try clear hfz15_3
  try clear hfz17_0
  try clear hfz17_1
  try clear hfz17_2
  try clear hfz17_3
  try clear hfz19_0
  try clear hfz19_1
  try clear hfz19_2
  try clear hfz19_3
  try clear hfz21_0
  try clear hfz21_1
  try clear hfz21_2
  try clear hfz21_3
  try clear hfz23_0
  try clear hfz23_1
  try clear hfz23_2
  try clear hfz23_3
  try clear hfz24_0
  try clear hfz24_1
  try clear hfz24_2
  try clear hfz24_3
  try clear hfz26_0
  try clear hfz26_1
  try clear hfz26_2
  try clear hfz26_3
  try clear hfz28_0
  try clear hfz28_1
  try clear hfz28_2
  try clear hfz28_3
  try clear hfz29_0
  try clear hfz29_1
  try clear hfz29_2
  try clear hfz29_3
  try clear hfz31_0
  try clear hfz31_1
  try clear hfz31_2
  try clear hfz31_3
  try clear hfz33_0
  try clear hfz33_1
  try clear hfz33_2
  try clear hfz33_3
  try clear hfz7_0
  try clear hfz7_1
  try clear hfz7_2
  try clear hfz7_3
  try clear hfz9_0
  try clear hfz9_1
  try clear hfz9_2
  try clear hfz9_3
  obtain ⟨kq, x36_1, rfl, HA, HJ1, BK255, HB⟩ := hcut
  cases kq with
  | zero => exact absurd HA.out (by simp [head_fine.j0])
  | succ kj1 =>
   have H := HA.out
   clear HA
   simp only [head_fine.j0] at H
   by_cases c35 : x36_1 = true
   ·subst c35
    have H1 : (some false) = some r := by rw [if_pos rfl] at H; exact H
    clear H
    have H := H1
    clear H1
    obtain rfl := Option.some.inj H
    go_wp2
    go_ret
    exact ⟨by first | rfl | (simp [errW_none, errW_some] <;> rfl) | (simp [*, errW_none, errW_some] <;> rfl), by repeat (first | (with_reducible first | exact HB.out | apply below_alloc | apply pw_below_drewN | apply below_drew1 | refine below_set ?_ GE255.out) | exact HB.out)⟩
   ·replace c35 := Bool.eq_false_iff.mpr c35
    subst c35
    have H1 : (head_fine.l0 kj1 l0_3 (l0_3.length : Int) 0 a0_0 a0_1 a0_2 l0_3) = some r := by rw [if_neg (show ¬ (false = true) by decide)] at H; exact H
    clear H
    have H := H1
    clear H1
    have H' := Aside0.mk H
    clear H
    have hcz36_0 : wc.cell? ⟨gb255, 0, none⟩ = some (.string a0_0) := (blk_cell BK255.out 0).trans rfl
    have hcz36_1 : wc.cell? ⟨gb255, 1, none⟩ = some (.string a0_1) := (blk_cell BK255.out 1).trans rfl
    have hcz36_2 : wc.cell? ⟨gb255, 2, none⟩ = some (.int .i64 a0_2) := (blk_cell BK255.out 2).trans rfl
    have hcz36_3 : wc.cell? ⟨gb255, 3, none⟩ = some (.slice A0_3 l0_3.length c0_3) := (blk_cell BK255.out 3).trans rfl
    have hfz36_0 := blk_frozen BK255.out 0
    have hfz36_1 := blk_frozen BK255.out 1
    have hfz36_2 := blk_frozen BK255.out 2
    have hfz36_3 := blk_frozen BK255.out 3
    go_wp2
    go_loopg [40] kj1 (fun kq v40 w' => ∃ (x40_2 : Int), v40 = .int .i64 x40_2 ∧ Aside0 (head_fine.l0 kq l0_3 (l0_3.length : Int) x40_2 a0_0 a0_1 a0_2 l0_3 = some r) ∧ Aside0 (kq ≤ kj1) ∧ Aside0 (w'.heap[gb255]? = some (.cells #[.string a0_0, .string a0_1, .int .i64 a0_2, (.slice A0_3 l0_3.length c0_3)] 35 (0, 0))) ∧ Aside0 (Below w.heap.size w w'))
    case atStart => exact ⟨(0), (by first | rfl | (simp; done) | (simp [*]; done)), H', ⟨Nat.le_refl _⟩, ⟨by (with_reducible repeat (first | refine blk_drewN ?_ _ | refine blk_drew ?_ | refine blk_alloc ?_ _)); exact BK255.out⟩, ⟨by repeat (first | (with_reducible first | exact HB.out | apply below_alloc | apply pw_below_drewN | apply below_drew1 | refine below_set ?_ GE255.out) | exact HB.out)⟩⟩
    case round =>
     clear H'
     try clear c1
     try clear p2
     try clear c3
     try clear c5
     try clear c6
     try clear c6b0
     try clear c6b1
     try clear c8
     try clear c10
     try clear c11
     try clear c12
     try clear c12b0
     try clear c18
     try clear c18b0
     try clear c35
     try clear hcz13_0
     try clear hcz13_1
     try clear hcz13_2
     try clear hcz13_3
     try clear hcz15_0
     try clear hcz15_1
     try clear hcz15_2
     try clear hcz15_3
     try clear hcz17_0
     try clear hcz17_1
     try clear hcz17_2
     try clear hcz17_3
     try clear hcz19_0
     try clear hcz19_1
     try clear hcz19_2
     try clear hcz19_3
     try clear hcz21_0
     try clear hcz21_1
     try clear hcz21_2
     try clear hcz21_3
     try clear hcz23_0
     try clear hcz23_1
     try clear hcz23_2
     try clear hcz23_3
     try clear hcz24_0
     try clear hcz24_1
     try clear hcz24_2
     try clear hcz24_3
     try clear hcz26_0
     try clear hcz26_1
     try clear hcz26_2
     try clear hcz26_3
     try clear hcz28_0
     try clear hcz28_1
     try clear hcz28_2
     try clear hcz28_3
     try clear hcz29_0
     try clear hcz29_1
     try clear hcz29_2
     try clear hcz29_3
     try clear hcz31_0
     try clear hcz31_1
     try clear hcz31_2
     try clear hcz31_3
     try clear hcz33_0
     try clear hcz33_1
     try clear hcz33_2
     try clear hcz33_3
     try clear hcz36_0
     try clear hcz36_1
     try clear hcz36_2
     try clear hcz36_3
     try clear hcz7_0
     try clear hcz7_1
     try clear hcz7_2
     try clear hcz7_3
     try clear hcz9_0
     try clear hcz9_1
     try clear hcz9_2
     try clear hcz9_3
     try clear hfz13_0
     try clear hfz13_1
     try clear hfz13_2
     try clear hfz13_3
     try clear hfz15_0
     try clear hfz15_1
     try clear hfz15_2
     try clear hfz15_3
     try clear hfz17_0
     try clear hfz17_1
     try clear hfz17_2
     try clear hfz17_3
     try clear hfz19_0
     try clear hfz19_1
     try clear hfz19_2
     try clear hfz19_3
     try clear hfz21_0
     try clear hfz21_1
     try clear hfz21_2
     try clear hfz21_3
     try clear hfz23_0
     try clear hfz23_1
     try clear hfz23_2
     try clear hfz23_3
     try clear hfz24_0
     try clear hfz24_1
     try clear hfz24_2
     try clear hfz24_3
     try clear hfz26_0
     try clear hfz26_1
     try clear hfz26_2
     try clear hfz26_3
     try clear hfz28_0
     try clear hfz28_1
     try clear hfz28_2
     try clear hfz28_3
     try clear hfz29_0
     try clear hfz29_1
     try clear hfz29_2
     try clear hfz29_3
     try clear hfz31_0
     try clear hfz31_1
     try clear hfz31_2
     try clear hfz31_3
     try clear hfz33_0
     try clear hfz33_1
     try clear hfz33_2
     try clear hfz33_3
     try clear hfz36_0
     try clear hfz36_1
     try clear hfz36_2
     try clear hfz36_3
     try clear hfz7_0
     try clear hfz7_1
     try clear hfz7_2
     try clear hfz7_3
     try clear hfz9_0
     try clear hfz9_1
     try clear hfz9_2
     try clear hfz9_3
     try clear p2
     obtain ⟨x40_2, rfl, HA, HK2, BK255, HB⟩ := hrel
     cases gk with
     | zero => exact absurd HA.out (by simp [head_fine.l0])
     | succ k2 =>
      have H := HA.out
      clear HA
      simp only [head_fine.l0] at H
      by_cases c37 : x40_2 < (l0_3.length : Int)
      ·rw [if_pos c37] at H
       have c37b0 : decide (x40_2 < (l0_3.length : Int)) = true := decide_eq_true c37
       clear c37
       by_cases c38 : 0 ≤ x40_2
       ·rw [if_pos c38] at H
        have c38b0 : decide (0 ≤ x40_2) = true := decide_eq_true c38
        clear c38
        by_cases c39 : x40_2 < (l0_3.length : Int)
        ·rw [if_pos c39] at H
         have c39b0 : decide (x40_2 < (l0_3.length : Int)) = true := decide_eq_true c39
         clear c39
         replace H := Option.bind_eq_some_iff.mp H
         obtain ⟨t261, A400, H⟩ := H
         replace H : (if t261 = true then ((head_value.f k2 ((rd_T52 l0_3 x40_2).f1)).bind fun t262 => (if t262 = true then (head_fine.l0 k2 l0_3 (l0_3.length : Int) (wrap64 (x40_2 + 1)) a0_0 a0_1 a0_2 l0_3) else (some false))) else (some false)) = some r := H
         have A40 := Aside0.mk A400
         clear A400
         by_cases c41 : t261 = true
         ·subst c41
          have H1 : ((head_value.f k2 ((rd_T52 l0_3 x40_2).f1)).bind fun t262 => (if t262 = true then (head_fine.l0 k2 l0_3 (l0_3.length : Int) (wrap64 (x40_2 + 1)) a0_0 a0_1 a0_2 l0_3) else (some false))) = some r := by rw [if_pos rfl] at H; exact H
          clear H
          have H := H1
          clear H1
          replace H := Option.bind_eq_some_iff.mp H
          obtain ⟨t262, A420, H⟩ := H
          replace H : (if t262 = true then (head_fine.l0 k2 l0_3 (l0_3.length : Int) (wrap64 (x40_2 + 1)) a0_0 a0_1 a0_2 l0_3) else (some false)) = some r := H
          have A42 := Aside0.mk A420
          clear A420
          by_cases c43 : t262 = true
          ·subst c43
           have H1 : (head_fine.l0 k2 l0_3 (l0_3.length : Int) (wrap64 (x40_2 + 1)) a0_0 a0_1 a0_2 l0_3) = some r := by rw [if_pos rfl] at H; exact H
           clear H
           have H := H1
           clear H1
           have H' := Aside0.mk H
           clear H
           have p259 : 0 ≤ (x40_2 : Int) := of_decide_eq_true (by first | (with_reducible assumption) | assumption)
           have q259 : x40_2 < (l0_3.length : Int) := of_decide_eq_true (by first | (with_reducible assumption) | assumption)
           obtain ⟨ad259, e259, hx259_0, hx259_1⟩ := at_T52 HR0_3.out x40_2 p259 q259
           cases e259
           replace hx259_0 := (HB.out.cell (World.block_lt_of_cell? w _ hx259_0)).trans hx259_0
           replace hx259_1 := (HB.out.cell (World.block_lt_of_cell? w _ hx259_1)).trans hx259_1
           replace p259 := eq_true p259
           replace q259 := eq_true q259
           go_wp2_with (first | ((with_reducible refine gate_dst (N := 4) rfl ?_); (try (refine gate_guard (by rfl) ?_; dsimp only)); refine box_event ?hg (N := 4) ?hd (cs := #[.string (⟨#[]⟩ : ByteArray), .string (⟨#[]⟩ : ByteArray)]) (t := 52) ?hr ?_; (case hd => rfl); (case hg => rfl); (case hr => first | (go_simp; done) | (go_simp; rfl)); intro gb260 hg w44 hbox hb; have n0_ := Aside0.mk (blk_below (g := gb255) (o := .cells #[.string a0_0, .string a0_1, .int .i64 a0_2, .slice (some ad259) l0_3.length c0_3] 35 (0, 0)) (by (with_reducible repeat (first | refine blk_drewN ?_ _ | refine blk_drew ?_ | refine blk_alloc ?_ _)); exact BK255.out) hb); have n1_ := Aside0.mk (below_step (by repeat (first | (with_reducible first | exact HB.out | apply below_alloc | apply pw_below_drewN | apply below_drew1 | refine below_set ?_ GE255.out) | exact HB.out)) hb); have n2_ := Aside0.mk (hbox); have n3_ := Aside0.mk ((by rw [hg]; exact (below_size (by repeat (first | (with_reducible first | exact HB.out | apply below_alloc | apply pw_below_drewN | apply below_drew1 | refine below_set ?_ GE255.out) | exact HB.out))) : w.heap.size ≤ gb260)); have n4_ := Aside0.mk ((by rw [hg]; exact (below_size (by repeat (first | (with_reducible first | exact HB.out | apply below_alloc | apply pw_below_drewN | apply below_drew1 | refine below_set ?_ GE255.out) | exact HB.out))) : w.heap.size ≤ gb260)); have n5_ := Aside0.mk ((by rw [hg]; exact Nat.ne_of_lt (blk_lt (g := gb255) (o := .cells #[.string a0_0, .string a0_1, .int .i64 a0_2, .slice (some ad259) l0_3.length c0_3] 35 (0, 0)) (by (with_reducible repeat (first | refine blk_drewN ?_ _ | refine blk_drew ?_ | refine blk_alloc ?_ _)); exact BK255.out)) : gb255 ≠ gb260)); have n6_ := Aside0.mk ((by rw [hg]; exact Nat.ne_of_gt (blk_lt (g := gb255) (o := .cells #[.string a0_0, .string a0_1, .int .i64 a0_2, .slice (some ad259) l0_3.length c0_3] 35 (0, 0)) (by (with_reducible repeat (first | refine blk_drewN ?_ _ | refine blk_drew ?_ | refine blk_alloc ?_ _)); exact BK255.out)) : gb260 ≠ gb255)); clear BK255; clear HB; have BK255 := n0_; have HB := n1_; have BK260 := n2_; have GW260 := n3_; have GE260 := n4_; have NB255_260 := n5_; have NB260_255 := n6_; clear n0_ n1_ n2_ n3_ n4_ n5_ n6_; clear hb hbox hg; have hnb45 := NB260_255.out; have hnc45 := NB255_260.out; have hcz46_0 : w44.cell? ⟨gb260, 0, none⟩ = some (.string (⟨#[]⟩ : ByteArray)) := (blk_cell BK260.out 0).trans rfl; have hcz46_1 : w44.cell? ⟨gb260, 1, none⟩ = some (.string (⟨#[]⟩ : ByteArray)) := (blk_cell BK260.out 1).trans rfl; have hfz46_0 := blk_frozen BK260.out 0; have hfz46_1 := blk_frozen BK260.out 1) | ((with_reducible refine gate_callee (f := 109) rfl ?_); refine goesL_ (some 46) rfl rfl Tryz.func109 (by kernel_rfl) rfl #[.string ((rd_T52 l0_3 x40_2).f0), .int .i64 64] rfl (by (try simp only [List.map_toArray, List.map_cons, List.map_nil]); first | done | rfl | (simp only [List.length_drop, List.length_take]; rfl)) ?_; (with_reducible refine (head_word.calls ((rd_T52 l0_3 x40_2).f0) 64 true _ A40.out).mono ?_); rintro e w47 ⟨rfl, hb⟩; refine ⟨_, rfl, ?_⟩; have n0_ := Aside0.mk (blk_below (g := gb255) (o := .cells #[.string a0_0, .string a0_1, .int .i64 a0_2, .slice (some ad259) l0_3.length c0_3] 35 (0, 0)) (by (with_reducible repeat (first | refine blk_drewN ?_ _ | refine blk_drew ?_ | refine blk_alloc ?_ _)); refine blk_far ?_ NB255_260.out _; (with_reducible repeat (first | refine blk_drewN ?_ _ | refine blk_drew ?_ | refine blk_alloc ?_ _)); refine blk_far ?_ NB255_260.out _; (with_reducible repeat (first | refine blk_drewN ?_ _ | refine blk_drew ?_ | refine blk_alloc ?_ _)); exact BK255.out) hb); have n1_ := Aside0.mk (blk_below (g := gb260) (o := .cells #[.string ((rd_T52 l0_3 x40_2).f0), .string ((rd_T52 l0_3 x40_2).f1)] 52 (0, 0)) (by (with_reducible repeat (first | refine blk_drewN ?_ _ | refine blk_drew ?_ | refine blk_alloc ?_ _)); refine blk_put (cs := #[.string ((rd_T52 l0_3 x40_2).f0), .string (⟨#[]⟩ : ByteArray)]) ?_ 1 _ rfl; (with_reducible repeat (first | refine blk_drewN ?_ _ | refine blk_drew ?_ | refine blk_alloc ?_ _)); refine blk_put (cs := #[.string (⟨#[]⟩ : ByteArray), .string (⟨#[]⟩ : ByteArray)]) ?_ 0 _ rfl; (with_reducible repeat (first | refine blk_drewN ?_ _ | refine blk_drew ?_ | refine blk_alloc ?_ _)); exact BK260.out) hb); have n2_ := Aside0.mk (below_step (by repeat (first | (with_reducible first | exact HB.out | apply below_alloc | apply pw_below_drewN | apply below_drew1 | refine below_set ?_ GE255.out | refine below_set ?_ GE260.out) | exact HB.out)) hb); clear BK255; clear BK260; clear HB; have BK255 := n0_; have BK260 := n1_; have HB := n2_; clear n0_ n1_ n2_; (try clear hb); (try clear hb2); (try clear hk); (try clear hi); have hcz48_0 : w47.cell? ⟨gb260, 0, none⟩ = some (.string ((rd_T52 l0_3 x40_2).f0)) := (blk_cell BK260.out 0).trans rfl; have hcz48_1 : w47.cell? ⟨gb260, 1, none⟩ = some (.string ((rd_T52 l0_3 x40_2).f1)) := (blk_cell BK260.out 1).trans rfl; have hfz48_0 := blk_frozen BK260.out 0; have hfz48_1 := blk_frozen BK260.out 1) | (go_at_call 113; (with_reducible refine (head_value.calls k2 ((rd_T52 l0_3 x40_2).f1) true _ A42.out).mono ?_); rintro e w49 ⟨rfl, hb⟩; have n0_ := Aside0.mk (blk_below (g := gb255) (o := .cells #[.string a0_0, .string a0_1, .int .i64 a0_2, .slice (some ad259) l0_3.length c0_3] 35 (0, 0)) (by (with_reducible repeat (first | refine blk_drewN ?_ _ | refine blk_drew ?_ | refine blk_alloc ?_ _)); exact BK255.out) hb); have n1_ := Aside0.mk (blk_below (g := gb260) (o := .cells #[.string ((rd_T52 l0_3 x40_2).f0), .string ((rd_T52 l0_3 x40_2).f1)] 52 (0, 0)) (by (with_reducible repeat (first | refine blk_drewN ?_ _ | refine blk_drew ?_ | refine blk_alloc ?_ _)); exact BK260.out) hb); have n2_ := Aside0.mk (below_step (by repeat (first | (with_reducible first | exact HB.out | apply below_alloc | apply pw_below_drewN | apply below_drew1 | refine below_set ?_ GE255.out | refine below_set ?_ GE260.out) | exact HB.out)) hb); clear BK255; clear BK260; clear HB; have BK255 := n0_; have BK260 := n1_; have HB := n2_; clear n0_ n1_ n2_; (try clear hb); (try clear hb2); (try clear hk); (try clear hi)))
           go_roundg k2
           case measure => have := HJ1.out; have := HK2.out; omega
           case rel => exact ⟨(wrap64 (x40_2 + 1)), (by first | rfl | (simp; done) | (simp [*]; done)), H', ⟨by have := HJ1.out; have := HK2.out; omega⟩, ⟨by (with_reducible repeat (first | refine blk_drewN ?_ _ | refine blk_drew ?_ | refine blk_alloc ?_ _)); exact BK255.out⟩, ⟨by repeat (first | (with_reducible first | exact HB.out | apply below_alloc | apply pw_below_drewN | apply below_drew1 | refine below_set ?_ GE255.out | refine below_set ?_ GE260.out) | exact HB.out)⟩⟩
          ·replace c43 := Bool.eq_false_iff.mpr c43
           subst c43
           have H1 : (some false) = some r := by rw [if_neg (show ¬ (false = true) by decide)] at H; exact H
           clear H
           have H := H1
           clear H1
           obtain rfl := Option.some.inj H
           have p259 : 0 ≤ (x40_2 : Int) := of_decide_eq_true (by first | (with_reducible assumption) | assumption)
           have q259 : x40_2 < (l0_3.length : Int) := of_decide_eq_true (by first | (with_reducible assumption) | assumption)
           obtain ⟨ad259, e259, hx259_0, hx259_1⟩ := at_T52 HR0_3.out x40_2 p259 q259
           cases e259
           replace hx259_0 := (HB.out.cell (World.block_lt_of_cell? w _ hx259_0)).trans hx259_0
           replace hx259_1 := (HB.out.cell (World.block_lt_of_cell? w _ hx259_1)).trans hx259_1
           replace p259 := eq_true p259
           replace q259 := eq_true q259
           go_wp2_with (first | ((with_reducible refine gate_dst (N := 4) rfl ?_); (try (refine gate_guard (by rfl) ?_; dsimp only)); refine box_event ?hg (N := 4) ?hd (cs := #[.string (⟨#[]⟩ : ByteArray), .string (⟨#[]⟩ : ByteArray)]) (t := 52) ?hr ?_; (case hd => rfl); (case hg => rfl); (case hr => first | (go_simp; done) | (go_simp; rfl)); intro gb260 hg w50 hbox hb; have n0_ := Aside0.mk (blk_below (g := gb255) (o := .cells #[.string a0_0, .string a0_1, .int .i64 a0_2, .slice (some ad259) l0_3.length c0_3] 35 (0, 0)) (by (with_reducible repeat (first | refine blk_drewN ?_ _ | refine blk_drew ?_ | refine blk_alloc ?_ _)); exact BK255.out) hb); have n1_ := Aside0.mk (below_step (by repeat (first | (with_reducible first | exact HB.out | apply below_alloc | apply pw_below_drewN | apply below_drew1 | refine below_set ?_ GE255.out) | exact HB.out)) hb); have n2_ := Aside0.mk (hbox); have n3_ := Aside0.mk ((by rw [hg]; exact (below_size (by repeat (first | (with_reducible first | exact HB.out | apply below_alloc | apply pw_below_drewN | apply below_drew1 | refine below_set ?_ GE255.out) | exact HB.out))) : w.heap.size ≤ gb260)); have n4_ := Aside0.mk ((by rw [hg]; exact (below_size (by repeat (first | (with_reducible first | exact HB.out | apply below_alloc | apply pw_below_drewN | apply below_drew1 | refine below_set ?_ GE255.out) | exact HB.out))) : w.heap.size ≤ gb260)); have n5_ := Aside0.mk ((by rw [hg]; exact Nat.ne_of_lt (blk_lt (g := gb255) (o := .cells #[.string a0_0, .string a0_1, .int .i64 a0_2, .slice (some ad259) l0_3.length c0_3] 35 (0, 0)) (by (with_reducible repeat (first | refine blk_drewN ?_ _ | refine blk_drew ?_ | refine blk_alloc ?_ _)); exact BK255.out)) : gb255 ≠ gb260)); have n6_ := Aside0.mk ((by rw [hg]; exact Nat.ne_of_gt (blk_lt (g := gb255) (o := .cells #[.string a0_0, .string a0_1, .int .i64 a0_2, .slice (some ad259) l0_3.length c0_3] 35 (0, 0)) (by (with_reducible repeat (first | refine blk_drewN ?_ _ | refine blk_drew ?_ | refine blk_alloc ?_ _)); exact BK255.out)) : gb260 ≠ gb255)); clear BK255; clear HB; have BK255 := n0_; have HB := n1_; have BK260 := n2_; have GW260 := n3_; have GE260 := n4_; have NB255_260 := n5_; have NB260_255 := n6_; clear n0_ n1_ n2_ n3_ n4_ n5_ n6_; clear hb hbox hg; have hnb51 := NB260_255.out; have hnc51 := NB255_260.out; have hcz52_0 : w50.cell? ⟨gb260, 0, none⟩ = some (.string (⟨#[]⟩ : ByteArray)) := (blk_cell BK260.out 0).trans rfl; have hcz52_1 : w50.cell? ⟨gb260, 1, none⟩ = some (.string (⟨#[]⟩ : ByteArray)) := (blk_cell BK260.out 1).trans rfl; have hfz52_0 := blk_frozen BK260.out 0; have hfz52_1 := blk_frozen BK260.out 1) | ((with_reducible refine gate_callee (f := 109) rfl ?_); refine goesL_ (some 46) rfl rfl Tryz.func109 (by kernel_rfl) rfl #[.string ((rd_T52 l0_3 x40_2).f0), .int .i64 64] rfl (by (try simp only [List.map_toArray, List.map_cons, List.map_nil]); first | done | rfl | (simp only [List.length_drop, List.length_take]; rfl)) ?_; (with_reducible refine (head_word.calls ((rd_T52 l0_3 x40_2).f0) 64 true _ A40.out).mono ?_); rintro e w53 ⟨rfl, hb⟩; refine ⟨_, rfl, ?_⟩; have n0_ := Aside0.mk (blk_below (g := gb255) (o := .cells #[.string a0_0, .string a0_1, .int .i64 a0_2, .slice (some ad259) l0_3.length c0_3] 35 (0, 0)) (by (with_reducible repeat (first | refine blk_drewN ?_ _ | refine blk_drew ?_ | refine blk_alloc ?_ _)); refine blk_far ?_ NB255_260.out _; (with_reducible repeat (first | refine blk_drewN ?_ _ | refine blk_drew ?_ | refine blk_alloc ?_ _)); refine blk_far ?_ NB255_260.out _; (with_reducible repeat (first | refine blk_drewN ?_ _ | refine blk_drew ?_ | refine blk_alloc ?_ _)); exact BK255.out) hb); have n1_ := Aside0.mk (blk_below (g := gb260) (o := .cells #[.string ((rd_T52 l0_3 x40_2).f0), .string ((rd_T52 l0_3 x40_2).f1)] 52 (0, 0)) (by (with_reducible repeat (first | refine blk_drewN ?_ _ | refine blk_drew ?_ | refine blk_alloc ?_ _)); refine blk_put (cs := #[.string ((rd_T52 l0_3 x40_2).f0), .string (⟨#[]⟩ : ByteArray)]) ?_ 1 _ rfl; (with_reducible repeat (first | refine blk_drewN ?_ _ | refine blk_drew ?_ | refine blk_alloc ?_ _)); refine blk_put (cs := #[.string (⟨#[]⟩ : ByteArray), .string (⟨#[]⟩ : ByteArray)]) ?_ 0 _ rfl; (with_reducible repeat (first | refine blk_drewN ?_ _ | refine blk_drew ?_ | refine blk_alloc ?_ _)); exact BK260.out) hb); have n2_ := Aside0.mk (below_step (by repeat (first | (with_reducible first | exact HB.out | apply below_alloc | apply pw_below_drewN | apply below_drew1 | refine below_set ?_ GE255.out | refine below_set ?_ GE260.out) | exact HB.out)) hb); clear BK255; clear BK260; clear HB; have BK255 := n0_; have BK260 := n1_; have HB := n2_; clear n0_ n1_ n2_; (try clear hb); (try clear hb2); (try clear hk); (try clear hi); have hcz54_0 : w53.cell? ⟨gb260, 0, none⟩ = some (.string ((rd_T52 l0_3 x40_2).f0)) := (blk_cell BK260.out 0).trans rfl; have hcz54_1 : w53.cell? ⟨gb260, 1, none⟩ = some (.string ((rd_T52 l0_3 x40_2).f1)) := (blk_cell BK260.out 1).trans rfl; have hfz54_0 := blk_frozen BK260.out 0; have hfz54_1 := blk_frozen BK260.out 1) | (go_at_call 113; (with_reducible refine (head_value.calls k2 ((rd_T52 l0_3 x40_2).f1) false _ A42.out).mono ?_); rintro e w55 ⟨rfl, hb⟩; have n0_ := Aside0.mk (blk_below (g := gb255) (o := .cells #[.string a0_0, .string a0_1, .int .i64 a0_2, .slice (some ad259) l0_3.length c0_3] 35 (0, 0)) (by (with_reducible repeat (first | refine blk_drewN ?_ _ | refine blk_drew ?_ | refine blk_alloc ?_ _)); exact BK255.out) hb); have n1_ := Aside0.mk (blk_below (g := gb260) (o := .cells #[.string ((rd_T52 l0_3 x40_2).f0), .string ((rd_T52 l0_3 x40_2).f1)] 52 (0, 0)) (by (with_reducible repeat (first | refine blk_drewN ?_ _ | refine blk_drew ?_ | refine blk_alloc ?_ _)); exact BK260.out) hb); have n2_ := Aside0.mk (below_step (by repeat (first | (with_reducible first | exact HB.out | apply below_alloc | apply pw_below_drewN | apply below_drew1 | refine below_set ?_ GE255.out | refine below_set ?_ GE260.out) | exact HB.out)) hb); clear BK255; clear BK260; clear HB; have BK255 := n0_; have BK260 := n1_; have HB := n2_; clear n0_ n1_ n2_; (try clear hb); (try clear hb2); (try clear hk); (try clear hi)))
           go_ret
           exact ⟨by first | rfl | (simp [errW_none, errW_some] <;> rfl) | (simp [*, errW_none, errW_some] <;> rfl), by repeat (first | (with_reducible first | exact HB.out | apply below_alloc | apply pw_below_drewN | apply below_drew1 | refine below_set ?_ GE255.out | refine below_set ?_ GE260.out) | exact HB.out)⟩
         ·replace c41 := Bool.eq_false_iff.mpr c41
          subst c41
          have H1 : (some false) = some r := by rw [if_neg (show ¬ (false = true) by decide)] at H; exact H
          clear H
          have H := H1
          clear H1
          obtain rfl := Option.some.inj H
          have p259 : 0 ≤ (x40_2 : Int) := of_decide_eq_true (by first | (with_reducible assumption) | assumption)
          have q259 : x40_2 < (l0_3.length : Int) := of_decide_eq_true (by first | (with_reducible assumption) | assumption)
          obtain ⟨ad259, e259, hx259_0, hx259_1⟩ := at_T52 HR0_3.out x40_2 p259 q259
          cases e259
          replace hx259_0 := (HB.out.cell (World.block_lt_of_cell? w _ hx259_0)).trans hx259_0
          replace hx259_1 := (HB.out.cell (World.block_lt_of_cell? w _ hx259_1)).trans hx259_1
          replace p259 := eq_true p259
          replace q259 := eq_true q259
          go_wp2_with (first | ((with_reducible refine gate_dst (N := 4) rfl ?_); (try (refine gate_guard (by rfl) ?_; dsimp only)); refine box_event ?hg (N := 4) ?hd (cs := #[.string (⟨#[]⟩ : ByteArray), .string (⟨#[]⟩ : ByteArray)]) (t := 52) ?hr ?_; (case hd => rfl); (case hg => rfl); (case hr => first | (go_simp; done) | (go_simp; rfl)); intro gb260 hg w56 hbox hb; have n0_ := Aside0.mk (blk_below (g := gb255) (o := .cells #[.string a0_0, .string a0_1, .int .i64 a0_2, .slice (some ad259) l0_3.length c0_3] 35 (0, 0)) (by (with_reducible repeat (first | refine blk_drewN ?_ _ | refine blk_drew ?_ | refine blk_alloc ?_ _)); exact BK255.out) hb); have n1_ := Aside0.mk (below_step (by repeat (first | (with_reducible first | exact HB.out | apply below_alloc | apply pw_below_drewN | apply below_drew1 | refine below_set ?_ GE255.out) | exact HB.out)) hb); have n2_ := Aside0.mk (hbox); have n3_ := Aside0.mk ((by rw [hg]; exact (below_size (by repeat (first | (with_reducible first | exact HB.out | apply below_alloc | apply pw_below_drewN | apply below_drew1 | refine below_set ?_ GE255.out) | exact HB.out))) : w.heap.size ≤ gb260)); have n4_ := Aside0.mk ((by rw [hg]; exact (below_size (by repeat (first | (with_reducible first | exact HB.out | apply below_alloc | apply pw_below_drewN | apply below_drew1 | refine below_set ?_ GE255.out) | exact HB.out))) : w.heap.size ≤ gb260)); have n5_ := Aside0.mk ((by rw [hg]; exact Nat.ne_of_lt (blk_lt (g := gb255) (o := .cells #[.string a0_0, .string a0_1, .int .i64 a0_2, .slice (some ad259) l0_3.length c0_3] 35 (0, 0)) (by (with_reducible repeat (first | refine blk_drewN ?_ _ | refine blk_drew ?_ | refine blk_alloc ?_ _)); exact BK255.out)) : gb255 ≠ gb260)); have n6_ := Aside0.mk ((by rw [hg]; exact Nat.ne_of_gt (blk_lt (g := gb255) (o := .cells #[.string a0_0, .string a0_1, .int .i64 a0_2, .slice (some ad259) l0_3.length c0_3] 35 (0, 0)) (by (with_reducible repeat (first | refine blk_drewN ?_ _ | refine blk_drew ?_ | refine blk_alloc ?_ _)); exact BK255.out)) : gb260 ≠ gb255)); clear BK255; clear HB; have BK255 := n0_; have HB := n1_; have BK260 := n2_; have GW260 := n3_; have GE260 := n4_; have NB255_260 := n5_; have NB260_255 := n6_; clear n0_ n1_ n2_ n3_ n4_ n5_ n6_; clear hb hbox hg; have hnb57 := NB260_255.out; have hnc57 := NB255_260.out; have hcz58_0 : w56.cell? ⟨gb260, 0, none⟩ = some (.string (⟨#[]⟩ : ByteArray)) := (blk_cell BK260.out 0).trans rfl; have hcz58_1 : w56.cell? ⟨gb260, 1, none⟩ = some (.string (⟨#[]⟩ : ByteArray)) := (blk_cell BK260.out 1).trans rfl; have hfz58_0 := blk_frozen BK260.out 0; have hfz58_1 := blk_frozen BK260.out 1) | ((with_reducible refine gate_callee (f := 109) rfl ?_); refine goesL_ (some 46) rfl rfl Tryz.func109 (by kernel_rfl) rfl #[.string ((rd_T52 l0_3 x40_2).f0), .int .i64 64] rfl (by (try simp only [List.map_toArray, List.map_cons, List.map_nil]); first | done | rfl | (simp only [List.length_drop, List.length_take]; rfl)) ?_; (with_reducible refine (head_word.calls ((rd_T52 l0_3 x40_2).f0) 64 false _ A40.out).mono ?_); rintro e w59 ⟨rfl, hb⟩; refine ⟨_, rfl, ?_⟩; have n0_ := Aside0.mk (blk_below (g := gb255) (o := .cells #[.string a0_0, .string a0_1, .int .i64 a0_2, .slice (some ad259) l0_3.length c0_3] 35 (0, 0)) (by (with_reducible repeat (first | refine blk_drewN ?_ _ | refine blk_drew ?_ | refine blk_alloc ?_ _)); refine blk_far ?_ NB255_260.out _; (with_reducible repeat (first | refine blk_drewN ?_ _ | refine blk_drew ?_ | refine blk_alloc ?_ _)); refine blk_far ?_ NB255_260.out _; (with_reducible repeat (first | refine blk_drewN ?_ _ | refine blk_drew ?_ | refine blk_alloc ?_ _)); exact BK255.out) hb); have n1_ := Aside0.mk (blk_below (g := gb260) (o := .cells #[.string ((rd_T52 l0_3 x40_2).f0), .string ((rd_T52 l0_3 x40_2).f1)] 52 (0, 0)) (by (with_reducible repeat (first | refine blk_drewN ?_ _ | refine blk_drew ?_ | refine blk_alloc ?_ _)); refine blk_put (cs := #[.string ((rd_T52 l0_3 x40_2).f0), .string (⟨#[]⟩ : ByteArray)]) ?_ 1 _ rfl; (with_reducible repeat (first | refine blk_drewN ?_ _ | refine blk_drew ?_ | refine blk_alloc ?_ _)); refine blk_put (cs := #[.string (⟨#[]⟩ : ByteArray), .string (⟨#[]⟩ : ByteArray)]) ?_ 0 _ rfl; (with_reducible repeat (first | refine blk_drewN ?_ _ | refine blk_drew ?_ | refine blk_alloc ?_ _)); exact BK260.out) hb); have n2_ := Aside0.mk (below_step (by repeat (first | (with_reducible first | exact HB.out | apply below_alloc | apply pw_below_drewN | apply below_drew1 | refine below_set ?_ GE255.out | refine below_set ?_ GE260.out) | exact HB.out)) hb); clear BK255; clear BK260; clear HB; have BK255 := n0_; have BK260 := n1_; have HB := n2_; clear n0_ n1_ n2_; (try clear hb); (try clear hb2); (try clear hk); (try clear hi)))
          go_ret
          exact ⟨by first | rfl | (simp [errW_none, errW_some] <;> rfl) | (simp [*, errW_none, errW_some] <;> rfl), by repeat (first | (with_reducible first | exact HB.out | apply below_alloc | apply pw_below_drewN | apply below_drew1 | refine below_set ?_ GE255.out | refine below_set ?_ GE260.out) | exact HB.out)⟩
        ·rw [if_neg c39] at H
         exact absurd H (by simp)
       ·rw [if_neg c38] at H
        exact absurd H (by simp)
      ·rw [if_neg c37] at H
       have c37b0 : decide (x40_2 < (l0_3.length : Int)) = false := decide_eq_false c37
       clear c37
       replace H := Option.bind_eq_some_iff.mp H
       obtain ⟨t258, A600, H⟩ := H
       replace H : (some t258) = some r := H
       have A60 := Aside0.mk A600
       clear A600
       obtain rfl := Option.some.inj H
       have hcz61_0 : wr.cell? ⟨gb255, 0, none⟩ = some (.string a0_0) := (blk_cell BK255.out 0).trans rfl
       have hcz61_1 : wr.cell? ⟨gb255, 1, none⟩ = some (.string a0_1) := (blk_cell BK255.out 1).trans rfl
       have hcz61_2 : wr.cell? ⟨gb255, 2, none⟩ = some (.int .i64 a0_2) := (blk_cell BK255.out 2).trans rfl
       have hcz61_3 : wr.cell? ⟨gb255, 3, none⟩ = some (.slice A0_3 l0_3.length c0_3) := (blk_cell BK255.out 3).trans rfl
       have hfz61_0 := blk_frozen BK255.out 0
       have hfz61_1 := blk_frozen BK255.out 1
       have hfz61_2 := blk_frozen BK255.out 2
       have hfz61_3 := blk_frozen BK255.out 3
       go_wp2_with (first | ((with_reducible refine gate_callee (f := 114) rfl ?_); refine goesL_ (some 56) rfl rfl Tryz.func114 (by kernel_rfl) rfl #[.agg #[.string a0_0, .string a0_1, .int .i64 a0_2, .slice A0_3 l0_3.length c0_3]] rfl (by (try simp only [List.map_toArray, List.map_cons, List.map_nil]); first | done | rfl | (simp only [List.length_drop, List.length_take]; rfl)) ?_; (with_reducible refine (head_hosts.calls k2 a0_0 a0_1 a0_2 _ _ l0_3 t258 _ ?side1 ?side2 A60.out).mono ?_); (case side1 => repeat (first | exact (Kd.C_below HR0_3.out HB.out) | (with_reducible refine Kd.C_alloc ?_ _) | (with_reducible refine Kd.C_drewN ?_ _) | (with_reducible refine Kd.C_drew ?_))); (case side2 => exact HC0_3.out); rintro e w62 ⟨rfl, hb⟩; refine ⟨_, rfl, ?_⟩; have n0_ := Aside0.mk (blk_below (g := gb255) (o := .cells #[.string a0_0, .string a0_1, .int .i64 a0_2, .slice A0_3 l0_3.length c0_3] 35 (0, 0)) (by (with_reducible repeat (first | refine blk_drewN ?_ _ | refine blk_drew ?_ | refine blk_alloc ?_ _)); exact BK255.out) hb); have n1_ := Aside0.mk (below_step (by repeat (first | (with_reducible first | exact HB.out | apply below_alloc | apply pw_below_drewN | apply below_drew1 | refine below_set ?_ GE255.out) | exact HB.out)) hb); clear BK255; clear HB; have BK255 := n0_; have HB := n1_; clear n0_ n1_; (try clear hb); (try clear hb2); (try clear hk); (try clear hi)))
       go_ret
       exact ⟨by first | rfl | (simp [errW_none, errW_some] <;> rfl) | (simp [*, errW_none, errW_some] <;> rfl), by repeat (first | (with_reducible first | exact HB.out | apply below_alloc | apply pw_below_drewN | apply below_drew1 | refine below_set ?_ GE255.out) | exact HB.out)⟩

/-! ### head_bytes: function 83 -/
def hfield (x : S52) : List Int := bytesOf x.f0 ++ [58, 32] ++ bytesOf x.f1 ++ [13, 10]
def hhead (a0 a1 : ByteArray) (a2 : Int) : List Int := bytesOf a0 ++ [32] ++ bytesOf a1 ++ [32, 72, 84, 84, 80, 47, 49, 46] ++ [48 + a2] ++ [13, 10]
def hbytes (a0 a1 : ByteArray) (a2 : Int) (l : List (S52)) : List Int := hhead a0 a1 a2 ++ l.flatMap hfield ++ [13, 10]
theorem hb_le {a0 a1 : ByteArray} {a2 : Int} {l : List (S52)} (k : Nat) : (hhead a0 a1 a2).length + ((l.take k).flatMap hfield).length ≤ (hbytes a0 a1 a2 l).length := by
 have : (l.flatMap hfield).length = ((l.take k).flatMap hfield).length + ((l.drop k).flatMap hfield).length := by
  rw [← List.length_append, ← List.flatMap_append, List.take_append_drop]
 simp only [hbytes, List.length_append]
 omega

set_option maxHeartbeats 4000000 in
set_option maxRecDepth 100000 in
theorem hbytes_calls0 (a0_0 a0_1 : ByteArray) (a0_2 : Int) (A0_3 : Option Addr) (c0_3 : Nat) (l0_3 : List (S52)) (w : World) (hr0_3 : Kd.C k52 w A0_3 l0_3.length l0_3) (hc0_3 : l0_3.length ≤ c0_3) (h2 : a0_2 = 0) (hlim : (hbytes a0_0 a0_1 a0_2 l0_3).length ≤ 140737488355328) :
  Calls Tryz.prog 83 #[.agg #[.string a0_0, .string a0_1, .int .i64 a0_2, .slice A0_3 l0_3.length c0_3]] w fun e w' => ∃ g cap, e = .returned (.slice (some ⟨g, 0, none⟩) (hbytes a0_0 a0_1 a0_2 l0_3).length cap) ∧ MRow w' g cap (hbytes a0_0 a0_1 a0_2 l0_3) ∧ w.heap.size ≤ g ∧ Below w.heap.size w w' := by
 subst h2
 have HC := Aside0.mk hr0_3
 have HB := Aside0.mk (Below.refl w.heap.size w)
 have Hl0 := Aside0.mk (hb_le (a0 := a0_0) (a1 := a0_1) (a2 := 0) (l := l0_3) 0)
 have Hlim := Aside0.mk hlim
 have Hsz := Aside0.mk (bytesOf_length a0_0)
 clear hr0_3 hlim
 obtain ⟨i0, hi0, hz0, hs0, hb0⟩ := info_parts info_u8
 have HI := Aside0.mk hi0
 have HZ := Aside0.mk hz0
 have HS := Aside0.mk hs0
 have HBy := Aside0.mk hb0
 clear hi0 hz0 hs0 hb0
 have hu24 := Tryz.underlying35
 go_enter Tryz.func83, Tryz.ntmps83
 go_wp2_with (first
  | ((with_reducible refine gate_dst (N := 1) rfl ?_); refine box_event ?hg (N := 1) ?hd (cs := #[.string a0_0, .string a0_1, .int .i64 0, .slice A0_3 l0_3.length c0_3]) (t := 35) ?hr ?_; (case hd => rfl); (case hg => rfl); (case hr => first | (go_simp; done) | (go_simp; rfl)); intro gb hg wb hbox hb; have GE := Aside0.mk (show w.heap.size ≤ gb by rw [hg]; exact Nat.le_refl _); have BK := Aside0.mk hbox; have HB := Aside0.mk hb; clear hbox hb hg; have hx0 := blk_cell BK.out 0; have hx1 := blk_cell BK.out 1; have hx2 := blk_cell BK.out 2; have hx3 := blk_cell BK.out 3; simp at hx0 hx1 hx2 hx3)
  | ((with_reducible refine gate_dst (N := 8) rfl ?_); refine M_ofstr 5 rfl (N := 8) rfl 9 22 _ rfl a0_0 rfl Tryz.underlying9 Tryz.underlying22 Tryz.underlying5 (by have h1 := Hlim.out; have h2 := Hsz.out; simp only [hbytes, hhead, List.length_append] at h1; omega) ?_; intro g cap w1 hge hm hb; have HM := Aside0.mk (MSt.mk hm (Nat.le_trans (below_size HB.out) hge) (below_step HB.out hb)); have HN := Aside0.mk (show gb ≠ g by have := blk_lt BK.out; omega); have n1_ := Aside0.mk (blk_below BK.out hb); clear HB BK hge hm hb hx0 hx1 hx2 hx3; have BK := n1_; clear n1_; have hx0 := blk_cell BK.out 0; have hx1 := blk_cell BK.out 1; have hx2 := blk_cell BK.out 2; have hx3 := blk_cell BK.out 3; simp at hx0 hx1 hx2 hx3; obtain ⟨l, hl⟩ : ∃ l, l = bytesOf a0_0 := ⟨_, rfl⟩; rw [← hl] at HM ⊢; have HE := Aside0.mk hl; clear hl)
  | ((with_reducible refine gate_dst (N := 10) rfl ?_); at_builtin; refine M_append rfl (N := 10) rfl _ _ 22 22 rfl 5 Tryz.underlying22 HI.out HZ.out HS.out HBy.out (by first | exact HM.out.hm | exact HM.out.hm.alloc _) rfl rfl rfl [32] (by first | rfl | (simp; done)) (Src.ofSlice (P := Tryz.prog) _ Tryz.underlying22 _ 1 1 [.int .u8 32] rfl (cell_one_new _ _ _) (by simp [Value.oneCell'])) (by have h1 := Hlim.out; rw [HE.out]; simp only [hbytes, hhead, List.length_append, List.length_cons, List.length_nil] at h1 ⊢; omega) ?_; intro g' cap' w1 l' hl hg hm hgr; have n0_ := Aside0.mk (MSt.step (by first | exact HM.out | exact HM.out.alloc _) hg hm hgr); have n1_ := Aside0.mk (MSt.other (by first | exact HM.out | exact HM.out.alloc _) hgr (by first | exact BK.out | exact blk_alloc BK.out _) HN.out); have n2_ := Aside0.mk (MSt.ne (by first | exact HM.out | exact HM.out.alloc _) hg (by first | exact BK.out | exact blk_alloc BK.out _) HN.out); have n3_ := Aside0.mk (hl.trans (congrArg (fun z => z ++ _) HE.out)); clear HM BK HN HE hg hm hgr hl hx0 hx1 hx2 hx3; have HM := n0_; have BK := n1_; have HN := n2_; have HE := n3_; clear n0_ n1_ n2_ n3_; have hx0 := blk_cell BK.out 0; have hx1 := blk_cell BK.out 1; have hx2 := blk_cell BK.out 2; have hx3 := blk_cell BK.out 3; simp at hx0 hx1 hx2 hx3)
  | ((with_reducible refine gate_dst (N := 14) rfl ?_); at_builtin; refine M_append rfl (N := 14) rfl _ _ 22 9 rfl 5 Tryz.underlying22 HI.out HZ.out HS.out HBy.out (by first | exact HM.out.hm | exact HM.out.hm.alloc _) rfl rfl rfl (bytesOf a0_1) (by first | rfl | (simp; done)) (src_str _) (by have h1 := Hlim.out; rw [HE.out]; simp only [hbytes, hhead, List.length_append, List.length_cons, List.length_nil] at h1 ⊢; omega) ?_; intro g' cap' w1 l' hl hg hm hgr; have n0_ := Aside0.mk (MSt.step (by first | exact HM.out | exact HM.out.alloc _) hg hm hgr); have n1_ := Aside0.mk (MSt.other (by first | exact HM.out | exact HM.out.alloc _) hgr (by first | exact BK.out | exact blk_alloc BK.out _) HN.out); have n2_ := Aside0.mk (MSt.ne (by first | exact HM.out | exact HM.out.alloc _) hg (by first | exact BK.out | exact blk_alloc BK.out _) HN.out); have n3_ := Aside0.mk (hl.trans (congrArg (fun z => z ++ _) HE.out)); clear HM BK HN HE hg hm hgr hl hx0 hx1 hx2 hx3; have HM := n0_; have BK := n1_; have HN := n2_; have HE := n3_; clear n0_ n1_ n2_ n3_; have hx0 := blk_cell BK.out 0; have hx1 := blk_cell BK.out 1; have hx2 := blk_cell BK.out 2; have hx3 := blk_cell BK.out 3; simp at hx0 hx1 hx2 hx3)
  | ((with_reducible refine gate_dst (N := 15) rfl ?_); at_builtin; refine M_append rfl (N := 15) rfl _ _ 22 9 rfl 5 Tryz.underlying22 HI.out HZ.out HS.out HBy.out (by first | exact HM.out.hm | exact HM.out.hm.alloc _) rfl rfl rfl [32, 72, 84, 84, 80, 47, 49, 46] (by first | rfl | (simp; done)) (src_str ⟨#[32, 72, 84, 84, 80, 47, 49, 46]⟩) (by have h1 := Hlim.out; rw [HE.out]; simp only [hbytes, hhead, List.length_append, List.length_cons, List.length_nil] at h1 ⊢; omega) ?_; intro g' cap' w1 l' hl hg hm hgr; have n0_ := Aside0.mk (MSt.step (by first | exact HM.out | exact HM.out.alloc _) hg hm hgr); have n1_ := Aside0.mk (MSt.other (by first | exact HM.out | exact HM.out.alloc _) hgr (by first | exact BK.out | exact blk_alloc BK.out _) HN.out); have n2_ := Aside0.mk (MSt.ne (by first | exact HM.out | exact HM.out.alloc _) hg (by first | exact BK.out | exact blk_alloc BK.out _) HN.out); have n3_ := Aside0.mk (hl.trans (congrArg (fun z => z ++ _) HE.out)); clear HM BK HN HE hg hm hgr hl hx0 hx1 hx2 hx3; have HM := n0_; have BK := n1_; have HN := n2_; have HE := n3_; clear n0_ n1_ n2_ n3_; have hx0 := blk_cell BK.out 0; have hx1 := blk_cell BK.out 1; have hx2 := blk_cell BK.out 2; have hx3 := blk_cell BK.out 3; simp at hx0 hx1 hx2 hx3)
  | (go_at_call 130; refine (appendInt0 _ _ _ _ HM.out.hm (by have h1 := Hlim.out; rw [HE.out]; simp only [hbytes, hhead, List.length_append, List.length_cons, List.length_nil] at h1 ⊢; omega)).mono ?_; rintro e w1 ⟨g', cap', l', rfl, hl, hg, hm, hgr⟩; have n0_ := Aside0.mk (MSt.step (by first | exact HM.out | exact HM.out.alloc _) hg hm hgr); have n1_ := Aside0.mk (MSt.other (by first | exact HM.out | exact HM.out.alloc _) hgr (by first | exact BK.out | exact blk_alloc BK.out _) HN.out); have n2_ := Aside0.mk (MSt.ne (by first | exact HM.out | exact HM.out.alloc _) hg (by first | exact BK.out | exact blk_alloc BK.out _) HN.out); have n3_ := Aside0.mk (hl.trans (congrArg (fun z => z ++ _) HE.out)); clear HM BK HN HE hg hm hgr hl hx0 hx1 hx2 hx3; have HM := n0_; have BK := n1_; have HN := n2_; have HE := n3_; clear n0_ n1_ n2_ n3_; have hx0 := blk_cell BK.out 0; have hx1 := blk_cell BK.out 1; have hx2 := blk_cell BK.out 2; have hx3 := blk_cell BK.out 3; simp at hx0 hx1 hx2 hx3)
  | ((with_reducible refine gate_dst (N := 20) rfl ?_); at_builtin; refine M_append rfl (N := 20) rfl _ _ 22 9 rfl 5 Tryz.underlying22 HI.out HZ.out HS.out HBy.out (by first | exact HM.out.hm | exact HM.out.hm.alloc _) rfl rfl rfl [13, 10] (by first | rfl | (simp; done)) (src_str ⟨#[13, 10]⟩) (by have h1 := Hlim.out; rw [HE.out]; simp only [hbytes, hhead, List.length_append, List.length_cons, List.length_nil] at h1 ⊢; omega) ?_; intro g' cap' w1 l' hl hg hm hgr; have n0_ := Aside0.mk (MSt.step (by first | exact HM.out | exact HM.out.alloc _) hg hm hgr); have n1_ := Aside0.mk (MSt.other (by first | exact HM.out | exact HM.out.alloc _) hgr (by first | exact BK.out | exact blk_alloc BK.out _) HN.out); have n2_ := Aside0.mk (MSt.ne (by first | exact HM.out | exact HM.out.alloc _) hg (by first | exact BK.out | exact blk_alloc BK.out _) HN.out); have n3_ := Aside0.mk (hl.trans (congrArg (fun z => z ++ _) HE.out)); clear HM BK HN HE hg hm hgr hl hx0 hx1 hx2 hx3; have HM := n0_; have BK := n1_; have HN := n2_; have HE := n3_; clear n0_ n1_ n2_ n3_; have hx0 := blk_cell BK.out 0; have hx1 := blk_cell BK.out 1; have hx2 := blk_cell BK.out 2; have hx3 := blk_cell BK.out 3; simp at hx0 hx1 hx2 hx3))
 have HE0 := Aside0.mk (show l' = hhead a0_0 a0_1 0 from HE.out)
 clear HE
 go_loopw [3, 24] (fun v3 v24 wr => ∃ (k g cap : Nat) (l : List Int), k ≤ l0_3.length ∧ v24 = .int .i64 k ∧ v3 = .slice (some ⟨g, 0, none⟩) l.length cap ∧ Aside0 (l = hhead a0_0 a0_1 0 ++ (l0_3.take k).flatMap hfield) ∧ Aside0 (MSt w wr g cap l)) (fun _ v24 _ => l0_3.length - (intOf v24).toNat)
 case atStart => exact ⟨0, g', cap', l', Nat.zero_le _, rfl, rfl, ⟨by rw [HE0.out]; simp⟩, HM⟩
 case round =>
  obtain ⟨k, g, cap, l, hk, rfl, rfl, HE, HM⟩ := hrel
  have hn63 : l0_3.length ≤ 9223372036854775807 := HC.out.2.1
  by_cases hlt : k < l0_3.length
  ·obtain ⟨ad, e, hn, hv⟩ := at_T52 (Kd.C_below HC.out HM.out.hb) (k : Int) (by omega) (by omega)
   cases e
   rw [Int.toNat_natCast] at hn hv
   obtain ⟨nm, hnm⟩ : ∃ nm, (rd_T52 l0_3 k).f0 = nm := ⟨_, rfl⟩
   obtain ⟨vl, hvl⟩ : ∃ vl, (rd_T52 l0_3 k).f1 = vl := ⟨_, rfl⟩
   rw [hnm] at hn
   rw [hvl] at hv
   have HF := Aside0.mk (show hfield (rd_T52 l0_3 k) = bytesOf nm ++ [58, 32] ++ bytesOf vl ++ [13, 10] by unfold hfield; rw [hnm, hvl])
   have HR := Aside0.mk (show l0_3.take (k + 1) = l0_3.take k ++ [rd_T52 l0_3 k] by
    rw [List.take_succ_eq_append_getElem hlt]
    congr 2
    simp [rd_T52, List.getD_eq_getElem?_getD, List.getElem?_eq_getElem hlt])
   clear hnm hvl
   have HLIM := Aside0.mk (show (hhead a0_0 a0_1 0).length + ((l0_3.take k).flatMap hfield).length + (bytesOf nm ++ [58, 32] ++ bytesOf vl ++ [13, 10]).length ≤ 140737488355328 by
    have h1 := hb_le (a0 := a0_0) (a1 := a0_1) (a2 := 0) (l := l0_3) (k + 1)
    rw [HR.out, List.flatMap_append, List.length_append] at h1
    have h2 : ([rd_T52 l0_3 ↑k].flatMap hfield).length = (bytesOf nm ++ [58, 32] ++ bytesOf vl ++ [13, 10]).length := by rw [← HF.out]; simp
    have := Hlim.out
    omega)
   go_wp2
   obtain ⟨gf, hgf⟩ : ∃ gf, gf = wr.heap.size := ⟨_, rfl⟩
   have BF := Aside0.mk (show (wr.alloc (.cells #[.string nm, .string vl] 52 (0, 0))).heap[gf]? = some (.cells #[.string nm, .string vl] 52 (0, 0)) by rw [hgf]; exact blk_new wr _)
   have HN := Aside0.mk (show gf ≠ g by have := HM.out.hm.lt; omega)
   have n0_ := Aside0.mk (HM.out.alloc (.cells #[.string nm, .string vl] 52 (0, 0)))
   rw [← hgf]
   clear HM hn hv hgf
   have HM := n0_
   clear n0_
   obtain ⟨W0, hW0⟩ : ∃ W0, W0 = wr.alloc (.cells #[.string nm, .string vl] 52 (0, 0)) := ⟨_, rfl⟩
   rw [← hW0] at BF HM ⊢
   clear hW0
   have hf0 : W0.cell? ⟨gf, 0, none⟩ = some (.string nm) := by rw [blk_cell BF.out]; rfl
   have hf1 : W0.cell? ⟨gf, 1, none⟩ = some (.string vl) := by rw [blk_cell BF.out]; rfl
   go_region_held3 (fun w' => w'.cell? ⟨gf, 0, none⟩ = some (.string nm) ∧ w'.cell? ⟨gf, 1, none⟩ = some (.string vl))
    (first
     | go_keep
     | (have hq0 := (blk_cell BF.out 0).trans (show _ = some (.string nm) from rfl); have hq1 := (blk_cell BF.out 1).trans (show _ = some (.string vl) from rfl); exact ⟨hq0, hq1⟩)
     | (go_split_ands; refine ⟨?_, ?_⟩ <;> assumption))
    (first
     | (refine step_M_append rfl _ _ 22 9 rfl 5 Tryz.underlying22 HI.out HZ.out HS.out HBy.out (by first | exact HM.out.hm | exact HM.out.drew.hm) rfl (by rfl) (by rfl) (bytesOf nm) (by first | rfl | (simp; done)) (src_str _) (by rw [HE.out]; have h1 := HLIM.out; simp only [List.length_append, List.length_cons, List.length_nil] at h1 ⊢; omega) ?_; intro g' cap' w1 l' hl hg hm hgr; have n0_ := Aside0.mk (MSt.step (by first | exact HM.out | exact HM.out.drew) hg hm hgr); have n1_ := Aside0.mk (MSt.other (by first | exact HM.out | exact HM.out.drew) hgr BF.out HN.out); have n2_ := Aside0.mk (MSt.ne (by first | exact HM.out | exact HM.out.drew) hg BF.out HN.out); have n3_ := Aside0.mk (hl.trans (congrArg (fun z => z ++ _) HE.out)); clear HM BF HN HE hg hm hl; have HM := n0_; have BF := n1_; have HN := n2_; have HE := n3_; clear n0_ n1_ n2_ n3_)
     | (refine step_M_append rfl _ _ 22 9 rfl 5 Tryz.underlying22 HI.out HZ.out HS.out HBy.out (by first | exact HM.out.hm | exact HM.out.drew.hm) rfl (by rfl) (by rfl) [58, 32] (by first | rfl | (simp; done)) (src_str ⟨#[58, 32]⟩) (by rw [HE.out]; have h1 := HLIM.out; simp only [List.length_append, List.length_cons, List.length_nil] at h1 ⊢; omega) ?_; intro g' cap' w1 l' hl hg hm hgr; have n0_ := Aside0.mk (MSt.step (by first | exact HM.out | exact HM.out.drew) hg hm hgr); have n1_ := Aside0.mk (MSt.other (by first | exact HM.out | exact HM.out.drew) hgr BF.out HN.out); have n2_ := Aside0.mk (MSt.ne (by first | exact HM.out | exact HM.out.drew) hg BF.out HN.out); have n3_ := Aside0.mk (hl.trans (congrArg (fun z => z ++ _) HE.out)); clear HM BF HN HE hg hm hl; have HM := n0_; have BF := n1_; have HN := n2_; have HE := n3_; clear n0_ n1_ n2_ n3_)
     | (refine step_M_append rfl _ _ 22 9 rfl 5 Tryz.underlying22 HI.out HZ.out HS.out HBy.out (by first | exact HM.out.hm | exact HM.out.drew.hm) rfl (by rfl) (by rfl) (bytesOf vl) (by first | rfl | (simp; done)) (src_str _) (by rw [HE.out]; have h1 := HLIM.out; simp only [List.length_append, List.length_cons, List.length_nil] at h1 ⊢; omega) ?_; intro g' cap' w1 l' hl hg hm hgr; have n0_ := Aside0.mk (MSt.step (by first | exact HM.out | exact HM.out.drew) hg hm hgr); have n1_ := Aside0.mk (MSt.other (by first | exact HM.out | exact HM.out.drew) hgr BF.out HN.out); have n2_ := Aside0.mk (MSt.ne (by first | exact HM.out | exact HM.out.drew) hg BF.out HN.out); have n3_ := Aside0.mk (hl.trans (congrArg (fun z => z ++ _) HE.out)); clear HM BF HN HE hg hm hl; have HM := n0_; have BF := n1_; have HN := n2_; have HE := n3_; clear n0_ n1_ n2_ n3_)
     | (refine step_M_append rfl _ _ 22 9 rfl 5 Tryz.underlying22 HI.out HZ.out HS.out HBy.out (by first | exact HM.out.hm | exact HM.out.drew.hm) rfl (by rfl) (by rfl) [13, 10] (by first | rfl | (simp; done)) (src_str ⟨#[13, 10]⟩) (by rw [HE.out]; have h1 := HLIM.out; simp only [List.length_append, List.length_cons, List.length_nil] at h1 ⊢; omega) ?_; intro g' cap' w1 l' hl hg hm hgr; have n0_ := Aside0.mk (MSt.step (by first | exact HM.out | exact HM.out.drew) hg hm hgr); have n1_ := Aside0.mk (MSt.other (by first | exact HM.out | exact HM.out.drew) hgr BF.out HN.out); have n2_ := Aside0.mk (MSt.ne (by first | exact HM.out | exact HM.out.drew) hg BF.out HN.out); have n3_ := Aside0.mk (hl.trans (congrArg (fun z => z ++ _) HE.out)); clear HM BF HN HE hg hm hl; have HM := n0_; have BF := n1_; have HN := n2_; have HE := n3_; clear n0_ n1_ n2_ n3_))
   go_wp2
   go_roundw
   case measure => simp [intOf]; omega
   case rel => exact ⟨k + 1, g', cap', l', by omega, by go_num, rfl, ⟨by rw [HE.out, HR.out, List.flatMap_append, List.flatMap_singleton, HF.out]; simp only [List.append_assoc]⟩, HM⟩
  ·have hk' : k = l0_3.length := by omega
   subst hk'
   rw [List.take_length] at HE
   go_wp2_with ((with_reducible refine gate_dst (N := 39) rfl ?_); at_builtin; refine M_append rfl (N := 39) rfl _ _ 22 9 rfl 5 Tryz.underlying22 HI.out HZ.out HS.out HBy.out HM.out.hm rfl rfl rfl [13, 10] rfl (src_str ⟨#[13, 10]⟩) (by rw [HE.out]; have h1 := Hlim.out; simp only [hbytes, List.length_append, List.length_cons, List.length_nil] at h1 ⊢; omega) ?_; intro g' cap' w1 l' hl hg hm hgr; have n0_ := Aside0.mk (MSt.step HM.out hg hm hgr); have n3_ := Aside0.mk (hl.trans (congrArg (fun z => z ++ _) HE.out)); clear HM HE hg hm hl hgr; have HM := n0_; have HE := n3_; clear n0_ n3_)
   go_ret
   have he : l' = hbytes a0_0 a0_1 0 l0_3 := HE.out
   subst he
   exact ⟨g', cap', rfl, HM.out.hm, HM.out.hg, HM.out.hb⟩
set_option maxHeartbeats 4000000 in
set_option maxRecDepth 100000 in
theorem hbytes_calls1 (a0_0 a0_1 : ByteArray) (a0_2 : Int) (A0_3 : Option Addr) (c0_3 : Nat) (l0_3 : List (S52)) (w : World) (hr0_3 : Kd.C k52 w A0_3 l0_3.length l0_3) (hc0_3 : l0_3.length ≤ c0_3) (h2 : a0_2 = 1) (hlim : (hbytes a0_0 a0_1 a0_2 l0_3).length ≤ 140737488355328) :
  Calls Tryz.prog 83 #[.agg #[.string a0_0, .string a0_1, .int .i64 a0_2, .slice A0_3 l0_3.length c0_3]] w fun e w' => ∃ g cap, e = .returned (.slice (some ⟨g, 0, none⟩) (hbytes a0_0 a0_1 a0_2 l0_3).length cap) ∧ MRow w' g cap (hbytes a0_0 a0_1 a0_2 l0_3) ∧ w.heap.size ≤ g ∧ Below w.heap.size w w' := by
 subst h2
 have HC := Aside0.mk hr0_3
 have HB := Aside0.mk (Below.refl w.heap.size w)
 have Hl0 := Aside0.mk (hb_le (a0 := a0_0) (a1 := a0_1) (a2 := 1) (l := l0_3) 0)
 have Hlim := Aside0.mk hlim
 have Hsz := Aside0.mk (bytesOf_length a0_0)
 clear hr0_3 hlim
 obtain ⟨i0, hi0, hz0, hs0, hb0⟩ := info_parts info_u8
 have HI := Aside0.mk hi0
 have HZ := Aside0.mk hz0
 have HS := Aside0.mk hs0
 have HBy := Aside0.mk hb0
 clear hi0 hz0 hs0 hb0
 have hu24 := Tryz.underlying35
 go_enter Tryz.func83, Tryz.ntmps83
 go_wp2_with (first
  | ((with_reducible refine gate_dst (N := 1) rfl ?_); refine box_event ?hg (N := 1) ?hd (cs := #[.string a0_0, .string a0_1, .int .i64 1, .slice A0_3 l0_3.length c0_3]) (t := 35) ?hr ?_; (case hd => rfl); (case hg => rfl); (case hr => first | (go_simp; done) | (go_simp; rfl)); intro gb hg wb hbox hb; have GE := Aside0.mk (show w.heap.size ≤ gb by rw [hg]; exact Nat.le_refl _); have BK := Aside0.mk hbox; have HB := Aside0.mk hb; clear hbox hb hg; have hx0 := blk_cell BK.out 0; have hx1 := blk_cell BK.out 1; have hx2 := blk_cell BK.out 2; have hx3 := blk_cell BK.out 3; simp at hx0 hx1 hx2 hx3)
  | ((with_reducible refine gate_dst (N := 8) rfl ?_); refine M_ofstr 5 rfl (N := 8) rfl 9 22 _ rfl a0_0 rfl Tryz.underlying9 Tryz.underlying22 Tryz.underlying5 (by have h1 := Hlim.out; have h2 := Hsz.out; simp only [hbytes, hhead, List.length_append] at h1; omega) ?_; intro g cap w1 hge hm hb; have HM := Aside0.mk (MSt.mk hm (Nat.le_trans (below_size HB.out) hge) (below_step HB.out hb)); have HN := Aside0.mk (show gb ≠ g by have := blk_lt BK.out; omega); have n1_ := Aside0.mk (blk_below BK.out hb); clear HB BK hge hm hb hx0 hx1 hx2 hx3; have BK := n1_; clear n1_; have hx0 := blk_cell BK.out 0; have hx1 := blk_cell BK.out 1; have hx2 := blk_cell BK.out 2; have hx3 := blk_cell BK.out 3; simp at hx0 hx1 hx2 hx3; obtain ⟨l, hl⟩ : ∃ l, l = bytesOf a0_0 := ⟨_, rfl⟩; rw [← hl] at HM ⊢; have HE := Aside0.mk hl; clear hl)
  | ((with_reducible refine gate_dst (N := 10) rfl ?_); at_builtin; refine M_append rfl (N := 10) rfl _ _ 22 22 rfl 5 Tryz.underlying22 HI.out HZ.out HS.out HBy.out (by first | exact HM.out.hm | exact HM.out.hm.alloc _) rfl rfl rfl [32] (by first | rfl | (simp; done)) (Src.ofSlice (P := Tryz.prog) _ Tryz.underlying22 _ 1 1 [.int .u8 32] rfl (cell_one_new _ _ _) (by simp [Value.oneCell'])) (by have h1 := Hlim.out; rw [HE.out]; simp only [hbytes, hhead, List.length_append, List.length_cons, List.length_nil] at h1 ⊢; omega) ?_; intro g' cap' w1 l' hl hg hm hgr; have n0_ := Aside0.mk (MSt.step (by first | exact HM.out | exact HM.out.alloc _) hg hm hgr); have n1_ := Aside0.mk (MSt.other (by first | exact HM.out | exact HM.out.alloc _) hgr (by first | exact BK.out | exact blk_alloc BK.out _) HN.out); have n2_ := Aside0.mk (MSt.ne (by first | exact HM.out | exact HM.out.alloc _) hg (by first | exact BK.out | exact blk_alloc BK.out _) HN.out); have n3_ := Aside0.mk (hl.trans (congrArg (fun z => z ++ _) HE.out)); clear HM BK HN HE hg hm hgr hl hx0 hx1 hx2 hx3; have HM := n0_; have BK := n1_; have HN := n2_; have HE := n3_; clear n0_ n1_ n2_ n3_; have hx0 := blk_cell BK.out 0; have hx1 := blk_cell BK.out 1; have hx2 := blk_cell BK.out 2; have hx3 := blk_cell BK.out 3; simp at hx0 hx1 hx2 hx3)
  | ((with_reducible refine gate_dst (N := 14) rfl ?_); at_builtin; refine M_append rfl (N := 14) rfl _ _ 22 9 rfl 5 Tryz.underlying22 HI.out HZ.out HS.out HBy.out (by first | exact HM.out.hm | exact HM.out.hm.alloc _) rfl rfl rfl (bytesOf a0_1) (by first | rfl | (simp; done)) (src_str _) (by have h1 := Hlim.out; rw [HE.out]; simp only [hbytes, hhead, List.length_append, List.length_cons, List.length_nil] at h1 ⊢; omega) ?_; intro g' cap' w1 l' hl hg hm hgr; have n0_ := Aside0.mk (MSt.step (by first | exact HM.out | exact HM.out.alloc _) hg hm hgr); have n1_ := Aside0.mk (MSt.other (by first | exact HM.out | exact HM.out.alloc _) hgr (by first | exact BK.out | exact blk_alloc BK.out _) HN.out); have n2_ := Aside0.mk (MSt.ne (by first | exact HM.out | exact HM.out.alloc _) hg (by first | exact BK.out | exact blk_alloc BK.out _) HN.out); have n3_ := Aside0.mk (hl.trans (congrArg (fun z => z ++ _) HE.out)); clear HM BK HN HE hg hm hgr hl hx0 hx1 hx2 hx3; have HM := n0_; have BK := n1_; have HN := n2_; have HE := n3_; clear n0_ n1_ n2_ n3_; have hx0 := blk_cell BK.out 0; have hx1 := blk_cell BK.out 1; have hx2 := blk_cell BK.out 2; have hx3 := blk_cell BK.out 3; simp at hx0 hx1 hx2 hx3)
  | ((with_reducible refine gate_dst (N := 15) rfl ?_); at_builtin; refine M_append rfl (N := 15) rfl _ _ 22 9 rfl 5 Tryz.underlying22 HI.out HZ.out HS.out HBy.out (by first | exact HM.out.hm | exact HM.out.hm.alloc _) rfl rfl rfl [32, 72, 84, 84, 80, 47, 49, 46] (by first | rfl | (simp; done)) (src_str ⟨#[32, 72, 84, 84, 80, 47, 49, 46]⟩) (by have h1 := Hlim.out; rw [HE.out]; simp only [hbytes, hhead, List.length_append, List.length_cons, List.length_nil] at h1 ⊢; omega) ?_; intro g' cap' w1 l' hl hg hm hgr; have n0_ := Aside0.mk (MSt.step (by first | exact HM.out | exact HM.out.alloc _) hg hm hgr); have n1_ := Aside0.mk (MSt.other (by first | exact HM.out | exact HM.out.alloc _) hgr (by first | exact BK.out | exact blk_alloc BK.out _) HN.out); have n2_ := Aside0.mk (MSt.ne (by first | exact HM.out | exact HM.out.alloc _) hg (by first | exact BK.out | exact blk_alloc BK.out _) HN.out); have n3_ := Aside0.mk (hl.trans (congrArg (fun z => z ++ _) HE.out)); clear HM BK HN HE hg hm hgr hl hx0 hx1 hx2 hx3; have HM := n0_; have BK := n1_; have HN := n2_; have HE := n3_; clear n0_ n1_ n2_ n3_; have hx0 := blk_cell BK.out 0; have hx1 := blk_cell BK.out 1; have hx2 := blk_cell BK.out 2; have hx3 := blk_cell BK.out 3; simp at hx0 hx1 hx2 hx3)
  | (go_at_call 130; refine (appendInt1 _ _ _ _ HM.out.hm (by have h1 := Hlim.out; rw [HE.out]; simp only [hbytes, hhead, List.length_append, List.length_cons, List.length_nil] at h1 ⊢; omega)).mono ?_; rintro e w1 ⟨g', cap', l', rfl, hl, hg, hm, hgr⟩; have n0_ := Aside0.mk (MSt.step (by first | exact HM.out | exact HM.out.alloc _) hg hm hgr); have n1_ := Aside0.mk (MSt.other (by first | exact HM.out | exact HM.out.alloc _) hgr (by first | exact BK.out | exact blk_alloc BK.out _) HN.out); have n2_ := Aside0.mk (MSt.ne (by first | exact HM.out | exact HM.out.alloc _) hg (by first | exact BK.out | exact blk_alloc BK.out _) HN.out); have n3_ := Aside0.mk (hl.trans (congrArg (fun z => z ++ _) HE.out)); clear HM BK HN HE hg hm hgr hl hx0 hx1 hx2 hx3; have HM := n0_; have BK := n1_; have HN := n2_; have HE := n3_; clear n0_ n1_ n2_ n3_; have hx0 := blk_cell BK.out 0; have hx1 := blk_cell BK.out 1; have hx2 := blk_cell BK.out 2; have hx3 := blk_cell BK.out 3; simp at hx0 hx1 hx2 hx3)
  | ((with_reducible refine gate_dst (N := 20) rfl ?_); at_builtin; refine M_append rfl (N := 20) rfl _ _ 22 9 rfl 5 Tryz.underlying22 HI.out HZ.out HS.out HBy.out (by first | exact HM.out.hm | exact HM.out.hm.alloc _) rfl rfl rfl [13, 10] (by first | rfl | (simp; done)) (src_str ⟨#[13, 10]⟩) (by have h1 := Hlim.out; rw [HE.out]; simp only [hbytes, hhead, List.length_append, List.length_cons, List.length_nil] at h1 ⊢; omega) ?_; intro g' cap' w1 l' hl hg hm hgr; have n0_ := Aside0.mk (MSt.step (by first | exact HM.out | exact HM.out.alloc _) hg hm hgr); have n1_ := Aside0.mk (MSt.other (by first | exact HM.out | exact HM.out.alloc _) hgr (by first | exact BK.out | exact blk_alloc BK.out _) HN.out); have n2_ := Aside0.mk (MSt.ne (by first | exact HM.out | exact HM.out.alloc _) hg (by first | exact BK.out | exact blk_alloc BK.out _) HN.out); have n3_ := Aside0.mk (hl.trans (congrArg (fun z => z ++ _) HE.out)); clear HM BK HN HE hg hm hgr hl hx0 hx1 hx2 hx3; have HM := n0_; have BK := n1_; have HN := n2_; have HE := n3_; clear n0_ n1_ n2_ n3_; have hx0 := blk_cell BK.out 0; have hx1 := blk_cell BK.out 1; have hx2 := blk_cell BK.out 2; have hx3 := blk_cell BK.out 3; simp at hx0 hx1 hx2 hx3))
 have HE0 := Aside0.mk (show l' = hhead a0_0 a0_1 1 from HE.out)
 clear HE
 go_loopw [3, 24] (fun v3 v24 wr => ∃ (k g cap : Nat) (l : List Int), k ≤ l0_3.length ∧ v24 = .int .i64 k ∧ v3 = .slice (some ⟨g, 0, none⟩) l.length cap ∧ Aside0 (l = hhead a0_0 a0_1 1 ++ (l0_3.take k).flatMap hfield) ∧ Aside0 (MSt w wr g cap l)) (fun _ v24 _ => l0_3.length - (intOf v24).toNat)
 case atStart => exact ⟨0, g', cap', l', Nat.zero_le _, rfl, rfl, ⟨by rw [HE0.out]; simp⟩, HM⟩
 case round =>
  obtain ⟨k, g, cap, l, hk, rfl, rfl, HE, HM⟩ := hrel
  have hn63 : l0_3.length ≤ 9223372036854775807 := HC.out.2.1
  by_cases hlt : k < l0_3.length
  ·obtain ⟨ad, e, hn, hv⟩ := at_T52 (Kd.C_below HC.out HM.out.hb) (k : Int) (by omega) (by omega)
   cases e
   rw [Int.toNat_natCast] at hn hv
   obtain ⟨nm, hnm⟩ : ∃ nm, (rd_T52 l0_3 k).f0 = nm := ⟨_, rfl⟩
   obtain ⟨vl, hvl⟩ : ∃ vl, (rd_T52 l0_3 k).f1 = vl := ⟨_, rfl⟩
   rw [hnm] at hn
   rw [hvl] at hv
   have HF := Aside0.mk (show hfield (rd_T52 l0_3 k) = bytesOf nm ++ [58, 32] ++ bytesOf vl ++ [13, 10] by unfold hfield; rw [hnm, hvl])
   have HR := Aside0.mk (show l0_3.take (k + 1) = l0_3.take k ++ [rd_T52 l0_3 k] by
    rw [List.take_succ_eq_append_getElem hlt]
    congr 2
    simp [rd_T52, List.getD_eq_getElem?_getD, List.getElem?_eq_getElem hlt])
   clear hnm hvl
   have HLIM := Aside0.mk (show (hhead a0_0 a0_1 1).length + ((l0_3.take k).flatMap hfield).length + (bytesOf nm ++ [58, 32] ++ bytesOf vl ++ [13, 10]).length ≤ 140737488355328 by
    have h1 := hb_le (a0 := a0_0) (a1 := a0_1) (a2 := 1) (l := l0_3) (k + 1)
    rw [HR.out, List.flatMap_append, List.length_append] at h1
    have h2 : ([rd_T52 l0_3 ↑k].flatMap hfield).length = (bytesOf nm ++ [58, 32] ++ bytesOf vl ++ [13, 10]).length := by rw [← HF.out]; simp
    have := Hlim.out
    omega)
   go_wp2
   obtain ⟨gf, hgf⟩ : ∃ gf, gf = wr.heap.size := ⟨_, rfl⟩
   have BF := Aside0.mk (show (wr.alloc (.cells #[.string nm, .string vl] 52 (0, 0))).heap[gf]? = some (.cells #[.string nm, .string vl] 52 (0, 0)) by rw [hgf]; exact blk_new wr _)
   have HN := Aside0.mk (show gf ≠ g by have := HM.out.hm.lt; omega)
   have n0_ := Aside0.mk (HM.out.alloc (.cells #[.string nm, .string vl] 52 (0, 0)))
   rw [← hgf]
   clear HM hn hv hgf
   have HM := n0_
   clear n0_
   obtain ⟨W0, hW0⟩ : ∃ W0, W0 = wr.alloc (.cells #[.string nm, .string vl] 52 (0, 0)) := ⟨_, rfl⟩
   rw [← hW0] at BF HM ⊢
   clear hW0
   have hf0 : W0.cell? ⟨gf, 0, none⟩ = some (.string nm) := by rw [blk_cell BF.out]; rfl
   have hf1 : W0.cell? ⟨gf, 1, none⟩ = some (.string vl) := by rw [blk_cell BF.out]; rfl
   go_region_held3 (fun w' => w'.cell? ⟨gf, 0, none⟩ = some (.string nm) ∧ w'.cell? ⟨gf, 1, none⟩ = some (.string vl))
    (first
     | go_keep
     | (have hq0 := (blk_cell BF.out 0).trans (show _ = some (.string nm) from rfl); have hq1 := (blk_cell BF.out 1).trans (show _ = some (.string vl) from rfl); exact ⟨hq0, hq1⟩)
     | (go_split_ands; refine ⟨?_, ?_⟩ <;> assumption))
    (first
     | (refine step_M_append rfl _ _ 22 9 rfl 5 Tryz.underlying22 HI.out HZ.out HS.out HBy.out (by first | exact HM.out.hm | exact HM.out.drew.hm) rfl (by rfl) (by rfl) (bytesOf nm) (by first | rfl | (simp; done)) (src_str _) (by rw [HE.out]; have h1 := HLIM.out; simp only [List.length_append, List.length_cons, List.length_nil] at h1 ⊢; omega) ?_; intro g' cap' w1 l' hl hg hm hgr; have n0_ := Aside0.mk (MSt.step (by first | exact HM.out | exact HM.out.drew) hg hm hgr); have n1_ := Aside0.mk (MSt.other (by first | exact HM.out | exact HM.out.drew) hgr BF.out HN.out); have n2_ := Aside0.mk (MSt.ne (by first | exact HM.out | exact HM.out.drew) hg BF.out HN.out); have n3_ := Aside0.mk (hl.trans (congrArg (fun z => z ++ _) HE.out)); clear HM BF HN HE hg hm hl; have HM := n0_; have BF := n1_; have HN := n2_; have HE := n3_; clear n0_ n1_ n2_ n3_)
     | (refine step_M_append rfl _ _ 22 9 rfl 5 Tryz.underlying22 HI.out HZ.out HS.out HBy.out (by first | exact HM.out.hm | exact HM.out.drew.hm) rfl (by rfl) (by rfl) [58, 32] (by first | rfl | (simp; done)) (src_str ⟨#[58, 32]⟩) (by rw [HE.out]; have h1 := HLIM.out; simp only [List.length_append, List.length_cons, List.length_nil] at h1 ⊢; omega) ?_; intro g' cap' w1 l' hl hg hm hgr; have n0_ := Aside0.mk (MSt.step (by first | exact HM.out | exact HM.out.drew) hg hm hgr); have n1_ := Aside0.mk (MSt.other (by first | exact HM.out | exact HM.out.drew) hgr BF.out HN.out); have n2_ := Aside0.mk (MSt.ne (by first | exact HM.out | exact HM.out.drew) hg BF.out HN.out); have n3_ := Aside0.mk (hl.trans (congrArg (fun z => z ++ _) HE.out)); clear HM BF HN HE hg hm hl; have HM := n0_; have BF := n1_; have HN := n2_; have HE := n3_; clear n0_ n1_ n2_ n3_)
     | (refine step_M_append rfl _ _ 22 9 rfl 5 Tryz.underlying22 HI.out HZ.out HS.out HBy.out (by first | exact HM.out.hm | exact HM.out.drew.hm) rfl (by rfl) (by rfl) (bytesOf vl) (by first | rfl | (simp; done)) (src_str _) (by rw [HE.out]; have h1 := HLIM.out; simp only [List.length_append, List.length_cons, List.length_nil] at h1 ⊢; omega) ?_; intro g' cap' w1 l' hl hg hm hgr; have n0_ := Aside0.mk (MSt.step (by first | exact HM.out | exact HM.out.drew) hg hm hgr); have n1_ := Aside0.mk (MSt.other (by first | exact HM.out | exact HM.out.drew) hgr BF.out HN.out); have n2_ := Aside0.mk (MSt.ne (by first | exact HM.out | exact HM.out.drew) hg BF.out HN.out); have n3_ := Aside0.mk (hl.trans (congrArg (fun z => z ++ _) HE.out)); clear HM BF HN HE hg hm hl; have HM := n0_; have BF := n1_; have HN := n2_; have HE := n3_; clear n0_ n1_ n2_ n3_)
     | (refine step_M_append rfl _ _ 22 9 rfl 5 Tryz.underlying22 HI.out HZ.out HS.out HBy.out (by first | exact HM.out.hm | exact HM.out.drew.hm) rfl (by rfl) (by rfl) [13, 10] (by first | rfl | (simp; done)) (src_str ⟨#[13, 10]⟩) (by rw [HE.out]; have h1 := HLIM.out; simp only [List.length_append, List.length_cons, List.length_nil] at h1 ⊢; omega) ?_; intro g' cap' w1 l' hl hg hm hgr; have n0_ := Aside0.mk (MSt.step (by first | exact HM.out | exact HM.out.drew) hg hm hgr); have n1_ := Aside0.mk (MSt.other (by first | exact HM.out | exact HM.out.drew) hgr BF.out HN.out); have n2_ := Aside0.mk (MSt.ne (by first | exact HM.out | exact HM.out.drew) hg BF.out HN.out); have n3_ := Aside0.mk (hl.trans (congrArg (fun z => z ++ _) HE.out)); clear HM BF HN HE hg hm hl; have HM := n0_; have BF := n1_; have HN := n2_; have HE := n3_; clear n0_ n1_ n2_ n3_))
   go_wp2
   go_roundw
   case measure => simp [intOf]; omega
   case rel => exact ⟨k + 1, g', cap', l', by omega, by go_num, rfl, ⟨by rw [HE.out, HR.out, List.flatMap_append, List.flatMap_singleton, HF.out]; simp only [List.append_assoc]⟩, HM⟩
  ·have hk' : k = l0_3.length := by omega
   subst hk'
   rw [List.take_length] at HE
   go_wp2_with ((with_reducible refine gate_dst (N := 39) rfl ?_); at_builtin; refine M_append rfl (N := 39) rfl _ _ 22 9 rfl 5 Tryz.underlying22 HI.out HZ.out HS.out HBy.out HM.out.hm rfl rfl rfl [13, 10] rfl (src_str ⟨#[13, 10]⟩) (by rw [HE.out]; have h1 := Hlim.out; simp only [hbytes, List.length_append, List.length_cons, List.length_nil] at h1 ⊢; omega) ?_; intro g' cap' w1 l' hl hg hm hgr; have n0_ := Aside0.mk (MSt.step HM.out hg hm hgr); have n3_ := Aside0.mk (hl.trans (congrArg (fun z => z ++ _) HE.out)); clear HM HE hg hm hl hgr; have HM := n0_; have HE := n3_; clear n0_ n3_)
   go_ret
   have he : l' = hbytes a0_0 a0_1 1 l0_3 := HE.out
   subst he
   exact ⟨g', cap', rfl, HM.out.hm, HM.out.hg, HM.out.hb⟩
def head_bytes.f (a0_0 a0_1 : ByteArray) (a0_2 : Int) (l0_3 : List (S52)) : Option (List Int) := if (a0_2 = 0 ∨ a0_2 = 1) ∧ (hbytes a0_0 a0_1 a0_2 l0_3).length ≤ 140737488355328 then some (hbytes a0_0 a0_1 a0_2 l0_3) else none
theorem head_bytes.calls (a0_0 a0_1 : ByteArray) (a0_2 : Int) (A0_3 : Option Addr) (c0_3 : Nat) (l0_3 : List (S52)) (r : List Int) (w : World) (hr0_3 : Kd.C k52 w A0_3 l0_3.length l0_3) (hc0_3 : l0_3.length ≤ c0_3) (h : head_bytes.f a0_0 a0_1 a0_2 l0_3 = some r) :
  Calls Tryz.prog 83 #[.agg #[.string a0_0, .string a0_1, .int .i64 a0_2, .slice A0_3 l0_3.length c0_3]] w fun e w' => ∃ v0_ : Value, e = .returned (v0_) ∧ Kd.V (Kd.int .u8) 5 w' w.heap.size (fun k_ => (w.heap.size ≤ k_)) v0_ r ∧ Below w.heap.size w w' := by
 unfold head_bytes.f at h
 by_cases hs : (a0_2 = 0 ∨ a0_2 = 1) ∧ (hbytes a0_0 a0_1 a0_2 l0_3).length ≤ 140737488355328
 ·rw [if_pos hs] at h
  cases h
  rcases hs.1 with h2 | h2
  ·refine (hbytes_calls0 a0_0 a0_1 a0_2 A0_3 c0_3 l0_3 w hr0_3 hc0_3 h2 hs.2).mono ?_
   rintro e w' ⟨g, cap, rfl, hm, hg, hb⟩
   exact ⟨_, rfl, hm.V _ _ hg, hb⟩
  ·refine (hbytes_calls1 a0_0 a0_1 a0_2 A0_3 c0_3 l0_3 w hr0_3 hc0_3 h2 hs.2).mono ?_
   rintro e w' ⟨g, cap, rfl, hm, hg, hb⟩
   exact ⟨_, rfl, hm.V _ _ hg, hb⟩
 ·rw [if_neg hs] at h
  cases h

end Go.Proofs.YtnhpcpmgedjffaaGreatDoor.P
