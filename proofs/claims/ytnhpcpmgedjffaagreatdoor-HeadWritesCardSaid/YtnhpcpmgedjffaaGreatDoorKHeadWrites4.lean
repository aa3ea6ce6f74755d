import Derived.Test.YtnhpcpmgedjffaaGreatDoorKHeadWrites3
-- Written by the proof's own program out of the translation; Lean checks it.
namespace Go.Proofs.YtnhpcpmgedjffaaGreatDoor.P
open Go.RowKit Go.Proofs.YtnhpcpmgedjffaaGreatDoorW.PrintWords Go.Proofs.YtnhpcpmgedjffaaGreatDoorW.PrintLast Go.Proofs.YtnhpcpmgedjffaaGreatDoorW.PrintMore Go.Proofs.YtnhpcpmgedjffaaGreatDoorX
attribute [local go_sem] max2_int min2_int max_two min_two max_three min_three max_four min_four   -- for this text's walks alone
set_option linter.unusedVariables false
set_option linter.unusedSimpArgs false

/-! ### head_Parse: function 57 -/
mutual
def head_Parse.j0 : Nat → List ByteArray → Bool → Option (ByteArray × ByteArray × Int × (List (S52)) × Int)
 | 0, _, _ => none
 | k + 1, x4, x30 => if x30 = true then (some ((⟨#[]⟩ : ByteArray), (⟨#[]⟩ : ByteArray), 0, ([] : List (S52)), 400)) else (if 0 < (x4.length : Int) then ((strings_Split.f (rdOf ByteArray.empty x4 0) (⟨#[32]⟩ : ByteArray)).bind fun t158 => (if (t158.length : Int) = 3 then (if 0 < (t158.length : Int) then (if (rdOf ByteArray.empty t158 0).toList = ([] : List UInt8) then (head_Parse.j1 k x4 t158 true) else (if 1 < (t158.length : Int) then (if (rdOf ByteArray.empty t158 1).toList = ([] : List UInt8) then (head_Parse.j1 k x4 t158 true) else (if 2 < (t158.length : Int) then (if (rdOf ByteArray.empty t158 2).toList = ([] : List UInt8) then (head_Parse.j1 k x4 t158 true) else ((head_word.f (rdOf ByteArray.empty t158 0) 16).bind fun t165 => (head_Parse.j1 k x4 t158 (!t165)))) else (none))) else (none))) else (none)) else (head_Parse.j1 k x4 t158 true))) else (none))
def head_Parse.j1 : Nat → List ByteArray → List ByteArray → Bool → Option (ByteArray × ByteArray × Int × (List (S52)) × Int)
 | 0, _, _, _ => none
 | k + 1, x4, x6, x63 => if x63 = true then (some ((⟨#[]⟩ : ByteArray), (⟨#[]⟩ : ByteArray), 0, ([] : List (S52)), 400)) else (if 2 < (x6.length : Int) then ((head_version.f (rdOf ByteArray.empty x6 2)).bind fun bt167 => (if bt167.2.2 = true then (if bt167.1 = 1 then (head_Parse.j2 k x4 x6 bt167.2.1 (decide (bt167.2.1 > 1))) else (head_Parse.j2 k x4 x6 bt167.2.1 true)) else (some ((⟨#[]⟩ : ByteArray), (⟨#[]⟩ : ByteArray), 0, ([] : List (S52)), 400)))) else (none))
def head_Parse.j2 : Nat → List ByteArray → List ByteArray → Int → Bool → Option (ByteArray × ByteArray × Int × (List (S52)) × Int)
 | 0, _, _, _, _ => none
 | k + 1, x4, x6, x8, x77 => if x77 = true then (some ((⟨#[]⟩ : ByteArray), (⟨#[]⟩ : ByteArray), 0, ([] : List (S52)), 505)) else (if 1 < (x6.length : Int) then (if ((rdOf ByteArray.empty x6 1).size : Int) > 2048 then (some ((⟨#[]⟩ : ByteArray), (⟨#[]⟩ : ByteArray), 0, ([] : List (S52)), 414)) else ((head_target.f k (rdOf ByteArray.empty x6 1)).bind fun t172 => (if t172 = true then (if 0 < (x6.length : Int) then (if 1 ≤ (x4.length : Int) then ((some (x4.drop 1 : List ByteArray)).bind fun y176 => (head_Parse.l0 k y176 (y176.length : Int) 0 (rdOf ByteArray.empty x6 0) (rdOf ByteArray.empty x6 1) (wrap64 (x8)) ([] : List (S52)))) else (none)) else (none)) else (some ((⟨#[]⟩ : ByteArray), (⟨#[]⟩ : ByteArray), 0, ([] : List (S52)), 400))))) else (none))
def head_Parse.l0 : Nat → List ByteArray → Int → Int → ByteArray → ByteArray → Int → List (S52) → Option (ByteArray × ByteArray × Int × (List (S52)) × Int)
 | 0, _, _, _, _, _, _, _ => none
 | k + 1, x109, x110, x111, x176000, x176001, x176002, x176003 => if x111 < x110 then (if 0 ≤ x111 then (if x111 < (x109.length : Int) then (if (x176003.length : Int) = 32 then (some ((⟨#[]⟩ : ByteArray), (⟨#[]⟩ : ByteArray), 0, ([] : List (S52)), 431)) else ((strings_Cut.f (rdOf ByteArray.empty x109 x111) (⟨#[58]⟩ : ByteArray)).bind fun bt183 => ((strings_Trim.f bt183.2.1 (⟨#[9, 32]⟩ : ByteArray)).bind fun t186 => (if bt183.2.2 = true then ((head_word.f bt183.1 64).bind fun t187 => (if t187 = true then ((head_value.f k t186).bind fun t188 => (if t188 = true then (if x176003.length < 4398046511104 then (head_Parse.l0 k x109 x110 (wrap64 (x111 + 1)) x176000 x176001 x176002 (x176003 ++ [(⟨bt183.1, t186⟩ : S52)])) else (none)) else (some ((⟨#[]⟩ : ByteArray), (⟨#[]⟩ : ByteArray), 0, ([] : List (S52)), 400)))) else (some ((⟨#[]⟩ : ByteArray), (⟨#[]⟩ : ByteArray), 0, ([] : List (S52)), 400)))) else (some ((⟨#[]⟩ : ByteArray), (⟨#[]⟩ : ByteArray), 0, ([] : List (S52)), 400)))))) else (none)) else (none)) else ((head_hosts.f k x176000 x176001 x176002 x176003).bind fun t181 => (if t181 = true then (some (x176000, x176001, x176002, x176003, 200)) else (some ((⟨#[]⟩ : ByteArray), (⟨#[]⟩ : ByteArray), 0, ([] : List (S52)), 400))))
end
def head_Parse.f (k : Nat) (l0 : List Int) : Option (ByteArray × ByteArray × Int × (List (S52)) × Int) := if (l0.length : Int) > 4096 then (some ((⟨#[]⟩ : ByteArray), (⟨#[]⟩ : ByteArray), 0, ([] : List (S52)), 431)) else ((head_lines.f k l0).bind fun bt153 => (if bt153.2 = true then (head_Parse.j0 k bt153.1 ((bt153.1.length : Int) == 0)) else (head_Parse.j0 k bt153.1 true)))
theorem head_Parse.mono_l : ∀ k, (∀ y0 y1, LeO (head_Parse.j0 k y0 y1) (head_Parse.j0 (k + 1) y0 y1)) ∧ (∀ y0 y1 y2, LeO (head_Parse.j1 k y0 y1 y2) (head_Parse.j1 (k + 1) y0 y1 y2)) ∧ (∀ y0 y1 y2 y3, LeO (head_Parse.j2 k y0 y1 y2 y3) (head_Parse.j2 (k + 1) y0 y1 y2 y3)) ∧ (∀ y0 y1 y2 y3 y4 y5 y6, LeO (head_Parse.l0 k y0 y1 y2 y3 y4 y5 y6) (head_Parse.l0 (k + 1) y0 y1 y2 y3 y4 y5 y6))
 | 0 => ⟨fun _ _ r h => by simp [head_Parse.j0] at h, fun _ _ _ r h => by simp [head_Parse.j1] at h, fun _ _ _ _ r h => by simp [head_Parse.j2] at h, fun _ _ _ _ _ _ _ r h => by simp [head_Parse.l0] at h⟩
 | k + 1 => by
  obtain ⟨ih0, ih1, ih2, ih3⟩ := head_Parse.mono_l k
  refine ⟨?_, ?_, ?_, ?_⟩
  ·intro y0 y1
   unfold head_Parse.j0
   repeat' first
   | (with_reducible exact ih0 _ _)
   | (with_reducible exact ih1 _ _ _)
   | (with_reducible exact ih2 _ _ _ _)
   | (with_reducible exact ih3 _ _ _ _ _ _ _)
   | (with_reducible exact head_hosts.mono _ _ _ _ _)
   | (with_reducible exact head_lines.mono _ _)
   | (with_reducible exact head_target.mono _ _)
   | (with_reducible exact head_value.mono _ _)
   | (with_reducible exact LeO.refl _)
   | (with_reducible exact LeO.none _)
   | (with_reducible refine LeO.ite ?_ ?_)
   | (with_reducible refine LeO.bind ?_ (fun _ => ?_))
   | exact ih0 _ _
   | exact ih1 _ _ _
   | exact ih2 _ _ _ _
   | exact ih3 _ _ _ _ _ _ _
   | exact head_hosts.mono _ _ _ _ _
   | exact head_lines.mono _ _
   | exact head_target.mono _ _
   | exact head_value.mono _ _
   | exact LeO.none _
   | refine LeO.ite ?_ ?_
   | refine LeO.bind ?_ (fun _ => ?_)
  ·intro y0 y1 y2
   unfold head_Parse.j1
   repeat' first
   | (with_reducible exact ih0 _ _)
   | (with_reducible exact ih1 _ _ _)
   | (with_reducible exact ih2 _ _ _ _)
   | (with_reducible exact ih3 _ _ _ _ _ _ _)
   | (with_reducible exact head_hosts.mono _ _ _ _ _)
   | (with_reducible exact head_lines.mono _ _)
   | (with_reducible exact head_target.mono _ _)
   | (with_reducible exact head_value.mono _ _)
   | (with_reducible exact LeO.refl _)
   | (with_reducible exact LeO.none _)
   | (with_reducible refine LeO.ite ?_ ?_)
   | (with_reducible refine LeO.bind ?_ (fun _ => ?_))
   | exact ih0 _ _
   | exact ih1 _ _ _
   | exact ih2 _ _ _ _
   | exact ih3 _ _ _ _ _ _ _
   | exact head_hosts.mono _ _ _ _ _
   | exact head_lines.mono _ _
   | exact head_target.mono _ _
   | exact head_value.mono _ _
   | exact LeO.none _
   | refine LeO.ite ?_ ?_
   | refine LeO.bind ?_ (fun _ => ?_)
  ·intro y0 y1 y2 y3
   unfold head_Parse.j2
   repeat' first
   | (with_reducible exact ih0 _ _)
   | (with_reducible exact ih1 _ _ _)
   | (with_reducible exact ih2 _ _ _ _)
   | (with_reducible exact ih3 _ _ _ _ _ _ _)
   | (with_reducible exact head_hosts.mono _ _ _ _ _)
   | (with_reducible exact head_lines.mono _ _)
   | (with_reducible exact head_target.mono _ _)
   | (with_reducible exact head_value.mono _ _)
   | (with_reducible exact LeO.refl _)
   | (with_reducible exact LeO.none _)
   | (with_reducible refine LeO.ite ?_ ?_)
   | (with_reducible refine LeO.bind ?_ (fun _ => ?_))
   | exact ih0 _ _
   | exact ih1 _ _ _
   | exact ih2 _ _ _ _
   | exact ih3 _ _ _ _ _ _ _
   | exact head_hosts.mono _ _ _ _ _
   | exact head_lines.mono _ _
   | exact head_target.mono _ _
   | exact head_value.mono _ _
   | exact LeO.none _
   | refine LeO.ite ?_ ?_
   | refine LeO.bind ?_ (fun _ => ?_)
  ·intro y0 y1 y2 y3 y4 y5 y6
   unfold head_Parse.l0
   repeat' first
   | (with_reducible exact ih0 _ _)
   | (with_reducible exact ih1 _ _ _)
   | (with_reducible exact ih2 _ _ _ _)
   | (with_reducible exact ih3 _ _ _ _ _ _ _)
   | (with_reducible exact head_hosts.mono _ _ _ _ _)
   | (with_reducible exact head_lines.mono _ _)
   | (with_reducible exact head_target.mono _ _)
   | (with_reducible exact head_value.mono _ _)
   | (with_reducible exact LeO.refl _)
   | (with_reducible exact LeO.none _)
   | (with_reducible refine LeO.ite ?_ ?_)
   | (with_reducible refine LeO.bind ?_ (fun _ => ?_))
   | exact ih0 _ _
   | exact ih1 _ _ _
   | exact ih2 _ _ _ _
   | exact ih3 _ _ _ _ _ _ _
   | exact head_hosts.mono _ _ _ _ _
   | exact head_lines.mono _ _
   | exact head_target.mono _ _
   | exact head_value.mono _ _
   | exact LeO.none _
   | refine LeO.ite ?_ ?_
   | refine LeO.bind ?_ (fun _ => ?_)
theorem head_Parse.mono : ∀ a0 k, LeO (head_Parse.f k a0) (head_Parse.f (k + 1) a0) := by
 intro a0 k
 obtain ⟨ih0, ih1, ih2, ih3⟩ := head_Parse.mono_l k
 unfold head_Parse.f
 repeat' first
   | (with_reducible exact ih0 _ _)
   | (with_reducible exact ih1 _ _ _)
   | (with_reducible exact ih2 _ _ _ _)
   | (with_reducible exact ih3 _ _ _ _ _ _ _)
   | (with_reducible exact head_hosts.mono _ _ _ _ _)
   | (with_reducible exact head_lines.mono _ _)
   | (with_reducible exact head_target.mono _ _)
   | (with_reducible exact head_value.mono _ _)
   | (with_reducible exact LeO.refl _)
   | (with_reducible exact LeO.none _)
   | (with_reducible refine LeO.ite ?_ ?_)
   | (with_reducible refine LeO.bind ?_ (fun _ => ?_))
   | exact ih0 _ _
   | exact ih1 _ _ _
   | exact ih2 _ _ _ _
   | exact ih3 _ _ _ _ _ _ _
   | exact head_hosts.mono _ _ _ _ _
   | exact head_lines.mono _ _
   | exact head_target.mono _ _
   | exact head_value.mono _ _
   | exact LeO.none _
   | refine LeO.ite ?_ ?_
   | refine LeO.bind ?_ (fun _ => ?_)
def head_Parse.T18 : Bool × List (List Nat × List Nat) := (true, [([], []), ([0], [0]), ([1], [1]), ([], []), ([3], [3]), ([4], [4]), ([], []), ([6], [6]), ([2, 5, 7], [2, 5, 7]), ([], []), ([9, 8, 0, 1, 2, 3, 4, 5, 6, 7, 8, 9], [8, 9])])
def head_Parse.B18 : List Nat := [0, 1, 3, 0, 8, 24, 0, 64, 255, 0, 1023]
theorem head_Parse.tab18 : rtab .any (opsOf Tryz.f57 18) = head_Parse.T18 := by kernel_rfl
theorem head_Parse.bits18 : waitsOk head_Parse.T18.2 head_Parse.B18 = true := by kernel_rfl
set_option maxHeartbeats 8000000 in
set_option maxRecDepth 100000 in
theorem head_Parse.calls (k : Nat) (A0 : Option Addr) (c0 : Nat) (l0 : List Int) (r1 : ByteArray) (r2 : ByteArray) (r3 : Int) (r4 : List (S52)) (r5 : Int) (w : World) (hr0 : Kd.C (Kd.int .u8) w A0 l0.length l0) (hc0 : l0.length ≤ c0) (hG : GG 5 w) (h : head_Parse.f k l0 = some (r1, r2, r3, r4, r5)) :
  Calls Tryz.prog 57 #[.slice A0 l0.length c0] w fun e w' => ∃ v3_ : Value, e = .returned (.tuple #[.agg #[.string r1, .string r2, .int .i64 r3, v3_], .int .i64 r5]) ∧ Kd.R k52 52 w' w.heap.size (fun _ => True) v3_ r4 ∧ Below w.heap.size w w' := by
 have hu35 := Tryz.underlying35
 have hu52 := Tryz.underlying52
 have HGG := Aside0.mk hG
 clear hG
 have HR0 := Aside0.mk hr0
 have HC0 := Aside0.mk hc0
 clear hr0 hc0
 have HB := Aside0.mk (Below.refl w.heap.size w)
 have H : (if (l0.length : Int) > 4096 then (some ((⟨#[]⟩ : ByteArray), (⟨#[]⟩ : ByteArray), 0, ([] : List (S52)), 431)) else ((head_lines.f k l0).bind fun bt153 => (if bt153.2 = true then (head_Parse.j0 k bt153.1 ((bt153.1.length : Int) == 0)) else (head_Parse.j0 k bt153.1 true)))) = some (r1, r2, r3, r4, r5) := h
 clear h
 by_cases c2 : (l0.length : Int) > 4096
 ·rw [if_pos c2] at H
  have c2b0 : decide (4096 < (l0.length : Int)) = true := decide_eq_true c2
  have c2b1 : decide (4096 < l0.length) = true := decide_eq_true (by omega)
  clear c2
  simp only [Option.some.injEq, Prod.mk.injEq] at H
  obtain ⟨rfl, rfl, rfl, rfl, rfl⟩ := H
  go_enter Tryz.func57, Tryz.ntmps57
  go_wp2_with (first | ((with_reducible refine gate_dst (N := 2) rfl ?_); (try (refine gate_guard (by rfl) ?_; dsimp only)); refine box_event ?hg (N := 2) ?hd (cs := #[.string (⟨#[]⟩ : ByteArray), .string (⟨#[]⟩ : ByteArray), .int .i64 0, .slice none 0 0]) (t := 35) ?hr ?_; (case hd => rfl); (case hg => rfl); (case hr => first | (go_simp; done) | (go_simp; rfl)); intro gb152 hg w3 hbox hb; have n0_ := Aside0.mk (below_step (by repeat (first | (with_reducible first | exact HB.out | apply below_alloc | apply pw_below_drewN | apply below_drew1) | exact HB.out)) hb); have n1_ := Aside0.mk (hbox); have n2_ := Aside0.mk ((by rw [hg]; exact (below_size (by repeat (first | (with_reducible first | exact HB.out | apply below_alloc | apply pw_below_drewN | apply below_drew1) | exact HB.out))) : w.heap.size ≤ gb152)); have n3_ := Aside0.mk ((by rw [hg]; exact (below_size (by repeat (first | (with_reducible first | exact HB.out | apply below_alloc | apply pw_below_drewN | apply below_drew1) | exact HB.out))) : w.heap.size ≤ gb152)); clear HB; have HB := n0_; have BK152 := n1_; have GW152 := n2_; have GE152 := n3_; clear n0_ n1_ n2_ n3_; clear hb hbox hg; have hcz4_0 : w3.cell? ⟨gb152, 0, none⟩ = some (.string (⟨#[]⟩ : ByteArray)) := (blk_cell BK152.out 0).trans rfl; have hcz4_1 : w3.cell? ⟨gb152, 1, none⟩ = some (.string (⟨#[]⟩ : ByteArray)) := (blk_cell BK152.out 1).trans rfl; have hcz4_2 : w3.cell? ⟨gb152, 2, none⟩ = some (.int .i64 0) := (blk_cell BK152.out 2).trans rfl; have hcz4_3 : w3.cell? ⟨gb152, 3, none⟩ = some (.slice none 0 0) := (blk_cell BK152.out 3).trans rfl; have hfz4_0 := blk_frozen BK152.out 0; have hfz4_1 := blk_frozen BK152.out 1; have hfz4_2 := blk_frozen BK152.out 2; have hfz4_3 := blk_frozen BK152.out 3))
  refine bodyPost_ret (results_ct rfl _ _ gb152 35 #[.string (⟨#[]⟩ : ByteArray), .string (⟨#[]⟩ : ByteArray), .int .i64 0, .slice none 0 0] (0, 0) _ rfl (by (with_reducible repeat (first | refine blk_drewN ?_ _ | refine blk_drew ?_ | refine blk_alloc ?_ _)); refine blk_put (cs := #[.string (⟨#[]⟩ : ByteArray), .string (⟨#[]⟩ : ByteArray), .int .i64 0, .slice none 0 0]) ?_ 3 _ rfl; (with_reducible repeat (first | refine blk_drewN ?_ _ | refine blk_drew ?_ | refine blk_alloc ?_ _)); refine blk_put (cs := #[.string (⟨#[]⟩ : ByteArray), .string (⟨#[]⟩ : ByteArray), .int .i64 0, .slice none 0 0]) ?_ 2 _ rfl; (with_reducible repeat (first | refine blk_drewN ?_ _ | refine blk_drew ?_ | refine blk_alloc ?_ _)); refine blk_put (cs := #[.string (⟨#[]⟩ : ByteArray), .string (⟨#[]⟩ : ByteArray), .int .i64 0, .slice none 0 0]) ?_ 1 _ rfl; (with_reducible repeat (first | refine blk_drewN ?_ _ | refine blk_drew ?_ | refine blk_alloc ?_ _)); refine blk_put (cs := #[.string (⟨#[]⟩ : ByteArray), .string (⟨#[]⟩ : ByteArray), .int .i64 0, .slice none 0 0]) ?_ 0 _ rfl; (with_reducible repeat (first | refine blk_drewN ?_ _ | refine blk_drew ?_ | refine blk_alloc ?_ _)); exact BK152.out) Tryz.underlying35 rfl (by kernel_rfl)) rfl ?_
  exact ⟨_, by first | rfl | (simp [errW_none, errW_some] <;> rfl) | (simp [*, errW_none, errW_some] <;> rfl), by first | exact Kd.R_nil _ _ _ _ _ | exact Kd.N_nil _ _ _ _ _ | exact Kd.V_nil _ _ _ _ _ | exact Kd.Q_nil _ _ _ _ _ | exact Kd.S_nil _ _ _ _ _, by repeat (first | (with_reducible first | exact HB.out | apply below_alloc | apply pw_below_drewN | apply below_drew1 | refine below_set ?_ GE152.out) | exact HB.out)⟩
 ·rw [if_neg c2] at H
  have c2b0 : decide (4096 < (l0.length : Int)) = false := decide_eq_false c2
  have c2b1 : decide (4096 < l0.length) = false := decide_eq_false (by omega)
  clear c2
  replace H := Option.bind_eq_some_iff.mp H
  obtain ⟨⟨t153, t156⟩, A50, H⟩ := H
  replace H : (if t156 = true then (head_Parse.j0 k t153 ((t153.length : Int) == 0)) else (head_Parse.j0 k t153 true)) = some (r1, r2, r3, r4, r5) := H
  have A5 := Aside0.mk A50
  clear A50
  have HC6 := Aside0.mk H
  clear H
  go_enter Tryz.func57, Tryz.ntmps57
  go_upto_region 4 with (first | ((with_reducible refine gate_dst (N := 2) rfl ?_); (try (refine gate_guard (by rfl) ?_; dsimp only)); refine box_event ?hg (N := 2) ?hd (cs := #[.string (⟨#[]⟩ : ByteArray), .string (⟨#[]⟩ : ByteArray), .int .i64 0, .slice none 0 0]) (t := 35) ?hr ?_; (case hd => rfl); (case hg => rfl); (case hr => first | (go_simp; done) | (go_simp; rfl)); intro gb152 hg w7 hbox hb; have n0_ := Aside0.mk (below_step (by repeat (first | (with_reducible first | exact HB.out | apply below_alloc | apply pw_below_drewN | apply below_drew1) | exact HB.out)) hb); have n1_ := Aside0.mk (hbox); have n2_ := Aside0.mk ((by rw [hg]; exact (below_size (by repeat (first | (with_reducible first | exact HB.out | apply below_alloc | apply pw_below_drewN | apply below_drew1) | exact HB.out))) : w.heap.size ≤ gb152)); have n3_ := Aside0.mk ((by rw [hg]; exact (below_size (by repeat (first | (with_reducible first | exact HB.out | apply below_alloc | apply pw_below_drewN | apply below_drew1) | exact HB.out))) : w.heap.size ≤ gb152)); clear HB; have HB := n0_; have BK152 := n1_; have GW152 := n2_; have GE152 := n3_; clear n0_ n1_ n2_ n3_; clear hb hbox hg) | ((with_reducible refine gate_callee (f := 107) rfl ?_); refine goesL_ (some 21) rfl rfl Tryz.func107 (by kernel_rfl) rfl #[.slice A0 l0.length c0] rfl (by (try simp only [List.map_toArray, List.map_cons, List.map_nil]); first | done | rfl | (simp only [List.length_drop, List.length_take]; rfl)) ?_; (with_reducible refine (head_lines.calls k (fun k_ => k_ < w.heap.size) _ _ l0 t153 t156 _ ?side1 ?side2 A5.out).mono ?_); (case side1 => exact Kd.V_mk HC0.out (Kd.F_below (Kd.C_F (Kd.heap_int .u8) HR0.out) (by repeat (first | (with_reducible first | exact HB.out | apply below_alloc | apply pw_below_drewN | apply below_drew1 | refine below_set ?_ GE152.out) | exact HB.out)))); (case side2 => exact GG_step HGG.out (by decide) (by repeat (first | (with_reducible first | exact HB.out | apply below_alloc | apply pw_below_drewN | apply below_drew1 | refine below_set ?_ GE152.out) | exact HB.out))); rintro e w8 ⟨v154, rfl, ho0, hb⟩; refine ⟨_, rfl, ?_⟩; have n0_ := Aside0.mk (Kd.R_lower (Kd.R_mono (ok' := fun k_ => True) ho0 (fun _ hk_ => trivial)) (below_size (by repeat (first | (with_reducible first | exact HB.out | apply below_alloc | apply pw_below_drewN | apply below_drew1 | refine below_set ?_ GE152.out) | exact HB.out)))); have n1_ := Aside0.mk (blk_below (g := gb152) (o := .cells #[.string (⟨#[]⟩ : ByteArray), .string (⟨#[]⟩ : ByteArray), .int .i64 0, .slice none 0 0] 35 (0, 0)) (by (with_reducible repeat (first | refine blk_drewN ?_ _ | refine blk_drew ?_ | refine blk_alloc ?_ _)); exact BK152.out) hb); have n2_ := Aside0.mk (below_step (by repeat (first | (with_reducible first | exact HB.out | apply below_alloc | apply pw_below_drewN | apply below_drew1 | refine below_set ?_ GE152.out) | exact HB.out)) hb); clear BK152; clear HB; have HO155 := n0_; have BK152 := n1_; have HB := n2_; clear n0_ n1_ n2_; (try clear hb); (try clear hb2); (try clear hk); (try clear hi); (try clear ho0)))
  (try simp only [Act.put, List.setIfInBounds_toArray, List.set_cons_zero, List.set_cons_succ])
  go_cut [30] (fun v30 wc => ∃ (kq : Nat) (x30_5 : Bool), v30 = .bool x30_5 ∧ Aside0 (head_Parse.j0 kq t153 x30_5 = some (r1, r2, r3, r4, r5)) ∧ Aside0 (kq ≤ k) ∧ Aside0 (Kd.R Kd.string 9 wc w.heap.size (fun _ => True) v154 t153) ∧ Aside0 (wc.heap[gb152]? = some (.cells #[.string (⟨#[]⟩ : ByteArray), .string (⟨#[]⟩ : ByteArray), .int .i64 0, (.slice none 0 0)] 35 (0, 0))) ∧ Aside0 (Below w.heap.size w wc))
  case first => as_aux_lemma =>
   have H := HC6.out
   clear HC6
   by_cases c9 : t156 = true
   ·subst c9
    have H1 : (head_Parse.j0 k t153 ((t153.length : Int) == 0)) = some (r1, r2, r3, r4, r5) := by rw [if_pos rfl] at H; exact H
    clear H
    have H := H1
    clear H1
    have H' := Aside0.mk H
    clear H
    obtain ⟨Ao10, co10, eo10⟩ := Kd.R_slice HO155.out
    subst eo10
    go_wp2
    go_meet
    case rel => exact ⟨_, (((t153.length : Int) == 0)), (by first | rfl | (simp; done) | (simp [*]; done)), H', ⟨by first | omega | exact Nat.le_refl _⟩, ⟨by (with_reducible repeat (first | apply Kd.R_alloc | apply Kd.R_drewN | apply Kd.R_drew)); exact HO155.out⟩, ⟨by (with_reducible repeat (first | refine blk_drewN ?_ _ | refine blk_drew ?_ | refine blk_alloc ?_ _)); exact BK152.out⟩, ⟨by repeat (first | (with_reducible first | exact HB.out | apply below_alloc | apply pw_below_drewN | apply below_drew1 | refine below_set ?_ GE152.out) | exact HB.out)⟩⟩
   ·replace c9 := Bool.eq_false_iff.mpr c9
    subst c9
    have H1 : (head_Parse.j0 k t153 true) = some (r1, r2, r3, r4, r5) := by rw [if_neg (show ¬ (false = true) by decide)] at H; exact H
    clear H
    have H := H1
    clear H1
    have H' := Aside0.mk H
    clear H
    go_wp2
    go_meet
    case rel => exact ⟨_, (true), (by first | rfl | (simp; done) | (simp [*]; done)), H', ⟨by first | omega | exact Nat.le_refl _⟩, ⟨by (with_reducible repeat (first | apply Kd.R_alloc | apply Kd.R_drewN | apply Kd.R_drew)); exact HO155.out⟩, ⟨by (with_reducible repeat (first | refine blk_drewN ?_ _ | refine blk_drew ?_ | refine blk_alloc ?_ _)); exact BK152.out⟩, ⟨by repeat (first | (with_reducible first | exact HB.out | apply below_alloc | apply pw_below_drewN | apply below_drew1 | refine below_set ?_ GE152.out) | exact HB.out)⟩⟩
  case rest => as_aux_lemma =>
   clear HC6
   try clear c1
   try clear c2
   try clear c2b0
   try clear c2b1
   try clear p2
   try clear c5
   try clear c9
   try clear c10
   try clear hcz4_0
   try clear hcz4_1
   try clear hcz4_2
   try clear hcz4_3
   try clear hfz4_0
   try clear hfz4_1
   try clear hfz4_2
   try clear hfz4_3
   obtain ⟨kq, x30_5, rfl, HA, HJ5, HO_4, BK152, HB⟩ := hcut
   cases kq with
   | zero => exact absurd HA.out (by simp [head_Parse.j0])
   | succ kj5 =>
    have H := HA.out
    clear HA
    simp only [head_Parse.j0] at H
    by_cases c11 : x30_5 = true
    ·subst c11
     have H1 : (some ((⟨#[]⟩ : ByteArray), (⟨#[]⟩ : ByteArray), 0, ([] : List (S52)), 400)) = some (r1, r2, r3, r4, r5) := by rw [if_pos rfl] at H; exact H
     clear H
     have H := H1
     clear H1
     simp only [Option.some.injEq, Prod.mk.injEq] at H
     obtain ⟨rfl, rfl, rfl, rfl, rfl⟩ := H
     have hcz12_0 : wc.cell? ⟨gb152, 0, none⟩ = some (.string (⟨#[]⟩ : ByteArray)) := (blk_cell BK152.out 0).trans rfl
     have hcz12_1 : wc.cell? ⟨gb152, 1, none⟩ = some (.string (⟨#[]⟩ : ByteArray)) := (blk_cell BK152.out 1).trans rfl
     have hcz12_2 : wc.cell? ⟨gb152, 2, none⟩ = some (.int .i64 0) := (blk_cell BK152.out 2).trans rfl
     have hcz12_3 : wc.cell? ⟨gb152, 3, none⟩ = some (.slice none 0 0) := (blk_cell BK152.out 3).trans rfl
     have hfz12_0 := blk_frozen BK152.out 0
     have hfz12_1 := blk_frozen BK152.out 1
     have hfz12_2 := blk_frozen BK152.out 2
     have hfz12_3 := blk_frozen BK152.out 3
     go_wp2
     refine bodyPost_ret (results_ct rfl _ _ gb152 35 #[.string (⟨#[]⟩ : ByteArray), .string (⟨#[]⟩ : ByteArray), .int .i64 0, .slice none 0 0] (0, 0) _ rfl (by (with_reducible repeat (first | refine blk_drewN ?_ _ | refine blk_drew ?_ | refine blk_alloc ?_ _)); refine blk_put (cs := #[.string (⟨#[]⟩ : ByteArray), .string (⟨#[]⟩ : ByteArray), .int .i64 0, .slice none 0 0]) ?_ 3 _ rfl; (with_reducible repeat (first | refine blk_drewN ?_ _ | refine blk_drew ?_ | refine blk_alloc ?_ _)); refine blk_put (cs := #[.string (⟨#[]⟩ : ByteArray), .string (⟨#[]⟩ : ByteArray), .int .i64 0, .slice none 0 0]) ?_ 2 _ rfl; (with_reducible repeat (first | refine blk_drewN ?_ _ | refine blk_drew ?_ | refine blk_alloc ?_ _)); refine blk_put (cs := #[.string (⟨#[]⟩ : ByteArray), .string (⟨#[]⟩ : ByteArray), .int .i64 0, .slice none 0 0]) ?_ 1 _ rfl; (with_reducible repeat (first | refine blk_drewN ?_ _ | refine blk_drew ?_ | refine blk_alloc ?_ _)); refine blk_put (cs := #[.string (⟨#[]⟩ : ByteArray), .string (⟨#[]⟩ : ByteArray), .int .i64 0, .slice none 0 0]) ?_ 0 _ rfl; (with_reducible repeat (first | refine blk_drewN ?_ _ | refine blk_drew ?_ | refine blk_alloc ?_ _)); exact BK152.out) Tryz.underlying35 rfl (by kernel_rfl)) rfl ?_
     exact ⟨_, by first | rfl | (simp [errW_none, errW_some] <;> rfl) | (simp [*, errW_none, errW_some] <;> rfl), by first | exact Kd.R_nil _ _ _ _ _ | exact Kd.N_nil _ _ _ _ _ | exact Kd.V_nil _ _ _ _ _ | exact Kd.Q_nil _ _ _ _ _ | exact Kd.S_nil _ _ _ _ _, by repeat (first | (with_reducible first | exact HB.out | apply below_alloc | apply pw_below_drewN | apply below_drew1 | refine below_set ?_ GE152.out) | exact HB.out)⟩
    ·replace c11 := Bool.eq_false_iff.mpr c11
     subst c11
     have H1 : (if 0 < (t153.length : Int) then ((strings_Split.f (rdOf ByteArray.empty t153 0) (⟨#[32]⟩ : ByteArray)).bind fun t158 => (if (t158.length : Int) = 3 then (if 0 < (t158.length : Int) then (if (rdOf ByteArray.empty t158 0).toList = ([] : List UInt8) then (head_Parse.j1 kj5 t153 t158 true) else (if 1 < (t158.length : Int) then (if (rdOf ByteArray.empty t158 1).toList = ([] : List UInt8) then (head_Parse.j1 kj5 t153 t158 true) else (if 2 < (t158.length : Int) then (if (rdOf ByteArray.empty t158 2).toList = ([] : List UInt8) then (head_Parse.j1 kj5 t153 t158 true) else ((head_word.f (rdOf ByteArray.empty t158 0) 16).bind fun t165 => (head_Parse.j1 kj5 t153 t158 (!t165)))) else (none))) else (none))) else (none)) else (head_Parse.j1 kj5 t153 t158 true))) else (none)) = some (r1, r2, r3, r4, r5) := by rw [if_neg (show ¬ (false = true) by decide)] at H; exact H
     clear H
     have H := H1
     clear H1
     by_cases c13 : 0 < (t153.length : Int)
     ·rw [if_pos c13] at H
      have c13b0 : decide (0 < (t153.length : Int)) = true := decide_eq_true c13
      have c13b1 : decide (0 < t153.length) = true := decide_eq_true (by omega)
      clear c13
      replace H := Option.bind_eq_some_iff.mp H
      obtain ⟨t158, A140, H⟩ := H
      replace H : (if (t158.length : Int) = 3 then (if 0 < (t158.length : Int) then (if (rdOf ByteArray.empty t158 0).toList = ([] : List UInt8) then (head_Parse.j1 kj5 t153 t158 true) else (if 1 < (t158.length : Int) then (if (rdOf ByteArray.empty t158 1).toList = ([] : List UInt8) then (head_Parse.j1 kj5 t153 t158 true) else (if 2 < (t158.length : Int) then (if (rdOf ByteArray.empty t158 2).toList = ([] : List UInt8) then (head_Parse.j1 kj5 t153 t158 true) else ((head_word.f (rdOf ByteArray.empty t158 0) 16).bind fun t165 => (head_Parse.j1 kj5 t153 t158 (!t165)))) else (none))) else (none))) else (none)) else (head_Parse.j1 kj5 t153 t158 true)) = some (r1, r2, r3, r4, r5) := H
      have A14 := Aside0.mk A140
      clear A140
      have HC15 := Aside0.mk H
      clear H
      obtain ⟨Ao16, co16, eo16⟩ := Kd.R_slice HO_4.out
      subst eo16
      have p157 : 0 ≤ (0 : Int) := (by omega)
      have q157 : 0 < (t153.length : Int) := of_decide_eq_true (by first | (with_reducible assumption) | assumption)
      obtain ⟨ad157, e157, hx157_0⟩ := Kd.at_string (Kd.R_reads' HO_4.out).2.2 0 p157 q157
      cases e157
      have qi157 : (0 < t153.length) = True := eq_true (by omega)
      (try rw [show ((0 : Int)).toNat = 0 from rfl] at hx157_0)
      (try rw [Addr.add_zero'] at hx157_0)
      replace p157 := eq_true p157
      replace q157 := eq_true q157
      go_upto_region 7 with (first | ((with_reducible refine gate_callee (f := 108) rfl ?_); refine goesL_ (some 35) rfl rfl Tryz.func108 (by kernel_rfl) rfl #[.string (rdOf ByteArray.empty t153 0), .string (⟨#[32]⟩ : ByteArray)] rfl (by (try simp only [List.map_toArray, List.map_cons, List.map_nil]); first | done | rfl | (simp only [List.length_drop, List.length_take]; rfl)) ?_; (with_reducible refine (strings_Split.calls (rdOf ByteArray.empty t153 0) (⟨#[32]⟩ : ByteArray) t158 _ ?side1 A14.out).mono ?_); (case side1 => exact GG_step HGG.out (by decide) (by repeat (first | (with_reducible first | exact HB.out | apply below_alloc | apply pw_below_drewN | apply below_drew1 | refine below_set ?_ GE152.out) | exact HB.out))); rintro e w17 ⟨v159, rfl, ho0, hb⟩; refine ⟨_, rfl, ?_⟩; have n0_ := Aside0.mk (Kd.R_elder' (by (with_reducible repeat (first | apply Kd.R_alloc | apply Kd.R_drewN | apply Kd.R_drew)); exact HO_4.out) (Kd.R_base ho0) hb); have n1_ := Aside0.mk (Kd.R_lower (Kd.R_new' ho0 (Kd.R_lt (by (with_reducible repeat (first | apply Kd.R_alloc | apply Kd.R_drewN | apply Kd.R_drew)); exact HO_4.out))) (below_size (by repeat (first | (with_reducible first | exact HB.out | apply below_alloc | apply pw_below_drewN | apply below_drew1 | refine below_set ?_ GE152.out) | exact HB.out)))); have n2_ := Aside0.mk (blk_below (g := gb152) (o := .cells #[.string (⟨#[]⟩ : ByteArray), .string (⟨#[]⟩ : ByteArray), .int .i64 0, .slice none 0 0] 35 (0, 0)) (by (with_reducible repeat (first | refine blk_drewN ?_ _ | refine blk_drew ?_ | refine blk_alloc ?_ _)); exact BK152.out) hb); have n3_ := Aside0.mk (below_step (by repeat (first | (with_reducible first | exact HB.out | apply below_alloc | apply pw_below_drewN | apply below_drew1 | refine below_set ?_ GE152.out) | exact HB.out)) hb); clear HO_4; clear BK152; clear HB; have HO_4 := n0_; have HO160 := n1_; have BK152 := n2_; have HB := n3_; clear n0_ n1_ n2_ n3_; (try clear hb); (try clear hb2); (try clear hk); (try clear hi); (try clear ho0)))
      (try simp only [Act.put, List.setIfInBounds_toArray, List.set_cons_zero, List.set_cons_succ])
      go_cut [63] (fun v63 wc => ∃ (kq : Nat) (x63_14 : Bool), v63 = .bool x63_14 ∧ Aside0 (head_Parse.j1 kq t153 t158 x63_14 = some (r1, r2, r3, r4, r5)) ∧ Aside0 (kq ≤ kj5) ∧ Aside0 (Kd.R Kd.string 9 wc w.heap.size (fun k_ => some k_ ≠ (v159 : Value).ownBlock) (.slice (some ad157) t153.length co16) t153) ∧ Aside0 (Kd.R Kd.string 9 wc w.heap.size (fun k_ => some k_ ≠ ((.slice (some ad157) t153.length co16) : Value).ownBlock) v159 t158) ∧ Aside0 (wc.heap[gb152]? = some (.cells #[.string (⟨#[]⟩ : ByteArray), .string (⟨#[]⟩ : ByteArray), .int .i64 0, (.slice none 0 0)] 35 (0, 0))) ∧ Aside0 (Below w.heap.size w wc))
      case first => as_aux_lemma =>
       have H := HC15.out
       clear HC15
       by_cases c18 : (t158.length : Int) = 3
       ·rw [if_pos c18] at H
        have c18b0 : ((t158.length : Int) == 3) = true := beq_iff_eq.mpr c18
        have c18b1 : ((t158.length : Int) != 3) = false := bne_eq_false_iff_eq.mpr c18
        clear c18
        (first | rw [c18b0] | (simp only [i64_w, i32_w]; rw [c18b0]) | skip)
        by_cases c19 : 0 < (t158.length : Int)
        ·rw [if_pos c19] at H
         have c19b0 : decide (0 < (t158.length : Int)) = true := decide_eq_true c19
         have c19b1 : decide (0 < t158.length) = true := decide_eq_true (by omega)
         clear c19
         by_cases c20 : (rdOf ByteArray.empty t158 0).toList = ([] : List UInt8)
         ·rw [if_pos c20] at H
          have c20b0 : ((rdOf ByteArray.empty t158 0).toList == ([] : List UInt8)) = true := beq_iff_eq.mpr c20
          have c20b1 : ((rdOf ByteArray.empty t158 0).toList != ([] : List UInt8)) = false := bne_eq_false_iff_eq.mpr c20
          clear c20
          have H' := Aside0.mk H
          clear H
          obtain ⟨Ao21, co21, eo21⟩ := Kd.R_slice HO160.out
          subst eo21
          have p161 : 0 ≤ (0 : Int) := (by omega)
          have q161 : 0 < (t158.length : Int) := of_decide_eq_true (by first | (with_reducible assumption) | assumption)
          obtain ⟨ad161, e161, hx161_0⟩ := Kd.at_string (Kd.R_reads' HO160.out).2.2 0 p161 q161
          cases e161
          have qi161 : (0 < t158.length) = True := eq_true (by omega)
          (try rw [show ((0 : Int)).toNat = 0 from rfl] at hx161_0)
          (try rw [Addr.add_zero'] at hx161_0)
          replace p161 := eq_true p161
          replace q161 := eq_true q161
          go_wp2
          go_meet
          case rel => exact ⟨_, (true), (by first | rfl | (simp; done) | (simp [*]; done)), H', ⟨by have := HJ5.out; first | omega | exact Nat.le_refl _⟩, ⟨by (with_reducible repeat (first | apply Kd.R_alloc | apply Kd.R_drewN | apply Kd.R_drew)); exact Kd.R_mono HO_4.out (fun _ hk => hk.2)⟩, ⟨by (with_reducible repeat (first | apply Kd.R_alloc | apply Kd.R_drewN | apply Kd.R_drew)); exact Kd.R_mono HO160.out (fun _ hk => hk.2)⟩, ⟨by (with_reducible repeat (first | refine blk_drewN ?_ _ | refine blk_drew ?_ | refine blk_alloc ?_ _)); exact BK152.out⟩, ⟨by repeat (first | (with_reducible first | exact HB.out | apply below_alloc | apply pw_below_drewN | apply below_drew1 | refine below_set ?_ GE152.out) | exact HB.out)⟩⟩
         ·rw [if_neg c20] at H
          have c20b0 : ((rdOf ByteArray.empty t158 0).toList == ([] : List UInt8)) = false := beq_eq_false_iff_ne.mpr c20
          have c20b1 : ((rdOf ByteArray.empty t158 0).toList != ([] : List UInt8)) = true := bne_iff_ne.mpr c20
          by_cases c22 : 1 < (t158.length : Int)
          ·rw [if_pos c22] at H
           have c22b0 : decide (1 < (t158.length : Int)) = true := decide_eq_true c22
           have c22b1 : decide (1 < t158.length) = true := decide_eq_true (by omega)
           clear c22
           by_cases c23 : (rdOf ByteArray.empty t158 1).toList = ([] : List UInt8)
           ·rw [if_pos c23] at H
            have c23b0 : ((rdOf ByteArray.empty t158 1).toList == ([] : List UInt8)) = true := beq_iff_eq.mpr c23
            have c23b1 : ((rdOf ByteArray.empty t158 1).toList != ([] : List UInt8)) = false := bne_eq_false_iff_eq.mpr c23
            clear c23
            have H' := Aside0.mk H
            clear H
            obtain ⟨Ao24, co24, eo24⟩ := Kd.R_slice HO160.out
            subst eo24
            have p161 : 0 ≤ (0 : Int) := (by omega)
            have q161 : 0 < (t158.length : Int) := of_decide_eq_true (by first | (with_reducible assumption) | assumption)
            obtain ⟨ad161, e161, hx161_0⟩ := Kd.at_string (Kd.R_reads' HO160.out).2.2 0 p161 q161
            cases e161
            have qi161 : (0 < t158.length) = True := eq_true (by omega)
            (try rw [show ((0 : Int)).toNat = 0 from rfl] at hx161_0)
            (try rw [Addr.add_zero'] at hx161_0)
            replace p161 := eq_true p161
            replace q161 := eq_true q161
            have p162 : 0 ≤ (1 : Int) := (by omega)
            have q162 : 1 < (t158.length : Int) := of_decide_eq_true (by first | (with_reducible assumption) | assumption)
            obtain ⟨ad162, e162, hx162_0⟩ := Kd.at_string (Kd.R_reads' HO160.out).2.2 1 p162 q162
            obtain rfl : ad161 = ad162 := (by injection e162)
            (try simp only [show (1 : Int).toNat = 1 from rfl, Nat.reduceMul, Nat.reduceEqDiff, Go.Addr.add, ↓reduceIte] at hx162_0)
            have qi162 : (1 < t158.length) = True := eq_true (by omega)
            (try rw [show ((1 : Int)).toNat = 1 from rfl] at hx162_0)
            replace p162 := eq_true p162
            replace q162 := eq_true q162
            go_wp2
            go_meet
            case rel => exact ⟨_, (true), (by first | rfl | (simp; done) | (simp [*]; done)), H', ⟨by have := HJ5.out; first | omega | exact Nat.le_refl _⟩, ⟨by (with_reducible repeat (first | apply Kd.R_alloc | apply Kd.R_drewN | apply Kd.R_drew)); exact Kd.R_mono HO_4.out (fun _ hk => hk.2)⟩, ⟨by (with_reducible repeat (first | apply Kd.R_alloc | apply Kd.R_drewN | apply Kd.R_drew)); exact Kd.R_mono HO160.out (fun _ hk => hk.2)⟩, ⟨by (with_reducible repeat (first | refine blk_drewN ?_ _ | refine blk_drew ?_ | refine blk_alloc ?_ _)); exact BK152.out⟩, ⟨by repeat (first | (with_reducible first | exact HB.out | apply below_alloc | apply pw_below_drewN | apply below_drew1 | refine below_set ?_ GE152.out) | exact HB.out)⟩⟩
           ·rw [if_neg c23] at H
            have c23b0 : ((rdOf ByteArray.empty t158 1).toList == ([] : List UInt8)) = false := beq_eq_false_iff_ne.mpr c23
            have c23b1 : ((rdOf ByteArray.empty t158 1).toList != ([] : List UInt8)) = true := bne_iff_ne.mpr c23
            by_cases c25 : 2 < (t158.length : Int)
            ·rw [if_pos c25] at H
             have c25b0 : decide (2 < (t158.length : Int)) = true := decide_eq_true c25
             have c25b1 : decide (2 < t158.length) = true := decide_eq_true (by omega)
             clear c25
             by_cases c26 : (rdOf ByteArray.empty t158 2).toList = ([] : List UInt8)
             ·rw [if_pos c26] at H
              have c26b0 : ((rdOf ByteArray.empty t158 2).toList == ([] : List UInt8)) = true := beq_iff_eq.mpr c26
              have c26b1 : ((rdOf ByteArray.empty t158 2).toList != ([] : List UInt8)) = false := bne_eq_false_iff_eq.mpr c26
              clear c26
              have H' := Aside0.mk H
              clear H
              obtain ⟨Ao27, co27, eo27⟩ := Kd.R_slice HO160.out
              subst eo27
              have p161 : 0 ≤ (0 : Int) := (by omega)
              have q161 : 0 < (t158.length : Int) := of_decide_eq_true (by first | (with_reducible assumption) | assumption)
              obtain ⟨ad161, e161, hx161_0⟩ := Kd.at_string (Kd.R_reads' HO160.out).2.2 0 p161 q161
              cases e161
              have qi161 : (0 < t158.length) = True := eq_true (by omega)
              (try rw [show ((0 : Int)).toNat = 0 from rfl] at hx161_0)
              (try rw [Addr.add_zero'] at hx161_0)
              replace p161 := eq_true p161
              replace q161 := eq_true q161
              have p162 : 0 ≤ (1 : Int) := (by omega)
              have q162 : 1 < (t158.length : Int) := of_decide_eq_true (by first | (with_reducible assumption) | assumption)
              obtain ⟨ad162, e162, hx162_0⟩ := Kd.at_string (Kd.R_reads' HO160.out).2.2 1 p162 q162
              obtain rfl : ad161 = ad162 := (by injection e162)
              (try simp only [show (1 : Int).toNat = 1 from rfl, Nat.reduceMul, Nat.reduceEqDiff, Go.Addr.add, ↓reduceIte] at hx162_0)
              have qi162 : (1 < t158.length) = True := eq_true (by omega)
              (try rw [show ((1 : Int)).toNat = 1 from rfl] at hx162_0)
              replace p162 := eq_true p162
              replace q162 := eq_true q162
              have p163 : 0 ≤ (2 : Int) := (by omega)
              have q163 : 2 < (t158.length : Int) := of_decide_eq_true (by first | (with_reducible assumption) | assumption)
              obtain ⟨ad163, e163, hx163_0⟩ := Kd.at_string (Kd.R_reads' HO160.out).2.2 2 p163 q163
              obtain rfl : ad161 = ad163 := (by injection e163)
              (try simp only [show (2 : Int).toNat = 2 from rfl, Nat.reduceMul, Nat.reduceEqDiff, Go.Addr.add, ↓reduceIte] at hx163_0)
              have qi163 : (2 < t158.length) = True := eq_true (by omega)
              (try rw [show ((2 : Int)).toNat = 2 from rfl] at hx163_0)
              replace p163 := eq_true p163
              replace q163 := eq_true q163
              go_wp2
              go_meet
              case rel => exact ⟨_, (true), (by first | rfl | (simp; done) | (simp [*]; done)), H', ⟨by have := HJ5.out; first | omega | exact Nat.le_refl _⟩, ⟨by (with_reducible repeat (first | apply Kd.R_alloc | apply Kd.R_drewN | apply Kd.R_drew)); exact Kd.R_mono HO_4.out (fun _ hk => hk.2)⟩, ⟨by (with_reducible repeat (first | apply Kd.R_alloc | apply Kd.R_drewN | apply Kd.R_drew)); exact Kd.R_mono HO160.out (fun _ hk => hk.2)⟩, ⟨by (with_reducible repeat (first | refine blk_drewN ?_ _ | refine blk_drew ?_ | refine blk_alloc ?_ _)); exact BK152.out⟩, ⟨by repeat (first | (with_reducible first | exact HB.out | apply below_alloc | apply pw_below_drewN | apply below_drew1 | refine below_set ?_ GE152.out) | exact HB.out)⟩⟩
             ·rw [if_neg c26] at H
              have c26b0 : ((rdOf ByteArray.empty t158 2).toList == ([] : List UInt8)) = false := beq_eq_false_iff_ne.mpr c26
              have c26b1 : ((rdOf ByteArray.empty t158 2).toList != ([] : List UInt8)) = true := bne_iff_ne.mpr c26
              replace H := Option.bind_eq_some_iff.mp H
              obtain ⟨t165, A280, H⟩ := H
              replace H : (head_Parse.j1 kj5 t153 t158 (!t165)) = some (r1, r2, r3, r4, r5) := H
              have A28 := Aside0.mk A280
              clear A280
              have H' := Aside0.mk H
              clear H
              obtain ⟨Ao29, co29, eo29⟩ := Kd.R_slice HO160.out
              subst eo29
              have p161 : 0 ≤ (0 : Int) := (by omega)
              have q161 : 0 < (t158.length : Int) := of_decide_eq_true (by first | (with_reducible assumption) | assumption)
              obtain ⟨ad161, e161, hx161_0⟩ := Kd.at_string (Kd.R_reads' HO160.out).2.2 0 p161 q161
              cases e161
              have qi161 : (0 < t158.length) = True := eq_true (by omega)
              (try rw [show ((0 : Int)).toNat = 0 from rfl] at hx161_0)
              (try rw [Addr.add_zero'] at hx161_0)
              replace p161 := eq_true p161
              replace q161 := eq_true q161
              have p162 : 0 ≤ (1 : Int) := (by omega)
              have q162 : 1 < (t158.length : Int) := of_decide_eq_true (by first | (with_reducible assumption) | assumption)
              obtain ⟨ad162, e162, hx162_0⟩ := Kd.at_string (Kd.R_reads' HO160.out).2.2 1 p162 q162
              obtain rfl : ad161 = ad162 := (by injection e162)
              (try simp only [show (1 : Int).toNat = 1 from rfl, Nat.reduceMul, Nat.reduceEqDiff, Go.Addr.add, ↓reduceIte] at hx162_0)
              have qi162 : (1 < t158.length) = True := eq_true (by omega)
              (try rw [show ((1 : Int)).toNat = 1 from rfl] at hx162_0)
              replace p162 := eq_true p162
              replace q162 := eq_true q162
              have p163 : 0 ≤ (2 : Int) := (by omega)
              have q163 : 2 < (t158.length : Int) := of_decide_eq_true (by first | (with_reducible assumption) | assumption)
              obtain ⟨ad163, e163, hx163_0⟩ := Kd.at_string (Kd.R_reads' HO160.out).2.2 2 p163 q163
              obtain rfl : ad161 = ad163 := (by injection e163)
              (try simp only [show (2 : Int).toNat = 2 from rfl, Nat.reduceMul, Nat.reduceEqDiff, Go.Addr.add, ↓reduceIte] at hx163_0)
              have qi163 : (2 < t158.length) = True := eq_true (by omega)
              (try rw [show ((2 : Int)).toNat = 2 from rfl] at hx163_0)
              replace p163 := eq_true p163
              replace q163 := eq_true q163
              have p164 : 0 ≤ (0 : Int) := (by omega)
              have q164 : 0 < (t158.length : Int) := of_decide_eq_true (by first | (with_reducible assumption) | assumption)
              obtain ⟨ad164, e164, hx164_0⟩ := Kd.at_string (Kd.R_reads' HO160.out).2.2 0 p164 q164
              obtain rfl : ad161 = ad164 := (by injection e164)
              have qi164 : (0 < t158.length) = True := eq_true (by omega)
              (try rw [show ((0 : Int)).toNat = 0 from rfl] at hx164_0)
              (try rw [Addr.add_zero'] at hx164_0)
              replace p164 := eq_true p164
              replace q164 := eq_true q164
              go_wp2_with (first | (go_at_call 109; (with_reducible refine (head_word.calls (rdOf ByteArray.empty t158 0) 16 t165 _ A28.out).mono ?_); rintro e w30 ⟨rfl, hb⟩; have n0_ := Aside0.mk (Kd.R_below (by (with_reducible repeat (first | apply Kd.R_alloc | apply Kd.R_drewN | apply Kd.R_drew)); exact HO_4.out) hb); have n1_ := Aside0.mk (Kd.R_below (by (with_reducible repeat (first | apply Kd.R_alloc | apply Kd.R_drewN | apply Kd.R_drew)); exact HO160.out) hb); have n2_ := Aside0.mk (blk_below (g := gb152) (o := .cells #[.string (⟨#[]⟩ : ByteArray), .string (⟨#[]⟩ : ByteArray), .int .i64 0, .slice none 0 0] 35 (0, 0)) (by (with_reducible repeat (first | refine blk_drewN ?_ _ | refine blk_drew ?_ | refine blk_alloc ?_ _)); exact BK152.out) hb); have n3_ := Aside0.mk (below_step (by repeat (first | (with_reducible first | exact HB.out | apply below_alloc | apply pw_below_drewN | apply below_drew1 | refine below_set ?_ GE152.out) | exact HB.out)) hb); clear HO_4; clear HO160; clear BK152; clear HB; have HO_4 := n0_; have HO160 := n1_; have BK152 := n2_; have HB := n3_; clear n0_ n1_ n2_ n3_; (try clear hb); (try clear hb2); (try clear hk); (try clear hi)))
              go_meet
              case rel => exact ⟨_, (!t165), (by first | rfl | (simp; done) | (simp [*]; done)), H', ⟨by have := HJ5.out; first | omega | exact Nat.le_refl _⟩, ⟨by (with_reducible repeat (first | apply Kd.R_alloc | apply Kd.R_drewN | apply Kd.R_drew)); exact Kd.R_mono HO_4.out (fun _ hk => hk.2)⟩, ⟨by (with_reducible repeat (first | apply Kd.R_alloc | apply Kd.R_drewN | apply Kd.R_drew)); exact Kd.R_mono HO160.out (fun _ hk => hk.2)⟩, ⟨by (with_reducible repeat (first | refine blk_drewN ?_ _ | refine blk_drew ?_ | refine blk_alloc ?_ _)); exact BK152.out⟩, ⟨by repeat (first | (with_reducible first | exact HB.out | apply below_alloc | apply pw_below_drewN | apply below_drew1 | refine below_set ?_ GE152.out) | exact HB.out)⟩⟩
            ·rw [if_neg c25] at H
             exact absurd H (by simp)
          ·rw [if_neg c22] at H
           exact absurd H (by simp)
        ·rw [if_neg c19] at H
         exact absurd H (by simp)
       ·rw [if_neg c18] at H
        have c18b0 : ((t158.length : Int) == 3) = false := beq_eq_false_iff_ne.mpr c18
        have c18b1 : ((t158.length : Int) != 3) = true := bne_iff_ne.mpr c18
        (first | rw [c18b0] | (simp only [i64_w, i32_w]; rw [c18b0]) | skip)
        have H' := Aside0.mk H
        clear H
        obtain ⟨Ao31, co31, eo31⟩ := Kd.R_slice HO160.out
        subst eo31
        go_wp2
        go_meet
        case rel => exact ⟨_, (true), (by first | rfl | (simp; done) | (simp [*]; done)), H', ⟨by have := HJ5.out; first | omega | exact Nat.le_refl _⟩, ⟨by (with_reducible repeat (first | apply Kd.R_alloc | apply Kd.R_drewN | apply Kd.R_drew)); exact Kd.R_mono HO_4.out (fun _ hk => hk.2)⟩, ⟨by (with_reducible repeat (first | apply Kd.R_alloc | apply Kd.R_drewN | apply Kd.R_drew)); exact Kd.R_mono HO160.out (fun _ hk => hk.2)⟩, ⟨by (with_reducible repeat (first | refine blk_drewN ?_ _ | refine blk_drew ?_ | refine blk_alloc ?_ _)); exact BK152.out⟩, ⟨by repeat (first | (with_reducible first | exact HB.out | apply below_alloc | apply pw_below_drewN | apply below_drew1 | refine below_set ?_ GE152.out) | exact HB.out)⟩⟩
      case rest => as_aux_lemma =>
       clear HC15
       try clear c1
       try clear p1
       try clear q1
       try clear hx1
       try clear qi1
       try clear c2
       try clear c2b0
       try clear c2b1
       try clear p2
       try clear c5
       try clear c9
       try clear c10
       try clear c11
       try clear c13
       try clear c13b0
       try clear c13b1
       try clear p15
       try clear q15
       try clear hx15
       try clear qi15
       try clear p16
       try clear q16
       try clear hx16
       try clear qi16
       try clear c18
       try clear c18b0
       try clear c18b1
       try clear c19
       try clear c19b0
       try clear c19b1
       try clear c20
       try clear c20b0
       try clear c20b1
       try clear c22
       try clear c22b0
       try clear c22b1
       try clear c23
       try clear c23b0
       try clear c23b1
       try clear c25
       try clear c25b0
       try clear c25b1
       try clear c26
       try clear c26b0
       try clear c26b1
       try clear hcz12_0
       try clear hcz12_1
       try clear hcz12_2
       try clear hcz12_3
       try clear hcz4_0
       try clear hcz4_1
       try clear hcz4_2
       try clear hcz4_3
       try clear hfz12_0
       try clear hfz12_1
       try clear hfz12_2
       try clear hfz12_3
       try clear hfz4_0
       try clear hfz4_1
       try clear hfz4_2
       try clear hfz4_3
       try clear hx157_0
       try clear hx161_0
       try clear hx162_0
       try clear hx163_0
       try clear hx164_0
       try clear p157
       try clear p161
       try clear p162
       try clear p163
       try clear p164
       try clear p2
       try clear q157
       try clear q161
       try clear q162
       try clear q163
       try clear q164
       obtain ⟨kq, x63_14, rfl, HA, HJ14, HO_4, HO_6, BK152, HB⟩ := hcut
       cases kq with
       | zero => exact absurd HA.out (by simp [head_Parse.j1])
       | succ kj14 =>
        have H := HA.out
        clear HA
        simp only [head_Parse.j1] at H
        by_cases c32 : x63_14 = true
        ·subst c32
         have H1 : (some ((⟨#[]⟩ : ByteArray), (⟨#[]⟩ : ByteArray), 0, ([] : List (S52)), 400)) = some (r1, r2, r3, r4, r5) := by rw [if_pos rfl] at H; exact H
         clear H
         have H := H1
         clear H1
         simp only [Option.some.injEq, Prod.mk.injEq] at H
         obtain ⟨rfl, rfl, rfl, rfl, rfl⟩ := H
         have hcz33_0 : wc.cell? ⟨gb152, 0, none⟩ = some (.string (⟨#[]⟩ : ByteArray)) := (blk_cell BK152.out 0).trans rfl
         have hcz33_1 : wc.cell? ⟨gb152, 1, none⟩ = some (.string (⟨#[]⟩ : ByteArray)) := (blk_cell BK152.out 1).trans rfl
         have hcz33_2 : wc.cell? ⟨gb152, 2, none⟩ = some (.int .i64 0) := (blk_cell BK152.out 2).trans rfl
         have hcz33_3 : wc.cell? ⟨gb152, 3, none⟩ = some (.slice none 0 0) := (blk_cell BK152.out 3).trans rfl
         have hfz33_0 := blk_frozen BK152.out 0
         have hfz33_1 := blk_frozen BK152.out 1
         have hfz33_2 := blk_frozen BK152.out 2
         have hfz33_3 := blk_frozen BK152.out 3
         go_wp2
         refine bodyPost_ret (results_ct rfl _ _ gb152 35 #[.string (⟨#[]⟩ : ByteArray), .string (⟨#[]⟩ : ByteArray), .int .i64 0, .slice none 0 0] (0, 0) _ rfl (by (with_reducible repeat (first | refine blk_drewN ?_ _ | refine blk_drew ?_ | refine blk_alloc ?_ _)); refine blk_put (cs := #[.string (⟨#[]⟩ : ByteArray), .string (⟨#[]⟩ : ByteArray), .int .i64 0, .slice none 0 0]) ?_ 3 _ rfl; (with_reducible repeat (first | refine blk_drewN ?_ _ | refine blk_drew ?_ | refine blk_alloc ?_ _)); refine blk_put (cs := #[.string (⟨#[]⟩ : ByteArray), .string (⟨#[]⟩ : ByteArray), .int .i64 0, .slice none 0 0]) ?_ 2 _ rfl; (with_reducible repeat (first | refine blk_drewN ?_ _ | refine blk_drew ?_ | refine blk_alloc ?_ _)); refine blk_put (cs := #[.string (⟨#[]⟩ : ByteArray), .string (⟨#[]⟩ : ByteArray), .int .i64 0, .slice none 0 0]) ?_ 1 _ rfl; (with_reducible repeat (first | refine blk_drewN ?_ _ | refine blk_drew ?_ | refine blk_alloc ?_ _)); refine blk_put (cs := #[.string (⟨#[]⟩ : ByteArray), .string (⟨#[]⟩ : ByteArray), .int .i64 0, .slice none 0 0]) ?_ 0 _ rfl; (with_reducible repeat (first | refine blk_drewN ?_ _ | refine blk_drew ?_ | refine blk_alloc ?_ _)); exact BK152.out) Tryz.underlying35 rfl (by kernel_rfl)) rfl ?_
         exact ⟨_, by first | rfl | (simp [errW_none, errW_some] <;> rfl) | (simp [*, errW_none, errW_some] <;> rfl), by first | exact Kd.R_nil _ _ _ _ _ | exact Kd.N_nil _ _ _ _ _ | exact Kd.V_nil _ _ _ _ _ | exact Kd.Q_nil _ _ _ _ _ | exact Kd.S_nil _ _ _ _ _, by repeat (first | (with_reducible first | exact HB.out | apply below_alloc | apply pw_below_drewN | apply below_drew1 | refine below_set ?_ GE152.out) | exact HB.out)⟩
        ·replace c32 := Bool.eq_false_iff.mpr c32
         subst c32
         have H1 : (if 2 < (t158.length : Int) then ((head_version.f (rdOf ByteArray.empty t158 2)).bind fun bt167 => (if bt167.2.2 = true then (if bt167.1 = 1 then (head_Parse.j2 kj14 t153 t158 bt167.2.1 (decide (bt167.2.1 > 1))) else (head_Parse.j2 kj14 t153 t158 bt167.2.1 true)) else (some ((⟨#[]⟩ : ByteArray), (⟨#[]⟩ : ByteArray), 0, ([] : List (S52)), 400)))) else (none)) = some (r1, r2, r3, r4, r5) := by rw [if_neg (show ¬ (false = true) by decide)] at H; exact H
         clear H
         have H := H1
         clear H1
         by_cases c34 : 2 < (t158.length : Int)
         ·rw [if_pos c34] at H
          have c34b0 : decide (2 < (t158.length : Int)) = true := decide_eq_true c34
          have c34b1 : decide (2 < t158.length) = true := decide_eq_true (by omega)
          clear c34
          replace H := Option.bind_eq_some_iff.mp H
          obtain ⟨⟨t167, t168, t169⟩, A350, H⟩ := H
          replace H : (if t169 = true then (if t167 = 1 then (head_Parse.j2 kj14 t153 t158 t168 (decide (t168 > 1))) else (head_Parse.j2 kj14 t153 t158 t168 true)) else (some ((⟨#[]⟩ : ByteArray), (⟨#[]⟩ : ByteArray), 0, ([] : List (S52)), 400))) = some (r1, r2, r3, r4, r5) := H
          have A35 := Aside0.mk A350
          clear A350
          by_cases c36 : t169 = true
          ·subst c36
           have H1 : (if t167 = 1 then (head_Parse.j2 kj14 t153 t158 t168 (decide (t168 > 1))) else (head_Parse.j2 kj14 t153 t158 t168 true)) = some (r1, r2, r3, r4, r5) := by rw [if_pos rfl] at H; exact H
           clear H
           have H := H1
           clear H1
           have HC37 := Aside0.mk H
           clear H
           obtain ⟨Ao38, co38, eo38⟩ := Kd.R_slice HO_6.out
           subst eo38
           have p166 : 0 ≤ (2 : Int) := (by omega)
           have q166 : 2 < (t158.length : Int) := of_decide_eq_true (by first | (with_reducible assumption) | assumption)
           obtain ⟨ad166, e166, hx166_0⟩ := Kd.at_string (Kd.R_reads' HO_6.out).2.2 2 p166 q166
           cases e166
           (try simp only [show (2 : Int).toNat = 2 from rfl, Nat.reduceMul, Nat.reduceEqDiff, Go.Addr.add, ↓reduceIte] at hx166_0)
           have qi166 : (2 < t158.length) = True := eq_true (by omega)
           (try rw [show ((2 : Int)).toNat = 2 from rfl] at hx166_0)
           replace p166 := eq_true p166
           replace q166 := eq_true q166
           go_upto_region 12 with (first | ((with_reducible refine gate_callee (f := 110) rfl ?_); refine goesL_ (some 69) rfl rfl Tryz.func110 (by kernel_rfl) rfl #[.string (rdOf ByteArray.empty t158 2)] rfl (by (try simp only [List.map_toArray, List.map_cons, List.map_nil]); first | done | rfl | (simp only [List.length_drop, List.length_take]; rfl)) ?_; (with_reducible refine (head_version.calls (rdOf ByteArray.empty t158 2) t167 t168 true _ A35.out).mono ?_); rintro e w' ⟨rfl, ⟨nd, rfl⟩⟩; refine ⟨_, rfl, ?_⟩))
           (try simp only [Act.put, List.setIfInBounds_toArray, List.set_cons_zero, List.set_cons_succ])
           go_cut [77] (fun v77 wc => ∃ (kq : Nat) (x77_36 : Bool), v77 = .bool x77_36 ∧ Aside0 (head_Parse.j2 kq t153 t158 t168 x77_36 = some (r1, r2, r3, r4, r5)) ∧ Aside0 (kq ≤ kj14) ∧ Aside0 (Kd.R Kd.string 9 wc w.heap.size (fun k_ => some k_ ≠ ((.slice (some ad166) t158.length co38) : Value).ownBlock) (.slice (some ad157) t153.length co16) t153) ∧ Aside0 (Kd.R Kd.string 9 wc w.heap.size (fun k_ => some k_ ≠ ((.slice (some ad157) t153.length co16) : Value).ownBlock) (.slice (some ad166) t158.length co38) t158) ∧ Aside0 (wc.heap[gb152]? = some (.cells #[.string (⟨#[]⟩ : ByteArray), .string (⟨#[]⟩ : ByteArray), .int .i64 0, (.slice none 0 0)] 35 (0, 0))) ∧ Aside0 (Below w.heap.size w wc))
           case first => as_aux_lemma =>
            have H := HC37.out
            clear HC37
            by_cases c39 : t167 = 1
            ·rw [if_pos c39] at H
             have c39b0 : (t167 == 1) = true := beq_iff_eq.mpr c39
             have c39b1 : (t167 != 1) = false := bne_eq_false_iff_eq.mpr c39
             clear c39
             (first | rw [c39b0] | (simp only [i64_w, i32_w]; rw [c39b0]) | skip)
             have H' := Aside0.mk H
             clear H
             go_wp2
             go_meet
             case rel => exact ⟨_, (decide (t168 > 1)), (by first | rfl | (simp; done) | (simp [*]; done)), H', ⟨by have := HJ5.out; have := HJ14.out; first | omega | exact Nat.le_refl _⟩, ⟨by (with_reducible repeat (first | apply Kd.R_alloc | apply Kd.R_drewN | apply Kd.R_drew)); exact HO_4.out⟩, ⟨by (with_reducible repeat (first | apply Kd.R_alloc | apply Kd.R_drewN | apply Kd.R_drew)); exact HO_6.out⟩, ⟨by (with_reducible repeat (first | refine blk_drewN ?_ _ | refine blk_drew ?_ | refine blk_alloc ?_ _)); exact BK152.out⟩, ⟨by repeat (first | (with_reducible first | exact HB.out | apply below_alloc | apply pw_below_drewN | apply below_drew1 | refine below_set ?_ GE152.out) | exact HB.out)⟩⟩
            ·rw [if_neg c39] at H
             have c39b0 : (t167 == 1) = false := beq_eq_false_iff_ne.mpr c39
             have c39b1 : (t167 != 1) = true := bne_iff_ne.mpr c39
             (first | rw [c39b0] | (simp only [i64_w, i32_w]; rw [c39b0]) | skip)
             have H' := Aside0.mk H
             clear H
             go_wp2
             go_meet
             case rel => exact ⟨_, (true), (by first | rfl | (simp; done) | (simp [*]; done)), H', ⟨by have := HJ5.out; have := HJ14.out; first | omega | exact Nat.le_refl _⟩, ⟨by (with_reducible repeat (first | apply Kd.R_alloc | apply Kd.R_drewN | apply Kd.R_drew)); exact HO_4.out⟩, ⟨by (with_reducible repeat (first | apply Kd.R_alloc | apply Kd.R_drewN | apply Kd.R_drew)); exact HO_6.out⟩, ⟨by (with_reducible repeat (first | refine blk_drewN ?_ _ | refine blk_drew ?_ | refine blk_alloc ?_ _)); exact BK152.out⟩, ⟨by repeat (first | (with_reducible first | exact HB.out | apply below_alloc | apply pw_below_drewN | apply below_drew1 | refine below_set ?_ GE152.out) | exact HB.out)⟩⟩
           case rest => as_aux_lemma =>
            clear HC37
            try clear c1
            try clear p1
            try clear q1
            try clear hx1
            try clear qi1
            try clear c2
            try clear c2b0
            try clear c2b1
            try clear p2
            try clear c3
            try clear c5
            try clear c9
            try clear c10
            try clear c11
            try clear c13
            try clear c13b0
            try clear c13b1
            try clear p15
            try clear q15
            try clear hx15
            try clear qi15
            try clear p16
            try clear q16
            try clear hx16
            try clear qi16
            try clear c18
            try clear c18b0
            try clear c18b1
            try clear c19
            try clear c19b0
            try clear c19b1
            try clear c20
            try clear c20b0
            try clear c20b1
            try clear c22
            try clear c22b0
            try clear c22b1
            try clear c23
            try clear c23b0
            try clear c23b1
            try clear c25
            try clear c25b0
            try clear c25b1
            try clear c26
            try clear c26b0
            try clear c26b1
            try clear c32
            try clear c34
            try clear c34b0
            try clear c34b1
            try clear c36
            try clear c39
            try clear c39b0
            try clear c39b1
            try clear hcz12_0
            try clear hcz12_1
            try clear hcz12_2
            try clear hcz12_3
            try clear hcz33_0
            try clear hcz33_1
            try clear hcz33_2
            try clear hcz33_3
            try clear hcz4_0
            try clear hcz4_1
            try clear hcz4_2
            try clear hcz4_3
            try clear hfz12_0
            try clear hfz12_1
            try clear hfz12_2
            try clear hfz12_3
            try clear hfz33_0
            try clear hfz33_1
            try clear hfz33_2
            try clear hfz33_3
            try clear hfz4_0
            try clear hfz4_1
            try clear hfz4_2
            try clear hfz4_3
            try clear hx157_0
            try clear hx161_0
            try clear hx162_0
            try clear hx163_0
            try clear hx164_0
            try clear hx166_0
            try clear p1
            try clear p15
            try clear p157
            try clear p16
            try clear p161
            try clear p162
            try clear p163
            try clear p164
            try clear p166
            try clear p2
            try clear q1
            try clear q15
            try clear q157
            try clear q16
            try clear q161
            try clear q162
            try clear q163
            try clear q164
            try clear q166
            obtain ⟨kq, x77_36, rfl, HA, HJ36, HO_4, HO_6, BK152, HB⟩ := hcut
            cases kq with
            | zero => exact absurd HA.out (by simp [head_Parse.j2])
            | succ kj36 =>
             have H := HA.out
             clear HA
             simp only [head_Parse.j2] at H
             by_cases c40 : x77_36 = true
             ·subst c40
              have H1 : (some ((⟨#[]⟩ : ByteArray), (⟨#[]⟩ : ByteArray), 0, ([] : List (S52)), 505)) = some (r1, r2, r3, r4, r5) := by rw [if_pos rfl] at H; exact H
              clear H
              have H := H1
              clear H1
              simp only [Option.some.injEq, Prod.mk.injEq] at H
              obtain ⟨rfl, rfl, rfl, rfl, rfl⟩ := H
              have hcz41_0 : wc.cell? ⟨gb152, 0, none⟩ = some (.string (⟨#[]⟩ : ByteArray)) := (blk_cell BK152.out 0).trans rfl
              have hcz41_1 : wc.cell? ⟨gb152, 1, none⟩ = some (.string (⟨#[]⟩ : ByteArray)) := (blk_cell BK152.out 1).trans rfl
              have hcz41_2 : wc.cell? ⟨gb152, 2, none⟩ = some (.int .i64 0) := (blk_cell BK152.out 2).trans rfl
              have hcz41_3 : wc.cell? ⟨gb152, 3, none⟩ = some (.slice none 0 0) := (blk_cell BK152.out 3).trans rfl
              have hfz41_0 := blk_frozen BK152.out 0
              have hfz41_1 := blk_frozen BK152.out 1
              have hfz41_2 := blk_frozen BK152.out 2
              have hfz41_3 := blk_frozen BK152.out 3
              go_wp2
              refine bodyPost_ret (results_ct rfl _ _ gb152 35 #[.string (⟨#[]⟩ : ByteArray), .string (⟨#[]⟩ : ByteArray), .int .i64 0, .slice none 0 0] (0, 0) _ rfl (by (with_reducible repeat (first | refine blk_drewN ?_ _ | refine blk_drew ?_ | refine blk_alloc ?_ _)); refine blk_put (cs := #[.string (⟨#[]⟩ : ByteArray), .string (⟨#[]⟩ : ByteArray), .int .i64 0, .slice none 0 0]) ?_ 3 _ rfl; (with_reducible repeat (first | refine blk_drewN ?_ _ | refine blk_drew ?_ | refine blk_alloc ?_ _)); refine blk_put (cs := #[.string (⟨#[]⟩ : ByteArray), .string (⟨#[]⟩ : ByteArray), .int .i64 0, .slice none 0 0]) ?_ 2 _ rfl; (with_reducible repeat (first | refine blk_drewN ?_ _ | refine blk_drew ?_ | refine blk_alloc ?_ _)); refine blk_put (cs := #[.string (⟨#[]⟩ : ByteArray), .string (⟨#[]⟩ : ByteArray), .int .i64 0, .slice none 0 0]) ?_ 1 _ rfl; (with_reducible repeat (first | refine blk_drewN ?_ _ | refine blk_drew ?_ | refine blk_alloc ?_ _)); refine blk_put (cs := #[.string (⟨#[]⟩ : ByteArray), .string (⟨#[]⟩ : ByteArray), .int .i64 0, .slice none 0 0]) ?_ 0 _ rfl; (with_reducible repeat (first | refine blk_drewN ?_ _ | refine blk_drew ?_ | refine blk_alloc ?_ _)); exact BK152.out) Tryz.underlying35 rfl (by kernel_rfl)) rfl ?_
              exact ⟨_, by first | rfl | (simp [errW_none, errW_some] <;> rfl) | (simp [*, errW_none, errW_some] <;> rfl), by first | exact Kd.R_nil _ _ _ _ _ | exact Kd.N_nil _ _ _ _ _ | exact Kd.V_nil _ _ _ _ _ | exact Kd.Q_nil _ _ _ _ _ | exact Kd.S_nil _ _ _ _ _, by repeat (first | (with_reducible first | exact HB.out | apply below_alloc | apply pw_below_drewN | apply below_drew1 | refine below_set ?_ GE152.out) | exact HB.out)⟩
             ·replace c40 := Bool.eq_false_iff.mpr c40
              subst c40
              have H1 : (if 1 < (t158.length : Int) then (if ((rdOf ByteArray.empty t158 1).size : Int) > 2048 then (some ((⟨#[]⟩ : ByteArray), (⟨#[]⟩ : ByteArray), 0, ([] : List (S52)), 414)) else ((head_target.f kj36 (rdOf ByteArray.empty t158 1)).bind fun t172 => (if t172 = true then (if 0 < (t158.length : Int) then (if 1 ≤ (t153.length : Int) then ((some (t153.drop 1 : List ByteArray)).bind fun y176 => (head_Parse.l0 kj36 y176 (y176.length : Int) 0 (rdOf ByteArray.empty t158 0) (rdOf ByteArray.empty t158 1) (wrap64 (t168)) ([] : List (S52)))) else (none)) else (none)) else (some ((⟨#[]⟩ : ByteArray), (⟨#[]⟩ : ByteArray), 0, ([] : List (S52)), 400))))) else (none)) = some (r1, r2, r3, r4, r5) := by rw [if_neg (show ¬ (false = true) by decide)] at H; exact H
              clear H
              have H := H1
              clear H1
              by_cases c42 : 1 < (t158.length : Int)
              ·rw [if_pos c42] at H
               have c42b0 : decide (1 < (t158.length : Int)) = true := decide_eq_true c42
               have c42b1 : decide (1 < t158.length) = true := decide_eq_true (by omega)
               clear c42
               by_cases c43 : ((rdOf ByteArray.empty t158 1).size : Int) > 2048
               ·rw [if_pos c43] at H
                have c43b0 : decide (2048 < ((rdOf ByteArray.empty t158 1).size : Int)) = true := decide_eq_true c43
                have c43b1 : decide (2048 < (rdOf ByteArray.empty t158 1).size) = true := decide_eq_true (by omega)
                clear c43
                simp only [Option.some.injEq, Prod.mk.injEq] at H
                obtain ⟨rfl, rfl, rfl, rfl, rfl⟩ := H
                have p170 : 0 ≤ (1 : Int) := (by omega)
                have q170 : 1 < (t158.length : Int) := of_decide_eq_true (by first | (with_reducible assumption) | assumption)
                obtain ⟨ad170, e170, hx170_0⟩ := Kd.at_string (Kd.R_reads' HO_6.out).2.2 1 p170 q170
                obtain rfl : ad166 = ad170 := (by injection e170)
                (try simp only [show (1 : Int).toNat = 1 from rfl, Nat.reduceMul, Nat.reduceEqDiff, Go.Addr.add, ↓reduceIte] at hx170_0)
                have qi170 : (1 < t158.length) = True := eq_true (by omega)
                (try rw [show ((1 : Int)).toNat = 1 from rfl] at hx170_0)
                replace p170 := eq_true p170
                replace q170 := eq_true q170
                have hcz44_0 : wc.cell? ⟨gb152, 0, none⟩ = some (.string (⟨#[]⟩ : ByteArray)) := (blk_cell BK152.out 0).trans rfl
                have hcz44_1 : wc.cell? ⟨gb152, 1, none⟩ = some (.string (⟨#[]⟩ : ByteArray)) := (blk_cell BK152.out 1).trans rfl
                have hcz44_2 : wc.cell? ⟨gb152, 2, none⟩ = some (.int .i64 0) := (blk_cell BK152.out 2).trans rfl
                have hcz44_3 : wc.cell? ⟨gb152, 3, none⟩ = some (.slice none 0 0) := (blk_cell BK152.out 3).trans rfl
                have hfz44_0 := blk_frozen BK152.out 0
                have hfz44_1 := blk_frozen BK152.out 1
                have hfz44_2 := blk_frozen BK152.out 2
                have hfz44_3 := blk_frozen BK152.out 3
                go_wp2
                refine bodyPost_ret (results_ct rfl _ _ gb152 35 #[.string (⟨#[]⟩ : ByteArray), .string (⟨#[]⟩ : ByteArray), .int .i64 0, .slice none 0 0] (0, 0) _ rfl (by (with_reducible repeat (first | refine blk_drewN ?_ _ | refine blk_drew ?_ | refine blk_alloc ?_ _)); refine blk_put (cs := #[.string (⟨#[]⟩ : ByteArray), .string (⟨#[]⟩ : ByteArray), .int .i64 0, .slice none 0 0]) ?_ 3 _ rfl; (with_reducible repeat (first | refine blk_drewN ?_ _ | refine blk_drew ?_ | refine blk_alloc ?_ _)); refine blk_put (cs := #[.string (⟨#[]⟩ : ByteArray), .string (⟨#[]⟩ : ByteArray), .int .i64 0, .slice none 0 0]) ?_ 2 _ rfl; (with_reducible repeat (first | refine blk_drewN ?_ _ | refine blk_drew ?_ | refine blk_alloc ?_ _)); refine blk_put (cs := #[.string (⟨#[]⟩ : ByteArray), .string (⟨#[]⟩ : ByteArray), .int .i64 0, .slice none 0 0]) ?_ 1 _ rfl; (with_reducible repeat (first | refine blk_drewN ?_ _ | refine blk_drew ?_ | refine blk_alloc ?_ _)); refine blk_put (cs := #[.string (⟨#[]⟩ : ByteArray), .string (⟨#[]⟩ : ByteArray), .int .i64 0, .slice none 0 0]) ?_ 0 _ rfl; (with_reducible repeat (first | refine blk_drewN ?_ _ | refine blk_drew ?_ | refine blk_alloc ?_ _)); exact BK152.out) Tryz.underlying35 rfl (by kernel_rfl)) rfl ?_
                exact ⟨_, by first | rfl | (simp [errW_none, errW_some] <;> rfl) | (simp [*, errW_none, errW_some] <;> rfl), by first | exact Kd.R_nil _ _ _ _ _ | exact Kd.N_nil _ _ _ _ _ | exact Kd.V_nil _ _ _ _ _ | exact Kd.Q_nil _ _ _ _ _ | exact Kd.S_nil _ _ _ _ _, by repeat (first | (with_reducible first | exact HB.out | apply below_alloc | apply pw_below_drewN | apply below_drew1 | refine below_set ?_ GE152.out) | exact HB.out)⟩
               ·rw [if_neg c43] at H
                have c43b0 : decide (2048 < ((rdOf ByteArray.empty t158 1).size : Int)) = false := decide_eq_false c43
                have c43b1 : decide (2048 < (rdOf ByteArray.empty t158 1).size) = false := decide_eq_false (by omega)
                clear c43
                replace H := Option.bind_eq_some_iff.mp H
                obtain ⟨t172, A450, H⟩ := H
                replace H : (if t172 = true then (if 0 < (t158.length : Int) then (if 1 ≤ (t153.length : Int) then ((some (t153.drop 1 : List ByteArray)).bind fun y176 => (head_Parse.l0 kj36 y176 (y176.length : Int) 0 (rdOf ByteArray.empty t158 0) (rdOf ByteArray.empty t158 1) (wrap64 (t168)) ([] : List (S52)))) else (none)) else (none)) else (some ((⟨#[]⟩ : ByteArray), (⟨#[]⟩ : ByteArray), 0, ([] : List (S52)), 400))) = some (r1, r2, r3, r4, r5) := H
                have A45 := Aside0.mk A450
                clear A450
                by_cases c46 : t172 = true
                ·subst c46
                 have H1 : (if 0 < (t158.length : Int) then (if 1 ≤ (t153.length : Int) then ((some (t153.drop 1 : List ByteArray)).bind fun y176 => (head_Parse.l0 kj36 y176 (y176.length : Int) 0 (rdOf ByteArray.empty t158 0) (rdOf ByteArray.empty t158 1) (wrap64 (t168)) ([] : List (S52)))) else (none)) else (none)) = some (r1, r2, r3, r4, r5) := by rw [if_pos rfl] at H; exact H
                 clear H
                 have H := H1
                 clear H1
                 by_cases c47 : 0 < (t158.length : Int)
                 ·rw [if_pos c47] at H
                  have c47b0 : decide (0 < (t158.length : Int)) = true := decide_eq_true c47
                  have c47b1 : decide (0 < t158.length) = true := decide_eq_true (by omega)
                  clear c47
                  by_cases c48 : 1 ≤ (t153.length : Int)
                  ·rw [if_pos c48] at H
                   have c48b0 := eq_true c48
                   have c48b1 : decide (1 ≤ (t153.length : Int)) = true := decide_eq_true c48
                   clear c48
                   obtain ⟨y176, hy176⟩ : ∃ y_ : List ByteArray, y_ = (t153.drop 1) := ⟨_, rfl⟩
                   replace H : (head_Parse.l0 kj36 y176 (y176.length : Int) 0 (rdOf ByteArray.empty t158 0) (rdOf ByteArray.empty t158 1) (wrap64 (t168)) ([] : List (S52))) = some (r1, r2, r3, r4, r5) := by first | (rw [hy176]; with_reducible exact H) | (have H2_ := (Option.bind_some _ _).symm.trans H; rw [hy176]; with_reducible exact H2_) | (have H2_ := (Option.bind_some _ _).symm.trans H; with_reducible exact H2_) | with_reducible exact H | (rw [hy176]; exact H) | exact H
                   have Ny176 := Aside0.mk hy176
                   clear hy176
                   have H' := Aside0.mk H
                   clear H
                   have p170 : 0 ≤ (1 : Int) := (by omega)
                   have q170 : 1 < (t158.length : Int) := of_decide_eq_true (by first | (with_reducible assumption) | assumption)
                   obtain ⟨ad170, e170, hx170_0⟩ := Kd.at_string (Kd.R_reads' HO_6.out).2.2 1 p170 q170
                   obtain rfl : ad166 = ad170 := (by injection e170)
                   (try simp only [show (1 : Int).toNat = 1 from rfl, Nat.reduceMul, Nat.reduceEqDiff, Go.Addr.add, ↓reduceIte] at hx170_0)
                   have qi170 : (1 < t158.length) = True := eq_true (by omega)
                   (try rw [show ((1 : Int)).toNat = 1 from rfl] at hx170_0)
                   replace p170 := eq_true p170
                   replace q170 := eq_true q170
                   have p171 : 0 ≤ (1 : Int) := (by omega)
                   have q171 : 1 < (t158.length : Int) := of_decide_eq_true (by first | (with_reducible assumption) | assumption)
                   obtain ⟨ad171, e171, hx171_0⟩ := Kd.at_string (Kd.R_reads' HO_6.out).2.2 1 p171 q171
                   obtain rfl : ad166 = ad171 := (by injection e171)
                   (try simp only [show (1 : Int).toNat = 1 from rfl, Nat.reduceMul, Nat.reduceEqDiff, Go.Addr.add, ↓reduceIte] at hx171_0)
                   have qi171 : (1 < t158.length) = True := eq_true (by omega)
                   (try rw [show ((1 : Int)).toNat = 1 from rfl] at hx171_0)
                   replace p171 := eq_true p171
                   replace q171 := eq_true q171
                   try go_wp2_with (first | ((with_reducible refine gate_callee (f := 111) rfl ?_); refine goesL_ (some 96) rfl rfl Tryz.func111 (by kernel_rfl) rfl #[.string (rdOf ByteArray.empty t158 1)] rfl (by (try simp only [List.map_toArray, List.map_cons, List.map_nil]); first | done | rfl | (simp only [List.length_drop, List.length_take]; rfl)) ?_; (with_reducible refine (head_target.calls kj36 (rdOf ByteArray.empty t158 1) true _ A45.out).mono ?_); rintro e w49 ⟨rfl, hb⟩; refine ⟨_, rfl, ?_⟩; have n0_ := Aside0.mk (Kd.R_below (by (with_reducible repeat (first | apply Kd.R_alloc | apply Kd.R_drewN | apply Kd.R_drew)); exact HO_4.out) hb); have n1_ := Aside0.mk (Kd.R_below (by (with_reducible repeat (first | apply Kd.R_alloc | apply Kd.R_drewN | apply Kd.R_drew)); exact HO_6.out) hb); have n2_ := Aside0.mk (blk_below (g := gb152) (o := .cells #[.string (⟨#[]⟩ : ByteArray), .string (⟨#[]⟩ : ByteArray), .int .i64 0, .slice none 0 0] 35 (0, 0)) (by (with_reducible repeat (first | refine blk_drewN ?_ _ | refine blk_drew ?_ | refine blk_alloc ?_ _)); exact BK152.out) hb); have n3_ := Aside0.mk (below_step (by repeat (first | (with_reducible first | exact HB.out | apply below_alloc | apply pw_below_drewN | apply below_drew1 | refine below_set ?_ GE152.out) | exact HB.out)) hb); clear HO_4; clear HO_6; clear BK152; clear HB; have HO_4 := n0_; have HO_6 := n1_; have BK152 := n2_; have HB := n3_; clear n0_ n1_ n2_ n3_; (try clear hb); (try clear hb2); (try clear hk); (try clear hi)))
                   have n0_ := Aside0.mk (Kd.R_drew HO_4.out)
                   have n1_ := Aside0.mk (Kd.R_drew HO_6.out)
                   have n2_ := Aside0.mk (blk_drew BK152.out)
                   have n3_ := Aside0.mk (below_drew1 HB.out)
                   clear HO_4
                   clear HO_6
                   clear BK152
                   clear HB
                   have HO_4 := n0_
                   have HO_6 := n1_
                   have BK152 := n2_
                   have HB := n3_
                   clear n0_ n1_ n2_ n3_
                   have p173 : 0 ≤ (0 : Int) := (by omega)
                   have q173 : 0 < (t158.length : Int) := of_decide_eq_true (by first | (with_reducible assumption) | assumption)
                   obtain ⟨ad173, e173, hx173_0⟩ := Kd.at_string (Kd.R_reads' HO_6.out).2.2 0 p173 q173
                   obtain rfl : ad166 = ad173 := (by injection e173)
                   have qi173 : (0 < t158.length) = True := eq_true (by omega)
                   (try rw [show ((0 : Int)).toNat = 0 from rfl] at hx173_0)
                   (try rw [Addr.add_zero'] at hx173_0)
                   replace p173 := eq_true p173
                   replace q173 := eq_true q173
                   have p174 : 0 ≤ (1 : Int) := (by omega)
                   have q174 : 1 < (t158.length : Int) := of_decide_eq_true (by first | (with_reducible assumption) | assumption)
                   obtain ⟨ad174, e174, hx174_0⟩ := Kd.at_string (Kd.R_reads' HO_6.out).2.2 1 p174 q174
                   obtain rfl : ad166 = ad174 := (by injection e174)
                   (try simp only [show (1 : Int).toNat = 1 from rfl, Nat.reduceMul, Nat.reduceEqDiff, Go.Addr.add, ↓reduceIte] at hx174_0)
                   have qi174 : (1 < t158.length) = True := eq_true (by omega)
                   (try rw [show ((1 : Int)).toNat = 1 from rfl] at hx174_0)
                   replace p174 := eq_true p174
                   replace q174 := eq_true q174
                   refine start_ (n := 11) (S := fun w' => w'.cell? ad166 = some (.string (rdOf ByteArray.empty t158 0)) ∧ w'.cell? ⟨ad166.block, ad166.off + 1, none⟩ = some (.string (rdOf ByteArray.empty t158 1))) (ds := []) #[false, false, false, false, false, false, false, false, false, false, false] (by kernel_rfl) rfl rfl ⟨hx173_0, hx174_0⟩ (fun hHeld => ?_); refine with_tabW head_Parse.tab18 head_Parse.bits18 (fun HT_ HW_ => ?_)
                   generalize w49.drew = w50 at HO_4 HO_6 BK152 HB hx173_0 hx174_0 hHeld ⊢
                   refine pure_ (i := 0) (N := some 99) (v := ?_) (a' := ?_) #[true, false, false, false, false, false, false, false, false, false, false] rfl rfl (any_of HT_.out (by kernel_rfl)) (fun _ _ _ h => h) (Or.inl ⟨by rfl, ?_⟩) ?_ ?_
                   rotate_left
                   ·intro w'
                    go_simp
                    with_reducible rfl
                   rotate_left
                   ·simp only [Act.put, List.setIfInBounds_toArray, List.set_cons_zero, List.set_cons_succ, i64_w, i32_w]
                    rfl
                   refine pure_ (i := 1) (N := some 100) (v := ?_) (a' := ?_) #[true, true, false, false, false, false, false, false, false, false, false] rfl rfl (any_of HT_.out (by kernel_rfl)) (fun _ _ _ h => h) (Or.inl ⟨by rfl, ?_⟩) ?_ ?_
                   rotate_left
                   ·intro w'
                    go_simp
                    with_reducible rfl
                   rotate_left
                   ·simp only [Act.put, List.setIfInBounds_toArray, List.set_cons_zero, List.set_cons_succ, i64_w, i32_w]
                    rfl
                   refine pure_ (i := 3) (N := some 102) (v := ?_) (a' := ?_) #[true, true, false, true, false, false, false, false, false, false, false] rfl rfl (any_of HT_.out (by kernel_rfl)) (fun _ _ _ h => h) (Or.inl ⟨by rfl, ?_⟩) ?_ ?_
                   rotate_left
                   ·intro w'
                    go_simp
                    with_reducible rfl
                   rotate_left
                   ·simp only [Act.put, List.setIfInBounds_toArray, List.set_cons_zero, List.set_cons_succ, i64_w, i32_w]
                    rfl
                   refine pure_ (i := 4) (N := some 103) (v := ?_) (a' := ?_) #[true, true, false, true, true, false, false, false, false, false, false] rfl rfl (any_of HT_.out (by kernel_rfl)) (fun _ _ _ h => h) (Or.inl ⟨by rfl, ?_⟩) ?_ ?_
                   rotate_left
                   ·intro w'
                    go_simp
                    with_reducible rfl
                   rotate_left
                   ·simp only [Act.put, List.setIfInBounds_toArray, List.set_cons_zero, List.set_cons_succ, i64_w, i32_w]
                    rfl
                   refine pure_ (i := 6) (N := some 105) (v := ?_) (a' := ?_) #[true, true, false, true, true, false, true, false, false, false, false] rfl rfl (any_of HT_.out (by kernel_rfl)) (fun _ _ _ h => h) (Or.inl ⟨by rfl, ?_⟩) ?_ ?_
                   rotate_left
                   ·intro w'
                    go_simp
                    with_reducible rfl
                   rotate_left
                   ·simp only [Act.put, List.setIfInBounds_toArray, List.set_cons_zero, List.set_cons_succ, i64_w, i32_w]
                    rfl
                   refine pure_ (i := 7) (N := some 106) (v := ?_) (a' := ?_) #[true, true, false, true, true, false, true, true, false, false, false] rfl rfl (any_of HT_.out (by kernel_rfl)) (fun _ _ _ h => h) (Or.inl ⟨by rfl, ?_⟩) ?_ ?_
                   rotate_left
                   ·intro w'
                    go_simp
                    with_reducible rfl
                   rotate_left
                   ·simp only [Act.put, List.setIfInBounds_toArray, List.set_cons_zero, List.set_cons_succ, i64_w, i32_w]
                    rfl
                   refine take_ (i := 2) (N := some 101) (v := ?_) (a' := ?_) #[true, true, true, true, true, false, true, true, false, false, false] rfl rfl (take_ofW HT_.out HW_.out (by kernel_rfl)) (fun _ _ _ h => h) (Or.inl ⟨by rfl, ?_⟩) hHeld ?_ ?_
                   rotate_left
                   ·rintro w' ⟨s0, s1⟩
                    go_simp
                    with_reducible rfl
                   rotate_left
                   ·simp only [Act.put, List.setIfInBounds_toArray, List.set_cons_zero, List.set_cons_succ, i64_w, i32_w]
                    rfl
                   refine take_ (i := 5) (N := some 104) (v := ?_) (a' := ?_) #[true, true, true, true, true, true, true, true, false, false, false] rfl rfl (take_ofW HT_.out HW_.out (by kernel_rfl)) (fun _ _ _ h => h) (Or.inl ⟨by rfl, ?_⟩) hHeld ?_ ?_
                   rotate_left
                   ·rintro w' ⟨s0, s1⟩
                    go_simp
                    with_reducible rfl
                   rotate_left
                   ·simp only [Act.put, List.setIfInBounds_toArray, List.set_cons_zero, List.set_cons_succ, i64_w, i32_w]
                    rfl
                   refine pure_ (i := 8) (N := some 107) (v := ?_) (a' := ?_) #[true, true, true, true, true, true, true, true, true, false, false] rfl rfl (any_of HT_.out (by kernel_rfl)) (fun _ _ _ h => h) (Or.inl ⟨by rfl, ?_⟩) ?_ ?_
                   rotate_left
                   ·intro w'
                    go_simp
                    with_reducible rfl
                   rotate_left
                   ·simp only [Act.put, List.setIfInBounds_toArray, List.set_cons_zero, List.set_cons_succ, i64_w, i32_w]
                    rfl
                   refine one_ (i := 9) (N := some 9) #[true, true, true, true, true, true, true, true, true, true, false] rfl rfl (one_of HT_.out (by kernel_rfl)) (by decide) (fun K hK => ?_)
                   refine box_step ?hg (N := 9) ?hd (cs := #[.string (⟨#[]⟩ : ByteArray), .string (⟨#[]⟩ : ByteArray), .int .i64 0, .slice none 0 0]) (t := 35) ?hr ?_; (case hd => rfl); (case hg => rfl); (case hr => first | (go_simp; done) | (go_simp; rfl))
                   intro gb175 hg w51 hbox hb
                   have HS0_ := (hb.cell (World.block_lt_of_cell? _ _ (hHeld.1))).trans (hHeld.1)
                   have HS1_ := (hb.cell (World.block_lt_of_cell? _ _ (hHeld.2))).trans (hHeld.2)
                   have n0_ := Aside0.mk (Kd.R_below (by (with_reducible repeat (first | apply Kd.R_alloc | apply Kd.R_drewN | apply Kd.R_drew)); exact HO_4.out) hb)
                   have n1_ := Aside0.mk (Kd.R_below (by (with_reducible repeat (first | apply Kd.R_alloc | apply Kd.R_drewN | apply Kd.R_drew)); exact HO_6.out) hb)
                   have n2_ := Aside0.mk (blk_below (g := gb152) (o := .cells #[.string (⟨#[]⟩ : ByteArray), .string (⟨#[]⟩ : ByteArray), .int .i64 0, .slice none 0 0] 35 (0, 0)) (by (with_reducible repeat (first | refine blk_drewN ?_ _ | refine blk_drew ?_ | refine blk_alloc ?_ _)); exact BK152.out) hb)
                   have n3_ := Aside0.mk (below_step (by repeat (first | (with_reducible first | exact HB.out | apply below_alloc | apply pw_below_drewN | apply below_drew1 | refine below_set ?_ GE152.out) | exact HB.out)) hb)
                   have n4_ := Aside0.mk (hbox)
                   have n5_ := Aside0.mk ((by rw [hg]; exact (below_size (by repeat (first | (with_reducible first | exact HB.out | apply below_alloc | apply pw_below_drewN | apply below_drew1 | refine below_set ?_ GE152.out) | exact HB.out))) : w.heap.size ≤ gb175))
                   have n6_ := Aside0.mk ((by rw [hg]; exact (below_size (by repeat (first | (with_reducible first | exact HB.out | apply below_alloc | apply pw_below_drewN | apply below_drew1 | refine below_set ?_ GE152.out) | exact HB.out))) : w.heap.size ≤ gb175))
                   have n7_ := Aside0.mk ((by rw [hg]; exact Nat.ne_of_lt (blk_lt (g := gb152) (o := .cells #[.string (⟨#[]⟩ : ByteArray), .string (⟨#[]⟩ : ByteArray), .int .i64 0, .slice none 0 0] 35 (0, 0)) (by (with_reducible repeat (first | refine blk_drewN ?_ _ | refine blk_drew ?_ | refine blk_alloc ?_ _)); exact BK152.out)) : gb152 ≠ gb175))
                   have n8_ := Aside0.mk ((by rw [hg]; exact Nat.ne_of_gt (blk_lt (g := gb152) (o := .cells #[.string (⟨#[]⟩ : ByteArray), .string (⟨#[]⟩ : ByteArray), .int .i64 0, .slice none 0 0] 35 (0, 0)) (by (with_reducible repeat (first | refine blk_drewN ?_ _ | refine blk_drew ?_ | refine blk_alloc ?_ _)); exact BK152.out)) : gb175 ≠ gb152))
                   clear HO_4
                   clear HO_6
                   clear BK152
                   clear HB
                   have HO_4 := n0_
                   have HO_6 := n1_
                   have BK152 := n2_
                   have HB := n3_
                   have BK175 := n4_
                   have GW175 := n5_
                   have GE175 := n6_
                   have NB152_175 := n7_
                   have NB175_152 := n8_
                   clear n0_ n1_ n2_ n3_ n4_ n5_ n6_ n7_ n8_
                   clear hb hbox hg
                   refine hK.out _ _ ⟨HS0_, HS1_⟩ (fun hHeld => ?_)
                   clear hK K
                   refine norm_ (a' := ?_) ?_ ?_
                   rotate_left
                   ·show Act.put _ (some 9) _ = _
                    simp only [Act.put, List.setIfInBounds_toArray, List.set_cons_zero, List.set_cons_succ, i64_w, i32_w]
                    rfl
                   refine one_ (i := 10) (N := none) #[true, true, true, true, true, true, true, true, true, true, true] rfl rfl (one_of HT_.out (by kernel_rfl)) (by decide) (fun K hK => ?_)
                   have hs52 : w51.cell? ⟨gb175, 0, none⟩ = some (.string (⟨#[]⟩ : ByteArray)) := (blk_cell BK175.out 0).trans rfl
                   have hfs52 := blk_frozen BK175.out 0
                   have hns52_0 := NB152_175.out
                   have hms52_0 := NB175_152.out
                   have hs53 : w51.cell? ⟨gb175, 1, none⟩ = some (.string (⟨#[]⟩ : ByteArray)) := (blk_cell BK175.out 1).trans rfl
                   have hfs53 := blk_frozen BK175.out 1
                   have hns53_0 := NB152_175.out
                   have hms53_0 := NB175_152.out
                   have hs54 : w51.cell? ⟨gb175, 2, none⟩ = some (.int .i64 0) := (blk_cell BK175.out 2).trans rfl
                   have hfs54 := blk_frozen BK175.out 2
                   have hns54_0 := NB152_175.out
                   have hms54_0 := NB175_152.out
                   have hs55 : w51.cell? ⟨gb175, 3, none⟩ = some (.slice none 0 0) := (blk_cell BK175.out 3).trans rfl
                   have hfs55 := blk_frozen BK175.out 3
                   have hns55_0 := NB152_175.out
                   have hms55_0 := NB175_152.out
                   refine skip_ (w1 := ?_) (by rfl) rfl ?_ ?_
                   rotate_left
                   ·go_simp
                    rfl
                   refine hK.out _ _ ⟨(by have hne_ := Kd.own_blk (Kd.R_ne HO_6.out BK175.out (by decide)); exact ((cell_far (by exact hne_) _).trans (((cell_far (by exact hne_) _).trans (((cell_far (by exact hne_) _).trans (((cell_far (by exact hne_) _).trans (hHeld.1))))))))), (by have hne_ := Kd.own_blk (Kd.R_ne HO_6.out BK175.out (by decide)); exact ((cell_far (by exact hne_) _).trans (((cell_far (by exact hne_) _).trans (((cell_far (by exact hne_) _).trans (((cell_far (by exact hne_) _).trans (hHeld.2)))))))))⟩ (fun hHeld => ?_)
                   clear hK K
                   refine done_ (done_of HT_.out (by kernel_rfl)) ?_
                   have n0_ : Aside0 (Kd.R Kd.string 9 ((((w51.setCell ⟨gb175, 0, none⟩ (.string (rdOf ByteArray.empty t158 0))).setCell ⟨gb175, 1, none⟩ (.string (rdOf ByteArray.empty t158 1))).setCell ⟨gb175, 2, none⟩ (.int .i64 (wrap64 (t168)))).setCell ⟨gb175, 3, none⟩ (.slice none 0 0)) w.heap.size (fun k_ => some k_ ≠ (.slice (some ad166) t158.length co38 : Value).ownBlock) (.slice (some ad157) t153.length co16) t153) := ⟨by (with_reducible repeat (first | apply Kd.R_alloc | apply Kd.R_drewN | apply Kd.R_drew)); exact Kd.R_mono (Kd.R_far (p := ⟨gb175, 3, none⟩) (Kd.R_far (p := ⟨gb175, 2, none⟩) (Kd.R_far (p := ⟨gb175, 1, none⟩) (Kd.R_far (p := ⟨gb175, 0, none⟩) (Kd.R_types HO_4.out BK175.out (by decide)) (fun _ hk => hk.2) (.string (rdOf ByteArray.empty t158 0))) (fun _ hk => hk.2) (.string (rdOf ByteArray.empty t158 1))) (fun _ hk => hk.2) (.int .i64 (wrap64 (t168)))) (fun _ hk => hk.2) (.slice none 0 0)) (fun _ hk => hk.1)⟩
                   have n1_ : Aside0 (Kd.R Kd.string 9 ((((w51.setCell ⟨gb175, 0, none⟩ (.string (rdOf ByteArray.empty t158 0))).setCell ⟨gb175, 1, none⟩ (.string (rdOf ByteArray.empty t158 1))).setCell ⟨gb175, 2, none⟩ (.int .i64 (wrap64 (t168)))).setCell ⟨gb175, 3, none⟩ (.slice none 0 0)) w.heap.size (fun k_ => some k_ ≠ (.slice (some ad157) t153.length co16 : Value).ownBlock) (.slice (some ad166) t158.length co38) t158) := ⟨by (with_reducible repeat (first | apply Kd.R_alloc | apply Kd.R_drewN | apply Kd.R_drew)); exact Kd.R_mono (Kd.R_far (p := ⟨gb175, 3, none⟩) (Kd.R_far (p := ⟨gb175, 2, none⟩) (Kd.R_far (p := ⟨gb175, 1, none⟩) (Kd.R_far (p := ⟨gb175, 0, none⟩) (Kd.R_types HO_6.out BK175.out (by decide)) (fun _ hk => hk.2) (.string (rdOf ByteArray.empty t158 0))) (fun _ hk => hk.2) (.string (rdOf ByteArray.empty t158 1))) (fun _ hk => hk.2) (.int .i64 (wrap64 (t168)))) (fun _ hk => hk.2) (.slice none 0 0)) (fun _ hk => hk.1)⟩
                   have n2_ : Aside0 (((((w51.setCell ⟨gb175, 0, none⟩ (.string (rdOf ByteArray.empty t158 0))).setCell ⟨gb175, 1, none⟩ (.string (rdOf ByteArray.empty t158 1))).setCell ⟨gb175, 2, none⟩ (.int .i64 (wrap64 (t168)))).setCell ⟨gb175, 3, none⟩ (.slice none 0 0)).heap[gb152]? = some (.cells #[.string (⟨#[]⟩ : ByteArray), .string (⟨#[]⟩ : ByteArray), .int .i64 0, .slice none 0 0] 35 (0, 0))) := ⟨by (with_reducible repeat (first | refine blk_drewN ?_ _ | refine blk_drew ?_ | refine blk_alloc ?_ _)); refine blk_far ?_ NB152_175.out _; (with_reducible repeat (first | refine blk_drewN ?_ _ | refine blk_drew ?_ | refine blk_alloc ?_ _)); refine blk_far ?_ NB152_175.out _; (with_reducible repeat (first | refine blk_drewN ?_ _ | refine blk_drew ?_ | refine blk_alloc ?_ _)); refine blk_far ?_ NB152_175.out _; (with_reducible repeat (first | refine blk_drewN ?_ _ | refine blk_drew ?_ | refine blk_alloc ?_ _)); refine blk_far ?_ NB152_175.out _; (with_reducible repeat (first | refine blk_drewN ?_ _ | refine blk_drew ?_ | refine blk_alloc ?_ _)); exact BK152.out⟩
                   have n3_ : Aside0 (((((w51.setCell ⟨gb175, 0, none⟩ (.string (rdOf ByteArray.empty t158 0))).setCell ⟨gb175, 1, none⟩ (.string (rdOf ByteArray.empty t158 1))).setCell ⟨gb175, 2, none⟩ (.int .i64 (wrap64 (t168)))).setCell ⟨gb175, 3, none⟩ (.slice none 0 0)).heap[gb175]? = some (.cells #[.string (rdOf ByteArray.empty t158 0), .string (rdOf ByteArray.empty t158 1), .int .i64 (wrap64 (t168)), .slice none 0 0] 35 (0, 0))) := ⟨by (with_reducible repeat (first | refine blk_drewN ?_ _ | refine blk_drew ?_ | refine blk_alloc ?_ _)); refine blk_put (cs := #[.string (rdOf ByteArray.empty t158 0), .string (rdOf ByteArray.empty t158 1), .int .i64 (wrap64 (t168)), .slice none 0 0]) ?_ 3 _ rfl; (with_reducible repeat (first | refine blk_drewN ?_ _ | refine blk_drew ?_ | refine blk_alloc ?_ _)); refine blk_put (cs := #[.string (rdOf ByteArray.empty t158 0), .string (rdOf ByteArray.empty t158 1), .int .i64 0, .slice none 0 0]) ?_ 2 _ rfl; (with_reducible repeat (first | refine blk_drewN ?_ _ | refine blk_drew ?_ | refine blk_alloc ?_ _)); refine blk_put (cs := #[.string (rdOf ByteArray.empty t158 0), .string (⟨#[]⟩ : ByteArray), .int .i64 0, .slice none 0 0]) ?_ 1 _ rfl; (with_reducible repeat (first | refine blk_drewN ?_ _ | refine blk_drew ?_ | refine blk_alloc ?_ _)); refine blk_put (cs := #[.string (⟨#[]⟩ : ByteArray), .string (⟨#[]⟩ : ByteArray), .int .i64 0, .slice none 0 0]) ?_ 0 _ rfl; (with_reducible repeat (first | refine blk_drewN ?_ _ | refine blk_drew ?_ | refine blk_alloc ?_ _)); exact BK175.out⟩
                   have n4_ : Aside0 (Below w.heap.size w ((((w51.setCell ⟨gb175, 0, none⟩ (.string (rdOf ByteArray.empty t158 0))).setCell ⟨gb175, 1, none⟩ (.string (rdOf ByteArray.empty t158 1))).setCell ⟨gb175, 2, none⟩ (.int .i64 (wrap64 (t168)))).setCell ⟨gb175, 3, none⟩ (.slice none 0 0))) := ⟨by repeat (first | (with_reducible first | exact HB.out | apply below_alloc | apply pw_below_drewN | apply below_drew1 | refine below_set ?_ GE152.out | refine below_set ?_ GE175.out) | exact HB.out)⟩
                   (try clear HO_4)
                   (try clear HO_6)
                   (try clear BK152)
                   (try clear BK175)
                   (try clear HB)
                   generalize ((((w51.setCell ⟨gb175, 0, none⟩ (.string (rdOf ByteArray.empty t158 0))).setCell ⟨gb175, 1, none⟩ (.string (rdOf ByteArray.empty t158 1))).setCell ⟨gb175, 2, none⟩ (.int .i64 (wrap64 (t168)))).setCell ⟨gb175, 3, none⟩ (.slice none 0 0)) = w56 at n0_ n1_ n2_ n3_ n4_ ⊢
                   have HO_4 := n0_
                   have HO_6 := n1_
                   have BK152 := n2_
                   have BK175 := n3_
                   have HB := n4_
                   clear n0_ n1_ n2_ n3_ n4_
                   have q57 : (1 : Int) ≤ ((t153.length : Int) : Int) := of_decide_eq_true (by first | (with_reducible assumption) | assumption)
                   obtain ⟨i057, hi057, _, hsz57, _⟩ := info_parts info9
                   have hroom57 : t153.length ≤ co16 := (Kd.R_reads' HO_4.out).2.1
                   have hC57 : Kd.F Kd.string _ _ (some ad157) t153.length t153 := (Kd.V_at (base := w.heap.size) (Kd.R_V (Kd.R_types (Kd.R_types (HO_4.out) BK152.out (by decide)) BK175.out (by decide)))).2.2
                   have hcut57 := cut_from (P := Tryz.prog) 132 9 .i64 Tryz.underlying132 hi057 1 hsz57 (some ad157) t153.length co16 1 (by omega) q57
                   have hr57 := Kd.F_cut (m := (1 : Int).toNat) (c := co16) hC57 (by omega) hroom57
                   obtain ⟨A57, hA57⟩ : ∃ A1, A1 = (if co16 = (1 : Int).toNat then (some ad157) else ((some ad157) : Option Addr).map (·.add ((1 : Int).toNat * 1))) := ⟨_, rfl⟩
                   obtain ⟨c57, hc57⟩ : ∃ c1, c1 = co16 - (1 : Int).toNat := ⟨_, rfl⟩
                   have hy57 : y176.length = t153.length - (1 : Int).toNat := (by rw [Ny176.out, List.length_drop] <;> omega)
                   rw [show (t153).drop (1 : Int).toNat = y176 from Ny176.out.symm] at hr57
                   replace hr57 : Kd.F Kd.string _ _ A57 y176.length y176 := (by rw [hA57]; exact hr57)
                   rw [← hy57, ← hA57, ← hc57] at hcut57
                   have HO180 := Aside0.mk (show Kd.V Kd.string 9 _ w.heap.size _ (.slice A57 y176.length c57) y176 from Kd.V_mk (by rw [hy57, hc57]; exact Nat.sub_le_sub_right hroom57 _) hr57)
                   have HC180 := Aside0.mk (show y176.length ≤ c57 from by rw [hy57, hc57]; exact Nat.sub_le_sub_right hroom57 _)
                   clear hr57 hC57 hroom57 hi057 hsz57 hc57
                   have KY57 := Aside0.mk hy57
                   have KA57 := Aside0.mk hA57
                   clear hy57 hA57
                   replace q57 := eq_true q57
                   try go_wp2
                   go_loopg [111] kj36 (fun kq v111 w' => ∃ (x111_4 : Int) (x153000_4 : ByteArray) (x153001_4 : ByteArray) (x153002_4 : Int) (x176003_4 : List (S52)) (u176003 : Value), v111 = .int .i64 x111_4 ∧ Aside0 (head_Parse.l0 kq y176 (y176.length : Int) x111_4 (rdOf ByteArray.empty t158 0) (rdOf ByteArray.empty t158 1) (wrap64 (t168)) x176003_4 = some (r1, r2, r3, r4, r5)) ∧ Aside0 (kq ≤ kj36) ∧ Aside0 (Kd.V Kd.string 9 w' w.heap.size (fun k_ => some k_ ≠ (u176003 : Value).ownBlock ∧ k_ ≠ gb152 ∧ k_ ≠ gb175) (.slice A57 y176.length c57) y176) ∧ Aside0 (Kd.R k52 52 w' w.heap.size (fun _ => True) u176003 x176003_4) ∧ Aside0 (w'.heap[gb152]? = some (.cells #[.string x153000_4, .string x153001_4, .int .i64 x153002_4, (.slice none 0 0)] 35 (0, 0))) ∧ Aside0 (w'.heap[gb175]? = some (.cells #[.string (rdOf ByteArray.empty t158 0), .string (rdOf ByteArray.empty t158 1), .int .i64 (wrap64 (t168)), u176003] 35 (0, 0))) ∧ Aside0 (Below w.heap.size w w'))
                   case atStart => exact ⟨(0), ((⟨#[]⟩ : ByteArray)), ((⟨#[]⟩ : ByteArray)), (0), (([] : List (S52))), (.slice none 0 0), (by first | rfl | (simp; done) | (simp [*]; done)), H', ⟨Nat.le_refl _⟩, ⟨by (with_reducible repeat (first | apply Kd.V_alloc | apply Kd.V_drewN | apply Kd.V_drew)); exact Kd.V_mono HO180.out (fun _ hk => ⟨(by simp [Value.ownBlock]), ⟨hk.1.2, hk.2⟩⟩)⟩, ⟨by first | exact Kd.R_nil _ _ _ _ _ | exact Kd.N_nil _ _ _ _ _ | exact Kd.V_nil _ _ _ _ _ | exact Kd.Q_nil _ _ _ _ _ | exact Kd.S_nil _ _ _ _ _⟩, ⟨by (with_reducible repeat (first | refine blk_drewN ?_ _ | refine blk_drew ?_ | refine blk_alloc ?_ _)); exact BK152.out⟩, ⟨by (with_reducible repeat (first | refine blk_drewN ?_ _ | refine blk_drew ?_ | refine blk_alloc ?_ _)); exact BK175.out⟩, ⟨by repeat (first | (with_reducible first | exact HB.out | apply below_alloc | apply pw_below_drewN | apply below_drew1 | refine below_set ?_ GE152.out | refine below_set ?_ GE175.out) | exact HB.out)⟩⟩
                   case round => as_aux_lemma =>
                    clear H'
                    try clear c1
                    try clear p1
                    try clear q1
                    try clear hx1
                    try clear qi1
                    try clear c2
                    try clear c2b0
                    try clear c2b1
                    try clear p2
                    try clear c3
                    try clear c4
                    try clear c5
                    try clear q5
                    try clear p6
                    try clear c9
                    try clear c10
                    try clear c11
                    try clear c13
                    try clear c13b0
                    try clear c13b1
                    try clear p15
                    try clear q15
                    try clear hx15
                    try clear qi15
                    try clear p16
                    try clear q16
                    try clear hx16
                    try clear qi16
                    try clear p17
                    try clear q17
                    try clear hx17
                    try clear qi17
                    try clear c18
                    try clear c18b0
                    try clear c18b1
                    try clear c19
                    try clear c19b0
                    try clear c19b1
                    try clear c20
                    try clear c20b0
                    try clear c20b1
                    try clear c22
                    try clear c22b0
                    try clear c22b1
                    try clear c23
                    try clear c23b0
                    try clear c23b1
                    try clear c25
                    try clear c25b0
                    try clear c25b1
                    try clear c26
                    try clear c26b0
                    try clear c26b1
                    try clear c32
                    try clear c34
                    try clear c34b0
                    try clear c34b1
                    try clear c36
                    try clear c39
                    try clear c39b0
                    try clear c39b1
                    try clear c40
                    try clear c42
                    try clear c42b0
                    try clear c42b1
                    try clear c43
                    try clear c43b0
                    try clear c43b1
                    try clear c46
                    try clear c47
                    try clear c47b0
                    try clear c47b1
                    try clear c48
                    try clear c48b0
                    try clear c48b1
                    try clear c57
                    try clear q57
                    try clear hcz12_0
                    try clear hcz12_1
                    try clear hcz12_2
                    try clear hcz12_3
                    try clear hcz33_0
                    try clear hcz33_1
                    try clear hcz33_2
                    try clear hcz33_3
                    try clear hcz41_0
                    try clear hcz41_1
                    try clear hcz41_2
                    try clear hcz41_3
                    try clear hcz44_0
                    try clear hcz44_1
                    try clear hcz44_2
                    try clear hcz44_3
                    try clear hcz4_0
                    try clear hcz4_1
                    try clear hcz4_2
                    try clear hcz4_3
                    try clear hfz12_0
                    try clear hfz12_1
                    try clear hfz12_2
                    try clear hfz12_3
                    try clear hfz33_0
                    try clear hfz33_1
                    try clear hfz33_2
                    try clear hfz33_3
                    try clear hfz41_0
                    try clear hfz41_1
                    try clear hfz41_2
                    try clear hfz41_3
                    try clear hfz44_0
                    try clear hfz44_1
                    try clear hfz44_2
                    try clear hfz44_3
                    try clear hfz4_0
                    try clear hfz4_1
                    try clear hfz4_2
                    try clear hfz4_3
                    try clear hx157_0
                    try clear hx161_0
                    try clear hx162_0
                    try clear hx163_0
                    try clear hx164_0
                    try clear hx166_0
                    try clear hx170_0
                    try clear hx171_0
                    try clear hx173_0
                    try clear hx174_0
                    try clear p1
                    try clear p15
                    try clear p157
                    try clear p16
                    try clear p161
                    try clear p162
                    try clear p163
                    try clear p164
                    try clear p166
                    try clear p170
                    try clear p171
                    try clear p173
                    try clear p174
                    try clear p2
                    try clear q1
                    try clear q15
                    try clear q157
                    try clear q16
                    try clear q161
                    try clear q162
                    try clear q163
                    try clear q164
                    try clear q166
                    try clear q170
                    try clear q171
                    try clear q173
                    try clear q174
                    try clear q57
                    obtain ⟨x111_4, x153000_4, x153001_4, x153002_4, x176003_4, u176003, rfl, HA, HK4, HO_109, HO_176003, BK152, BK175, HB⟩ := hrel
                    cases gk with
                    | zero => exact absurd HA.out (by simp [head_Parse.l0])
                    | succ k4 =>
                     have H := HA.out
                     clear HA
                     simp only [head_Parse.l0] at H
                     by_cases c58 : x111_4 < (y176.length : Int)
                     ·rw [if_pos c58] at H
                      have c58b0 : decide (x111_4 < (y176.length : Int)) = true := decide_eq_true c58
                      clear c58
                      by_cases c59 : 0 ≤ x111_4
                      ·rw [if_pos c59] at H
                       have c59b0 : decide (0 ≤ x111_4) = true := decide_eq_true c59
                       clear c59
                       by_cases c60 : x111_4 < (y176.length : Int)
                       ·rw [if_pos c60] at H
                        have c60b0 : decide (x111_4 < (y176.length : Int)) = true := decide_eq_true c60
                        clear c60
                        by_cases c61 : (x176003_4.length : Int) = 32
                        ·rw [if_pos c61] at H
                         have c61b0 : ((x176003_4.length : Int) == 32) = true := beq_iff_eq.mpr c61
                         have c61b1 : ((x176003_4.length : Int) != 32) = false := bne_eq_false_iff_eq.mpr c61
                         clear c61
                         simp only [Option.some.injEq, Prod.mk.injEq] at H
                         obtain ⟨rfl, rfl, rfl, rfl, rfl⟩ := H
                         have p182 : 0 ≤ (x111_4 : Int) := of_decide_eq_true (by first | (with_reducible assumption) | assumption)
                         have q182 : x111_4 < (y176.length : Int) := of_decide_eq_true (by first | (with_reducible assumption) | assumption)
                         obtain ⟨ad182, e182, hx182_0⟩ := Kd.at_string (Kd.V_reads' HO_109.out).2.2 x111_4 p182 q182
                         cases e182
                         replace p182 := eq_true p182
                         replace q182 := eq_true q182
                         have hnb62 := NB175_152.out
                         have hnc62 := NB152_175.out
                         have hcz63_0 : wr.cell? ⟨gb175, 0, none⟩ = some (.string (rdOf ByteArray.empty t158 0)) := (blk_cell BK175.out 0).trans rfl
                         have hcz63_1 : wr.cell? ⟨gb175, 1, none⟩ = some (.string (rdOf ByteArray.empty t158 1)) := (blk_cell BK175.out 1).trans rfl
                         have hcz63_2 : wr.cell? ⟨gb175, 2, none⟩ = some (.int .i64 (wrap64 (t168))) := (blk_cell BK175.out 2).trans rfl
                         have hcz63_3 : wr.cell? ⟨gb175, 3, none⟩ = some (u176003) := (blk_cell BK175.out 3).trans rfl
                         have hfz63_0 := blk_frozen BK175.out 0
                         have hfz63_1 := blk_frozen BK175.out 1
                         have hfz63_2 := blk_frozen BK175.out 2
                         have hfz63_3 := blk_frozen BK175.out 3
                         obtain ⟨Ao64, co64, eo64⟩ := Kd.R_slice HO_176003.out
                         subst eo64
                         have hcz65_0 : wr.cell? ⟨gb152, 0, none⟩ = some (.string x153000_4) := (blk_cell BK152.out 0).trans rfl
                         have hcz65_1 : wr.cell? ⟨gb152, 1, none⟩ = some (.string x153001_4) := (blk_cell BK152.out 1).trans rfl
                         have hcz65_2 : wr.cell? ⟨gb152, 2, none⟩ = some (.int .i64 x153002_4) := (blk_cell BK152.out 2).trans rfl
                         have hcz65_3 : wr.cell? ⟨gb152, 3, none⟩ = some (.slice none 0 0) := (blk_cell BK152.out 3).trans rfl
                         have hfz65_0 := blk_frozen BK152.out 0
                         have hfz65_1 := blk_frozen BK152.out 1
                         have hfz65_2 := blk_frozen BK152.out 2
                         have hfz65_3 := blk_frozen BK152.out 3
                         go_wp2
                         refine bodyPost_ret (results_ct rfl _ _ gb152 35 #[.string (⟨#[]⟩ : ByteArray), .string (⟨#[]⟩ : ByteArray), .int .i64 0, .slice none 0 0] (0, 0) _ rfl (by (with_reducible repeat (first | refine blk_drewN ?_ _ | refine blk_drew ?_ | refine blk_alloc ?_ _)); refine blk_put (cs := #[.string (⟨#[]⟩ : ByteArray), .string (⟨#[]⟩ : ByteArray), .int .i64 0, .slice none 0 0]) ?_ 3 _ rfl; (with_reducible repeat (first | refine blk_drewN ?_ _ | refine blk_drew ?_ | refine blk_alloc ?_ _)); refine blk_put (cs := #[.string (⟨#[]⟩ : ByteArray), .string (⟨#[]⟩ : ByteArray), .int .i64 x153002_4, .slice none 0 0]) ?_ 2 _ rfl; (with_reducible repeat (first | refine blk_drewN ?_ _ | refine blk_drew ?_ | refine blk_alloc ?_ _)); refine blk_put (cs := #[.string (⟨#[]⟩ : ByteArray), .string x153001_4, .int .i64 x153002_4, .slice none 0 0]) ?_ 1 _ rfl; (with_reducible repeat (first | refine blk_drewN ?_ _ | refine blk_drew ?_ | refine blk_alloc ?_ _)); refine blk_put (cs := #[.string x153000_4, .string x153001_4, .int .i64 x153002_4, .slice none 0 0]) ?_ 0 _ rfl; (with_reducible repeat (first | refine blk_drewN ?_ _ | refine blk_drew ?_ | refine blk_alloc ?_ _)); exact BK152.out) Tryz.underlying35 rfl (by kernel_rfl)) rfl ?_
                         exact ⟨_, by first | rfl | (simp [errW_none, errW_some] <;> rfl) | (simp [*, errW_none, errW_some] <;> rfl), by first | exact Kd.R_nil _ _ _ _ _ | exact Kd.N_nil _ _ _ _ _ | exact Kd.V_nil _ _ _ _ _ | exact Kd.Q_nil _ _ _ _ _ | exact Kd.S_nil _ _ _ _ _, by repeat (first | (with_reducible first | exact HB.out | apply below_alloc | apply pw_below_drewN | apply below_drew1 | refine below_set ?_ GE152.out | refine below_set ?_ GE175.out) | exact HB.out)⟩
                        ·rw [if_neg c61] at H
                         have c61b0 : ((x176003_4.length : Int) == 32) = false := beq_eq_false_iff_ne.mpr c61
                         have c61b1 : ((x176003_4.length : Int) != 32) = true := bne_iff_ne.mpr c61
                         replace H := Option.bind_eq_some_iff.mp H
                         obtain ⟨⟨t183, t184, t185⟩, A660, H⟩ := H
                         replace H : ((strings_Trim.f t184 (⟨#[9, 32]⟩ : ByteArray)).bind fun t186 => (if t185 = true then ((head_word.f t183 64).bind fun t187 => (if t187 = true then ((head_value.f k4 t186).bind fun t188 => (if t188 = true then (if x176003_4.length < 4398046511104 then (head_Parse.l0 k4 y176 (y176.length : Int) (wrap64 (x111_4 + 1)) (rdOf ByteArray.empty t158 0) (rdOf ByteArray.empty t158 1) (wrap64 (t168)) (x176003_4 ++ [(⟨t183, t186⟩ : S52)])) else (none)) else (some ((⟨#[]⟩ : ByteArray), (⟨#[]⟩ : ByteArray), 0, ([] : List (S52)), 400)))) else (some ((⟨#[]⟩ : ByteArray), (⟨#[]⟩ : ByteArray), 0, ([] : List (S52)), 400)))) else (some ((⟨#[]⟩ : ByteArray), (⟨#[]⟩ : ByteArray), 0, ([] : List (S52)), 400)))) = some (r1, r2, r3, r4, r5) := H
                         have A66 := Aside0.mk A660
                         clear A660
                         replace H := Option.bind_eq_some_iff.mp H
                         obtain ⟨t186, A670, H⟩ := H
                         replace H : (if t185 = true then ((head_word.f t183 64).bind fun t187 => (if t187 = true then ((head_value.f k4 t186).bind fun t188 => (if t188 = true then (if x176003_4.length < 4398046511104 then (head_Parse.l0 k4 y176 (y176.length : Int) (wrap64 (x111_4 + 1)) (rdOf ByteArray.empty t158 0) (rdOf ByteArray.empty t158 1) (wrap64 (t168)) (x176003_4 ++ [(⟨t183, t186⟩ : S52)])) else (none)) else (some ((⟨#[]⟩ : ByteArray), (⟨#[]⟩ : ByteArray), 0, ([] : List (S52)), 400)))) else (some ((⟨#[]⟩ : ByteArray), (⟨#[]⟩ : ByteArray), 0, ([] : List (S52)), 400)))) else (some ((⟨#[]⟩ : ByteArray), (⟨#[]⟩ : ByteArray), 0, ([] : List (S52)), 400))) = some (r1, r2, r3, r4, r5) := H
                         have A67 := Aside0.mk A670
                         clear A670
                         by_cases c68 : t185 = true
                         ·subst c68
                          have H1 : ((head_word.f t183 64).bind fun t187 => (if t187 = true then ((head_value.f k4 t186).bind fun t188 => (if t188 = true then (if x176003_4.length < 4398046511104 then (head_Parse.l0 k4 y176 (y176.length : Int) (wrap64 (x111_4 + 1)) (rdOf ByteArray.empty t158 0) (rdOf ByteArray.empty t158 1) (wrap64 (t168)) (x176003_4 ++ [(⟨t183, t186⟩ : S52)])) else (none)) else (some ((⟨#[]⟩ : ByteArray), (⟨#[]⟩ : ByteArray), 0, ([] : List (S52)), 400)))) else (some ((⟨#[]⟩ : ByteArray), (⟨#[]⟩ : ByteArray), 0, ([] : List (S52)), 400)))) = some (r1, r2, r3, r4, r5) := by rw [if_pos rfl] at H; exact H
                          clear H
                          have H := H1
                          clear H1
                          replace H := Option.bind_eq_some_iff.mp H
                          obtain ⟨t187, A690, H⟩ := H
                          replace H : (if t187 = true then ((head_value.f k4 t186).bind fun t188 => (if t188 = true then (if x176003_4.length < 4398046511104 then (head_Parse.l0 k4 y176 (y176.length : Int) (wrap64 (x111_4 + 1)) (rdOf ByteArray.empty t158 0) (rdOf ByteArray.empty t158 1) (wrap64 (t168)) (x176003_4 ++ [(⟨t183, t186⟩ : S52)])) else (none)) else (some ((⟨#[]⟩ : ByteArray), (⟨#[]⟩ : ByteArray), 0, ([] : List (S52)), 400)))) else (some ((⟨#[]⟩ : ByteArray), (⟨#[]⟩ : ByteArray), 0, ([] : List (S52)), 400))) = some (r1, r2, r3, r4, r5) := H
                          have A69 := Aside0.mk A690
                          clear A690
                          by_cases c70 : t187 = true
                          ·subst c70
                           have H1 : ((head_value.f k4 t186).bind fun t188 => (if t188 = true then (if x176003_4.length < 4398046511104 then (head_Parse.l0 k4 y176 (y176.length : Int) (wrap64 (x111_4 + 1)) (rdOf ByteArray.empty t158 0) (rdOf ByteArray.empty t158 1) (wrap64 (t168)) (x176003_4 ++ [(⟨t183, t186⟩ : S52)])) else (none)) else (some ((⟨#[]⟩ : ByteArray), (⟨#[]⟩ : ByteArray), 0, ([] : List (S52)), 400)))) = some (r1, r2, r3, r4, r5) := by rw [if_pos rfl] at H; exact H
                           clear H
                           have H := H1
                           clear H1
                           replace H := Option.bind_eq_some_iff.mp H
                           obtain ⟨t188, A710, H⟩ := H
                           replace H : (if t188 = true then (if x176003_4.length < 4398046511104 then (head_Parse.l0 k4 y176 (y176.length : Int) (wrap64 (x111_4 + 1)) (rdOf ByteArray.empty t158 0) (rdOf ByteArray.empty t158 1) (wrap64 (t168)) (x176003_4 ++ [(⟨t183, t186⟩ : S52)])) else (none)) else (some ((⟨#[]⟩ : ByteArray), (⟨#[]⟩ : ByteArray), 0, ([] : List (S52)), 400))) = some (r1, r2, r3, r4, r5) := H
                           have A71 := Aside0.mk A710
                           clear A710
                           by_cases c72 : t188 = true
                           ·subst c72
                            have H1 : (if x176003_4.length < 4398046511104 then (head_Parse.l0 k4 y176 (y176.length : Int) (wrap64 (x111_4 + 1)) (rdOf ByteArray.empty t158 0) (rdOf ByteArray.empty t158 1) (wrap64 (t168)) (x176003_4 ++ [(⟨t183, t186⟩ : S52)])) else (none)) = some (r1, r2, r3, r4, r5) := by rw [if_pos rfl] at H; exact H
                            clear H
                            have H := H1
                            clear H1
                            by_cases c73 : x176003_4.length < 4398046511104
                            ·rw [if_pos c73] at H
                             have LMc73 := Aside0.mk c73
                             clear c73
                             obtain ⟨y189, hy189⟩ : ∃ y_ : List (S52), y_ = (x176003_4 ++ [(⟨t183, t186⟩ : S52)]) := ⟨_, rfl⟩
                             replace H : (head_Parse.l0 k4 y176 (y176.length : Int) (wrap64 (x111_4 + 1)) (rdOf ByteArray.empty t158 0) (rdOf ByteArray.empty t158 1) (wrap64 (t168)) y189) = some (r1, r2, r3, r4, r5) := by first | (rw [hy189]; with_reducible exact H) | (have H2_ := (Option.bind_some _ _).symm.trans H; rw [hy189]; with_reducible exact H2_) | (have H2_ := (Option.bind_some _ _).symm.trans H; with_reducible exact H2_) | with_reducible exact H | (rw [hy189]; exact H) | exact H
                             have Ny189 := Aside0.mk hy189
                             clear hy189
                             have H' := Aside0.mk H
                             clear H
                             have p182 : 0 ≤ (x111_4 : Int) := of_decide_eq_true (by first | (with_reducible assumption) | assumption)
                             have q182 : x111_4 < (y176.length : Int) := of_decide_eq_true (by first | (with_reducible assumption) | assumption)
                             obtain ⟨ad182, e182, hx182_0⟩ := Kd.at_string (Kd.V_reads' HO_109.out).2.2 x111_4 p182 q182
                             cases e182
                             replace p182 := eq_true p182
                             replace q182 := eq_true q182
                             have hnb74 := NB175_152.out
                             have hnc74 := NB152_175.out
                             have hcz75_0 : wr.cell? ⟨gb175, 0, none⟩ = some (.string (rdOf ByteArray.empty t158 0)) := (blk_cell BK175.out 0).trans rfl
                             have hcz75_1 : wr.cell? ⟨gb175, 1, none⟩ = some (.string (rdOf ByteArray.empty t158 1)) := (blk_cell BK175.out 1).trans rfl
                             have hcz75_2 : wr.cell? ⟨gb175, 2, none⟩ = some (.int .i64 (wrap64 (t168))) := (blk_cell BK175.out 2).trans rfl
                             have hcz75_3 : wr.cell? ⟨gb175, 3, none⟩ = some (u176003) := (blk_cell BK175.out 3).trans rfl
                             have hfz75_0 := blk_frozen BK175.out 0
                             have hfz75_1 := blk_frozen BK175.out 1
                             have hfz75_2 := blk_frozen BK175.out 2
                             have hfz75_3 := blk_frozen BK175.out 3
                             obtain ⟨Ao76, co76, eo76⟩ := Kd.R_slice HO_176003.out
                             subst eo76
                             go_wp2_with (first | ((with_reducible refine gate_callee (f := 112) rfl ?_); refine goesL_ (some 122) rfl rfl Tryz.func112 (by kernel_rfl) rfl #[.string (rdOf ByteArray.empty y176 x111_4), .string (⟨#[58]⟩ : ByteArray)] rfl (by (try simp only [List.map_toArray, List.map_cons, List.map_nil]); first | done | rfl | (simp only [List.length_drop, List.length_take]; rfl)) ?_; (with_reducible refine (strings_Cut.calls (rdOf ByteArray.empty y176 x111_4) (⟨#[58]⟩ : ByteArray) t183 t184 true _ ?side1 A66.out).mono ?_); (case side1 => exact GG_step HGG.out (by decide) (by repeat (first | (with_reducible first | exact HB.out | apply below_alloc | apply pw_below_drewN | apply below_drew1 | refine below_set ?_ GE152.out | refine below_set ?_ GE175.out) | exact HB.out))); rintro e w' ⟨rfl, ⟨nd, rfl⟩⟩; refine ⟨_, rfl, ?_⟩; (try (rw [drewN_self wr]; generalize hq_ : World.drewN wr _ = wr; have n0_ : Aside0 (Kd.V Kd.string 9 wr w.heap.size (fun k_ => some k_ ≠ (.slice Ao76 x176003_4.length co76 : Value).ownBlock ∧ k_ ≠ gb152 ∧ k_ ≠ gb175) (.slice (some ad182) y176.length c57) y176) := ⟨by rw [← hq_]; exact (by (with_reducible repeat (first | apply Kd.V_alloc | apply Kd.V_drewN | apply Kd.V_drew)); exact HO_109.out)⟩; have n1_ : Aside0 (Kd.R k52 52 wr w.heap.size (fun _ => True) (.slice Ao76 x176003_4.length co76) x176003_4) := ⟨by rw [← hq_]; exact (by (with_reducible repeat (first | apply Kd.R_alloc | apply Kd.R_drewN | apply Kd.R_drew)); exact HO_176003.out)⟩; have n2_ : Aside0 (wr.heap[gb152]? = some (.cells #[.string x153000_4, .string x153001_4, .int .i64 x153002_4, .slice none 0 0] 35 (0, 0))) := ⟨by rw [← hq_]; exact (by (with_reducible repeat (first | refine blk_drewN ?_ _ | refine blk_drew ?_ | refine blk_alloc ?_ _)); exact BK152.out)⟩; have n3_ : Aside0 (wr.heap[gb175]? = some (.cells #[.string (rdOf ByteArray.empty t158 0), .string (rdOf ByteArray.empty t158 1), .int .i64 (wrap64 (t168)), .slice Ao76 x176003_4.length co76] 35 (0, 0))) := ⟨by rw [← hq_]; exact (by (with_reducible repeat (first | refine blk_drewN ?_ _ | refine blk_drew ?_ | refine blk_alloc ?_ _)); exact BK175.out)⟩; have n4_ : Aside0 (Below w.heap.size w wr) := ⟨by rw [← hq_]; exact (by repeat (first | (with_reducible first | exact HB.out | apply below_alloc | apply pw_below_drewN | apply below_drew1 | refine below_set ?_ GE152.out | refine below_set ?_ GE175.out) | exact HB.out))⟩; clear HO_109 HO_176003 BK152 BK175 HB hq_; have HO_109 := n0_; have HO_176003 := n1_; have BK152 := n2_; have BK175 := n3_; have HB := n4_; clear n0_ n1_ n2_ n3_ n4_))) | ((with_reducible refine gate_callee (f := 100) rfl ?_); refine goesL_ (some 127) rfl rfl Tryz.func100 (by kernel_rfl) rfl #[.string t184, .string (⟨#[9, 32]⟩ : ByteArray)] rfl (by (try simp only [List.map_toArray, List.map_cons, List.map_nil]); first | done | rfl | (simp only [List.length_drop, List.length_take]; rfl)) ?_; (with_reducible refine (strings_Trim.calls t184 (⟨#[9, 32]⟩ : ByteArray) t186 _ A67.out).mono ?_); rintro e w77 ⟨rfl, hb⟩; refine ⟨_, rfl, ?_⟩; have n0_ := Aside0.mk (Kd.V_below (by (with_reducible repeat (first | apply Kd.V_alloc | apply Kd.V_drewN | apply Kd.V_drew)); exact HO_109.out) hb); have n1_ := Aside0.mk (Kd.R_below (by (with_reducible repeat (first | apply Kd.R_alloc | apply Kd.R_drewN | apply Kd.R_drew)); exact HO_176003.out) hb); have n2_ := Aside0.mk (blk_below (g := gb152) (o := .cells #[.string x153000_4, .string x153001_4, .int .i64 x153002_4, .slice none 0 0] 35 (0, 0)) (by (with_reducible repeat (first | refine blk_drewN ?_ _ | refine blk_drew ?_ | refine blk_alloc ?_ _)); exact BK152.out) hb); have n3_ := Aside0.mk (blk_below (g := gb175) (o := .cells #[.string (rdOf ByteArray.empty t158 0), .string (rdOf ByteArray.empty t158 1), .int .i64 (wrap64 (t168)), .slice Ao76 x176003_4.length co76] 35 (0, 0)) (by (with_reducible repeat (first | refine blk_drewN ?_ _ | refine blk_drew ?_ | refine blk_alloc ?_ _)); exact BK175.out) hb); have n4_ := Aside0.mk (below_step (by repeat (first | (with_reducible first | exact HB.out | apply below_alloc | apply pw_below_drewN | apply below_drew1 | refine below_set ?_ GE152.out | refine below_set ?_ GE175.out) | exact HB.out)) hb); clear HO_109; clear HO_176003; clear BK152; clear BK175; clear HB; have HO_109 := n0_; have HO_176003 := n1_; have BK152 := n2_; have BK175 := n3_; have HB := n4_; clear n0_ n1_ n2_ n3_ n4_; (try clear hb); (try clear hb2); (try clear hk); (try clear hi)) | (go_at_call 109; (with_reducible refine (head_word.calls t183 64 true _ A69.out).mono ?_); rintro e w78 ⟨rfl, hb⟩; have n0_ := Aside0.mk (Kd.V_below (by (with_reducible repeat (first | apply Kd.V_alloc | apply Kd.V_drewN | apply Kd.V_drew)); exact HO_109.out) hb); have n1_ := Aside0.mk (Kd.R_below (by (with_reducible repeat (first | apply Kd.R_alloc | apply Kd.R_drewN | apply Kd.R_drew)); exact HO_176003.out) hb); have n2_ := Aside0.mk (blk_below (g := gb152) (o := .cells #[.string x153000_4, .string x153001_4, .int .i64 x153002_4, .slice none 0 0] 35 (0, 0)) (by (with_reducible repeat (first | refine blk_drewN ?_ _ | refine blk_drew ?_ | refine blk_alloc ?_ _)); exact BK152.out) hb); have n3_ := Aside0.mk (blk_below (g := gb175) (o := .cells #[.string (rdOf ByteArray.empty t158 0), .string (rdOf ByteArray.empty t158 1), .int .i64 (wrap64 (t168)), .slice Ao76 x176003_4.length co76] 35 (0, 0)) (by (with_reducible repeat (first | refine blk_drewN ?_ _ | refine blk_drew ?_ | refine blk_alloc ?_ _)); exact BK175.out) hb); have n4_ := Aside0.mk (below_step (by repeat (first | (with_reducible first | exact HB.out | apply below_alloc | apply pw_below_drewN | apply below_drew1 | refine below_set ?_ GE152.out | refine below_set ?_ GE175.out) | exact HB.out)) hb); clear HO_109; clear HO_176003; clear BK152; clear BK175; clear HB; have HO_109 := n0_; have HO_176003 := n1_; have BK152 := n2_; have BK175 := n3_; have HB := n4_; clear n0_ n1_ n2_ n3_ n4_; (try clear hb); (try clear hb2); (try clear hk); (try clear hi)) | (go_at_call 113; (with_reducible refine (head_value.calls k4 t186 true _ A71.out).mono ?_); rintro e w79 ⟨rfl, hb⟩; have n0_ := Aside0.mk (Kd.V_below (by (with_reducible repeat (first | apply Kd.V_alloc | apply Kd.V_drewN | apply Kd.V_drew)); exact HO_109.out) hb); have n1_ := Aside0.mk (Kd.R_below (by (with_reducible repeat (first | apply Kd.R_alloc | apply Kd.R_drewN | apply Kd.R_drew)); exact HO_176003.out) hb); have n2_ := Aside0.mk (blk_below (g := gb152) (o := .cells #[.string x153000_4, .string x153001_4, .int .i64 x153002_4, .slice none 0 0] 35 (0, 0)) (by (with_reducible repeat (first | refine blk_drewN ?_ _ | refine blk_drew ?_ | refine blk_alloc ?_ _)); exact BK152.out) hb); have n3_ := Aside0.mk (blk_below (g := gb175) (o := .cells #[.string (rdOf ByteArray.empty t158 0), .string (rdOf ByteArray.empty t158 1), .int .i64 (wrap64 (t168)), .slice Ao76 x176003_4.length co76] 35 (0, 0)) (by (with_reducible repeat (first | refine blk_drewN ?_ _ | refine blk_drew ?_ | refine blk_alloc ?_ _)); exact BK175.out) hb); have n4_ := Aside0.mk (below_step (by repeat (first | (with_reducible first | exact HB.out | apply below_alloc | apply pw_below_drewN | apply below_drew1 | refine below_set ?_ GE152.out | refine below_set ?_ GE175.out) | exact HB.out)) hb); clear HO_109; clear HO_176003; clear BK152; clear BK175; clear HB; have HO_109 := n0_; have HO_176003 := n1_; have BK152 := n2_; have BK175 := n3_; have HB := n4_; clear n0_ n1_ n2_ n3_ n4_; (try clear hb); (try clear hb2); (try clear hk); (try clear hi); have hcz80_0 : w79.cell? ⟨gb175, 0, none⟩ = some (.string (rdOf ByteArray.empty t158 0)) := (blk_cell BK175.out 0).trans rfl; have hcz80_1 : w79.cell? ⟨gb175, 1, none⟩ = some (.string (rdOf ByteArray.empty t158 1)) := (blk_cell BK175.out 1).trans rfl; have hcz80_2 : w79.cell? ⟨gb175, 2, none⟩ = some (.int .i64 (wrap64 (t168))) := (blk_cell BK175.out 2).trans rfl; have hcz80_3 : w79.cell? ⟨gb175, 3, none⟩ = some (.slice Ao76 x176003_4.length co76) := (blk_cell BK175.out 3).trans rfl; have hfz80_0 := blk_frozen BK175.out 0; have hfz80_1 := blk_frozen BK175.out 1; have hfz80_2 := blk_frozen BK175.out 2; have hfz80_3 := blk_frozen BK175.out 3) | ((with_reducible refine gate_builtin (b := .append) (xs := #[.tmp 142, .tmp 146]) rfl ?_); (try (refine gate_guard (by rfl) ?_; dsimp only)); at_builtin; refine Kd.R_append k52 (w0 := w) w.heap.size rfl (.tmp 142) (.tmp 146) 33 52 (.agg #[(.string ⟨#[]⟩), (.string ⟨#[]⟩)]) 32 rfl Tryz.underlying33 info52 rfl (by decide) (by omega) (.slice Ao76 x176003_4.length co76) x176003_4 (⟨t183, t186⟩ : S52) [.string t183, .string t186] (fun _ => True) (fun _ => False) rfl rfl ?aP (fun _ hk => hk.elim) ?aF ?aO ?aB ?aS ?aL ?_; (case aP => exact k52_mkM _ _ _ (⟨t183, t186⟩ : S52)); (case aB => exact (by repeat (first | (with_reducible first | exact HB.out | apply below_alloc | apply pw_below_drewN | apply below_drew1 | refine below_set ?_ GE152.out | refine below_set ?_ GE175.out) | exact HB.out))); (case aF => exact (fun _ _ => trivial)); (case aO => exact (by (with_reducible repeat (first | apply Kd.R_alloc | apply Kd.R_drewN | apply Kd.R_drew)); exact HO_176003.out)); (case aS => exact (below_size (by repeat (first | (with_reducible first | exact HB.out | apply below_alloc | apply pw_below_drewN | apply below_drew1 | refine below_set ?_ GE152.out | refine below_set ?_ GE175.out) | exact HB.out)))); (case aL => have := LMc73.out; omega); intro v190 w81 ho hb hg hat; rw [← Ny189.out] at ho; have n0_ := Aside0.mk (Kd.V_afterv (ok := (fun k_ => k_ ≠ gb152 ∧ k_ ≠ gb175)) (by (with_reducible repeat (first | apply Kd.V_alloc | apply Kd.V_drewN | apply Kd.V_drew)); exact Kd.V_mono HO_109.out (fun _ hk => ⟨⟨hk.2.1, hk.2.2⟩, hk.1⟩)) hg hat); have n1_ := Aside0.mk (blk_grown (g := gb152) (o := .cells #[.string x153000_4, .string x153001_4, .int .i64 x153002_4, .slice none 0 0] 35 (0, 0)) (by (with_reducible repeat (first | refine blk_drewN ?_ _ | refine blk_drew ?_ | refine blk_alloc ?_ _)); exact BK152.out) hg (Kd.R_ne HO_176003.out BK152.out (by decide))); have n2_ := Aside0.mk (blk_grown (g := gb175) (o := .cells #[.string (rdOf ByteArray.empty t158 0), .string (rdOf ByteArray.empty t158 1), .int .i64 (wrap64 (t168)), .slice Ao76 x176003_4.length co76] 35 (0, 0)) (by (with_reducible repeat (first | refine blk_drewN ?_ _ | refine blk_drew ?_ | refine blk_alloc ?_ _)); exact BK175.out) hg (Kd.R_ne HO_176003.out BK175.out (by decide))); have n3_ := Aside0.mk (hb); have n4_ := Aside0.mk (ho); clear HO_109; clear BK152; clear BK175; clear HB; clear HO_176003; have HO_109 := n0_; have BK152 := n1_; have BK175 := n2_; have HB := n3_; have HO191 := n4_; clear n0_ n1_ n2_ n3_ n4_; clear ho hb hg hat; obtain ⟨Ao82, co82, eo82⟩ := Kd.R_slice HO191.out; subst eo82; have hcz83_0 : w81.cell? ⟨gb175, 0, none⟩ = some (.string (rdOf ByteArray.empty t158 0)) := (blk_cell BK175.out 0).trans rfl; have hcz83_1 : w81.cell? ⟨gb175, 1, none⟩ = some (.string (rdOf ByteArray.empty t158 1)) := (blk_cell BK175.out 1).trans rfl; have hcz83_2 : w81.cell? ⟨gb175, 2, none⟩ = some (.int .i64 (wrap64 (t168))) := (blk_cell BK175.out 2).trans rfl; have hcz83_3 : w81.cell? ⟨gb175, 3, none⟩ = some (.slice Ao76 x176003_4.length co76) := (blk_cell BK175.out 3).trans rfl; have hfz83_0 := blk_frozen BK175.out 0; have hfz83_1 := blk_frozen BK175.out 1; have hfz83_2 := blk_frozen BK175.out 2; have hfz83_3 := blk_frozen BK175.out 3))
                             go_roundg k4
                             case measure => have := HJ5.out; have := HJ14.out; have := HJ36.out; have := HK4.out; omega
                             case rel => exact ⟨(wrap64 (x111_4 + 1)), (x153000_4), (x153001_4), (x153002_4), (y189), (.slice Ao82 y189.length co82), (by first | rfl | (simp; done) | (simp [*]; done)), H', ⟨by have := HJ5.out; have := HJ14.out; have := HJ36.out; have := HK4.out; omega⟩, ⟨by (with_reducible repeat (first | apply Kd.V_alloc | apply Kd.V_drewN | apply Kd.V_drew)); exact Kd.V_mono (Kd.V_far (p := ⟨gb175, 3, none⟩) (Kd.V_mono HO_109.out (fun k_ hk => (⟨hk, hk.1.2⟩ : _ ∧ k_ ≠ gb175))) (fun _ hk => hk.2) (.slice Ao82 y189.length co82)) (fun _ hk => ⟨hk.1.2, ⟨hk.1.1.1, hk.1.1.2⟩⟩)⟩, ⟨by (with_reducible repeat (first | apply Kd.R_alloc | apply Kd.R_drewN | apply Kd.R_drew)); exact Kd.R_mono (Kd.R_far (p := ⟨gb175, 3, none⟩) (Kd.R_types HO191.out BK175.out (by decide)) (fun _ hk => hk.2) (.slice Ao82 y189.length co82)) (fun _ hk => trivial)⟩, ⟨by (with_reducible repeat (first | refine blk_drewN ?_ _ | refine blk_drew ?_ | refine blk_alloc ?_ _)); refine blk_far ?_ NB152_175.out _; (with_reducible repeat (first | refine blk_drewN ?_ _ | refine blk_drew ?_ | refine blk_alloc ?_ _)); exact BK152.out⟩, ⟨by (with_reducible repeat (first | refine blk_drewN ?_ _ | refine blk_drew ?_ | refine blk_alloc ?_ _)); refine blk_put (cs := #[.string (rdOf ByteArray.empty t158 0), .string (rdOf ByteArray.empty t158 1), .int .i64 (wrap64 (t168)), .slice Ao76 x176003_4.length co76]) ?_ 3 _ rfl; (with_reducible repeat (first | refine blk_drewN ?_ _ | refine blk_drew ?_ | refine blk_alloc ?_ _)); exact BK175.out⟩, ⟨by repeat (first | (with_reducible first | exact HB.out | apply below_alloc | apply pw_below_drewN | apply below_drew1 | refine below_set ?_ GE152.out | refine below_set ?_ GE175.out) | exact HB.out)⟩⟩
                            ·rw [if_neg c73] at H
                             exact absurd H (by simp)
                           ·replace c72 := Bool.eq_false_iff.mpr c72
                            subst c72
                            have H1 : (some ((⟨#[]⟩ : ByteArray), (⟨#[]⟩ : ByteArray), 0, ([] : List (S52)), 400)) = some (r1, r2, r3, r4, r5) := by rw [if_neg (show ¬ (false = true) by decide)] at H; exact H
                            clear H
                            have H := H1
                            clear H1
                            simp only [Option.some.injEq, Prod.mk.injEq] at H
                            obtain ⟨rfl, rfl, rfl, rfl, rfl⟩ := H
                            have p182 : 0 ≤ (x111_4 : Int) := of_decide_eq_true (by first | (with_reducible assumption) | assumption)
                            have q182 : x111_4 < (y176.length : Int) := of_decide_eq_true (by first | (with_reducible assumption) | assumption)
                            obtain ⟨ad182, e182, hx182_0⟩ := Kd.at_string (Kd.V_reads' HO_109.out).2.2 x111_4 p182 q182
                            cases e182
                            replace p182 := eq_true p182
                            replace q182 := eq_true q182
                            have hnb84 := NB175_152.out
                            have hnc84 := NB152_175.out
                            have hcz85_0 : wr.cell? ⟨gb175, 0, none⟩ = some (.string (rdOf ByteArray.empty t158 0)) := (blk_cell BK175.out 0).trans rfl
                            have hcz85_1 : wr.cell? ⟨gb175, 1, none⟩ = some (.string (rdOf ByteArray.empty t158 1)) := (blk_cell BK175.out 1).trans rfl
                            have hcz85_2 : wr.cell? ⟨gb175, 2, none⟩ = some (.int .i64 (wrap64 (t168))) := (blk_cell BK175.out 2).trans rfl
                            have hcz85_3 : wr.cell? ⟨gb175, 3, none⟩ = some (u176003) := (blk_cell BK175.out 3).trans rfl
                            have hfz85_0 := blk_frozen BK175.out 0
                            have hfz85_1 := blk_frozen BK175.out 1
                            have hfz85_2 := blk_frozen BK175.out 2
                            have hfz85_3 := blk_frozen BK175.out 3
                            obtain ⟨Ao86, co86, eo86⟩ := Kd.R_slice HO_176003.out
                            subst eo86
                            go_wp2_with (first | ((with_reducible refine gate_callee (f := 112) rfl ?_); refine goesL_ (some 122) rfl rfl Tryz.func112 (by kernel_rfl) rfl #[.string (rdOf ByteArray.empty y176 x111_4), .string (⟨#[58]⟩ : ByteArray)] rfl (by (try simp only [List.map_toArray, List.map_cons, List.map_nil]); first | done | rfl | (simp only [List.length_drop, List.length_take]; rfl)) ?_; (with_reducible refine (strings_Cut.calls (rdOf ByteArray.empty y176 x111_4) (⟨#[58]⟩ : ByteArray) t183 t184 true _ ?side1 A66.out).mono ?_); (case side1 => exact GG_step HGG.out (by decide) (by repeat (first | (with_reducible first | exact HB.out | apply below_alloc | apply pw_below_drewN | apply below_drew1 | refine below_set ?_ GE152.out | refine below_set ?_ GE175.out) | exact HB.out))); rintro e w' ⟨rfl, ⟨nd, rfl⟩⟩; refine ⟨_, rfl, ?_⟩; (try (rw [drewN_self wr]; generalize hq_ : World.drewN wr _ = wr; have n0_ : Aside0 (Kd.V Kd.string 9 wr w.heap.size (fun k_ => some k_ ≠ (.slice Ao86 x176003_4.length co86 : Value).ownBlock ∧ k_ ≠ gb152 ∧ k_ ≠ gb175) (.slice (some ad182) y176.length c57) y176) := ⟨by rw [← hq_]; exact (by (with_reducible repeat (first | apply Kd.V_alloc | apply Kd.V_drewN | apply Kd.V_drew)); exact HO_109.out)⟩; have n1_ : Aside0 (Kd.R k52 52 wr w.heap.size (fun _ => True) (.slice Ao86 x176003_4.length co86) x176003_4) := ⟨by rw [← hq_]; exact (by (with_reducible repeat (first | apply Kd.R_alloc | apply Kd.R_drewN | apply Kd.R_drew)); exact HO_176003.out)⟩; have n2_ : Aside0 (wr.heap[gb152]? = some (.cells #[.string x153000_4, .string x153001_4, .int .i64 x153002_4, .slice none 0 0] 35 (0, 0))) := ⟨by rw [← hq_]; exact (by (with_reducible repeat (first | refine blk_drewN ?_ _ | refine blk_drew ?_ | refine blk_alloc ?_ _)); exact BK152.out)⟩; have n3_ : Aside0 (wr.heap[gb175]? = some (.cells #[.string (rdOf ByteArray.empty t158 0), .string (rdOf ByteArray.empty t158 1), .int .i64 (wrap64 (t168)), .slice Ao86 x176003_4.length co86] 35 (0, 0))) := ⟨by rw [← hq_]; exact (by (with_reducible repeat (first | refine blk_drewN ?_ _ | refine blk_drew ?_ | refine blk_alloc ?_ _)); exact BK175.out)⟩; have n4_ : Aside0 (Below w.heap.size w wr) := ⟨by rw [← hq_]; exact (by repeat (first | (with_reducible first | exact HB.out | apply below_alloc | apply pw_below_drewN | apply below_drew1 | refine below_set ?_ GE152.out | refine below_set ?_ GE175.out) | exact HB.out))⟩; clear HO_109 HO_176003 BK152 BK175 HB hq_; have HO_109 := n0_; have HO_176003 := n1_; have BK152 := n2_; have BK175 := n3_; have HB := n4_; clear n0_ n1_ n2_ n3_ n4_))) | ((with_reducible refine gate_callee (f := 100) rfl ?_); refine goesL_ (some 127) rfl rfl Tryz.func100 (by kernel_rfl) rfl #[.string t184, .string (⟨#[9, 32]⟩ : ByteArray)] rfl (by (try simp only [List.map_toArray, List.map_cons, List.map_nil]); first | done | rfl | (simp only [List.length_drop, List.length_take]; rfl)) ?_; (with_reducible refine (strings_Trim.calls t184 (⟨#[9, 32]⟩ : ByteArray) t186 _ A67.out).mono ?_); rintro e w87 ⟨rfl, hb⟩; refine ⟨_, rfl, ?_⟩; have n0_ := Aside0.mk (Kd.V_below (by (with_reducible repeat (first | apply Kd.V_alloc | apply Kd.V_drewN | apply Kd.V_drew)); exact HO_109.out) hb); have n1_ := Aside0.mk (Kd.R_below (by (with_reducible repeat (first | apply Kd.R_alloc | apply Kd.R_drewN | apply Kd.R_drew)); exact HO_176003.out) hb); have n2_ := Aside0.mk (blk_below (g := gb152) (o := .cells #[.string x153000_4, .string x153001_4, .int .i64 x153002_4, .slice none 0 0] 35 (0, 0)) (by (with_reducible repeat (first | refine blk_drewN ?_ _ | refine blk_drew ?_ | refine blk_alloc ?_ _)); exact BK152.out) hb); have n3_ := Aside0.mk (blk_below (g := gb175) (o := .cells #[.string (rdOf ByteArray.empty t158 0), .string (rdOf ByteArray.empty t158 1), .int .i64 (wrap64 (t168)), .slice Ao86 x176003_4.length co86] 35 (0, 0)) (by (with_reducible repeat (first | refine blk_drewN ?_ _ | refine blk_drew ?_ | refine blk_alloc ?_ _)); exact BK175.out) hb); have n4_ := Aside0.mk (below_step (by repeat (first | (with_reducible first | exact HB.out | apply below_alloc | apply pw_below_drewN | apply below_drew1 | refine below_set ?_ GE152.out | refine below_set ?_ GE175.out) | exact HB.out)) hb); clear HO_109; clear HO_176003; clear BK152; clear BK175; clear HB; have HO_109 := n0_; have HO_176003 := n1_; have BK152 := n2_; have BK175 := n3_; have HB := n4_; clear n0_ n1_ n2_ n3_ n4_; (try clear hb); (try clear hb2); (try clear hk); (try clear hi)) | (go_at_call 109; (with_reducible refine (head_word.calls t183 64 true _ A69.out).mono ?_); rintro e w88 ⟨rfl, hb⟩; have n0_ := Aside0.mk (Kd.V_below (by (with_reducible repeat (first | apply Kd.V_alloc | apply Kd.V_drewN | apply Kd.V_drew)); exact HO_109.out) hb); have n1_ := Aside0.mk (Kd.R_below (by (with_reducible repeat (first | apply Kd.R_alloc | apply Kd.R_drewN | apply Kd.R_drew)); exact HO_176003.out) hb); have n2_ := Aside0.mk (blk_below (g := gb152) (o := .cells #[.string x153000_4, .string x153001_4, .int .i64 x153002_4, .slice none 0 0] 35 (0, 0)) (by (with_reducible repeat (first | refine blk_drewN ?_ _ | refine blk_drew ?_ | refine blk_alloc ?_ _)); exact BK152.out) hb); have n3_ := Aside0.mk (blk_below (g := gb175) (o := .cells #[.string (rdOf ByteArray.empty t158 0), .string (rdOf ByteArray.empty t158 1), .int .i64 (wrap64 (t168)), .slice Ao86 x176003_4.length co86] 35 (0, 0)) (by (with_reducible repeat (first | refine blk_drewN ?_ _ | refine blk_drew ?_ | refine blk_alloc ?_ _)); exact BK175.out) hb); have n4_ := Aside0.mk (below_step (by repeat (first | (with_reducible first | exact HB.out | apply below_alloc | apply pw_below_drewN | apply below_drew1 | refine below_set ?_ GE152.out | refine below_set ?_ GE175.out) | exact HB.out)) hb); clear HO_109; clear HO_176003; clear BK152; clear BK175; clear HB; have HO_109 := n0_; have HO_176003 := n1_; have BK152 := n2_; have BK175 := n3_; have HB := n4_; clear n0_ n1_ n2_ n3_ n4_; (try clear hb); (try clear hb2); (try clear hk); (try clear hi)) | (go_at_call 113; (with_reducible refine (head_value.calls k4 t186 false _ A71.out).mono ?_); rintro e w89 ⟨rfl, hb⟩; have n0_ := Aside0.mk (Kd.V_below (by (with_reducible repeat (first | apply Kd.V_alloc | apply Kd.V_drewN | apply Kd.V_drew)); exact HO_109.out) hb); have n1_ := Aside0.mk (Kd.R_below (by (with_reducible repeat (first | apply Kd.R_alloc | apply Kd.R_drewN | apply Kd.R_drew)); exact HO_176003.out) hb); have n2_ := Aside0.mk (blk_below (g := gb152) (o := .cells #[.string x153000_4, .string x153001_4, .int .i64 x153002_4, .slice none 0 0] 35 (0, 0)) (by (with_reducible repeat (first | refine blk_drewN ?_ _ | refine blk_drew ?_ | refine blk_alloc ?_ _)); exact BK152.out) hb); have n3_ := Aside0.mk (blk_below (g := gb175) (o := .cells #[.string (rdOf ByteArray.empty t158 0), .string (rdOf ByteArray.empty t158 1), .int .i64 (wrap64 (t168)), .slice Ao86 x176003_4.length co86] 35 (0, 0)) (by (with_reducible repeat (first | refine blk_drewN ?_ _ | refine blk_drew ?_ | refine blk_alloc ?_ _)); exact BK175.out) hb); have n4_ := Aside0.mk (below_step (by repeat (first | (with_reducible first | exact HB.out | apply below_alloc | apply pw_below_drewN | apply below_drew1 | refine below_set ?_ GE152.out | refine below_set ?_ GE175.out) | exact HB.out)) hb); clear HO_109; clear HO_176003; clear BK152; clear BK175; clear HB; have HO_109 := n0_; have HO_176003 := n1_; have BK152 := n2_; have BK175 := n3_; have HB := n4_; clear n0_ n1_ n2_ n3_ n4_; (try clear hb); (try clear hb2); (try clear hk); (try clear hi); have hcz90_0 : w89.cell? ⟨gb152, 0, none⟩ = some (.string x153000_4) := (blk_cell BK152.out 0).trans rfl; have hcz90_1 : w89.cell? ⟨gb152, 1, none⟩ = some (.string x153001_4) := (blk_cell BK152.out 1).trans rfl; have hcz90_2 : w89.cell? ⟨gb152, 2, none⟩ = some (.int .i64 x153002_4) := (blk_cell BK152.out 2).trans rfl; have hcz90_3 : w89.cell? ⟨gb152, 3, none⟩ = some (.slice none 0 0) := (blk_cell BK152.out 3).trans rfl; have hfz90_0 := blk_frozen BK152.out 0; have hfz90_1 := blk_frozen BK152.out 1; have hfz90_2 := blk_frozen BK152.out 2; have hfz90_3 := blk_frozen BK152.out 3))
                            refine bodyPost_ret (results_ct rfl _ _ gb152 35 #[.string (⟨#[]⟩ : ByteArray), .string (⟨#[]⟩ : ByteArray), .int .i64 0, .slice none 0 0] (0, 0) _ rfl (by (with_reducible repeat (first | refine blk_drewN ?_ _ | refine blk_drew ?_ | refine blk_alloc ?_ _)); refine blk_put (cs := #[.string (⟨#[]⟩ : ByteArray), .string (⟨#[]⟩ : ByteArray), .int .i64 0, .slice none 0 0]) ?_ 3 _ rfl; (with_reducible repeat (first | refine blk_drewN ?_ _ | refine blk_drew ?_ | refine blk_alloc ?_ _)); refine blk_put (cs := #[.string (⟨#[]⟩ : ByteArray), .string (⟨#[]⟩ : ByteArray), .int .i64 x153002_4, .slice none 0 0]) ?_ 2 _ rfl; (with_reducible repeat (first | refine blk_drewN ?_ _ | refine blk_drew ?_ | refine blk_alloc ?_ _)); refine blk_put (cs := #[.string (⟨#[]⟩ : ByteArray), .string x153001_4, .int .i64 x153002_4, .slice none 0 0]) ?_ 1 _ rfl; (with_reducible repeat (first | refine blk_drewN ?_ _ | refine blk_drew ?_ | refine blk_alloc ?_ _)); refine blk_put (cs := #[.string x153000_4, .string x153001_4, .int .i64 x153002_4, .slice none 0 0]) ?_ 0 _ rfl; (with_reducible repeat (first | refine blk_drewN ?_ _ | refine blk_drew ?_ | refine blk_alloc ?_ _)); exact BK152.out) Tryz.underlying35 rfl (by kernel_rfl)) rfl ?_
                            exact ⟨_, by first | rfl | (simp [errW_none, errW_some] <;> rfl) | (simp [*, errW_none, errW_some] <;> rfl), by first | exact Kd.R_nil _ _ _ _ _ | exact Kd.N_nil _ _ _ _ _ | exact Kd.V_nil _ _ _ _ _ | exact Kd.Q_nil _ _ _ _ _ | exact Kd.S_nil _ _ _ _ _, by repeat (first | (with_reducible first | exact HB.out | apply below_alloc | apply pw_below_drewN | apply below_drew1 | refine below_set ?_ GE152.out | refine below_set ?_ GE175.out) | exact HB.out)⟩
                          ·replace c70 := Bool.eq_false_iff.mpr c70
                           subst c70
                           have H1 : (some ((⟨#[]⟩ : ByteArray), (⟨#[]⟩ : ByteArray), 0, ([] : List (S52)), 400)) = some (r1, r2, r3, r4, r5) := by rw [if_neg (show ¬ (false = true) by decide)] at H; exact H
                           clear H
                           have H := H1
                           clear H1
                           simp only [Option.some.injEq, Prod.mk.injEq] at H
                           obtain ⟨rfl, rfl, rfl, rfl, rfl⟩ := H
                           have p182 : 0 ≤ (x111_4 : Int) := of_decide_eq_true (by first | (with_reducible assumption) | assumption)
                           have q182 : x111_4 < (y176.length : Int) := of_decide_eq_true (by first | (with_reducible assumption) | assumption)
                           obtain ⟨ad182, e182, hx182_0⟩ := Kd.at_string (Kd.V_reads' HO_109.out).2.2 x111_4 p182 q182
                           cases e182
                           replace p182 := eq_true p182
                           replace q182 := eq_true q182
                           have hnb91 := NB175_152.out
                           have hnc91 := NB152_175.out
                           have hcz92_0 : wr.cell? ⟨gb175, 0, none⟩ = some (.string (rdOf ByteArray.empty t158 0)) := (blk_cell BK175.out 0).trans rfl
                           have hcz92_1 : wr.cell? ⟨gb175, 1, none⟩ = some (.string (rdOf ByteArray.empty t158 1)) := (blk_cell BK175.out 1).trans rfl
                           have hcz92_2 : wr.cell? ⟨gb175, 2, none⟩ = some (.int .i64 (wrap64 (t168))) := (blk_cell BK175.out 2).trans rfl
                           have hcz92_3 : wr.cell? ⟨gb175, 3, none⟩ = some (u176003) := (blk_cell BK175.out 3).trans rfl
                           have hfz92_0 := blk_frozen BK175.out 0
                           have hfz92_1 := blk_frozen BK175.out 1
                           have hfz92_2 := blk_frozen BK175.out 2
                           have hfz92_3 := blk_frozen BK175.out 3
                           obtain ⟨Ao93, co93, eo93⟩ := Kd.R_slice HO_176003.out
                           subst eo93
                           go_wp2_with (first | ((with_reducible refine gate_callee (f := 112) rfl ?_); refine goesL_ (some 122) rfl rfl Tryz.func112 (by kernel_rfl) rfl #[.string (rdOf ByteArray.empty y176 x111_4), .string (⟨#[58]⟩ : ByteArray)] rfl (by (try simp only [List.map_toArray, List.map_cons, List.map_nil]); first | done | rfl | (simp only [List.length_drop, List.length_take]; rfl)) ?_; (with_reducible refine (strings_Cut.calls (rdOf ByteArray.empty y176 x111_4) (⟨#[58]⟩ : ByteArray) t183 t184 true _ ?side1 A66.out).mono ?_); (case side1 => exact GG_step HGG.out (by decide) (by repeat (first | (with_reducible first | exact HB.out | apply below_alloc | apply pw_below_drewN | apply below_drew1 | refine below_set ?_ GE152.out | refine below_set ?_ GE175.out) | exact HB.out))); rintro e w' ⟨rfl, ⟨nd, rfl⟩⟩; refine ⟨_, rfl, ?_⟩; (try (rw [drewN_self wr]; generalize hq_ : World.drewN wr _ = wr; have n0_ : Aside0 (Kd.V Kd.string 9 wr w.heap.size (fun k_ => some k_ ≠ (.slice Ao93 x176003_4.length co93 : Value).ownBlock ∧ k_ ≠ gb152 ∧ k_ ≠ gb175) (.slice (some ad182) y176.length c57) y176) := ⟨by rw [← hq_]; exact (by (with_reducible repeat (first | apply Kd.V_alloc | apply Kd.V_drewN | apply Kd.V_drew)); exact HO_109.out)⟩; have n1_ : Aside0 (Kd.R k52 52 wr w.heap.size (fun _ => True) (.slice Ao93 x176003_4.length co93) x176003_4) := ⟨by rw [← hq_]; exact (by (with_reducible repeat (first | apply Kd.R_alloc | apply Kd.R_drewN | apply Kd.R_drew)); exact HO_176003.out)⟩; have n2_ : Aside0 (wr.heap[gb152]? = some (.cells #[.string x153000_4, .string x153001_4, .int .i64 x153002_4, .slice none 0 0] 35 (0, 0))) := ⟨by rw [← hq_]; exact (by (with_reducible repeat (first | refine blk_drewN ?_ _ | refine blk_drew ?_ | refine blk_alloc ?_ _)); exact BK152.out)⟩; have n3_ : Aside0 (wr.heap[gb175]? = some (.cells #[.string (rdOf ByteArray.empty t158 0), .string (rdOf ByteArray.empty t158 1), .int .i64 (wrap64 (t168)), .slice Ao93 x176003_4.length co93] 35 (0, 0))) := ⟨by rw [← hq_]; exact (by (with_reducible repeat (first | refine blk_drewN ?_ _ | refine blk_drew ?_ | refine blk_alloc ?_ _)); exact BK175.out)⟩; have n4_ : Aside0 (Below w.heap.size w wr) := ⟨by rw [← hq_]; exact (by repeat (first | (with_reducible first | exact HB.out | apply below_alloc | apply pw_below_drewN | apply below_drew1 | refine below_set ?_ GE152.out | refine below_set ?_ GE175.out) | exact HB.out))⟩; clear HO_109 HO_176003 BK152 BK175 HB hq_; have HO_109 := n0_; have HO_176003 := n1_; have BK152 := n2_; have BK175 := n3_; have HB := n4_; clear n0_ n1_ n2_ n3_ n4_))) | ((with_reducible refine gate_callee (f := 100) rfl ?_); refine goesL_ (some 127) rfl rfl Tryz.func100 (by kernel_rfl) rfl #[.string t184, .string (⟨#[9, 32]⟩ : ByteArray)] rfl (by (try simp only [List.map_toArray, List.map_cons, List.map_nil]); first | done | rfl | (simp only [List.length_drop, List.length_take]; rfl)) ?_; (with_reducible refine (strings_Trim.calls t184 (⟨#[9, 32]⟩ : ByteArray) t186 _ A67.out).mono ?_); rintro e w94 ⟨rfl, hb⟩; refine ⟨_, rfl, ?_⟩; have n0_ := Aside0.mk (Kd.V_below (by (with_reducible repeat (first | apply Kd.V_alloc | apply Kd.V_drewN | apply Kd.V_drew)); exact HO_109.out) hb); have n1_ := Aside0.mk (Kd.R_below (by (with_reducible repeat (first | apply Kd.R_alloc | apply Kd.R_drewN | apply Kd.R_drew)); exact HO_176003.out) hb); have n2_ := Aside0.mk (blk_below (g := gb152) (o := .cells #[.string x153000_4, .string x153001_4, .int .i64 x153002_4, .slice none 0 0] 35 (0, 0)) (by (with_reducible repeat (first | refine blk_drewN ?_ _ | refine blk_drew ?_ | refine blk_alloc ?_ _)); exact BK152.out) hb); have n3_ := Aside0.mk (blk_below (g := gb175) (o := .cells #[.string (rdOf ByteArray.empty t158 0), .string (rdOf ByteArray.empty t158 1), .int .i64 (wrap64 (t168)), .slice Ao93 x176003_4.length co93] 35 (0, 0)) (by (with_reducible repeat (first | refine blk_drewN ?_ _ | refine blk_drew ?_ | refine blk_alloc ?_ _)); exact BK175.out) hb); have n4_ := Aside0.mk (below_step (by repeat (first | (with_reducible first | exact HB.out | apply below_alloc | apply pw_below_drewN | apply below_drew1 | refine below_set ?_ GE152.out | refine below_set ?_ GE175.out) | exact HB.out)) hb); clear HO_109; clear HO_176003; clear BK152; clear BK175; clear HB; have HO_109 := n0_; have HO_176003 := n1_; have BK152 := n2_; have BK175 := n3_; have HB := n4_; clear n0_ n1_ n2_ n3_ n4_; (try clear hb); (try clear hb2); (try clear hk); (try clear hi)) | (go_at_call 109; (with_reducible refine (head_word.calls t183 64 false _ A69.out).mono ?_); rintro e w95 ⟨rfl, hb⟩; have n0_ := Aside0.mk (Kd.V_below (by (with_reducible repeat (first | apply Kd.V_alloc | apply Kd.V_drewN | apply Kd.V_drew)); exact HO_109.out) hb); have n1_ := Aside0.mk (Kd.R_below (by (with_reducible repeat (first | apply Kd.R_alloc | apply Kd.R_drewN | apply Kd.R_drew)); exact HO_176003.out) hb); have n2_ := Aside0.mk (blk_below (g := gb152) (o := .cells #[.string x153000_4, .string x153001_4, .int .i64 x153002_4, .slice none 0 0] 35 (0, 0)) (by (with_reducible repeat (first | refine blk_drewN ?_ _ | refine blk_drew ?_ | refine blk_alloc ?_ _)); exact BK152.out) hb); have n3_ := Aside0.mk (blk_below (g := gb175) (o := .cells #[.string (rdOf ByteArray.empty t158 0), .string (rdOf ByteArray.empty t158 1), .int .i64 (wrap64 (t168)), .slice Ao93 x176003_4.length co93] 35 (0, 0)) (by (with_reducible repeat (first | refine blk_drewN ?_ _ | refine blk_drew ?_ | refine blk_alloc ?_ _)); exact BK175.out) hb); have n4_ := Aside0.mk (below_step (by repeat (first | (with_reducible first | exact HB.out | apply below_alloc | apply pw_below_drewN | apply below_drew1 | refine below_set ?_ GE152.out | refine below_set ?_ GE175.out) | exact HB.out)) hb); clear HO_109; clear HO_176003; clear BK152; clear BK175; clear HB; have HO_109 := n0_; have HO_176003 := n1_; have BK152 := n2_; have BK175 := n3_; have HB := n4_; clear n0_ n1_ n2_ n3_ n4_; (try clear hb); (try clear hb2); (try clear hk); (try clear hi); have hcz96_0 : w95.cell? ⟨gb152, 0, none⟩ = some (.string x153000_4) := (blk_cell BK152.out 0).trans rfl; have hcz96_1 : w95.cell? ⟨gb152, 1, none⟩ = some (.string x153001_4) := (blk_cell BK152.out 1).trans rfl; have hcz96_2 : w95.cell? ⟨gb152, 2, none⟩ = some (.int .i64 x153002_4) := (blk_cell BK152.out 2).trans rfl; have hcz96_3 : w95.cell? ⟨gb152, 3, none⟩ = some (.slice none 0 0) := (blk_cell BK152.out 3).trans rfl; have hfz96_0 := blk_frozen BK152.out 0; have hfz96_1 := blk_frozen BK152.out 1; have hfz96_2 := blk_frozen BK152.out 2; have hfz96_3 := blk_frozen BK152.out 3))
                           refine bodyPost_ret (results_ct rfl _ _ gb152 35 #[.string (⟨#[]⟩ : ByteArray), .string (⟨#[]⟩ : ByteArray), .int .i64 0, .slice none 0 0] (0, 0) _ rfl (by (with_reducible repeat (first | refine blk_drewN ?_ _ | refine blk_drew ?_ | refine blk_alloc ?_ _)); refine blk_put (cs := #[.string (⟨#[]⟩ : ByteArray), .string (⟨#[]⟩ : ByteArray), .int .i64 0, .slice none 0 0]) ?_ 3 _ rfl; (with_reducible repeat (first | refine blk_drewN ?_ _ | refine blk_drew ?_ | refine blk_alloc ?_ _)); refine blk_put (cs := #[.string (⟨#[]⟩ : ByteArray), .string (⟨#[]⟩ : ByteArray), .int .i64 x153002_4, .slice none 0 0]) ?_ 2 _ rfl; (with_reducible repeat (first | refine blk_drewN ?_ _ | refine blk_drew ?_ | refine blk_alloc ?_ _)); refine blk_put (cs := #[.string (⟨#[]⟩ : ByteArray), .string x153001_4, .int .i64 x153002_4, .slice none 0 0]) ?_ 1 _ rfl; (with_reducible repeat (first | refine blk_drewN ?_ _ | refine blk_drew ?_ | refine blk_alloc ?_ _)); refine blk_put (cs := #[.string x153000_4, .string x153001_4, .int .i64 x153002_4, .slice none 0 0]) ?_ 0 _ rfl; (with_reducible repeat (first | refine blk_drewN ?_ _ | refine blk_drew ?_ | refine blk_alloc ?_ _)); exact BK152.out) Tryz.underlying35 rfl (by kernel_rfl)) rfl ?_
                           exact ⟨_, by first | rfl | (simp [errW_none, errW_some] <;> rfl) | (simp [*, errW_none, errW_some] <;> rfl), by first | exact Kd.R_nil _ _ _ _ _ | exact Kd.N_nil _ _ _ _ _ | exact Kd.V_nil _ _ _ _ _ | exact Kd.Q_nil _ _ _ _ _ | exact Kd.S_nil _ _ _ _ _, by repeat (first | (with_reducible first | exact HB.out | apply below_alloc | apply pw_below_drewN | apply below_drew1 | refine below_set ?_ GE152.out | refine below_set ?_ GE175.out) | exact HB.out)⟩
                         ·replace c68 := Bool.eq_false_iff.mpr c68
                          subst c68
                          have H1 : (some ((⟨#[]⟩ : ByteArray), (⟨#[]⟩ : ByteArray), 0, ([] : List (S52)), 400)) = some (r1, r2, r3, r4, r5) := by rw [if_neg (show ¬ (false = true) by decide)] at H; exact H
                          clear H
                          have H := H1
                          clear H1
                          simp only [Option.some.injEq, Prod.mk.injEq] at H
                          obtain ⟨rfl, rfl, rfl, rfl, rfl⟩ := H
                          have p182 : 0 ≤ (x111_4 : Int) := of_decide_eq_true (by first | (with_reducible assumption) | assumption)
                          have q182 : x111_4 < (y176.length : Int) := of_decide_eq_true (by first | (with_reducible assumption) | assumption)
                          obtain ⟨ad182, e182, hx182_0⟩ := Kd.at_string (Kd.V_reads' HO_109.out).2.2 x111_4 p182 q182
                          cases e182
                          replace p182 := eq_true p182
                          replace q182 := eq_true q182
                          have hnb97 := NB175_152.out
                          have hnc97 := NB152_175.out
                          have hcz98_0 : wr.cell? ⟨gb175, 0, none⟩ = some (.string (rdOf ByteArray.empty t158 0)) := (blk_cell BK175.out 0).trans rfl
                          have hcz98_1 : wr.cell? ⟨gb175, 1, none⟩ = some (.string (rdOf ByteArray.empty t158 1)) := (blk_cell BK175.out 1).trans rfl
                          have hcz98_2 : wr.cell? ⟨gb175, 2, none⟩ = some (.int .i64 (wrap64 (t168))) := (blk_cell BK175.out 2).trans rfl
                          have hcz98_3 : wr.cell? ⟨gb175, 3, none⟩ = some (u176003) := (blk_cell BK175.out 3).trans rfl
                          have hfz98_0 := blk_frozen BK175.out 0
                          have hfz98_1 := blk_frozen BK175.out 1
                          have hfz98_2 := blk_frozen BK175.out 2
                          have hfz98_3 := blk_frozen BK175.out 3
                          obtain ⟨Ao99, co99, eo99⟩ := Kd.R_slice HO_176003.out
                          subst eo99
                          go_wp2_with (first | ((with_reducible refine gate_callee (f := 112) rfl ?_); refine goesL_ (some 122) rfl rfl Tryz.func112 (by kernel_rfl) rfl #[.string (rdOf ByteArray.empty y176 x111_4), .string (⟨#[58]⟩ : ByteArray)] rfl (by (try simp only [List.map_toArray, List.map_cons, List.map_nil]); first | done | rfl | (simp only [List.length_drop, List.length_take]; rfl)) ?_; (with_reducible refine (strings_Cut.calls (rdOf ByteArray.empty y176 x111_4) (⟨#[58]⟩ : ByteArray) t183 t184 false _ ?side1 A66.out).mono ?_); (case side1 => exact GG_step HGG.out (by decide) (by repeat (first | (with_reducible first | exact HB.out | apply below_alloc | apply pw_below_drewN | apply below_drew1 | refine below_set ?_ GE152.out | refine below_set ?_ GE175.out) | exact HB.out))); rintro e w' ⟨rfl, ⟨nd, rfl⟩⟩; refine ⟨_, rfl, ?_⟩; (try (rw [drewN_self wr]; generalize hq_ : World.drewN wr _ = wr; have n0_ : Aside0 (Kd.V Kd.string 9 wr w.heap.size (fun k_ => some k_ ≠ (.slice Ao99 x176003_4.length co99 : Value).ownBlock ∧ k_ ≠ gb152 ∧ k_ ≠ gb175) (.slice (some ad182) y176.length c57) y176) := ⟨by rw [← hq_]; exact (by (with_reducible repeat (first | apply Kd.V_alloc | apply Kd.V_drewN | apply Kd.V_drew)); exact HO_109.out)⟩; have n1_ : Aside0 (Kd.R k52 52 wr w.heap.size (fun _ => True) (.slice Ao99 x176003_4.length co99) x176003_4) := ⟨by rw [← hq_]; exact (by (with_reducible repeat (first | apply Kd.R_alloc | apply Kd.R_drewN | apply Kd.R_drew)); exact HO_176003.out)⟩; have n2_ : Aside0 (wr.heap[gb152]? = some (.cells #[.string x153000_4, .string x153001_4, .int .i64 x153002_4, .slice none 0 0] 35 (0, 0))) := ⟨by rw [← hq_]; exact (by (with_reducible repeat (first | refine blk_drewN ?_ _ | refine blk_drew ?_ | refine blk_alloc ?_ _)); exact BK152.out)⟩; have n3_ : Aside0 (wr.heap[gb175]? = some (.cells #[.string (rdOf ByteArray.empty t158 0), .string (rdOf ByteArray.empty t158 1), .int .i64 (wrap64 (t168)), .slice Ao99 x176003_4.length co99] 35 (0, 0))) := ⟨by rw [← hq_]; exact (by (with_reducible repeat (first | refine blk_drewN ?_ _ | refine blk_drew ?_ | refine blk_alloc ?_ _)); exact BK175.out)⟩; have n4_ : Aside0 (Below w.heap.size w wr) := ⟨by rw [← hq_]; exact (by repeat (first | (with_reducible first | exact HB.out | apply below_alloc | apply pw_below_drewN | apply below_drew1 | refine below_set ?_ GE152.out | refine below_set ?_ GE175.out) | exact HB.out))⟩; clear HO_109 HO_176003 BK152 BK175 HB hq_; have HO_109 := n0_; have HO_176003 := n1_; have BK152 := n2_; have BK175 := n3_; have HB := n4_; clear n0_ n1_ n2_ n3_ n4_))) | ((with_reducible refine gate_callee (f := 100) rfl ?_); refine goesL_ (some 127) rfl rfl Tryz.func100 (by kernel_rfl) rfl #[.string t184, .string (⟨#[9, 32]⟩ : ByteArray)] rfl (by (try simp only [List.map_toArray, List.map_cons, List.map_nil]); first | done | rfl | (simp only [List.length_drop, List.length_take]; rfl)) ?_; (with_reducible refine (strings_Trim.calls t184 (⟨#[9, 32]⟩ : ByteArray) t186 _ A67.out).mono ?_); rintro e w100 ⟨rfl, hb⟩; refine ⟨_, rfl, ?_⟩; have n0_ := Aside0.mk (Kd.V_below (by (with_reducible repeat (first | apply Kd.V_alloc | apply Kd.V_drewN | apply Kd.V_drew)); exact HO_109.out) hb); have n1_ := Aside0.mk (Kd.R_below (by (with_reducible repeat (first | apply Kd.R_alloc | apply Kd.R_drewN | apply Kd.R_drew)); exact HO_176003.out) hb); have n2_ := Aside0.mk (blk_below (g := gb152) (o := .cells #[.string x153000_4, .string x153001_4, .int .i64 x153002_4, .slice none 0 0] 35 (0, 0)) (by (with_reducible repeat (first | refine blk_drewN ?_ _ | refine blk_drew ?_ | refine blk_alloc ?_ _)); exact BK152.out) hb); have n3_ := Aside0.mk (blk_below (g := gb175) (o := .cells #[.string (rdOf ByteArray.empty t158 0), .string (rdOf ByteArray.empty t158 1), .int .i64 (wrap64 (t168)), .slice Ao99 x176003_4.length co99] 35 (0, 0)) (by (with_reducible repeat (first | refine blk_drewN ?_ _ | refine blk_drew ?_ | refine blk_alloc ?_ _)); exact BK175.out) hb); have n4_ := Aside0.mk (below_step (by repeat (first | (with_reducible first | exact HB.out | apply below_alloc | apply pw_below_drewN | apply below_drew1 | refine below_set ?_ GE152.out | refine below_set ?_ GE175.out) | exact HB.out)) hb); clear HO_109; clear HO_176003; clear BK152; clear BK175; clear HB; have HO_109 := n0_; have HO_176003 := n1_; have BK152 := n2_; have BK175 := n3_; have HB := n4_; clear n0_ n1_ n2_ n3_ n4_; (try clear hb); (try clear hb2); (try clear hk); (try clear hi); have hcz101_0 : w100.cell? ⟨gb152, 0, none⟩ = some (.string x153000_4) := (blk_cell BK152.out 0).trans rfl; have hcz101_1 : w100.cell? ⟨gb152, 1, none⟩ = some (.string x153001_4) := (blk_cell BK152.out 1).trans rfl; have hcz101_2 : w100.cell? ⟨gb152, 2, none⟩ = some (.int .i64 x153002_4) := (blk_cell BK152.out 2).trans rfl; have hcz101_3 : w100.cell? ⟨gb152, 3, none⟩ = some (.slice none 0 0) := (blk_cell BK152.out 3).trans rfl; have hfz101_0 := blk_frozen BK152.out 0; have hfz101_1 := blk_frozen BK152.out 1; have hfz101_2 := blk_frozen BK152.out 2; have hfz101_3 := blk_frozen BK152.out 3))
                          refine bodyPost_ret (results_ct rfl _ _ gb152 35 #[.string (⟨#[]⟩ : ByteArray), .string (⟨#[]⟩ : ByteArray), .int .i64 0, .slice none 0 0] (0, 0) _ rfl (by (with_reducible repeat (first | refine blk_drewN ?_ _ | refine blk_drew ?_ | refine blk_alloc ?_ _)); refine blk_put (cs := #[.string (⟨#[]⟩ : ByteArray), .string (⟨#[]⟩ : ByteArray), .int .i64 0, .slice none 0 0]) ?_ 3 _ rfl; (with_reducible repeat (first | refine blk_drewN ?_ _ | refine blk_drew ?_ | refine blk_alloc ?_ _)); refine blk_put (cs := #[.string (⟨#[]⟩ : ByteArray), .string (⟨#[]⟩ : ByteArray), .int .i64 x153002_4, .slice none 0 0]) ?_ 2 _ rfl; (with_reducible repeat (first | refine blk_drewN ?_ _ | refine blk_drew ?_ | refine blk_alloc ?_ _)); refine blk_put (cs := #[.string (⟨#[]⟩ : ByteArray), .string x153001_4, .int .i64 x153002_4, .slice none 0 0]) ?_ 1 _ rfl; (with_reducible repeat (first | refine blk_drewN ?_ _ | refine blk_drew ?_ | refine blk_alloc ?_ _)); refine blk_put (cs := #[.string x153000_4, .string x153001_4, .int .i64 x153002_4, .slice none 0 0]) ?_ 0 _ rfl; (with_reducible repeat (first | refine blk_drewN ?_ _ | refine blk_drew ?_ | refine blk_alloc ?_ _)); exact BK152.out) Tryz.underlying35 rfl (by kernel_rfl)) rfl ?_
                          exact ⟨_, by first | rfl | (simp [errW_none, errW_some] <;> rfl) | (simp [*, errW_none, errW_some] <;> rfl), by first | exact Kd.R_nil _ _ _ _ _ | exact Kd.N_nil _ _ _ _ _ | exact Kd.V_nil _ _ _ _ _ | exact Kd.Q_nil _ _ _ _ _ | exact Kd.S_nil _ _ _ _ _, by repeat (first | (with_reducible first | exact HB.out | apply below_alloc | apply pw_below_drewN | apply below_drew1 | refine below_set ?_ GE152.out | refine below_set ?_ GE175.out) | exact HB.out)⟩
                       ·rw [if_neg c60] at H
                        exact absurd H (by simp)
                      ·rw [if_neg c59] at H
                       exact absurd H (by simp)
                     ·rw [if_neg c58] at H
                      have c58b0 : decide (x111_4 < (y176.length : Int)) = false := decide_eq_false c58
                      clear c58
                      replace H := Option.bind_eq_some_iff.mp H
                      obtain ⟨t181, A1020, H⟩ := H
                      replace H : (if t181 = true then (some ((rdOf ByteArray.empty t158 0), (rdOf ByteArray.empty t158 1), (wrap64 (t168)), x176003_4, 200)) else (some ((⟨#[]⟩ : ByteArray), (⟨#[]⟩ : ByteArray), 0, ([] : List (S52)), 400))) = some (r1, r2, r3, r4, r5) := H
                      have A102 := Aside0.mk A1020
                      clear A1020
                      by_cases c103 : t181 = true
                      ·subst c103
                       have H1 : (some ((rdOf ByteArray.empty t158 0), (rdOf ByteArray.empty t158 1), (wrap64 (t168)), x176003_4, 200)) = some (r1, r2, r3, r4, r5) := by rw [if_pos rfl] at H; exact H
                       clear H
                       have H := H1
                       clear H1
                       simp only [Option.some.injEq, Prod.mk.injEq] at H
                       obtain ⟨rfl, rfl, rfl, rfl, rfl⟩ := H
                       have hnb104 := NB175_152.out
                       have hnc104 := NB152_175.out
                       have hcz105_0 : wr.cell? ⟨gb175, 0, none⟩ = some (.string (rdOf ByteArray.empty t158 0)) := (blk_cell BK175.out 0).trans rfl
                       have hcz105_1 : wr.cell? ⟨gb175, 1, none⟩ = some (.string (rdOf ByteArray.empty t158 1)) := (blk_cell BK175.out 1).trans rfl
                       have hcz105_2 : wr.cell? ⟨gb175, 2, none⟩ = some (.int .i64 (wrap64 (t168))) := (blk_cell BK175.out 2).trans rfl
                       have hcz105_3 : wr.cell? ⟨gb175, 3, none⟩ = some (u176003) := (blk_cell BK175.out 3).trans rfl
                       have hfz105_0 := blk_frozen BK175.out 0
                       have hfz105_1 := blk_frozen BK175.out 1
                       have hfz105_2 := blk_frozen BK175.out 2
                       have hfz105_3 := blk_frozen BK175.out 3
                       obtain ⟨Ao106, co106, eo106⟩ := Kd.R_slice HO_176003.out
                       subst eo106
                       go_wp2_with (first | ((with_reducible refine gate_callee (f := 114) rfl ?_); refine goesL_ (some 151) rfl rfl Tryz.func114 (by kernel_rfl) rfl #[.agg #[.string (rdOf ByteArray.empty t158 0), .string (rdOf ByteArray.empty t158 1), .int .i64 (wrap64 (t168)), .slice Ao106 x176003_4.length co106]] rfl (by (try simp only [List.map_toArray, List.map_cons, List.map_nil]); first | done | rfl | (simp only [List.length_drop, List.length_take]; rfl)) ?_; (with_reducible refine (head_hosts.calls k4 (rdOf ByteArray.empty t158 0) (rdOf ByteArray.empty t158 1) (wrap64 (t168)) _ _ x176003_4 true _ ?side1 ?side2 A102.out).mono ?_); (case side1 => repeat (first | exact (Kd.R_reads' HO_176003.out).2.2 | (with_reducible refine Kd.C_alloc ?_ _) | (with_reducible refine Kd.C_drewN ?_ _) | (with_reducible refine Kd.C_drew ?_))); (case side2 => exact (Kd.R_reads' HO_176003.out).2.1); rintro e w107 ⟨rfl, hb⟩; refine ⟨_, rfl, ?_⟩; have n0_ := Aside0.mk (Kd.V_below (by (with_reducible repeat (first | apply Kd.V_alloc | apply Kd.V_drewN | apply Kd.V_drew)); exact HO_109.out) hb); have n1_ := Aside0.mk (Kd.R_below (by (with_reducible repeat (first | apply Kd.R_alloc | apply Kd.R_drewN | apply Kd.R_drew)); exact HO_176003.out) hb); have n2_ := Aside0.mk (blk_below (g := gb152) (o := .cells #[.string x153000_4, .string x153001_4, .int .i64 x153002_4, .slice none 0 0] 35 (0, 0)) (by (with_reducible repeat (first | refine blk_drewN ?_ _ | refine blk_drew ?_ | refine blk_alloc ?_ _)); exact BK152.out) hb); have n3_ := Aside0.mk (blk_below (g := gb175) (o := .cells #[.string (rdOf ByteArray.empty t158 0), .string (rdOf ByteArray.empty t158 1), .int .i64 (wrap64 (t168)), .slice Ao106 x176003_4.length co106] 35 (0, 0)) (by (with_reducible repeat (first | refine blk_drewN ?_ _ | refine blk_drew ?_ | refine blk_alloc ?_ _)); exact BK175.out) hb); have n4_ := Aside0.mk (below_step (by repeat (first | (with_reducible first | exact HB.out | apply below_alloc | apply pw_below_drewN | apply below_drew1 | refine below_set ?_ GE152.out | refine below_set ?_ GE175.out) | exact HB.out)) hb); clear HO_109; clear HO_176003; clear BK152; clear BK175; clear HB; have HO_109 := n0_; have HO_176003 := n1_; have BK152 := n2_; have BK175 := n3_; have HB := n4_; clear n0_ n1_ n2_ n3_ n4_; (try clear hb); (try clear hb2); (try clear hk); (try clear hi); have hcz108_0 : w107.cell? ⟨gb175, 0, none⟩ = some (.string (rdOf ByteArray.empty t158 0)) := (blk_cell BK175.out 0).trans rfl; have hcz108_1 : w107.cell? ⟨gb175, 1, none⟩ = some (.string (rdOf ByteArray.empty t158 1)) := (blk_cell BK175.out 1).trans rfl; have hcz108_2 : w107.cell? ⟨gb175, 2, none⟩ = some (.int .i64 (wrap64 (t168))) := (blk_cell BK175.out 2).trans rfl; have hcz108_3 : w107.cell? ⟨gb175, 3, none⟩ = some (.slice Ao106 x176003_4.length co106) := (blk_cell BK175.out 3).trans rfl; have hfz108_0 := blk_frozen BK175.out 0; have hfz108_1 := blk_frozen BK175.out 1; have hfz108_2 := blk_frozen BK175.out 2; have hfz108_3 := blk_frozen BK175.out 3; have hcz109_0 : w107.cell? ⟨gb152, 0, none⟩ = some (.string x153000_4) := (blk_cell BK152.out 0).trans rfl; have hcz109_1 : w107.cell? ⟨gb152, 1, none⟩ = some (.string x153001_4) := (blk_cell BK152.out 1).trans rfl; have hcz109_2 : w107.cell? ⟨gb152, 2, none⟩ = some (.int .i64 x153002_4) := (blk_cell BK152.out 2).trans rfl; have hcz109_3 : w107.cell? ⟨gb152, 3, none⟩ = some (.slice none 0 0) := (blk_cell BK152.out 3).trans rfl; have hfz109_0 := blk_frozen BK152.out 0; have hfz109_1 := blk_frozen BK152.out 1; have hfz109_2 := blk_frozen BK152.out 2; have hfz109_3 := blk_frozen BK152.out 3))
                       refine bodyPost_ret (results_ct rfl _ _ gb152 35 #[.string (rdOf ByteArray.empty t158 0), .string (rdOf ByteArray.empty t158 1), .int .i64 (wrap64 (t168)), .slice Ao106 x176003_4.length co106] (0, 0) _ rfl (by (with_reducible repeat (first | refine blk_drewN ?_ _ | refine blk_drew ?_ | refine blk_alloc ?_ _)); refine blk_put (cs := #[.string (rdOf ByteArray.empty t158 0), .string (rdOf ByteArray.empty t158 1), .int .i64 (wrap64 (t168)), .slice none 0 0]) ?_ 3 _ rfl; (with_reducible repeat (first | refine blk_drewN ?_ _ | refine blk_drew ?_ | refine blk_alloc ?_ _)); refine blk_put (cs := #[.string (rdOf ByteArray.empty t158 0), .string (rdOf ByteArray.empty t158 1), .int .i64 x153002_4, .slice none 0 0]) ?_ 2 _ rfl; (with_reducible repeat (first | refine blk_drewN ?_ _ | refine blk_drew ?_ | refine blk_alloc ?_ _)); refine blk_put (cs := #[.string (rdOf ByteArray.empty t158 0), .string x153001_4, .int .i64 x153002_4, .slice none 0 0]) ?_ 1 _ rfl; (with_reducible repeat (first | refine blk_drewN ?_ _ | refine blk_drew ?_ | refine blk_alloc ?_ _)); refine blk_put (cs := #[.string x153000_4, .string x153001_4, .int .i64 x153002_4, .slice none 0 0]) ?_ 0 _ rfl; (with_reducible repeat (first | refine blk_drewN ?_ _ | refine blk_drew ?_ | refine blk_alloc ?_ _)); exact BK152.out) Tryz.underlying35 rfl (by kernel_rfl)) rfl ?_
                       exact ⟨_, by first | rfl | (simp [errW_none, errW_some] <;> rfl) | (simp [*, errW_none, errW_some] <;> rfl), by (with_reducible repeat (first | apply Kd.R_alloc | apply Kd.R_drewN | apply Kd.R_drew)); exact Kd.R_mono (Kd.R_far (p := ⟨gb152, 3, none⟩) (Kd.R_far (p := ⟨gb152, 2, none⟩) (Kd.R_far (p := ⟨gb152, 1, none⟩) (Kd.R_far (p := ⟨gb152, 0, none⟩) (Kd.R_types HO_176003.out BK152.out (by decide)) (fun _ hk => hk.2) (.string (rdOf ByteArray.empty t158 0))) (fun _ hk => hk.2) (.string (rdOf ByteArray.empty t158 1))) (fun _ hk => hk.2) (.int .i64 (wrap64 (t168)))) (fun _ hk => hk.2) (.slice Ao106 x176003_4.length co106)) (fun _ hk => trivial), by repeat (first | (with_reducible first | exact HB.out | apply below_alloc | apply pw_below_drewN | apply below_drew1 | refine below_set ?_ GE152.out | refine below_set ?_ GE175.out) | exact HB.out)⟩
                      ·replace c103 := Bool.eq_false_iff.mpr c103
                       subst c103
                       have H1 : (some ((⟨#[]⟩ : ByteArray), (⟨#[]⟩ : ByteArray), 0, ([] : List (S52)), 400)) = some (r1, r2, r3, r4, r5) := by rw [if_neg (show ¬ (false = true) by decide)] at H; exact H
                       clear H
                       have H := H1
                       clear H1
                       simp only [Option.some.injEq, Prod.mk.injEq] at H
                       obtain ⟨rfl, rfl, rfl, rfl, rfl⟩ := H
                       have hnb110 := NB175_152.out
                       have hnc110 := NB152_175.out
                       have hcz111_0 : wr.cell? ⟨gb175, 0, none⟩ = some (.string (rdOf ByteArray.empty t158 0)) := (blk_cell BK175.out 0).trans rfl
                       have hcz111_1 : wr.cell? ⟨gb175, 1, none⟩ = some (.string (rdOf ByteArray.empty t158 1)) := (blk_cell BK175.out 1).trans rfl
                       have hcz111_2 : wr.cell? ⟨gb175, 2, none⟩ = some (.int .i64 (wrap64 (t168))) := (blk_cell BK175.out 2).trans rfl
                       have hcz111_3 : wr.cell? ⟨gb175, 3, none⟩ = some (u176003) := (blk_cell BK175.out 3).trans rfl
                       have hfz111_0 := blk_frozen BK175.out 0
                       have hfz111_1 := blk_frozen BK175.out 1
                       have hfz111_2 := blk_frozen BK175.out 2
                       have hfz111_3 := blk_frozen BK175.out 3
                       obtain ⟨Ao112, co112, eo112⟩ := Kd.R_slice HO_176003.out
                       subst eo112
                       go_wp2_with (first | ((with_reducible refine gate_callee (f := 114) rfl ?_); refine goesL_ (some 151) rfl rfl Tryz.func114 (by kernel_rfl) rfl #[.agg #[.string (rdOf ByteArray.empty t158 0), .string (rdOf ByteArray.empty t158 1), .int .i64 (wrap64 (t168)), .slice Ao112 x176003_4.length co112]] rfl (by (try simp only [List.map_toArray, List.map_cons, List.map_nil]); first | done | rfl | (simp only [List.length_drop, List.length_take]; rfl)) ?_; (with_reducible refine (head_hosts.calls k4 (rdOf ByteArray.empty t158 0) (rdOf ByteArray.empty t158 1) (wrap64 (t168)) _ _ x176003_4 false _ ?side1 ?side2 A102.out).mono ?_); (case side1 => repeat (first | exact (Kd.R_reads' HO_176003.out).2.2 | (with_reducible refine Kd.C_alloc ?_ _) | (with_reducible refine Kd.C_drewN ?_ _) | (with_reducible refine Kd.C_drew ?_))); (case side2 => exact (Kd.R_reads' HO_176003.out).2.1); rintro e w113 ⟨rfl, hb⟩; refine ⟨_, rfl, ?_⟩; have n0_ := Aside0.mk (Kd.V_below (by (with_reducible repeat (first | apply Kd.V_alloc | apply Kd.V_drewN | apply Kd.V_drew)); exact HO_109.out) hb); have n1_ := Aside0.mk (Kd.R_below (by (with_reducible repeat (first | apply Kd.R_alloc | apply Kd.R_drewN | apply Kd.R_drew)); exact HO_176003.out) hb); have n2_ := Aside0.mk (blk_below (g := gb152) (o := .cells #[.string x153000_4, .string x153001_4, .int .i64 x153002_4, .slice none 0 0] 35 (0, 0)) (by (with_reducible repeat (first | refine blk_drewN ?_ _ | refine blk_drew ?_ | refine blk_alloc ?_ _)); exact BK152.out) hb); have n3_ := Aside0.mk (blk_below (g := gb175) (o := .cells #[.string (rdOf ByteArray.empty t158 0), .string (rdOf ByteArray.empty t158 1), .int .i64 (wrap64 (t168)), .slice Ao112 x176003_4.length co112] 35 (0, 0)) (by (with_reducible repeat (first | refine blk_drewN ?_ _ | refine blk_drew ?_ | refine blk_alloc ?_ _)); exact BK175.out) hb); have n4_ := Aside0.mk (below_step (by repeat (first | (with_reducible first | exact HB.out | apply below_alloc | apply pw_below_drewN | apply below_drew1 | refine below_set ?_ GE152.out | refine below_set ?_ GE175.out) | exact HB.out)) hb); clear HO_109; clear HO_176003; clear BK152; clear BK175; clear HB; have HO_109 := n0_; have HO_176003 := n1_; have BK152 := n2_; have BK175 := n3_; have HB := n4_; clear n0_ n1_ n2_ n3_ n4_; (try clear hb); (try clear hb2); (try clear hk); (try clear hi); have hcz114_0 : w113.cell? ⟨gb152, 0, none⟩ = some (.string x153000_4) := (blk_cell BK152.out 0).trans rfl; have hcz114_1 : w113.cell? ⟨gb152, 1, none⟩ = some (.string x153001_4) := (blk_cell BK152.out 1).trans rfl; have hcz114_2 : w113.cell? ⟨gb152, 2, none⟩ = some (.int .i64 x153002_4) := (blk_cell BK152.out 2).trans rfl; have hcz114_3 : w113.cell? ⟨gb152, 3, none⟩ = some (.slice none 0 0) := (blk_cell BK152.out 3).trans rfl; have hfz114_0 := blk_frozen BK152.out 0; have hfz114_1 := blk_frozen BK152.out 1; have hfz114_2 := blk_frozen BK152.out 2; have hfz114_3 := blk_frozen BK152.out 3))
                       refine bodyPost_ret (results_ct rfl _ _ gb152 35 #[.string (⟨#[]⟩ : ByteArray), .string (⟨#[]⟩ : ByteArray), .int .i64 0, .slice none 0 0] (0, 0) _ rfl (by (with_reducible repeat (first | refine blk_drewN ?_ _ | refine blk_drew ?_ | refine blk_alloc ?_ _)); refine blk_put (cs := #[.string (⟨#[]⟩ : ByteArray), .string (⟨#[]⟩ : ByteArray), .int .i64 0, .slice none 0 0]) ?_ 3 _ rfl; (with_reducible repeat (first | refine blk_drewN ?_ _ | refine blk_drew ?_ | refine blk_alloc ?_ _)); refine blk_put (cs := #[.string (⟨#[]⟩ : ByteArray), .string (⟨#[]⟩ : ByteArray), .int .i64 x153002_4, .slice none 0 0]) ?_ 2 _ rfl; (with_reducible repeat (first | refine blk_drewN ?_ _ | refine blk_drew ?_ | refine blk_alloc ?_ _)); refine blk_put (cs := #[.string (⟨#[]⟩ : ByteArray), .string x153001_4, .int .i64 x153002_4, .slice none 0 0]) ?_ 1 _ rfl; (with_reducible repeat (first | refine blk_drewN ?_ _ | refine blk_drew ?_ | refine blk_alloc ?_ _)); refine blk_put (cs := #[.string x153000_4, .string x153001_4, .int .i64 x153002_4, .slice none 0 0]) ?_ 0 _ rfl; (with_reducible repeat (first | refine blk_drewN ?_ _ | refine blk_drew ?_ | refine blk_alloc ?_ _)); exact BK152.out) Tryz.underlying35 rfl (by kernel_rfl)) rfl ?_
                       exact ⟨_, by first | rfl | (simp [errW_none, errW_some] <;> rfl) | (simp [*, errW_none, errW_some] <;> rfl), by first | exact Kd.R_nil _ _ _ _ _ | exact Kd.N_nil _ _ _ _ _ | exact Kd.V_nil _ _ _ _ _ | exact Kd.Q_nil _ _ _ _ _ | exact Kd.S_nil _ _ _ _ _, by repeat (first | (with_reducible first | exact HB.out | apply below_alloc | apply pw_below_drewN | apply below_drew1 | refine below_set ?_ GE152.out | refine below_set ?_ GE175.out) | exact HB.out)⟩
                  ·rw [if_neg c48] at H
                   exact absurd H (by simp)
                 ·rw [if_neg c47] at H
                  exact absurd H (by simp)
                ·replace c46 := Bool.eq_false_iff.mpr c46
                 subst c46
                 have H1 : (some ((⟨#[]⟩ : ByteArray), (⟨#[]⟩ : ByteArray), 0, ([] : List (S52)), 400)) = some (r1, r2, r3, r4, r5) := by rw [if_neg (show ¬ (false = true) by decide)] at H; exact H
                 clear H
                 have H := H1
                 clear H1
                 simp only [Option.some.injEq, Prod.mk.injEq] at H
                 obtain ⟨rfl, rfl, rfl, rfl, rfl⟩ := H
                 have p170 : 0 ≤ (1 : Int) := (by omega)
                 have q170 : 1 < (t158.length : Int) := of_decide_eq_true (by first | (with_reducible assumption) | assumption)
                 obtain ⟨ad170, e170, hx170_0⟩ := Kd.at_string (Kd.R_reads' HO_6.out).2.2 1 p170 q170
                 obtain rfl : ad166 = ad170 := (by injection e170)
                 (try simp only [show (1 : Int).toNat = 1 from rfl, Nat.reduceMul, Nat.reduceEqDiff, Go.Addr.add, ↓reduceIte] at hx170_0)
                 have qi170 : (1 < t158.length) = True := eq_true (by omega)
                 (try rw [show ((1 : Int)).toNat = 1 from rfl] at hx170_0)
                 replace p170 := eq_true p170
                 replace q170 := eq_true q170
                 have p171 : 0 ≤ (1 : Int) := (by omega)
                 have q171 : 1 < (t158.length : Int) := of_decide_eq_true (by first | (with_reducible assumption) | assumption)
                 obtain ⟨ad171, e171, hx171_0⟩ := Kd.at_string (Kd.R_reads' HO_6.out).2.2 1 p171 q171
                 obtain rfl : ad166 = ad171 := (by injection e171)
                 (try simp only [show (1 : Int).toNat = 1 from rfl, Nat.reduceMul, Nat.reduceEqDiff, Go.Addr.add, ↓reduceIte] at hx171_0)
                 have qi171 : (1 < t158.length) = True := eq_true (by omega)
                 (try rw [show ((1 : Int)).toNat = 1 from rfl] at hx171_0)
                 replace p171 := eq_true p171
                 replace q171 := eq_true q171
                 go_wp2_with (first | ((with_reducible refine gate_callee (f := 111) rfl ?_); refine goesL_ (some 96) rfl rfl Tryz.func111 (by kernel_rfl) rfl #[.string (rdOf ByteArray.empty t158 1)] rfl (by (try simp only [List.map_toArray, List.map_cons, List.map_nil]); first | done | rfl | (simp only [List.length_drop, List.length_take]; rfl)) ?_; (with_reducible refine (head_target.calls kj36 (rdOf ByteArray.empty t158 1) false _ A45.out).mono ?_); rintro e w115 ⟨rfl, hb⟩; refine ⟨_, rfl, ?_⟩; have n0_ := Aside0.mk (Kd.R_below (by (with_reducible repeat (first | apply Kd.R_alloc | apply Kd.R_drewN | apply Kd.R_drew)); exact HO_4.out) hb); have n1_ := Aside0.mk (Kd.R_below (by (with_reducible repeat (first | apply Kd.R_alloc | apply Kd.R_drewN | apply Kd.R_drew)); exact HO_6.out) hb); have n2_ := Aside0.mk (blk_below (g := gb152) (o := .cells #[.string (⟨#[]⟩ : ByteArray), .string (⟨#[]⟩ : ByteArray), .int .i64 0, .slice none 0 0] 35 (0, 0)) (by (with_reducible repeat (first | refine blk_drewN ?_ _ | refine blk_drew ?_ | refine blk_alloc ?_ _)); exact BK152.out) hb); have n3_ := Aside0.mk (below_step (by repeat (first | (with_reducible first | exact HB.out | apply below_alloc | apply pw_below_drewN | apply below_drew1 | refine below_set ?_ GE152.out) | exact HB.out)) hb); clear HO_4; clear HO_6; clear BK152; clear HB; have HO_4 := n0_; have HO_6 := n1_; have BK152 := n2_; have HB := n3_; clear n0_ n1_ n2_ n3_; (try clear hb); (try clear hb2); (try clear hk); (try clear hi); have hcz116_0 : w115.cell? ⟨gb152, 0, none⟩ = some (.string (⟨#[]⟩ : ByteArray)) := (blk_cell BK152.out 0).trans rfl; have hcz116_1 : w115.cell? ⟨gb152, 1, none⟩ = some (.string (⟨#[]⟩ : ByteArray)) := (blk_cell BK152.out 1).trans rfl; have hcz116_2 : w115.cell? ⟨gb152, 2, none⟩ = some (.int .i64 0) := (blk_cell BK152.out 2).trans rfl; have hcz116_3 : w115.cell? ⟨gb152, 3, none⟩ = some (.slice none 0 0) := (blk_cell BK152.out 3).trans rfl; have hfz116_0 := blk_frozen BK152.out 0; have hfz116_1 := blk_frozen BK152.out 1; have hfz116_2 := blk_frozen BK152.out 2; have hfz116_3 := blk_frozen BK152.out 3))
                 refine bodyPost_ret (results_ct rfl _ _ gb152 35 #[.string (⟨#[]⟩ : ByteArray), .string (⟨#[]⟩ : ByteArray), .int .i64 0, .slice none 0 0] (0, 0) _ rfl (by (with_reducible repeat (first | refine blk_drewN ?_ _ | refine blk_drew ?_ | refine blk_alloc ?_ _)); refine blk_put (cs := #[.string (⟨#[]⟩ : ByteArray), .string (⟨#[]⟩ : ByteArray), .int .i64 0, .slice none 0 0]) ?_ 3 _ rfl; (with_reducible repeat (first | refine blk_drewN ?_ _ | refine blk_drew ?_ | refine blk_alloc ?_ _)); refine blk_put (cs := #[.string (⟨#[]⟩ : ByteArray), .string (⟨#[]⟩ : ByteArray), .int .i64 0, .slice none 0 0]) ?_ 2 _ rfl; (with_reducible repeat (first | refine blk_drewN ?_ _ | refine blk_drew ?_ | refine blk_alloc ?_ _)); refine blk_put (cs := #[.string (⟨#[]⟩ : ByteArray), .string (⟨#[]⟩ : ByteArray), .int .i64 0, .slice none 0 0]) ?_ 1 _ rfl; (with_reducible repeat (first | refine blk_drewN ?_ _ | refine blk_drew ?_ | refine blk_alloc ?_ _)); refine blk_put (cs := #[.string (⟨#[]⟩ : ByteArray), .string (⟨#[]⟩ : ByteArray), .int .i64 0, .slice none 0 0]) ?_ 0 _ rfl; (with_reducible repeat (first | refine blk_drewN ?_ _ | refine blk_drew ?_ | refine blk_alloc ?_ _)); exact BK152.out) Tryz.underlying35 rfl (by kernel_rfl)) rfl ?_
                 exact ⟨_, by first | rfl | (simp [errW_none, errW_some] <;> rfl) | (simp [*, errW_none, errW_some] <;> rfl), by first | exact Kd.R_nil _ _ _ _ _ | exact Kd.N_nil _ _ _ _ _ | exact Kd.V_nil _ _ _ _ _ | exact Kd.Q_nil _ _ _ _ _ | exact Kd.S_nil _ _ _ _ _, by repeat (first | (with_reducible first | exact HB.out | apply below_alloc | apply pw_below_drewN | apply below_drew1 | refine below_set ?_ GE152.out) | exact HB.out)⟩
              ·rw [if_neg c42] at H
               exact absurd H (by simp)
          ·replace c36 := Bool.eq_false_iff.mpr c36
           subst c36
           have H1 : (some ((⟨#[]⟩ : ByteArray), (⟨#[]⟩ : ByteArray), 0, ([] : List (S52)), 400)) = some (r1, r2, r3, r4, r5) := by rw [if_neg (show ¬ (false = true) by decide)] at H; exact H
           clear H
           have H := H1
           clear H1
           simp only [Option.some.injEq, Prod.mk.injEq] at H
           obtain ⟨rfl, rfl, rfl, rfl, rfl⟩ := H
           obtain ⟨Ao117, co117, eo117⟩ := Kd.R_slice HO_6.out
           subst eo117
           have p166 : 0 ≤ (2 : Int) := (by omega)
           have q166 : 2 < (t158.length : Int) := of_decide_eq_true (by first | (with_reducible assumption) | assumption)
           obtain ⟨ad166, e166, hx166_0⟩ := Kd.at_string (Kd.R_reads' HO_6.out).2.2 2 p166 q166
           cases e166
           (try simp only [show (2 : Int).toNat = 2 from rfl, Nat.reduceMul, Nat.reduceEqDiff, Go.Addr.add, ↓reduceIte] at hx166_0)
           have qi166 : (2 < t158.length) = True := eq_true (by omega)
           (try rw [show ((2 : Int)).toNat = 2 from rfl] at hx166_0)
           replace p166 := eq_true p166
           replace q166 := eq_true q166
           go_wp2_with (first | ((with_reducible refine gate_callee (f := 110) rfl ?_); refine goesL_ (some 69) rfl rfl Tryz.func110 (by kernel_rfl) rfl #[.string (rdOf ByteArray.empty t158 2)] rfl (by (try simp only [List.map_toArray, List.map_cons, List.map_nil]); first | done | rfl | (simp only [List.length_drop, List.length_take]; rfl)) ?_; (with_reducible refine (head_version.calls (rdOf ByteArray.empty t158 2) t167 t168 false _ A35.out).mono ?_); rintro e w' ⟨rfl, ⟨nd, rfl⟩⟩; refine ⟨_, rfl, ?_⟩; (try (rw [drewN_self wc]; generalize hq_ : World.drewN wc _ = wc; have n0_ : Aside0 (Kd.R Kd.string 9 wc w.heap.size (fun k_ => some k_ ≠ (.slice (some ad166) t158.length co117 : Value).ownBlock) (.slice (some ad157) t153.length co16) t153) := ⟨by rw [← hq_]; exact (by (with_reducible repeat (first | apply Kd.R_alloc | apply Kd.R_drewN | apply Kd.R_drew)); exact HO_4.out)⟩; have n1_ : Aside0 (Kd.R Kd.string 9 wc w.heap.size (fun k_ => some k_ ≠ (.slice (some ad157) t153.length co16 : Value).ownBlock) (.slice (some ad166) t158.length co117) t158) := ⟨by rw [← hq_]; exact (by (with_reducible repeat (first | apply Kd.R_alloc | apply Kd.R_drewN | apply Kd.R_drew)); exact HO_6.out)⟩; have n2_ : Aside0 (wc.heap[gb152]? = some (.cells #[.string (⟨#[]⟩ : ByteArray), .string (⟨#[]⟩ : ByteArray), .int .i64 0, .slice none 0 0] 35 (0, 0))) := ⟨by rw [← hq_]; exact (by (with_reducible repeat (first | refine blk_drewN ?_ _ | refine blk_drew ?_ | refine blk_alloc ?_ _)); exact BK152.out)⟩; have n3_ : Aside0 (Below w.heap.size w wc) := ⟨by rw [← hq_]; exact (by repeat (first | (with_reducible first | exact HB.out | apply below_alloc | apply pw_below_drewN | apply below_drew1 | refine below_set ?_ GE152.out) | exact HB.out))⟩; clear HO_4 HO_6 BK152 HB hq_; have HO_4 := n0_; have HO_6 := n1_; have BK152 := n2_; have HB := n3_; clear n0_ n1_ n2_ n3_)); have hcz118_0 : wc.cell? ⟨gb152, 0, none⟩ = some (.string (⟨#[]⟩ : ByteArray)) := (blk_cell BK152.out 0).trans rfl; have hcz118_1 : wc.cell? ⟨gb152, 1, none⟩ = some (.string (⟨#[]⟩ : ByteArray)) := (blk_cell BK152.out 1).trans rfl; have hcz118_2 : wc.cell? ⟨gb152, 2, none⟩ = some (.int .i64 0) := (blk_cell BK152.out 2).trans rfl; have hcz118_3 : wc.cell? ⟨gb152, 3, none⟩ = some (.slice none 0 0) := (blk_cell BK152.out 3).trans rfl; have hfz118_0 := blk_frozen BK152.out 0; have hfz118_1 := blk_frozen BK152.out 1; have hfz118_2 := blk_frozen BK152.out 2; have hfz118_3 := blk_frozen BK152.out 3))
           refine bodyPost_ret (results_ct rfl _ _ gb152 35 #[.string (⟨#[]⟩ : ByteArray), .string (⟨#[]⟩ : ByteArray), .int .i64 0, .slice none 0 0] (0, 0) _ rfl (by (with_reducible repeat (first | refine blk_drewN ?_ _ | refine blk_drew ?_ | refine blk_alloc ?_ _)); refine blk_put (cs := #[.string (⟨#[]⟩ : ByteArray), .string (⟨#[]⟩ : ByteArray), .int .i64 0, .slice none 0 0]) ?_ 3 _ rfl; (with_reducible repeat (first | refine blk_drewN ?_ _ | refine blk_drew ?_ | refine blk_alloc ?_ _)); refine blk_put (cs := #[.string (⟨#[]⟩ : ByteArray), .string (⟨#[]⟩ : ByteArray), .int .i64 0, .slice none 0 0]) ?_ 2 _ rfl; (with_reducible repeat (first | refine blk_drewN ?_ _ | refine blk_drew ?_ | refine blk_alloc ?_ _)); refine blk_put (cs := #[.string (⟨#[]⟩ : ByteArray), .string (⟨#[]⟩ : ByteArray), .int .i64 0, .slice none 0 0]) ?_ 1 _ rfl; (with_reducible repeat (first | refine blk_drewN ?_ _ | refine blk_drew ?_ | refine blk_alloc ?_ _)); refine blk_put (cs := #[.string (⟨#[]⟩ : ByteArray), .string (⟨#[]⟩ : ByteArray), .int .i64 0, .slice none 0 0]) ?_ 0 _ rfl; (with_reducible repeat (first | refine blk_drewN ?_ _ | refine blk_drew ?_ | refine blk_alloc ?_ _)); exact BK152.out) Tryz.underlying35 rfl (by kernel_rfl)) rfl ?_
           exact ⟨_, by first | rfl | (simp [errW_none, errW_some] <;> rfl) | (simp [*, errW_none, errW_some] <;> rfl), by first | exact Kd.R_nil _ _ _ _ _ | exact Kd.N_nil _ _ _ _ _ | exact Kd.V_nil _ _ _ _ _ | exact Kd.Q_nil _ _ _ _ _ | exact Kd.S_nil _ _ _ _ _, by repeat (first | (with_reducible first | exact HB.out | apply below_alloc | apply pw_below_drewN | apply below_drew1 | refine below_set ?_ GE152.out) | exact HB.out)⟩
         ·rw [if_neg c34] at H
          exact absurd H (by simp)
     ·rw [if_neg c13] at H
      exact absurd H (by simp)

end Go.Proofs.YtnhpcpmgedjffaaGreatDoor.P
