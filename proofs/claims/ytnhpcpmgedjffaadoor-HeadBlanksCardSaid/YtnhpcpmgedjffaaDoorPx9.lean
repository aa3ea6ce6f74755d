-- Written by the proof's own program out of the translation; Lean checks it.
import Derived.Test.YtnhpcpmgedjffaaDoorPx0
import Derived.Test.YtnhpcpmgedjffaaDoorPx2
import Derived.Test.YtnhpcpmgedjffaaDoorPx3
import Derived.Test.YtnhpcpmgedjffaaDoorPx4
import Derived.Test.YtnhpcpmgedjffaaDoorPx5
import Derived.Test.YtnhpcpmgedjffaaDoorPx6
import Derived.Test.YtnhpcpmgedjffaaDoorPx8
namespace Go.Proofs.YtnhpcpmgedjffaaDoor.P
open Go.RowKit Go.Proofs.YtnhpcpmgedjffaaDoorW.PrintWords Go.Proofs.YtnhpcpmgedjffaaDoorW.PrintLast Go.Proofs.YtnhpcpmgedjffaaDoorW.PrintMore Go.Proofs.YtnhpcpmgedjffaaDoorX
attribute [local go_sem] max2_int min2_int max_two min_two max_three min_three max_four min_four   -- for this text's walks alone
set_option linter.unusedVariables false
set_option linter.unusedSimpArgs false

/-! ### ostiarylaw13_HeadBlanks: function 10 -/
def ostiarylaw13_HeadBlanks.j0 : Nat → ByteArray → ByteArray → Int → Int → Bool → Bool → ByteArray → ByteArray → Int → List (S67) → Option (Bool)
 | 0, _, _, _, _, _, _, _, _, _, _ => none
 | k + 1, x0, x1, x2, x3, x9, x27, x250000, x250001, x250002, x250003 => if x27 = true then (some x9) else (if x0.size + 1 ≤ 9223372036854775807 then ((ostiarylaw13_blanks.f k x2).bind fun t251 => (if (x0 ++ (⟨#[58]⟩ : ByteArray)).size + t251.size ≤ 9223372036854775807 then (if ((x0 ++ (⟨#[58]⟩ : ByteArray)) ++ t251).size + x1.size ≤ 9223372036854775807 then ((ostiarylaw13_blanks.f k x3).bind fun t252 => (if (((x0 ++ (⟨#[58]⟩ : ByteArray)) ++ t251) ++ x1).size + t252.size ≤ 9223372036854775807 then (if 17 + ((((x0 ++ (⟨#[58]⟩ : ByteArray)) ++ t251) ++ x1) ++ t252).size ≤ 9223372036854775807 then (if ((⟨#[71, 69, 84, 32, 47, 97, 32, 72, 84, 84, 80, 47, 49, 46, 48, 13, 10]⟩ : ByteArray) ++ ((((x0 ++ (⟨#[58]⟩ : ByteArray)) ++ t251) ++ x1) ++ t252)).size + 4 ≤ 9223372036854775807 then (if (((⟨#[71, 69, 84, 32, 47, 97, 32, 72, 84, 84, 80, 47, 49, 46, 48, 13, 10]⟩ : ByteArray) ++ ((((x0 ++ (⟨#[58]⟩ : ByteArray)) ++ t251) ++ x1) ++ t252)) ++ (⟨#[13, 10, 13, 10]⟩ : ByteArray)).size ≤ 140737488355328 then ((head_Parse.f k (bytesOf (((⟨#[71, 69, 84, 32, 47, 97, 32, 72, 84, 84, 80, 47, 49, 46, 48, 13, 10]⟩ : ByteArray) ++ ((((x0 ++ (⟨#[58]⟩ : ByteArray)) ++ t251) ++ x1) ++ t252)) ++ (⟨#[13, 10, 13, 10]⟩ : ByteArray)))).bind fun bt256 => ((ostiarylaw13_turned.f x0).bind fun t264 => ((head_Field.f k bt256.1 bt256.2.1 bt256.2.2.1 bt256.2.2.2.1 t264).bind fun bt265 => (if x9 = true then (if bt256.2.2.2.2 = 200 then ((ostiarykit_SameHead.f k bt256.1 bt256.2.1 bt256.2.2.1 bt256.2.2.2.1 x250000 x250001 x250002 x250003).bind fun t267 => (if t267 = true then (if bt265.1.toList = x1.toList then (if bt265.2 = 1 then (if 17 + x0.size ≤ 9223372036854775807 then (if ((⟨#[71, 69, 84, 32, 47, 97, 32, 72, 84, 84, 80, 47, 49, 46, 48, 13, 10]⟩ : ByteArray) ++ x0).size + 2 ≤ 9223372036854775807 then (if (((⟨#[71, 69, 84, 32, 47, 97, 32, 72, 84, 84, 80, 47, 49, 46, 48, 13, 10]⟩ : ByteArray) ++ x0) ++ (⟨#[58, 10]⟩ : ByteArray)).size + x1.size ≤ 9223372036854775807 then (if ((((⟨#[71, 69, 84, 32, 47, 97, 32, 72, 84, 84, 80, 47, 49, 46, 48, 13, 10]⟩ : ByteArray) ++ x0) ++ (⟨#[58, 10]⟩ : ByteArray)) ++ x1).size + 4 ≤ 9223372036854775807 then ((ostiarylaw13_status.f k (((((⟨#[71, 69, 84, 32, 47, 97, 32, 72, 84, 84, 80, 47, 49, 46, 48, 13, 10]⟩ : ByteArray) ++ x0) ++ (⟨#[58, 10]⟩ : ByteArray)) ++ x1) ++ (⟨#[13, 10, 13, 10]⟩ : ByteArray))).bind fun t268 => (some (t268 == 400))) else (none)) else (none)) else (none)) else (none)) else (some false)) else (some false)) else (some false))) else (some false)) else (some false))))) else (none)) else (none)) else (none)) else (none))) else (none)) else (none))) else (none))
def ostiarylaw13_HeadBlanks.f (k : Nat) (a0 : ByteArray) (a1 : ByteArray) (a2 : Int) (a3 : Int) : Option (Bool) := (ostiarylaw13_awake.f k).bind fun t242 => ((ostiarylaw13_of.f 0 a0 a1).bind fun bt243 => ((head_Check.f k bt243.1 bt243.2.1 bt243.2.2.1 bt243.2.2.2).bind fun t250 => (if t250 = 0 then (ostiarylaw13_HeadBlanks.j0 k a0 a1 a2 a3 t242 (decide ((a1.size : Int) > 2000)) bt243.1 bt243.2.1 bt243.2.2.1 bt243.2.2.2) else (ostiarylaw13_HeadBlanks.j0 k a0 a1 a2 a3 t242 true bt243.1 bt243.2.1 bt243.2.2.1 bt243.2.2.2))))
theorem ostiarylaw13_HeadBlanks.mono_l : ∀ k, (∀ y0 y1 y2 y3 y4 y5 y6 y7 y8 y9, LeO (ostiarylaw13_HeadBlanks.j0 k y0 y1 y2 y3 y4 y5 y6 y7 y8 y9) (ostiarylaw13_HeadBlanks.j0 (k + 1) y0 y1 y2 y3 y4 y5 y6 y7 y8 y9))
 | 0 => fun _ _ _ _ _ _ _ _ _ _ r h => by simp [ostiarylaw13_HeadBlanks.j0] at h
 | k + 1 => by
  have ih0 := ostiarylaw13_HeadBlanks.mono_l k
  ·intro y0 y1 y2 y3 y4 y5 y6 y7 y8 y9
   unfold ostiarylaw13_HeadBlanks.j0
   repeat' first
   | (with_reducible exact ih0 _ _ _ _ _ _ _ _ _ _)
   | (with_reducible exact head_Check.mono _ _ _ _ _)
   | (with_reducible exact head_Field.mono _ _ _ _ _ _)
   | (with_reducible exact head_Parse.mono _ _)
   | (with_reducible exact ostiarykit_SameHead.mono _ _ _ _ _ _ _ _ _)
   | (with_reducible exact ostiarylaw13_awake.mono _)
   | (with_reducible exact ostiarylaw13_blanks.mono _ _)
   | (with_reducible exact ostiarylaw13_status.mono _ _)
   | (with_reducible exact LeO.refl _)
   | (with_reducible exact LeO.none _)
   | (with_reducible refine LeO.ite ?_ ?_)
   | (with_reducible refine LeO.bind ?_ (fun _ => ?_))
   | exact ih0 _ _ _ _ _ _ _ _ _ _
   | exact head_Check.mono _ _ _ _ _
   | exact head_Field.mono _ _ _ _ _ _
   | exact head_Parse.mono _ _
   | exact ostiarykit_SameHead.mono _ _ _ _ _ _ _ _ _
   | exact ostiarylaw13_awake.mono _
   | exact ostiarylaw13_blanks.mono _ _
   | exact ostiarylaw13_status.mono _ _
   | exact LeO.none _
   | refine LeO.ite ?_ ?_
   | refine LeO.bind ?_ (fun _ => ?_)
theorem ostiarylaw13_HeadBlanks.mono : ∀ a0 a1 a2 a3 k, LeO (ostiarylaw13_HeadBlanks.f k a0 a1 a2 a3) (ostiarylaw13_HeadBlanks.f (k + 1) a0 a1 a2 a3) := by
 intro a0 a1 a2 a3 k
 have ih0 := ostiarylaw13_HeadBlanks.mono_l k
 unfold ostiarylaw13_HeadBlanks.f
 repeat' first
   | (with_reducible exact ih0 _ _ _ _ _ _ _ _ _ _)
   | (with_reducible exact head_Check.mono _ _ _ _ _)
   | (with_reducible exact head_Field.mono _ _ _ _ _ _)
   | (with_reducible exact head_Parse.mono _ _)
   | (with_reducible exact ostiarykit_SameHead.mono _ _ _ _ _ _ _ _ _)
   | (with_reducible exact ostiarylaw13_awake.mono _)
   | (with_reducible exact ostiarylaw13_blanks.mono _ _)
   | (with_reducible exact ostiarylaw13_status.mono _ _)
   | (with_reducible exact LeO.refl _)
   | (with_reducible exact LeO.none _)
   | (with_reducible refine LeO.ite ?_ ?_)
   | (with_reducible refine LeO.bind ?_ (fun _ => ?_))
   | exact ih0 _ _ _ _ _ _ _ _ _ _
   | exact head_Check.mono _ _ _ _ _
   | exact head_Field.mono _ _ _ _ _ _
   | exact head_Parse.mono _ _
   | exact ostiarykit_SameHead.mono _ _ _ _ _ _ _ _ _
   | exact ostiarylaw13_awake.mono _
   | exact ostiarylaw13_blanks.mono _ _
   | exact ostiarylaw13_status.mono _ _
   | exact LeO.none _
   | refine LeO.ite ?_ ?_
   | refine LeO.bind ?_ (fun _ => ?_)
def ostiarylaw13_HeadBlanks.T7 : Bool × List (List Nat × List Nat) := (true, [([], []), ([], []), ([1], [1]), ([0, 2, 2], [0, 2]), ([3], [3]), ([4], [4]), ([4], [4]), ([5, 3, 0, 1, 2, 3, 4, 5], [5]), ([6, 7, 0, 1, 2, 3, 4, 5, 6, 7], [6])])
def ostiarylaw13_HeadBlanks.B7 : List Nat := [0, 0, 2, 7, 15, 31, 31, 63, 255]
theorem ostiarylaw13_HeadBlanks.tab7 : rtab .any (opsOf Tryd.f10 7) = ostiarylaw13_HeadBlanks.T7 := by kernel_rfl
theorem ostiarylaw13_HeadBlanks.bits7 : waitsOk ostiarylaw13_HeadBlanks.T7.2 ostiarylaw13_HeadBlanks.B7 = true := by kernel_rfl
set_option maxHeartbeats 8000000 in
set_option maxRecDepth 100000 in
theorem ostiarylaw13_HeadBlanks.calls (k : Nat) (a0 : ByteArray) (a1 : ByteArray) (a2 : Int) (a3 : Int) (r : Bool) (w : World) (hG : GG 5 w) (h : ostiarylaw13_HeadBlanks.f k a0 a1 a2 a3 = some r) :
  Calls Tryd.prog 10 #[.string a0, .string a1, .int .i64 a2, .int .i64 a3] w fun e w' => e = .returned (.bool r) ∧ Below w.heap.size w w' := by
 have hu24 := Tryd.underlying24
 have HGG := Aside0.mk hG
 clear hG
 have HB := Aside0.mk (Below.refl w.heap.size w)
 have H : ((ostiarylaw13_awake.f k).bind fun t242 => ((ostiarylaw13_of.f 0 a0 a1).bind fun bt243 => ((head_Check.f k bt243.1 bt243.2.1 bt243.2.2.1 bt243.2.2.2).bind fun t250 => (if t250 = 0 then (ostiarylaw13_HeadBlanks.j0 k a0 a1 a2 a3 t242 (decide ((a1.size : Int) > 2000)) bt243.1 bt243.2.1 bt243.2.2.1 bt243.2.2.2) else (ostiarylaw13_HeadBlanks.j0 k a0 a1 a2 a3 t242 true bt243.1 bt243.2.1 bt243.2.2.1 bt243.2.2.2))))) = some r := h
 clear h
 replace H := Option.bind_eq_some_iff.mp H
 obtain ⟨t242, A50, H⟩ := H
 replace H : ((ostiarylaw13_of.f 0 a0 a1).bind fun bt243 => ((head_Check.f k bt243.1 bt243.2.1 bt243.2.2.1 bt243.2.2.2).bind fun t250 => (if t250 = 0 then (ostiarylaw13_HeadBlanks.j0 k a0 a1 a2 a3 t242 (decide ((a1.size : Int) > 2000)) bt243.1 bt243.2.1 bt243.2.2.1 bt243.2.2.2) else (ostiarylaw13_HeadBlanks.j0 k a0 a1 a2 a3 t242 true bt243.1 bt243.2.1 bt243.2.2.1 bt243.2.2.2)))) = some r := H
 have A5 := Aside0.mk A50
 clear A50
 replace H := Option.bind_eq_some_iff.mp H
 obtain ⟨⟨t243, t244, t245, t246⟩, A60, H⟩ := H
 replace H : ((head_Check.f k t243 t244 t245 t246).bind fun t250 => (if t250 = 0 then (ostiarylaw13_HeadBlanks.j0 k a0 a1 a2 a3 t242 (decide ((a1.size : Int) > 2000)) t243 t244 t245 t246) else (ostiarylaw13_HeadBlanks.j0 k a0 a1 a2 a3 t242 true t243 t244 t245 t246))) = some r := H
 have A6 := Aside0.mk A60
 clear A60
 have HC7 := Aside0.mk H
 clear H
 go_enter Tryd.func10, Tryd.ntmps10
 go_upto_region 3 with (first | ((with_reducible refine gate_callee (f := 40) rfl ?_); refine goesL_ (some 16) rfl rfl Tryd.func40 (by kernel_rfl) rfl #[] rfl (by (try simp only [List.map_toArray, List.map_cons, List.map_nil]); first | done | rfl | (simp only [List.length_drop, List.length_take]; rfl)) ?_; (with_reducible refine (ostiarylaw13_awake.calls k  t242 _ ?side1 A5.out).mono ?_); (case side1 => exact GG_step HGG.out (by decide) (by repeat (first | (with_reducible first | exact HB.out | apply below_alloc | apply pw_below_drewN | apply below_drew1) | exact HB.out))); rintro e w8 ⟨rfl, hb⟩; refine ⟨_, rfl, ?_⟩; have n0_ := Aside0.mk (below_step (by repeat (first | (with_reducible first | exact HB.out | apply below_alloc | apply pw_below_drewN | apply below_drew1) | exact HB.out)) hb); clear HB; have HB := n0_; clear n0_; (try clear hb); (try clear hb2); (try clear hk); (try clear hi)) | ((with_reducible refine gate_callee (f := 43) rfl ?_); refine goesL_ (some 19) rfl rfl Tryd.func43 (by kernel_rfl) rfl #[.int .i64 0, .string a0, .string a1] rfl (by (try simp only [List.map_toArray, List.map_cons, List.map_nil]); first | done | rfl | (simp only [List.length_drop, List.length_take]; rfl)) ?_; (with_reducible refine (ostiarylaw13_of.calls 0 a0 a1 t243 t244 t245 t246 _ A6.out).mono ?_); rintro e w9 ⟨v247, rfl, ho0, hb⟩; refine ⟨_, rfl, ?_⟩; have n0_ := Aside0.mk (Kd.R_lower ho0 (below_size (by repeat (first | (with_reducible first | exact HB.out | apply below_alloc | apply pw_below_drewN | apply below_drew1) | exact HB.out)))); have n1_ := Aside0.mk (below_step (by repeat (first | (with_reducible first | exact HB.out | apply below_alloc | apply pw_below_drewN | apply below_drew1) | exact HB.out)) hb); clear HB; have HO248 := n0_; have HB := n1_; clear n0_ n1_; (try clear hb); (try clear hb2); (try clear hk); (try clear hi); (try clear ho0)) | ((with_reducible refine gate_dst (N := 10) rfl ?_); (try (refine gate_guard (by rfl) ?_; dsimp only)); refine box_event ?hg (N := 10) ?hd (cs := #[.string (⟨#[]⟩ : ByteArray), .string (⟨#[]⟩ : ByteArray), .int .i64 0, .slice none 0 0]) (t := 24) ?hr ?_; (case hd => rfl); (case hg => rfl); (case hr => first | (go_simp; done) | (go_simp; rfl)); intro gb249 hg w10 hbox hb; have n0_ := Aside0.mk (Kd.R_below (by (with_reducible repeat (first | apply Kd.R_alloc | apply Kd.R_drewN | apply Kd.R_drew)); exact HO248.out) hb); have n1_ := Aside0.mk (below_step (by repeat (first | (with_reducible first | exact HB.out | apply below_alloc | apply pw_below_drewN | apply below_drew1) | exact HB.out)) hb); have n2_ := Aside0.mk (hbox); have n3_ := Aside0.mk ((by rw [hg]; exact (below_size (by repeat (first | (with_reducible first | exact HB.out | apply below_alloc | apply pw_below_drewN | apply below_drew1) | exact HB.out))) : w.heap.size ≤ gb249)); have n4_ := Aside0.mk ((by rw [hg]; exact (below_size (by repeat (first | (with_reducible first | exact HB.out | apply below_alloc | apply pw_below_drewN | apply below_drew1) | exact HB.out))) : w.heap.size ≤ gb249)); clear HO248; clear HB; have HO248 := n0_; have HB := n1_; have BK249 := n2_; have GW249 := n3_; have GE249 := n4_; clear n0_ n1_ n2_ n3_ n4_; clear hb hbox hg; have hcz11_0 : w10.cell? ⟨gb249, 0, none⟩ = some (.string (⟨#[]⟩ : ByteArray)) := (blk_cell BK249.out 0).trans rfl; have hcz11_1 : w10.cell? ⟨gb249, 1, none⟩ = some (.string (⟨#[]⟩ : ByteArray)) := (blk_cell BK249.out 1).trans rfl; have hcz11_2 : w10.cell? ⟨gb249, 2, none⟩ = some (.int .i64 0) := (blk_cell BK249.out 2).trans rfl; have hcz11_3 : w10.cell? ⟨gb249, 3, none⟩ = some (.slice none 0 0) := (blk_cell BK249.out 3).trans rfl; have hfz11_0 := blk_frozen BK249.out 0; have hfz11_1 := blk_frozen BK249.out 1; have hfz11_2 := blk_frozen BK249.out 2; have hfz11_3 := blk_frozen BK249.out 3; obtain ⟨Ao12, co12, eo12⟩ := Kd.R_slice HO248.out; subst eo12))
 (try simp only [Act.put, List.setIfInBounds_toArray, List.set_cons_zero, List.set_cons_succ])
 go_cut [27] (fun v27 wc => ∃ (kq : Nat) (x27_6 : Bool), v27 = .bool x27_6 ∧ Aside0 (ostiarylaw13_HeadBlanks.j0 kq a0 a1 a2 a3 t242 x27_6 t243 t244 t245 t246 = some r) ∧ Aside0 (kq ≤ k) ∧ Aside0 (Kd.R k67 67 wc w.heap.size (fun _ => True) (.slice Ao12 t246.length co12) t246) ∧ Aside0 (wc.heap[gb249]? = some (.cells #[.string t243, .string t244, .int .i64 t245, (.slice Ao12 t246.length co12)] 24 (0, 0))) ∧ Aside0 (Below w.heap.size w wc))
 case first =>
  have H := HC7.out
  clear HC7
  replace H := Option.bind_eq_some_iff.mp H
  obtain ⟨t250, A130, H⟩ := H
  replace H : (if t250 = 0 then (ostiarylaw13_HeadBlanks.j0 k a0 a1 a2 a3 t242 (decide ((a1.size : Int) > 2000)) t243 t244 t245 t246) else (ostiarylaw13_HeadBlanks.j0 k a0 a1 a2 a3 t242 true t243 t244 t245 t246)) = some r := H
  have A13 := Aside0.mk A130
  clear A130
  by_cases c14 : t250 = 0
  ·rw [if_pos c14] at H
   have c14b0 : (t250 == 0) = true := beq_iff_eq.mpr c14
   have c14b1 : (t250 != 0) = false := bne_eq_false_iff_eq.mpr c14
   clear c14
   (first | rw [c14b0] | (simp only [i64_w, i32_w]; rw [c14b0]) | skip)
   have H' := Aside0.mk H
   clear H
   have hcz15_0 : w10.cell? ⟨gb249, 0, none⟩ = some (.string (⟨#[]⟩ : ByteArray)) := (blk_cell BK249.out 0).trans rfl
   have hcz15_1 : w10.cell? ⟨gb249, 1, none⟩ = some (.string (⟨#[]⟩ : ByteArray)) := (blk_cell BK249.out 1).trans rfl
   have hcz15_2 : w10.cell? ⟨gb249, 2, none⟩ = some (.int .i64 0) := (blk_cell BK249.out 2).trans rfl
   have hcz15_3 : w10.cell? ⟨gb249, 3, none⟩ = some (.slice none 0 0) := (blk_cell BK249.out 3).trans rfl
   have hfz15_0 := blk_frozen BK249.out 0
   have hfz15_1 := blk_frozen BK249.out 1
   have hfz15_2 := blk_frozen BK249.out 2
   have hfz15_3 := blk_frozen BK249.out 3
   go_wp2_with (first | ((with_reducible refine gate_callee (f := 44) rfl ?_); refine goesL_ (some 21) rfl rfl Tryd.func44 (by kernel_rfl) rfl #[.agg #[.string t243, .string t244, .int .i64 t245, .slice Ao12 t246.length co12]] rfl (by (try simp only [List.map_toArray, List.map_cons, List.map_nil]); first | done | rfl | (simp only [List.length_drop, List.length_take]; rfl)) ?_; (with_reducible refine (head_Check.calls k t243 t244 t245 _ _ t246 t250 _ ?side1 ?side2 A13.out).mono ?_); (case side1 => refine (Kd.R_reads' (e := 67) (base := w.heap.size) (ok := fun k_ => True) (n := t246.length) (c := co12) ?_).2.2; exact (by (with_reducible repeat (first | apply Kd.R_alloc | apply Kd.R_drewN | apply Kd.R_drew)); exact (Kd.R_mono (Kd.R_far (p := ⟨gb249, 3, none⟩) (Kd.R_far (p := ⟨gb249, 2, none⟩) (Kd.R_far (p := ⟨gb249, 1, none⟩) (Kd.R_far (p := ⟨gb249, 0, none⟩) (Kd.R_types HO248.out BK249.out (by decide)) (fun _ hk => hk.2) (.string t243)) (fun _ hk => hk.2) (.string t244)) (fun _ hk => hk.2) (.int .i64 t245)) (fun _ hk => hk.2) (.slice Ao12 t246.length co12)) (fun _ h_ => h_.1)))); (case side2 => exact (Kd.R_reads' HO248.out).2.1); rintro e w16 ⟨rfl, hb⟩; refine ⟨_, rfl, ?_⟩; have n0_ := Aside0.mk (Kd.R_below (by (with_reducible repeat (first | apply Kd.R_alloc | apply Kd.R_drewN | apply Kd.R_drew)); exact (Kd.R_mono (Kd.R_far (p := ⟨gb249, 3, none⟩) (Kd.R_far (p := ⟨gb249, 2, none⟩) (Kd.R_far (p := ⟨gb249, 1, none⟩) (Kd.R_far (p := ⟨gb249, 0, none⟩) (Kd.R_types HO248.out BK249.out (by decide)) (fun _ hk => hk.2) (.string t243)) (fun _ hk => hk.2) (.string t244)) (fun _ hk => hk.2) (.int .i64 t245)) (fun _ hk => hk.2) (.slice Ao12 t246.length co12)) (fun _ h_ => h_.1))) hb); have n1_ := Aside0.mk (blk_below (g := gb249) (o := .cells #[.string t243, .string t244, .int .i64 t245, .slice Ao12 t246.length co12] 24 (0, 0)) (by (with_reducible repeat (first | refine blk_drewN ?_ _ | refine blk_drew ?_ | refine blk_alloc ?_ _)); refine blk_put (cs := #[.string t243, .string t244, .int .i64 t245, .slice none 0 0]) ?_ 3 _ rfl; (with_reducible repeat (first | refine blk_drewN ?_ _ | refine blk_drew ?_ | refine blk_alloc ?_ _)); refine blk_put (cs := #[.string t243, .string t244, .int .i64 0, .slice none 0 0]) ?_ 2 _ rfl; (with_reducible repeat (first | refine blk_drewN ?_ _ | refine blk_drew ?_ | refine blk_alloc ?_ _)); refine blk_put (cs := #[.string t243, .string (⟨#[]⟩ : ByteArray), .int .i64 0, .slice none 0 0]) ?_ 1 _ rfl; (with_reducible repeat (first | refine blk_drewN ?_ _ | refine blk_drew ?_ | refine blk_alloc ?_ _)); refine blk_put (cs := #[.string (⟨#[]⟩ : ByteArray), .string (⟨#[]⟩ : ByteArray), .int .i64 0, .slice none 0 0]) ?_ 0 _ rfl; (with_reducible repeat (first | refine blk_drewN ?_ _ | refine blk_drew ?_ | refine blk_alloc ?_ _)); exact BK249.out) hb); have n2_ := Aside0.mk (below_step (by repeat (first | (with_reducible first | exact HB.out | apply below_alloc | apply pw_below_drewN | apply below_drew1 | refine below_set ?_ GE249.out) | exact HB.out)) hb); clear HO248; clear BK249; clear HB; have HO248 := n0_; have BK249 := n1_; have HB := n2_; clear n0_ n1_ n2_; (try clear hb); (try clear hb2); (try clear hk); (try clear hi)))
   go_meet
   case rel => exact ⟨_, (decide ((a1.size : Int) > 2000)), (by first | rfl | (simp; done) | (simp [*]; done)), H', ⟨by first | omega | exact Nat.le_refl _⟩, ⟨by (with_reducible repeat (first | apply Kd.R_alloc | apply Kd.R_drewN | apply Kd.R_drew)); exact HO248.out⟩, ⟨by (with_reducible repeat (first | refine blk_drewN ?_ _ | refine blk_drew ?_ | refine blk_alloc ?_ _)); exact BK249.out⟩, ⟨by repeat (first | (with_reducible first | exact HB.out | apply below_alloc | apply pw_below_drewN | apply below_drew1 | refine below_set ?_ GE249.out) | exact HB.out)⟩⟩
  ·rw [if_neg c14] at H
   have c14b0 : (t250 == 0) = false := beq_eq_false_iff_ne.mpr c14
   have c14b1 : (t250 != 0) = true := bne_iff_ne.mpr c14
   (first | rw [c14b0] | (simp only [i64_w, i32_w]; rw [c14b0]) | skip)
   have H' := Aside0.mk H
   clear H
   have hcz17_0 : w10.cell? ⟨gb249, 0, none⟩ = some (.string (⟨#[]⟩ : ByteArray)) := (blk_cell BK249.out 0).trans rfl
   have hcz17_1 : w10.cell? ⟨gb249, 1, none⟩ = some (.string (⟨#[]⟩ : ByteArray)) := (blk_cell BK249.out 1).trans rfl
   have hcz17_2 : w10.cell? ⟨gb249, 2, none⟩ = some (.int .i64 0) := (blk_cell BK249.out 2).trans rfl
   have hcz17_3 : w10.cell? ⟨gb249, 3, none⟩ = some (.slice none 0 0) := (blk_cell BK249.out 3).trans rfl
   have hfz17_0 := blk_frozen BK249.out 0
   have hfz17_1 := blk_frozen BK249.out 1
   have hfz17_2 := blk_frozen BK249.out 2
   have hfz17_3 := blk_frozen BK249.out 3
   go_wp2_with (first | ((with_reducible refine gate_callee (f := 44) rfl ?_); refine goesL_ (some 21) rfl rfl Tryd.func44 (by kernel_rfl) rfl #[.agg #[.string t243, .string t244, .int .i64 t245, .slice Ao12 t246.length co12]] rfl (by (try simp only [List.map_toArray, List.map_cons, List.map_nil]); first | done | rfl | (simp only [List.length_drop, List.length_take]; rfl)) ?_; (with_reducible refine (head_Check.calls k t243 t244 t245 _ _ t246 t250 _ ?side1 ?side2 A13.out).mono ?_); (case side1 => refine (Kd.R_reads' (e := 67) (base := w.heap.size) (ok := fun k_ => True) (n := t246.length) (c := co12) ?_).2.2; exact (by (with_reducible repeat (first | apply Kd.R_alloc | apply Kd.R_drewN | apply Kd.R_drew)); exact (Kd.R_mono (Kd.R_far (p := ⟨gb249, 3, none⟩) (Kd.R_far (p := ⟨gb249, 2, none⟩) (Kd.R_far (p := ⟨gb249, 1, none⟩) (Kd.R_far (p := ⟨gb249, 0, none⟩) (Kd.R_types HO248.out BK249.out (by decide)) (fun _ hk => hk.2) (.string t243)) (fun _ hk => hk.2) (.string t244)) (fun _ hk => hk.2) (.int .i64 t245)) (fun _ hk => hk.2) (.slice Ao12 t246.length co12)) (fun _ h_ => h_.1)))); (case side2 => exact (Kd.R_reads' HO248.out).2.1); rintro e w18 ⟨rfl, hb⟩; refine ⟨_, rfl, ?_⟩; have n0_ := Aside0.mk (Kd.R_below (by (with_reducible repeat (first | apply Kd.R_alloc | apply Kd.R_drewN | apply Kd.R_drew)); exact (Kd.R_mono (Kd.R_far (p := ⟨gb249, 3, none⟩) (Kd.R_far (p := ⟨gb249, 2, none⟩) (Kd.R_far (p := ⟨gb249, 1, none⟩) (Kd.R_far (p := ⟨gb249, 0, none⟩) (Kd.R_types HO248.out BK249.out (by decide)) (fun _ hk => hk.2) (.string t243)) (fun _ hk => hk.2) (.string t244)) (fun _ hk => hk.2) (.int .i64 t245)) (fun _ hk => hk.2) (.slice Ao12 t246.length co12)) (fun _ h_ => h_.1))) hb); have n1_ := Aside0.mk (blk_below (g := gb249) (o := .cells #[.string t243, .string t244, .int .i64 t245, .slice Ao12 t246.length co12] 24 (0, 0)) (by (with_reducible repeat (first | refine blk_drewN ?_ _ | refine blk_drew ?_ | refine blk_alloc ?_ _)); refine blk_put (cs := #[.string t243, .string t244, .int .i64 t245, .slice none 0 0]) ?_ 3 _ rfl; (with_reducible repeat (first | refine blk_drewN ?_ _ | refine blk_drew ?_ | refine blk_alloc ?_ _)); refine blk_put (cs := #[.string t243, .string t244, .int .i64 0, .slice none 0 0]) ?_ 2 _ rfl; (with_reducible repeat (first | refine blk_drewN ?_ _ | refine blk_drew ?_ | refine blk_alloc ?_ _)); refine blk_put (cs := #[.string t243, .string (⟨#[]⟩ : ByteArray), .int .i64 0, .slice none 0 0]) ?_ 1 _ rfl; (with_reducible repeat (first | refine blk_drewN ?_ _ | refine blk_drew ?_ | refine blk_alloc ?_ _)); refine blk_put (cs := #[.string (⟨#[]⟩ : ByteArray), .string (⟨#[]⟩ : ByteArray), .int .i64 0, .slice none 0 0]) ?_ 0 _ rfl; (with_reducible repeat (first | refine blk_drewN ?_ _ | refine blk_drew ?_ | refine blk_alloc ?_ _)); exact BK249.out) hb); have n2_ := Aside0.mk (below_step (by repeat (first | (with_reducible first | exact HB.out | apply below_alloc | apply pw_below_drewN | apply below_drew1 | refine below_set ?_ GE249.out) | exact HB.out)) hb); clear HO248; clear BK249; clear HB; have HO248 := n0_; have BK249 := n1_; have HB := n2_; clear n0_ n1_ n2_; (try clear hb); (try clear hb2); (try clear hk); (try clear hi)))
   go_meet
   case rel => exact ⟨_, (true), (by first | rfl | (simp; done) | (simp [*]; done)), H', ⟨by first | omega | exact Nat.le_refl _⟩, ⟨by (with_reducible repeat (first | apply Kd.R_alloc | apply Kd.R_drewN | apply Kd.R_drew)); exact HO248.out⟩, ⟨by (with_reducible repeat (first | refine blk_drewN ?_ _ | refine blk_drew ?_ | refine blk_alloc ?_ _)); exact BK249.out⟩, ⟨by repeat (first | (with_reducible first | exact HB.out | apply below_alloc | apply pw_below_drewN | apply below_drew1 | refine below_set ?_ GE249.out) | exact HB.out)⟩⟩
 case rest =>
  clear HC7
  try clear c1
  try clear p2
  try clear c4
  try clear c10
  try clear c14
  try clear c14b0
  try clear c14b1
  try clear hcz11_0
  try clear hcz11_1
  try clear hcz11_2
  try clear hcz11_3
  try clear hcz15_0
  try clear hcz15_1
  try clear hcz15_2
  try clear hcz15_3
  try clear hcz17_0
  try clear hcz17_1
  try clear hcz17_2
  try clear hcz17_3
  try clear hfz11_0
  try clear hfz11_1
  try clear hfz11_2
  try clear hfz11_3
  try clear hfz15_0
  try clear hfz15_1
  try clear hfz15_2
  try clear hfz15_3
  try clear hfz17_0
  try clear hfz17_1
  try clear hfz17_2
  try clear hfz17_3
  obtain ⟨kq, x27_6, rfl, HA, HJ6, HO_250003, BK249, HB⟩ := hcut
  cases kq with
  | zero => exact absurd HA.out (by simp [ostiarylaw13_HeadBlanks.j0])
  | succ kj6 =>
   have H := HA.out
   clear HA
   simp only [ostiarylaw13_HeadBlanks.j0] at H
   by_cases c19 : x27_6 = true
   ·subst c19
    have H1 : (some t242) = some r := by rw [if_pos rfl] at H; exact H
    clear H
    have H := H1
    clear H1
    obtain rfl := Option.some.inj H
    go_wp2
    go_ret
    exact ⟨by first | rfl | (simp [errW_none, errW_some] <;> rfl) | (simp [*, errW_none, errW_some] <;> rfl), by repeat (first | (with_reducible first | exact HB.out | apply below_alloc | apply pw_below_drewN | apply below_drew1 | refine below_set ?_ GE249.out) | exact HB.out)⟩
   ·replace c19 := Bool.eq_false_iff.mpr c19
    subst c19
    have H1 : (if a0.size + 1 ≤ 9223372036854775807 then ((ostiarylaw13_blanks.f kj6 a2).bind fun t251 => (if (a0 ++ (⟨#[58]⟩ : ByteArray)).size + t251.size ≤ 9223372036854775807 then (if ((a0 ++ (⟨#[58]⟩ : ByteArray)) ++ t251).size + a1.size ≤ 9223372036854775807 then ((ostiarylaw13_blanks.f kj6 a3).bind fun t252 => (if (((a0 ++ (⟨#[58]⟩ : ByteArray)) ++ t251) ++ a1).size + t252.size ≤ 9223372036854775807 then (if 17 + ((((a0 ++ (⟨#[58]⟩ : ByteArray)) ++ t251) ++ a1) ++ t252).size ≤ 9223372036854775807 then (if ((⟨#[71, 69, 84, 32, 47, 97, 32, 72, 84, 84, 80, 47, 49, 46, 48, 13, 10]⟩ : ByteArray) ++ ((((a0 ++ (⟨#[58]⟩ : ByteArray)) ++ t251) ++ a1) ++ t252)).size + 4 ≤ 9223372036854775807 then (if (((⟨#[71, 69, 84, 32, 47, 97, 32, 72, 84, 84, 80, 47, 49, 46, 48, 13, 10]⟩ : ByteArray) ++ ((((a0 ++ (⟨#[58]⟩ : ByteArray)) ++ t251) ++ a1) ++ t252)) ++ (⟨#[13, 10, 13, 10]⟩ : ByteArray)).size ≤ 140737488355328 then ((head_Parse.f kj6 (bytesOf (((⟨#[71, 69, 84, 32, 47, 97, 32, 72, 84, 84, 80, 47, 49, 46, 48, 13, 10]⟩ : ByteArray) ++ ((((a0 ++ (⟨#[58]⟩ : ByteArray)) ++ t251) ++ a1) ++ t252)) ++ (⟨#[13, 10, 13, 10]⟩ : ByteArray)))).bind fun bt256 => ((ostiarylaw13_turned.f a0).bind fun t264 => ((head_Field.f kj6 bt256.1 bt256.2.1 bt256.2.2.1 bt256.2.2.2.1 t264).bind fun bt265 => (if t242 = true then (if bt256.2.2.2.2 = 200 then ((ostiarykit_SameHead.f kj6 bt256.1 bt256.2.1 bt256.2.2.1 bt256.2.2.2.1 t243 t244 t245 t246).bind fun t267 => (if t267 = true then (if bt265.1.toList = a1.toList then (if bt265.2 = 1 then (if 17 + a0.size ≤ 9223372036854775807 then (if ((⟨#[71, 69, 84, 32, 47, 97, 32, 72, 84, 84, 80, 47, 49, 46, 48, 13, 10]⟩ : ByteArray) ++ a0).size + 2 ≤ 9223372036854775807 then (if (((⟨#[71, 69, 84, 32, 47, 97, 32, 72, 84, 84, 80, 47, 49, 46, 48, 13, 10]⟩ : ByteArray) ++ a0) ++ (⟨#[58, 10]⟩ : ByteArray)).size + a1.size ≤ 9223372036854775807 then (if ((((⟨#[71, 69, 84, 32, 47, 97, 32, 72, 84, 84, 80, 47, 49, 46, 48, 13, 10]⟩ : ByteArray) ++ a0) ++ (⟨#[58, 10]⟩ : ByteArray)) ++ a1).size + 4 ≤ 9223372036854775807 then ((ostiarylaw13_status.f kj6 (((((⟨#[71, 69, 84, 32, 47, 97, 32, 72, 84, 84, 80, 47, 49, 46, 48, 13, 10]⟩ : ByteArray) ++ a0) ++ (⟨#[58, 10]⟩ : ByteArray)) ++ a1) ++ (⟨#[13, 10, 13, 10]⟩ : ByteArray))).bind fun t268 => (some (t268 == 400))) else (none)) else (none)) else (none)) else (none)) else (some false)) else (some false)) else (some false))) else (some false)) else (some false))))) else (none)) else (none)) else (none)) else (none))) else (none)) else (none))) else (none)) = some r := by rw [if_neg (show ¬ (false = true) by decide)] at H; exact H
    clear H
    have H := H1
    clear H1
    by_cases c20 : a0.size + 1 ≤ 9223372036854775807
    ·rw [if_pos c20] at H
     have c20b0 := eq_true c20
     have c20b1 : decide (a0.size + 1 ≤ 9223372036854775807) = true := decide_eq_true c20
     try have c20b2 : (9223372036854775807 < a0.size + 1) = False := eq_false (Nat.not_lt.2 c20)
     replace H := Option.bind_eq_some_iff.mp H
     obtain ⟨t251, A210, H⟩ := H
     replace H : (if (a0 ++ (⟨#[58]⟩ : ByteArray)).size + t251.size ≤ 9223372036854775807 then (if ((a0 ++ (⟨#[58]⟩ : ByteArray)) ++ t251).size + a1.size ≤ 9223372036854775807 then ((ostiarylaw13_blanks.f kj6 a3).bind fun t252 => (if (((a0 ++ (⟨#[58]⟩ : ByteArray)) ++ t251) ++ a1).size + t252.size ≤ 9223372036854775807 then (if 17 + ((((a0 ++ (⟨#[58]⟩ : ByteArray)) ++ t251) ++ a1) ++ t252).size ≤ 9223372036854775807 then (if ((⟨#[71, 69, 84, 32, 47, 97, 32, 72, 84, 84, 80, 47, 49, 46, 48, 13, 10]⟩ : ByteArray) ++ ((((a0 ++ (⟨#[58]⟩ : ByteArray)) ++ t251) ++ a1) ++ t252)).size + 4 ≤ 9223372036854775807 then (if (((⟨#[71, 69, 84, 32, 47, 97, 32, 72, 84, 84, 80, 47, 49, 46, 48, 13, 10]⟩ : ByteArray) ++ ((((a0 ++ (⟨#[58]⟩ : ByteArray)) ++ t251) ++ a1) ++ t252)) ++ (⟨#[13, 10, 13, 10]⟩ : ByteArray)).size ≤ 140737488355328 then ((head_Parse.f kj6 (bytesOf (((⟨#[71, 69, 84, 32, 47, 97, 32, 72, 84, 84, 80, 47, 49, 46, 48, 13, 10]⟩ : ByteArray) ++ ((((a0 ++ (⟨#[58]⟩ : ByteArray)) ++ t251) ++ a1) ++ t252)) ++ (⟨#[13, 10, 13, 10]⟩ : ByteArray)))).bind fun bt256 => ((ostiarylaw13_turned.f a0).bind fun t264 => ((head_Field.f kj6 bt256.1 bt256.2.1 bt256.2.2.1 bt256.2.2.2.1 t264).bind fun bt265 => (if t242 = true then (if bt256.2.2.2.2 = 200 then ((ostiarykit_SameHead.f kj6 bt256.1 bt256.2.1 bt256.2.2.1 bt256.2.2.2.1 t243 t244 t245 t246).bind fun t267 => (if t267 = true then (if bt265.1.toList = a1.toList then (if bt265.2 = 1 then (if 17 + a0.size ≤ 9223372036854775807 then (if ((⟨#[71, 69, 84, 32, 47, 97, 32, 72, 84, 84, 80, 47, 49, 46, 48, 13, 10]⟩ : ByteArray) ++ a0).size + 2 ≤ 9223372036854775807 then (if (((⟨#[71, 69, 84, 32, 47, 97, 32, 72, 84, 84, 80, 47, 49, 46, 48, 13, 10]⟩ : ByteArray) ++ a0) ++ (⟨#[58, 10]⟩ : ByteArray)).size + a1.size ≤ 9223372036854775807 then (if ((((⟨#[71, 69, 84, 32, 47, 97, 32, 72, 84, 84, 80, 47, 49, 46, 48, 13, 10]⟩ : ByteArray) ++ a0) ++ (⟨#[58, 10]⟩ : ByteArray)) ++ a1).size + 4 ≤ 9223372036854775807 then ((ostiarylaw13_status.f kj6 (((((⟨#[71, 69, 84, 32, 47, 97, 32, 72, 84, 84, 80, 47, 49, 46, 48, 13, 10]⟩ : ByteArray) ++ a0) ++ (⟨#[58, 10]⟩ : ByteArray)) ++ a1) ++ (⟨#[13, 10, 13, 10]⟩ : ByteArray))).bind fun t268 => (some (t268 == 400))) else (none)) else (none)) else (none)) else (none)) else (some false)) else (some false)) else (some false))) else (some false)) else (some false))))) else (none)) else (none)) else (none)) else (none))) else (none)) else (none)) = some r := H
     have A21 := Aside0.mk A210
     clear A210
     by_cases c22 : (a0 ++ (⟨#[58]⟩ : ByteArray)).size + t251.size ≤ 9223372036854775807
     ·rw [if_pos c22] at H
      have c22b0 := eq_true c22
      have c22b1 : decide ((a0 ++ (⟨#[58]⟩ : ByteArray)).size + t251.size ≤ 9223372036854775807) = true := decide_eq_true c22
      try have c22b2 : (9223372036854775807 < (a0 ++ (⟨#[58]⟩ : ByteArray)).size + t251.size) = False := eq_false (Nat.not_lt.2 c22)
      try have c22b3 : (9223372036854775807 < a0.size + 1 + t251.size) = False := eq_false (Nat.not_lt.2 (by have h_ := c22; simp only [ByteArray.size_append] at h_; exact h_))
      by_cases c23 : ((a0 ++ (⟨#[58]⟩ : ByteArray)) ++ t251).size + a1.size ≤ 9223372036854775807
      ·rw [if_pos c23] at H
       have c23b0 := eq_true c23
       have c23b1 : decide (((a0 ++ (⟨#[58]⟩ : ByteArray)) ++ t251).size + a1.size ≤ 9223372036854775807) = true := decide_eq_true c23
       try have c23b2 : (9223372036854775807 < ((a0 ++ (⟨#[58]⟩ : ByteArray)) ++ t251).size + a1.size) = False := eq_false (Nat.not_lt.2 c23)
       try have c23b3 : (9223372036854775807 < a0.size + 1 + t251.size + a1.size) = False := eq_false (Nat.not_lt.2 (by have h_ := c23; simp only [ByteArray.size_append] at h_; exact h_))
       replace H := Option.bind_eq_some_iff.mp H
       obtain ⟨t252, A240, H⟩ := H
       replace H : (if (((a0 ++ (⟨#[58]⟩ : ByteArray)) ++ t251) ++ a1).size + t252.size ≤ 9223372036854775807 then (if 17 + ((((a0 ++ (⟨#[58]⟩ : ByteArray)) ++ t251) ++ a1) ++ t252).size ≤ 9223372036854775807 then (if ((⟨#[71, 69, 84, 32, 47, 97, 32, 72, 84, 84, 80, 47, 49, 46, 48, 13, 10]⟩ : ByteArray) ++ ((((a0 ++ (⟨#[58]⟩ : ByteArray)) ++ t251) ++ a1) ++ t252)).size + 4 ≤ 9223372036854775807 then (if (((⟨#[71, 69, 84, 32, 47, 97, 32, 72, 84, 84, 80, 47, 49, 46, 48, 13, 10]⟩ : ByteArray) ++ ((((a0 ++ (⟨#[58]⟩ : ByteArray)) ++ t251) ++ a1) ++ t252)) ++ (⟨#[13, 10, 13, 10]⟩ : ByteArray)).size ≤ 140737488355328 then ((head_Parse.f kj6 (bytesOf (((⟨#[71, 69, 84, 32, 47, 97, 32, 72, 84, 84, 80, 47, 49, 46, 48, 13, 10]⟩ : ByteArray) ++ ((((a0 ++ (⟨#[58]⟩ : ByteArray)) ++ t251) ++ a1) ++ t252)) ++ (⟨#[13, 10, 13, 10]⟩ : ByteArray)))).bind fun bt256 => ((ostiarylaw13_turned.f a0).bind fun t264 => ((head_Field.f kj6 bt256.1 bt256.2.1 bt256.2.2.1 bt256.2.2.2.1 t264).bind fun bt265 => (if t242 = true then (if bt256.2.2.2.2 = 200 then ((ostiarykit_SameHead.f kj6 bt256.1 bt256.2.1 bt256.2.2.1 bt256.2.2.2.1 t243 t244 t245 t246).bind fun t267 => (if t267 = true then (if bt265.1.toList = a1.toList then (if bt265.2 = 1 then (if 17 + a0.size ≤ 9223372036854775807 then (if ((⟨#[71, 69, 84, 32, 47, 97, 32, 72, 84, 84, 80, 47, 49, 46, 48, 13, 10]⟩ : ByteArray) ++ a0).size + 2 ≤ 9223372036854775807 then (if (((⟨#[71, 69, 84, 32, 47, 97, 32, 72, 84, 84, 80, 47, 49, 46, 48, 13, 10]⟩ : ByteArray) ++ a0) ++ (⟨#[58, 10]⟩ : ByteArray)).size + a1.size ≤ 9223372036854775807 then (if ((((⟨#[71, 69, 84, 32, 47, 97, 32, 72, 84, 84, 80, 47, 49, 46, 48, 13, 10]⟩ : ByteArray) ++ a0) ++ (⟨#[58, 10]⟩ : ByteArray)) ++ a1).size + 4 ≤ 9223372036854775807 then ((ostiarylaw13_status.f kj6 (((((⟨#[71, 69, 84, 32, 47, 97, 32, 72, 84, 84, 80, 47, 49, 46, 48, 13, 10]⟩ : ByteArray) ++ a0) ++ (⟨#[58, 10]⟩ : ByteArray)) ++ a1) ++ (⟨#[13, 10, 13, 10]⟩ : ByteArray))).bind fun t268 => (some (t268 == 400))) else (none)) else (none)) else (none)) else (none)) else (some false)) else (some false)) else (some false))) else (some false)) else (some false))))) else (none)) else (none)) else (none)) else (none)) = some r := H
       have A24 := Aside0.mk A240
       clear A240
       by_cases c25 : (((a0 ++ (⟨#[58]⟩ : ByteArray)) ++ t251) ++ a1).size + t252.size ≤ 9223372036854775807
       ·rw [if_pos c25] at H
        have c25b0 := eq_true c25
        have c25b1 : decide ((((a0 ++ (⟨#[58]⟩ : ByteArray)) ++ t251) ++ a1).size + t252.size ≤ 9223372036854775807) = true := decide_eq_true c25
        try have c25b2 : (9223372036854775807 < (((a0 ++ (⟨#[58]⟩ : ByteArray)) ++ t251) ++ a1).size + t252.size) = False := eq_false (Nat.not_lt.2 c25)
        try have c25b3 : (9223372036854775807 < a0.size + 1 + t251.size + a1.size + t252.size) = False := eq_false (Nat.not_lt.2 (by have h_ := c25; simp only [ByteArray.size_append] at h_; exact h_))
        by_cases c26 : 17 + ((((a0 ++ (⟨#[58]⟩ : ByteArray)) ++ t251) ++ a1) ++ t252).size ≤ 9223372036854775807
        ·rw [if_pos c26] at H
         have c26b0 := eq_true c26
         have c26b1 : decide (17 + ((((a0 ++ (⟨#[58]⟩ : ByteArray)) ++ t251) ++ a1) ++ t252).size ≤ 9223372036854775807) = true := decide_eq_true c26
         try have c26b2 : (9223372036854775807 < 17 + ((((a0 ++ (⟨#[58]⟩ : ByteArray)) ++ t251) ++ a1) ++ t252).size) = False := eq_false (Nat.not_lt.2 c26)
         try have c26b3 : (9223372036854775807 < 17 + (a0.size + 1 + t251.size + a1.size + t252.size)) = False := eq_false (Nat.not_lt.2 (by have h_ := c26; simp only [ByteArray.size_append] at h_; exact h_))
         by_cases c27 : ((⟨#[71, 69, 84, 32, 47, 97, 32, 72, 84, 84, 80, 47, 49, 46, 48, 13, 10]⟩ : ByteArray) ++ ((((a0 ++ (⟨#[58]⟩ : ByteArray)) ++ t251) ++ a1) ++ t252)).size + 4 ≤ 9223372036854775807
         ·rw [if_pos c27] at H
          have c27b0 := eq_true c27
          have c27b1 : decide (((⟨#[71, 69, 84, 32, 47, 97, 32, 72, 84, 84, 80, 47, 49, 46, 48, 13, 10]⟩ : ByteArray) ++ ((((a0 ++ (⟨#[58]⟩ : ByteArray)) ++ t251) ++ a1) ++ t252)).size + 4 ≤ 9223372036854775807) = true := decide_eq_true c27
          try have c27b2 : (9223372036854775807 < ((⟨#[71, 69, 84, 32, 47, 97, 32, 72, 84, 84, 80, 47, 49, 46, 48, 13, 10]⟩ : ByteArray) ++ ((((a0 ++ (⟨#[58]⟩ : ByteArray)) ++ t251) ++ a1) ++ t252)).size + 4) = False := eq_false (Nat.not_lt.2 c27)
          try have c27b3 : (9223372036854775807 < 17 + (a0.size + 1 + t251.size + a1.size + t252.size) + 4) = False := eq_false (Nat.not_lt.2 (by have h_ := c27; simp only [ByteArray.size_append] at h_; exact h_))
          by_cases c28 : (((⟨#[71, 69, 84, 32, 47, 97, 32, 72, 84, 84, 80, 47, 49, 46, 48, 13, 10]⟩ : ByteArray) ++ ((((a0 ++ (⟨#[58]⟩ : ByteArray)) ++ t251) ++ a1) ++ t252)) ++ (⟨#[13, 10, 13, 10]⟩ : ByteArray)).size ≤ 140737488355328
          ·rw [if_pos c28] at H
           have LMc28 := Aside0.mk c28
           clear c28
           obtain ⟨y253, hy253⟩ : ∃ y_ : List Int, y_ = (bytesOf (((⟨#[71, 69, 84, 32, 47, 97, 32, 72, 84, 84, 80, 47, 49, 46, 48, 13, 10]⟩ : ByteArray) ++ ((((a0 ++ (⟨#[58]⟩ : ByteArray)) ++ t251) ++ a1) ++ t252)) ++ (⟨#[13, 10, 13, 10]⟩ : ByteArray))) := ⟨_, rfl⟩
           replace H : ((head_Parse.f kj6 y253).bind fun bt256 => ((ostiarylaw13_turned.f a0).bind fun t264 => ((head_Field.f kj6 bt256.1 bt256.2.1 bt256.2.2.1 bt256.2.2.2.1 t264).bind fun bt265 => (if t242 = true then (if bt256.2.2.2.2 = 200 then ((ostiarykit_SameHead.f kj6 bt256.1 bt256.2.1 bt256.2.2.1 bt256.2.2.2.1 t243 t244 t245 t246).bind fun t267 => (if t267 = true then (if bt265.1.toList = a1.toList then (if bt265.2 = 1 then (if 17 + a0.size ≤ 9223372036854775807 then (if ((⟨#[71, 69, 84, 32, 47, 97, 32, 72, 84, 84, 80, 47, 49, 46, 48, 13, 10]⟩ : ByteArray) ++ a0).size + 2 ≤ 9223372036854775807 then (if (((⟨#[71, 69, 84, 32, 47, 97, 32, 72, 84, 84, 80, 47, 49, 46, 48, 13, 10]⟩ : ByteArray) ++ a0) ++ (⟨#[58, 10]⟩ : ByteArray)).size + a1.size ≤ 9223372036854775807 then (if ((((⟨#[71, 69, 84, 32, 47, 97, 32, 72, 84, 84, 80, 47, 49, 46, 48, 13, 10]⟩ : ByteArray) ++ a0) ++ (⟨#[58, 10]⟩ : ByteArray)) ++ a1).size + 4 ≤ 9223372036854775807 then ((ostiarylaw13_status.f kj6 (((((⟨#[71, 69, 84, 32, 47, 97, 32, 72, 84, 84, 80, 47, 49, 46, 48, 13, 10]⟩ : ByteArray) ++ a0) ++ (⟨#[58, 10]⟩ : ByteArray)) ++ a1) ++ (⟨#[13, 10, 13, 10]⟩ : ByteArray))).bind fun t268 => (some (t268 == 400))) else (none)) else (none)) else (none)) else (none)) else (some false)) else (some false)) else (some false))) else (some false)) else (some false))))) = some r := by first | (rw [hy253]; with_reducible exact H) | (have H2_ := (Option.bind_some _ _).symm.trans H; rw [hy253]; with_reducible exact H2_) | (have H2_ := (Option.bind_some _ _).symm.trans H; with_reducible exact H2_) | with_reducible exact H | (rw [hy253]; exact H) | exact H
           have Ny253 := Aside0.mk hy253
           clear hy253
           replace H := Option.bind_eq_some_iff.mp H
           obtain ⟨⟨t256, t257, t258, t259, t262⟩, A290, H⟩ := H
           replace H : ((ostiarylaw13_turned.f a0).bind fun t264 => ((head_Field.f kj6 t256 t257 t258 t259 t264).bind fun bt265 => (if t242 = true then (if t262 = 200 then ((ostiarykit_SameHead.f kj6 t256 t257 t258 t259 t243 t244 t245 t246).bind fun t267 => (if t267 = true then (if bt265.1.toList = a1.toList then (if bt265.2 = 1 then (if 17 + a0.size ≤ 9223372036854775807 then (if ((⟨#[71, 69, 84, 32, 47, 97, 32, 72, 84, 84, 80, 47, 49, 46, 48, 13, 10]⟩ : ByteArray) ++ a0).size + 2 ≤ 9223372036854775807 then (if (((⟨#[71, 69, 84, 32, 47, 97, 32, 72, 84, 84, 80, 47, 49, 46, 48, 13, 10]⟩ : ByteArray) ++ a0) ++ (⟨#[58, 10]⟩ : ByteArray)).size + a1.size ≤ 9223372036854775807 then (if ((((⟨#[71, 69, 84, 32, 47, 97, 32, 72, 84, 84, 80, 47, 49, 46, 48, 13, 10]⟩ : ByteArray) ++ a0) ++ (⟨#[58, 10]⟩ : ByteArray)) ++ a1).size + 4 ≤ 9223372036854775807 then ((ostiarylaw13_status.f kj6 (((((⟨#[71, 69, 84, 32, 47, 97, 32, 72, 84, 84, 80, 47, 49, 46, 48, 13, 10]⟩ : ByteArray) ++ a0) ++ (⟨#[58, 10]⟩ : ByteArray)) ++ a1) ++ (⟨#[13, 10, 13, 10]⟩ : ByteArray))).bind fun t268 => (some (t268 == 400))) else (none)) else (none)) else (none)) else (none)) else (some false)) else (some false)) else (some false))) else (some false)) else (some false)))) = some r := H
           have A29 := Aside0.mk A290
           clear A290
           replace H := Option.bind_eq_some_iff.mp H
           obtain ⟨t264, A300, H⟩ := H
           replace H : ((head_Field.f kj6 t256 t257 t258 t259 t264).bind fun bt265 => (if t242 = true then (if t262 = 200 then ((ostiarykit_SameHead.f kj6 t256 t257 t258 t259 t243 t244 t245 t246).bind fun t267 => (if t267 = true then (if bt265.1.toList = a1.toList then (if bt265.2 = 1 then (if 17 + a0.size ≤ 9223372036854775807 then (if ((⟨#[71, 69, 84, 32, 47, 97, 32, 72, 84, 84, 80, 47, 49, 46, 48, 13, 10]⟩ : ByteArray) ++ a0).size + 2 ≤ 9223372036854775807 then (if (((⟨#[71, 69, 84, 32, 47, 97, 32, 72, 84, 84, 80, 47, 49, 46, 48, 13, 10]⟩ : ByteArray) ++ a0) ++ (⟨#[58, 10]⟩ : ByteArray)).size + a1.size ≤ 9223372036854775807 then (if ((((⟨#[71, 69, 84, 32, 47, 97, 32, 72, 84, 84, 80, 47, 49, 46, 48, 13, 10]⟩ : ByteArray) ++ a0) ++ (⟨#[58, 10]⟩ : ByteArray)) ++ a1).size + 4 ≤ 9223372036854775807 then ((ostiarylaw13_status.f kj6 (((((⟨#[71, 69, 84, 32, 47, 97, 32, 72, 84, 84, 80, 47, 49, 46, 48, 13, 10]⟩ : ByteArray) ++ a0) ++ (⟨#[58, 10]⟩ : ByteArray)) ++ a1) ++ (⟨#[13, 10, 13, 10]⟩ : ByteArray))).bind fun t268 => (some (t268 == 400))) else (none)) else (none)) else (none)) else (none)) else (some false)) else (some false)) else (some false))) else (some false)) else (some false))) = some r := H
           have A30 := Aside0.mk A300
           clear A300
           replace H := Option.bind_eq_some_iff.mp H
           obtain ⟨⟨t265, t266⟩, A310, H⟩ := H
           replace H : (if t242 = true then (if t262 = 200 then ((ostiarykit_SameHead.f kj6 t256 t257 t258 t259 t243 t244 t245 t246).bind fun t267 => (if t267 = true then (if t265.toList = a1.toList then (if t266 = 1 then (if 17 + a0.size ≤ 9223372036854775807 then (if ((⟨#[71, 69, 84, 32, 47, 97, 32, 72, 84, 84, 80, 47, 49, 46, 48, 13, 10]⟩ : ByteArray) ++ a0).size + 2 ≤ 9223372036854775807 then (if (((⟨#[71, 69, 84, 32, 47, 97, 32, 72, 84, 84, 80, 47, 49, 46, 48, 13, 10]⟩ : ByteArray) ++ a0) ++ (⟨#[58, 10]⟩ : ByteArray)).size + a1.size ≤ 9223372036854775807 then (if ((((⟨#[71, 69, 84, 32, 47, 97, 32, 72, 84, 84, 80, 47, 49, 46, 48, 13, 10]⟩ : ByteArray) ++ a0) ++ (⟨#[58, 10]⟩ : ByteArray)) ++ a1).size + 4 ≤ 9223372036854775807 then ((ostiarylaw13_status.f kj6 (((((⟨#[71, 69, 84, 32, 47, 97, 32, 72, 84, 84, 80, 47, 49, 46, 48, 13, 10]⟩ : ByteArray) ++ a0) ++ (⟨#[58, 10]⟩ : ByteArray)) ++ a1) ++ (⟨#[13, 10, 13, 10]⟩ : ByteArray))).bind fun t268 => (some (t268 == 400))) else (none)) else (none)) else (none)) else (none)) else (some false)) else (some false)) else (some false))) else (some false)) else (some false)) = some r := H
           have A31 := Aside0.mk A310
           clear A310
           by_cases c32 : t242 = true
           ·subst c32
            have H1 : (if t262 = 200 then ((ostiarykit_SameHead.f kj6 t256 t257 t258 t259 t243 t244 t245 t246).bind fun t267 => (if t267 = true then (if t265.toList = a1.toList then (if t266 = 1 then (if 17 + a0.size ≤ 9223372036854775807 then (if ((⟨#[71, 69, 84, 32, 47, 97, 32, 72, 84, 84, 80, 47, 49, 46, 48, 13, 10]⟩ : ByteArray) ++ a0).size + 2 ≤ 9223372036854775807 then (if (((⟨#[71, 69, 84, 32, 47, 97, 32, 72, 84, 84, 80, 47, 49, 46, 48, 13, 10]⟩ : ByteArray) ++ a0) ++ (⟨#[58, 10]⟩ : ByteArray)).size + a1.size ≤ 9223372036854775807 then (if ((((⟨#[71, 69, 84, 32, 47, 97, 32, 72, 84, 84, 80, 47, 49, 46, 48, 13, 10]⟩ : ByteArray) ++ a0) ++ (⟨#[58, 10]⟩ : ByteArray)) ++ a1).size + 4 ≤ 9223372036854775807 then ((ostiarylaw13_status.f kj6 (((((⟨#[71, 69, 84, 32, 47, 97, 32, 72, 84, 84, 80, 47, 49, 46, 48, 13, 10]⟩ : ByteArray) ++ a0) ++ (⟨#[58, 10]⟩ : ByteArray)) ++ a1) ++ (⟨#[13, 10, 13, 10]⟩ : ByteArray))).bind fun t268 => (some (t268 == 400))) else (none)) else (none)) else (none)) else (none)) else (some false)) else (some false)) else (some false))) else (some false)) = some r := by rw [if_pos rfl] at H; exact H
            clear H
            have H := H1
            clear H1
            by_cases c33 : t262 = 200
            ·rw [if_pos c33] at H
             have c33b0 : (t262 == 200) = true := beq_iff_eq.mpr c33
             have c33b1 : (t262 != 200) = false := bne_eq_false_iff_eq.mpr c33
             clear c33
             replace H := Option.bind_eq_some_iff.mp H
             obtain ⟨t267, A340, H⟩ := H
             replace H : (if t267 = true then (if t265.toList = a1.toList then (if t266 = 1 then (if 17 + a0.size ≤ 9223372036854775807 then (if ((⟨#[71, 69, 84, 32, 47, 97, 32, 72, 84, 84, 80, 47, 49, 46, 48, 13, 10]⟩ : ByteArray) ++ a0).size + 2 ≤ 9223372036854775807 then (if (((⟨#[71, 69, 84, 32, 47, 97, 32, 72, 84, 84, 80, 47, 49, 46, 48, 13, 10]⟩ : ByteArray) ++ a0) ++ (⟨#[58, 10]⟩ : ByteArray)).size + a1.size ≤ 9223372036854775807 then (if ((((⟨#[71, 69, 84, 32, 47, 97, 32, 72, 84, 84, 80, 47, 49, 46, 48, 13, 10]⟩ : ByteArray) ++ a0) ++ (⟨#[58, 10]⟩ : ByteArray)) ++ a1).size + 4 ≤ 9223372036854775807 then ((ostiarylaw13_status.f kj6 (((((⟨#[71, 69, 84, 32, 47, 97, 32, 72, 84, 84, 80, 47, 49, 46, 48, 13, 10]⟩ : ByteArray) ++ a0) ++ (⟨#[58, 10]⟩ : ByteArray)) ++ a1) ++ (⟨#[13, 10, 13, 10]⟩ : ByteArray))).bind fun t268 => (some (t268 == 400))) else (none)) else (none)) else (none)) else (none)) else (some false)) else (some false)) else (some false)) = some r := H
             have A34 := Aside0.mk A340
             clear A340
             by_cases c35 : t267 = true
             ·subst c35
              have H1 : (if t265.toList = a1.toList then (if t266 = 1 then (if 17 + a0.size ≤ 9223372036854775807 then (if ((⟨#[71, 69, 84, 32, 47, 97, 32, 72, 84, 84, 80, 47, 49, 46, 48, 13, 10]⟩ : ByteArray) ++ a0).size + 2 ≤ 9223372036854775807 then (if (((⟨#[71, 69, 84, 32, 47, 97, 32, 72, 84, 84, 80, 47, 49, 46, 48, 13, 10]⟩ : ByteArray) ++ a0) ++ (⟨#[58, 10]⟩ : ByteArray)).size + a1.size ≤ 9223372036854775807 then (if ((((⟨#[71, 69, 84, 32, 47, 97, 32, 72, 84, 84, 80, 47, 49, 46, 48, 13, 10]⟩ : ByteArray) ++ a0) ++ (⟨#[58, 10]⟩ : ByteArray)) ++ a1).size + 4 ≤ 9223372036854775807 then ((ostiarylaw13_status.f kj6 (((((⟨#[71, 69, 84, 32, 47, 97, 32, 72, 84, 84, 80, 47, 49, 46, 48, 13, 10]⟩ : ByteArray) ++ a0) ++ (⟨#[58, 10]⟩ : ByteArray)) ++ a1) ++ (⟨#[13, 10, 13, 10]⟩ : ByteArray))).bind fun t268 => (some (t268 == 400))) else (none)) else (none)) else (none)) else (none)) else (some false)) else (some false)) = some r := by rw [if_pos rfl] at H; exact H
              clear H
              have H := H1
              clear H1
              by_cases c36 : t265.toList = a1.toList
              ·rw [if_pos c36] at H
               have c36b0 : (t265.toList == a1.toList) = true := beq_iff_eq.mpr c36
               have c36b1 : (t265.toList != a1.toList) = false := bne_eq_false_iff_eq.mpr c36
               clear c36
               by_cases c37 : t266 = 1
               ·rw [if_pos c37] at H
                have c37b0 : (t266 == 1) = true := beq_iff_eq.mpr c37
                have c37b1 : (t266 != 1) = false := bne_eq_false_iff_eq.mpr c37
                clear c37
                by_cases c38 : 17 + a0.size ≤ 9223372036854775807
                ·rw [if_pos c38] at H
                 have c38b0 := eq_true c38
                 have c38b1 : decide (17 + a0.size ≤ 9223372036854775807) = true := decide_eq_true c38
                 try have c38b2 : (9223372036854775807 < 17 + a0.size) = False := eq_false (Nat.not_lt.2 c38)
                 by_cases c39 : ((⟨#[71, 69, 84, 32, 47, 97, 32, 72, 84, 84, 80, 47, 49, 46, 48, 13, 10]⟩ : ByteArray) ++ a0).size + 2 ≤ 9223372036854775807
                 ·rw [if_pos c39] at H
                  have c39b0 := eq_true c39
                  have c39b1 : decide (((⟨#[71, 69, 84, 32, 47, 97, 32, 72, 84, 84, 80, 47, 49, 46, 48, 13, 10]⟩ : ByteArray) ++ a0).size + 2 ≤ 9223372036854775807) = true := decide_eq_true c39
                  try have c39b2 : (9223372036854775807 < ((⟨#[71, 69, 84, 32, 47, 97, 32, 72, 84, 84, 80, 47, 49, 46, 48, 13, 10]⟩ : ByteArray) ++ a0).size + 2) = False := eq_false (Nat.not_lt.2 c39)
                  try have c39b3 : (9223372036854775807 < 17 + a0.size + 2) = False := eq_false (Nat.not_lt.2 (by have h_ := c39; simp only [ByteArray.size_append] at h_; exact h_))
                  by_cases c40 : (((⟨#[71, 69, 84, 32, 47, 97, 32, 72, 84, 84, 80, 47, 49, 46, 48, 13, 10]⟩ : ByteArray) ++ a0) ++ (⟨#[58, 10]⟩ : ByteArray)).size + a1.size ≤ 9223372036854775807
                  ·rw [if_pos c40] at H
                   have c40b0 := eq_true c40
                   have c40b1 : decide ((((⟨#[71, 69, 84, 32, 47, 97, 32, 72, 84, 84, 80, 47, 49, 46, 48, 13, 10]⟩ : ByteArray) ++ a0) ++ (⟨#[58, 10]⟩ : ByteArray)).size + a1.size ≤ 9223372036854775807) = true := decide_eq_true c40
                   try have c40b2 : (9223372036854775807 < (((⟨#[71, 69, 84, 32, 47, 97, 32, 72, 84, 84, 80, 47, 49, 46, 48, 13, 10]⟩ : ByteArray) ++ a0) ++ (⟨#[58, 10]⟩ : ByteArray)).size + a1.size) = False := eq_false (Nat.not_lt.2 c40)
                   try have c40b3 : (9223372036854775807 < 17 + a0.size + 2 + a1.size) = False := eq_false (Nat.not_lt.2 (by have h_ := c40; simp only [ByteArray.size_append] at h_; exact h_))
                   by_cases c41 : ((((⟨#[71, 69, 84, 32, 47, 97, 32, 72, 84, 84, 80, 47, 49, 46, 48, 13, 10]⟩ : ByteArray) ++ a0) ++ (⟨#[58, 10]⟩ : ByteArray)) ++ a1).size + 4 ≤ 9223372036854775807
                   ·rw [if_pos c41] at H
                    have c41b0 := eq_true c41
                    have c41b1 : decide (((((⟨#[71, 69, 84, 32, 47, 97, 32, 72, 84, 84, 80, 47, 49, 46, 48, 13, 10]⟩ : ByteArray) ++ a0) ++ (⟨#[58, 10]⟩ : ByteArray)) ++ a1).size + 4 ≤ 9223372036854775807) = true := decide_eq_true c41
                    try have c41b2 : (9223372036854775807 < ((((⟨#[71, 69, 84, 32, 47, 97, 32, 72, 84, 84, 80, 47, 49, 46, 48, 13, 10]⟩ : ByteArray) ++ a0) ++ (⟨#[58, 10]⟩ : ByteArray)) ++ a1).size + 4) = False := eq_false (Nat.not_lt.2 c41)
                    try have c41b3 : (9223372036854775807 < 17 + a0.size + 2 + a1.size + 4) = False := eq_false (Nat.not_lt.2 (by have h_ := c41; simp only [ByteArray.size_append] at h_; exact h_))
                    replace H := Option.bind_eq_some_iff.mp H
                    obtain ⟨t268, A420, H⟩ := H
                    replace H : (some (t268 == 400)) = some r := H
                    have A42 := Aside0.mk A420
                    clear A420
                    obtain rfl := Option.some.inj H
                    try go_wp2_with (first | ((with_reducible refine gate_callee (f := 45) rfl ?_); refine goesL_ (some 32) rfl rfl Tryd.func45 (by kernel_rfl) rfl #[.int .i64 a2] rfl (by (try simp only [List.map_toArray, List.map_cons, List.map_nil]); first | done | rfl | (simp only [List.length_drop, List.length_take]; rfl)) ?_; (with_reducible refine (ostiarylaw13_blanks.calls kj6 a2 t251 _ A21.out).mono ?_); rintro e w' ⟨rfl, ⟨nd, rfl⟩⟩; refine ⟨_, rfl, ?_⟩; (try (rw [drewN_self wc]; generalize hq_ : World.drewN wc _ = wc; have n0_ : Aside0 (Kd.R k67 67 wc w.heap.size (fun _ => True) (.slice Ao12 t246.length co12) t246) := ⟨by rw [← hq_]; exact (by (with_reducible repeat (first | apply Kd.R_alloc | apply Kd.R_drewN | apply Kd.R_drew)); exact HO_250003.out)⟩; have n1_ : Aside0 (wc.heap[gb249]? = some (.cells #[.string t243, .string t244, .int .i64 t245, .slice Ao12 t246.length co12] 24 (0, 0))) := ⟨by rw [← hq_]; exact (by (with_reducible repeat (first | refine blk_drewN ?_ _ | refine blk_drew ?_ | refine blk_alloc ?_ _)); exact BK249.out)⟩; have n2_ : Aside0 (Below w.heap.size w wc) := ⟨by rw [← hq_]; exact (by repeat (first | (with_reducible first | exact HB.out | apply below_alloc | apply pw_below_drewN | apply below_drew1 | refine below_set ?_ GE249.out) | exact HB.out))⟩; clear HO_250003 BK249 HB hq_; have HO_250003 := n0_; have BK249 := n1_; have HB := n2_; clear n0_ n1_ n2_))) | ((with_reducible refine gate_callee (f := 45) rfl ?_); refine goesL_ (some 37) rfl rfl Tryd.func45 (by kernel_rfl) rfl #[.int .i64 a3] rfl (by (try simp only [List.map_toArray, List.map_cons, List.map_nil]); first | done | rfl | (simp only [List.length_drop, List.length_take]; rfl)) ?_; (with_reducible refine (ostiarylaw13_blanks.calls kj6 a3 t252 _ A24.out).mono ?_); rintro e w' ⟨rfl, ⟨nd, rfl⟩⟩; refine ⟨_, rfl, ?_⟩; (try (rw [drewN_self wc]; generalize hq_ : World.drewN wc _ = wc; have n0_ : Aside0 (Kd.R k67 67 wc w.heap.size (fun _ => True) (.slice Ao12 t246.length co12) t246) := ⟨by rw [← hq_]; exact (by (with_reducible repeat (first | apply Kd.R_alloc | apply Kd.R_drewN | apply Kd.R_drew)); exact HO_250003.out)⟩; have n1_ : Aside0 (wc.heap[gb249]? = some (.cells #[.string t243, .string t244, .int .i64 t245, .slice Ao12 t246.length co12] 24 (0, 0))) := ⟨by rw [← hq_]; exact (by (with_reducible repeat (first | refine blk_drewN ?_ _ | refine blk_drew ?_ | refine blk_alloc ?_ _)); exact BK249.out)⟩; have n2_ : Aside0 (Below w.heap.size w wc) := ⟨by rw [← hq_]; exact (by repeat (first | (with_reducible first | exact HB.out | apply below_alloc | apply pw_below_drewN | apply below_drew1 | refine below_set ?_ GE249.out) | exact HB.out))⟩; clear HO_250003 BK249 HB hq_; have HO_250003 := n0_; have BK249 := n1_; have HB := n2_; clear n0_ n1_ n2_))) | ((with_reducible refine gate_dst (N := 43) rfl ?_); (try (refine gate_guard (by rfl) ?_; dsimp only)); refine V_ofstr _ 5 rfl (N := 43) rfl 9 25 _ rfl (((⟨#[71, 69, 84, 32, 47, 97, 32, 72, 84, 84, 80, 47, 49, 46, 48, 13, 10]⟩ : ByteArray) ++ ((((a0 ++ (⟨#[58]⟩ : ByteArray)) ++ t251) ++ a1) ++ t252)) ++ (⟨#[13, 10, 13, 10]⟩ : ByteArray)) rfl Tryd.underlying9 Tryd.underlying25 Tryd.underlying5 (ok := fun k_ => wc.heap.size ≤ k_) (Nat.le_refl _) (Nat.le_trans LMc28.out (by omega)) (Below.refl _ _) (Nat.le_refl _) ?_; intro v254 w43 ho44 hb hg_ hnew_; clear hg_ hnew_; (first | rw [← Ny253.out] at ho44 | (simp only [Int.reduceToNat] at ho44; rw [← Ny253.out] at ho44)); have n0_ := Aside0.mk (Kd.R_below (by (with_reducible repeat (first | apply Kd.R_alloc | apply Kd.R_drewN | apply Kd.R_drew)); exact HO_250003.out) hb); have n1_ := Aside0.mk (Kd.V_lower (Kd.V_mono (ok' := fun k_ => some k_ ≠ (.slice Ao12 t246.length co12 : Value).ownBlock ∧ k_ ≠ gb249) ho44 (fun k_ hk_ => ⟨(Kd.fresh' (Kd.R_lt (by (with_reducible repeat (first | apply Kd.R_alloc | apply Kd.R_drewN | apply Kd.R_drew)); exact HO_250003.out)) k_ hk_), (Kd.freshB (g := gb249) (o := .cells #[.string t243, .string t244, .int .i64 t245, .slice Ao12 t246.length co12] 24 (0, 0)) (by (with_reducible repeat (first | refine blk_drewN ?_ _ | refine blk_drew ?_ | refine blk_alloc ?_ _)); exact BK249.out) k_ hk_)⟩)) (below_size (by repeat (first | (with_reducible first | exact HB.out | apply below_alloc | apply pw_below_drewN | apply below_drew1 | refine below_set ?_ GE249.out) | exact HB.out)))); have n2_ := Aside0.mk (blk_below (g := gb249) (o := .cells #[.string t243, .string t244, .int .i64 t245, .slice Ao12 t246.length co12] 24 (0, 0)) (by (with_reducible repeat (first | refine blk_drewN ?_ _ | refine blk_drew ?_ | refine blk_alloc ?_ _)); exact BK249.out) hb); have n3_ := Aside0.mk (below_step (by repeat (first | (with_reducible first | exact HB.out | apply below_alloc | apply pw_below_drewN | apply below_drew1 | refine below_set ?_ GE249.out) | exact HB.out)) hb); clear HO_250003; clear BK249; clear HB; have HO_250003 := n0_; have HO255 := n1_; have BK249 := n2_; have HB := n3_; clear n0_ n1_ n2_ n3_; clear hb ho44; obtain ⟨Ao45, co45, eo45⟩ := Kd.V_slice HO255.out; subst eo45) | ((with_reducible refine gate_callee (f := 41) rfl ?_); refine goesL_ (some 44) rfl rfl Tryd.func41 (by kernel_rfl) rfl #[.slice Ao45 y253.length co45] rfl (by (try simp only [List.map_toArray, List.map_cons, List.map_nil]); first | done | rfl | (simp only [List.length_drop, List.length_take]; rfl)) ?_; (with_reducible refine (head_Parse.calls kj6 _ _ y253 t256 t257 t258 t259 t262 _ ?side1 ?side2 ?side3 A29.out).mono ?_); (case side1 => repeat (first | exact (Kd.V_reads' HO255.out).2.2 | (with_reducible refine Kd.C_alloc ?_ _) | (with_reducible refine Kd.C_drewN ?_ _) | (with_reducible refine Kd.C_drew ?_))); (case side2 => exact (Kd.V_reads' HO255.out).2.1); (case side3 => exact GG_step HGG.out (by decide) (by repeat (first | (with_reducible first | exact HB.out | apply below_alloc | apply pw_below_drewN | apply below_drew1 | refine below_set ?_ GE249.out) | exact HB.out))); rintro e w46 ⟨v260, rfl, ho0, hb⟩; refine ⟨_, rfl, ?_⟩; have n0_ := Aside0.mk (Kd.R_elder' (by (with_reducible repeat (first | apply Kd.R_alloc | apply Kd.R_drewN | apply Kd.R_drew)); exact HO_250003.out) (Kd.R_base ho0) hb); have n1_ := Aside0.mk (Kd.V_elder' (by (with_reducible repeat (first | apply Kd.V_alloc | apply Kd.V_drewN | apply Kd.V_drew)); exact HO255.out) (Kd.R_base ho0) hb); have n2_ := Aside0.mk (Kd.R_lower (Kd.R_new' ho0 (Kd.R_lt (by (with_reducible repeat (first | apply Kd.R_alloc | apply Kd.R_drewN | apply Kd.R_drew)); exact HO_250003.out))) (below_size (by repeat (first | (with_reducible first | exact HB.out | apply below_alloc | apply pw_below_drewN | apply below_drew1 | refine below_set ?_ GE249.out) | exact HB.out)))); have n3_ := Aside0.mk (blk_below (g := gb249) (o := .cells #[.string t243, .string t244, .int .i64 t245, .slice Ao12 t246.length co12] 24 (0, 0)) (by (with_reducible repeat (first | refine blk_drewN ?_ _ | refine blk_drew ?_ | refine blk_alloc ?_ _)); exact BK249.out) hb); have n4_ := Aside0.mk (below_step (by repeat (first | (with_reducible first | exact HB.out | apply below_alloc | apply pw_below_drewN | apply below_drew1 | refine below_set ?_ GE249.out) | exact HB.out)) hb); clear HO_250003; clear HO255; clear BK249; clear HB; have HO_250003 := n0_; have HO255 := n1_; have HO261 := n2_; have BK249 := n3_; have HB := n4_; clear n0_ n1_ n2_ n3_ n4_; (try clear hb); (try clear hb2); (try clear hk); (try clear hi); (try clear ho0)) | ((with_reducible refine gate_dst (N := 12) rfl ?_); (try (refine gate_guard (by rfl) ?_; dsimp only)); refine box_event ?hg (N := 12) ?hd (cs := #[.string (⟨#[]⟩ : ByteArray), .string (⟨#[]⟩ : ByteArray), .int .i64 0, .slice none 0 0]) (t := 24) ?hr ?_; (case hd => rfl); (case hg => rfl); (case hr => first | (go_simp; done) | (go_simp; rfl)); intro gb263 hg w47 hbox hb; have n0_ := Aside0.mk (Kd.R_below (by (with_reducible repeat (first | apply Kd.R_alloc | apply Kd.R_drewN | apply Kd.R_drew)); exact HO_250003.out) hb); have n1_ := Aside0.mk (Kd.V_below (Kd.V_elderB (by (with_reducible repeat (first | apply Kd.V_alloc | apply Kd.V_drewN | apply Kd.V_drew)); exact HO255.out) gb263 (Nat.le_of_eq hg.symm)) hb); have n2_ := Aside0.mk (Kd.R_below (by (with_reducible repeat (first | apply Kd.R_alloc | apply Kd.R_drewN | apply Kd.R_drew)); exact HO261.out) hb); have n3_ := Aside0.mk (blk_below (g := gb249) (o := .cells #[.string t243, .string t244, .int .i64 t245, .slice Ao12 t246.length co12] 24 (0, 0)) (by (with_reducible repeat (first | refine blk_drewN ?_ _ | refine blk_drew ?_ | refine blk_alloc ?_ _)); exact BK249.out) hb); have n4_ := Aside0.mk (below_step (by repeat (first | (with_reducible first | exact HB.out | apply below_alloc | apply pw_below_drewN | apply below_drew1 | refine below_set ?_ GE249.out) | exact HB.out)) hb); have n5_ := Aside0.mk (hbox); have n6_ := Aside0.mk ((by rw [hg]; exact (below_size (by repeat (first | (with_reducible first | exact HB.out | apply below_alloc | apply pw_below_drewN | apply below_drew1 | refine below_set ?_ GE249.out) | exact HB.out))) : w.heap.size ≤ gb263)); have n7_ := Aside0.mk ((by rw [hg]; exact (below_size (by repeat (first | (with_reducible first | exact HB.out | apply below_alloc | apply pw_below_drewN | apply below_drew1 | refine below_set ?_ GE249.out) | exact HB.out))) : w.heap.size ≤ gb263)); have n8_ := Aside0.mk ((by rw [hg]; exact Nat.ne_of_lt (blk_lt (g := gb249) (o := .cells #[.string t243, .string t244, .int .i64 t245, .slice Ao12 t246.length co12] 24 (0, 0)) (by (with_reducible repeat (first | refine blk_drewN ?_ _ | refine blk_drew ?_ | refine blk_alloc ?_ _)); exact BK249.out)) : gb249 ≠ gb263)); have n9_ := Aside0.mk ((by rw [hg]; exact Nat.ne_of_gt (blk_lt (g := gb249) (o := .cells #[.string t243, .string t244, .int .i64 t245, .slice Ao12 t246.length co12] 24 (0, 0)) (by (with_reducible repeat (first | refine blk_drewN ?_ _ | refine blk_drew ?_ | refine blk_alloc ?_ _)); exact BK249.out)) : gb263 ≠ gb249)); clear HO_250003; clear HO255; clear HO261; clear BK249; clear HB; have HO_250003 := n0_; have HO255 := n1_; have HO261 := n2_; have BK249 := n3_; have HB := n4_; have BK263 := n5_; have GW263 := n6_; have GE263 := n7_; have NB249_263 := n8_; have NB263_249 := n9_; clear n0_ n1_ n2_ n3_ n4_ n5_ n6_ n7_ n8_ n9_; clear hb hbox hg; have hnb48 := NB263_249.out; have hnc48 := NB249_263.out; have hcz49_0 : w47.cell? ⟨gb263, 0, none⟩ = some (.string (⟨#[]⟩ : ByteArray)) := (blk_cell BK263.out 0).trans rfl; have hcz49_1 : w47.cell? ⟨gb263, 1, none⟩ = some (.string (⟨#[]⟩ : ByteArray)) := (blk_cell BK263.out 1).trans rfl; have hcz49_2 : w47.cell? ⟨gb263, 2, none⟩ = some (.int .i64 0) := (blk_cell BK263.out 2).trans rfl; have hcz49_3 : w47.cell? ⟨gb263, 3, none⟩ = some (.slice none 0 0) := (blk_cell BK263.out 3).trans rfl; have hfz49_0 := blk_frozen BK263.out 0; have hfz49_1 := blk_frozen BK263.out 1; have hfz49_2 := blk_frozen BK263.out 2; have hfz49_3 := blk_frozen BK263.out 3; obtain ⟨Ao50, co50, eo50⟩ := Kd.R_slice HO261.out; subst eo50))
                    have n0_ : Aside0 (Kd.R k67 67 ((((w47.setCell ⟨gb263, 0, none⟩ (.string t256)).setCell ⟨gb263, 1, none⟩ (.string t257)).setCell ⟨gb263, 2, none⟩ (.int .i64 t258)).setCell ⟨gb263, 3, none⟩ (.slice Ao50 t259.length co50)) w.heap.size (fun k_ => some k_ ≠ (.slice Ao50 t259.length co50 : Value).ownBlock) (.slice Ao12 t246.length co12) t246) := ⟨by (with_reducible repeat (first | apply Kd.R_alloc | apply Kd.R_drewN | apply Kd.R_drew)); exact Kd.R_mono (Kd.R_far (p := ⟨gb263, 3, none⟩) (Kd.R_far (p := ⟨gb263, 2, none⟩) (Kd.R_far (p := ⟨gb263, 1, none⟩) (Kd.R_far (p := ⟨gb263, 0, none⟩) (Kd.R_types HO_250003.out BK263.out (by decide)) (fun _ hk => hk.2) (.string t256)) (fun _ hk => hk.2) (.string t257)) (fun _ hk => hk.2) (.int .i64 t258)) (fun _ hk => hk.2) (.slice Ao50 t259.length co50)) (fun _ hk => hk.1.2)⟩
                    have n1_ : Aside0 (Kd.V (Kd.int .u8) 5 ((((w47.setCell ⟨gb263, 0, none⟩ (.string t256)).setCell ⟨gb263, 1, none⟩ (.string t257)).setCell ⟨gb263, 2, none⟩ (.int .i64 t258)).setCell ⟨gb263, 3, none⟩ (.slice Ao50 t259.length co50)) w.heap.size (fun k_ => some k_ ≠ (.slice Ao12 t246.length co12 : Value).ownBlock ∧ some k_ ≠ (.slice Ao50 t259.length co50 : Value).ownBlock ∧ k_ ≠ gb249 ∧ k_ ≠ gb263) (.slice Ao45 y253.length co45) y253) := ⟨by (with_reducible repeat (first | apply Kd.V_alloc | apply Kd.V_drewN | apply Kd.V_drew)); exact Kd.V_mono (Kd.V_far (p := ⟨gb263, 3, none⟩) (Kd.V_far (p := ⟨gb263, 2, none⟩) (Kd.V_far (p := ⟨gb263, 1, none⟩) (Kd.V_far (p := ⟨gb263, 0, none⟩) (Kd.V_mono HO255.out (fun k_ hk => (⟨hk, hk.2⟩ : _ ∧ k_ ≠ gb263))) (fun _ hk => hk.2) (.string t256)) (fun _ hk => hk.2) (.string t257)) (fun _ hk => hk.2) (.int .i64 t258)) (fun _ hk => hk.2) (.slice Ao50 t259.length co50)) (fun _ hk => ⟨hk.1.1.1.1, ⟨hk.1.1.2, ⟨hk.1.1.1.2, hk.1.2⟩⟩⟩)⟩
                    have n2_ : Aside0 (Kd.R k67 67 ((((w47.setCell ⟨gb263, 0, none⟩ (.string t256)).setCell ⟨gb263, 1, none⟩ (.string t257)).setCell ⟨gb263, 2, none⟩ (.int .i64 t258)).setCell ⟨gb263, 3, none⟩ (.slice Ao50 t259.length co50)) w.heap.size (fun k_ => some k_ ≠ (.slice Ao12 t246.length co12 : Value).ownBlock) (.slice Ao50 t259.length co50) t259) := ⟨by (with_reducible repeat (first | apply Kd.R_alloc | apply Kd.R_drewN | apply Kd.R_drew)); exact Kd.R_mono (Kd.R_far (p := ⟨gb263, 3, none⟩) (Kd.R_far (p := ⟨gb263, 2, none⟩) (Kd.R_far (p := ⟨gb263, 1, none⟩) (Kd.R_far (p := ⟨gb263, 0, none⟩) (Kd.R_types HO261.out BK263.out (by decide)) (fun _ hk => hk.2) (.string t256)) (fun _ hk => hk.2) (.string t257)) (fun _ hk => hk.2) (.int .i64 t258)) (fun _ hk => hk.2) (.slice Ao50 t259.length co50)) (fun _ hk => hk.1.2)⟩
                    have n3_ : Aside0 (((((w47.setCell ⟨gb263, 0, none⟩ (.string t256)).setCell ⟨gb263, 1, none⟩ (.string t257)).setCell ⟨gb263, 2, none⟩ (.int .i64 t258)).setCell ⟨gb263, 3, none⟩ (.slice Ao50 t259.length co50)).heap[gb249]? = some (.cells #[.string t243, .string t244, .int .i64 t245, .slice Ao12 t246.length co12] 24 (0, 0))) := ⟨by (with_reducible repeat (first | refine blk_drewN ?_ _ | refine blk_drew ?_ | refine blk_alloc ?_ _)); refine blk_far ?_ NB249_263.out _; (with_reducible repeat (first | refine blk_drewN ?_ _ | refine blk_drew ?_ | refine blk_alloc ?_ _)); refine blk_far ?_ NB249_263.out _; (with_reducible repeat (first | refine blk_drewN ?_ _ | refine blk_drew ?_ | refine blk_alloc ?_ _)); refine blk_far ?_ NB249_263.out _; (with_reducible repeat (first | refine blk_drewN ?_ _ | refine blk_drew ?_ | refine blk_alloc ?_ _)); refine blk_far ?_ NB249_263.out _; (with_reducible repeat (first | refine blk_drewN ?_ _ | refine blk_drew ?_ | refine blk_alloc ?_ _)); exact BK249.out⟩
                    have n4_ : Aside0 (((((w47.setCell ⟨gb263, 0, none⟩ (.string t256)).setCell ⟨gb263, 1, none⟩ (.string t257)).setCell ⟨gb263, 2, none⟩ (.int .i64 t258)).setCell ⟨gb263, 3, none⟩ (.slice Ao50 t259.length co50)).heap[gb263]? = some (.cells #[.string t256, .string t257, .int .i64 t258, .slice Ao50 t259.length co50] 24 (0, 0))) := ⟨by (with_reducible repeat (first | refine blk_drewN ?_ _ | refine blk_drew ?_ | refine blk_alloc ?_ _)); refine blk_put (cs := #[.string t256, .string t257, .int .i64 t258, .slice none 0 0]) ?_ 3 _ rfl; (with_reducible repeat (first | refine blk_drewN ?_ _ | refine blk_drew ?_ | refine blk_alloc ?_ _)); refine blk_put (cs := #[.string t256, .string t257, .int .i64 0, .slice none 0 0]) ?_ 2 _ rfl; (with_reducible repeat (first | refine blk_drewN ?_ _ | refine blk_drew ?_ | refine blk_alloc ?_ _)); refine blk_put (cs := #[.string t256, .string (⟨#[]⟩ : ByteArray), .int .i64 0, .slice none 0 0]) ?_ 1 _ rfl; (with_reducible repeat (first | refine blk_drewN ?_ _ | refine blk_drew ?_ | refine blk_alloc ?_ _)); refine blk_put (cs := #[.string (⟨#[]⟩ : ByteArray), .string (⟨#[]⟩ : ByteArray), .int .i64 0, .slice none 0 0]) ?_ 0 _ rfl; (with_reducible repeat (first | refine blk_drewN ?_ _ | refine blk_drew ?_ | refine blk_alloc ?_ _)); exact BK263.out⟩
                    have n5_ : Aside0 (Below w.heap.size w ((((w47.setCell ⟨gb263, 0, none⟩ (.string t256)).setCell ⟨gb263, 1, none⟩ (.string t257)).setCell ⟨gb263, 2, none⟩ (.int .i64 t258)).setCell ⟨gb263, 3, none⟩ (.slice Ao50 t259.length co50))) := ⟨by repeat (first | (with_reducible first | exact HB.out | apply below_alloc | apply pw_below_drewN | apply below_drew1 | refine below_set ?_ GE249.out | refine below_set ?_ GE263.out) | exact HB.out)⟩
                    (try clear HO_250003)
                    (try clear HO255)
                    (try clear HO261)
                    (try clear BK249)
                    (try clear BK263)
                    (try clear HB)
                    generalize ((((w47.setCell ⟨gb263, 0, none⟩ (.string t256)).setCell ⟨gb263, 1, none⟩ (.string t257)).setCell ⟨gb263, 2, none⟩ (.int .i64 t258)).setCell ⟨gb263, 3, none⟩ (.slice Ao50 t259.length co50)) = w51 at n0_ n1_ n2_ n3_ n4_ n5_ ⊢
                    have HO_250003 := n0_
                    have HO255 := n1_
                    have HO261 := n2_
                    have BK249 := n3_
                    have BK263 := n4_
                    have HB := n5_
                    clear n0_ n1_ n2_ n3_ n4_ n5_
                    have n0_ := Aside0.mk (Kd.R_drew HO_250003.out)
                    have n1_ := Aside0.mk (Kd.V_drew HO255.out)
                    have n2_ := Aside0.mk (Kd.R_drew HO261.out)
                    have n3_ := Aside0.mk (blk_drew BK249.out)
                    have n4_ := Aside0.mk (blk_drew BK263.out)
                    have n5_ := Aside0.mk (below_drew1 HB.out)
                    clear HO_250003
                    clear HO255
                    clear HO261
                    clear BK249
                    clear BK263
                    clear HB
                    have HO_250003 := n0_
                    have HO255 := n1_
                    have HO261 := n2_
                    have BK249 := n3_
                    have BK263 := n4_
                    have HB := n5_
                    clear n0_ n1_ n2_ n3_ n4_ n5_
                    refine start_ (n := 9) (S := fun w' => w'.cell? ⟨gb263, 0, none⟩ = some (.string t256) ∧ w'.cell? ⟨gb263, 1, none⟩ = some (.string t257) ∧ w'.cell? ⟨gb263, 2, none⟩ = some (.int .i64 t258) ∧ w'.cell? ⟨gb263, 3, none⟩ = some (.slice Ao50 t259.length co50)) (ds := []) #[false, false, false, false, false, false, false, false, false] (by kernel_rfl) rfl rfl ⟨(blk_cell BK263.out 0).trans rfl, (blk_cell BK263.out 1).trans rfl, (blk_cell BK263.out 2).trans rfl, (blk_cell BK263.out 3).trans rfl⟩ (fun hHeld => ?_); refine with_tabW ostiarylaw13_HeadBlanks.tab7 ostiarylaw13_HeadBlanks.bits7 (fun HT_ HW_ => ?_)
                    generalize w51.drew = w52 at HO_250003 HO255 HO261 BK249 BK263 HB hHeld ⊢
                    refine pure_ (i := 1) (N := some 49) (v := ?_) (a' := ?_) #[false, true, false, false, false, false, false, false, false] rfl rfl (any_of HT_.out (by kernel_rfl)) (fun _ _ _ h => h) (Or.inl ⟨by rfl, ?_⟩) ?_ ?_
                    rotate_left
                    ·intro w'
                     go_simp
                     with_reducible rfl
                    rotate_left
                    ·simp only [Act.put, List.setIfInBounds_toArray, List.set_cons_zero, List.set_cons_succ, i64_w, i32_w]
                     rfl
                    refine take_ (i := 0) (N := some 48) (v := ?_) (a' := ?_) #[true, true, false, false, false, false, false, false, false] rfl rfl (take_ofW HT_.out HW_.out (by kernel_rfl)) (fun _ _ _ h => h) (Or.inl ⟨by rfl, ?_⟩) hHeld ?_ ?_
                    rotate_left
                    ·rintro w' ⟨s0, s1, s2, s3⟩
                     go_simp
                     with_reducible rfl
                    rotate_left
                    ·simp only [Act.put, List.setIfInBounds_toArray, List.set_cons_zero, List.set_cons_succ, i64_w, i32_w]
                     rfl
                    refine one_ (i := 2) (N := some 50) #[true, true, true, false, false, false, false, false, false] rfl rfl (one_of HT_.out (by kernel_rfl)) (by decide) (fun K hK => ?_)
                    refine goes_ Tryd.func47 (by kernel_rfl) rfl #[.string a0] (by rfl) rfl rfl (by (try simp only [List.map_toArray, List.map_cons, List.map_nil]); first | done | rfl | (simp only [List.length_drop, List.length_take]; rfl)) ?_
                    with_reducible refine (ostiarylaw13_turned.calls a0 t264 _ A30.out).mono ?_
                    rintro e w53 ⟨rfl, hb⟩
                    refine ⟨_, rfl, ?_⟩
                    have n0_ := Aside0.mk (Kd.R_below (by (with_reducible repeat (first | apply Kd.R_alloc | apply Kd.R_drewN | apply Kd.R_drew)); exact HO_250003.out) hb)
                    have n1_ := Aside0.mk (Kd.V_below (by (with_reducible repeat (first | apply Kd.V_alloc | apply Kd.V_drewN | apply Kd.V_drew)); exact HO255.out) hb)
                    have n2_ := Aside0.mk (Kd.R_below (by (with_reducible repeat (first | apply Kd.R_alloc | apply Kd.R_drewN | apply Kd.R_drew)); exact HO261.out) hb)
                    have n3_ := Aside0.mk (blk_below (g := gb249) (o := .cells #[.string t243, .string t244, .int .i64 t245, .slice Ao12 t246.length co12] 24 (0, 0)) (by (with_reducible repeat (first | refine blk_drewN ?_ _ | refine blk_drew ?_ | refine blk_alloc ?_ _)); exact BK249.out) hb)
                    have n4_ := Aside0.mk (blk_below (g := gb263) (o := .cells #[.string t256, .string t257, .int .i64 t258, .slice Ao50 t259.length co50] 24 (0, 0)) (by (with_reducible repeat (first | refine blk_drewN ?_ _ | refine blk_drew ?_ | refine blk_alloc ?_ _)); exact BK263.out) hb)
                    have n5_ := Aside0.mk (below_step (by repeat (first | (with_reducible first | exact HB.out | apply below_alloc | apply pw_below_drewN | apply below_drew1 | refine below_set ?_ GE249.out | refine below_set ?_ GE263.out) | exact HB.out)) hb)
                    clear HO_250003
                    clear HO255
                    clear HO261
                    clear BK249
                    clear BK263
                    clear HB
                    have HO_250003 := n0_
                    have HO255 := n1_
                    have HO261 := n2_
                    have BK249 := n3_
                    have BK263 := n4_
                    have HB := n5_
                    clear n0_ n1_ n2_ n3_ n4_ n5_
                    (try clear hb)
                    (try clear hb2)
                    (try clear hk)
                    (try clear hi)
                    refine hK.out _ _ ⟨(blk_cell BK263.out 0).trans rfl, (blk_cell BK263.out 1).trans rfl, (blk_cell BK263.out 2).trans rfl, (blk_cell BK263.out 3).trans rfl⟩ (fun hHeld => ?_)
                    clear hK K
                    refine norm_ (a' := ?_) ?_ ?_
                    rotate_left
                    ·show Act.put _ (some 50) _ = _
                     simp only [Act.put, List.setIfInBounds_toArray, List.set_cons_zero, List.set_cons_succ, i64_w, i32_w]
                     rfl
                    refine one_ (i := 3) (N := some 51) #[true, true, true, true, false, false, false, false, false] rfl rfl (one_of HT_.out (by kernel_rfl)) (by decide) (fun K hK => ?_)
                    refine goes_ Tryd.func46 (by kernel_rfl) rfl #[.agg #[.string t256, .string t257, .int .i64 t258, .slice Ao50 t259.length co50], .string t264] (by rfl) rfl rfl (by (try simp only [List.map_toArray, List.map_cons, List.map_nil]); first | done | rfl | (simp only [List.length_drop, List.length_take]; rfl)) ?_
                    with_reducible refine (head_Field.calls kj6 t256 t257 t258 _ _ t259 t264 t265 t266 _ ?side1 ?side2 A31.out).mono ?_
                    (case side1 => repeat (first | exact (Kd.R_reads' HO261.out).2.2 | (with_reducible refine Kd.C_alloc ?_ _) | (with_reducible refine Kd.C_drewN ?_ _) | (with_reducible refine Kd.C_drew ?_)))
                    (case side2 => exact (Kd.R_reads' HO261.out).2.1)
                    rintro e w54 ⟨rfl, hb⟩
                    refine ⟨_, rfl, ?_⟩
                    have n0_ := Aside0.mk (Kd.R_below (by (with_reducible repeat (first | apply Kd.R_alloc | apply Kd.R_drewN | apply Kd.R_drew)); exact HO_250003.out) hb)
                    have n1_ := Aside0.mk (Kd.V_below (by (with_reducible repeat (first | apply Kd.V_alloc | apply Kd.V_drewN | apply Kd.V_drew)); exact HO255.out) hb)
                    have n2_ := Aside0.mk (Kd.R_below (by (with_reducible repeat (first | apply Kd.R_alloc | apply Kd.R_drewN | apply Kd.R_drew)); exact HO261.out) hb)
                    have n3_ := Aside0.mk (blk_below (g := gb249) (o := .cells #[.string t243, .string t244, .int .i64 t245, .slice Ao12 t246.length co12] 24 (0, 0)) (by (with_reducible repeat (first | refine blk_drewN ?_ _ | refine blk_drew ?_ | refine blk_alloc ?_ _)); exact BK249.out) hb)
                    have n4_ := Aside0.mk (blk_below (g := gb263) (o := .cells #[.string t256, .string t257, .int .i64 t258, .slice Ao50 t259.length co50] 24 (0, 0)) (by (with_reducible repeat (first | refine blk_drewN ?_ _ | refine blk_drew ?_ | refine blk_alloc ?_ _)); exact BK263.out) hb)
                    have n5_ := Aside0.mk (below_step (by repeat (first | (with_reducible first | exact HB.out | apply below_alloc | apply pw_below_drewN | apply below_drew1 | refine below_set ?_ GE249.out | refine below_set ?_ GE263.out) | exact HB.out)) hb)
                    clear HO_250003
                    clear HO255
                    clear HO261
                    clear BK249
                    clear BK263
                    clear HB
                    have HO_250003 := n0_
                    have HO255 := n1_
                    have HO261 := n2_
                    have BK249 := n3_
                    have BK263 := n4_
                    have HB := n5_
                    clear n0_ n1_ n2_ n3_ n4_ n5_
                    (try clear hb)
                    (try clear hb2)
                    (try clear hk)
                    (try clear hi)
                    refine hK.out _ _ ⟨(blk_cell BK263.out 0).trans rfl, (blk_cell BK263.out 1).trans rfl, (blk_cell BK263.out 2).trans rfl, (blk_cell BK263.out 3).trans rfl⟩ (fun hHeld => ?_)
                    clear hK K
                    refine norm_ (a' := ?_) ?_ ?_
                    rotate_left
                    ·show Act.put _ (some 51) _ = _
                     simp only [Act.put, List.setIfInBounds_toArray, List.set_cons_zero, List.set_cons_succ, i64_w, i32_w]
                     rfl
                    refine pure_ (i := 4) (N := some 47) (v := ?_) (a' := ?_) #[true, true, true, true, true, false, false, false, false] rfl rfl (any_of HT_.out (by kernel_rfl)) (fun _ _ _ h => h) (Or.inl ⟨by rfl, ?_⟩) ?_ ?_
                    rotate_left
                    ·intro w'
                     go_simp
                     with_reducible rfl
                    rotate_left
                    ·simp only [Act.put, List.setIfInBounds_toArray, List.set_cons_zero, List.set_cons_succ, i64_w, i32_w]
                     rfl
                    refine pure_ (i := 5) (N := some 52) (v := ?_) (a' := ?_) #[true, true, true, true, true, true, false, false, false] rfl rfl (any_of HT_.out (by kernel_rfl)) (fun _ _ _ h => h) (Or.inl ⟨by rfl, ?_⟩) ?_ ?_
                    rotate_left
                    ·intro w'
                     go_simp
                     with_reducible rfl
                    rotate_left
                    ·simp only [Act.put, List.setIfInBounds_toArray, List.set_cons_zero, List.set_cons_succ, i64_w, i32_w]
                     rfl
                    refine pure_ (i := 6) (N := some 53) (v := ?_) (a' := ?_) #[true, true, true, true, true, true, true, false, false] rfl rfl (any_of HT_.out (by kernel_rfl)) (fun _ _ _ h => h) (Or.inl ⟨by rfl, ?_⟩) ?_ ?_
                    rotate_left
                    ·intro w'
                     go_simp
                     with_reducible rfl
                    rotate_left
                    ·simp only [Act.put, List.setIfInBounds_toArray, List.set_cons_zero, List.set_cons_succ, i64_w, i32_w]
                     rfl
                    refine pure_ (i := 7) (N := some 14) (v := ?_) (a' := ?_) #[true, true, true, true, true, true, true, true, false] rfl rfl (any_of HT_.out (by kernel_rfl)) (fun _ _ _ h => h) (Or.inl ⟨by rfl, ?_⟩) ?_ ?_
                    rotate_left
                    ·intro w'
                     go_simp
                     with_reducible rfl
                    rotate_left
                    ·simp only [Act.put, List.setIfInBounds_toArray, List.set_cons_zero, List.set_cons_succ, i64_w, i32_w]
                     rfl
                    refine pure_ (i := 8) (N := some 15) (v := ?_) (a' := ?_) #[true, true, true, true, true, true, true, true, true] rfl rfl (any_of HT_.out (by kernel_rfl)) (fun _ _ _ h => h) (Or.inl ⟨by rfl, ?_⟩) ?_ ?_
                    rotate_left
                    ·intro w'
                     go_simp
                     with_reducible rfl
                    rotate_left
                    ·simp only [Act.put, List.setIfInBounds_toArray, List.set_cons_zero, List.set_cons_succ, i64_w, i32_w]
                     rfl
                    refine done_ (done_of HT_.out (by kernel_rfl)) ?_
                    have hcz55_0 : w54.cell? ⟨gb263, 0, none⟩ = some (.string t256) := (blk_cell BK263.out 0).trans rfl
                    have hcz55_1 : w54.cell? ⟨gb263, 1, none⟩ = some (.string t257) := (blk_cell BK263.out 1).trans rfl
                    have hcz55_2 : w54.cell? ⟨gb263, 2, none⟩ = some (.int .i64 t258) := (blk_cell BK263.out 2).trans rfl
                    have hcz55_3 : w54.cell? ⟨gb263, 3, none⟩ = some (.slice Ao50 t259.length co50) := (blk_cell BK263.out 3).trans rfl
                    have hfz55_0 := blk_frozen BK263.out 0
                    have hfz55_1 := blk_frozen BK263.out 1
                    have hfz55_2 := blk_frozen BK263.out 2
                    have hfz55_3 := blk_frozen BK263.out 3
                    have hcz56_0 : w54.cell? ⟨gb249, 0, none⟩ = some (.string t243) := (blk_cell BK249.out 0).trans rfl
                    have hcz56_1 : w54.cell? ⟨gb249, 1, none⟩ = some (.string t244) := (blk_cell BK249.out 1).trans rfl
                    have hcz56_2 : w54.cell? ⟨gb249, 2, none⟩ = some (.int .i64 t245) := (blk_cell BK249.out 2).trans rfl
                    have hcz56_3 : w54.cell? ⟨gb249, 3, none⟩ = some (.slice Ao12 t246.length co12) := (blk_cell BK249.out 3).trans rfl
                    have hfz56_0 := blk_frozen BK249.out 0
                    have hfz56_1 := blk_frozen BK249.out 1
                    have hfz56_2 := blk_frozen BK249.out 2
                    have hfz56_3 := blk_frozen BK249.out 3
                    try go_wp2_with (first | (go_at_call 21; (with_reducible refine (ostiarykit_SameHead.calls kj6 t256 t257 t258 _ _ t259 t243 t244 t245 _ _ t246 true _ ?side1 ?side2 ?side3 ?side4 A34.out).mono ?_); (case side1 => repeat (first | exact (Kd.R_reads' HO261.out).2.2 | (with_reducible refine Kd.C_alloc ?_ _) | (with_reducible refine Kd.C_drewN ?_ _) | (with_reducible refine Kd.C_drew ?_))); (case side2 => exact (Kd.R_reads' HO261.out).2.1); (case side3 => repeat (first | exact (Kd.R_reads' HO_250003.out).2.2 | (with_reducible refine Kd.C_alloc ?_ _) | (with_reducible refine Kd.C_drewN ?_ _) | (with_reducible refine Kd.C_drew ?_))); (case side4 => exact (Kd.R_reads' HO_250003.out).2.1); rintro e w57 ⟨rfl, hb⟩; have n0_ := Aside0.mk (Kd.R_below (by (with_reducible repeat (first | apply Kd.R_alloc | apply Kd.R_drewN | apply Kd.R_drew)); exact HO_250003.out) hb); have n1_ := Aside0.mk (Kd.V_below (by (with_reducible repeat (first | apply Kd.V_alloc | apply Kd.V_drewN | apply Kd.V_drew)); exact HO255.out) hb); have n2_ := Aside0.mk (Kd.R_below (by (with_reducible repeat (first | apply Kd.R_alloc | apply Kd.R_drewN | apply Kd.R_drew)); exact HO261.out) hb); have n3_ := Aside0.mk (blk_below (g := gb249) (o := .cells #[.string t243, .string t244, .int .i64 t245, .slice Ao12 t246.length co12] 24 (0, 0)) (by (with_reducible repeat (first | refine blk_drewN ?_ _ | refine blk_drew ?_ | refine blk_alloc ?_ _)); exact BK249.out) hb); have n4_ := Aside0.mk (blk_below (g := gb263) (o := .cells #[.string t256, .string t257, .int .i64 t258, .slice Ao50 t259.length co50] 24 (0, 0)) (by (with_reducible repeat (first | refine blk_drewN ?_ _ | refine blk_drew ?_ | refine blk_alloc ?_ _)); exact BK263.out) hb); have n5_ := Aside0.mk (below_step (by repeat (first | (with_reducible first | exact HB.out | apply below_alloc | apply pw_below_drewN | apply below_drew1 | refine below_set ?_ GE249.out | refine below_set ?_ GE263.out) | exact HB.out)) hb); clear HO_250003; clear HO255; clear HO261; clear BK249; clear BK263; clear HB; have HO_250003 := n0_; have HO255 := n1_; have HO261 := n2_; have BK249 := n3_; have BK263 := n4_; have HB := n5_; clear n0_ n1_ n2_ n3_ n4_ n5_; (try clear hb); (try clear hb2); (try clear hk); (try clear hi)) | (go_at_call 48; (with_reducible refine (ostiarylaw13_status.calls kj6 (((((⟨#[71, 69, 84, 32, 47, 97, 32, 72, 84, 84, 80, 47, 49, 46, 48, 13, 10]⟩ : ByteArray) ++ a0) ++ (⟨#[58, 10]⟩ : ByteArray)) ++ a1) ++ (⟨#[13, 10, 13, 10]⟩ : ByteArray)) t268 _ ?side1 A42.out).mono ?_); (case side1 => exact GG_step HGG.out (by decide) (by repeat (first | (with_reducible first | exact HB.out | apply below_alloc | apply pw_below_drewN | apply below_drew1 | refine below_set ?_ GE249.out | refine below_set ?_ GE263.out) | exact HB.out))); rintro e w58 ⟨rfl, hb⟩; have n0_ := Aside0.mk (Kd.R_below (by (with_reducible repeat (first | apply Kd.R_alloc | apply Kd.R_drewN | apply Kd.R_drew)); exact HO_250003.out) hb); have n1_ := Aside0.mk (Kd.V_below (by (with_reducible repeat (first | apply Kd.V_alloc | apply Kd.V_drewN | apply Kd.V_drew)); exact HO255.out) hb); have n2_ := Aside0.mk (Kd.R_below (by (with_reducible repeat (first | apply Kd.R_alloc | apply Kd.R_drewN | apply Kd.R_drew)); exact HO261.out) hb); have n3_ := Aside0.mk (blk_below (g := gb249) (o := .cells #[.string t243, .string t244, .int .i64 t245, .slice Ao12 t246.length co12] 24 (0, 0)) (by (with_reducible repeat (first | refine blk_drewN ?_ _ | refine blk_drew ?_ | refine blk_alloc ?_ _)); exact BK249.out) hb); have n4_ := Aside0.mk (blk_below (g := gb263) (o := .cells #[.string t256, .string t257, .int .i64 t258, .slice Ao50 t259.length co50] 24 (0, 0)) (by (with_reducible repeat (first | refine blk_drewN ?_ _ | refine blk_drew ?_ | refine blk_alloc ?_ _)); exact BK263.out) hb); have n5_ := Aside0.mk (below_step (by repeat (first | (with_reducible first | exact HB.out | apply below_alloc | apply pw_below_drewN | apply below_drew1 | refine below_set ?_ GE249.out | refine below_set ?_ GE263.out) | exact HB.out)) hb); clear HO_250003; clear HO255; clear HO261; clear BK249; clear BK263; clear HB; have HO_250003 := n0_; have HO255 := n1_; have HO261 := n2_; have BK249 := n3_; have BK263 := n4_; have HB := n5_; clear n0_ n1_ n2_ n3_ n4_ n5_; (try clear hb); (try clear hb2); (try clear hk); (try clear hi)))
                    go_ret
                    exact ⟨by first | rfl | (simp [errW_none, errW_some] <;> rfl) | (simp [*, errW_none, errW_some] <;> rfl), by repeat (first | (with_reducible first | exact HB.out | apply below_alloc | apply pw_below_drewN | apply below_drew1 | refine below_set ?_ GE249.out | refine below_set ?_ GE263.out) | exact HB.out)⟩
                   ·rw [if_neg c41] at H
                    exact absurd H (by simp)
                  ·rw [if_neg c40] at H
                   exact absurd H (by simp)
                 ·rw [if_neg c39] at H
                  exact absurd H (by simp)
                ·rw [if_neg c38] at H
                 exact absurd H (by simp)
               ·rw [if_neg c37] at H
                have c37b0 : (t266 == 1) = false := beq_eq_false_iff_ne.mpr c37
                have c37b1 : (t266 != 1) = true := bne_iff_ne.mpr c37
                obtain rfl := Option.some.inj H
                try go_wp2_with (first | ((with_reducible refine gate_callee (f := 45) rfl ?_); refine goesL_ (some 32) rfl rfl Tryd.func45 (by kernel_rfl) rfl #[.int .i64 a2] rfl (by (try simp only [List.map_toArray, List.map_cons, List.map_nil]); first | done | rfl | (simp only [List.length_drop, List.length_take]; rfl)) ?_; (with_reducible refine (ostiarylaw13_blanks.calls kj6 a2 t251 _ A21.out).mono ?_); rintro e w' ⟨rfl, ⟨nd, rfl⟩⟩; refine ⟨_, rfl, ?_⟩; (try (rw [drewN_self wc]; generalize hq_ : World.drewN wc _ = wc; have n0_ : Aside0 (Kd.R k67 67 wc w.heap.size (fun _ => True) (.slice Ao12 t246.length co12) t246) := ⟨by rw [← hq_]; exact (by (with_reducible repeat (first | apply Kd.R_alloc | apply Kd.R_drewN | apply Kd.R_drew)); exact HO_250003.out)⟩; have n1_ : Aside0 (wc.heap[gb249]? = some (.cells #[.string t243, .string t244, .int .i64 t245, .slice Ao12 t246.length co12] 24 (0, 0))) := ⟨by rw [← hq_]; exact (by (with_reducible repeat (first | refine blk_drewN ?_ _ | refine blk_drew ?_ | refine blk_alloc ?_ _)); exact BK249.out)⟩; have n2_ : Aside0 (Below w.heap.size w wc) := ⟨by rw [← hq_]; exact (by repeat (first | (with_reducible first | exact HB.out | apply below_alloc | apply pw_below_drewN | apply below_drew1 | refine below_set ?_ GE249.out) | exact HB.out))⟩; clear HO_250003 BK249 HB hq_; have HO_250003 := n0_; have BK249 := n1_; have HB := n2_; clear n0_ n1_ n2_))) | ((with_reducible refine gate_callee (f := 45) rfl ?_); refine goesL_ (some 37) rfl rfl Tryd.func45 (by kernel_rfl) rfl #[.int .i64 a3] rfl (by (try simp only [List.map_toArray, List.map_cons, List.map_nil]); first | done | rfl | (simp only [List.length_drop, List.length_take]; rfl)) ?_; (with_reducible refine (ostiarylaw13_blanks.calls kj6 a3 t252 _ A24.out).mono ?_); rintro e w' ⟨rfl, ⟨nd, rfl⟩⟩; refine ⟨_, rfl, ?_⟩; (try (rw [drewN_self wc]; generalize hq_ : World.drewN wc _ = wc; have n0_ : Aside0 (Kd.R k67 67 wc w.heap.size (fun _ => True) (.slice Ao12 t246.length co12) t246) := ⟨by rw [← hq_]; exact (by (with_reducible repeat (first | apply Kd.R_alloc | apply Kd.R_drewN | apply Kd.R_drew)); exact HO_250003.out)⟩; have n1_ : Aside0 (wc.heap[gb249]? = some (.cells #[.string t243, .string t244, .int .i64 t245, .slice Ao12 t246.length co12] 24 (0, 0))) := ⟨by rw [← hq_]; exact (by (with_reducible repeat (first | refine blk_drewN ?_ _ | refine blk_drew ?_ | refine blk_alloc ?_ _)); exact BK249.out)⟩; have n2_ : Aside0 (Below w.heap.size w wc) := ⟨by rw [← hq_]; exact (by repeat (first | (with_reducible first | exact HB.out | apply below_alloc | apply pw_below_drewN | apply below_drew1 | refine below_set ?_ GE249.out) | exact HB.out))⟩; clear HO_250003 BK249 HB hq_; have HO_250003 := n0_; have BK249 := n1_; have HB := n2_; clear n0_ n1_ n2_))) | ((with_reducible refine gate_dst (N := 43) rfl ?_); (try (refine gate_guard (by rfl) ?_; dsimp only)); refine V_ofstr _ 5 rfl (N := 43) rfl 9 25 _ rfl (((⟨#[71, 69, 84, 32, 47, 97, 32, 72, 84, 84, 80, 47, 49, 46, 48, 13, 10]⟩ : ByteArray) ++ ((((a0 ++ (⟨#[58]⟩ : ByteArray)) ++ t251) ++ a1) ++ t252)) ++ (⟨#[13, 10, 13, 10]⟩ : ByteArray)) rfl Tryd.underlying9 Tryd.underlying25 Tryd.underlying5 (ok := fun k_ => wc.heap.size ≤ k_) (Nat.le_refl _) (Nat.le_trans LMc28.out (by omega)) (Below.refl _ _) (Nat.le_refl _) ?_; intro v254 w59 ho60 hb hg_ hnew_; clear hg_ hnew_; (first | rw [← Ny253.out] at ho60 | (simp only [Int.reduceToNat] at ho60; rw [← Ny253.out] at ho60)); have n0_ := Aside0.mk (Kd.R_below (by (with_reducible repeat (first | apply Kd.R_alloc | apply Kd.R_drewN | apply Kd.R_drew)); exact HO_250003.out) hb); have n1_ := Aside0.mk (Kd.V_lower (Kd.V_mono (ok' := fun k_ => some k_ ≠ (.slice Ao12 t246.length co12 : Value).ownBlock ∧ k_ ≠ gb249) ho60 (fun k_ hk_ => ⟨(Kd.fresh' (Kd.R_lt (by (with_reducible repeat (first | apply Kd.R_alloc | apply Kd.R_drewN | apply Kd.R_drew)); exact HO_250003.out)) k_ hk_), (Kd.freshB (g := gb249) (o := .cells #[.string t243, .string t244, .int .i64 t245, .slice Ao12 t246.length co12] 24 (0, 0)) (by (with_reducible repeat (first | refine blk_drewN ?_ _ | refine blk_drew ?_ | refine blk_alloc ?_ _)); exact BK249.out) k_ hk_)⟩)) (below_size (by repeat (first | (with_reducible first | exact HB.out | apply below_alloc | apply pw_below_drewN | apply below_drew1 | refine below_set ?_ GE249.out) | exact HB.out)))); have n2_ := Aside0.mk (blk_below (g := gb249) (o := .cells #[.string t243, .string t244, .int .i64 t245, .slice Ao12 t246.length co12] 24 (0, 0)) (by (with_reducible repeat (first | refine blk_drewN ?_ _ | refine blk_drew ?_ | refine blk_alloc ?_ _)); exact BK249.out) hb); have n3_ := Aside0.mk (below_step (by repeat (first | (with_reducible first | exact HB.out | apply below_alloc | apply pw_below_drewN | apply below_drew1 | refine below_set ?_ GE249.out) | exact HB.out)) hb); clear HO_250003; clear BK249; clear HB; have HO_250003 := n0_; have HO255 := n1_; have BK249 := n2_; have HB := n3_; clear n0_ n1_ n2_ n3_; clear hb ho60; obtain ⟨Ao61, co61, eo61⟩ := Kd.V_slice HO255.out; subst eo61) | ((with_reducible refine gate_callee (f := 41) rfl ?_); refine goesL_ (some 44) rfl rfl Tryd.func41 (by kernel_rfl) rfl #[.slice Ao61 y253.length co61] rfl (by (try simp only [List.map_toArray, List.map_cons, List.map_nil]); first | done | rfl | (simp only [List.length_drop, List.length_take]; rfl)) ?_; (with_reducible refine (head_Parse.calls kj6 _ _ y253 t256 t257 t258 t259 t262 _ ?side1 ?side2 ?side3 A29.out).mono ?_); (case side1 => repeat (first | exact (Kd.V_reads' HO255.out).2.2 | (with_reducible refine Kd.C_alloc ?_ _) | (with_reducible refine Kd.C_drewN ?_ _) | (with_reducible refine Kd.C_drew ?_))); (case side2 => exact (Kd.V_reads' HO255.out).2.1); (case side3 => exact GG_step HGG.out (by decide) (by repeat (first | (with_reducible first | exact HB.out | apply below_alloc | apply pw_below_drewN | apply below_drew1 | refine below_set ?_ GE249.out) | exact HB.out))); rintro e w62 ⟨v260, rfl, ho0, hb⟩; refine ⟨_, rfl, ?_⟩; have n0_ := Aside0.mk (Kd.R_elder' (by (with_reducible repeat (first | apply Kd.R_alloc | apply Kd.R_drewN | apply Kd.R_drew)); exact HO_250003.out) (Kd.R_base ho0) hb); have n1_ := Aside0.mk (Kd.V_elder' (by (with_reducible repeat (first | apply Kd.V_alloc | apply Kd.V_drewN | apply Kd.V_drew)); exact HO255.out) (Kd.R_base ho0) hb); have n2_ := Aside0.mk (Kd.R_lower (Kd.R_new' ho0 (Kd.R_lt (by (with_reducible repeat (first | apply Kd.R_alloc | apply Kd.R_drewN | apply Kd.R_drew)); exact HO_250003.out))) (below_size (by repeat (first | (with_reducible first | exact HB.out | apply below_alloc | apply pw_below_drewN | apply below_drew1 | refine below_set ?_ GE249.out) | exact HB.out)))); have n3_ := Aside0.mk (blk_below (g := gb249) (o := .cells #[.string t243, .string t244, .int .i64 t245, .slice Ao12 t246.length co12] 24 (0, 0)) (by (with_reducible repeat (first | refine blk_drewN ?_ _ | refine blk_drew ?_ | refine blk_alloc ?_ _)); exact BK249.out) hb); have n4_ := Aside0.mk (below_step (by repeat (first | (with_reducible first | exact HB.out | apply below_alloc | apply pw_below_drewN | apply below_drew1 | refine below_set ?_ GE249.out) | exact HB.out)) hb); clear HO_250003; clear HO255; clear BK249; clear HB; have HO_250003 := n0_; have HO255 := n1_; have HO261 := n2_; have BK249 := n3_; have HB := n4_; clear n0_ n1_ n2_ n3_ n4_; (try clear hb); (try clear hb2); (try clear hk); (try clear hi); (try clear ho0)) | ((with_reducible refine gate_dst (N := 12) rfl ?_); (try (refine gate_guard (by rfl) ?_; dsimp only)); refine box_event ?hg (N := 12) ?hd (cs := #[.string (⟨#[]⟩ : ByteArray), .string (⟨#[]⟩ : ByteArray), .int .i64 0, .slice none 0 0]) (t := 24) ?hr ?_; (case hd => rfl); (case hg => rfl); (case hr => first | (go_simp; done) | (go_simp; rfl)); intro gb263 hg w63 hbox hb; have n0_ := Aside0.mk (Kd.R_below (by (with_reducible repeat (first | apply Kd.R_alloc | apply Kd.R_drewN | apply Kd.R_drew)); exact HO_250003.out) hb); have n1_ := Aside0.mk (Kd.V_below (Kd.V_elderB (by (with_reducible repeat (first | apply Kd.V_alloc | apply Kd.V_drewN | apply Kd.V_drew)); exact HO255.out) gb263 (Nat.le_of_eq hg.symm)) hb); have n2_ := Aside0.mk (Kd.R_below (by (with_reducible repeat (first | apply Kd.R_alloc | apply Kd.R_drewN | apply Kd.R_drew)); exact HO261.out) hb); have n3_ := Aside0.mk (blk_below (g := gb249) (o := .cells #[.string t243, .string t244, .int .i64 t245, .slice Ao12 t246.length co12] 24 (0, 0)) (by (with_reducible repeat (first | refine blk_drewN ?_ _ | refine blk_drew ?_ | refine blk_alloc ?_ _)); exact BK249.out) hb); have n4_ := Aside0.mk (below_step (by repeat (first | (with_reducible first | exact HB.out | apply below_alloc | apply pw_below_drewN | apply below_drew1 | refine below_set ?_ GE249.out) | exact HB.out)) hb); have n5_ := Aside0.mk (hbox); have n6_ := Aside0.mk ((by rw [hg]; exact (below_size (by repeat (first | (with_reducible first | exact HB.out | apply below_alloc | apply pw_below_drewN | apply below_drew1 | refine below_set ?_ GE249.out) | exact HB.out))) : w.heap.size ≤ gb263)); have n7_ := Aside0.mk ((by rw [hg]; exact (below_size (by repeat (first | (with_reducible first | exact HB.out | apply below_alloc | apply pw_below_drewN | apply below_drew1 | refine below_set ?_ GE249.out) | exact HB.out))) : w.heap.size ≤ gb263)); have n8_ := Aside0.mk ((by rw [hg]; exact Nat.ne_of_lt (blk_lt (g := gb249) (o := .cells #[.string t243, .string t244, .int .i64 t245, .slice Ao12 t246.length co12] 24 (0, 0)) (by (with_reducible repeat (first | refine blk_drewN ?_ _ | refine blk_drew ?_ | refine blk_alloc ?_ _)); exact BK249.out)) : gb249 ≠ gb263)); have n9_ := Aside0.mk ((by rw [hg]; exact Nat.ne_of_gt (blk_lt (g := gb249) (o := .cells #[.string t243, .string t244, .int .i64 t245, .slice Ao12 t246.length co12] 24 (0, 0)) (by (with_reducible repeat (first | refine blk_drewN ?_ _ | refine blk_drew ?_ | refine blk_alloc ?_ _)); exact BK249.out)) : gb263 ≠ gb249)); clear HO_250003; clear HO255; clear HO261; clear BK249; clear HB; have HO_250003 := n0_; have HO255 := n1_; have HO261 := n2_; have BK249 := n3_; have HB := n4_; have BK263 := n5_; have GW263 := n6_; have GE263 := n7_; have NB249_263 := n8_; have NB263_249 := n9_; clear n0_ n1_ n2_ n3_ n4_ n5_ n6_ n7_ n8_ n9_; clear hb hbox hg; have hnb64 := NB263_249.out; have hnc64 := NB249_263.out; have hcz65_0 : w63.cell? ⟨gb263, 0, none⟩ = some (.string (⟨#[]⟩ : ByteArray)) := (blk_cell BK263.out 0).trans rfl; have hcz65_1 : w63.cell? ⟨gb263, 1, none⟩ = some (.string (⟨#[]⟩ : ByteArray)) := (blk_cell BK263.out 1).trans rfl; have hcz65_2 : w63.cell? ⟨gb263, 2, none⟩ = some (.int .i64 0) := (blk_cell BK263.out 2).trans rfl; have hcz65_3 : w63.cell? ⟨gb263, 3, none⟩ = some (.slice none 0 0) := (blk_cell BK263.out 3).trans rfl; have hfz65_0 := blk_frozen BK263.out 0; have hfz65_1 := blk_frozen BK263.out 1; have hfz65_2 := blk_frozen BK263.out 2; have hfz65_3 := blk_frozen BK263.out 3; obtain ⟨Ao66, co66, eo66⟩ := Kd.R_slice HO261.out; subst eo66))
                have n0_ : Aside0 (Kd.R k67 67 ((((w63.setCell ⟨gb263, 0, none⟩ (.string t256)).setCell ⟨gb263, 1, none⟩ (.string t257)).setCell ⟨gb263, 2, none⟩ (.int .i64 t258)).setCell ⟨gb263, 3, none⟩ (.slice Ao66 t259.length co66)) w.heap.size (fun k_ => some k_ ≠ (.slice Ao66 t259.length co66 : Value).ownBlock) (.slice Ao12 t246.length co12) t246) := ⟨by (with_reducible repeat (first | apply Kd.R_alloc | apply Kd.R_drewN | apply Kd.R_drew)); exact Kd.R_mono (Kd.R_far (p := ⟨gb263, 3, none⟩) (Kd.R_far (p := ⟨gb263, 2, none⟩) (Kd.R_far (p := ⟨gb263, 1, none⟩) (Kd.R_far (p := ⟨gb263, 0, none⟩) (Kd.R_types HO_250003.out BK263.out (by decide)) (fun _ hk => hk.2) (.string t256)) (fun _ hk => hk.2) (.string t257)) (fun _ hk => hk.2) (.int .i64 t258)) (fun _ hk => hk.2) (.slice Ao66 t259.length co66)) (fun _ hk => hk.1.2)⟩
                have n1_ : Aside0 (Kd.V (Kd.int .u8) 5 ((((w63.setCell ⟨gb263, 0, none⟩ (.string t256)).setCell ⟨gb263, 1, none⟩ (.string t257)).setCell ⟨gb263, 2, none⟩ (.int .i64 t258)).setCell ⟨gb263, 3, none⟩ (.slice Ao66 t259.length co66)) w.heap.size (fun k_ => some k_ ≠ (.slice Ao12 t246.length co12 : Value).ownBlock ∧ some k_ ≠ (.slice Ao66 t259.length co66 : Value).ownBlock ∧ k_ ≠ gb249 ∧ k_ ≠ gb263) (.slice Ao61 y253.length co61) y253) := ⟨by (with_reducible repeat (first | apply Kd.V_alloc | apply Kd.V_drewN | apply Kd.V_drew)); exact Kd.V_mono (Kd.V_far (p := ⟨gb263, 3, none⟩) (Kd.V_far (p := ⟨gb263, 2, none⟩) (Kd.V_far (p := ⟨gb263, 1, none⟩) (Kd.V_far (p := ⟨gb263, 0, none⟩) (Kd.V_mono HO255.out (fun k_ hk => (⟨hk, hk.2⟩ : _ ∧ k_ ≠ gb263))) (fun _ hk => hk.2) (.string t256)) (fun _ hk => hk.2) (.string t257)) (fun _ hk => hk.2) (.int .i64 t258)) (fun _ hk => hk.2) (.slice Ao66 t259.length co66)) (fun _ hk => ⟨hk.1.1.1.1, ⟨hk.1.1.2, ⟨hk.1.1.1.2, hk.1.2⟩⟩⟩)⟩
                have n2_ : Aside0 (Kd.R k67 67 ((((w63.setCell ⟨gb263, 0, none⟩ (.string t256)).setCell ⟨gb263, 1, none⟩ (.string t257)).setCell ⟨gb263, 2, none⟩ (.int .i64 t258)).setCell ⟨gb263, 3, none⟩ (.slice Ao66 t259.length co66)) w.heap.size (fun k_ => some k_ ≠ (.slice Ao12 t246.length co12 : Value).ownBlock) (.slice Ao66 t259.length co66) t259) := ⟨by (with_reducible repeat (first | apply Kd.R_alloc | apply Kd.R_drewN | apply Kd.R_drew)); exact Kd.R_mono (Kd.R_far (p := ⟨gb263, 3, none⟩) (Kd.R_far (p := ⟨gb263, 2, none⟩) (Kd.R_far (p := ⟨gb263, 1, none⟩) (Kd.R_far (p := ⟨gb263, 0, none⟩) (Kd.R_types HO261.out BK263.out (by decide)) (fun _ hk => hk.2) (.string t256)) (fun _ hk => hk.2) (.string t257)) (fun _ hk => hk.2) (.int .i64 t258)) (fun _ hk => hk.2) (.slice Ao66 t259.length co66)) (fun _ hk => hk.1.2)⟩
                have n3_ : Aside0 (((((w63.setCell ⟨gb263, 0, none⟩ (.string t256)).setCell ⟨gb263, 1, none⟩ (.string t257)).setCell ⟨gb263, 2, none⟩ (.int .i64 t258)).setCell ⟨gb263, 3, none⟩ (.slice Ao66 t259.length co66)).heap[gb249]? = some (.cells #[.string t243, .string t244, .int .i64 t245, .slice Ao12 t246.length co12] 24 (0, 0))) := ⟨by (with_reducible repeat (first | refine blk_drewN ?_ _ | refine blk_drew ?_ | refine blk_alloc ?_ _)); refine blk_far ?_ NB249_263.out _; (with_reducible repeat (first | refine blk_drewN ?_ _ | refine blk_drew ?_ | refine blk_alloc ?_ _)); refine blk_far ?_ NB249_263.out _; (with_reducible repeat (first | refine blk_drewN ?_ _ | refine blk_drew ?_ | refine blk_alloc ?_ _)); refine blk_far ?_ NB249_263.out _; (with_reducible repeat (first | refine blk_drewN ?_ _ | refine blk_drew ?_ | refine blk_alloc ?_ _)); refine blk_far ?_ NB249_263.out _; (with_reducible repeat (first | refine blk_drewN ?_ _ | refine blk_drew ?_ | refine blk_alloc ?_ _)); exact BK249.out⟩
                have n4_ : Aside0 (((((w63.setCell ⟨gb263, 0, none⟩ (.string t256)).setCell ⟨gb263, 1, none⟩ (.string t257)).setCell ⟨gb263, 2, none⟩ (.int .i64 t258)).setCell ⟨gb263, 3, none⟩ (.slice Ao66 t259.length co66)).heap[gb263]? = some (.cells #[.string t256, .string t257, .int .i64 t258, .slice Ao66 t259.length co66] 24 (0, 0))) := ⟨by (with_reducible repeat (first | refine blk_drewN ?_ _ | refine blk_drew ?_ | refine blk_alloc ?_ _)); refine blk_put (cs := #[.string t256, .string t257, .int .i64 t258, .slice none 0 0]) ?_ 3 _ rfl; (with_reducible repeat (first | refine blk_drewN ?_ _ | refine blk_drew ?_ | refine blk_alloc ?_ _)); refine blk_put (cs := #[.string t256, .string t257, .int .i64 0, .slice none 0 0]) ?_ 2 _ rfl; (with_reducible repeat (first | refine blk_drewN ?_ _ | refine blk_drew ?_ | refine blk_alloc ?_ _)); refine blk_put (cs := #[.string t256, .string (⟨#[]⟩ : ByteArray), .int .i64 0, .slice none 0 0]) ?_ 1 _ rfl; (with_reducible repeat (first | refine blk_drewN ?_ _ | refine blk_drew ?_ | refine blk_alloc ?_ _)); refine blk_put (cs := #[.string (⟨#[]⟩ : ByteArray), .string (⟨#[]⟩ : ByteArray), .int .i64 0, .slice none 0 0]) ?_ 0 _ rfl; (with_reducible repeat (first | refine blk_drewN ?_ _ | refine blk_drew ?_ | refine blk_alloc ?_ _)); exact BK263.out⟩
                have n5_ : Aside0 (Below w.heap.size w ((((w63.setCell ⟨gb263, 0, none⟩ (.string t256)).setCell ⟨gb263, 1, none⟩ (.string t257)).setCell ⟨gb263, 2, none⟩ (.int .i64 t258)).setCell ⟨gb263, 3, none⟩ (.slice Ao66 t259.length co66))) := ⟨by repeat (first | (with_reducible first | exact HB.out | apply below_alloc | apply pw_below_drewN | apply below_drew1 | refine below_set ?_ GE249.out | refine below_set ?_ GE263.out) | exact HB.out)⟩
                (try clear HO_250003)
                (try clear HO255)
                (try clear HO261)
                (try clear BK249)
                (try clear BK263)
                (try clear HB)
                generalize ((((w63.setCell ⟨gb263, 0, none⟩ (.string t256)).setCell ⟨gb263, 1, none⟩ (.string t257)).setCell ⟨gb263, 2, none⟩ (.int .i64 t258)).setCell ⟨gb263, 3, none⟩ (.slice Ao66 t259.length co66)) = w67 at n0_ n1_ n2_ n3_ n4_ n5_ ⊢
                have HO_250003 := n0_
                have HO255 := n1_
                have HO261 := n2_
                have BK249 := n3_
                have BK263 := n4_
                have HB := n5_
                clear n0_ n1_ n2_ n3_ n4_ n5_
                have n0_ := Aside0.mk (Kd.R_drew HO_250003.out)
                have n1_ := Aside0.mk (Kd.V_drew HO255.out)
                have n2_ := Aside0.mk (Kd.R_drew HO261.out)
                have n3_ := Aside0.mk (blk_drew BK249.out)
                have n4_ := Aside0.mk (blk_drew BK263.out)
                have n5_ := Aside0.mk (below_drew1 HB.out)
                clear HO_250003
                clear HO255
                clear HO261
                clear BK249
                clear BK263
                clear HB
                have HO_250003 := n0_
                have HO255 := n1_
                have HO261 := n2_
                have BK249 := n3_
                have BK263 := n4_
                have HB := n5_
                clear n0_ n1_ n2_ n3_ n4_ n5_
                refine start_ (n := 9) (S := fun w' => w'.cell? ⟨gb263, 0, none⟩ = some (.string t256) ∧ w'.cell? ⟨gb263, 1, none⟩ = some (.string t257) ∧ w'.cell? ⟨gb263, 2, none⟩ = some (.int .i64 t258) ∧ w'.cell? ⟨gb263, 3, none⟩ = some (.slice Ao66 t259.length co66)) (ds := []) #[false, false, false, false, false, false, false, false, false] (by kernel_rfl) rfl rfl ⟨(blk_cell BK263.out 0).trans rfl, (blk_cell BK263.out 1).trans rfl, (blk_cell BK263.out 2).trans rfl, (blk_cell BK263.out 3).trans rfl⟩ (fun hHeld => ?_); refine with_tabW ostiarylaw13_HeadBlanks.tab7 ostiarylaw13_HeadBlanks.bits7 (fun HT_ HW_ => ?_)
                generalize w67.drew = w68 at HO_250003 HO255 HO261 BK249 BK263 HB hHeld ⊢
                refine pure_ (i := 1) (N := some 49) (v := ?_) (a' := ?_) #[false, true, false, false, false, false, false, false, false] rfl rfl (any_of HT_.out (by kernel_rfl)) (fun _ _ _ h => h) (Or.inl ⟨by rfl, ?_⟩) ?_ ?_
                rotate_left
                ·intro w'
                 go_simp
                 with_reducible rfl
                rotate_left
                ·simp only [Act.put, List.setIfInBounds_toArray, List.set_cons_zero, List.set_cons_succ, i64_w, i32_w]
                 rfl
                refine take_ (i := 0) (N := some 48) (v := ?_) (a' := ?_) #[true, true, false, false, false, false, false, false, false] rfl rfl (take_ofW HT_.out HW_.out (by kernel_rfl)) (fun _ _ _ h => h) (Or.inl ⟨by rfl, ?_⟩) hHeld ?_ ?_
                rotate_left
                ·rintro w' ⟨s0, s1, s2, s3⟩
                 go_simp
                 with_reducible rfl
                rotate_left
                ·simp only [Act.put, List.setIfInBounds_toArray, List.set_cons_zero, List.set_cons_succ, i64_w, i32_w]
                 rfl
                refine one_ (i := 2) (N := some 50) #[true, true, true, false, false, false, false, false, false] rfl rfl (one_of HT_.out (by kernel_rfl)) (by decide) (fun K hK => ?_)
                refine goes_ Tryd.func47 (by kernel_rfl) rfl #[.string a0] (by rfl) rfl rfl (by (try simp only [List.map_toArray, List.map_cons, List.map_nil]); first | done | rfl | (simp only [List.length_drop, List.length_take]; rfl)) ?_
                with_reducible refine (ostiarylaw13_turned.calls a0 t264 _ A30.out).mono ?_
                rintro e w69 ⟨rfl, hb⟩
                refine ⟨_, rfl, ?_⟩
                have n0_ := Aside0.mk (Kd.R_below (by (with_reducible repeat (first | apply Kd.R_alloc | apply Kd.R_drewN | apply Kd.R_drew)); exact HO_250003.out) hb)
                have n1_ := Aside0.mk (Kd.V_below (by (with_reducible repeat (first | apply Kd.V_alloc | apply Kd.V_drewN | apply Kd.V_drew)); exact HO255.out) hb)
                have n2_ := Aside0.mk (Kd.R_below (by (with_reducible repeat (first | apply Kd.R_alloc | apply Kd.R_drewN | apply Kd.R_drew)); exact HO261.out) hb)
                have n3_ := Aside0.mk (blk_below (g := gb249) (o := .cells #[.string t243, .string t244, .int .i64 t245, .slice Ao12 t246.length co12] 24 (0, 0)) (by (with_reducible repeat (first | refine blk_drewN ?_ _ | refine blk_drew ?_ | refine blk_alloc ?_ _)); exact BK249.out) hb)
                have n4_ := Aside0.mk (blk_below (g := gb263) (o := .cells #[.string t256, .string t257, .int .i64 t258, .slice Ao66 t259.length co66] 24 (0, 0)) (by (with_reducible repeat (first | refine blk_drewN ?_ _ | refine blk_drew ?_ | refine blk_alloc ?_ _)); exact BK263.out) hb)
                have n5_ := Aside0.mk (below_step (by repeat (first | (with_reducible first | exact HB.out | apply below_alloc | apply pw_below_drewN | apply below_drew1 | refine below_set ?_ GE249.out | refine below_set ?_ GE263.out) | exact HB.out)) hb)
                clear HO_250003
                clear HO255
                clear HO261
                clear BK249
                clear BK263
                clear HB
                have HO_250003 := n0_
                have HO255 := n1_
                have HO261 := n2_
                have BK249 := n3_
                have BK263 := n4_
                have HB := n5_
                clear n0_ n1_ n2_ n3_ n4_ n5_
                (try clear hb)
                (try clear hb2)
                (try clear hk)
                (try clear hi)
                refine hK.out _ _ ⟨(blk_cell BK263.out 0).trans rfl, (blk_cell BK263.out 1).trans rfl, (blk_cell BK263.out 2).trans rfl, (blk_cell BK263.out 3).trans rfl⟩ (fun hHeld => ?_)
                clear hK K
                refine norm_ (a' := ?_) ?_ ?_
                rotate_left
                ·show Act.put _ (some 50) _ = _
                 simp only [Act.put, List.setIfInBounds_toArray, List.set_cons_zero, List.set_cons_succ, i64_w, i32_w]
                 rfl
                refine one_ (i := 3) (N := some 51) #[true, true, true, true, false, false, false, false, false] rfl rfl (one_of HT_.out (by kernel_rfl)) (by decide) (fun K hK => ?_)
                refine goes_ Tryd.func46 (by kernel_rfl) rfl #[.agg #[.string t256, .string t257, .int .i64 t258, .slice Ao66 t259.length co66], .string t264] (by rfl) rfl rfl (by (try simp only [List.map_toArray, List.map_cons, List.map_nil]); first | done | rfl | (simp only [List.length_drop, List.length_take]; rfl)) ?_
                with_reducible refine (head_Field.calls kj6 t256 t257 t258 _ _ t259 t264 t265 t266 _ ?side1 ?side2 A31.out).mono ?_
                (case side1 => repeat (first | exact (Kd.R_reads' HO261.out).2.2 | (with_reducible refine Kd.C_alloc ?_ _) | (with_reducible refine Kd.C_drewN ?_ _) | (with_reducible refine Kd.C_drew ?_)))
                (case side2 => exact (Kd.R_reads' HO261.out).2.1)
                rintro e w70 ⟨rfl, hb⟩
                refine ⟨_, rfl, ?_⟩
                have n0_ := Aside0.mk (Kd.R_below (by (with_reducible repeat (first | apply Kd.R_alloc | apply Kd.R_drewN | apply Kd.R_drew)); exact HO_250003.out) hb)
                have n1_ := Aside0.mk (Kd.V_below (by (with_reducible repeat (first | apply Kd.V_alloc | apply Kd.V_drewN | apply Kd.V_drew)); exact HO255.out) hb)
                have n2_ := Aside0.mk (Kd.R_below (by (with_reducible repeat (first | apply Kd.R_alloc | apply Kd.R_drewN | apply Kd.R_drew)); exact HO261.out) hb)
                have n3_ := Aside0.mk (blk_below (g := gb249) (o := .cells #[.string t243, .string t244, .int .i64 t245, .slice Ao12 t246.length co12] 24 (0, 0)) (by (with_reducible repeat (first | refine blk_drewN ?_ _ | refine blk_drew ?_ | refine blk_alloc ?_ _)); exact BK249.out) hb)
                have n4_ := Aside0.mk (blk_below (g := gb263) (o := .cells #[.string t256, .string t257, .int .i64 t258, .slice Ao66 t259.length co66] 24 (0, 0)) (by (with_reducible repeat (first | refine blk_drewN ?_ _ | refine blk_drew ?_ | refine blk_alloc ?_ _)); exact BK263.out) hb)
                have n5_ := Aside0.mk (below_step (by repeat (first | (with_reducible first | exact HB.out | apply below_alloc | apply pw_below_drewN | apply below_drew1 | refine below_set ?_ GE249.out | refine below_set ?_ GE263.out) | exact HB.out)) hb)
                clear HO_250003
                clear HO255
                clear HO261
                clear BK249
                clear BK263
                clear HB
                have HO_250003 := n0_
                have HO255 := n1_
                have HO261 := n2_
                have BK249 := n3_
                have BK263 := n4_
                have HB := n5_
                clear n0_ n1_ n2_ n3_ n4_ n5_
                (try clear hb)
                (try clear hb2)
                (try clear hk)
                (try clear hi)
                refine hK.out _ _ ⟨(blk_cell BK263.out 0).trans rfl, (blk_cell BK263.out 1).trans rfl, (blk_cell BK263.out 2).trans rfl, (blk_cell BK263.out 3).trans rfl⟩ (fun hHeld => ?_)
                clear hK K
                refine norm_ (a' := ?_) ?_ ?_
                rotate_left
                ·show Act.put _ (some 51) _ = _
                 simp only [Act.put, List.setIfInBounds_toArray, List.set_cons_zero, List.set_cons_succ, i64_w, i32_w]
                 rfl
                refine pure_ (i := 4) (N := some 47) (v := ?_) (a' := ?_) #[true, true, true, true, true, false, false, false, false] rfl rfl (any_of HT_.out (by kernel_rfl)) (fun _ _ _ h => h) (Or.inl ⟨by rfl, ?_⟩) ?_ ?_
                rotate_left
                ·intro w'
                 go_simp
                 with_reducible rfl
                rotate_left
                ·simp only [Act.put, List.setIfInBounds_toArray, List.set_cons_zero, List.set_cons_succ, i64_w, i32_w]
                 rfl
                refine pure_ (i := 5) (N := some 52) (v := ?_) (a' := ?_) #[true, true, true, true, true, true, false, false, false] rfl rfl (any_of HT_.out (by kernel_rfl)) (fun _ _ _ h => h) (Or.inl ⟨by rfl, ?_⟩) ?_ ?_
                rotate_left
                ·intro w'
                 go_simp
                 with_reducible rfl
                rotate_left
                ·simp only [Act.put, List.setIfInBounds_toArray, List.set_cons_zero, List.set_cons_succ, i64_w, i32_w]
                 rfl
                refine pure_ (i := 6) (N := some 53) (v := ?_) (a' := ?_) #[true, true, true, true, true, true, true, false, false] rfl rfl (any_of HT_.out (by kernel_rfl)) (fun _ _ _ h => h) (Or.inl ⟨by rfl, ?_⟩) ?_ ?_
                rotate_left
                ·intro w'
                 go_simp
                 with_reducible rfl
                rotate_left
                ·simp only [Act.put, List.setIfInBounds_toArray, List.set_cons_zero, List.set_cons_succ, i64_w, i32_w]
                 rfl
                refine pure_ (i := 7) (N := some 14) (v := ?_) (a' := ?_) #[true, true, true, true, true, true, true, true, false] rfl rfl (any_of HT_.out (by kernel_rfl)) (fun _ _ _ h => h) (Or.inl ⟨by rfl, ?_⟩) ?_ ?_
                rotate_left
                ·intro w'
                 go_simp
                 with_reducible rfl
                rotate_left
                ·simp only [Act.put, List.setIfInBounds_toArray, List.set_cons_zero, List.set_cons_succ, i64_w, i32_w]
                 rfl
                refine pure_ (i := 8) (N := some 15) (v := ?_) (a' := ?_) #[true, true, true, true, true, true, true, true, true] rfl rfl (any_of HT_.out (by kernel_rfl)) (fun _ _ _ h => h) (Or.inl ⟨by rfl, ?_⟩) ?_ ?_
                rotate_left
                ·intro w'
                 go_simp
                 with_reducible rfl
                rotate_left
                ·simp only [Act.put, List.setIfInBounds_toArray, List.set_cons_zero, List.set_cons_succ, i64_w, i32_w]
                 rfl
                refine done_ (done_of HT_.out (by kernel_rfl)) ?_
                have hcz71_0 : w70.cell? ⟨gb263, 0, none⟩ = some (.string t256) := (blk_cell BK263.out 0).trans rfl
                have hcz71_1 : w70.cell? ⟨gb263, 1, none⟩ = some (.string t257) := (blk_cell BK263.out 1).trans rfl
                have hcz71_2 : w70.cell? ⟨gb263, 2, none⟩ = some (.int .i64 t258) := (blk_cell BK263.out 2).trans rfl
                have hcz71_3 : w70.cell? ⟨gb263, 3, none⟩ = some (.slice Ao66 t259.length co66) := (blk_cell BK263.out 3).trans rfl
                have hfz71_0 := blk_frozen BK263.out 0
                have hfz71_1 := blk_frozen BK263.out 1
                have hfz71_2 := blk_frozen BK263.out 2
                have hfz71_3 := blk_frozen BK263.out 3
                have hcz72_0 : w70.cell? ⟨gb249, 0, none⟩ = some (.string t243) := (blk_cell BK249.out 0).trans rfl
                have hcz72_1 : w70.cell? ⟨gb249, 1, none⟩ = some (.string t244) := (blk_cell BK249.out 1).trans rfl
                have hcz72_2 : w70.cell? ⟨gb249, 2, none⟩ = some (.int .i64 t245) := (blk_cell BK249.out 2).trans rfl
                have hcz72_3 : w70.cell? ⟨gb249, 3, none⟩ = some (.slice Ao12 t246.length co12) := (blk_cell BK249.out 3).trans rfl
                have hfz72_0 := blk_frozen BK249.out 0
                have hfz72_1 := blk_frozen BK249.out 1
                have hfz72_2 := blk_frozen BK249.out 2
                have hfz72_3 := blk_frozen BK249.out 3
                try go_wp2_with (first | (go_at_call 21; (with_reducible refine (ostiarykit_SameHead.calls kj6 t256 t257 t258 _ _ t259 t243 t244 t245 _ _ t246 true _ ?side1 ?side2 ?side3 ?side4 A34.out).mono ?_); (case side1 => repeat (first | exact (Kd.R_reads' HO261.out).2.2 | (with_reducible refine Kd.C_alloc ?_ _) | (with_reducible refine Kd.C_drewN ?_ _) | (with_reducible refine Kd.C_drew ?_))); (case side2 => exact (Kd.R_reads' HO261.out).2.1); (case side3 => repeat (first | exact (Kd.R_reads' HO_250003.out).2.2 | (with_reducible refine Kd.C_alloc ?_ _) | (with_reducible refine Kd.C_drewN ?_ _) | (with_reducible refine Kd.C_drew ?_))); (case side4 => exact (Kd.R_reads' HO_250003.out).2.1); rintro e w73 ⟨rfl, hb⟩; have n0_ := Aside0.mk (Kd.R_below (by (with_reducible repeat (first | apply Kd.R_alloc | apply Kd.R_drewN | apply Kd.R_drew)); exact HO_250003.out) hb); have n1_ := Aside0.mk (Kd.V_below (by (with_reducible repeat (first | apply Kd.V_alloc | apply Kd.V_drewN | apply Kd.V_drew)); exact HO255.out) hb); have n2_ := Aside0.mk (Kd.R_below (by (with_reducible repeat (first | apply Kd.R_alloc | apply Kd.R_drewN | apply Kd.R_drew)); exact HO261.out) hb); have n3_ := Aside0.mk (blk_below (g := gb249) (o := .cells #[.string t243, .string t244, .int .i64 t245, .slice Ao12 t246.length co12] 24 (0, 0)) (by (with_reducible repeat (first | refine blk_drewN ?_ _ | refine blk_drew ?_ | refine blk_alloc ?_ _)); exact BK249.out) hb); have n4_ := Aside0.mk (blk_below (g := gb263) (o := .cells #[.string t256, .string t257, .int .i64 t258, .slice Ao66 t259.length co66] 24 (0, 0)) (by (with_reducible repeat (first | refine blk_drewN ?_ _ | refine blk_drew ?_ | refine blk_alloc ?_ _)); exact BK263.out) hb); have n5_ := Aside0.mk (below_step (by repeat (first | (with_reducible first | exact HB.out | apply below_alloc | apply pw_below_drewN | apply below_drew1 | refine below_set ?_ GE249.out | refine below_set ?_ GE263.out) | exact HB.out)) hb); clear HO_250003; clear HO255; clear HO261; clear BK249; clear BK263; clear HB; have HO_250003 := n0_; have HO255 := n1_; have HO261 := n2_; have BK249 := n3_; have BK263 := n4_; have HB := n5_; clear n0_ n1_ n2_ n3_ n4_ n5_; (try clear hb); (try clear hb2); (try clear hk); (try clear hi)))
                go_ret
                exact ⟨by first | rfl | (simp [errW_none, errW_some] <;> rfl) | (simp [*, errW_none, errW_some] <;> rfl), by repeat (first | (with_reducible first | exact HB.out | apply below_alloc | apply pw_below_drewN | apply below_drew1 | refine below_set ?_ GE249.out | refine below_set ?_ GE263.out) | exact HB.out)⟩
              ·rw [if_neg c36] at H
               have c36b0 : (t265.toList == a1.toList) = false := beq_eq_false_iff_ne.mpr c36
               have c36b1 : (t265.toList != a1.toList) = true := bne_iff_ne.mpr c36
               obtain rfl := Option.some.inj H
               try go_wp2_with (first | ((with_reducible refine gate_callee (f := 45) rfl ?_); refine goesL_ (some 32) rfl rfl Tryd.func45 (by kernel_rfl) rfl #[.int .i64 a2] rfl (by (try simp only [List.map_toArray, List.map_cons, List.map_nil]); first | done | rfl | (simp only [List.length_drop, List.length_take]; rfl)) ?_; (with_reducible refine (ostiarylaw13_blanks.calls kj6 a2 t251 _ A21.out).mono ?_); rintro e w' ⟨rfl, ⟨nd, rfl⟩⟩; refine ⟨_, rfl, ?_⟩; (try (rw [drewN_self wc]; generalize hq_ : World.drewN wc _ = wc; have n0_ : Aside0 (Kd.R k67 67 wc w.heap.size (fun _ => True) (.slice Ao12 t246.length co12) t246) := ⟨by rw [← hq_]; exact (by (with_reducible repeat (first | apply Kd.R_alloc | apply Kd.R_drewN | apply Kd.R_drew)); exact HO_250003.out)⟩; have n1_ : Aside0 (wc.heap[gb249]? = some (.cells #[.string t243, .string t244, .int .i64 t245, .slice Ao12 t246.length co12] 24 (0, 0))) := ⟨by rw [← hq_]; exact (by (with_reducible repeat (first | refine blk_drewN ?_ _ | refine blk_drew ?_ | refine blk_alloc ?_ _)); exact BK249.out)⟩; have n2_ : Aside0 (Below w.heap.size w wc) := ⟨by rw [← hq_]; exact (by repeat (first | (with_reducible first | exact HB.out | apply below_alloc | apply pw_below_drewN | apply below_drew1 | refine below_set ?_ GE249.out) | exact HB.out))⟩; clear HO_250003 BK249 HB hq_; have HO_250003 := n0_; have BK249 := n1_; have HB := n2_; clear n0_ n1_ n2_))) | ((with_reducible refine gate_callee (f := 45) rfl ?_); refine goesL_ (some 37) rfl rfl Tryd.func45 (by kernel_rfl) rfl #[.int .i64 a3] rfl (by (try simp only [List.map_toArray, List.map_cons, List.map_nil]); first | done | rfl | (simp only [List.length_drop, List.length_take]; rfl)) ?_; (with_reducible refine (ostiarylaw13_blanks.calls kj6 a3 t252 _ A24.out).mono ?_); rintro e w' ⟨rfl, ⟨nd, rfl⟩⟩; refine ⟨_, rfl, ?_⟩; (try (rw [drewN_self wc]; generalize hq_ : World.drewN wc _ = wc; have n0_ : Aside0 (Kd.R k67 67 wc w.heap.size (fun _ => True) (.slice Ao12 t246.length co12) t246) := ⟨by rw [← hq_]; exact (by (with_reducible repeat (first | apply Kd.R_alloc | apply Kd.R_drewN | apply Kd.R_drew)); exact HO_250003.out)⟩; have n1_ : Aside0 (wc.heap[gb249]? = some (.cells #[.string t243, .string t244, .int .i64 t245, .slice Ao12 t246.length co12] 24 (0, 0))) := ⟨by rw [← hq_]; exact (by (with_reducible repeat (first | refine blk_drewN ?_ _ | refine blk_drew ?_ | refine blk_alloc ?_ _)); exact BK249.out)⟩; have n2_ : Aside0 (Below w.heap.size w wc) := ⟨by rw [← hq_]; exact (by repeat (first | (with_reducible first | exact HB.out | apply below_alloc | apply pw_below_drewN | apply below_drew1 | refine below_set ?_ GE249.out) | exact HB.out))⟩; clear HO_250003 BK249 HB hq_; have HO_250003 := n0_; have BK249 := n1_; have HB := n2_; clear n0_ n1_ n2_))) | ((with_reducible refine gate_dst (N := 43) rfl ?_); (try (refine gate_guard (by rfl) ?_; dsimp only)); refine V_ofstr _ 5 rfl (N := 43) rfl 9 25 _ rfl (((⟨#[71, 69, 84, 32, 47, 97, 32, 72, 84, 84, 80, 47, 49, 46, 48, 13, 10]⟩ : ByteArray) ++ ((((a0 ++ (⟨#[58]⟩ : ByteArray)) ++ t251) ++ a1) ++ t252)) ++ (⟨#[13, 10, 13, 10]⟩ : ByteArray)) rfl Tryd.underlying9 Tryd.underlying25 Tryd.underlying5 (ok := fun k_ => wc.heap.size ≤ k_) (Nat.le_refl _) (Nat.le_trans LMc28.out (by omega)) (Below.refl _ _) (Nat.le_refl _) ?_; intro v254 w74 ho75 hb hg_ hnew_; clear hg_ hnew_; (first | rw [← Ny253.out] at ho75 | (simp only [Int.reduceToNat] at ho75; rw [← Ny253.out] at ho75)); have n0_ := Aside0.mk (Kd.R_below (by (with_reducible repeat (first | apply Kd.R_alloc | apply Kd.R_drewN | apply Kd.R_drew)); exact HO_250003.out) hb); have n1_ := Aside0.mk (Kd.V_lower (Kd.V_mono (ok' := fun k_ => some k_ ≠ (.slice Ao12 t246.length co12 : Value).ownBlock ∧ k_ ≠ gb249) ho75 (fun k_ hk_ => ⟨(Kd.fresh' (Kd.R_lt (by (with_reducible repeat (first | apply Kd.R_alloc | apply Kd.R_drewN | apply Kd.R_drew)); exact HO_250003.out)) k_ hk_), (Kd.freshB (g := gb249) (o := .cells #[.string t243, .string t244, .int .i64 t245, .slice Ao12 t246.length co12] 24 (0, 0)) (by (with_reducible repeat (first | refine blk_drewN ?_ _ | refine blk_drew ?_ | refine blk_alloc ?_ _)); exact BK249.out) k_ hk_)⟩)) (below_size (by repeat (first | (with_reducible first | exact HB.out | apply below_alloc | apply pw_below_drewN | apply below_drew1 | refine below_set ?_ GE249.out) | exact HB.out)))); have n2_ := Aside0.mk (blk_below (g := gb249) (o := .cells #[.string t243, .string t244, .int .i64 t245, .slice Ao12 t246.length co12] 24 (0, 0)) (by (with_reducible repeat (first | refine blk_drewN ?_ _ | refine blk_drew ?_ | refine blk_alloc ?_ _)); exact BK249.out) hb); have n3_ := Aside0.mk (below_step (by repeat (first | (with_reducible first | exact HB.out | apply below_alloc | apply pw_below_drewN | apply below_drew1 | refine below_set ?_ GE249.out) | exact HB.out)) hb); clear HO_250003; clear BK249; clear HB; have HO_250003 := n0_; have HO255 := n1_; have BK249 := n2_; have HB := n3_; clear n0_ n1_ n2_ n3_; clear hb ho75; obtain ⟨Ao76, co76, eo76⟩ := Kd.V_slice HO255.out; subst eo76) | ((with_reducible refine gate_callee (f := 41) rfl ?_); refine goesL_ (some 44) rfl rfl Tryd.func41 (by kernel_rfl) rfl #[.slice Ao76 y253.length co76] rfl (by (try simp only [List.map_toArray, List.map_cons, List.map_nil]); first | done | rfl | (simp only [List.length_drop, List.length_take]; rfl)) ?_; (with_reducible refine (head_Parse.calls kj6 _ _ y253 t256 t257 t258 t259 t262 _ ?side1 ?side2 ?side3 A29.out).mono ?_); (case side1 => repeat (first | exact (Kd.V_reads' HO255.out).2.2 | (with_reducible refine Kd.C_alloc ?_ _) | (with_reducible refine Kd.C_drewN ?_ _) | (with_reducible refine Kd.C_drew ?_))); (case side2 => exact (Kd.V_reads' HO255.out).2.1); (case side3 => exact GG_step HGG.out (by decide) (by repeat (first | (with_reducible first | exact HB.out | apply below_alloc | apply pw_below_drewN | apply below_drew1 | refine below_set ?_ GE249.out) | exact HB.out))); rintro e w77 ⟨v260, rfl, ho0, hb⟩; refine ⟨_, rfl, ?_⟩; have n0_ := Aside0.mk (Kd.R_elder' (by (with_reducible repeat (first | apply Kd.R_alloc | apply Kd.R_drewN | apply Kd.R_drew)); exact HO_250003.out) (Kd.R_base ho0) hb); have n1_ := Aside0.mk (Kd.V_elder' (by (with_reducible repeat (first | apply Kd.V_alloc | apply Kd.V_drewN | apply Kd.V_drew)); exact HO255.out) (Kd.R_base ho0) hb); have n2_ := Aside0.mk (Kd.R_lower (Kd.R_new' ho0 (Kd.R_lt (by (with_reducible repeat (first | apply Kd.R_alloc | apply Kd.R_drewN | apply Kd.R_drew)); exact HO_250003.out))) (below_size (by repeat (first | (with_reducible first | exact HB.out | apply below_alloc | apply pw_below_drewN | apply below_drew1 | refine below_set ?_ GE249.out) | exact HB.out)))); have n3_ := Aside0.mk (blk_below (g := gb249) (o := .cells #[.string t243, .string t244, .int .i64 t245, .slice Ao12 t246.length co12] 24 (0, 0)) (by (with_reducible repeat (first | refine blk_drewN ?_ _ | refine blk_drew ?_ | refine blk_alloc ?_ _)); exact BK249.out) hb); have n4_ := Aside0.mk (below_step (by repeat (first | (with_reducible first | exact HB.out | apply below_alloc | apply pw_below_drewN | apply below_drew1 | refine below_set ?_ GE249.out) | exact HB.out)) hb); clear HO_250003; clear HO255; clear BK249; clear HB; have HO_250003 := n0_; have HO255 := n1_; have HO261 := n2_; have BK249 := n3_; have HB := n4_; clear n0_ n1_ n2_ n3_ n4_; (try clear hb); (try clear hb2); (try clear hk); (try clear hi); (try clear ho0)) | ((with_reducible refine gate_dst (N := 12) rfl ?_); (try (refine gate_guard (by rfl) ?_; dsimp only)); refine box_event ?hg (N := 12) ?hd (cs := #[.string (⟨#[]⟩ : ByteArray), .string (⟨#[]⟩ : ByteArray), .int .i64 0, .slice none 0 0]) (t := 24) ?hr ?_; (case hd => rfl); (case hg => rfl); (case hr => first | (go_simp; done) | (go_simp; rfl)); intro gb263 hg w78 hbox hb; have n0_ := Aside0.mk (Kd.R_below (by (with_reducible repeat (first | apply Kd.R_alloc | apply Kd.R_drewN | apply Kd.R_drew)); exact HO_250003.out) hb); have n1_ := Aside0.mk (Kd.V_below (Kd.V_elderB (by (with_reducible repeat (first | apply Kd.V_alloc | apply Kd.V_drewN | apply Kd.V_drew)); exact HO255.out) gb263 (Nat.le_of_eq hg.symm)) hb); have n2_ := Aside0.mk (Kd.R_below (by (with_reducible repeat (first | apply Kd.R_alloc | apply Kd.R_drewN | apply Kd.R_drew)); exact HO261.out) hb); have n3_ := Aside0.mk (blk_below (g := gb249) (o := .cells #[.string t243, .string t244, .int .i64 t245, .slice Ao12 t246.length co12] 24 (0, 0)) (by (with_reducible repeat (first | refine blk_drewN ?_ _ | refine blk_drew ?_ | refine blk_alloc ?_ _)); exact BK249.out) hb); have n4_ := Aside0.mk (below_step (by repeat (first | (with_reducible first | exact HB.out | apply below_alloc | apply pw_below_drewN | apply below_drew1 | refine below_set ?_ GE249.out) | exact HB.out)) hb); have n5_ := Aside0.mk (hbox); have n6_ := Aside0.mk ((by rw [hg]; exact (below_size (by repeat (first | (with_reducible first | exact HB.out | apply below_alloc | apply pw_below_drewN | apply below_drew1 | refine below_set ?_ GE249.out) | exact HB.out))) : w.heap.size ≤ gb263)); have n7_ := Aside0.mk ((by rw [hg]; exact (below_size (by repeat (first | (with_reducible first | exact HB.out | apply below_alloc | apply pw_below_drewN | apply below_drew1 | refine below_set ?_ GE249.out) | exact HB.out))) : w.heap.size ≤ gb263)); have n8_ := Aside0.mk ((by rw [hg]; exact Nat.ne_of_lt (blk_lt (g := gb249) (o := .cells #[.string t243, .string t244, .int .i64 t245, .slice Ao12 t246.length co12] 24 (0, 0)) (by (with_reducible repeat (first | refine blk_drewN ?_ _ | refine blk_drew ?_ | refine blk_alloc ?_ _)); exact BK249.out)) : gb249 ≠ gb263)); have n9_ := Aside0.mk ((by rw [hg]; exact Nat.ne_of_gt (blk_lt (g := gb249) (o := .cells #[.string t243, .string t244, .int .i64 t245, .slice Ao12 t246.length co12] 24 (0, 0)) (by (with_reducible repeat (first | refine blk_drewN ?_ _ | refine blk_drew ?_ | refine blk_alloc ?_ _)); exact BK249.out)) : gb263 ≠ gb249)); clear HO_250003; clear HO255; clear HO261; clear BK249; clear HB; have HO_250003 := n0_; have HO255 := n1_; have HO261 := n2_; have BK249 := n3_; have HB := n4_; have BK263 := n5_; have GW263 := n6_; have GE263 := n7_; have NB249_263 := n8_; have NB263_249 := n9_; clear n0_ n1_ n2_ n3_ n4_ n5_ n6_ n7_ n8_ n9_; clear hb hbox hg; have hnb79 := NB263_249.out; have hnc79 := NB249_263.out; have hcz80_0 : w78.cell? ⟨gb263, 0, none⟩ = some (.string (⟨#[]⟩ : ByteArray)) := (blk_cell BK263.out 0).trans rfl; have hcz80_1 : w78.cell? ⟨gb263, 1, none⟩ = some (.string (⟨#[]⟩ : ByteArray)) := (blk_cell BK263.out 1).trans rfl; have hcz80_2 : w78.cell? ⟨gb263, 2, none⟩ = some (.int .i64 0) := (blk_cell BK263.out 2).trans rfl; have hcz80_3 : w78.cell? ⟨gb263, 3, none⟩ = some (.slice none 0 0) := (blk_cell BK263.out 3).trans rfl; have hfz80_0 := blk_frozen BK263.out 0; have hfz80_1 := blk_frozen BK263.out 1; have hfz80_2 := blk_frozen BK263.out 2; have hfz80_3 := blk_frozen BK263.out 3; obtain ⟨Ao81, co81, eo81⟩ := Kd.R_slice HO261.out; subst eo81))
               have n0_ : Aside0 (Kd.R k67 67 ((((w78.setCell ⟨gb263, 0, none⟩ (.string t256)).setCell ⟨gb263, 1, none⟩ (.string t257)).setCell ⟨gb263, 2, none⟩ (.int .i64 t258)).setCell ⟨gb263, 3, none⟩ (.slice Ao81 t259.length co81)) w.heap.size (fun k_ => some k_ ≠ (.slice Ao81 t259.length co81 : Value).ownBlock) (.slice Ao12 t246.length co12) t246) := ⟨by (with_reducible repeat (first | apply Kd.R_alloc | apply Kd.R_drewN | apply Kd.R_drew)); exact Kd.R_mono (Kd.R_far (p := ⟨gb263, 3, none⟩) (Kd.R_far (p := ⟨gb263, 2, none⟩) (Kd.R_far (p := ⟨gb263, 1, none⟩) (Kd.R_far (p := ⟨gb263, 0, none⟩) (Kd.R_types HO_250003.out BK263.out (by decide)) (fun _ hk => hk.2) (.string t256)) (fun _ hk => hk.2) (.string t257)) (fun _ hk => hk.2) (.int .i64 t258)) (fun _ hk => hk.2) (.slice Ao81 t259.length co81)) (fun _ hk => hk.1.2)⟩
               have n1_ : Aside0 (Kd.V (Kd.int .u8) 5 ((((w78.setCell ⟨gb263, 0, none⟩ (.string t256)).setCell ⟨gb263, 1, none⟩ (.string t257)).setCell ⟨gb263, 2, none⟩ (.int .i64 t258)).setCell ⟨gb263, 3, none⟩ (.slice Ao81 t259.length co81)) w.heap.size (fun k_ => some k_ ≠ (.slice Ao12 t246.length co12 : Value).ownBlock ∧ some k_ ≠ (.slice Ao81 t259.length co81 : Value).ownBlock ∧ k_ ≠ gb249 ∧ k_ ≠ gb263) (.slice Ao76 y253.length co76) y253) := ⟨by (with_reducible repeat (first | apply Kd.V_alloc | apply Kd.V_drewN | apply Kd.V_drew)); exact Kd.V_mono (Kd.V_far (p := ⟨gb263, 3, none⟩) (Kd.V_far (p := ⟨gb263, 2, none⟩) (Kd.V_far (p := ⟨gb263, 1, none⟩) (Kd.V_far (p := ⟨gb263, 0, none⟩) (Kd.V_mono HO255.out (fun k_ hk => (⟨hk, hk.2⟩ : _ ∧ k_ ≠ gb263))) (fun _ hk => hk.2) (.string t256)) (fun _ hk => hk.2) (.string t257)) (fun _ hk => hk.2) (.int .i64 t258)) (fun _ hk => hk.2) (.slice Ao81 t259.length co81)) (fun _ hk => ⟨hk.1.1.1.1, ⟨hk.1.1.2, ⟨hk.1.1.1.2, hk.1.2⟩⟩⟩)⟩
               have n2_ : Aside0 (Kd.R k67 67 ((((w78.setCell ⟨gb263, 0, none⟩ (.string t256)).setCell ⟨gb263, 1, none⟩ (.string t257)).setCell ⟨gb263, 2, none⟩ (.int .i64 t258)).setCell ⟨gb263, 3, none⟩ (.slice Ao81 t259.length co81)) w.heap.size (fun k_ => some k_ ≠ (.slice Ao12 t246.length co12 : Value).ownBlock) (.slice Ao81 t259.length co81) t259) := ⟨by (with_reducible repeat (first | apply Kd.R_alloc | apply Kd.R_drewN | apply Kd.R_drew)); exact Kd.R_mono (Kd.R_far (p := ⟨gb263, 3, none⟩) (Kd.R_far (p := ⟨gb263, 2, none⟩) (Kd.R_far (p := ⟨gb263, 1, none⟩) (Kd.R_far (p := ⟨gb263, 0, none⟩) (Kd.R_types HO261.out BK263.out (by decide)) (fun _ hk => hk.2) (.string t256)) (fun _ hk => hk.2) (.string t257)) (fun _ hk => hk.2) (.int .i64 t258)) (fun _ hk => hk.2) (.slice Ao81 t259.length co81)) (fun _ hk => hk.1.2)⟩
               have n3_ : Aside0 (((((w78.setCell ⟨gb263, 0, none⟩ (.string t256)).setCell ⟨gb263, 1, none⟩ (.string t257)).setCell ⟨gb263, 2, none⟩ (.int .i64 t258)).setCell ⟨gb263, 3, none⟩ (.slice Ao81 t259.length co81)).heap[gb249]? = some (.cells #[.string t243, .string t244, .int .i64 t245, .slice Ao12 t246.length co12] 24 (0, 0))) := ⟨by (with_reducible repeat (first | refine blk_drewN ?_ _ | refine blk_drew ?_ | refine blk_alloc ?_ _)); refine blk_far ?_ NB249_263.out _; (with_reducible repeat (first | refine blk_drewN ?_ _ | refine blk_drew ?_ | refine blk_alloc ?_ _)); refine blk_far ?_ NB249_263.out _; (with_reducible repeat (first | refine blk_drewN ?_ _ | refine blk_drew ?_ | refine blk_alloc ?_ _)); refine blk_far ?_ NB249_263.out _; (with_reducible repeat (first | refine blk_drewN ?_ _ | refine blk_drew ?_ | refine blk_alloc ?_ _)); refine blk_far ?_ NB249_263.out _; (with_reducible repeat (first | refine blk_drewN ?_ _ | refine blk_drew ?_ | refine blk_alloc ?_ _)); exact BK249.out⟩
               have n4_ : Aside0 (((((w78.setCell ⟨gb263, 0, none⟩ (.string t256)).setCell ⟨gb263, 1, none⟩ (.string t257)).setCell ⟨gb263, 2, none⟩ (.int .i64 t258)).setCell ⟨gb263, 3, none⟩ (.slice Ao81 t259.length co81)).heap[gb263]? = some (.cells #[.string t256, .string t257, .int .i64 t258, .slice Ao81 t259.length co81] 24 (0, 0))) := ⟨by (with_reducible repeat (first | refine blk_drewN ?_ _ | refine blk_drew ?_ | refine blk_alloc ?_ _)); refine blk_put (cs := #[.string t256, .string t257, .int .i64 t258, .slice none 0 0]) ?_ 3 _ rfl; (with_reducible repeat (first | refine blk_drewN ?_ _ | refine blk_drew ?_ | refine blk_alloc ?_ _)); refine blk_put (cs := #[.string t256, .string t257, .int .i64 0, .slice none 0 0]) ?_ 2 _ rfl; (with_reducible repeat (first | refine blk_drewN ?_ _ | refine blk_drew ?_ | refine blk_alloc ?_ _)); refine blk_put (cs := #[.string t256, .string (⟨#[]⟩ : ByteArray), .int .i64 0, .slice none 0 0]) ?_ 1 _ rfl; (with_reducible repeat (first | refine blk_drewN ?_ _ | refine blk_drew ?_ | refine blk_alloc ?_ _)); refine blk_put (cs := #[.string (⟨#[]⟩ : ByteArray), .string (⟨#[]⟩ : ByteArray), .int .i64 0, .slice none 0 0]) ?_ 0 _ rfl; (with_reducible repeat (first | refine blk_drewN ?_ _ | refine blk_drew ?_ | refine blk_alloc ?_ _)); exact BK263.out⟩
               have n5_ : Aside0 (Below w.heap.size w ((((w78.setCell ⟨gb263, 0, none⟩ (.string t256)).setCell ⟨gb263, 1, none⟩ (.string t257)).setCell ⟨gb263, 2, none⟩ (.int .i64 t258)).setCell ⟨gb263, 3, none⟩ (.slice Ao81 t259.length co81))) := ⟨by repeat (first | (with_reducible first | exact HB.out | apply below_alloc | apply pw_below_drewN | apply below_drew1 | refine below_set ?_ GE249.out | refine below_set ?_ GE263.out) | exact HB.out)⟩
               (try clear HO_250003)
               (try clear HO255)
               (try clear HO261)
               (try clear BK249)
               (try clear BK263)
               (try clear HB)
               generalize ((((w78.setCell ⟨gb263, 0, none⟩ (.string t256)).setCell ⟨gb263, 1, none⟩ (.string t257)).setCell ⟨gb263, 2, none⟩ (.int .i64 t258)).setCell ⟨gb263, 3, none⟩ (.slice Ao81 t259.length co81)) = w82 at n0_ n1_ n2_ n3_ n4_ n5_ ⊢
               have HO_250003 := n0_
               have HO255 := n1_
               have HO261 := n2_
               have BK249 := n3_
               have BK263 := n4_
               have HB := n5_
               clear n0_ n1_ n2_ n3_ n4_ n5_
               have n0_ := Aside0.mk (Kd.R_drew HO_250003.out)
               have n1_ := Aside0.mk (Kd.V_drew HO255.out)
               have n2_ := Aside0.mk (Kd.R_drew HO261.out)
               have n3_ := Aside0.mk (blk_drew BK249.out)
               have n4_ := Aside0.mk (blk_drew BK263.out)
               have n5_ := Aside0.mk (below_drew1 HB.out)
               clear HO_250003
               clear HO255
               clear HO261
               clear BK249
               clear BK263
               clear HB
               have HO_250003 := n0_
               have HO255 := n1_
               have HO261 := n2_
               have BK249 := n3_
               have BK263 := n4_
               have HB := n5_
               clear n0_ n1_ n2_ n3_ n4_ n5_
               refine start_ (n := 9) (S := fun w' => w'.cell? ⟨gb263, 0, none⟩ = some (.string t256) ∧ w'.cell? ⟨gb263, 1, none⟩ = some (.string t257) ∧ w'.cell? ⟨gb263, 2, none⟩ = some (.int .i64 t258) ∧ w'.cell? ⟨gb263, 3, none⟩ = some (.slice Ao81 t259.length co81)) (ds := []) #[false, false, false, false, false, false, false, false, false] (by kernel_rfl) rfl rfl ⟨(blk_cell BK263.out 0).trans rfl, (blk_cell BK263.out 1).trans rfl, (blk_cell BK263.out 2).trans rfl, (blk_cell BK263.out 3).trans rfl⟩ (fun hHeld => ?_); refine with_tabW ostiarylaw13_HeadBlanks.tab7 ostiarylaw13_HeadBlanks.bits7 (fun HT_ HW_ => ?_)
               generalize w82.drew = w83 at HO_250003 HO255 HO261 BK249 BK263 HB hHeld ⊢
               refine pure_ (i := 1) (N := some 49) (v := ?_) (a' := ?_) #[false, true, false, false, false, false, false, false, false] rfl rfl (any_of HT_.out (by kernel_rfl)) (fun _ _ _ h => h) (Or.inl ⟨by rfl, ?_⟩) ?_ ?_
               rotate_left
               ·intro w'
                go_simp
                with_reducible rfl
               rotate_left
               ·simp only [Act.put, List.setIfInBounds_toArray, List.set_cons_zero, List.set_cons_succ, i64_w, i32_w]
                rfl
               refine take_ (i := 0) (N := some 48) (v := ?_) (a' := ?_) #[true, true, false, false, false, false, false, false, false] rfl rfl (take_ofW HT_.out HW_.out (by kernel_rfl)) (fun _ _ _ h => h) (Or.inl ⟨by rfl, ?_⟩) hHeld ?_ ?_
               rotate_left
               ·rintro w' ⟨s0, s1, s2, s3⟩
                go_simp
                with_reducible rfl
               rotate_left
               ·simp only [Act.put, List.setIfInBounds_toArray, List.set_cons_zero, List.set_cons_succ, i64_w, i32_w]
                rfl
               refine one_ (i := 2) (N := some 50) #[true, true, true, false, false, false, false, false, false] rfl rfl (one_of HT_.out (by kernel_rfl)) (by decide) (fun K hK => ?_)
               refine goes_ Tryd.func47 (by kernel_rfl) rfl #[.string a0] (by rfl) rfl rfl (by (try simp only [List.map_toArray, List.map_cons, List.map_nil]); first | done | rfl | (simp only [List.length_drop, List.length_take]; rfl)) ?_
               with_reducible refine (ostiarylaw13_turned.calls a0 t264 _ A30.out).mono ?_
               rintro e w84 ⟨rfl, hb⟩
               refine ⟨_, rfl, ?_⟩
               have n0_ := Aside0.mk (Kd.R_below (by (with_reducible repeat (first | apply Kd.R_alloc | apply Kd.R_drewN | apply Kd.R_drew)); exact HO_250003.out) hb)
               have n1_ := Aside0.mk (Kd.V_below (by (with_reducible repeat (first | apply Kd.V_alloc | apply Kd.V_drewN | apply Kd.V_drew)); exact HO255.out) hb)
               have n2_ := Aside0.mk (Kd.R_below (by (with_reducible repeat (first | apply Kd.R_alloc | apply Kd.R_drewN | apply Kd.R_drew)); exact HO261.out) hb)
               have n3_ := Aside0.mk (blk_below (g := gb249) (o := .cells #[.string t243, .string t244, .int .i64 t245, .slice Ao12 t246.length co12] 24 (0, 0)) (by (with_reducible repeat (first | refine blk_drewN ?_ _ | refine blk_drew ?_ | refine blk_alloc ?_ _)); exact BK249.out) hb)
               have n4_ := Aside0.mk (blk_below (g := gb263) (o := .cells #[.string t256, .string t257, .int .i64 t258, .slice Ao81 t259.length co81] 24 (0, 0)) (by (with_reducible repeat (first | refine blk_drewN ?_ _ | refine blk_drew ?_ | refine blk_alloc ?_ _)); exact BK263.out) hb)
               have n5_ := Aside0.mk (below_step (by repeat (first | (with_reducible first | exact HB.out | apply below_alloc | apply pw_below_drewN | apply below_drew1 | refine below_set ?_ GE249.out | refine below_set ?_ GE263.out) | exact HB.out)) hb)
               clear HO_250003
               clear HO255
               clear HO261
               clear BK249
               clear BK263
               clear HB
               have HO_250003 := n0_
               have HO255 := n1_
               have HO261 := n2_
               have BK249 := n3_
               have BK263 := n4_
               have HB := n5_
               clear n0_ n1_ n2_ n3_ n4_ n5_
               (try clear hb)
               (try clear hb2)
               (try clear hk)
               (try clear hi)
               refine hK.out _ _ ⟨(blk_cell BK263.out 0).trans rfl, (blk_cell BK263.out 1).trans rfl, (blk_cell BK263.out 2).trans rfl, (blk_cell BK263.out 3).trans rfl⟩ (fun hHeld => ?_)
               clear hK K
               refine norm_ (a' := ?_) ?_ ?_
               rotate_left
               ·show Act.put _ (some 50) _ = _
                simp only [Act.put, List.setIfInBounds_toArray, List.set_cons_zero, List.set_cons_succ, i64_w, i32_w]
                rfl
               refine one_ (i := 3) (N := some 51) #[true, true, true, true, false, false, false, false, false] rfl rfl (one_of HT_.out (by kernel_rfl)) (by decide) (fun K hK => ?_)
               refine goes_ Tryd.func46 (by kernel_rfl) rfl #[.agg #[.string t256, .string t257, .int .i64 t258, .slice Ao81 t259.length co81], .string t264] (by rfl) rfl rfl (by (try simp only [List.map_toArray, List.map_cons, List.map_nil]); first | done | rfl | (simp only [List.length_drop, List.length_take]; rfl)) ?_
               with_reducible refine (head_Field.calls kj6 t256 t257 t258 _ _ t259 t264 t265 t266 _ ?side1 ?side2 A31.out).mono ?_
               (case side1 => repeat (first | exact (Kd.R_reads' HO261.out).2.2 | (with_reducible refine Kd.C_alloc ?_ _) | (with_reducible refine Kd.C_drewN ?_ _) | (with_reducible refine Kd.C_drew ?_)))
               (case side2 => exact (Kd.R_reads' HO261.out).2.1)
               rintro e w85 ⟨rfl, hb⟩
               refine ⟨_, rfl, ?_⟩
               have n0_ := Aside0.mk (Kd.R_below (by (with_reducible repeat (first | apply Kd.R_alloc | apply Kd.R_drewN | apply Kd.R_drew)); exact HO_250003.out) hb)
               have n1_ := Aside0.mk (Kd.V_below (by (with_reducible repeat (first | apply Kd.V_alloc | apply Kd.V_drewN | apply Kd.V_drew)); exact HO255.out) hb)
               have n2_ := Aside0.mk (Kd.R_below (by (with_reducible repeat (first | apply Kd.R_alloc | apply Kd.R_drewN | apply Kd.R_drew)); exact HO261.out) hb)
               have n3_ := Aside0.mk (blk_below (g := gb249) (o := .cells #[.string t243, .string t244, .int .i64 t245, .slice Ao12 t246.length co12] 24 (0, 0)) (by (with_reducible repeat (first | refine blk_drewN ?_ _ | refine blk_drew ?_ | refine blk_alloc ?_ _)); exact BK249.out) hb)
               have n4_ := Aside0.mk (blk_below (g := gb263) (o := .cells #[.string t256, .string t257, .int .i64 t258, .slice Ao81 t259.length co81] 24 (0, 0)) (by (with_reducible repeat (first | refine blk_drewN ?_ _ | refine blk_drew ?_ | refine blk_alloc ?_ _)); exact BK263.out) hb)
               have n5_ := Aside0.mk (below_step (by repeat (first | (with_reducible first | exact HB.out | apply below_alloc | apply pw_below_drewN | apply below_drew1 | refine below_set ?_ GE249.out | refine below_set ?_ GE263.out) | exact HB.out)) hb)
               clear HO_250003
               clear HO255
               clear HO261
               clear BK249
               clear BK263
               clear HB
               have HO_250003 := n0_
               have HO255 := n1_
               have HO261 := n2_
               have BK249 := n3_
               have BK263 := n4_
               have HB := n5_
               clear n0_ n1_ n2_ n3_ n4_ n5_
               (try clear hb)
               (try clear hb2)
               (try clear hk)
               (try clear hi)
               refine hK.out _ _ ⟨(blk_cell BK263.out 0).trans rfl, (blk_cell BK263.out 1).trans rfl, (blk_cell BK263.out 2).trans rfl, (blk_cell BK263.out 3).trans rfl⟩ (fun hHeld => ?_)
               clear hK K
               refine norm_ (a' := ?_) ?_ ?_
               rotate_left
               ·show Act.put _ (some 51) _ = _
                simp only [Act.put, List.setIfInBounds_toArray, List.set_cons_zero, List.set_cons_succ, i64_w, i32_w]
                rfl
               refine pure_ (i := 4) (N := some 47) (v := ?_) (a' := ?_) #[true, true, true, true, true, false, false, false, false] rfl rfl (any_of HT_.out (by kernel_rfl)) (fun _ _ _ h => h) (Or.inl ⟨by rfl, ?_⟩) ?_ ?_
               rotate_left
               ·intro w'
                go_simp
                with_reducible rfl
               rotate_left
               ·simp only [Act.put, List.setIfInBounds_toArray, List.set_cons_zero, List.set_cons_succ, i64_w, i32_w]
                rfl
               refine pure_ (i := 5) (N := some 52) (v := ?_) (a' := ?_) #[true, true, true, true, true, true, false, false, false] rfl rfl (any_of HT_.out (by kernel_rfl)) (fun _ _ _ h => h) (Or.inl ⟨by rfl, ?_⟩) ?_ ?_
               rotate_left
               ·intro w'
                go_simp
                with_reducible rfl
               rotate_left
               ·simp only [Act.put, List.setIfInBounds_toArray, List.set_cons_zero, List.set_cons_succ, i64_w, i32_w]
                rfl
               refine pure_ (i := 6) (N := some 53) (v := ?_) (a' := ?_) #[true, true, true, true, true, true, true, false, false] rfl rfl (any_of HT_.out (by kernel_rfl)) (fun _ _ _ h => h) (Or.inl ⟨by rfl, ?_⟩) ?_ ?_
               rotate_left
               ·intro w'
                go_simp
                with_reducible rfl
               rotate_left
               ·simp only [Act.put, List.setIfInBounds_toArray, List.set_cons_zero, List.set_cons_succ, i64_w, i32_w]
                rfl
               refine pure_ (i := 7) (N := some 14) (v := ?_) (a' := ?_) #[true, true, true, true, true, true, true, true, false] rfl rfl (any_of HT_.out (by kernel_rfl)) (fun _ _ _ h => h) (Or.inl ⟨by rfl, ?_⟩) ?_ ?_
               rotate_left
               ·intro w'
                go_simp
                with_reducible rfl
               rotate_left
               ·simp only [Act.put, List.setIfInBounds_toArray, List.set_cons_zero, List.set_cons_succ, i64_w, i32_w]
                rfl
               refine pure_ (i := 8) (N := some 15) (v := ?_) (a' := ?_) #[true, true, true, true, true, true, true, true, true] rfl rfl (any_of HT_.out (by kernel_rfl)) (fun _ _ _ h => h) (Or.inl ⟨by rfl, ?_⟩) ?_ ?_
               rotate_left
               ·intro w'
                go_simp
                with_reducible rfl
               rotate_left
               ·simp only [Act.put, List.setIfInBounds_toArray, List.set_cons_zero, List.set_cons_succ, i64_w, i32_w]
                rfl
               refine done_ (done_of HT_.out (by kernel_rfl)) ?_
               have hcz86_0 : w85.cell? ⟨gb263, 0, none⟩ = some (.string t256) := (blk_cell BK263.out 0).trans rfl
               have hcz86_1 : w85.cell? ⟨gb263, 1, none⟩ = some (.string t257) := (blk_cell BK263.out 1).trans rfl
               have hcz86_2 : w85.cell? ⟨gb263, 2, none⟩ = some (.int .i64 t258) := (blk_cell BK263.out 2).trans rfl
               have hcz86_3 : w85.cell? ⟨gb263, 3, none⟩ = some (.slice Ao81 t259.length co81) := (blk_cell BK263.out 3).trans rfl
               have hfz86_0 := blk_frozen BK263.out 0
               have hfz86_1 := blk_frozen BK263.out 1
               have hfz86_2 := blk_frozen BK263.out 2
               have hfz86_3 := blk_frozen BK263.out 3
               have hcz87_0 : w85.cell? ⟨gb249, 0, none⟩ = some (.string t243) := (blk_cell BK249.out 0).trans rfl
               have hcz87_1 : w85.cell? ⟨gb249, 1, none⟩ = some (.string t244) := (blk_cell BK249.out 1).trans rfl
               have hcz87_2 : w85.cell? ⟨gb249, 2, none⟩ = some (.int .i64 t245) := (blk_cell BK249.out 2).trans rfl
               have hcz87_3 : w85.cell? ⟨gb249, 3, none⟩ = some (.slice Ao12 t246.length co12) := (blk_cell BK249.out 3).trans rfl
               have hfz87_0 := blk_frozen BK249.out 0
               have hfz87_1 := blk_frozen BK249.out 1
               have hfz87_2 := blk_frozen BK249.out 2
               have hfz87_3 := blk_frozen BK249.out 3
               try go_wp2_with (first | (go_at_call 21; (with_reducible refine (ostiarykit_SameHead.calls kj6 t256 t257 t258 _ _ t259 t243 t244 t245 _ _ t246 true _ ?side1 ?side2 ?side3 ?side4 A34.out).mono ?_); (case side1 => repeat (first | exact (Kd.R_reads' HO261.out).2.2 | (with_reducible refine Kd.C_alloc ?_ _) | (with_reducible refine Kd.C_drewN ?_ _) | (with_reducible refine Kd.C_drew ?_))); (case side2 => exact (Kd.R_reads' HO261.out).2.1); (case side3 => repeat (first | exact (Kd.R_reads' HO_250003.out).2.2 | (with_reducible refine Kd.C_alloc ?_ _) | (with_reducible refine Kd.C_drewN ?_ _) | (with_reducible refine Kd.C_drew ?_))); (case side4 => exact (Kd.R_reads' HO_250003.out).2.1); rintro e w88 ⟨rfl, hb⟩; have n0_ := Aside0.mk (Kd.R_below (by (with_reducible repeat (first | apply Kd.R_alloc | apply Kd.R_drewN | apply Kd.R_drew)); exact HO_250003.out) hb); have n1_ := Aside0.mk (Kd.V_below (by (with_reducible repeat (first | apply Kd.V_alloc | apply Kd.V_drewN | apply Kd.V_drew)); exact HO255.out) hb); have n2_ := Aside0.mk (Kd.R_below (by (with_reducible repeat (first | apply Kd.R_alloc | apply Kd.R_drewN | apply Kd.R_drew)); exact HO261.out) hb); have n3_ := Aside0.mk (blk_below (g := gb249) (o := .cells #[.string t243, .string t244, .int .i64 t245, .slice Ao12 t246.length co12] 24 (0, 0)) (by (with_reducible repeat (first | refine blk_drewN ?_ _ | refine blk_drew ?_ | refine blk_alloc ?_ _)); exact BK249.out) hb); have n4_ := Aside0.mk (blk_below (g := gb263) (o := .cells #[.string t256, .string t257, .int .i64 t258, .slice Ao81 t259.length co81] 24 (0, 0)) (by (with_reducible repeat (first | refine blk_drewN ?_ _ | refine blk_drew ?_ | refine blk_alloc ?_ _)); exact BK263.out) hb); have n5_ := Aside0.mk (below_step (by repeat (first | (with_reducible first | exact HB.out | apply below_alloc | apply pw_below_drewN | apply below_drew1 | refine below_set ?_ GE249.out | refine below_set ?_ GE263.out) | exact HB.out)) hb); clear HO_250003; clear HO255; clear HO261; clear BK249; clear BK263; clear HB; have HO_250003 := n0_; have HO255 := n1_; have HO261 := n2_; have BK249 := n3_; have BK263 := n4_; have HB := n5_; clear n0_ n1_ n2_ n3_ n4_ n5_; (try clear hb); (try clear hb2); (try clear hk); (try clear hi)))
               go_ret
               exact ⟨by first | rfl | (simp [errW_none, errW_some] <;> rfl) | (simp [*, errW_none, errW_some] <;> rfl), by repeat (first | (with_reducible first | exact HB.out | apply below_alloc | apply pw_below_drewN | apply below_drew1 | refine below_set ?_ GE249.out | refine below_set ?_ GE263.out) | exact HB.out)⟩
             ·replace c35 := Bool.eq_false_iff.mpr c35
              subst c35
              have H1 : (some false) = some r := by rw [if_neg (show ¬ (false = true) by decide)] at H; exact H
              clear H
              have H := H1
              clear H1
              obtain rfl := Option.some.inj H
              try go_wp2_with (first | ((with_reducible refine gate_callee (f := 45) rfl ?_); refine goesL_ (some 32) rfl rfl Tryd.func45 (by kernel_rfl) rfl #[.int .i64 a2] rfl (by (try simp only [List.map_toArray, List.map_cons, List.map_nil]); first | done | rfl | (simp only [List.length_drop, List.length_take]; rfl)) ?_; (with_reducible refine (ostiarylaw13_blanks.calls kj6 a2 t251 _ A21.out).mono ?_); rintro e w' ⟨rfl, ⟨nd, rfl⟩⟩; refine ⟨_, rfl, ?_⟩; (try (rw [drewN_self wc]; generalize hq_ : World.drewN wc _ = wc; have n0_ : Aside0 (Kd.R k67 67 wc w.heap.size (fun _ => True) (.slice Ao12 t246.length co12) t246) := ⟨by rw [← hq_]; exact (by (with_reducible repeat (first | apply Kd.R_alloc | apply Kd.R_drewN | apply Kd.R_drew)); exact HO_250003.out)⟩; have n1_ : Aside0 (wc.heap[gb249]? = some (.cells #[.string t243, .string t244, .int .i64 t245, .slice Ao12 t246.length co12] 24 (0, 0))) := ⟨by rw [← hq_]; exact (by (with_reducible repeat (first | refine blk_drewN ?_ _ | refine blk_drew ?_ | refine blk_alloc ?_ _)); exact BK249.out)⟩; have n2_ : Aside0 (Below w.heap.size w wc) := ⟨by rw [← hq_]; exact (by repeat (first | (with_reducible first | exact HB.out | apply below_alloc | apply pw_below_drewN | apply below_drew1 | refine below_set ?_ GE249.out) | exact HB.out))⟩; clear HO_250003 BK249 HB hq_; have HO_250003 := n0_; have BK249 := n1_; have HB := n2_; clear n0_ n1_ n2_))) | ((with_reducible refine gate_callee (f := 45) rfl ?_); refine goesL_ (some 37) rfl rfl Tryd.func45 (by kernel_rfl) rfl #[.int .i64 a3] rfl (by (try simp only [List.map_toArray, List.map_cons, List.map_nil]); first | done | rfl | (simp only [List.length_drop, List.length_take]; rfl)) ?_; (with_reducible refine (ostiarylaw13_blanks.calls kj6 a3 t252 _ A24.out).mono ?_); rintro e w' ⟨rfl, ⟨nd, rfl⟩⟩; refine ⟨_, rfl, ?_⟩; (try (rw [drewN_self wc]; generalize hq_ : World.drewN wc _ = wc; have n0_ : Aside0 (Kd.R k67 67 wc w.heap.size (fun _ => True) (.slice Ao12 t246.length co12) t246) := ⟨by rw [← hq_]; exact (by (with_reducible repeat (first | apply Kd.R_alloc | apply Kd.R_drewN | apply Kd.R_drew)); exact HO_250003.out)⟩; have n1_ : Aside0 (wc.heap[gb249]? = some (.cells #[.string t243, .string t244, .int .i64 t245, .slice Ao12 t246.length co12] 24 (0, 0))) := ⟨by rw [← hq_]; exact (by (with_reducible repeat (first | refine blk_drewN ?_ _ | refine blk_drew ?_ | refine blk_alloc ?_ _)); exact BK249.out)⟩; have n2_ : Aside0 (Below w.heap.size w wc) := ⟨by rw [← hq_]; exact (by repeat (first | (with_reducible first | exact HB.out | apply below_alloc | apply pw_below_drewN | apply below_drew1 | refine below_set ?_ GE249.out) | exact HB.out))⟩; clear HO_250003 BK249 HB hq_; have HO_250003 := n0_; have BK249 := n1_; have HB := n2_; clear n0_ n1_ n2_))) | ((with_reducible refine gate_dst (N := 43) rfl ?_); (try (refine gate_guard (by rfl) ?_; dsimp only)); refine V_ofstr _ 5 rfl (N := 43) rfl 9 25 _ rfl (((⟨#[71, 69, 84, 32, 47, 97, 32, 72, 84, 84, 80, 47, 49, 46, 48, 13, 10]⟩ : ByteArray) ++ ((((a0 ++ (⟨#[58]⟩ : ByteArray)) ++ t251) ++ a1) ++ t252)) ++ (⟨#[13, 10, 13, 10]⟩ : ByteArray)) rfl Tryd.underlying9 Tryd.underlying25 Tryd.underlying5 (ok := fun k_ => wc.heap.size ≤ k_) (Nat.le_refl _) (Nat.le_trans LMc28.out (by omega)) (Below.refl _ _) (Nat.le_refl _) ?_; intro v254 w89 ho90 hb hg_ hnew_; clear hg_ hnew_; (first | rw [← Ny253.out] at ho90 | (simp only [Int.reduceToNat] at ho90; rw [← Ny253.out] at ho90)); have n0_ := Aside0.mk (Kd.R_below (by (with_reducible repeat (first | apply Kd.R_alloc | apply Kd.R_drewN | apply Kd.R_drew)); exact HO_250003.out) hb); have n1_ := Aside0.mk (Kd.V_lower (Kd.V_mono (ok' := fun k_ => some k_ ≠ (.slice Ao12 t246.length co12 : Value).ownBlock ∧ k_ ≠ gb249) ho90 (fun k_ hk_ => ⟨(Kd.fresh' (Kd.R_lt (by (with_reducible repeat (first | apply Kd.R_alloc | apply Kd.R_drewN | apply Kd.R_drew)); exact HO_250003.out)) k_ hk_), (Kd.freshB (g := gb249) (o := .cells #[.string t243, .string t244, .int .i64 t245, .slice Ao12 t246.length co12] 24 (0, 0)) (by (with_reducible repeat (first | refine blk_drewN ?_ _ | refine blk_drew ?_ | refine blk_alloc ?_ _)); exact BK249.out) k_ hk_)⟩)) (below_size (by repeat (first | (with_reducible first | exact HB.out | apply below_alloc | apply pw_below_drewN | apply below_drew1 | refine below_set ?_ GE249.out) | exact HB.out)))); have n2_ := Aside0.mk (blk_below (g := gb249) (o := .cells #[.string t243, .string t244, .int .i64 t245, .slice Ao12 t246.length co12] 24 (0, 0)) (by (with_reducible repeat (first | refine blk_drewN ?_ _ | refine blk_drew ?_ | refine blk_alloc ?_ _)); exact BK249.out) hb); have n3_ := Aside0.mk (below_step (by repeat (first | (with_reducible first | exact HB.out | apply below_alloc | apply pw_below_drewN | apply below_drew1 | refine below_set ?_ GE249.out) | exact HB.out)) hb); clear HO_250003; clear BK249; clear HB; have HO_250003 := n0_; have HO255 := n1_; have BK249 := n2_; have HB := n3_; clear n0_ n1_ n2_ n3_; clear hb ho90; obtain ⟨Ao91, co91, eo91⟩ := Kd.V_slice HO255.out; subst eo91) | ((with_reducible refine gate_callee (f := 41) rfl ?_); refine goesL_ (some 44) rfl rfl Tryd.func41 (by kernel_rfl) rfl #[.slice Ao91 y253.length co91] rfl (by (try simp only [List.map_toArray, List.map_cons, List.map_nil]); first | done | rfl | (simp only [List.length_drop, List.length_take]; rfl)) ?_; (with_reducible refine (head_Parse.calls kj6 _ _ y253 t256 t257 t258 t259 t262 _ ?side1 ?side2 ?side3 A29.out).mono ?_); (case side1 => repeat (first | exact (Kd.V_reads' HO255.out).2.2 | (with_reducible refine Kd.C_alloc ?_ _) | (with_reducible refine Kd.C_drewN ?_ _) | (with_reducible refine Kd.C_drew ?_))); (case side2 => exact (Kd.V_reads' HO255.out).2.1); (case side3 => exact GG_step HGG.out (by decide) (by repeat (first | (with_reducible first | exact HB.out | apply below_alloc | apply pw_below_drewN | apply below_drew1 | refine below_set ?_ GE249.out) | exact HB.out))); rintro e w92 ⟨v260, rfl, ho0, hb⟩; refine ⟨_, rfl, ?_⟩; have n0_ := Aside0.mk (Kd.R_elder' (by (with_reducible repeat (first | apply Kd.R_alloc | apply Kd.R_drewN | apply Kd.R_drew)); exact HO_250003.out) (Kd.R_base ho0) hb); have n1_ := Aside0.mk (Kd.V_elder' (by (with_reducible repeat (first | apply Kd.V_alloc | apply Kd.V_drewN | apply Kd.V_drew)); exact HO255.out) (Kd.R_base ho0) hb); have n2_ := Aside0.mk (Kd.R_lower (Kd.R_new' ho0 (Kd.R_lt (by (with_reducible repeat (first | apply Kd.R_alloc | apply Kd.R_drewN | apply Kd.R_drew)); exact HO_250003.out))) (below_size (by repeat (first | (with_reducible first | exact HB.out | apply below_alloc | apply pw_below_drewN | apply below_drew1 | refine below_set ?_ GE249.out) | exact HB.out)))); have n3_ := Aside0.mk (blk_below (g := gb249) (o := .cells #[.string t243, .string t244, .int .i64 t245, .slice Ao12 t246.length co12] 24 (0, 0)) (by (with_reducible repeat (first | refine blk_drewN ?_ _ | refine blk_drew ?_ | refine blk_alloc ?_ _)); exact BK249.out) hb); have n4_ := Aside0.mk (below_step (by repeat (first | (with_reducible first | exact HB.out | apply below_alloc | apply pw_below_drewN | apply below_drew1 | refine below_set ?_ GE249.out) | exact HB.out)) hb); clear HO_250003; clear HO255; clear BK249; clear HB; have HO_250003 := n0_; have HO255 := n1_; have HO261 := n2_; have BK249 := n3_; have HB := n4_; clear n0_ n1_ n2_ n3_ n4_; (try clear hb); (try clear hb2); (try clear hk); (try clear hi); (try clear ho0)) | ((with_reducible refine gate_dst (N := 12) rfl ?_); (try (refine gate_guard (by rfl) ?_; dsimp only)); refine box_event ?hg (N := 12) ?hd (cs := #[.string (⟨#[]⟩ : ByteArray), .string (⟨#[]⟩ : ByteArray), .int .i64 0, .slice none 0 0]) (t := 24) ?hr ?_; (case hd => rfl); (case hg => rfl); (case hr => first | (go_simp; done) | (go_simp; rfl)); intro gb263 hg w93 hbox hb; have n0_ := Aside0.mk (Kd.R_below (by (with_reducible repeat (first | apply Kd.R_alloc | apply Kd.R_drewN | apply Kd.R_drew)); exact HO_250003.out) hb); have n1_ := Aside0.mk (Kd.V_below (Kd.V_elderB (by (with_reducible repeat (first | apply Kd.V_alloc | apply Kd.V_drewN | apply Kd.V_drew)); exact HO255.out) gb263 (Nat.le_of_eq hg.symm)) hb); have n2_ := Aside0.mk (Kd.R_below (by (with_reducible repeat (first | apply Kd.R_alloc | apply Kd.R_drewN | apply Kd.R_drew)); exact HO261.out) hb); have n3_ := Aside0.mk (blk_below (g := gb249) (o := .cells #[.string t243, .string t244, .int .i64 t245, .slice Ao12 t246.length co12] 24 (0, 0)) (by (with_reducible repeat (first | refine blk_drewN ?_ _ | refine blk_drew ?_ | refine blk_alloc ?_ _)); exact BK249.out) hb); have n4_ := Aside0.mk (below_step (by repeat (first | (with_reducible first | exact HB.out | apply below_alloc | apply pw_below_drewN | apply below_drew1 | refine below_set ?_ GE249.out) | exact HB.out)) hb); have n5_ := Aside0.mk (hbox); have n6_ := Aside0.mk ((by rw [hg]; exact (below_size (by repeat (first | (with_reducible first | exact HB.out | apply below_alloc | apply pw_below_drewN | apply below_drew1 | refine below_set ?_ GE249.out) | exact HB.out))) : w.heap.size ≤ gb263)); have n7_ := Aside0.mk ((by rw [hg]; exact (below_size (by repeat (first | (with_reducible first | exact HB.out | apply below_alloc | apply pw_below_drewN | apply below_drew1 | refine below_set ?_ GE249.out) | exact HB.out))) : w.heap.size ≤ gb263)); have n8_ := Aside0.mk ((by rw [hg]; exact Nat.ne_of_lt (blk_lt (g := gb249) (o := .cells #[.string t243, .string t244, .int .i64 t245, .slice Ao12 t246.length co12] 24 (0, 0)) (by (with_reducible repeat (first | refine blk_drewN ?_ _ | refine blk_drew ?_ | refine blk_alloc ?_ _)); exact BK249.out)) : gb249 ≠ gb263)); have n9_ := Aside0.mk ((by rw [hg]; exact Nat.ne_of_gt (blk_lt (g := gb249) (o := .cells #[.string t243, .string t244, .int .i64 t245, .slice Ao12 t246.length co12] 24 (0, 0)) (by (with_reducible repeat (first | refine blk_drewN ?_ _ | refine blk_drew ?_ | refine blk_alloc ?_ _)); exact BK249.out)) : gb263 ≠ gb249)); clear HO_250003; clear HO255; clear HO261; clear BK249; clear HB; have HO_250003 := n0_; have HO255 := n1_; have HO261 := n2_; have BK249 := n3_; have HB := n4_; have BK263 := n5_; have GW263 := n6_; have GE263 := n7_; have NB249_263 := n8_; have NB263_249 := n9_; clear n0_ n1_ n2_ n3_ n4_ n5_ n6_ n7_ n8_ n9_; clear hb hbox hg; have hnb94 := NB263_249.out; have hnc94 := NB249_263.out; have hcz95_0 : w93.cell? ⟨gb263, 0, none⟩ = some (.string (⟨#[]⟩ : ByteArray)) := (blk_cell BK263.out 0).trans rfl; have hcz95_1 : w93.cell? ⟨gb263, 1, none⟩ = some (.string (⟨#[]⟩ : ByteArray)) := (blk_cell BK263.out 1).trans rfl; have hcz95_2 : w93.cell? ⟨gb263, 2, none⟩ = some (.int .i64 0) := (blk_cell BK263.out 2).trans rfl; have hcz95_3 : w93.cell? ⟨gb263, 3, none⟩ = some (.slice none 0 0) := (blk_cell BK263.out 3).trans rfl; have hfz95_0 := blk_frozen BK263.out 0; have hfz95_1 := blk_frozen BK263.out 1; have hfz95_2 := blk_frozen BK263.out 2; have hfz95_3 := blk_frozen BK263.out 3; obtain ⟨Ao96, co96, eo96⟩ := Kd.R_slice HO261.out; subst eo96))
              have n0_ : Aside0 (Kd.R k67 67 ((((w93.setCell ⟨gb263, 0, none⟩ (.string t256)).setCell ⟨gb263, 1, none⟩ (.string t257)).setCell ⟨gb263, 2, none⟩ (.int .i64 t258)).setCell ⟨gb263, 3, none⟩ (.slice Ao96 t259.length co96)) w.heap.size (fun k_ => some k_ ≠ (.slice Ao96 t259.length co96 : Value).ownBlock) (.slice Ao12 t246.length co12) t246) := ⟨by (with_reducible repeat (first | apply Kd.R_alloc | apply Kd.R_drewN | apply Kd.R_drew)); exact Kd.R_mono (Kd.R_far (p := ⟨gb263, 3, none⟩) (Kd.R_far (p := ⟨gb263, 2, none⟩) (Kd.R_far (p := ⟨gb263, 1, none⟩) (Kd.R_far (p := ⟨gb263, 0, none⟩) (Kd.R_types HO_250003.out BK263.out (by decide)) (fun _ hk => hk.2) (.string t256)) (fun _ hk => hk.2) (.string t257)) (fun _ hk => hk.2) (.int .i64 t258)) (fun _ hk => hk.2) (.slice Ao96 t259.length co96)) (fun _ hk => hk.1.2)⟩
              have n1_ : Aside0 (Kd.V (Kd.int .u8) 5 ((((w93.setCell ⟨gb263, 0, none⟩ (.string t256)).setCell ⟨gb263, 1, none⟩ (.string t257)).setCell ⟨gb263, 2, none⟩ (.int .i64 t258)).setCell ⟨gb263, 3, none⟩ (.slice Ao96 t259.length co96)) w.heap.size (fun k_ => some k_ ≠ (.slice Ao12 t246.length co12 : Value).ownBlock ∧ some k_ ≠ (.slice Ao96 t259.length co96 : Value).ownBlock ∧ k_ ≠ gb249 ∧ k_ ≠ gb263) (.slice Ao91 y253.length co91) y253) := ⟨by (with_reducible repeat (first | apply Kd.V_alloc | apply Kd.V_drewN | apply Kd.V_drew)); exact Kd.V_mono (Kd.V_far (p := ⟨gb263, 3, none⟩) (Kd.V_far (p := ⟨gb263, 2, none⟩) (Kd.V_far (p := ⟨gb263, 1, none⟩) (Kd.V_far (p := ⟨gb263, 0, none⟩) (Kd.V_mono HO255.out (fun k_ hk => (⟨hk, hk.2⟩ : _ ∧ k_ ≠ gb263))) (fun _ hk => hk.2) (.string t256)) (fun _ hk => hk.2) (.string t257)) (fun _ hk => hk.2) (.int .i64 t258)) (fun _ hk => hk.2) (.slice Ao96 t259.length co96)) (fun _ hk => ⟨hk.1.1.1.1, ⟨hk.1.1.2, ⟨hk.1.1.1.2, hk.1.2⟩⟩⟩)⟩
              have n2_ : Aside0 (Kd.R k67 67 ((((w93.setCell ⟨gb263, 0, none⟩ (.string t256)).setCell ⟨gb263, 1, none⟩ (.string t257)).setCell ⟨gb263, 2, none⟩ (.int .i64 t258)).setCell ⟨gb263, 3, none⟩ (.slice Ao96 t259.length co96)) w.heap.size (fun k_ => some k_ ≠ (.slice Ao12 t246.length co12 : Value).ownBlock) (.slice Ao96 t259.length co96) t259) := ⟨by (with_reducible repeat (first | apply Kd.R_alloc | apply Kd.R_drewN | apply Kd.R_drew)); exact Kd.R_mono (Kd.R_far (p := ⟨gb263, 3, none⟩) (Kd.R_far (p := ⟨gb263, 2, none⟩) (Kd.R_far (p := ⟨gb263, 1, none⟩) (Kd.R_far (p := ⟨gb263, 0, none⟩) (Kd.R_types HO261.out BK263.out (by decide)) (fun _ hk => hk.2) (.string t256)) (fun _ hk => hk.2) (.string t257)) (fun _ hk => hk.2) (.int .i64 t258)) (fun _ hk => hk.2) (.slice Ao96 t259.length co96)) (fun _ hk => hk.1.2)⟩
              have n3_ : Aside0 (((((w93.setCell ⟨gb263, 0, none⟩ (.string t256)).setCell ⟨gb263, 1, none⟩ (.string t257)).setCell ⟨gb263, 2, none⟩ (.int .i64 t258)).setCell ⟨gb263, 3, none⟩ (.slice Ao96 t259.length co96)).heap[gb249]? = some (.cells #[.string t243, .string t244, .int .i64 t245, .slice Ao12 t246.length co12] 24 (0, 0))) := ⟨by (with_reducible repeat (first | refine blk_drewN ?_ _ | refine blk_drew ?_ | refine blk_alloc ?_ _)); refine blk_far ?_ NB249_263.out _; (with_reducible repeat (first | refine blk_drewN ?_ _ | refine blk_drew ?_ | refine blk_alloc ?_ _)); refine blk_far ?_ NB249_263.out _; (with_reducible repeat (first | refine blk_drewN ?_ _ | refine blk_drew ?_ | refine blk_alloc ?_ _)); refine blk_far ?_ NB249_263.out _; (with_reducible repeat (first | refine blk_drewN ?_ _ | refine blk_drew ?_ | refine blk_alloc ?_ _)); refine blk_far ?_ NB249_263.out _; (with_reducible repeat (first | refine blk_drewN ?_ _ | refine blk_drew ?_ | refine blk_alloc ?_ _)); exact BK249.out⟩
              have n4_ : Aside0 (((((w93.setCell ⟨gb263, 0, none⟩ (.string t256)).setCell ⟨gb263, 1, none⟩ (.string t257)).setCell ⟨gb263, 2, none⟩ (.int .i64 t258)).setCell ⟨gb263, 3, none⟩ (.slice Ao96 t259.length co96)).heap[gb263]? = some (.cells #[.string t256, .string t257, .int .i64 t258, .slice Ao96 t259.length co96] 24 (0, 0))) := ⟨by (with_reducible repeat (first | refine blk_drewN ?_ _ | refine blk_drew ?_ | refine blk_alloc ?_ _)); refine blk_put (cs := #[.string t256, .string t257, .int .i64 t258, .slice none 0 0]) ?_ 3 _ rfl; (with_reducible repeat (first | refine blk_drewN ?_ _ | refine blk_drew ?_ | refine blk_alloc ?_ _)); refine blk_put (cs := #[.string t256, .string t257, .int .i64 0, .slice none 0 0]) ?_ 2 _ rfl; (with_reducible repeat (first | refine blk_drewN ?_ _ | refine blk_drew ?_ | refine blk_alloc ?_ _)); refine blk_put (cs := #[.string t256, .string (⟨#[]⟩ : ByteArray), .int .i64 0, .slice none 0 0]) ?_ 1 _ rfl; (with_reducible repeat (first | refine blk_drewN ?_ _ | refine blk_drew ?_ | refine blk_alloc ?_ _)); refine blk_put (cs := #[.string (⟨#[]⟩ : ByteArray), .string (⟨#[]⟩ : ByteArray), .int .i64 0, .slice none 0 0]) ?_ 0 _ rfl; (with_reducible repeat (first | refine blk_drewN ?_ _ | refine blk_drew ?_ | refine blk_alloc ?_ _)); exact BK263.out⟩
              have n5_ : Aside0 (Below w.heap.size w ((((w93.setCell ⟨gb263, 0, none⟩ (.string t256)).setCell ⟨gb263, 1, none⟩ (.string t257)).setCell ⟨gb263, 2, none⟩ (.int .i64 t258)).setCell ⟨gb263, 3, none⟩ (.slice Ao96 t259.length co96))) := ⟨by repeat (first | (with_reducible first | exact HB.out | apply below_alloc | apply pw_below_drewN | apply below_drew1 | refine below_set ?_ GE249.out | refine below_set ?_ GE263.out) | exact HB.out)⟩
              (try clear HO_250003)
              (try clear HO255)
              (try clear HO261)
              (try clear BK249)
              (try clear BK263)
              (try clear HB)
              generalize ((((w93.setCell ⟨gb263, 0, none⟩ (.string t256)).setCell ⟨gb263, 1, none⟩ (.string t257)).setCell ⟨gb263, 2, none⟩ (.int .i64 t258)).setCell ⟨gb263, 3, none⟩ (.slice Ao96 t259.length co96)) = w97 at n0_ n1_ n2_ n3_ n4_ n5_ ⊢
              have HO_250003 := n0_
              have HO255 := n1_
              have HO261 := n2_
              have BK249 := n3_
              have BK263 := n4_
              have HB := n5_
              clear n0_ n1_ n2_ n3_ n4_ n5_
              have n0_ := Aside0.mk (Kd.R_drew HO_250003.out)
              have n1_ := Aside0.mk (Kd.V_drew HO255.out)
              have n2_ := Aside0.mk (Kd.R_drew HO261.out)
              have n3_ := Aside0.mk (blk_drew BK249.out)
              have n4_ := Aside0.mk (blk_drew BK263.out)
              have n5_ := Aside0.mk (below_drew1 HB.out)
              clear HO_250003
              clear HO255
              clear HO261
              clear BK249
              clear BK263
              clear HB
              have HO_250003 := n0_
              have HO255 := n1_
              have HO261 := n2_
              have BK249 := n3_
              have BK263 := n4_
              have HB := n5_
              clear n0_ n1_ n2_ n3_ n4_ n5_
              refine start_ (n := 9) (S := fun w' => w'.cell? ⟨gb263, 0, none⟩ = some (.string t256) ∧ w'.cell? ⟨gb263, 1, none⟩ = some (.string t257) ∧ w'.cell? ⟨gb263, 2, none⟩ = some (.int .i64 t258) ∧ w'.cell? ⟨gb263, 3, none⟩ = some (.slice Ao96 t259.length co96)) (ds := []) #[false, false, false, false, false, false, false, false, false] (by kernel_rfl) rfl rfl ⟨(blk_cell BK263.out 0).trans rfl, (blk_cell BK263.out 1).trans rfl, (blk_cell BK263.out 2).trans rfl, (blk_cell BK263.out 3).trans rfl⟩ (fun hHeld => ?_); refine with_tabW ostiarylaw13_HeadBlanks.tab7 ostiarylaw13_HeadBlanks.bits7 (fun HT_ HW_ => ?_)
              generalize w97.drew = w98 at HO_250003 HO255 HO261 BK249 BK263 HB hHeld ⊢
              refine pure_ (i := 1) (N := some 49) (v := ?_) (a' := ?_) #[false, true, false, false, false, false, false, false, false] rfl rfl (any_of HT_.out (by kernel_rfl)) (fun _ _ _ h => h) (Or.inl ⟨by rfl, ?_⟩) ?_ ?_
              rotate_left
              ·intro w'
               go_simp
               with_reducible rfl
              rotate_left
              ·simp only [Act.put, List.setIfInBounds_toArray, List.set_cons_zero, List.set_cons_succ, i64_w, i32_w]
               rfl
              refine take_ (i := 0) (N := some 48) (v := ?_) (a' := ?_) #[true, true, false, false, false, false, false, false, false] rfl rfl (take_ofW HT_.out HW_.out (by kernel_rfl)) (fun _ _ _ h => h) (Or.inl ⟨by rfl, ?_⟩) hHeld ?_ ?_
              rotate_left
              ·rintro w' ⟨s0, s1, s2, s3⟩
               go_simp
               with_reducible rfl
              rotate_left
              ·simp only [Act.put, List.setIfInBounds_toArray, List.set_cons_zero, List.set_cons_succ, i64_w, i32_w]
               rfl
              refine one_ (i := 2) (N := some 50) #[true, true, true, false, false, false, false, false, false] rfl rfl (one_of HT_.out (by kernel_rfl)) (by decide) (fun K hK => ?_)
              refine goes_ Tryd.func47 (by kernel_rfl) rfl #[.string a0] (by rfl) rfl rfl (by (try simp only [List.map_toArray, List.map_cons, List.map_nil]); first | done | rfl | (simp only [List.length_drop, List.length_take]; rfl)) ?_
              with_reducible refine (ostiarylaw13_turned.calls a0 t264 _ A30.out).mono ?_
              rintro e w99 ⟨rfl, hb⟩
              refine ⟨_, rfl, ?_⟩
              have n0_ := Aside0.mk (Kd.R_below (by (with_reducible repeat (first | apply Kd.R_alloc | apply Kd.R_drewN | apply Kd.R_drew)); exact HO_250003.out) hb)
              have n1_ := Aside0.mk (Kd.V_below (by (with_reducible repeat (first | apply Kd.V_alloc | apply Kd.V_drewN | apply Kd.V_drew)); exact HO255.out) hb)
              have n2_ := Aside0.mk (Kd.R_below (by (with_reducible repeat (first | apply Kd.R_alloc | apply Kd.R_drewN | apply Kd.R_drew)); exact HO261.out) hb)
              have n3_ := Aside0.mk (blk_below (g := gb249) (o := .cells #[.string t243, .string t244, .int .i64 t245, .slice Ao12 t246.length co12] 24 (0, 0)) (by (with_reducible repeat (first | refine blk_drewN ?_ _ | refine blk_drew ?_ | refine blk_alloc ?_ _)); exact BK249.out) hb)
              have n4_ := Aside0.mk (blk_below (g := gb263) (o := .cells #[.string t256, .string t257, .int .i64 t258, .slice Ao96 t259.length co96] 24 (0, 0)) (by (with_reducible repeat (first | refine blk_drewN ?_ _ | refine blk_drew ?_ | refine blk_alloc ?_ _)); exact BK263.out) hb)
              have n5_ := Aside0.mk (below_step (by repeat (first | (with_reducible first | exact HB.out | apply below_alloc | apply pw_below_drewN | apply below_drew1 | refine below_set ?_ GE249.out | refine below_set ?_ GE263.out) | exact HB.out)) hb)
              clear HO_250003
              clear HO255
              clear HO261
              clear BK249
              clear BK263
              clear HB
              have HO_250003 := n0_
              have HO255 := n1_
              have HO261 := n2_
              have BK249 := n3_
              have BK263 := n4_
              have HB := n5_
              clear n0_ n1_ n2_ n3_ n4_ n5_
              (try clear hb)
              (try clear hb2)
              (try clear hk)
              (try clear hi)
              refine hK.out _ _ ⟨(blk_cell BK263.out 0).trans rfl, (blk_cell BK263.out 1).trans rfl, (blk_cell BK263.out 2).trans rfl, (blk_cell BK263.out 3).trans rfl⟩ (fun hHeld => ?_)
              clear hK K
              refine norm_ (a' := ?_) ?_ ?_
              rotate_left
              ·show Act.put _ (some 50) _ = _
               simp only [Act.put, List.setIfInBounds_toArray, List.set_cons_zero, List.set_cons_succ, i64_w, i32_w]
               rfl
              refine one_ (i := 3) (N := some 51) #[true, true, true, true, false, false, false, false, false] rfl rfl (one_of HT_.out (by kernel_rfl)) (by decide) (fun K hK => ?_)
              refine goes_ Tryd.func46 (by kernel_rfl) rfl #[.agg #[.string t256, .string t257, .int .i64 t258, .slice Ao96 t259.length co96], .string t264] (by rfl) rfl rfl (by (try simp only [List.map_toArray, List.map_cons, List.map_nil]); first | done | rfl | (simp only [List.length_drop, List.length_take]; rfl)) ?_
              with_reducible refine (head_Field.calls kj6 t256 t257 t258 _ _ t259 t264 t265 t266 _ ?side1 ?side2 A31.out).mono ?_
              (case side1 => repeat (first | exact (Kd.R_reads' HO261.out).2.2 | (with_reducible refine Kd.C_alloc ?_ _) | (with_reducible refine Kd.C_drewN ?_ _) | (with_reducible refine Kd.C_drew ?_)))
              (case side2 => exact (Kd.R_reads' HO261.out).2.1)
              rintro e w100 ⟨rfl, hb⟩
              refine ⟨_, rfl, ?_⟩
              have n0_ := Aside0.mk (Kd.R_below (by (with_reducible repeat (first | apply Kd.R_alloc | apply Kd.R_drewN | apply Kd.R_drew)); exact HO_250003.out) hb)
              have n1_ := Aside0.mk (Kd.V_below (by (with_reducible repeat (first | apply Kd.V_alloc | apply Kd.V_drewN | apply Kd.V_drew)); exact HO255.out) hb)
              have n2_ := Aside0.mk (Kd.R_below (by (with_reducible repeat (first | apply Kd.R_alloc | apply Kd.R_drewN | apply Kd.R_drew)); exact HO261.out) hb)
              have n3_ := Aside0.mk (blk_below (g := gb249) (o := .cells #[.string t243, .string t244, .int .i64 t245, .slice Ao12 t246.length co12] 24 (0, 0)) (by (with_reducible repeat (first | refine blk_drewN ?_ _ | refine blk_drew ?_ | refine blk_alloc ?_ _)); exact BK249.out) hb)
              have n4_ := Aside0.mk (blk_below (g := gb263) (o := .cells #[.string t256, .string t257, .int .i64 t258, .slice Ao96 t259.length co96] 24 (0, 0)) (by (with_reducible repeat (first | refine blk_drewN ?_ _ | refine blk_drew ?_ | refine blk_alloc ?_ _)); exact BK263.out) hb)
              have n5_ := Aside0.mk (below_step (by repeat (first | (with_reducible first | exact HB.out | apply below_alloc | apply pw_below_drewN | apply below_drew1 | refine below_set ?_ GE249.out | refine below_set ?_ GE263.out) | exact HB.out)) hb)
              clear HO_250003
              clear HO255
              clear HO261
              clear BK249
              clear BK263
              clear HB
              have HO_250003 := n0_
              have HO255 := n1_
              have HO261 := n2_
              have BK249 := n3_
              have BK263 := n4_
              have HB := n5_
              clear n0_ n1_ n2_ n3_ n4_ n5_
              (try clear hb)
              (try clear hb2)
              (try clear hk)
              (try clear hi)
              refine hK.out _ _ ⟨(blk_cell BK263.out 0).trans rfl, (blk_cell BK263.out 1).trans rfl, (blk_cell BK263.out 2).trans rfl, (blk_cell BK263.out 3).trans rfl⟩ (fun hHeld => ?_)
              clear hK K
              refine norm_ (a' := ?_) ?_ ?_
              rotate_left
              ·show Act.put _ (some 51) _ = _
               simp only [Act.put, List.setIfInBounds_toArray, List.set_cons_zero, List.set_cons_succ, i64_w, i32_w]
               rfl
              refine pure_ (i := 4) (N := some 47) (v := ?_) (a' := ?_) #[true, true, true, true, true, false, false, false, false] rfl rfl (any_of HT_.out (by kernel_rfl)) (fun _ _ _ h => h) (Or.inl ⟨by rfl, ?_⟩) ?_ ?_
              rotate_left
              ·intro w'
               go_simp
               with_reducible rfl
              rotate_left
              ·simp only [Act.put, List.setIfInBounds_toArray, List.set_cons_zero, List.set_cons_succ, i64_w, i32_w]
               rfl
              refine pure_ (i := 5) (N := some 52) (v := ?_) (a' := ?_) #[true, true, true, true, true, true, false, false, false] rfl rfl (any_of HT_.out (by kernel_rfl)) (fun _ _ _ h => h) (Or.inl ⟨by rfl, ?_⟩) ?_ ?_
              rotate_left
              ·intro w'
               go_simp
               with_reducible rfl
              rotate_left
              ·simp only [Act.put, List.setIfInBounds_toArray, List.set_cons_zero, List.set_cons_succ, i64_w, i32_w]
               rfl
              refine pure_ (i := 6) (N := some 53) (v := ?_) (a' := ?_) #[true, true, true, true, true, true, true, false, false] rfl rfl (any_of HT_.out (by kernel_rfl)) (fun _ _ _ h => h) (Or.inl ⟨by rfl, ?_⟩) ?_ ?_
              rotate_left
              ·intro w'
               go_simp
               with_reducible rfl
              rotate_left
              ·simp only [Act.put, List.setIfInBounds_toArray, List.set_cons_zero, List.set_cons_succ, i64_w, i32_w]
               rfl
              refine pure_ (i := 7) (N := some 14) (v := ?_) (a' := ?_) #[true, true, true, true, true, true, true, true, false] rfl rfl (any_of HT_.out (by kernel_rfl)) (fun _ _ _ h => h) (Or.inl ⟨by rfl, ?_⟩) ?_ ?_
              rotate_left
              ·intro w'
               go_simp
               with_reducible rfl
              rotate_left
              ·simp only [Act.put, List.setIfInBounds_toArray, List.set_cons_zero, List.set_cons_succ, i64_w, i32_w]
               rfl
              refine pure_ (i := 8) (N := some 15) (v := ?_) (a' := ?_) #[true, true, true, true, true, true, true, true, true] rfl rfl (any_of HT_.out (by kernel_rfl)) (fun _ _ _ h => h) (Or.inl ⟨by rfl, ?_⟩) ?_ ?_
              rotate_left
              ·intro w'
               go_simp
               with_reducible rfl
              rotate_left
              ·simp only [Act.put, List.setIfInBounds_toArray, List.set_cons_zero, List.set_cons_succ, i64_w, i32_w]
               rfl
              refine done_ (done_of HT_.out (by kernel_rfl)) ?_
              have hcz101_0 : w100.cell? ⟨gb263, 0, none⟩ = some (.string t256) := (blk_cell BK263.out 0).trans rfl
              have hcz101_1 : w100.cell? ⟨gb263, 1, none⟩ = some (.string t257) := (blk_cell BK263.out 1).trans rfl
              have hcz101_2 : w100.cell? ⟨gb263, 2, none⟩ = some (.int .i64 t258) := (blk_cell BK263.out 2).trans rfl
              have hcz101_3 : w100.cell? ⟨gb263, 3, none⟩ = some (.slice Ao96 t259.length co96) := (blk_cell BK263.out 3).trans rfl
              have hfz101_0 := blk_frozen BK263.out 0
              have hfz101_1 := blk_frozen BK263.out 1
              have hfz101_2 := blk_frozen BK263.out 2
              have hfz101_3 := blk_frozen BK263.out 3
              have hcz102_0 : w100.cell? ⟨gb249, 0, none⟩ = some (.string t243) := (blk_cell BK249.out 0).trans rfl
              have hcz102_1 : w100.cell? ⟨gb249, 1, none⟩ = some (.string t244) := (blk_cell BK249.out 1).trans rfl
              have hcz102_2 : w100.cell? ⟨gb249, 2, none⟩ = some (.int .i64 t245) := (blk_cell BK249.out 2).trans rfl
              have hcz102_3 : w100.cell? ⟨gb249, 3, none⟩ = some (.slice Ao12 t246.length co12) := (blk_cell BK249.out 3).trans rfl
              have hfz102_0 := blk_frozen BK249.out 0
              have hfz102_1 := blk_frozen BK249.out 1
              have hfz102_2 := blk_frozen BK249.out 2
              have hfz102_3 := blk_frozen BK249.out 3
              try go_wp2_with (first | (go_at_call 21; (with_reducible refine (ostiarykit_SameHead.calls kj6 t256 t257 t258 _ _ t259 t243 t244 t245 _ _ t246 false _ ?side1 ?side2 ?side3 ?side4 A34.out).mono ?_); (case side1 => repeat (first | exact (Kd.R_reads' HO261.out).2.2 | (with_reducible refine Kd.C_alloc ?_ _) | (with_reducible refine Kd.C_drewN ?_ _) | (with_reducible refine Kd.C_drew ?_))); (case side2 => exact (Kd.R_reads' HO261.out).2.1); (case side3 => repeat (first | exact (Kd.R_reads' HO_250003.out).2.2 | (with_reducible refine Kd.C_alloc ?_ _) | (with_reducible refine Kd.C_drewN ?_ _) | (with_reducible refine Kd.C_drew ?_))); (case side4 => exact (Kd.R_reads' HO_250003.out).2.1); rintro e w103 ⟨rfl, hb⟩; have n0_ := Aside0.mk (Kd.R_below (by (with_reducible repeat (first | apply Kd.R_alloc | apply Kd.R_drewN | apply Kd.R_drew)); exact HO_250003.out) hb); have n1_ := Aside0.mk (Kd.V_below (by (with_reducible repeat (first | apply Kd.V_alloc | apply Kd.V_drewN | apply Kd.V_drew)); exact HO255.out) hb); have n2_ := Aside0.mk (Kd.R_below (by (with_reducible repeat (first | apply Kd.R_alloc | apply Kd.R_drewN | apply Kd.R_drew)); exact HO261.out) hb); have n3_ := Aside0.mk (blk_below (g := gb249) (o := .cells #[.string t243, .string t244, .int .i64 t245, .slice Ao12 t246.length co12] 24 (0, 0)) (by (with_reducible repeat (first | refine blk_drewN ?_ _ | refine blk_drew ?_ | refine blk_alloc ?_ _)); exact BK249.out) hb); have n4_ := Aside0.mk (blk_below (g := gb263) (o := .cells #[.string t256, .string t257, .int .i64 t258, .slice Ao96 t259.length co96] 24 (0, 0)) (by (with_reducible repeat (first | refine blk_drewN ?_ _ | refine blk_drew ?_ | refine blk_alloc ?_ _)); exact BK263.out) hb); have n5_ := Aside0.mk (below_step (by repeat (first | (with_reducible first | exact HB.out | apply below_alloc | apply pw_below_drewN | apply below_drew1 | refine below_set ?_ GE249.out | refine below_set ?_ GE263.out) | exact HB.out)) hb); clear HO_250003; clear HO255; clear HO261; clear BK249; clear BK263; clear HB; have HO_250003 := n0_; have HO255 := n1_; have HO261 := n2_; have BK249 := n3_; have BK263 := n4_; have HB := n5_; clear n0_ n1_ n2_ n3_ n4_ n5_; (try clear hb); (try clear hb2); (try clear hk); (try clear hi)))
              go_ret
              exact ⟨by first | rfl | (simp [errW_none, errW_some] <;> rfl) | (simp [*, errW_none, errW_some] <;> rfl), by repeat (first | (with_reducible first | exact HB.out | apply below_alloc | apply pw_below_drewN | apply below_drew1 | refine below_set ?_ GE249.out | refine below_set ?_ GE263.out) | exact HB.out)⟩
            ·rw [if_neg c33] at H
             have c33b0 : (t262 == 200) = false := beq_eq_false_iff_ne.mpr c33
             have c33b1 : (t262 != 200) = true := bne_iff_ne.mpr c33
             obtain rfl := Option.some.inj H
             try go_wp2_with (first | ((with_reducible refine gate_callee (f := 45) rfl ?_); refine goesL_ (some 32) rfl rfl Tryd.func45 (by kernel_rfl) rfl #[.int .i64 a2] rfl (by (try simp only [List.map_toArray, List.map_cons, List.map_nil]); first | done | rfl | (simp only [List.length_drop, List.length_take]; rfl)) ?_; (with_reducible refine (ostiarylaw13_blanks.calls kj6 a2 t251 _ A21.out).mono ?_); rintro e w' ⟨rfl, ⟨nd, rfl⟩⟩; refine ⟨_, rfl, ?_⟩; (try (rw [drewN_self wc]; generalize hq_ : World.drewN wc _ = wc; have n0_ : Aside0 (Kd.R k67 67 wc w.heap.size (fun _ => True) (.slice Ao12 t246.length co12) t246) := ⟨by rw [← hq_]; exact (by (with_reducible repeat (first | apply Kd.R_alloc | apply Kd.R_drewN | apply Kd.R_drew)); exact HO_250003.out)⟩; have n1_ : Aside0 (wc.heap[gb249]? = some (.cells #[.string t243, .string t244, .int .i64 t245, .slice Ao12 t246.length co12] 24 (0, 0))) := ⟨by rw [← hq_]; exact (by (with_reducible repeat (first | refine blk_drewN ?_ _ | refine blk_drew ?_ | refine blk_alloc ?_ _)); exact BK249.out)⟩; have n2_ : Aside0 (Below w.heap.size w wc) := ⟨by rw [← hq_]; exact (by repeat (first | (with_reducible first | exact HB.out | apply below_alloc | apply pw_below_drewN | apply below_drew1 | refine below_set ?_ GE249.out) | exact HB.out))⟩; clear HO_250003 BK249 HB hq_; have HO_250003 := n0_; have BK249 := n1_; have HB := n2_; clear n0_ n1_ n2_))) | ((with_reducible refine gate_callee (f := 45) rfl ?_); refine goesL_ (some 37) rfl rfl Tryd.func45 (by kernel_rfl) rfl #[.int .i64 a3] rfl (by (try simp only [List.map_toArray, List.map_cons, List.map_nil]); first | done | rfl | (simp only [List.length_drop, List.length_take]; rfl)) ?_; (with_reducible refine (ostiarylaw13_blanks.calls kj6 a3 t252 _ A24.out).mono ?_); rintro e w' ⟨rfl, ⟨nd, rfl⟩⟩; refine ⟨_, rfl, ?_⟩; (try (rw [drewN_self wc]; generalize hq_ : World.drewN wc _ = wc; have n0_ : Aside0 (Kd.R k67 67 wc w.heap.size (fun _ => True) (.slice Ao12 t246.length co12) t246) := ⟨by rw [← hq_]; exact (by (with_reducible repeat (first | apply Kd.R_alloc | apply Kd.R_drewN | apply Kd.R_drew)); exact HO_250003.out)⟩; have n1_ : Aside0 (wc.heap[gb249]? = some (.cells #[.string t243, .string t244, .int .i64 t245, .slice Ao12 t246.length co12] 24 (0, 0))) := ⟨by rw [← hq_]; exact (by (with_reducible repeat (first | refine blk_drewN ?_ _ | refine blk_drew ?_ | refine blk_alloc ?_ _)); exact BK249.out)⟩; have n2_ : Aside0 (Below w.heap.size w wc) := ⟨by rw [← hq_]; exact (by repeat (first | (with_reducible first | exact HB.out | apply below_alloc | apply pw_below_drewN | apply below_drew1 | refine below_set ?_ GE249.out) | exact HB.out))⟩; clear HO_250003 BK249 HB hq_; have HO_250003 := n0_; have BK249 := n1_; have HB := n2_; clear n0_ n1_ n2_))) | ((with_reducible refine gate_dst (N := 43) rfl ?_); (try (refine gate_guard (by rfl) ?_; dsimp only)); refine V_ofstr _ 5 rfl (N := 43) rfl 9 25 _ rfl (((⟨#[71, 69, 84, 32, 47, 97, 32, 72, 84, 84, 80, 47, 49, 46, 48, 13, 10]⟩ : ByteArray) ++ ((((a0 ++ (⟨#[58]⟩ : ByteArray)) ++ t251) ++ a1) ++ t252)) ++ (⟨#[13, 10, 13, 10]⟩ : ByteArray)) rfl Tryd.underlying9 Tryd.underlying25 Tryd.underlying5 (ok := fun k_ => wc.heap.size ≤ k_) (Nat.le_refl _) (Nat.le_trans LMc28.out (by omega)) (Below.refl _ _) (Nat.le_refl _) ?_; intro v254 w104 ho105 hb hg_ hnew_; clear hg_ hnew_; (first | rw [← Ny253.out] at ho105 | (simp only [Int.reduceToNat] at ho105; rw [← Ny253.out] at ho105)); have n0_ := Aside0.mk (Kd.R_below (by (with_reducible repeat (first | apply Kd.R_alloc | apply Kd.R_drewN | apply Kd.R_drew)); exact HO_250003.out) hb); have n1_ := Aside0.mk (Kd.V_lower (Kd.V_mono (ok' := fun k_ => some k_ ≠ (.slice Ao12 t246.length co12 : Value).ownBlock ∧ k_ ≠ gb249) ho105 (fun k_ hk_ => ⟨(Kd.fresh' (Kd.R_lt (by (with_reducible repeat (first | apply Kd.R_alloc | apply Kd.R_drewN | apply Kd.R_drew)); exact HO_250003.out)) k_ hk_), (Kd.freshB (g := gb249) (o := .cells #[.string t243, .string t244, .int .i64 t245, .slice Ao12 t246.length co12] 24 (0, 0)) (by (with_reducible repeat (first | refine blk_drewN ?_ _ | refine blk_drew ?_ | refine blk_alloc ?_ _)); exact BK249.out) k_ hk_)⟩)) (below_size (by repeat (first | (with_reducible first | exact HB.out | apply below_alloc | apply pw_below_drewN | apply below_drew1 | refine below_set ?_ GE249.out) | exact HB.out)))); have n2_ := Aside0.mk (blk_below (g := gb249) (o := .cells #[.string t243, .string t244, .int .i64 t245, .slice Ao12 t246.length co12] 24 (0, 0)) (by (with_reducible repeat (first | refine blk_drewN ?_ _ | refine blk_drew ?_ | refine blk_alloc ?_ _)); exact BK249.out) hb); have n3_ := Aside0.mk (below_step (by repeat (first | (with_reducible first | exact HB.out | apply below_alloc | apply pw_below_drewN | apply below_drew1 | refine below_set ?_ GE249.out) | exact HB.out)) hb); clear HO_250003; clear BK249; clear HB; have HO_250003 := n0_; have HO255 := n1_; have BK249 := n2_; have HB := n3_; clear n0_ n1_ n2_ n3_; clear hb ho105; obtain ⟨Ao106, co106, eo106⟩ := Kd.V_slice HO255.out; subst eo106) | ((with_reducible refine gate_callee (f := 41) rfl ?_); refine goesL_ (some 44) rfl rfl Tryd.func41 (by kernel_rfl) rfl #[.slice Ao106 y253.length co106] rfl (by (try simp only [List.map_toArray, List.map_cons, List.map_nil]); first | done | rfl | (simp only [List.length_drop, List.length_take]; rfl)) ?_; (with_reducible refine (head_Parse.calls kj6 _ _ y253 t256 t257 t258 t259 t262 _ ?side1 ?side2 ?side3 A29.out).mono ?_); (case side1 => repeat (first | exact (Kd.V_reads' HO255.out).2.2 | (with_reducible refine Kd.C_alloc ?_ _) | (with_reducible refine Kd.C_drewN ?_ _) | (with_reducible refine Kd.C_drew ?_))); (case side2 => exact (Kd.V_reads' HO255.out).2.1); (case side3 => exact GG_step HGG.out (by decide) (by repeat (first | (with_reducible first | exact HB.out | apply below_alloc | apply pw_below_drewN | apply below_drew1 | refine below_set ?_ GE249.out) | exact HB.out))); rintro e w107 ⟨v260, rfl, ho0, hb⟩; refine ⟨_, rfl, ?_⟩; have n0_ := Aside0.mk (Kd.R_elder' (by (with_reducible repeat (first | apply Kd.R_alloc | apply Kd.R_drewN | apply Kd.R_drew)); exact HO_250003.out) (Kd.R_base ho0) hb); have n1_ := Aside0.mk (Kd.V_elder' (by (with_reducible repeat (first | apply Kd.V_alloc | apply Kd.V_drewN | apply Kd.V_drew)); exact HO255.out) (Kd.R_base ho0) hb); have n2_ := Aside0.mk (Kd.R_lower (Kd.R_new' ho0 (Kd.R_lt (by (with_reducible repeat (first | apply Kd.R_alloc | apply Kd.R_drewN | apply Kd.R_drew)); exact HO_250003.out))) (below_size (by repeat (first | (with_reducible first | exact HB.out | apply below_alloc | apply pw_below_drewN | apply below_drew1 | refine below_set ?_ GE249.out) | exact HB.out)))); have n3_ := Aside0.mk (blk_below (g := gb249) (o := .cells #[.string t243, .string t244, .int .i64 t245, .slice Ao12 t246.length co12] 24 (0, 0)) (by (with_reducible repeat (first | refine blk_drewN ?_ _ | refine blk_drew ?_ | refine blk_alloc ?_ _)); exact BK249.out) hb); have n4_ := Aside0.mk (below_step (by repeat (first | (with_reducible first | exact HB.out | apply below_alloc | apply pw_below_drewN | apply below_drew1 | refine below_set ?_ GE249.out) | exact HB.out)) hb); clear HO_250003; clear HO255; clear BK249; clear HB; have HO_250003 := n0_; have HO255 := n1_; have HO261 := n2_; have BK249 := n3_; have HB := n4_; clear n0_ n1_ n2_ n3_ n4_; (try clear hb); (try clear hb2); (try clear hk); (try clear hi); (try clear ho0)) | ((with_reducible refine gate_dst (N := 12) rfl ?_); (try (refine gate_guard (by rfl) ?_; dsimp only)); refine box_event ?hg (N := 12) ?hd (cs := #[.string (⟨#[]⟩ : ByteArray), .string (⟨#[]⟩ : ByteArray), .int .i64 0, .slice none 0 0]) (t := 24) ?hr ?_; (case hd => rfl); (case hg => rfl); (case hr => first | (go_simp; done) | (go_simp; rfl)); intro gb263 hg w108 hbox hb; have n0_ := Aside0.mk (Kd.R_below (by (with_reducible repeat (first | apply Kd.R_alloc | apply Kd.R_drewN | apply Kd.R_drew)); exact HO_250003.out) hb); have n1_ := Aside0.mk (Kd.V_below (Kd.V_elderB (by (with_reducible repeat (first | apply Kd.V_alloc | apply Kd.V_drewN | apply Kd.V_drew)); exact HO255.out) gb263 (Nat.le_of_eq hg.symm)) hb); have n2_ := Aside0.mk (Kd.R_below (by (with_reducible repeat (first | apply Kd.R_alloc | apply Kd.R_drewN | apply Kd.R_drew)); exact HO261.out) hb); have n3_ := Aside0.mk (blk_below (g := gb249) (o := .cells #[.string t243, .string t244, .int .i64 t245, .slice Ao12 t246.length co12] 24 (0, 0)) (by (with_reducible repeat (first | refine blk_drewN ?_ _ | refine blk_drew ?_ | refine blk_alloc ?_ _)); exact BK249.out) hb); have n4_ := Aside0.mk (below_step (by repeat (first | (with_reducible first | exact HB.out | apply below_alloc | apply pw_below_drewN | apply below_drew1 | refine below_set ?_ GE249.out) | exact HB.out)) hb); have n5_ := Aside0.mk (hbox); have n6_ := Aside0.mk ((by rw [hg]; exact (below_size (by repeat (first | (with_reducible first | exact HB.out | apply below_alloc | apply pw_below_drewN | apply below_drew1 | refine below_set ?_ GE249.out) | exact HB.out))) : w.heap.size ≤ gb263)); have n7_ := Aside0.mk ((by rw [hg]; exact (below_size (by repeat (first | (with_reducible first | exact HB.out | apply below_alloc | apply pw_below_drewN | apply below_drew1 | refine below_set ?_ GE249.out) | exact HB.out))) : w.heap.size ≤ gb263)); have n8_ := Aside0.mk ((by rw [hg]; exact Nat.ne_of_lt (blk_lt (g := gb249) (o := .cells #[.string t243, .string t244, .int .i64 t245, .slice Ao12 t246.length co12] 24 (0, 0)) (by (with_reducible repeat (first | refine blk_drewN ?_ _ | refine blk_drew ?_ | refine blk_alloc ?_ _)); exact BK249.out)) : gb249 ≠ gb263)); have n9_ := Aside0.mk ((by rw [hg]; exact Nat.ne_of_gt (blk_lt (g := gb249) (o := .cells #[.string t243, .string t244, .int .i64 t245, .slice Ao12 t246.length co12] 24 (0, 0)) (by (with_reducible repeat (first | refine blk_drewN ?_ _ | refine blk_drew ?_ | refine blk_alloc ?_ _)); exact BK249.out)) : gb263 ≠ gb249)); clear HO_250003; clear HO255; clear HO261; clear BK249; clear HB; have HO_250003 := n0_; have HO255 := n1_; have HO261 := n2_; have BK249 := n3_; have HB := n4_; have BK263 := n5_; have GW263 := n6_; have GE263 := n7_; have NB249_263 := n8_; have NB263_249 := n9_; clear n0_ n1_ n2_ n3_ n4_ n5_ n6_ n7_ n8_ n9_; clear hb hbox hg; have hnb109 := NB263_249.out; have hnc109 := NB249_263.out; have hcz110_0 : w108.cell? ⟨gb263, 0, none⟩ = some (.string (⟨#[]⟩ : ByteArray)) := (blk_cell BK263.out 0).trans rfl; have hcz110_1 : w108.cell? ⟨gb263, 1, none⟩ = some (.string (⟨#[]⟩ : ByteArray)) := (blk_cell BK263.out 1).trans rfl; have hcz110_2 : w108.cell? ⟨gb263, 2, none⟩ = some (.int .i64 0) := (blk_cell BK263.out 2).trans rfl; have hcz110_3 : w108.cell? ⟨gb263, 3, none⟩ = some (.slice none 0 0) := (blk_cell BK263.out 3).trans rfl; have hfz110_0 := blk_frozen BK263.out 0; have hfz110_1 := blk_frozen BK263.out 1; have hfz110_2 := blk_frozen BK263.out 2; have hfz110_3 := blk_frozen BK263.out 3; obtain ⟨Ao111, co111, eo111⟩ := Kd.R_slice HO261.out; subst eo111))
             have n0_ : Aside0 (Kd.R k67 67 ((((w108.setCell ⟨gb263, 0, none⟩ (.string t256)).setCell ⟨gb263, 1, none⟩ (.string t257)).setCell ⟨gb263, 2, none⟩ (.int .i64 t258)).setCell ⟨gb263, 3, none⟩ (.slice Ao111 t259.length co111)) w.heap.size (fun k_ => some k_ ≠ (.slice Ao111 t259.length co111 : Value).ownBlock) (.slice Ao12 t246.length co12) t246) := ⟨by (with_reducible repeat (first | apply Kd.R_alloc | apply Kd.R_drewN | apply Kd.R_drew)); exact Kd.R_mono (Kd.R_far (p := ⟨gb263, 3, none⟩) (Kd.R_far (p := ⟨gb263, 2, none⟩) (Kd.R_far (p := ⟨gb263, 1, none⟩) (Kd.R_far (p := ⟨gb263, 0, none⟩) (Kd.R_types HO_250003.out BK263.out (by decide)) (fun _ hk => hk.2) (.string t256)) (fun _ hk => hk.2) (.string t257)) (fun _ hk => hk.2) (.int .i64 t258)) (fun _ hk => hk.2) (.slice Ao111 t259.length co111)) (fun _ hk => hk.1.2)⟩
             have n1_ : Aside0 (Kd.V (Kd.int .u8) 5 ((((w108.setCell ⟨gb263, 0, none⟩ (.string t256)).setCell ⟨gb263, 1, none⟩ (.string t257)).setCell ⟨gb263, 2, none⟩ (.int .i64 t258)).setCell ⟨gb263, 3, none⟩ (.slice Ao111 t259.length co111)) w.heap.size (fun k_ => some k_ ≠ (.slice Ao12 t246.length co12 : Value).ownBlock ∧ some k_ ≠ (.slice Ao111 t259.length co111 : Value).ownBlock ∧ k_ ≠ gb249 ∧ k_ ≠ gb263) (.slice Ao106 y253.length co106) y253) := ⟨by (with_reducible repeat (first | apply Kd.V_alloc | apply Kd.V_drewN | apply Kd.V_drew)); exact Kd.V_mono (Kd.V_far (p := ⟨gb263, 3, none⟩) (Kd.V_far (p := ⟨gb263, 2, none⟩) (Kd.V_far (p := ⟨gb263, 1, none⟩) (Kd.V_far (p := ⟨gb263, 0, none⟩) (Kd.V_mono HO255.out (fun k_ hk => (⟨hk, hk.2⟩ : _ ∧ k_ ≠ gb263))) (fun _ hk => hk.2) (.string t256)) (fun _ hk => hk.2) (.string t257)) (fun _ hk => hk.2) (.int .i64 t258)) (fun _ hk => hk.2) (.slice Ao111 t259.length co111)) (fun _ hk => ⟨hk.1.1.1.1, ⟨hk.1.1.2, ⟨hk.1.1.1.2, hk.1.2⟩⟩⟩)⟩
             have n2_ : Aside0 (Kd.R k67 67 ((((w108.setCell ⟨gb263, 0, none⟩ (.string t256)).setCell ⟨gb263, 1, none⟩ (.string t257)).setCell ⟨gb263, 2, none⟩ (.int .i64 t258)).setCell ⟨gb263, 3, none⟩ (.slice Ao111 t259.length co111)) w.heap.size (fun k_ => some k_ ≠ (.slice Ao12 t246.length co12 : Value).ownBlock) (.slice Ao111 t259.length co111) t259) := ⟨by (with_reducible repeat (first | apply Kd.R_alloc | apply Kd.R_drewN | apply Kd.R_drew)); exact Kd.R_mono (Kd.R_far (p := ⟨gb263, 3, none⟩) (Kd.R_far (p := ⟨gb263, 2, none⟩) (Kd.R_far (p := ⟨gb263, 1, none⟩) (Kd.R_far (p := ⟨gb263, 0, none⟩) (Kd.R_types HO261.out BK263.out (by decide)) (fun _ hk => hk.2) (.string t256)) (fun _ hk => hk.2) (.string t257)) (fun _ hk => hk.2) (.int .i64 t258)) (fun _ hk => hk.2) (.slice Ao111 t259.length co111)) (fun _ hk => hk.1.2)⟩
             have n3_ : Aside0 (((((w108.setCell ⟨gb263, 0, none⟩ (.string t256)).setCell ⟨gb263, 1, none⟩ (.string t257)).setCell ⟨gb263, 2, none⟩ (.int .i64 t258)).setCell ⟨gb263, 3, none⟩ (.slice Ao111 t259.length co111)).heap[gb249]? = some (.cells #[.string t243, .string t244, .int .i64 t245, .slice Ao12 t246.length co12] 24 (0, 0))) := ⟨by (with_reducible repeat (first | refine blk_drewN ?_ _ | refine blk_drew ?_ | refine blk_alloc ?_ _)); refine blk_far ?_ NB249_263.out _; (with_reducible repeat (first | refine blk_drewN ?_ _ | refine blk_drew ?_ | refine blk_alloc ?_ _)); refine blk_far ?_ NB249_263.out _; (with_reducible repeat (first | refine blk_drewN ?_ _ | refine blk_drew ?_ | refine blk_alloc ?_ _)); refine blk_far ?_ NB249_263.out _; (with_reducible repeat (first | refine blk_drewN ?_ _ | refine blk_drew ?_ | refine blk_alloc ?_ _)); refine blk_far ?_ NB249_263.out _; (with_reducible repeat (first | refine blk_drewN ?_ _ | refine blk_drew ?_ | refine blk_alloc ?_ _)); exact BK249.out⟩
             have n4_ : Aside0 (((((w108.setCell ⟨gb263, 0, none⟩ (.string t256)).setCell ⟨gb263, 1, none⟩ (.string t257)).setCell ⟨gb263, 2, none⟩ (.int .i64 t258)).setCell ⟨gb263, 3, none⟩ (.slice Ao111 t259.length co111)).heap[gb263]? = some (.cells #[.string t256, .string t257, .int .i64 t258, .slice Ao111 t259.length co111] 24 (0, 0))) := ⟨by (with_reducible repeat (first | refine blk_drewN ?_ _ | refine blk_drew ?_ | refine blk_alloc ?_ _)); refine blk_put (cs := #[.string t256, .string t257, .int .i64 t258, .slice none 0 0]) ?_ 3 _ rfl; (with_reducible repeat (first | refine blk_drewN ?_ _ | refine blk_drew ?_ | refine blk_alloc ?_ _)); refine blk_put (cs := #[.string t256, .string t257, .int .i64 0, .slice none 0 0]) ?_ 2 _ rfl; (with_reducible repeat (first | refine blk_drewN ?_ _ | refine blk_drew ?_ | refine blk_alloc ?_ _)); refine blk_put (cs := #[.string t256, .string (⟨#[]⟩ : ByteArray), .int .i64 0, .slice none 0 0]) ?_ 1 _ rfl; (with_reducible repeat (first | refine blk_drewN ?_ _ | refine blk_drew ?_ | refine blk_alloc ?_ _)); refine blk_put (cs := #[.string (⟨#[]⟩ : ByteArray), .string (⟨#[]⟩ : ByteArray), .int .i64 0, .slice none 0 0]) ?_ 0 _ rfl; (with_reducible repeat (first | refine blk_drewN ?_ _ | refine blk_drew ?_ | refine blk_alloc ?_ _)); exact BK263.out⟩
             have n5_ : Aside0 (Below w.heap.size w ((((w108.setCell ⟨gb263, 0, none⟩ (.string t256)).setCell ⟨gb263, 1, none⟩ (.string t257)).setCell ⟨gb263, 2, none⟩ (.int .i64 t258)).setCell ⟨gb263, 3, none⟩ (.slice Ao111 t259.length co111))) := ⟨by repeat (first | (with_reducible first | exact HB.out | apply below_alloc | apply pw_below_drewN | apply below_drew1 | refine below_set ?_ GE249.out | refine below_set ?_ GE263.out) | exact HB.out)⟩
             (try clear HO_250003)
             (try clear HO255)
             (try clear HO261)
             (try clear BK249)
             (try clear BK263)
             (try clear HB)
             generalize ((((w108.setCell ⟨gb263, 0, none⟩ (.string t256)).setCell ⟨gb263, 1, none⟩ (.string t257)).setCell ⟨gb263, 2, none⟩ (.int .i64 t258)).setCell ⟨gb263, 3, none⟩ (.slice Ao111 t259.length co111)) = w112 at n0_ n1_ n2_ n3_ n4_ n5_ ⊢
             have HO_250003 := n0_
             have HO255 := n1_
             have HO261 := n2_
             have BK249 := n3_
             have BK263 := n4_
             have HB := n5_
             clear n0_ n1_ n2_ n3_ n4_ n5_
             have n0_ := Aside0.mk (Kd.R_drew HO_250003.out)
             have n1_ := Aside0.mk (Kd.V_drew HO255.out)
             have n2_ := Aside0.mk (Kd.R_drew HO261.out)
             have n3_ := Aside0.mk (blk_drew BK249.out)
             have n4_ := Aside0.mk (blk_drew BK263.out)
             have n5_ := Aside0.mk (below_drew1 HB.out)
             clear HO_250003
             clear HO255
             clear HO261
             clear BK249
             clear BK263
             clear HB
             have HO_250003 := n0_
             have HO255 := n1_
             have HO261 := n2_
             have BK249 := n3_
             have BK263 := n4_
             have HB := n5_
             clear n0_ n1_ n2_ n3_ n4_ n5_
             refine start_ (n := 9) (S := fun w' => w'.cell? ⟨gb263, 0, none⟩ = some (.string t256) ∧ w'.cell? ⟨gb263, 1, none⟩ = some (.string t257) ∧ w'.cell? ⟨gb263, 2, none⟩ = some (.int .i64 t258) ∧ w'.cell? ⟨gb263, 3, none⟩ = some (.slice Ao111 t259.length co111)) (ds := []) #[false, false, false, false, false, false, false, false, false] (by kernel_rfl) rfl rfl ⟨(blk_cell BK263.out 0).trans rfl, (blk_cell BK263.out 1).trans rfl, (blk_cell BK263.out 2).trans rfl, (blk_cell BK263.out 3).trans rfl⟩ (fun hHeld => ?_); refine with_tabW ostiarylaw13_HeadBlanks.tab7 ostiarylaw13_HeadBlanks.bits7 (fun HT_ HW_ => ?_)
             generalize w112.drew = w113 at HO_250003 HO255 HO261 BK249 BK263 HB hHeld ⊢
             refine pure_ (i := 1) (N := some 49) (v := ?_) (a' := ?_) #[false, true, false, false, false, false, false, false, false] rfl rfl (any_of HT_.out (by kernel_rfl)) (fun _ _ _ h => h) (Or.inl ⟨by rfl, ?_⟩) ?_ ?_
             rotate_left
             ·intro w'
              go_simp
              with_reducible rfl
             rotate_left
             ·simp only [Act.put, List.setIfInBounds_toArray, List.set_cons_zero, List.set_cons_succ, i64_w, i32_w]
              rfl
             refine take_ (i := 0) (N := some 48) (v := ?_) (a' := ?_) #[true, true, false, false, false, false, false, false, false] rfl rfl (take_ofW HT_.out HW_.out (by kernel_rfl)) (fun _ _ _ h => h) (Or.inl ⟨by rfl, ?_⟩) hHeld ?_ ?_
             rotate_left
             ·rintro w' ⟨s0, s1, s2, s3⟩
              go_simp
              with_reducible rfl
             rotate_left
             ·simp only [Act.put, List.setIfInBounds_toArray, List.set_cons_zero, List.set_cons_succ, i64_w, i32_w]
              rfl
             refine one_ (i := 2) (N := some 50) #[true, true, true, false, false, false, false, false, false] rfl rfl (one_of HT_.out (by kernel_rfl)) (by decide) (fun K hK => ?_)
             refine goes_ Tryd.func47 (by kernel_rfl) rfl #[.string a0] (by rfl) rfl rfl (by (try simp only [List.map_toArray, List.map_cons, List.map_nil]); first | done | rfl | (simp only [List.length_drop, List.length_take]; rfl)) ?_
             with_reducible refine (ostiarylaw13_turned.calls a0 t264 _ A30.out).mono ?_
             rintro e w114 ⟨rfl, hb⟩
             refine ⟨_, rfl, ?_⟩
             have n0_ := Aside0.mk (Kd.R_below (by (with_reducible repeat (first | apply Kd.R_alloc | apply Kd.R_drewN | apply Kd.R_drew)); exact HO_250003.out) hb)
             have n1_ := Aside0.mk (Kd.V_below (by (with_reducible repeat (first | apply Kd.V_alloc | apply Kd.V_drewN | apply Kd.V_drew)); exact HO255.out) hb)
             have n2_ := Aside0.mk (Kd.R_below (by (with_reducible repeat (first | apply Kd.R_alloc | apply Kd.R_drewN | apply Kd.R_drew)); exact HO261.out) hb)
             have n3_ := Aside0.mk (blk_below (g := gb249) (o := .cells #[.string t243, .string t244, .int .i64 t245, .slice Ao12 t246.length co12] 24 (0, 0)) (by (with_reducible repeat (first | refine blk_drewN ?_ _ | refine blk_drew ?_ | refine blk_alloc ?_ _)); exact BK249.out) hb)
             have n4_ := Aside0.mk (blk_below (g := gb263) (o := .cells #[.string t256, .string t257, .int .i64 t258, .slice Ao111 t259.length co111] 24 (0, 0)) (by (with_reducible repeat (first | refine blk_drewN ?_ _ | refine blk_drew ?_ | refine blk_alloc ?_ _)); exact BK263.out) hb)
             have n5_ := Aside0.mk (below_step (by repeat (first | (with_reducible first | exact HB.out | apply below_alloc | apply pw_below_drewN | apply below_drew1 | refine below_set ?_ GE249.out | refine below_set ?_ GE263.out) | exact HB.out)) hb)
             clear HO_250003
             clear HO255
             clear HO261
             clear BK249
             clear BK263
             clear HB
             have HO_250003 := n0_
             have HO255 := n1_
             have HO261 := n2_
             have BK249 := n3_
             have BK263 := n4_
             have HB := n5_
             clear n0_ n1_ n2_ n3_ n4_ n5_
             (try clear hb)
             (try clear hb2)
             (try clear hk)
             (try clear hi)
             refine hK.out _ _ ⟨(blk_cell BK263.out 0).trans rfl, (blk_cell BK263.out 1).trans rfl, (blk_cell BK263.out 2).trans rfl, (blk_cell BK263.out 3).trans rfl⟩ (fun hHeld => ?_)
             clear hK K
             refine norm_ (a' := ?_) ?_ ?_
             rotate_left
             ·show Act.put _ (some 50) _ = _
              simp only [Act.put, List.setIfInBounds_toArray, List.set_cons_zero, List.set_cons_succ, i64_w, i32_w]
              rfl
             refine one_ (i := 3) (N := some 51) #[true, true, true, true, false, false, false, false, false] rfl rfl (one_of HT_.out (by kernel_rfl)) (by decide) (fun K hK => ?_)
             refine goes_ Tryd.func46 (by kernel_rfl) rfl #[.agg #[.string t256, .string t257, .int .i64 t258, .slice Ao111 t259.length co111], .string t264] (by rfl) rfl rfl (by (try simp only [List.map_toArray, List.map_cons, List.map_nil]); first | done | rfl | (simp only [List.length_drop, List.length_take]; rfl)) ?_
             with_reducible refine (head_Field.calls kj6 t256 t257 t258 _ _ t259 t264 t265 t266 _ ?side1 ?side2 A31.out).mono ?_
             (case side1 => repeat (first | exact (Kd.R_reads' HO261.out).2.2 | (with_reducible refine Kd.C_alloc ?_ _) | (with_reducible refine Kd.C_drewN ?_ _) | (with_reducible refine Kd.C_drew ?_)))
             (case side2 => exact (Kd.R_reads' HO261.out).2.1)
             rintro e w115 ⟨rfl, hb⟩
             refine ⟨_, rfl, ?_⟩
             have n0_ := Aside0.mk (Kd.R_below (by (with_reducible repeat (first | apply Kd.R_alloc | apply Kd.R_drewN | apply Kd.R_drew)); exact HO_250003.out) hb)
             have n1_ := Aside0.mk (Kd.V_below (by (with_reducible repeat (first | apply Kd.V_alloc | apply Kd.V_drewN | apply Kd.V_drew)); exact HO255.out) hb)
             have n2_ := Aside0.mk (Kd.R_below (by (with_reducible repeat (first | apply Kd.R_alloc | apply Kd.R_drewN | apply Kd.R_drew)); exact HO261.out) hb)
             have n3_ := Aside0.mk (blk_below (g := gb249) (o := .cells #[.string t243, .string t244, .int .i64 t245, .slice Ao12 t246.length co12] 24 (0, 0)) (by (with_reducible repeat (first | refine blk_drewN ?_ _ | refine blk_drew ?_ | refine blk_alloc ?_ _)); exact BK249.out) hb)
             have n4_ := Aside0.mk (blk_below (g := gb263) (o := .cells #[.string t256, .string t257, .int .i64 t258, .slice Ao111 t259.length co111] 24 (0, 0)) (by (with_reducible repeat (first | refine blk_drewN ?_ _ | refine blk_drew ?_ | refine blk_alloc ?_ _)); exact BK263.out) hb)
             have n5_ := Aside0.mk (below_step (by repeat (first | (with_reducible first | exact HB.out | apply below_alloc | apply pw_below_drewN | apply below_drew1 | refine below_set ?_ GE249.out | refine below_set ?_ GE263.out) | exact HB.out)) hb)
             clear HO_250003
             clear HO255
             clear HO261
             clear BK249
             clear BK263
             clear HB
             have HO_250003 := n0_
             have HO255 := n1_
             have HO261 := n2_
             have BK249 := n3_
             have BK263 := n4_
             have HB := n5_
             clear n0_ n1_ n2_ n3_ n4_ n5_
             (try clear hb)
             (try clear hb2)
             (try clear hk)
             (try clear hi)
             refine hK.out _ _ ⟨(blk_cell BK263.out 0).trans rfl, (blk_cell BK263.out 1).trans rfl, (blk_cell BK263.out 2).trans rfl, (blk_cell BK263.out 3).trans rfl⟩ (fun hHeld => ?_)
             clear hK K
             refine norm_ (a' := ?_) ?_ ?_
             rotate_left
             ·show Act.put _ (some 51) _ = _
              simp only [Act.put, List.setIfInBounds_toArray, List.set_cons_zero, List.set_cons_succ, i64_w, i32_w]
              rfl
             refine pure_ (i := 4) (N := some 47) (v := ?_) (a' := ?_) #[true, true, true, true, true, false, false, false, false] rfl rfl (any_of HT_.out (by kernel_rfl)) (fun _ _ _ h => h) (Or.inl ⟨by rfl, ?_⟩) ?_ ?_
             rotate_left
             ·intro w'
              go_simp
              with_reducible rfl
             rotate_left
             ·simp only [Act.put, List.setIfInBounds_toArray, List.set_cons_zero, List.set_cons_succ, i64_w, i32_w]
              rfl
             refine pure_ (i := 5) (N := some 52) (v := ?_) (a' := ?_) #[true, true, true, true, true, true, false, false, false] rfl rfl (any_of HT_.out (by kernel_rfl)) (fun _ _ _ h => h) (Or.inl ⟨by rfl, ?_⟩) ?_ ?_
             rotate_left
             ·intro w'
              go_simp
              with_reducible rfl
             rotate_left
             ·simp only [Act.put, List.setIfInBounds_toArray, List.set_cons_zero, List.set_cons_succ, i64_w, i32_w]
              rfl
             refine pure_ (i := 6) (N := some 53) (v := ?_) (a' := ?_) #[true, true, true, true, true, true, true, false, false] rfl rfl (any_of HT_.out (by kernel_rfl)) (fun _ _ _ h => h) (Or.inl ⟨by rfl, ?_⟩) ?_ ?_
             rotate_left
             ·intro w'
              go_simp
              with_reducible rfl
             rotate_left
             ·simp only [Act.put, List.setIfInBounds_toArray, List.set_cons_zero, List.set_cons_succ, i64_w, i32_w]
              rfl
             refine pure_ (i := 7) (N := some 14) (v := ?_) (a' := ?_) #[true, true, true, true, true, true, true, true, false] rfl rfl (any_of HT_.out (by kernel_rfl)) (fun _ _ _ h => h) (Or.inl ⟨by rfl, ?_⟩) ?_ ?_
             rotate_left
             ·intro w'
              go_simp
              with_reducible rfl
             rotate_left
             ·simp only [Act.put, List.setIfInBounds_toArray, List.set_cons_zero, List.set_cons_succ, i64_w, i32_w]
              rfl
             refine pure_ (i := 8) (N := some 15) (v := ?_) (a' := ?_) #[true, true, true, true, true, true, true, true, true] rfl rfl (any_of HT_.out (by kernel_rfl)) (fun _ _ _ h => h) (Or.inl ⟨by rfl, ?_⟩) ?_ ?_
             rotate_left
             ·intro w'
              go_simp
              with_reducible rfl
             rotate_left
             ·simp only [Act.put, List.setIfInBounds_toArray, List.set_cons_zero, List.set_cons_succ, i64_w, i32_w]
              rfl
             refine done_ (done_of HT_.out (by kernel_rfl)) ?_
             try go_wp2
             go_ret
             exact ⟨by first | rfl | (simp [errW_none, errW_some] <;> rfl) | (simp [*, errW_none, errW_some] <;> rfl), by repeat (first | (with_reducible first | exact HB.out | apply below_alloc | apply pw_below_drewN | apply below_drew1 | refine below_set ?_ GE249.out | refine below_set ?_ GE263.out) | exact HB.out)⟩
           ·replace c32 := Bool.eq_false_iff.mpr c32
            subst c32
            have H1 : (some false) = some r := by rw [if_neg (show ¬ (false = true) by decide)] at H; exact H
            clear H
            have H := H1
            clear H1
            obtain rfl := Option.some.inj H
            try go_wp2_with (first | ((with_reducible refine gate_callee (f := 45) rfl ?_); refine goesL_ (some 32) rfl rfl Tryd.func45 (by kernel_rfl) rfl #[.int .i64 a2] rfl (by (try simp only [List.map_toArray, List.map_cons, List.map_nil]); first | done | rfl | (simp only [List.length_drop, List.length_take]; rfl)) ?_; (with_reducible refine (ostiarylaw13_blanks.calls kj6 a2 t251 _ A21.out).mono ?_); rintro e w' ⟨rfl, ⟨nd, rfl⟩⟩; refine ⟨_, rfl, ?_⟩; (try (rw [drewN_self wc]; generalize hq_ : World.drewN wc _ = wc; have n0_ : Aside0 (Kd.R k67 67 wc w.heap.size (fun _ => True) (.slice Ao12 t246.length co12) t246) := ⟨by rw [← hq_]; exact (by (with_reducible repeat (first | apply Kd.R_alloc | apply Kd.R_drewN | apply Kd.R_drew)); exact HO_250003.out)⟩; have n1_ : Aside0 (wc.heap[gb249]? = some (.cells #[.string t243, .string t244, .int .i64 t245, .slice Ao12 t246.length co12] 24 (0, 0))) := ⟨by rw [← hq_]; exact (by (with_reducible repeat (first | refine blk_drewN ?_ _ | refine blk_drew ?_ | refine blk_alloc ?_ _)); exact BK249.out)⟩; have n2_ : Aside0 (Below w.heap.size w wc) := ⟨by rw [← hq_]; exact (by repeat (first | (with_reducible first | exact HB.out | apply below_alloc | apply pw_below_drewN | apply below_drew1 | refine below_set ?_ GE249.out) | exact HB.out))⟩; clear HO_250003 BK249 HB hq_; have HO_250003 := n0_; have BK249 := n1_; have HB := n2_; clear n0_ n1_ n2_))) | ((with_reducible refine gate_callee (f := 45) rfl ?_); refine goesL_ (some 37) rfl rfl Tryd.func45 (by kernel_rfl) rfl #[.int .i64 a3] rfl (by (try simp only [List.map_toArray, List.map_cons, List.map_nil]); first | done | rfl | (simp only [List.length_drop, List.length_take]; rfl)) ?_; (with_reducible refine (ostiarylaw13_blanks.calls kj6 a3 t252 _ A24.out).mono ?_); rintro e w' ⟨rfl, ⟨nd, rfl⟩⟩; refine ⟨_, rfl, ?_⟩; (try (rw [drewN_self wc]; generalize hq_ : World.drewN wc _ = wc; have n0_ : Aside0 (Kd.R k67 67 wc w.heap.size (fun _ => True) (.slice Ao12 t246.length co12) t246) := ⟨by rw [← hq_]; exact (by (with_reducible repeat (first | apply Kd.R_alloc | apply Kd.R_drewN | apply Kd.R_drew)); exact HO_250003.out)⟩; have n1_ : Aside0 (wc.heap[gb249]? = some (.cells #[.string t243, .string t244, .int .i64 t245, .slice Ao12 t246.length co12] 24 (0, 0))) := ⟨by rw [← hq_]; exact (by (with_reducible repeat (first | refine blk_drewN ?_ _ | refine blk_drew ?_ | refine blk_alloc ?_ _)); exact BK249.out)⟩; have n2_ : Aside0 (Below w.heap.size w wc) := ⟨by rw [← hq_]; exact (by repeat (first | (with_reducible first | exact HB.out | apply below_alloc | apply pw_below_drewN | apply below_drew1 | refine below_set ?_ GE249.out) | exact HB.out))⟩; clear HO_250003 BK249 HB hq_; have HO_250003 := n0_; have BK249 := n1_; have HB := n2_; clear n0_ n1_ n2_))) | ((with_reducible refine gate_dst (N := 43) rfl ?_); (try (refine gate_guard (by rfl) ?_; dsimp only)); refine V_ofstr _ 5 rfl (N := 43) rfl 9 25 _ rfl (((⟨#[71, 69, 84, 32, 47, 97, 32, 72, 84, 84, 80, 47, 49, 46, 48, 13, 10]⟩ : ByteArray) ++ ((((a0 ++ (⟨#[58]⟩ : ByteArray)) ++ t251) ++ a1) ++ t252)) ++ (⟨#[13, 10, 13, 10]⟩ : ByteArray)) rfl Tryd.underlying9 Tryd.underlying25 Tryd.underlying5 (ok := fun k_ => wc.heap.size ≤ k_) (Nat.le_refl _) (Nat.le_trans LMc28.out (by omega)) (Below.refl _ _) (Nat.le_refl _) ?_; intro v254 w116 ho117 hb hg_ hnew_; clear hg_ hnew_; (first | rw [← Ny253.out] at ho117 | (simp only [Int.reduceToNat] at ho117; rw [← Ny253.out] at ho117)); have n0_ := Aside0.mk (Kd.R_below (by (with_reducible repeat (first | apply Kd.R_alloc | apply Kd.R_drewN | apply Kd.R_drew)); exact HO_250003.out) hb); have n1_ := Aside0.mk (Kd.V_lower (Kd.V_mono (ok' := fun k_ => some k_ ≠ (.slice Ao12 t246.length co12 : Value).ownBlock ∧ k_ ≠ gb249) ho117 (fun k_ hk_ => ⟨(Kd.fresh' (Kd.R_lt (by (with_reducible repeat (first | apply Kd.R_alloc | apply Kd.R_drewN | apply Kd.R_drew)); exact HO_250003.out)) k_ hk_), (Kd.freshB (g := gb249) (o := .cells #[.string t243, .string t244, .int .i64 t245, .slice Ao12 t246.length co12] 24 (0, 0)) (by (with_reducible repeat (first | refine blk_drewN ?_ _ | refine blk_drew ?_ | refine blk_alloc ?_ _)); exact BK249.out) k_ hk_)⟩)) (below_size (by repeat (first | (with_reducible first | exact HB.out | apply below_alloc | apply pw_below_drewN | apply below_drew1 | refine below_set ?_ GE249.out) | exact HB.out)))); have n2_ := Aside0.mk (blk_below (g := gb249) (o := .cells #[.string t243, .string t244, .int .i64 t245, .slice Ao12 t246.length co12] 24 (0, 0)) (by (with_reducible repeat (first | refine blk_drewN ?_ _ | refine blk_drew ?_ | refine blk_alloc ?_ _)); exact BK249.out) hb); have n3_ := Aside0.mk (below_step (by repeat (first | (with_reducible first | exact HB.out | apply below_alloc | apply pw_below_drewN | apply below_drew1 | refine below_set ?_ GE249.out) | exact HB.out)) hb); clear HO_250003; clear BK249; clear HB; have HO_250003 := n0_; have HO255 := n1_; have BK249 := n2_; have HB := n3_; clear n0_ n1_ n2_ n3_; clear hb ho117; obtain ⟨Ao118, co118, eo118⟩ := Kd.V_slice HO255.out; subst eo118) | ((with_reducible refine gate_callee (f := 41) rfl ?_); refine goesL_ (some 44) rfl rfl Tryd.func41 (by kernel_rfl) rfl #[.slice Ao118 y253.length co118] rfl (by (try simp only [List.map_toArray, List.map_cons, List.map_nil]); first | done | rfl | (simp only [List.length_drop, List.length_take]; rfl)) ?_; (with_reducible refine (head_Parse.calls kj6 _ _ y253 t256 t257 t258 t259 t262 _ ?side1 ?side2 ?side3 A29.out).mono ?_); (case side1 => repeat (first | exact (Kd.V_reads' HO255.out).2.2 | (with_reducible refine Kd.C_alloc ?_ _) | (with_reducible refine Kd.C_drewN ?_ _) | (with_reducible refine Kd.C_drew ?_))); (case side2 => exact (Kd.V_reads' HO255.out).2.1); (case side3 => exact GG_step HGG.out (by decide) (by repeat (first | (with_reducible first | exact HB.out | apply below_alloc | apply pw_below_drewN | apply below_drew1 | refine below_set ?_ GE249.out) | exact HB.out))); rintro e w119 ⟨v260, rfl, ho0, hb⟩; refine ⟨_, rfl, ?_⟩; have n0_ := Aside0.mk (Kd.R_elder' (by (with_reducible repeat (first | apply Kd.R_alloc | apply Kd.R_drewN | apply Kd.R_drew)); exact HO_250003.out) (Kd.R_base ho0) hb); have n1_ := Aside0.mk (Kd.V_elder' (by (with_reducible repeat (first | apply Kd.V_alloc | apply Kd.V_drewN | apply Kd.V_drew)); exact HO255.out) (Kd.R_base ho0) hb); have n2_ := Aside0.mk (Kd.R_lower (Kd.R_new' ho0 (Kd.R_lt (by (with_reducible repeat (first | apply Kd.R_alloc | apply Kd.R_drewN | apply Kd.R_drew)); exact HO_250003.out))) (below_size (by repeat (first | (with_reducible first | exact HB.out | apply below_alloc | apply pw_below_drewN | apply below_drew1 | refine below_set ?_ GE249.out) | exact HB.out)))); have n3_ := Aside0.mk (blk_below (g := gb249) (o := .cells #[.string t243, .string t244, .int .i64 t245, .slice Ao12 t246.length co12] 24 (0, 0)) (by (with_reducible repeat (first | refine blk_drewN ?_ _ | refine blk_drew ?_ | refine blk_alloc ?_ _)); exact BK249.out) hb); have n4_ := Aside0.mk (below_step (by repeat (first | (with_reducible first | exact HB.out | apply below_alloc | apply pw_below_drewN | apply below_drew1 | refine below_set ?_ GE249.out) | exact HB.out)) hb); clear HO_250003; clear HO255; clear BK249; clear HB; have HO_250003 := n0_; have HO255 := n1_; have HO261 := n2_; have BK249 := n3_; have HB := n4_; clear n0_ n1_ n2_ n3_ n4_; (try clear hb); (try clear hb2); (try clear hk); (try clear hi); (try clear ho0)) | ((with_reducible refine gate_dst (N := 12) rfl ?_); (try (refine gate_guard (by rfl) ?_; dsimp only)); refine box_event ?hg (N := 12) ?hd (cs := #[.string (⟨#[]⟩ : ByteArray), .string (⟨#[]⟩ : ByteArray), .int .i64 0, .slice none 0 0]) (t := 24) ?hr ?_; (case hd => rfl); (case hg => rfl); (case hr => first | (go_simp; done) | (go_simp; rfl)); intro gb263 hg w120 hbox hb; have n0_ := Aside0.mk (Kd.R_below (by (with_reducible repeat (first | apply Kd.R_alloc | apply Kd.R_drewN | apply Kd.R_drew)); exact HO_250003.out) hb); have n1_ := Aside0.mk (Kd.V_below (Kd.V_elderB (by (with_reducible repeat (first | apply Kd.V_alloc | apply Kd.V_drewN | apply Kd.V_drew)); exact HO255.out) gb263 (Nat.le_of_eq hg.symm)) hb); have n2_ := Aside0.mk (Kd.R_below (by (with_reducible repeat (first | apply Kd.R_alloc | apply Kd.R_drewN | apply Kd.R_drew)); exact HO261.out) hb); have n3_ := Aside0.mk (blk_below (g := gb249) (o := .cells #[.string t243, .string t244, .int .i64 t245, .slice Ao12 t246.length co12] 24 (0, 0)) (by (with_reducible repeat (first | refine blk_drewN ?_ _ | refine blk_drew ?_ | refine blk_alloc ?_ _)); exact BK249.out) hb); have n4_ := Aside0.mk (below_step (by repeat (first | (with_reducible first | exact HB.out | apply below_alloc | apply pw_below_drewN | apply below_drew1 | refine below_set ?_ GE249.out) | exact HB.out)) hb); have n5_ := Aside0.mk (hbox); have n6_ := Aside0.mk ((by rw [hg]; exact (below_size (by repeat (first | (with_reducible first | exact HB.out | apply below_alloc | apply pw_below_drewN | apply below_drew1 | refine below_set ?_ GE249.out) | exact HB.out))) : w.heap.size ≤ gb263)); have n7_ := Aside0.mk ((by rw [hg]; exact (below_size (by repeat (first | (with_reducible first | exact HB.out | apply below_alloc | apply pw_below_drewN | apply below_drew1 | refine below_set ?_ GE249.out) | exact HB.out))) : w.heap.size ≤ gb263)); have n8_ := Aside0.mk ((by rw [hg]; exact Nat.ne_of_lt (blk_lt (g := gb249) (o := .cells #[.string t243, .string t244, .int .i64 t245, .slice Ao12 t246.length co12] 24 (0, 0)) (by (with_reducible repeat (first | refine blk_drewN ?_ _ | refine blk_drew ?_ | refine blk_alloc ?_ _)); exact BK249.out)) : gb249 ≠ gb263)); have n9_ := Aside0.mk ((by rw [hg]; exact Nat.ne_of_gt (blk_lt (g := gb249) (o := .cells #[.string t243, .string t244, .int .i64 t245, .slice Ao12 t246.length co12] 24 (0, 0)) (by (with_reducible repeat (first | refine blk_drewN ?_ _ | refine blk_drew ?_ | refine blk_alloc ?_ _)); exact BK249.out)) : gb263 ≠ gb249)); clear HO_250003; clear HO255; clear HO261; clear BK249; clear HB; have HO_250003 := n0_; have HO255 := n1_; have HO261 := n2_; have BK249 := n3_; have HB := n4_; have BK263 := n5_; have GW263 := n6_; have GE263 := n7_; have NB249_263 := n8_; have NB263_249 := n9_; clear n0_ n1_ n2_ n3_ n4_ n5_ n6_ n7_ n8_ n9_; clear hb hbox hg; have hnb121 := NB263_249.out; have hnc121 := NB249_263.out; have hcz122_0 : w120.cell? ⟨gb263, 0, none⟩ = some (.string (⟨#[]⟩ : ByteArray)) := (blk_cell BK263.out 0).trans rfl; have hcz122_1 : w120.cell? ⟨gb263, 1, none⟩ = some (.string (⟨#[]⟩ : ByteArray)) := (blk_cell BK263.out 1).trans rfl; have hcz122_2 : w120.cell? ⟨gb263, 2, none⟩ = some (.int .i64 0) := (blk_cell BK263.out 2).trans rfl; have hcz122_3 : w120.cell? ⟨gb263, 3, none⟩ = some (.slice none 0 0) := (blk_cell BK263.out 3).trans rfl; have hfz122_0 := blk_frozen BK263.out 0; have hfz122_1 := blk_frozen BK263.out 1; have hfz122_2 := blk_frozen BK263.out 2; have hfz122_3 := blk_frozen BK263.out 3; obtain ⟨Ao123, co123, eo123⟩ := Kd.R_slice HO261.out; subst eo123))
            have n0_ : Aside0 (Kd.R k67 67 ((((w120.setCell ⟨gb263, 0, none⟩ (.string t256)).setCell ⟨gb263, 1, none⟩ (.string t257)).setCell ⟨gb263, 2, none⟩ (.int .i64 t258)).setCell ⟨gb263, 3, none⟩ (.slice Ao123 t259.length co123)) w.heap.size (fun k_ => some k_ ≠ (.slice Ao123 t259.length co123 : Value).ownBlock) (.slice Ao12 t246.length co12) t246) := ⟨by (with_reducible repeat (first | apply Kd.R_alloc | apply Kd.R_drewN | apply Kd.R_drew)); exact Kd.R_mono (Kd.R_far (p := ⟨gb263, 3, none⟩) (Kd.R_far (p := ⟨gb263, 2, none⟩) (Kd.R_far (p := ⟨gb263, 1, none⟩) (Kd.R_far (p := ⟨gb263, 0, none⟩) (Kd.R_types HO_250003.out BK263.out (by decide)) (fun _ hk => hk.2) (.string t256)) (fun _ hk => hk.2) (.string t257)) (fun _ hk => hk.2) (.int .i64 t258)) (fun _ hk => hk.2) (.slice Ao123 t259.length co123)) (fun _ hk => hk.1.2)⟩
            have n1_ : Aside0 (Kd.V (Kd.int .u8) 5 ((((w120.setCell ⟨gb263, 0, none⟩ (.string t256)).setCell ⟨gb263, 1, none⟩ (.string t257)).setCell ⟨gb263, 2, none⟩ (.int .i64 t258)).setCell ⟨gb263, 3, none⟩ (.slice Ao123 t259.length co123)) w.heap.size (fun k_ => some k_ ≠ (.slice Ao12 t246.length co12 : Value).ownBlock ∧ some k_ ≠ (.slice Ao123 t259.length co123 : Value).ownBlock ∧ k_ ≠ gb249 ∧ k_ ≠ gb263) (.slice Ao118 y253.length co118) y253) := ⟨by (with_reducible repeat (first | apply Kd.V_alloc | apply Kd.V_drewN | apply Kd.V_drew)); exact Kd.V_mono (Kd.V_far (p := ⟨gb263, 3, none⟩) (Kd.V_far (p := ⟨gb263, 2, none⟩) (Kd.V_far (p := ⟨gb263, 1, none⟩) (Kd.V_far (p := ⟨gb263, 0, none⟩) (Kd.V_mono HO255.out (fun k_ hk => (⟨hk, hk.2⟩ : _ ∧ k_ ≠ gb263))) (fun _ hk => hk.2) (.string t256)) (fun _ hk => hk.2) (.string t257)) (fun _ hk => hk.2) (.int .i64 t258)) (fun _ hk => hk.2) (.slice Ao123 t259.length co123)) (fun _ hk => ⟨hk.1.1.1.1, ⟨hk.1.1.2, ⟨hk.1.1.1.2, hk.1.2⟩⟩⟩)⟩
            have n2_ : Aside0 (Kd.R k67 67 ((((w120.setCell ⟨gb263, 0, none⟩ (.string t256)).setCell ⟨gb263, 1, none⟩ (.string t257)).setCell ⟨gb263, 2, none⟩ (.int .i64 t258)).setCell ⟨gb263, 3, none⟩ (.slice Ao123 t259.length co123)) w.heap.size (fun k_ => some k_ ≠ (.slice Ao12 t246.length co12 : Value).ownBlock) (.slice Ao123 t259.length co123) t259) := ⟨by (with_reducible repeat (first | apply Kd.R_alloc | apply Kd.R_drewN | apply Kd.R_drew)); exact Kd.R_mono (Kd.R_far (p := ⟨gb263, 3, none⟩) (Kd.R_far (p := ⟨gb263, 2, none⟩) (Kd.R_far (p := ⟨gb263, 1, none⟩) (Kd.R_far (p := ⟨gb263, 0, none⟩) (Kd.R_types HO261.out BK263.out (by decide)) (fun _ hk => hk.2) (.string t256)) (fun _ hk => hk.2) (.string t257)) (fun _ hk => hk.2) (.int .i64 t258)) (fun _ hk => hk.2) (.slice Ao123 t259.length co123)) (fun _ hk => hk.1.2)⟩
            have n3_ : Aside0 (((((w120.setCell ⟨gb263, 0, none⟩ (.string t256)).setCell ⟨gb263, 1, none⟩ (.string t257)).setCell ⟨gb263, 2, none⟩ (.int .i64 t258)).setCell ⟨gb263, 3, none⟩ (.slice Ao123 t259.length co123)).heap[gb249]? = some (.cells #[.string t243, .string t244, .int .i64 t245, .slice Ao12 t246.length co12] 24 (0, 0))) := ⟨by (with_reducible repeat (first | refine blk_drewN ?_ _ | refine blk_drew ?_ | refine blk_alloc ?_ _)); refine blk_far ?_ NB249_263.out _; (with_reducible repeat (first | refine blk_drewN ?_ _ | refine blk_drew ?_ | refine blk_alloc ?_ _)); refine blk_far ?_ NB249_263.out _; (with_reducible repeat (first | refine blk_drewN ?_ _ | refine blk_drew ?_ | refine blk_alloc ?_ _)); refine blk_far ?_ NB249_263.out _; (with_reducible repeat (first | refine blk_drewN ?_ _ | refine blk_drew ?_ | refine blk_alloc ?_ _)); refine blk_far ?_ NB249_263.out _; (with_reducible repeat (first | refine blk_drewN ?_ _ | refine blk_drew ?_ | refine blk_alloc ?_ _)); exact BK249.out⟩
            have n4_ : Aside0 (((((w120.setCell ⟨gb263, 0, none⟩ (.string t256)).setCell ⟨gb263, 1, none⟩ (.string t257)).setCell ⟨gb263, 2, none⟩ (.int .i64 t258)).setCell ⟨gb263, 3, none⟩ (.slice Ao123 t259.length co123)).heap[gb263]? = some (.cells #[.string t256, .string t257, .int .i64 t258, .slice Ao123 t259.length co123] 24 (0, 0))) := ⟨by (with_reducible repeat (first | refine blk_drewN ?_ _ | refine blk_drew ?_ | refine blk_alloc ?_ _)); refine blk_put (cs := #[.string t256, .string t257, .int .i64 t258, .slice none 0 0]) ?_ 3 _ rfl; (with_reducible repeat (first | refine blk_drewN ?_ _ | refine blk_drew ?_ | refine blk_alloc ?_ _)); refine blk_put (cs := #[.string t256, .string t257, .int .i64 0, .slice none 0 0]) ?_ 2 _ rfl; (with_reducible repeat (first | refine blk_drewN ?_ _ | refine blk_drew ?_ | refine blk_alloc ?_ _)); refine blk_put (cs := #[.string t256, .string (⟨#[]⟩ : ByteArray), .int .i64 0, .slice none 0 0]) ?_ 1 _ rfl; (with_reducible repeat (first | refine blk_drewN ?_ _ | refine blk_drew ?_ | refine blk_alloc ?_ _)); refine blk_put (cs := #[.string (⟨#[]⟩ : ByteArray), .string (⟨#[]⟩ : ByteArray), .int .i64 0, .slice none 0 0]) ?_ 0 _ rfl; (with_reducible repeat (first | refine blk_drewN ?_ _ | refine blk_drew ?_ | refine blk_alloc ?_ _)); exact BK263.out⟩
            have n5_ : Aside0 (Below w.heap.size w ((((w120.setCell ⟨gb263, 0, none⟩ (.string t256)).setCell ⟨gb263, 1, none⟩ (.string t257)).setCell ⟨gb263, 2, none⟩ (.int .i64 t258)).setCell ⟨gb263, 3, none⟩ (.slice Ao123 t259.length co123))) := ⟨by repeat (first | (with_reducible first | exact HB.out | apply below_alloc | apply pw_below_drewN | apply below_drew1 | refine below_set ?_ GE249.out | refine below_set ?_ GE263.out) | exact HB.out)⟩
            (try clear HO_250003)
            (try clear HO255)
            (try clear HO261)
            (try clear BK249)
            (try clear BK263)
            (try clear HB)
            generalize ((((w120.setCell ⟨gb263, 0, none⟩ (.string t256)).setCell ⟨gb263, 1, none⟩ (.string t257)).setCell ⟨gb263, 2, none⟩ (.int .i64 t258)).setCell ⟨gb263, 3, none⟩ (.slice Ao123 t259.length co123)) = w124 at n0_ n1_ n2_ n3_ n4_ n5_ ⊢
            have HO_250003 := n0_
            have HO255 := n1_
            have HO261 := n2_
            have BK249 := n3_
            have BK263 := n4_
            have HB := n5_
            clear n0_ n1_ n2_ n3_ n4_ n5_
            have n0_ := Aside0.mk (Kd.R_drew HO_250003.out)
            have n1_ := Aside0.mk (Kd.V_drew HO255.out)
            have n2_ := Aside0.mk (Kd.R_drew HO261.out)
            have n3_ := Aside0.mk (blk_drew BK249.out)
            have n4_ := Aside0.mk (blk_drew BK263.out)
            have n5_ := Aside0.mk (below_drew1 HB.out)
            clear HO_250003
            clear HO255
            clear HO261
            clear BK249
            clear BK263
            clear HB
            have HO_250003 := n0_
            have HO255 := n1_
            have HO261 := n2_
            have BK249 := n3_
            have BK263 := n4_
            have HB := n5_
            clear n0_ n1_ n2_ n3_ n4_ n5_
            refine start_ (n := 9) (S := fun w' => w'.cell? ⟨gb263, 0, none⟩ = some (.string t256) ∧ w'.cell? ⟨gb263, 1, none⟩ = some (.string t257) ∧ w'.cell? ⟨gb263, 2, none⟩ = some (.int .i64 t258) ∧ w'.cell? ⟨gb263, 3, none⟩ = some (.slice Ao123 t259.length co123)) (ds := []) #[false, false, false, false, false, false, false, false, false] (by kernel_rfl) rfl rfl ⟨(blk_cell BK263.out 0).trans rfl, (blk_cell BK263.out 1).trans rfl, (blk_cell BK263.out 2).trans rfl, (blk_cell BK263.out 3).trans rfl⟩ (fun hHeld => ?_); refine with_tabW ostiarylaw13_HeadBlanks.tab7 ostiarylaw13_HeadBlanks.bits7 (fun HT_ HW_ => ?_)
            generalize w124.drew = w125 at HO_250003 HO255 HO261 BK249 BK263 HB hHeld ⊢
            refine pure_ (i := 1) (N := some 49) (v := ?_) (a' := ?_) #[false, true, false, false, false, false, false, false, false] rfl rfl (any_of HT_.out (by kernel_rfl)) (fun _ _ _ h => h) (Or.inl ⟨by rfl, ?_⟩) ?_ ?_
            rotate_left
            ·intro w'
             go_simp
             with_reducible rfl
            rotate_left
            ·simp only [Act.put, List.setIfInBounds_toArray, List.set_cons_zero, List.set_cons_succ, i64_w, i32_w]
             rfl
            refine take_ (i := 0) (N := some 48) (v := ?_) (a' := ?_) #[true, true, false, false, false, false, false, false, false] rfl rfl (take_ofW HT_.out HW_.out (by kernel_rfl)) (fun _ _ _ h => h) (Or.inl ⟨by rfl, ?_⟩) hHeld ?_ ?_
            rotate_left
            ·rintro w' ⟨s0, s1, s2, s3⟩
             go_simp
             with_reducible rfl
            rotate_left
            ·simp only [Act.put, List.setIfInBounds_toArray, List.set_cons_zero, List.set_cons_succ, i64_w, i32_w]
             rfl
            refine one_ (i := 2) (N := some 50) #[true, true, true, false, false, false, false, false, false] rfl rfl (one_of HT_.out (by kernel_rfl)) (by decide) (fun K hK => ?_)
            refine goes_ Tryd.func47 (by kernel_rfl) rfl #[.string a0] (by rfl) rfl rfl (by (try simp only [List.map_toArray, List.map_cons, List.map_nil]); first | done | rfl | (simp only [List.length_drop, List.length_take]; rfl)) ?_
            with_reducible refine (ostiarylaw13_turned.calls a0 t264 _ A30.out).mono ?_
            rintro e w126 ⟨rfl, hb⟩
            refine ⟨_, rfl, ?_⟩
            have n0_ := Aside0.mk (Kd.R_below (by (with_reducible repeat (first | apply Kd.R_alloc | apply Kd.R_drewN | apply Kd.R_drew)); exact HO_250003.out) hb)
            have n1_ := Aside0.mk (Kd.V_below (by (with_reducible repeat (first | apply Kd.V_alloc | apply Kd.V_drewN | apply Kd.V_drew)); exact HO255.out) hb)
            have n2_ := Aside0.mk (Kd.R_below (by (with_reducible repeat (first | apply Kd.R_alloc | apply Kd.R_drewN | apply Kd.R_drew)); exact HO261.out) hb)
            have n3_ := Aside0.mk (blk_below (g := gb249) (o := .cells #[.string t243, .string t244, .int .i64 t245, .slice Ao12 t246.length co12] 24 (0, 0)) (by (with_reducible repeat (first | refine blk_drewN ?_ _ | refine blk_drew ?_ | refine blk_alloc ?_ _)); exact BK249.out) hb)
            have n4_ := Aside0.mk (blk_below (g := gb263) (o := .cells #[.string t256, .string t257, .int .i64 t258, .slice Ao123 t259.length co123] 24 (0, 0)) (by (with_reducible repeat (first | refine blk_drewN ?_ _ | refine blk_drew ?_ | refine blk_alloc ?_ _)); exact BK263.out) hb)
            have n5_ := Aside0.mk (below_step (by repeat (first | (with_reducible first | exact HB.out | apply below_alloc | apply pw_below_drewN | apply below_drew1 | refine below_set ?_ GE249.out | refine below_set ?_ GE263.out) | exact HB.out)) hb)
            clear HO_250003
            clear HO255
            clear HO261
            clear BK249
            clear BK263
            clear HB
            have HO_250003 := n0_
            have HO255 := n1_
            have HO261 := n2_
            have BK249 := n3_
            have BK263 := n4_
            have HB := n5_
            clear n0_ n1_ n2_ n3_ n4_ n5_
            (try clear hb)
            (try clear hb2)
            (try clear hk)
            (try clear hi)
            refine hK.out _ _ ⟨(blk_cell BK263.out 0).trans rfl, (blk_cell BK263.out 1).trans rfl, (blk_cell BK263.out 2).trans rfl, (blk_cell BK263.out 3).trans rfl⟩ (fun hHeld => ?_)
            clear hK K
            refine norm_ (a' := ?_) ?_ ?_
            rotate_left
            ·show Act.put _ (some 50) _ = _
             simp only [Act.put, List.setIfInBounds_toArray, List.set_cons_zero, List.set_cons_succ, i64_w, i32_w]
             rfl
            refine one_ (i := 3) (N := some 51) #[true, true, true, true, false, false, false, false, false] rfl rfl (one_of HT_.out (by kernel_rfl)) (by decide) (fun K hK => ?_)
            refine goes_ Tryd.func46 (by kernel_rfl) rfl #[.agg #[.string t256, .string t257, .int .i64 t258, .slice Ao123 t259.length co123], .string t264] (by rfl) rfl rfl (by (try simp only [List.map_toArray, List.map_cons, List.map_nil]); first | done | rfl | (simp only [List.length_drop, List.length_take]; rfl)) ?_
            with_reducible refine (head_Field.calls kj6 t256 t257 t258 _ _ t259 t264 t265 t266 _ ?side1 ?side2 A31.out).mono ?_
            (case side1 => repeat (first | exact (Kd.R_reads' HO261.out).2.2 | (with_reducible refine Kd.C_alloc ?_ _) | (with_reducible refine Kd.C_drewN ?_ _) | (with_reducible refine Kd.C_drew ?_)))
            (case side2 => exact (Kd.R_reads' HO261.out).2.1)
            rintro e w127 ⟨rfl, hb⟩
            refine ⟨_, rfl, ?_⟩
            have n0_ := Aside0.mk (Kd.R_below (by (with_reducible repeat (first | apply Kd.R_alloc | apply Kd.R_drewN | apply Kd.R_drew)); exact HO_250003.out) hb)
            have n1_ := Aside0.mk (Kd.V_below (by (with_reducible repeat (first | apply Kd.V_alloc | apply Kd.V_drewN | apply Kd.V_drew)); exact HO255.out) hb)
            have n2_ := Aside0.mk (Kd.R_below (by (with_reducible repeat (first | apply Kd.R_alloc | apply Kd.R_drewN | apply Kd.R_drew)); exact HO261.out) hb)
            have n3_ := Aside0.mk (blk_below (g := gb249) (o := .cells #[.string t243, .string t244, .int .i64 t245, .slice Ao12 t246.length co12] 24 (0, 0)) (by (with_reducible repeat (first | refine blk_drewN ?_ _ | refine blk_drew ?_ | refine blk_alloc ?_ _)); exact BK249.out) hb)
            have n4_ := Aside0.mk (blk_below (g := gb263) (o := .cells #[.string t256, .string t257, .int .i64 t258, .slice Ao123 t259.length co123] 24 (0, 0)) (by (with_reducible repeat (first | refine blk_drewN ?_ _ | refine blk_drew ?_ | refine blk_alloc ?_ _)); exact BK263.out) hb)
            have n5_ := Aside0.mk (below_step (by repeat (first | (with_reducible first | exact HB.out | apply below_alloc | apply pw_below_drewN | apply below_drew1 | refine below_set ?_ GE249.out | refine below_set ?_ GE263.out) | exact HB.out)) hb)
            clear HO_250003
            clear HO255
            clear HO261
            clear BK249
            clear BK263
            clear HB
            have HO_250003 := n0_
            have HO255 := n1_
            have HO261 := n2_
            have BK249 := n3_
            have BK263 := n4_
            have HB := n5_
            clear n0_ n1_ n2_ n3_ n4_ n5_
            (try clear hb)
            (try clear hb2)
            (try clear hk)
            (try clear hi)
            refine hK.out _ _ ⟨(blk_cell BK263.out 0).trans rfl, (blk_cell BK263.out 1).trans rfl, (blk_cell BK263.out 2).trans rfl, (blk_cell BK263.out 3).trans rfl⟩ (fun hHeld => ?_)
            clear hK K
            refine norm_ (a' := ?_) ?_ ?_
            rotate_left
            ·show Act.put _ (some 51) _ = _
             simp only [Act.put, List.setIfInBounds_toArray, List.set_cons_zero, List.set_cons_succ, i64_w, i32_w]
             rfl
            refine pure_ (i := 4) (N := some 47) (v := ?_) (a' := ?_) #[true, true, true, true, true, false, false, false, false] rfl rfl (any_of HT_.out (by kernel_rfl)) (fun _ _ _ h => h) (Or.inl ⟨by rfl, ?_⟩) ?_ ?_
            rotate_left
            ·intro w'
             go_simp
             with_reducible rfl
            rotate_left
            ·simp only [Act.put, List.setIfInBounds_toArray, List.set_cons_zero, List.set_cons_succ, i64_w, i32_w]
             rfl
            refine pure_ (i := 5) (N := some 52) (v := ?_) (a' := ?_) #[true, true, true, true, true, true, false, false, false] rfl rfl (any_of HT_.out (by kernel_rfl)) (fun _ _ _ h => h) (Or.inl ⟨by rfl, ?_⟩) ?_ ?_
            rotate_left
            ·intro w'
             go_simp
             with_reducible rfl
            rotate_left
            ·simp only [Act.put, List.setIfInBounds_toArray, List.set_cons_zero, List.set_cons_succ, i64_w, i32_w]
             rfl
            refine pure_ (i := 6) (N := some 53) (v := ?_) (a' := ?_) #[true, true, true, true, true, true, true, false, false] rfl rfl (any_of HT_.out (by kernel_rfl)) (fun _ _ _ h => h) (Or.inl ⟨by rfl, ?_⟩) ?_ ?_
            rotate_left
            ·intro w'
             go_simp
             with_reducible rfl
            rotate_left
            ·simp only [Act.put, List.setIfInBounds_toArray, List.set_cons_zero, List.set_cons_succ, i64_w, i32_w]
             rfl
            refine pure_ (i := 7) (N := some 14) (v := ?_) (a' := ?_) #[true, true, true, true, true, true, true, true, false] rfl rfl (any_of HT_.out (by kernel_rfl)) (fun _ _ _ h => h) (Or.inl ⟨by rfl, ?_⟩) ?_ ?_
            rotate_left
            ·intro w'
             go_simp
             with_reducible rfl
            rotate_left
            ·simp only [Act.put, List.setIfInBounds_toArray, List.set_cons_zero, List.set_cons_succ, i64_w, i32_w]
             rfl
            refine pure_ (i := 8) (N := some 15) (v := ?_) (a' := ?_) #[true, true, true, true, true, true, true, true, true] rfl rfl (any_of HT_.out (by kernel_rfl)) (fun _ _ _ h => h) (Or.inl ⟨by rfl, ?_⟩) ?_ ?_
            rotate_left
            ·intro w'
             go_simp
             with_reducible rfl
            rotate_left
            ·simp only [Act.put, List.setIfInBounds_toArray, List.set_cons_zero, List.set_cons_succ, i64_w, i32_w]
             rfl
            refine done_ (done_of HT_.out (by kernel_rfl)) ?_
            try go_wp2
            go_ret
            exact ⟨by first | rfl | (simp [errW_none, errW_some] <;> rfl) | (simp [*, errW_none, errW_some] <;> rfl), by repeat (first | (with_reducible first | exact HB.out | apply below_alloc | apply pw_below_drewN | apply below_drew1 | refine below_set ?_ GE249.out | refine below_set ?_ GE263.out) | exact HB.out)⟩
          ·rw [if_neg c28] at H
           exact absurd H (by simp)
         ·rw [if_neg c27] at H
          exact absurd H (by simp)
        ·rw [if_neg c26] at H
         exact absurd H (by simp)
       ·rw [if_neg c25] at H
        exact absurd H (by simp)
      ·rw [if_neg c23] at H
       exact absurd H (by simp)
     ·rw [if_neg c22] at H
      exact absurd H (by simp)
    ·rw [if_neg c20] at H
     exact absurd H (by simp)

/-- THE ONE PURE STATEMENT of ostiarylaw13_HeadBlanks: yours. -/
def ostiarylaw13_HeadBlanks.Pure : Prop := ∀ (a0 : ByteArray) (a1 : ByteArray) (a2 : Int) (a3 : Int), a0.size ≤ 140737488351232 → a1.size ≤ 140737488351232 → (Lit.int .i64 a2).wf = true → (Lit.int .i64 a3).wf = true → ∃ k, ostiarylaw13_HeadBlanks.f k a0 a1 a2 a3 = some true
theorem ostiarylaw13_HeadBlanks.walk (P : ostiarylaw13_HeadBlanks.Pure) (a0 : ByteArray) (a1 : ByteArray) (a2 : Int) (a3 : Int) (w : World) (w0 : a0.size ≤ 140737488351232) (w1 : a1.size ≤ 140737488351232) (w2 : (Lit.int .i64 a2).wf = true) (w3 : (Lit.int .i64 a3).wf = true) (hG : GG 5 w) :
  Calls Tryd.prog 10 #[.string a0, .string a1, .int .i64 a2, .int .i64 a3] w fun e w' => e = .returned (.bool true) ∧ Below w.heap.size w w' := by
 obtain ⟨k, h⟩ := P a0 a1 a2 a3 w0 w1 w2 w3
 refine (ostiarylaw13_HeadBlanks.calls k a0 a1 a2 a3 true w hG h).mono ?_
 rintro e w' ⟨rfl, hd⟩
 exact ⟨rfl, hd⟩

end Go.Proofs.YtnhpcpmgedjffaaDoor.P
