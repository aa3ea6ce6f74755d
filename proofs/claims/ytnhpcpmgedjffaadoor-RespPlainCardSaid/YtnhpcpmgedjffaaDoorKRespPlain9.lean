import Derived.Test.YtnhpcpmgedjffaaDoorProg
import Derived.Lib.ItoaLen
import Derived.Test.YtnhpcpmgedjffaaDoorRows
import Derived.WalkKit
import Derived.ProofKit
import Derived.OpenShut
import Derived.ShutString
import Derived.ChangeOld
import Derived.Below
import Derived.SizedLaws
import Derived.Test.YtnhpcpmgedjffaaDoorKRespPlain8
section
-- Written by the proof's own program out of the translation; Lean checks it.
namespace Go.Proofs.YtnhpcpmgedjffaaDoor.P
open Go.RowKit Go.Proofs.YtnhpcpmgedjffaaDoorW.PrintWords Go.Proofs.YtnhpcpmgedjffaaDoorW.PrintLast Go.Proofs.YtnhpcpmgedjffaaDoorW.PrintMore Go.Proofs.YtnhpcpmgedjffaaDoorX
attribute [local go_sem] max2_int min2_int max_two min_two max_three min_three max_four min_four   -- for this text's walks alone
set_option linter.unusedVariables false
set_option linter.unusedSimpArgs false

/-! ### ostiarylaw15_RespPlain: function 8 -/
def ostiarylaw15_RespPlain.f (k : Nat) (a0 : Int) (a1 : Bool) : Option (Bool) := (resp_Reason.f a0).bind fun t234 => ((ostiaryref15_Reason.f a0).bind fun t235 => (if t234.toList = t235.toList then ((resp_Plain.f a0 a1).bind fun bt236 => ((ostiaryref15_Plain.f a0 a1).bind fun bt244 => ((ostiarykit_SameResp.f k bt236.1 bt236.2.1 bt236.2.2.1 bt236.2.2.2 bt244.1 bt244.2.1 bt244.2.2.1 bt244.2.2.2).bind fun t252 => (if t252 = true then ((ostiarylaw15_awake.f k).bind fun t253 => (some t253)) else (some false))))) else (some false)))
theorem ostiarylaw15_RespPlain.mono : ∀ a0 a1 k, LeO (ostiarylaw15_RespPlain.f k a0 a1) (ostiarylaw15_RespPlain.f (k + 1) a0 a1) := by
 intro a0 a1 k
 unfold ostiarylaw15_RespPlain.f
 repeat' first
   | (with_reducible exact ostiarykit_SameResp.mono _ _ _ _ _ _ _ _ _)
   | (with_reducible exact ostiarylaw15_awake.mono _)
   | (with_reducible exact LeO.refl _)
   | (with_reducible exact LeO.none _)
   | (with_reducible refine LeO.ite ?_ ?_)
   | (with_reducible refine LeO.bind ?_ (fun _ => ?_))
   | exact ostiarykit_SameResp.mono _ _ _ _ _ _ _ _ _
   | exact ostiarylaw15_awake.mono _
   | exact LeO.none _
   | refine LeO.ite ?_ ?_
   | refine LeO.bind ?_ (fun _ => ?_)
set_option maxHeartbeats 8000000 in
set_option maxRecDepth 100000 in
theorem ostiarylaw15_RespPlain.calls (k : Nat) (a0 : Int) (a1 : Bool) (r : Bool) (w : World) (hG : GG 2 w) (h : ostiarylaw15_RespPlain.f k a0 a1 = some r) :
  Calls Tryd.prog 8 #[.int .i64 a0, .bool a1] w fun e w' => e = .returned (.bool r) ∧ Below w.heap.size w w' := by
 have HGG := Aside0.mk hG
 clear hG
 have HB := Aside0.mk (Below.refl w.heap.size w)
 have H : ((resp_Reason.f a0).bind fun t234 => ((ostiaryref15_Reason.f a0).bind fun t235 => (if t234.toList = t235.toList then ((resp_Plain.f a0 a1).bind fun bt236 => ((ostiaryref15_Plain.f a0 a1).bind fun bt244 => ((ostiarykit_SameResp.f k bt236.1 bt236.2.1 bt236.2.2.1 bt236.2.2.2 bt244.1 bt244.2.1 bt244.2.2.1 bt244.2.2.2).bind fun t252 => (if t252 = true then ((ostiarylaw15_awake.f k).bind fun t253 => (some t253)) else (some false))))) else (some false)))) = some r := h
 clear h
 replace H := Option.bind_eq_some_iff.mp H
 obtain ⟨t234, A30, H⟩ := H
 replace H : ((ostiaryref15_Reason.f a0).bind fun t235 => (if t234.toList = t235.toList then ((resp_Plain.f a0 a1).bind fun bt236 => ((ostiaryref15_Plain.f a0 a1).bind fun bt244 => ((ostiarykit_SameResp.f k bt236.1 bt236.2.1 bt236.2.2.1 bt236.2.2.2 bt244.1 bt244.2.1 bt244.2.2.1 bt244.2.2.2).bind fun t252 => (if t252 = true then ((ostiarylaw15_awake.f k).bind fun t253 => (some t253)) else (some false))))) else (some false))) = some r := H
 have A3 := Aside0.mk A30
 clear A30
 replace H := Option.bind_eq_some_iff.mp H
 obtain ⟨t235, A40, H⟩ := H
 replace H : (if t234.toList = t235.toList then ((resp_Plain.f a0 a1).bind fun bt236 => ((ostiaryref15_Plain.f a0 a1).bind fun bt244 => ((ostiarykit_SameResp.f k bt236.1 bt236.2.1 bt236.2.2.1 bt236.2.2.2 bt244.1 bt244.2.1 bt244.2.2.1 bt244.2.2.2).bind fun t252 => (if t252 = true then ((ostiarylaw15_awake.f k).bind fun t253 => (some t253)) else (some false))))) else (some false)) = some r := H
 have A4 := Aside0.mk A40
 clear A40
 by_cases c5 : t234.toList = t235.toList
 ·rw [if_pos c5] at H
  have c5b0 : (t234.toList == t235.toList) = true := beq_iff_eq.mpr c5
  have c5b1 : (t234.toList != t235.toList) = false := bne_eq_false_iff_eq.mpr c5
  clear c5
  replace H := Option.bind_eq_some_iff.mp H
  obtain ⟨⟨t236, t237, t240, t243⟩, A60, H⟩ := H
  replace H : ((ostiaryref15_Plain.f a0 a1).bind fun bt244 => ((ostiarykit_SameResp.f k t236 t237 t240 t243 bt244.1 bt244.2.1 bt244.2.2.1 bt244.2.2.2).bind fun t252 => (if t252 = true then ((ostiarylaw15_awake.f k).bind fun t253 => (some t253)) else (some false)))) = some r := H
  have A6 := Aside0.mk A60
  clear A60
  replace H := Option.bind_eq_some_iff.mp H
  obtain ⟨⟨t244, t245, t248, t251⟩, A70, H⟩ := H
  replace H : ((ostiarykit_SameResp.f k t236 t237 t240 t243 t244 t245 t248 t251).bind fun t252 => (if t252 = true then ((ostiarylaw15_awake.f k).bind fun t253 => (some t253)) else (some false))) = some r := H
  have A7 := Aside0.mk A70
  clear A70
  replace H := Option.bind_eq_some_iff.mp H
  obtain ⟨t252, A80, H⟩ := H
  replace H : (if t252 = true then ((ostiarylaw15_awake.f k).bind fun t253 => (some t253)) else (some false)) = some r := H
  have A8 := Aside0.mk A80
  clear A80
  by_cases c9 : t252 = true
  ·subst c9
   have H1 : ((ostiarylaw15_awake.f k).bind fun t253 => (some t253)) = some r := by rw [if_pos rfl] at H; exact H
   clear H
   have H := H1
   clear H1
   replace H := Option.bind_eq_some_iff.mp H
   obtain ⟨t253, A100, H⟩ := H
   replace H : (some t253) = some r := H
   have A10 := Aside0.mk A100
   clear A100
   obtain rfl := Option.some.inj H
   go_enter Tryd.func8, Tryd.ntmps8
   go_wp2_with (first | ((with_reducible refine gate_callee (f := 36) rfl ?_); refine goesL_ (some 6) rfl rfl Tryd.func36 (by kernel_rfl) rfl #[.int .i64 a0] rfl (by (try simp only [List.map_toArray, List.map_cons, List.map_nil]); first | done | rfl | (simp only [List.length_drop, List.length_take]; rfl)) ?_; (with_reducible refine (resp_Reason.calls a0 t234 _ A3.out).mono ?_); rintro e w11 ⟨rfl, hb⟩; refine ⟨_, rfl, ?_⟩; have n0_ := Aside0.mk (below_step (by repeat (first | (with_reducible first | exact HB.out | apply below_alloc | apply pw_below_drewN | apply below_drew1) | exact HB.out)) hb); clear HB; have HB := n0_; clear n0_; (try clear hb); (try clear hb2); (try clear hk); (try clear hi)) | ((with_reducible refine gate_callee (f := 37) rfl ?_); refine goesL_ (some 8) rfl rfl Tryd.func37 (by kernel_rfl) rfl #[.int .i64 a0] rfl (by (try simp only [List.map_toArray, List.map_cons, List.map_nil]); first | done | rfl | (simp only [List.length_drop, List.length_take]; rfl)) ?_; (with_reducible refine (ostiaryref15_Reason.calls a0 t235 _ A4.out).mono ?_); rintro e w' ⟨rfl, ⟨nd, rfl⟩⟩; refine ⟨_, rfl, ?_⟩) | (go_at_call 38; (with_reducible refine (resp_Plain.calls a0 a1 t236 t237 t240 t243 _ A6.out).mono ?_); rintro e w12 ⟨v238, v241, rfl, ho0, ho1, hb⟩; have n0_ := Aside0.mk (Kd.R_lower (Kd.R_mono (ok' := fun k_ => True) ho0 (fun _ hk_ => trivial)) (below_size (by repeat (first | (with_reducible first | exact HB.out | apply below_alloc | apply pw_below_drewN | apply below_drew1) | exact HB.out)))); have n1_ := Aside0.mk (Kd.V_lower (Kd.V_mono (ok' := fun k_ => some k_ ≠ (v238 : Value).ownBlock) ho1 (fun k_ hk_ => hk_.2)) (below_size (by repeat (first | (with_reducible first | exact HB.out | apply below_alloc | apply pw_below_drewN | apply below_drew1) | exact HB.out)))); have n2_ := Aside0.mk (below_step (by repeat (first | (with_reducible first | exact HB.out | apply below_alloc | apply pw_below_drewN | apply below_drew1) | exact HB.out)) hb); clear HB; have HO239 := n0_; have HO242 := n1_; have HB := n2_; clear n0_ n1_ n2_; (try clear hb); (try clear hb2); (try clear hk); (try clear hi); (try clear ho0); (try clear ho1)) | (go_at_call 39; (with_reducible refine (ostiaryref15_Plain.calls a0 a1 t244 t245 t248 t251 _ A7.out).mono ?_); rintro e w13 ⟨v246, v249, rfl, ho0, ho1, hb⟩; have n0_ := Aside0.mk (Kd.R_elder' (by (with_reducible repeat (first | apply Kd.R_alloc | apply Kd.R_drewN | apply Kd.R_drew)); exact HO239.out) (Kd.R_base ho0) hb); have n1_ := Aside0.mk (Kd.V_elder' (by (with_reducible repeat (first | apply Kd.V_alloc | apply Kd.V_drewN | apply Kd.V_drew)); exact HO242.out) (Kd.R_base ho0) hb); have n2_ := Aside0.mk (Kd.R_lower (Kd.R_new' (Kd.R_mono (ok' := fun k_ => True) ho0 (fun _ hk_ => trivial)) (Kd.R_lt (by (with_reducible repeat (first | apply Kd.R_alloc | apply Kd.R_drewN | apply Kd.R_drew)); exact HO239.out))) (below_size (by repeat (first | (with_reducible first | exact HB.out | apply below_alloc | apply pw_below_drewN | apply below_drew1) | exact HB.out)))); have n3_ := Aside0.mk (Kd.V_lower (Kd.V_mono (ok' := fun k_ => some k_ ≠ (v246 : Value).ownBlock ∧ some k_ ≠ (v238 : Value).ownBlock) ho1 (fun k_ hk_ => ⟨hk_.2, (Kd.fresh' (Kd.R_lt (by (with_reducible repeat (first | apply Kd.R_alloc | apply Kd.R_drewN | apply Kd.R_drew)); exact HO239.out)) k_ hk_.1)⟩)) (below_size (by repeat (first | (with_reducible first | exact HB.out | apply below_alloc | apply pw_below_drewN | apply below_drew1) | exact HB.out)))); have n4_ := Aside0.mk (below_step (by repeat (first | (with_reducible first | exact HB.out | apply below_alloc | apply pw_below_drewN | apply below_drew1) | exact HB.out)) hb); clear HO239; clear HO242; clear HB; have HO239 := n0_; have HO242 := n1_; have HO247 := n2_; have HO250 := n3_; have HB := n4_; clear n0_ n1_ n2_ n3_ n4_; (try clear hb); (try clear hb2); (try clear hk); (try clear hi); (try clear ho0); (try clear ho1); obtain ⟨Ao14, co14, eo14⟩ := Kd.R_slice HO239.out; subst eo14; obtain ⟨Ao15, co15, eo15⟩ := Kd.V_slice HO242.out; subst eo15; obtain ⟨Ao16, co16, eo16⟩ := Kd.R_slice HO247.out; subst eo16; obtain ⟨Ao17, co17, eo17⟩ := Kd.V_slice HO250.out; subst eo17) | (go_at_call 35; (with_reducible refine (ostiarykit_SameResp.calls k t236 _ _ t237 _ _ t240 t243 t244 _ _ t245 _ _ t248 t251 true _ ?side1 ?side2 ?side3 ?side4 ?side5 ?side6 ?side7 ?side8 A8.out).mono ?_); (case side1 => repeat (first | exact (Kd.R_reads' HO239.out).2.2 | (with_reducible refine Kd.C_alloc ?_ _) | (with_reducible refine Kd.C_drewN ?_ _) | (with_reducible refine Kd.C_drew ?_))); (case side2 => exact (Kd.R_reads' HO239.out).2.1); (case side3 => repeat (first | exact (Kd.V_reads' HO242.out).2.2 | (with_reducible refine Kd.C_alloc ?_ _) | (with_reducible refine Kd.C_drewN ?_ _) | (with_reducible refine Kd.C_drew ?_))); (case side4 => exact (Kd.V_reads' HO242.out).2.1); (case side5 => repeat (first | exact (Kd.R_reads' HO247.out).2.2 | (with_reducible refine Kd.C_alloc ?_ _) | (with_reducible refine Kd.C_drewN ?_ _) | (with_reducible refine Kd.C_drew ?_))); (case side6 => exact (Kd.R_reads' HO247.out).2.1); (case side7 => repeat (first | exact (Kd.V_reads' HO250.out).2.2 | (with_reducible refine Kd.C_alloc ?_ _) | (with_reducible refine Kd.C_drewN ?_ _) | (with_reducible refine Kd.C_drew ?_))); (case side8 => exact (Kd.V_reads' HO250.out).2.1); rintro e w18 ⟨rfl, hb⟩; have n0_ := Aside0.mk (Kd.R_below (by (with_reducible repeat (first | apply Kd.R_alloc | apply Kd.R_drewN | apply Kd.R_drew)); exact HO239.out) hb); have n1_ := Aside0.mk (Kd.V_below (by (with_reducible repeat (first | apply Kd.V_alloc | apply Kd.V_drewN | apply Kd.V_drew)); exact HO242.out) hb); have n2_ := Aside0.mk (Kd.R_below (by (with_reducible repeat (first | apply Kd.R_alloc | apply Kd.R_drewN | apply Kd.R_drew)); exact HO247.out) hb); have n3_ := Aside0.mk (Kd.V_below (by (with_reducible repeat (first | apply Kd.V_alloc | apply Kd.V_drewN | apply Kd.V_drew)); exact HO250.out) hb); have n4_ := Aside0.mk (below_step (by repeat (first | (with_reducible first | exact HB.out | apply below_alloc | apply pw_below_drewN | apply below_drew1) | exact HB.out)) hb); clear HO239; clear HO242; clear HO247; clear HO250; clear HB; have HO239 := n0_; have HO242 := n1_; have HO247 := n2_; have HO250 := n3_; have HB := n4_; clear n0_ n1_ n2_ n3_ n4_; (try clear hb); (try clear hb2); (try clear hk); (try clear hi)) | (go_at_call 29; (with_reducible refine (ostiarylaw15_awake.calls k  t253 _ ?side1 A10.out).mono ?_); (case side1 => exact GG_step HGG.out (by decide) (by repeat (first | (with_reducible first | exact HB.out | apply below_alloc | apply pw_below_drewN | apply below_drew1) | exact HB.out))); rintro e w19 ⟨rfl, hb⟩; have n0_ := Aside0.mk (Kd.R_below (by (with_reducible repeat (first | apply Kd.R_alloc | apply Kd.R_drewN | apply Kd.R_drew)); exact HO239.out) hb); have n1_ := Aside0.mk (Kd.V_below (by (with_reducible repeat (first | apply Kd.V_alloc | apply Kd.V_drewN | apply Kd.V_drew)); exact HO242.out) hb); have n2_ := Aside0.mk (Kd.R_below (by (with_reducible repeat (first | apply Kd.R_alloc | apply Kd.R_drewN | apply Kd.R_drew)); exact HO247.out) hb); have n3_ := Aside0.mk (Kd.V_below (by (with_reducible repeat (first | apply Kd.V_alloc | apply Kd.V_drewN | apply Kd.V_drew)); exact HO250.out) hb); have n4_ := Aside0.mk (below_step (by repeat (first | (with_reducible first | exact HB.out | apply below_alloc | apply pw_below_drewN | apply below_drew1) | exact HB.out)) hb); clear HO239; clear HO242; clear HO247; clear HO250; clear HB; have HO239 := n0_; have HO242 := n1_; have HO247 := n2_; have HO250 := n3_; have HB := n4_; clear n0_ n1_ n2_ n3_ n4_; (try clear hb); (try clear hb2); (try clear hk); (try clear hi)))
   go_ret
   exact ⟨by first | rfl | (simp [errW_none, errW_some] <;> rfl) | (simp [*, errW_none, errW_some] <;> rfl), by repeat (first | (with_reducible first | exact HB.out | apply below_alloc | apply pw_below_drewN | apply below_drew1) | exact HB.out)⟩
  ·replace c9 := Bool.eq_false_iff.mpr c9
   subst c9
   have H1 : (some false) = some r := by rw [if_neg (show ¬ (false = true) by decide)] at H; exact H
   clear H
   have H := H1
   clear H1
   obtain rfl := Option.some.inj H
   go_enter Tryd.func8, Tryd.ntmps8
   go_wp2_with (first | ((with_reducible refine gate_callee (f := 36) rfl ?_); refine goesL_ (some 6) rfl rfl Tryd.func36 (by kernel_rfl) rfl #[.int .i64 a0] rfl (by (try simp only [List.map_toArray, List.map_cons, List.map_nil]); first | done | rfl | (simp only [List.length_drop, List.length_take]; rfl)) ?_; (with_reducible refine (resp_Reason.calls a0 t234 _ A3.out).mono ?_); rintro e w20 ⟨rfl, hb⟩; refine ⟨_, rfl, ?_⟩; have n0_ := Aside0.mk (below_step (by repeat (first | (with_reducible first | exact HB.out | apply below_alloc | apply pw_below_drewN | apply below_drew1) | exact HB.out)) hb); clear HB; have HB := n0_; clear n0_; (try clear hb); (try clear hb2); (try clear hk); (try clear hi)) | ((with_reducible refine gate_callee (f := 37) rfl ?_); refine goesL_ (some 8) rfl rfl Tryd.func37 (by kernel_rfl) rfl #[.int .i64 a0] rfl (by (try simp only [List.map_toArray, List.map_cons, List.map_nil]); first | done | rfl | (simp only [List.length_drop, List.length_take]; rfl)) ?_; (with_reducible refine (ostiaryref15_Reason.calls a0 t235 _ A4.out).mono ?_); rintro e w' ⟨rfl, ⟨nd, rfl⟩⟩; refine ⟨_, rfl, ?_⟩) | (go_at_call 38; (with_reducible refine (resp_Plain.calls a0 a1 t236 t237 t240 t243 _ A6.out).mono ?_); rintro e w21 ⟨v238, v241, rfl, ho0, ho1, hb⟩; have n0_ := Aside0.mk (Kd.R_lower (Kd.R_mono (ok' := fun k_ => True) ho0 (fun _ hk_ => trivial)) (below_size (by repeat (first | (with_reducible first | exact HB.out | apply below_alloc | apply pw_below_drewN | apply below_drew1) | exact HB.out)))); have n1_ := Aside0.mk (Kd.V_lower (Kd.V_mono (ok' := fun k_ => some k_ ≠ (v238 : Value).ownBlock) ho1 (fun k_ hk_ => hk_.2)) (below_size (by repeat (first | (with_reducible first | exact HB.out | apply below_alloc | apply pw_below_drewN | apply below_drew1) | exact HB.out)))); have n2_ := Aside0.mk (below_step (by repeat (first | (with_reducible first | exact HB.out | apply below_alloc | apply pw_below_drewN | apply below_drew1) | exact HB.out)) hb); clear HB; have HO239 := n0_; have HO242 := n1_; have HB := n2_; clear n0_ n1_ n2_; (try clear hb); (try clear hb2); (try clear hk); (try clear hi); (try clear ho0); (try clear ho1)) | (go_at_call 39; (with_reducible refine (ostiaryref15_Plain.calls a0 a1 t244 t245 t248 t251 _ A7.out).mono ?_); rintro e w22 ⟨v246, v249, rfl, ho0, ho1, hb⟩; have n0_ := Aside0.mk (Kd.R_elder' (by (with_reducible repeat (first | apply Kd.R_alloc | apply Kd.R_drewN | apply Kd.R_drew)); exact HO239.out) (Kd.R_base ho0) hb); have n1_ := Aside0.mk (Kd.V_elder' (by (with_reducible repeat (first | apply Kd.V_alloc | apply Kd.V_drewN | apply Kd.V_drew)); exact HO242.out) (Kd.R_base ho0) hb); have n2_ := Aside0.mk (Kd.R_lower (Kd.R_new' (Kd.R_mono (ok' := fun k_ => True) ho0 (fun _ hk_ => trivial)) (Kd.R_lt (by (with_reducible repeat (first | apply Kd.R_alloc | apply Kd.R_drewN | apply Kd.R_drew)); exact HO239.out))) (below_size (by repeat (first | (with_reducible first | exact HB.out | apply below_alloc | apply pw_below_drewN | apply below_drew1) | exact HB.out)))); have n3_ := Aside0.mk (Kd.V_lower (Kd.V_mono (ok' := fun k_ => some k_ ≠ (v246 : Value).ownBlock ∧ some k_ ≠ (v238 : Value).ownBlock) ho1 (fun k_ hk_ => ⟨hk_.2, (Kd.fresh' (Kd.R_lt (by (with_reducible repeat (first | apply Kd.R_alloc | apply Kd.R_drewN | apply Kd.R_drew)); exact HO239.out)) k_ hk_.1)⟩)) (below_size (by repeat (first | (with_reducible first | exact HB.out | apply below_alloc | apply pw_below_drewN | apply below_drew1) | exact HB.out)))); have n4_ := Aside0.mk (below_step (by repeat (first | (with_reducible first | exact HB.out | apply below_alloc | apply pw_below_drewN | apply below_drew1) | exact HB.out)) hb); clear HO239; clear HO242; clear HB; have HO239 := n0_; have HO242 := n1_; have HO247 := n2_; have HO250 := n3_; have HB := n4_; clear n0_ n1_ n2_ n3_ n4_; (try clear hb); (try clear hb2); (try clear hk); (try clear hi); (try clear ho0); (try clear ho1); obtain ⟨Ao23, co23, eo23⟩ := Kd.R_slice HO239.out; subst eo23; obtain ⟨Ao24, co24, eo24⟩ := Kd.V_slice HO242.out; subst eo24; obtain ⟨Ao25, co25, eo25⟩ := Kd.R_slice HO247.out; subst eo25; obtain ⟨Ao26, co26, eo26⟩ := Kd.V_slice HO250.out; subst eo26) | (go_at_call 35; (with_reducible refine (ostiarykit_SameResp.calls k t236 _ _ t237 _ _ t240 t243 t244 _ _ t245 _ _ t248 t251 false _ ?side1 ?side2 ?side3 ?side4 ?side5 ?side6 ?side7 ?side8 A8.out).mono ?_); (case side1 => repeat (first | exact (Kd.R_reads' HO239.out).2.2 | (with_reducible refine Kd.C_alloc ?_ _) | (with_reducible refine Kd.C_drewN ?_ _) | (with_reducible refine Kd.C_drew ?_))); (case side2 => exact (Kd.R_reads' HO239.out).2.1); (case side3 => repeat (first | exact (Kd.V_reads' HO242.out).2.2 | (with_reducible refine Kd.C_alloc ?_ _) | (with_reducible refine Kd.C_drewN ?_ _) | (with_reducible refine Kd.C_drew ?_))); (case side4 => exact (Kd.V_reads' HO242.out).2.1); (case side5 => repeat (first | exact (Kd.R_reads' HO247.out).2.2 | (with_reducible refine Kd.C_alloc ?_ _) | (with_reducible refine Kd.C_drewN ?_ _) | (with_reducible refine Kd.C_drew ?_))); (case side6 => exact (Kd.R_reads' HO247.out).2.1); (case side7 => repeat (first | exact (Kd.V_reads' HO250.out).2.2 | (with_reducible refine Kd.C_alloc ?_ _) | (with_reducible refine Kd.C_drewN ?_ _) | (with_reducible refine Kd.C_drew ?_))); (case side8 => exact (Kd.V_reads' HO250.out).2.1); rintro e w27 ⟨rfl, hb⟩; have n0_ := Aside0.mk (Kd.R_below (by (with_reducible repeat (first | apply Kd.R_alloc | apply Kd.R_drewN | apply Kd.R_drew)); exact HO239.out) hb); have n1_ := Aside0.mk (Kd.V_below (by (with_reducible repeat (first | apply Kd.V_alloc | apply Kd.V_drewN | apply Kd.V_drew)); exact HO242.out) hb); have n2_ := Aside0.mk (Kd.R_below (by (with_reducible repeat (first | apply Kd.R_alloc | apply Kd.R_drewN | apply Kd.R_drew)); exact HO247.out) hb); have n3_ := Aside0.mk (Kd.V_below (by (with_reducible repeat (first | apply Kd.V_alloc | apply Kd.V_drewN | apply Kd.V_drew)); exact HO250.out) hb); have n4_ := Aside0.mk (below_step (by repeat (first | (with_reducible first | exact HB.out | apply below_alloc | apply pw_below_drewN | apply below_drew1) | exact HB.out)) hb); clear HO239; clear HO242; clear HO247; clear HO250; clear HB; have HO239 := n0_; have HO242 := n1_; have HO247 := n2_; have HO250 := n3_; have HB := n4_; clear n0_ n1_ n2_ n3_ n4_; (try clear hb); (try clear hb2); (try clear hk); (try clear hi)))
   go_ret
   exact ⟨by first | rfl | (simp [errW_none, errW_some] <;> rfl) | (simp [*, errW_none, errW_some] <;> rfl), by repeat (first | (with_reducible first | exact HB.out | apply below_alloc | apply pw_below_drewN | apply below_drew1) | exact HB.out)⟩
 ·rw [if_neg c5] at H
  have c5b0 : (t234.toList == t235.toList) = false := beq_eq_false_iff_ne.mpr c5
  have c5b1 : (t234.toList != t235.toList) = true := bne_iff_ne.mpr c5
  obtain rfl := Option.some.inj H
  go_enter Tryd.func8, Tryd.ntmps8
  go_wp2_with (first | ((with_reducible refine gate_callee (f := 36) rfl ?_); refine goesL_ (some 6) rfl rfl Tryd.func36 (by kernel_rfl) rfl #[.int .i64 a0] rfl (by (try simp only [List.map_toArray, List.map_cons, List.map_nil]); first | done | rfl | (simp only [List.length_drop, List.length_take]; rfl)) ?_; (with_reducible refine (resp_Reason.calls a0 t234 _ A3.out).mono ?_); rintro e w28 ⟨rfl, hb⟩; refine ⟨_, rfl, ?_⟩; have n0_ := Aside0.mk (below_step (by repeat (first | (with_reducible first | exact HB.out | apply below_alloc | apply pw_below_drewN | apply below_drew1) | exact HB.out)) hb); clear HB; have HB := n0_; clear n0_; (try clear hb); (try clear hb2); (try clear hk); (try clear hi)) | ((with_reducible refine gate_callee (f := 37) rfl ?_); refine goesL_ (some 8) rfl rfl Tryd.func37 (by kernel_rfl) rfl #[.int .i64 a0] rfl (by (try simp only [List.map_toArray, List.map_cons, List.map_nil]); first | done | rfl | (simp only [List.length_drop, List.length_take]; rfl)) ?_; (with_reducible refine (ostiaryref15_Reason.calls a0 t235 _ A4.out).mono ?_); rintro e w' ⟨rfl, ⟨nd, rfl⟩⟩; refine ⟨_, rfl, ?_⟩))
  go_ret
  exact ⟨by first | rfl | (simp [errW_none, errW_some] <;> rfl) | (simp [*, errW_none, errW_some] <;> rfl), by repeat (first | (with_reducible first | exact HB.out | apply below_alloc | apply pw_below_drewN | apply below_drew1) | exact HB.out)⟩

/-- THE ONE PURE STATEMENT of ostiarylaw15_RespPlain: yours. -/
def ostiarylaw15_RespPlain.Pure : Prop := ∀ (a0 : Int) (a1 : Bool), (Lit.int .i64 a0).wf = true → ∃ k, ostiarylaw15_RespPlain.f k a0 a1 = some true
theorem ostiarylaw15_RespPlain.walk (P : ostiarylaw15_RespPlain.Pure) (a0 : Int) (a1 : Bool) (w : World) (w0 : (Lit.int .i64 a0).wf = true) (hG : GG 2 w) :
  Calls Tryd.prog 8 #[.int .i64 a0, .bool a1] w fun e w' => e = .returned (.bool true) ∧ Below w.heap.size w w' := by
 obtain ⟨k, h⟩ := P a0 a1 w0
 refine (ostiarylaw15_RespPlain.calls k a0 a1 true w hG h).mono ?_
 rintro e w' ⟨rfl, hd⟩
 exact ⟨rfl, hd⟩

end Go.Proofs.YtnhpcpmgedjffaaDoor.P
end
section
-- Written by the proof's own program out of the translation; Lean checks it.
namespace Go.Proofs.YtnhpcpmgedjffaaDoor.P
open Go.RowKit Go.Proofs.YtnhpcpmgedjffaaDoorW.PrintWords Go.Proofs.YtnhpcpmgedjffaaDoorW.PrintLast Go.Proofs.YtnhpcpmgedjffaaDoorW.PrintMore Go.Proofs.YtnhpcpmgedjffaaDoorX
attribute [local go_sem] max2_int min2_int max_two min_two max_three min_three max_four min_four   -- for this text's walks alone
set_option linter.unusedVariables false
set_option linter.unusedSimpArgs false

end Go.Proofs.YtnhpcpmgedjffaaDoor.P
end
section
namespace Go.Proofs.YtnhpcpmgedjffaaDoor.P
open Go.RowKit Go.Proofs.YtnhpcpmgedjffaaDoorW.PrintWords Go.Proofs.YtnhpcpmgedjffaaDoorW.PrintLast Go.Proofs.YtnhpcpmgedjffaaDoorW.PrintMore Go.Proofs.YtnhpcpmgedjffaaDoorX
set_option linter.unusedVariables false
set_option linter.unusedSimpArgs false

theorem Ev.ite_pos {α : Type} {c : Prop} [Decidable c] {f g : Nat → Option α} {r : α} (hc : c) (h : Ev f r) : Ev (fun k => if c then f k else g k) r := by
  simpa [hc] using h
theorem Ev.ite_neg {α : Type} {c : Prop} [Decidable c] {f g : Nat → Option α} {r : α} (hc : ¬ c) (h : Ev g r) : Ev (fun k => if c then f k else g k) r := by
  simpa [hc] using h
theorem Ev.some_bind {α β : Type} {o : Option α} {f : Nat → α → Option β} {a : α} {r : β} (h : o = some a) (k : Ev (fun n => f n a) r) : Ev (fun n => o.bind (f n)) r := by
  subst h; exact k
theorem Ev.is {α : Type} {g : Nat → Option α} {a b : α} (h : Ev g a) (e : a = b) : Ev g b := e ▸ h
theorem wrap64_id {n : Int} (h0 : -9223372036854775808 ≤ n) (h1 : n ≤ 9223372036854775807) : wrap64 n = n := by
  unfold wrap64; omega
end Go.Proofs.YtnhpcpmgedjffaaDoor.P
end
section
namespace Go.Proofs.YtnhpcpmgedjffaaDoor.P
open Go.RowKit Go.Proofs.YtnhpcpmgedjffaaDoorW.PrintWords Go.Proofs.YtnhpcpmgedjffaaDoorW.PrintLast Go.Proofs.YtnhpcpmgedjffaaDoorW.PrintMore Go.Proofs.YtnhpcpmgedjffaaDoorX
set_option linter.unusedVariables false
set_option linter.unusedSimpArgs false

abbrev SF := S67
end Go.Proofs.YtnhpcpmgedjffaaDoor.P
end
section
namespace Go.Proofs.YtnhpcpmgedjffaaDoor.P
open Go.RowKit Go.Proofs.YtnhpcpmgedjffaaDoorW.PrintWords Go.Proofs.YtnhpcpmgedjffaaDoorW.PrintLast Go.Proofs.YtnhpcpmgedjffaaDoorW.PrintMore Go.Proofs.YtnhpcpmgedjffaaDoorX
set_option linter.unusedVariables false
set_option linter.unusedSimpArgs false
theorem reason_size (st : Int) : (reasonS st).size ≤ 40 := by
  unfold reasonS
  cases hf : RT.find? (fun p => st == p.1) with
  | none => exact Nat.zero_le _
  | some p =>
    have h2 := List.mem_of_find?_eq_some hf
    have h3 : ∀ p ∈ RT, p.2.size ≤ 40 := by decide
    exact h3 p h2
theorem awake15_ev : Ev (fun k => ostiarylaw15_awake.f k) true := Ev.of ostiarylaw15_awake.mono (k := 60) (by decide +kernel)
theorem sameF15_loop (fs : List SF) (hf : fs.length ≤ 9223372036854775000) : ∀ (m i : Nat), i + m = fs.length → Ev (fun k => ostiarykit_SameFields.l0 k fs fs (i : Int)) true
  | 0, i, h => Ev.step (fun k => by rw [ostiarykit_SameFields.l0]) (Ev.ite_neg (by omega) (Ev.now _))
  | m + 1, i, h => by
    refine Ev.step (fun k => by rw [ostiarykit_SameFields.l0]) (Ev.ite_pos (by omega) (Ev.ite_pos (by omega) (Ev.ite_pos (by omega) (Ev.ite_neg (by simp) ?_))))
    rw [wrap64_id (by omega) (by omega)]
    exact sameF15_loop fs hf m (i + 1) (by omega)
theorem sameResp_ev (st : Int) (fs : List SF) (body : List Int) (keep : Bool) (hf : fs.length ≤ 9223372036854775000) : Ev (fun k => ostiarykit_SameResp.f k st fs body keep st fs body keep) true := by
  unfold ostiarykit_SameResp.f ostiarykit_SameFields.f ostiarykit_SameBytes.f
  exact Ev.ite_pos rfl (Ev.ite_pos (by simp) (Ev.bind (Ev.ite_pos rfl (sameF15_loop fs hf fs.length 0 (by omega))) (Ev.ite_pos rfl (Ev.some_bind rfl (Ev.is (Ev.now _) (by simp))))))
end Go.Proofs.YtnhpcpmgedjffaaDoor.P
end
section
namespace Go.Proofs.YtnhpcpmgedjffaaDoor.P
open Go.RowKit Go.Proofs.YtnhpcpmgedjffaaDoorW.PrintWords Go.Proofs.YtnhpcpmgedjffaaDoorW.PrintLast Go.Proofs.YtnhpcpmgedjffaaDoorW.PrintMore Go.Proofs.YtnhpcpmgedjffaaDoorX
set_option linter.unusedVariables false
theorem rreason_eq2 (n : Int) : ostiaryref15_Reason.f n = some (reasonS n) := by
  unfold ostiaryref15_Reason.f
  by_cases h200 : n = 200
  · subst h200; rfl
  rw [if_neg h200]
  by_cases h400 : n = 400
  · subst h400; rfl
  rw [if_neg h400]
  by_cases h404 : n = 404
  · subst h404; rfl
  rw [if_neg h404]
  by_cases h405 : n = 405
  · subst h405; rfl
  rw [if_neg h405]
  by_cases h411 : n = 411
  · subst h411; rfl
  rw [if_neg h411]
  by_cases h413 : n = 413
  · subst h413; rfl
  rw [if_neg h413]
  by_cases h414 : n = 414
  · subst h414; rfl
  rw [if_neg h414]
  by_cases h415 : n = 415
  · subst h415; rfl
  rw [if_neg h415]
  by_cases h417 : n = 417
  · subst h417; rfl
  rw [if_neg h417]
  by_cases h429 : n = 429
  · subst h429; rfl
  rw [if_neg h429]
  by_cases h431 : n = 431
  · subst h431; rfl
  rw [if_neg h431]
  by_cases h501 : n = 501
  · subst h501; rfl
  rw [if_neg h501]
  by_cases h503 : n = 503
  · subst h503; rfl
  rw [if_neg h503]
  by_cases h505 : n = 505
  · subst h505; rfl
  rw [if_neg h505]
  have b200 : (n == 200) = false := by simpa using h200
  have b400 : (n == 400) = false := by simpa using h400
  have b404 : (n == 404) = false := by simpa using h404
  have b405 : (n == 405) = false := by simpa using h405
  have b411 : (n == 411) = false := by simpa using h411
  have b413 : (n == 413) = false := by simpa using h413
  have b414 : (n == 414) = false := by simpa using h414
  have b415 : (n == 415) = false := by simpa using h415
  have b417 : (n == 417) = false := by simpa using h417
  have b429 : (n == 429) = false := by simpa using h429
  have b431 : (n == 431) = false := by simpa using h431
  have b501 : (n == 501) = false := by simpa using h501
  have b503 : (n == 503) = false := by simpa using h503
  have b505 : (n == 505) = false := by simpa using h505
  refine congrArg some ?_
  unfold reasonS RT
  simp only [List.find?, b200, b400, b404, b405, b411, b413, b414, b415, b417, b429, b431, b501, b503, b505]
  rfl

theorem respPlain_pure2 : ostiarylaw15_RespPlain.Pure := by
  intro st keep _
  have h : Ev (fun k => ostiarylaw15_RespPlain.f k st keep) true := by
    have hsz := reason_size st
    have e1 : (⟨#[10]⟩ : ByteArray).size = 1 := rfl
    unfold ostiarylaw15_RespPlain.f resp_Plain.f ostiaryref15_Plain.f
    refine Ev.some_bind rfl (Ev.some_bind (rreason_eq2 st) (Ev.ite_pos rfl ?_))
    refine Ev.bind (Ev.some_bind rfl (Ev.ite_pos (by omega) (Ev.ite_pos (by rw [ByteArray.size_append, e1]; omega) (Ev.now _)))) ?_
    refine Ev.bind (Ev.some_bind (rreason_eq2 st) (Ev.ite_pos (by omega) (Ev.ite_pos (by rw [ByteArray.size_append, e1]; omega) (Ev.now _)))) ?_
    exact Ev.bind (sameResp_ev _ _ _ _ (by show (1 : Nat) ≤ _; decide)) (Ev.ite_pos rfl (Ev.bind awake15_ev (Ev.now _)))
  exact h.rounds
theorem respPlain_walk2 (a0 : Int) (a1 : Bool) (w : World) (w0 : (Lit.int .i64 a0).wf = true) (hG : GG 7 w) :
    Calls Tryd.prog 8 #[.int .i64 a0, .bool a1] w fun e w' => e = .returned (.bool true) ∧ Below w.heap.size w w' :=
  ostiarylaw15_RespPlain.walk respPlain_pure2 a0 a1 w w0 (GG_sub hG rfl)
end Go.Proofs.YtnhpcpmgedjffaaDoor.P
end
section
/-! The premise on the variables with strconv's powers of ten. -/
namespace Go.Proofs.YtnhpcpmgedjffaaDoorX
open Go Go.RowKit Go.Lib Go.Proofs Go.Proofs.YtnhpcpmgedjffaaDoor
theorem pow10_of {W : World} (h : VarReads Tryd.prog W "internal/strconv.uint64pow10" Rows.laid_internal_strconv_uint64pow10) : Lib.TabIs Tryd.prog W "internal/strconv.uint64pow10" .u64 Lib.pow10Tab ∧ 1 < W.heap.size := by
  rw [show (Rows.laid_internal_strconv_uint64pow10 : DataW Unit) = tabData .u64 Lib.pow10Tab by kernel_rfl] at h
  obtain ⟨g, t, cs, fuel, p, hg, hty, hvar, hd⟩ := h
  obtain rfl := Option.some.inj ((show Tryd.prog.globalNamed "internal/strconv.uint64pow10" = some 1 by kernel_rfl).symm.trans hg)
  obtain rfl := Option.some.inj ((show (Tryd.prog.globals[1]?).map (·.type) = some 204 by kernel_rfl).symm.trans hty)
  have hcs := cells_of_tab Tryd.underlying204 Tryd.underlying174 (by kernel_rfl) (by kernel_rfl) hd
  have he : cs = (Lib.pow10Tab.map fun z => Value.int .u64 z).toArray := by rw [← hcs]
  subst he
  refine ⟨hvar, ?_⟩
  have h0 := World.var?_cell hg hvar 0
  rcases Nat.lt_or_ge 1 W.heap.size with h1 | h1
  · exact h1
  · exfalso
    have h2 : W.cell? ⟨1, 0, none⟩ = none := by
      unfold World.cell?
      rw [Array.getElem?_eq_none h1]
    rw [h2] at h0
    revert h0
    decide
theorem gg7_of {W : World} (hsh : W.ShapedOpen Tryd.prog) (h3 : VarReads Tryd.prog W "unicode/utf8.first" Rows.laid_unicode_utf8_first) (h4 : VarReads Tryd.prog W "unicode/utf8.acceptRanges" Rows.laid_unicode_utf8_acceptRanges) (h5 : VarReads Tryd.prog W "internal/strconv.uint64pow10" Rows.laid_internal_strconv_uint64pow10) : GG 7 W :=
  ⟨fun _ => maxlen_of hsh, fun _ => pow10_of h5, fun _ => utf8_of h3 h4⟩
end Go.Proofs.YtnhpcpmgedjffaaDoorX
end
section
/-! The row of RespPlain. -/
namespace Go.Proofs.YtnhpcpmgedjffaaDoor.respPlain
open Go.ChangeShapes Go.WideShapes Go.ChangeAt Go.RowKit Go.Lib Go.Proofs.YtnhpcpmgedjffaaDoorX
open Go.ChangeMaps (open_string shut_string)
set_option linter.unusedVariables false
set_option maxRecDepth 100000 in
theorem door_met (os : Os) (args : Array Value) : laidMetH Tryd.prog Rows.respPlainRow.laid ((doorWorld os).forCall (fun _ _ => 0) ⟨#[], args, []⟩).memory :=
  laidMetH_of_parts3 (fuel := 8) (laidMet_of_run' 8 (by kernel_rfl) (by kernel_rfl)) (by kernel_rfl) (by kernel_rfl)
set_option maxRecDepth 100000 in
theorem lifted (os : Os) (started : os.Started) (H : Type) (enc : TypeId × Value → H) :
    ReturnsInHanded {} Tryd.checked os 8 .any (fun w args => (Rows.respPlainSpec.pre enc Tryd.checked.prog Tryd.f8 Rows.respPlainRow.domain false w args ∧ laidMetH Tryd.prog Rows.respPlainRow.laid w) ∧ sizedMet enc Tryd.checked.prog Tryd.f8 (OpenSpec.ofChange Rows.respPlainSpec) false w args) (Rows.respPlainSpec.post enc Tryd.checked.prog Tryd.f8 false true false false) := by
  refine handed_laid (C := Tryd.checked) (X := (fun w _ => laidMetH Tryd.prog Rows.respPlainRow.laid w)) (fun _ _ _ hh h => h.of_heap hh) own started (by kernel_rfl) Tryd.func8
    (ChangeSpec.witness_shaped (enc := enc) (C := Tryd.checked) (os := os) (X := (fun w _ => laidMetH Tryd.prog Rows.respPlainRow.laid w)) false (doorWorld os) #[.int .i64 0, .bool false] 8 rfl (World.shaped_of_RefB (by kernel_rfl) (by kernel_rfl)) (by kernel_rfl) (by kernel_rfl) (by kernel_rfl) (door_met os _)) ?_
  intro W base args ds gs before hval0 hW hcnd hsz0 hL hsh
  have hsz : (DataW.weightsEach Tryd.prog (Tryd.f8.params.toList ++ Rows.respPlainSpec.plain.varTypes Tryd.prog) (ds ++ gs)).all (· ≤ reachBytes) = true := hsz0
  have hval : ∀ (j : Nat) t v, Tryd.f8.params[j]? = some t → args[j]? = some v → Value.okWide Tryd.prog W .any base t v := hval0
  have hL' : laidMet Tryd.prog Rows.respPlainRow.laid W := by
    have h := hL
    rw [MakeChecks.laidMetH_plain _ _ _ (by kernel_rfl)] at h
    exact h
  have hG : GG 7 W := gg7_of hsh (Lib.laidMet.reads hL' (.tail _ (.tail _ (.tail _ (.tail _ (.head _)))))) (Lib.laidMet.reads hL' (.tail _ (.tail _ (.tail _ (.head _))))) (Lib.laidMet.reads hL' (.tail _ (.tail _ (.head _))))
  have hW' := hW
  obtain ⟨p, q, hA0, hV, rfl, hfz, hnd⟩ := hW
  have hA : DataW.TrodAll enc Tryd.prog W 0 (fun _ => true) true Tryd.f8.params.toList args.toList ds p := hA0
  rw [Tryd.params8] at hA hval hsz
  obtain ⟨v0, vs0, d0, ds0, p0, q0, hargs, rfl, rfl, h0, r0⟩ := trodAll_cons hA
  obtain ⟨v1, vs1, d1, ds1, p1, q1, rfl, rfl, rfl, h1, r1⟩ := trodAll_cons r0
  obtain ⟨rfl, rfl, rfl⟩ := trodAll_nil r1
  obtain rfl : args = #[v0, v1] := by cases args; simp_all
  obtain ⟨rfl, rfl⟩ := trodVars_none hV
  obtain ⟨a0, rfl, rfl, rfl, w0⟩ := open_int Tryd.underlying3 (hval 0 3 v0 rfl rfl) h0
  obtain ⟨a1, rfl, rfl, rfl⟩ := open_bool Tryd.underlying4 (hval 1 4 v1 rfl rfl) h1
  clear hA0 hval0 hsz0 hsz
  refine (P.respPlain_walk2 a0 a1 W w0  hG).mono fun e W' ⟨he, bel⟩ => ?_
  subst he
  exact ⟨_, rfl, _, _, _, [], _, [], hW', trodAll_mk1 (shut_bool Tryd.underlying4 _), (trodAll_cons_mk (shut_int Tryd.underlying3 w0) (trodAll_cons_mk (shut_bool Tryd.underlying4 _) trodAll_mk0)), rfl, bel.frame _, fun h => by cases h⟩
theorem andT {a b : Bool} (h1 : a = true) (h2 : b = true) : (a && b) = true := Bool.and_eq_true_iff.2 ⟨h1, h2⟩
set_option maxHeartbeats 4000000 in
theorem facts : joinedFacts Tryd.prog 8 Tryd.f8 Rows.respPlainSpec Rows.respPlainRow = true := by
  unfold joinedFacts
  iterate 31 (refine andT ?_ (by as_aux_lemma => kernel_rfl))
  as_aux_lemma => kernel_rfl
theorem over : Rows.respPlainRow.holds Tryd.pinned (OpenSpec.ofChange Rows.respPlainSpec) :=
  OpenClaim.holds_of_wide 8 Tryd.f8 rfl rfl rfl rfl rfl rfl rfl ⟨rfl, rfl, rfl, rfl, rfl⟩ rfl rfl rfl rfl rfl (by kernel_rfl) Tryd.func8 facts
    (of_decide_eq_true (by kernel_rfl)) (by unfold Func.isWrapper; first | (rw [if_pos (by decide +kernel)]; kernel_rfl) | (rw [if_neg (by decide +kernel)]; exact ⟨rfl, rfl⟩))
    (fun os started H enc _ => lifted os started H enc)
theorem proved : Rows.RespPlainSaid := over
end Go.Proofs.YtnhpcpmgedjffaaDoor.respPlain
end
