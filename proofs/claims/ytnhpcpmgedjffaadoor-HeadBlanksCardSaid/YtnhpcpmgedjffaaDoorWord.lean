import Derived.Test.YtnhpcpmgedjffaaDoorProg
import Derived.Test.YtnhpcpmgedjffaaDoorOfstr
import Derived.Outline
import Derived.Lib.Strings
import Derived.Laws.CopyOwn
/-! head.letters and head.word: a table of 256 bools, in memory. -/
namespace Go.Proofs.YtnhpcpmgedjffaaDoorX
open Go.RowKit Go.Proofs.YtnhpcpmgedjffaaDoorW.PrintWords Go.Proofs.YtnhpcpmgedjffaaDoorW.PrintLast Go.Proofs.YtnhpcpmgedjffaaDoorW.PrintMore
set_option linter.unusedVariables false
set_option linter.unusedSimpArgs false

/-- The table of what a text holds. -/
def tabB (l : List Int) (i : Nat) : Bool := l.any fun c => c == (i : Int)
def tab (l : List Int) : Array Value := ((List.range 256).map fun i => Value.bool (tabB l i)).toArray
theorem tab_size (l : List Int) : (tab l).size = 256 := by simp [tab]
theorem tab_get (l : List Int) (i : Nat) (h : i < 256) : (tab l)[i]? = some (.bool (tabB l i)) := by simp [tab, h]
theorem tab_set (l : List Int) (c : Int) (h0 : 0 ≤ c) (h1 : c < 256) : (tab l).setIfInBounds c.toNat (.bool true) = tab (l ++ [c]) := by
  apply Array.ext_getElem?
  intro i
  rw [Array.getElem?_setIfInBounds]
  rcases Nat.lt_or_ge i 256 with hi | hi
  · rw [tab_get _ _ hi, tab_get _ _ hi, tab_size]
    by_cases e : c.toNat = i
    · subst e
      rw [if_pos rfl, if_pos hi]
      have : tabB (l ++ [c]) c.toNat = true := by simp [tabB, Int.toNat_of_nonneg h0]
      rw [this]
    · rw [if_neg e]
      have : tabB (l ++ [c]) i = tabB l i := by
        unfold tabB
        rw [List.any_append]
        have : ([c].any fun x => x == (i : Int)) = false := by simp; omega
        rw [this, Bool.or_false]
      rw [this]
  · have h2 : ∀ l', (tab l')[i]? = none := fun l' => Array.getElem?_eq_none (by rw [tab_size]; omega)
    rw [h2, h2, tab_size]
    by_cases e : c.toNat = i
    · omega
    · rw [if_neg e]
theorem tab_one {l : List Int} : (tab l).all (·.oneCell') = true := by
  rw [Array.all_eq_true_iff_forall_mem]
  intro v hv
  simp only [tab, List.mem_toArray, List.mem_map] at hv
  obtain ⟨i, _, rfl⟩ := hv
  rfl
def zeroTab : Array Value := tab []
theorem alloc_tab (w : World) (ev : Operand → Value) (o : Oper) (ho : o.op = .alloc 135) : (execOp ev o).run Tryd.prog w = .ok (.value (.pointer (some ⟨w.heap.size, 0, none⟩))) (w.alloc (.cells zeroTab 135 (0, 0))) := by
  unfold execOp
  rw [ho]
  kernel_rfl

set_option maxHeartbeats 1000000 in
set_option maxRecDepth 100000 in
theorem letters_calls (s : ByteArray) (w : World) (hs : s.size ≤ 140737488355328) :
    Calls Tryd.prog 106 #[.string s] w fun e w' => e = .returned (.agg (tab (bytesOf s))) ∧ Below w.heap.size w w' := by
  have HB := Aside0.mk (Below.refl w.heap.size w)
  have Hs := Aside0.mk hs
  clear hs
  go_enter Tryd.func106, Tryd.ntmps106
  go_wp2_with (first | ((with_reducible refine gate_dst (N := 2) rfl ?_); refine box_event ?hg (N := 2) ?hd (cs := zeroTab) (t := 135) ?hr ?_; (case hd => rfl); (case hg => rfl); (case hr => exact alloc_tab _ _ _ rfl); intro g hg w1 hblk hb; have GE := Aside0.mk (show w.heap.size ≤ g by rw [hg]; exact Nat.le_refl _); have BK := Aside0.mk hblk; clear HB; have HB := Aside0.mk hb; clear hblk hb hg) | ((with_reducible refine gate_dst (N := 6) rfl ?_); refine V_ofstr _ 5 rfl (N := 6) rfl 9 25 _ rfl s rfl Tryd.underlying9 Tryd.underlying25 Tryd.underlying5 (ok := fun k_ => k_ ≠ g) (fun e => by have := blk_lt BK.out; omega) (Nat.le_trans Hs.out (by omega)) (Below.refl _ _) (Nat.le_refl _) ?_; intro v2 w2 hv hb hg_ hnew_; have n0_ := Aside0.mk (below_step HB.out hb); have n1_ := Aside0.mk hv; have n2_ := Aside0.mk (blk_below BK.out hb); clear HB BK; have HB := n0_; have HV := n1_; have BK := n2_; clear n0_ n1_ n2_ hb hv hg_ hnew_; obtain ⟨Ao, co, eo⟩ := Kd.V_slice HV.out; subst eo))
  have Hmem : ∀ (k : Int), 0 ≤ rd (bytesOf s) k ∧ rd (bytesOf s) k ≤ 255 := fun k => by rw [rd_bytesOf]; exact bt_range s k
  have Hlen : (bytesOf s).length ≤ 140737488355328 := by rw [bytesOf_length]; exact Hs.out
  obtain ⟨l, hl⟩ : ∃ l, bytesOf s = l := ⟨_, rfl⟩
  rw [hl] at Hmem Hlen HV ⊢
  have HM := Aside0.mk Hmem
  have Hl := Aside0.mk hl
  clear Hmem hl
  go_loopw [8] (fun v8 wr => ∃ k : Nat, k ≤ l.length ∧ v8 = .int .i64 k ∧ Aside0 (wr.heap[g]? = some (.cells (tab (l.take k)) 135 (0, 0))) ∧ Aside0 (Kd.V (Kd.int .u8) 5 wr w.heap.size (fun k_ => k_ ≠ g) (.slice Ao l.length co) l) ∧ Aside0 (Below w.heap.size w wr)) (fun v8 _ => l.length - (intOf v8).toNat)
  case atStart => exact ⟨0, Nat.zero_le _, rfl, ⟨by rw [List.take_zero]; exact BK.out⟩, ⟨by unfold Kd.V; exact HV.out⟩, HB⟩
  case round =>
    obtain ⟨k, hk, rfl, BK, HV, HB⟩ := hrel
    by_cases hlt : k < l.length
    · obtain ⟨ad, e, hx⟩ := Kd.at_int (Kd.V_reads' HV.out).2.2 (k : Int) (by omega) (by omega)
      cases e
      rw [Int.toNat_natCast] at hx
      have hr0 := (HM.out k).1
      have hr1 := (HM.out k).2
      have hc := (blk_cell BK.out (rd l k).toNat).trans (tab_get _ _ (by omega))
      have hf := blk_frozen BK.out (rd l k).toNat
      go_wp2
      go_roundw
      case measure => simp [intOf]; omega
      case rel =>
        refine ⟨k + 1, by omega, by go_num, ⟨?_⟩, ⟨Kd.V_far HV.out (fun _ hk => hk) _⟩, ⟨below_set HB.out GE.out⟩⟩
        have e1 := blk_set BK.out (rd l k).toNat (.bool true)
        rw [tab_set _ _ hr0 (by omega)] at e1
        have e2 : l.take (k + 1) = l.take k ++ [rd l k] := by
          rw [List.take_succ_eq_append_getElem hlt]
          congr 2
          simp [rd, List.getD_eq_getElem?_getD, List.getElem?_eq_getElem hlt]
        rw [e2]
        exact e1
    · have hk' : k = l.length := by omega
      subst hk'
      rw [List.take_length] at BK
      go_wp2_with (first | (refine wpList_load_row rfl 135 _ rfl g rfl 135 (tab l) (0, 0) _ BK.out Tryd.underlying135 rfl (by rw [tab_size]; kernel_rfl) ?_) | (refine wpList_store_row rfl 135 _ _ rfl g (tab l) rfl rfl 135 (tab l) BK.out (by rw [tab_size]; kernel_rfl) rfl tab_one ?_))
      refine bodyPost_ret (results_cell_row rfl _ _ g 135 (tab l) (0, 0) _ rfl (setRow_heap _ _ _ _ _ _ BK.out) Tryd.underlying135 rfl (by rw [tab_size]; kernel_rfl)) rfl ?_
      exact ⟨by rw [Hl.out], Go.below_setRow HB.out GE.out _⟩

def LETS : ByteArray := ⟨#[48, 49, 50, 51, 52, 53, 54, 55, 56, 57, 65, 66, 67, 68, 69, 70, 71, 72, 73, 74, 75, 76, 77, 78, 79, 80, 81, 82, 83, 84, 85, 86, 87, 88, 89, 90, 97, 98, 99, 100, 101, 102, 103, 104, 105, 106, 107, 108, 109, 110, 111, 112, 113, 114, 115, 116, 117, 118, 119, 120, 121, 122, 33, 35, 36, 37, 38, 39, 42, 43, 45, 46, 94, 95, 96, 124, 126]⟩
def wordL (c : Int) : Bool := tabB (bytesOf LETS) c.toNat
def wordF (l : List Int) (most : Int) : Bool := l.all wordL && (l.length != 0 && decide ((l.length : Int) ≤ most))
set_option maxHeartbeats 1000000 in
set_option maxRecDepth 100000 in
theorem word_calls (s : ByteArray) (most : Int) (w : World) (hs : s.size ≤ 140737488355328) :
    Calls Tryd.prog 75 #[.string s, .int .i64 most] w fun e w' => e = .returned (.bool (wordF (bytesOf s) most)) ∧ Below w.heap.size w w' := by
  have HB := Aside0.mk (Below.refl w.heap.size w)
  have Hs := Aside0.mk hs
  clear hs
  go_enter Tryd.func75, Tryd.ntmps75
  go_wp2_with (first | (go_at_call 106; refine (letters_calls LETS _ (by decide)).mono ?_; rintro e w1 ⟨rfl, hb⟩; have n0_ := Aside0.mk (below_step HB.out hb); clear HB hb; have HB := n0_; clear n0_) | ((with_reducible refine gate_dst (N := 5) rfl ?_); refine box_event ?hg (N := 5) ?hd (cs := zeroTab) (t := 135) ?hr ?_; (case hd => rfl); (case hg => rfl); (case hr => exact alloc_tab _ _ _ rfl); intro g hg w1 hblk hb; have GE := Aside0.mk (show w.heap.size ≤ g by rw [hg]; exact (below_size HB.out)); have BK := Aside0.mk hblk; have n0_ := Aside0.mk (below_step HB.out hb); clear HB; have HB := n0_; clear hblk hb hg n0_) | (refine wpList_store_row rfl 135 _ _ rfl g (tab (bytesOf LETS)) rfl rfl 135 zeroTab BK.out (by rw [tab_size]; kernel_rfl) (by rw [tab_size]; exact tab_size _) tab_one ?_; have n0_ := Aside0.mk (Go.below_setRow HB.out GE.out (tab (bytesOf LETS))); have n1_ := Aside0.mk (setRow_heap _ _ _ (tab (bytesOf LETS)) _ _ BK.out); clear HB BK; have HB := n0_; have BK := n1_; clear n0_ n1_; obtain ⟨w5, hw5⟩ : ∃ w5, w5 = World.setRow w1 g (tab (bytesOf LETS)) := ⟨_, rfl⟩; rw [← hw5] at HB BK ⊢; clear hw5) | ((with_reducible refine gate_dst (N := 10) rfl ?_); refine V_ofstr _ 5 rfl (N := 10) rfl 9 25 _ rfl s rfl Tryd.underlying9 Tryd.underlying25 Tryd.underlying5 (ok := fun k_ => k_ ≠ g) (fun e => by have := blk_lt BK.out; omega) (Nat.le_trans Hs.out (by omega)) (Below.refl _ _) (Nat.le_refl _) ?_; intro v2 w2 hv hb hg_ hnew_; have n0_ := Aside0.mk (below_step HB.out hb); have n1_ := Aside0.mk hv; have n2_ := Aside0.mk (blk_below BK.out hb); clear HB BK; have HB := n0_; have HV := n1_; have BK := n2_; clear n0_ n1_ n2_ hb hv hg_ hnew_; obtain ⟨Ao, co, eo⟩ := Kd.V_slice HV.out; subst eo))
  have Hmem : ∀ (k : Int), 0 ≤ rd (bytesOf s) k ∧ rd (bytesOf s) k ≤ 255 := fun k => by rw [rd_bytesOf]; exact bt_range s k
  have Hlen : (bytesOf s).length ≤ 140737488355328 := by rw [bytesOf_length]; exact Hs.out
  have Hsz := Aside0.mk (bytesOf_length s)
  obtain ⟨l, hl⟩ : ∃ l, bytesOf s = l := ⟨_, rfl⟩
  rw [hl] at Hmem Hlen HV Hsz ⊢
  have HM := Aside0.mk Hmem
  have Hl := Aside0.mk hl
  clear Hmem hl
  go_loopw [12] (fun v8 wr => ∃ k : Nat, k ≤ l.length ∧ v8 = .int .i64 k ∧ Aside0 ((l.take k).all wordL = true) ∧ Aside0 (wr.heap[g]? = some (.cells (tab (bytesOf LETS)) 135 (0, 0))) ∧ Aside0 (Kd.V (Kd.int .u8) 5 wr w.heap.size (fun k_ => k_ ≠ g) (.slice Ao l.length co) l) ∧ Aside0 (Below w.heap.size w wr)) (fun v8 _ => l.length - (intOf v8).toNat)
  case atStart => exact ⟨0, Nat.zero_le _, rfl, ⟨by simp⟩, BK, ⟨by unfold Kd.V; exact HV.out⟩, HB⟩
  case round =>
    obtain ⟨k, hk, rfl, HW, BK, HV, HB⟩ := hrel
    by_cases hlt : k < l.length
    · obtain ⟨ad, e, hx⟩ := Kd.at_int (Kd.V_reads' HV.out).2.2 (k : Int) (by omega) (by omega)
      cases e
      rw [Int.toNat_natCast] at hx
      have hr0 := (HM.out k).1
      have hr1 := (HM.out k).2
      have hc := (blk_cell BK.out (rd l k).toNat).trans (tab_get _ _ (by omega))
      have e2 : l.take (k + 1) = l.take k ++ [rd l k] := by
        rw [List.take_succ_eq_append_getElem hlt]
        congr 2
        simp [rd, List.getD_eq_getElem?_getD, List.getElem?_eq_getElem hlt]
      have E2 := Aside0.mk e2
      clear e2
      cases hb : tabB (bytesOf LETS) (rd l k).toNat with
      | true =>
        have HB1 := Aside0.mk hb
        rw [hb] at hc
        clear hb
        go_wp2
        go_roundw
        case measure => simp [intOf]; omega
        case rel => exact ⟨k + 1, by omega, by go_num, ⟨by rw [E2.out, List.all_append, HW.out]; simp [wordL, HB1.out]⟩, BK, HV, HB⟩
      | false =>
        have HB1 := Aside0.mk hb
        rw [hb] at hc
        clear hb
        go_wp2
        go_ret
        refine ⟨?_, HB.out⟩
        have : wordF (bytesOf s) most = false := by
          unfold wordF
          have h1 : (bytesOf s).all wordL = false := by
            rw [Hl.out]
            rw [List.all_eq_false]
            refine ⟨rd l k, ?_, by simp [wordL, HB1.out]⟩
            have : rd l k = l[k] := by simp [rd, List.getD_eq_getElem?_getD, List.getElem?_eq_getElem hlt]
            rw [this]
            exact List.getElem_mem hlt
          rw [h1]; rfl
        rw [this]; rfl
    · have hk' : k = l.length := by omega
      subst hk'
      rw [List.take_length] at HW
      have Hfin : Aside0 (wordF (bytesOf s) most = (s.size != 0 && decide ((s.size : Int) ≤ most))) := ⟨by unfold wordF; rw [Hl.out, HW.out, Hsz.out]; rfl⟩
      have hsz : s.toList.length = s.size := by rw [Lib.toList_data, data_length]
      by_cases h0 : s.toList = []
      · go_wp2
        go_ret
        refine ⟨?_, HB.out⟩
        rw [Hfin.out]
        have : s.size = 0 := by rw [← hsz, h0]; rfl
        rw [this]; rfl
      · go_wp2
        go_ret
        refine ⟨?_, HB.out⟩
        rw [Hfin.out]
        have h1 : (s.size != 0) = true := by
          rw [bne_iff_ne]
          intro e
          exact h0 (List.eq_nil_of_length_eq_zero (by omega))
        have h2 : (!s.toList.isEmpty) = true := by
          cases hq : s.toList with
          | nil => exact absurd hq h0
          | cons => rfl
        simp only [Array.getD_eq_getD_getElem?]
        rw [h1, ← h2]
        rfl
end Go.Proofs.YtnhpcpmgedjffaaDoorX
