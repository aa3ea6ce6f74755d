import Derived.Test.YtnhpcpmgedjffaaDoorProg
import Derived.Test.YtnhpcpmgedjffaaDoorMrow
import Derived.Outline
/-! head.lower and ostiarylaw13.turned: bytes of a text, changed one by one. -/
namespace Go.Proofs.YtnhpcpmgedjffaaDoorX
open Go.RowKit Go.Proofs.YtnhpcpmgedjffaaDoorW.PrintWords Go.Proofs.YtnhpcpmgedjffaaDoorW.PrintLast Go.Proofs.YtnhpcpmgedjffaaDoorW.PrintMore
set_option linter.unusedVariables false
set_option linter.unusedSimpArgs false

def lowC (c : Int) : Int := if 65 ≤ c then (if c ≤ 90 then c + 32 else c) else c
def xLower (s : ByteArray) : ByteArray := strOfNums ((bytesOf s).map lowC)
theorem rd_at (l : List Int) (k : Nat) (h : k < l.length) : rd l (k : Int) = l[k] := by simp [rd, List.getD_eq_getElem?_getD, List.getElem?_eq_getElem h]
/-- One more byte has been changed. -/
def mapTo (f : Int → Int) (l : List Int) (k : Nat) : List Int := (l.take k).map f ++ l.drop k
theorem mapTo_length (f : Int → Int) (l : List Int) (k : Nat) : (mapTo f l k).length = l.length := by simp [mapTo]; omega
theorem mapTo_zero (f : Int → Int) (l : List Int) : mapTo f l 0 = l := by simp [mapTo]
theorem mapTo_all (f : Int → Int) (l : List Int) : mapTo f l l.length = l.map f := by simp [mapTo]
theorem mapTo_set (f : Int → Int) (l : List Int) (k : Nat) (h : k < l.length) : (mapTo f l k).set k (f (l[k])) = mapTo f l (k + 1) := by
  apply List.ext_getElem?
  intro i
  have hmin : min k l.length = k := by omega
  have hmin1 : min (k + 1) l.length = k + 1 := by omega
  simp only [mapTo, List.getElem?_set, List.getElem?_append, List.length_map, List.length_take, hmin, hmin1, List.getElem?_map, List.getElem?_take, List.getElem?_drop, List.length_append, List.length_drop]
  by_cases e : k = i
  · subst e
    rw [if_pos rfl, if_pos (by omega), if_pos (by omega), if_pos (by omega), List.getElem?_eq_getElem h]
    rfl
  · rw [if_neg e]
    by_cases h1 : i < k
    · rw [if_pos h1, if_pos h1, if_pos (by omega), if_pos (by omega)]
    · rw [if_neg h1, if_neg (by omega), show k + (i - k) = i from by omega, show k + 1 + (i - (k + 1)) = i from by omega]
theorem mapTo_getD (f : Int → Int) (l : List Int) (k : Nat) (h : k < l.length) : (mapTo f l k).getD k 0 = l[k] := by
  have hmin : min k l.length = k := by omega
  simp only [mapTo, List.getD_eq_getElem?_getD, List.getElem?_append, List.length_map, List.length_take, hmin, Nat.lt_irrefl, if_false, Nat.sub_self, List.getElem?_drop, Nat.add_zero, List.getElem?_eq_getElem h, Option.getD_some]
theorem mapTo_same (f : Int → Int) (l : List Int) (k : Nat) (h : k < l.length) (hf : f (l[k]) = l[k]) : mapTo f l (k + 1) = mapTo f l k := by
  rw [← mapTo_set f l k h, hf]
  have h2 := mapTo_getD f l k h
  rw [List.getD_eq_getElem?_getD, List.getElem?_eq_getElem (by rw [mapTo_length]; exact h)] at h2
  simp only [Option.getD_some] at h2
  rw [← h2, List.set_getElem_self]

set_option maxHeartbeats 1000000 in
set_option maxRecDepth 100000 in
theorem lower_calls (s : ByteArray) (w : World) (hs : s.size ≤ 140737488355328) :
    Calls Tryd.prog 119 #[.string s] w fun e w' => e = .returned (.string (xLower s)) ∧ Below w.heap.size w w' := by
  have Hs := Aside0.mk hs
  clear hs
  go_enter Tryd.func119, Tryd.ntmps119
  go_wp2_with (first | ((with_reducible refine gate_dst (N := 7) rfl ?_); refine M_ofstr 5 rfl (N := 7) rfl 9 25 _ rfl s rfl Tryd.underlying9 Tryd.underlying25 Tryd.underlying5 (Nat.le_trans Hs.out (by omega)) ?_; intro g cap w1 hge hm hb; have GE := Aside0.mk hge; have HM := Aside0.mk hm; have HB := Aside0.mk hb; clear hge hm hb))
  have Hr : ∀ k : Nat, (h : k < (bytesOf s).length) → 0 ≤ (bytesOf s)[k] ∧ (bytesOf s)[k] ≤ 255 := fun k h => by rw [← rd_at _ _ h, rd_bytesOf]; exact bt_range s k
  have Hlen : (bytesOf s).length ≤ 140737488355328 := by rw [bytesOf_length]; exact Hs.out
  obtain ⟨l, hl⟩ : ∃ l, bytesOf s = l := ⟨_, rfl⟩
  rw [hl] at Hr Hlen HM ⊢
  have HR := Aside0.mk Hr
  have Hl := Aside0.mk hl
  clear Hr hl
  go_loopw [10] (fun v8 wr => ∃ k : Nat, k ≤ l.length ∧ v8 = .int .i64 k ∧ Aside0 (MRow wr g cap (mapTo lowC l k)) ∧ Aside0 (Below w.heap.size w wr)) (fun v8 _ => l.length - (intOf v8).toNat)
  case atStart => exact ⟨0, Nat.zero_le _, rfl, ⟨by rw [mapTo_zero]; exact HM.out⟩, HB⟩
  case round =>
    obtain ⟨k, hk, rfl, HM, HB⟩ := hrel
    by_cases hlt : k < l.length
    · have hx := HM.out.cell k (by rw [mapTo_length]; exact hlt)
      rw [mapTo_getD _ _ _ hlt] at hx
      have hf := HM.out.free k (by have := HM.out.le; rw [mapTo_length] at this; omega)
      obtain ⟨hr0, hr1⟩ := HR.out k hlt
      have Hst := Aside0.mk (HM.out.set k (by rw [mapTo_length]; exact hlt) (lowC l[k]))
      rw [mapTo_set _ _ _ hlt] at Hst
      have Hsame := Aside0.mk (mapTo_same lowC l k hlt)
      obtain ⟨c, hc⟩ : ∃ c, l[k] = c := ⟨_, rfl⟩
      rw [hc] at hx hr0 hr1 Hst Hsame
      clear hc
      by_cases h1 : 65 ≤ c
      · by_cases h2 : c ≤ 90
        · have hlow : lowC c = c + 32 := by unfold lowC; rw [if_pos h1, if_pos h2]
          rw [hlow] at Hst
          clear hlow
          go_wp2
          go_roundw
          case measure => simp [intOf]; omega
          case rel => exact ⟨k + 1, by omega, by go_num, Hst, ⟨below_set HB.out GE.out⟩⟩
        · have hlow : lowC c = c := by unfold lowC; rw [if_pos h1, if_neg h2]
          have HM2 := Aside0.mk (Eq.mpr (congrArg (MRow wr g cap) (Hsame.out hlow)) HM.out)
          clear hlow
          go_wp2
          go_roundw
          case measure => simp [intOf]; omega
          case rel => exact ⟨k + 1, by omega, by go_num, HM2, HB⟩
      · have hlow : lowC c = c := by unfold lowC; rw [if_neg h1]
        have HM2 := Aside0.mk (Eq.mpr (congrArg (MRow wr g cap) (Hsame.out hlow)) HM.out)
        clear hlow
        go_wp2
        go_roundw
        case measure => simp [intOf]; omega
        case rel => exact ⟨k + 1, by omega, by go_num, HM2, HB⟩
    · have hk' : k = l.length := by omega
      subst hk'
      have hcv := Kd.C_string (P := Tryd.prog) (c := cap) Tryd.underlying25 Tryd.underlying5 Tryd.underlying9 HM.out.C
      rw [mapTo_length, mapTo_all] at hcv
      go_wp2
      go_ret
      exact ⟨by unfold xLower; rw [Hl.out]; rfl, HB.out⟩

def turnC (c : Int) : Int := if 65 ≤ c then (if c ≤ 90 then Go.bits .xor .u8 c 32 else if 97 ≤ c then (if c ≤ 122 then Go.bits .xor .u8 c 32 else c) else c) else c
def xTurned (s : ByteArray) : ByteArray := strOfNums ((bytesOf s).map turnC)
set_option maxHeartbeats 2000000 in
set_option maxRecDepth 100000 in
theorem turned_calls (s : ByteArray) (w : World) (hs : s.size ≤ 140737488355328) :
    Calls Tryd.prog 47 #[.string s] w fun e w' => e = .returned (.string (xTurned s)) ∧ Below w.heap.size w w' := by
  have Hs := Aside0.mk hs
  clear hs
  go_enter Tryd.func47, Tryd.ntmps47
  go_wp2_with (first | ((with_reducible refine gate_dst (N := 6) rfl ?_); refine M_ofstr 5 rfl (N := 6) rfl 9 25 _ rfl s rfl Tryd.underlying9 Tryd.underlying25 Tryd.underlying5 (Nat.le_trans Hs.out (by omega)) ?_; intro g cap w1 hge hm hb; have GE := Aside0.mk hge; have HM := Aside0.mk hm; have HB := Aside0.mk hb; clear hge hm hb))
  have Hr : ∀ k : Nat, (h : k < (bytesOf s).length) → 0 ≤ (bytesOf s)[k] ∧ (bytesOf s)[k] ≤ 255 := fun k h => by rw [← rd_at _ _ h, rd_bytesOf]; exact bt_range s k
  have Hlen : (bytesOf s).length ≤ 140737488355328 := by rw [bytesOf_length]; exact Hs.out
  obtain ⟨l, hl⟩ : ∃ l, bytesOf s = l := ⟨_, rfl⟩
  rw [hl] at Hr Hlen HM ⊢
  have HR := Aside0.mk Hr
  have Hl := Aside0.mk hl
  clear Hr hl
  go_loopw [4] (fun v8 wr => ∃ k : Nat, k ≤ l.length ∧ v8 = .int .i64 k ∧ Aside0 (MRow wr g cap (mapTo turnC l k)) ∧ Aside0 (Below w.heap.size w wr)) (fun v8 _ => l.length - (intOf v8).toNat)
  case atStart => exact ⟨0, Nat.zero_le _, rfl, ⟨by rw [mapTo_zero]; exact HM.out⟩, HB⟩
  case round =>
    obtain ⟨k, hk, rfl, HM, HB⟩ := hrel
    by_cases hlt : k < l.length
    · have hx := HM.out.cell k (by rw [mapTo_length]; exact hlt)
      rw [mapTo_getD _ _ _ hlt] at hx
      have hf := HM.out.free k (by have := HM.out.le; rw [mapTo_length] at this; omega)
      obtain ⟨hr0, hr1⟩ := HR.out k hlt
      have Hst := Aside0.mk (HM.out.set k (by rw [mapTo_length]; exact hlt) (turnC l[k]))
      rw [mapTo_set _ _ _ hlt] at Hst
      have Hsame := Aside0.mk (mapTo_same turnC l k hlt)
      obtain ⟨c, hc⟩ : ∃ c, l[k] = c := ⟨_, rfl⟩
      rw [hc] at hx hr0 hr1 Hst Hsame
      clear hc
      have hcase : (65 ≤ c ∧ c ≤ 90) ∨ (97 ≤ c ∧ c ≤ 122) ∨ (¬ 65 ≤ c) ∨ (65 ≤ c ∧ ¬ c ≤ 90 ∧ ¬ 97 ≤ c) ∨ (97 ≤ c ∧ ¬ c ≤ 122) := by omega
      rcases hcase with ⟨h1, h2⟩ | ⟨h1, h2⟩ | h1 | ⟨h1, h2, h3⟩ | ⟨h1, h2⟩
      · have hlow : turnC c = Go.bits .xor .u8 c 32 := by unfold turnC; rw [if_pos h1, if_pos h2]
        rw [hlow] at Hst
        clear hlow
        have h1b : decide (65 ≤ c) = true := decide_eq_true h1
        have h2b : decide (c ≤ 90) = true := decide_eq_true h2
        go_wp2
        go_roundw
        case measure => simp [intOf]; omega
        case rel => exact ⟨k + 1, by omega, by go_num, Hst, ⟨below_set HB.out GE.out⟩⟩
      · have hn : ¬ c ≤ 90 := by omega
        have hp : 65 ≤ c := by omega
        have hlow : turnC c = Go.bits .xor .u8 c 32 := by unfold turnC; rw [if_pos hp, if_neg hn, if_pos h1, if_pos h2]
        rw [hlow] at Hst
        clear hlow
        go_wp2
        go_roundw
        case measure => simp [intOf]; omega
        case rel => exact ⟨k + 1, by omega, by go_num, Hst, ⟨below_set HB.out GE.out⟩⟩
      · have hlow : turnC c = c := by unfold turnC; rw [if_neg h1]
        have HM2 := Aside0.mk (Eq.mpr (congrArg (MRow wr g cap) (Hsame.out hlow)) HM.out)
        clear hlow
        go_wp2
        go_roundw
        case measure => simp [intOf]; omega
        case rel => exact ⟨k + 1, by omega, by go_num, HM2, HB⟩
      · have hlow : turnC c = c := by unfold turnC; rw [if_pos h1, if_neg h2, if_neg h3]
        have HM2 := Aside0.mk (Eq.mpr (congrArg (MRow wr g cap) (Hsame.out hlow)) HM.out)
        clear hlow
        go_wp2
        go_roundw
        case measure => simp [intOf]; omega
        case rel => exact ⟨k + 1, by omega, by go_num, HM2, HB⟩
      · have hn : ¬ c ≤ 90 := by omega
        have hp : 65 ≤ c := by omega
        have hlow : turnC c = c := by unfold turnC; rw [if_pos hp, if_neg hn, if_pos h1, if_neg h2]
        have HM2 := Aside0.mk (Eq.mpr (congrArg (MRow wr g cap) (Hsame.out hlow)) HM.out)
        clear hlow
        go_wp2
        go_roundw
        case measure => simp [intOf]; omega
        case rel => exact ⟨k + 1, by omega, by go_num, HM2, HB⟩
    · have hk' : k = l.length := by omega
      subst hk'
      have hcv := Kd.C_string (P := Tryd.prog) (c := cap) Tryd.underlying25 Tryd.underlying5 Tryd.underlying9 HM.out.C
      rw [mapTo_length, mapTo_all] at hcv
      have hll : (mapTo turnC l l.length).length = l.length := mapTo_length ..
      go_wp2
      go_ret
      exact ⟨by unfold xTurned; rw [Hl.out]; rfl, HB.out⟩
end Go.Proofs.YtnhpcpmgedjffaaDoorX
