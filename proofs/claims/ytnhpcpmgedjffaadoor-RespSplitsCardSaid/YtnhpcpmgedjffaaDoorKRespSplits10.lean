import Derived.Test.YtnhpcpmgedjffaaDoorProg
import Derived.Lib.ItoaLen
import Derived.Deep.Slices
import Derived.Lib.SmallJoins
import Derived.ChangeSame
import Derived.ChangeArms
import Derived.SizedLaws
import Derived.OpenShut
import Derived.ChangeSlices
import Derived.Test.YtnhpcpmgedjffaaDoorRows
import Derived.WalkKit
import Derived.ProofKit
import Derived.ShutString
import Derived.ChangeOld
import Derived.Below
import Derived.Test.YtnhpcpmgedjffaaDoorKRespSplits9
section
-- Written by the proof's own program out of the translation; Lean checks it.
namespace Go.Proofs.YtnhpcpmgedjffaaDoor.P
open Go.RowKit Go.Proofs.YtnhpcpmgedjffaaDoorW.PrintWords Go.Proofs.YtnhpcpmgedjffaaDoorW.PrintLast Go.Proofs.YtnhpcpmgedjffaaDoorW.PrintMore Go.Proofs.YtnhpcpmgedjffaaDoorX
attribute [local go_sem] max2_int min2_int max_two min_two max_three min_three max_four min_four   -- for this text's walks alone
set_option linter.unusedVariables false
set_option linter.unusedSimpArgs false

end Go.Proofs.YtnhpcpmgedjffaaDoor.P
end
section
namespace Go.Proofs.YtnhpcpmgedjffaaDoorX
open Go.RowKit Go.Proofs.YtnhpcpmgedjffaaDoorW.PrintWords Go.Proofs.YtnhpcpmgedjffaaDoorW.PrintLast Go.Proofs.YtnhpcpmgedjffaaDoorW.PrintMore
set_option linter.unusedVariables false
set_option linter.unusedSimpArgs false

theorem toList_D (s : ByteArray) : s.toList = s.data.toList := by
  obtain ⟨⟨l⟩⟩ := s
  exact ByteArray.toList_mk l
theorem ba_ext {s t : ByteArray} (h : s.data.toList = t.data.toList) : s = t := by
  obtain ⟨⟨l⟩⟩ := s; obtain ⟨⟨m⟩⟩ := t
  simp at h; subst h; rfl
def nums8 (l : List UInt8) : List Int := l.map fun b => (b.toNat : Int)
theorem bytesOf_D (s : ByteArray) : bytesOf s = nums8 s.data.toList := rfl
theorem bytesOf_append (a b : ByteArray) : bytesOf (a ++ b) = bytesOf a ++ bytesOf b := by simp [bytesOf]
theorem bytesOf_strOf {l : List Int} (h : isBytes l = true) : bytesOf (strOfNums l) = l := by
  simp only [bytesOf, strOfNums, List.map_map]
  conv => rhs; rw [← List.map_id l]
  refine List.map_congr_left fun c hc => ?_
  have := isBytes_mem h c hc
  simp only [Function.comp, id]
  rw [UInt8.toNat_ofNat_of_lt' (by simp [UInt8.size]; omega)]
  omega
theorem size_D (s : ByteArray) : s.size = s.data.toList.length := (data_length s).symm

theorem dropWhile_head {α : Type} (f : α → Bool) (l : List α) (h : ∀ x, l.head? = some x → f x = false) : l.dropWhile f = l := by
  cases l with
  | nil => rfl
  | cons a l => rw [List.dropWhile_cons, if_neg (by rw [h a rfl]; decide)]
theorem dropWhile_past {α : Type} (f : α → Bool) (a l : List α) (h : ∀ x ∈ a, f x = true) : (a ++ l).dropWhile f = l.dropWhile f := by
  rw [List.dropWhile_append_of_pos h]
theorem trimS_at (a v b cs : List UInt8) (ha : ∀ x ∈ a, cs.contains x = true) (hb : ∀ x ∈ b, cs.contains x = true)
    (h1 : ∀ x, v.head? = some x → cs.contains x = false) (h2 : ∀ x, v.getLast? = some x → cs.contains x = false) : Lib.trimS (a ++ v ++ b) cs = v := by
  have e1 : Lib.trimRightS (a ++ v ++ b) cs = Lib.trimRightS (a ++ v) cs := by
    unfold Lib.trimRightS
    rw [List.reverse_append, dropWhile_past _ _ _ (fun x hx => hb x (List.mem_reverse.1 hx))]
  unfold Lib.trimS
  rw [e1]
  by_cases hv : v = []
  · subst hv
    have : Lib.trimRightS (a ++ []) cs = [] := by
      unfold Lib.trimRightS
      rw [List.append_nil, ← List.append_nil a.reverse, dropWhile_past _ _ _ (fun x hx => ha x (List.mem_reverse.1 hx))]
      rfl
    rw [this]; rfl
  · have e2 : Lib.trimRightS (a ++ v) cs = a ++ v := by
      unfold Lib.trimRightS
      rw [dropWhile_head, List.reverse_reverse]
      intro x hx
      rw [List.head?_reverse, List.getLast?_append] at hx
      obtain ⟨z, hz⟩ : ∃ z, v.getLast? = some z := by
        cases hq : v.getLast? with
        | none => exact absurd (List.getLast?_eq_none_iff.1 hq) hv
        | some z => exact ⟨z, rfl⟩
      rw [hz] at hx
      simp at hx
      exact hx ▸ h2 z hz
    rw [e2]
    unfold Lib.trimLeftS
    rw [dropWhile_past _ _ _ ha, dropWhile_head _ _ h1]

end Go.Proofs.YtnhpcpmgedjffaaDoorX
end
section
namespace Go.Proofs.YtnhpcpmgedjffaaDoor.P
open Go.RowKit Go.Proofs.YtnhpcpmgedjffaaDoorW.PrintWords Go.Proofs.YtnhpcpmgedjffaaDoorW.PrintLast Go.Proofs.YtnhpcpmgedjffaaDoorW.PrintMore Go.Proofs.YtnhpcpmgedjffaaDoorX
set_option linter.unusedVariables false
set_option linter.unusedSimpArgs false

theorem Ev.ite_pos {α : Type} {c : Prop} [Decidable c] {f g : Nat → Option α} {r : α} (hc : c) (h : Ev f r) : Ev (fun k => if c then f k else g k) r := by
  simpa [hc] using h
theorem Ev.ite_neg {α : Type} {c : Prop} [Decidable c] {f g : Nat → Option α} {r : α} (hc : ¬ c) (h : Ev g r) : Ev (fun k => if c then f k else g k) r := by
  simpa [hc] using h
theorem Ev.some_bind {α β : Type} {o : Option α} {f : Nat → α → Option β} {a : α} {r : β} (h : o = some a) (k : Ev (fun n => f n a) r) : Ev (fun n => o.bind (f n)) r := by
  subst h; exact k
theorem Ev.is {α : Type} {g : Nat → Option α} {a b : α} (h : Ev g a) (e : a = b) : Ev g b := e ▸ h
theorem wrap64_id {n : Int} (h0 : -9223372036854775808 ≤ n) (h1 : n ≤ 9223372036854775807) : wrap64 n = n := by
  unfold wrap64; omega
theorem bt_nat (s : ByteArray) (i : Nat) (h : i < s.data.toList.length) : bt s (i : Int) = (s.data.toList[i].toNat : Int) := by
  have e := rd_bytesOf s (i : Int)
  rw [← e, rd_at _ _ (by rw [bytesOf_length, size_D]; exact h)]
  simp [bytesOf]
abbrev mkB (l : List UInt8) : ByteArray := ⟨l.toArray⟩
theorem nil_size {s : ByteArray} : s.toList = ([] : List UInt8) ↔ s.size = 0 := by
  rw [toList_D, size_D]; exact List.length_eq_zero_iff.symm
theorem toList_eq {s t : ByteArray} : s.toList = t.toList ↔ s = t := ⟨fun h => ba_ext (by rw [toList_D, toList_D] at h; exact h), fun h => by rw [h]⟩

theorem drop_bytes (s : ByteArray) (i : Nat) (h : i < s.size) : (bytesOf s).drop i = bt s (i : Int) :: (bytesOf s).drop (i + 1) := by
  have hl := bytesOf_length s
  rw [List.drop_eq_getElem_cons (by omega), ← rd_at _ _ (by omega), rd_bytesOf]
theorem hword_eq (s : ByteArray) (most : Int) (hs : s.size ≤ 140737488355328) : head_word.f s most = some (wordF (bytesOf s) most) := by
  unfold head_word.f; rw [if_pos hs]

def okT (c : Int) : Bool := !decide (c < 33) && !decide (c > 126)
def tgtP (s : ByteArray) : Bool := (bytesOf s).all okT && (s.size != 0 && bt s 0 == 47)
theorem okT_lo {c : Int} (h : c < 33) : okT c = false := by simp [okT, h]
theorem okT_hi {c : Int} (h : c > 126) : okT c = false := by simp [okT, h]
theorem okT_in {c : Int} (h : ¬ c < 33) (h2 : ¬ c > 126) : okT c = true := by simp [okT, h, h2]
theorem htarget_loop (s : ByteArray) (hs : s.size ≤ 140737488355328) : ∀ (m i : Nat), i + m = s.size → Ev (fun k => head_target.l0 k s (bytesOf s) ((bytesOf s).length : Int) (i : Int)) (((bytesOf s).drop i).all okT && (s.size != 0 && bt s 0 == 47))
  | 0, i, h => by
    have hl := bytesOf_length s
    refine Ev.step (fun k => by rw [head_target.l0]) (Ev.ite_neg (by omega) ?_)
    rw [List.drop_of_length_le (by omega)]
    by_cases h0 : s.size = 0
    · exact Ev.ite_pos (nil_size.2 h0) (Ev.is (Ev.now false) (by simp [h0]))
    · exact Ev.ite_neg (fun e => h0 (nil_size.1 e)) (Ev.ite_pos (by omega) (Ev.is (Ev.now _) (by simp [h0])))
  | m + 1, i, h => by
    have hl := bytesOf_length s
    have ih := htarget_loop s hs m (i + 1) (by omega)
    refine Ev.step (fun k => by rw [head_target.l0]) (Ev.ite_pos (by omega) (Ev.ite_pos (by omega) (Ev.ite_pos (by omega) ?_)))
    rw [wrap64_id (n := (i : Int) + 1) (by omega) (by omega), drop_bytes s i (by omega), List.all_cons, rd_bytesOf]
    by_cases h1 : bt s (i : Int) < 33
    · exact Ev.ite_pos h1 (Ev.is (Ev.now false) (by rw [okT_lo h1]; rfl))
    · refine Ev.ite_neg h1 ?_
      by_cases h2 : bt s (i : Int) > 126
      · exact Ev.ite_pos h2 (Ev.is (Ev.now false) (by rw [okT_hi h2]; rfl))
      · exact Ev.ite_neg h2 (Ev.is ih (by rw [okT_in h1 h2, Bool.true_and]))
theorem htarget_ev (s : ByteArray) (hs : s.size ≤ 140737488355328) : Ev (fun k => head_target.f k s) (tgtP s) := by
  have := htarget_loop s hs s.size 0 (by omega)
  unfold head_target.f
  exact Ev.ite_pos hs (Ev.some_bind rfl (Ev.is this (by rw [List.drop_zero]; rfl)))
def blankC (c : Int) : Bool := c == 9 || c == 32
theorem blank_f (c : Int) : head_blank.f c = some (blankC c) := by
  unfold head_blank.f blankC
  by_cases h : c = 9
  · simp [h]
  · rw [if_neg h]; simp [h]
def bl8 (x : UInt8) : Bool := blankC (x.toNat : Int)
theorem blank_cs (x : UInt8) : ([9, 32] : List UInt8).contains x = bl8 x := by
  have : ∀ b : Fin 256, ([9, 32] : List UInt8).contains (UInt8.ofNat b.val) = blankC (b.val : Int) := by decide +kernel
  have h := this ⟨x.toNat, x.toNat_lt⟩
  simpa [bl8] using h
def trimL (l : List UInt8) : List UInt8 := ((l.dropWhile bl8).reverse.dropWhile bl8).reverse
theorem dropWhile_cut {α : Type} (p : α → Bool) (l : List α) : ∃ a, l = a ++ l.dropWhile p ∧ (∀ x ∈ a, p x = true) ∧ ∀ x, (l.dropWhile p).head? = some x → p x = false := by
  induction l with
  | nil => exact ⟨[], rfl, by simp, by simp⟩
  | cons b l ih =>
    rw [List.dropWhile_cons]
    cases hb : p b with
    | true =>
      obtain ⟨a, h1, h2, h3⟩ := ih
      exact ⟨b :: a, by rw [if_pos rfl]; exact congrArg (b :: ·) h1, by simpa [hb] using h2, by rw [if_pos rfl]; exact h3⟩
    | false =>
      rw [if_neg (by simp)]
      exact ⟨[], rfl, by simp, by intro x hx; simp at hx; exact hx ▸ hb⟩
theorem trim_parts (l : List UInt8) : ∃ a b, l = a ++ trimL l ++ b ∧ (∀ x ∈ a, bl8 x = true) ∧ (∀ x ∈ b, bl8 x = true) ∧ (∀ x, (trimL l).head? = some x → bl8 x = false) ∧ (∀ x, (trimL l).getLast? = some x → bl8 x = false) := by
  obtain ⟨a, h1, h2, h3⟩ := dropWhile_cut bl8 l
  obtain ⟨b, g1, g2, g3⟩ := dropWhile_cut bl8 (l.dropWhile bl8).reverse
  have e : l.dropWhile bl8 = trimL l ++ b.reverse := by
    have := congrArg List.reverse g1
    rw [List.reverse_reverse, List.reverse_append] at this
    exact this
  refine ⟨a, b.reverse, ?_, h2, fun x hx => g2 x (List.mem_reverse.1 hx), ?_, ?_⟩
  · rw [List.append_assoc, ← e]; exact h1
  · intro x hx
    refine h3 x ?_
    rw [e]
    rw [List.head?_append, hx]; rfl
  · intro x hx
    refine g3 x ?_
    unfold trimL at hx
    rw [List.getLast?_reverse] at hx
    exact hx
theorem trimS_is (l : List UInt8) : Lib.trimS l [9, 32] = trimL l := by
  obtain ⟨a, b, h1, h2, h3, h4, h5⟩ := trim_parts l
  conv => lhs; rw [h1]
  exact trimS_at a (trimL l) b [9, 32] (fun x hx => by rw [blank_cs]; exact h2 x hx) (fun x hx => by rw [blank_cs]; exact h3 x hx) (fun x hx => by rw [blank_cs]; exact h4 x hx) (fun x hx => by rw [blank_cs]; exact h5 x hx)
theorem htrim_eq (s : ByteArray) (hs : s.size ≤ 9223372036854775807) : strings_Trim.f s (⟨#[9, 32]⟩ : ByteArray) = some (mkB (trimL s.data.toList)) := by
  unfold strings_Trim.f
  rw [if_pos ⟨hs, by decide, by decide⟩]
  congr 1
  unfold xTrim
  rw [← trimS_is]

def okV (c : Int) : Bool := c == 9 || (!decide (c < 32) && c != 127)
def endsP (s : ByteArray) : Bool := s.size == 0 || (!blankC (bt s 0) && !blankC (bt s ((s.size : Int) - 1)))
def valP (s : ByteArray) : Bool := (bytesOf s).all okV && endsP s
theorem value_loop (s : ByteArray) (hs : s.size ≤ 140737488355328) : ∀ (m i : Nat), i + m = s.size →
    Ev (fun k => head_value.l0 k s (bytesOf s) ((bytesOf s).length : Int) (i : Int)) (((bytesOf s).drop i).all okV && endsP s)
  | 0, i, h => by
    have hl := bytesOf_length s
    refine Ev.step (fun k => by rw [head_value.l0]) ?_
    refine Ev.ite_neg (by omega) ?_
    rw [List.drop_of_length_le (by omega)]
    unfold endsP
    by_cases h1 : s.size = 0
    · refine Ev.ite_pos (nil_size.2 h1) ?_
      simpa [h1] using Ev.now true
    · have h1b : (s.size == 0) = false := by simpa using h1
      refine Ev.ite_neg (fun e => h1 (nil_size.1 e)) (Ev.ite_pos (by omega) (Ev.some_bind (blank_f _) ?_))
      by_cases hb : blankC (bt s 0) = true
      · refine Ev.ite_pos hb ?_
        simpa [hb, h1b] using Ev.now false
      · refine Ev.ite_neg hb ?_
        rw [wrap64_id (by omega) (by omega)]
        refine Ev.ite_pos (by omega) (Ev.ite_pos (by omega) (Ev.some_bind (blank_f _) ?_))
        simpa [hb, h1b] using Ev.now (!blankC (bt s ((s.size : Int) - 1)))
  | m + 1, i, h => by
    have hl := bytesOf_length s
    have ih := value_loop s hs m (i + 1) (by omega)
    refine Ev.step (fun k => by rw [head_value.l0]) ?_
    rw [wrap64_id (n := (i : Int) + 1) (by omega) (by omega), rd_bytesOf, drop_bytes s i (by omega)]
    refine Ev.ite_pos (by omega) (Ev.ite_pos (by omega) (Ev.ite_pos (by omega) ?_))
    simp only [List.all_cons]
    generalize bt s (i : Int) = c
    by_cases h9 : c = 9
    · refine Ev.ite_pos h9 ?_
      simpa [okV, h9] using ih
    · have e9 : (c == 9) = false := beq_eq_false_iff_ne.2 h9
      refine Ev.ite_neg h9 ?_
      by_cases h32 : c < 32
      · refine Ev.ite_pos h32 ?_
        simpa [okV, e9, h32] using Ev.now false
      · refine Ev.ite_neg h32 ?_
        by_cases h127 : c = 127
        · refine Ev.ite_pos h127 ?_
          simpa [okV, e9, h127] using Ev.now false
        · refine Ev.ite_neg h127 ?_
          have e127 : (c != 127) = true := bne_iff_ne.2 h127
          simpa [okV, e9, h32, e127] using ih
theorem hvalue_ev (s : ByteArray) (hs : s.size ≤ 140737488355328) : Ev (fun k => head_value.f k s) (valP s) := by
  have := value_loop s hs s.size 0 (by omega)
  unfold head_value.f
  refine Ev.ite_pos hs (Ev.some_bind rfl ?_)
  simpa [valP] using this
theorem trim_same (s : ByteArray) : (mkB (trimL s.data.toList) = s) ↔ endsP s = true := by
  obtain ⟨a, b, h1, h2, h3, h4, h5⟩ := trim_parts s.data.toList
  have hsz := size_D s
  unfold endsP
  constructor
  · intro h
    have e : trimL s.data.toList = s.data.toList := by conv => rhs; rw [← h]
    by_cases h0 : s.size = 0
    · simp [h0]
    · have hpos : 0 < s.data.toList.length := by omega
      have hh := h4 s.data.toList[0] (by rw [e, List.head?_eq_getElem?, List.getElem?_eq_getElem hpos])
      have hl := h5 (s.data.toList[s.data.toList.length - 1]) (by rw [e, List.getLast?_eq_getElem?, List.getElem?_eq_getElem (by omega)])
      have b0 := bt_nat s 0 hpos
      have b1 := bt_nat s (s.data.toList.length - 1) (by omega)
      have e2 : (s.size : Int) - 1 = ((s.data.toList.length - 1 : Nat) : Int) := by omega
      rw [e2, b1, show (0 : Int) = ((0 : Nat) : Int) from rfl, b0]
      unfold bl8 at hh hl
      rw [hh, hl]; simp
  · intro h
    by_cases h0 : s.size = 0
    · have : s.data.toList = [] := List.length_eq_zero_iff.1 (by omega)
      refine ba_ext ?_
      rw [this]; rfl
    · have hpos : 0 < s.data.toList.length := by omega
      have b0 := bt_nat s 0 hpos
      have b1 := bt_nat s (s.data.toList.length - 1) (by omega)
      have e2 : (s.size : Int) - 1 = ((s.data.toList.length - 1 : Nat) : Int) := by omega
      rw [e2, b1, show (0 : Int) = ((0 : Nat) : Int) from rfl, b0] at h
      have h0b : (s.size == 0) = false := by simpa using h0
      simp only [h0b, Bool.false_or, Bool.and_eq_true, Bool.not_eq_true'] at h
      have ha : a = [] := by
        cases a with
        | nil => rfl
        | cons x a =>
          have := h2 x (by simp)
          have e : s.data.toList[0] = x := by
            have hq : s.data.toList[0]? = some x := by rw [h1]; rfl
            rw [List.getElem?_eq_getElem hpos] at hq
            exact Option.some.inj hq
          rw [e] at h
          unfold bl8 at this
          rw [this] at h
          exact absurd h.1 (by decide)
      have hb : b = [] := by
        rcases List.eq_nil_or_concat b with e | ⟨q, x, e⟩
        · exact e
        · have := h3 x (by rw [e]; simp)
          have e3 : s.data.toList[s.data.toList.length - 1] = x := by
            have hq : s.data.toList.getLast? = some x := by rw [h1, e]; simp
            rw [List.getLast?_eq_getElem?, List.getElem?_eq_getElem (by omega)] at hq
            exact Option.some.inj hq
          rw [e3] at h
          unfold bl8 at this
          rw [this] at h
          exact absurd h.2 (by decide)
      refine ba_ext ?_
      show trimL s.data.toList = s.data.toList
      conv => rhs; rw [h1, ha, hb]
      simp
end Go.Proofs.YtnhpcpmgedjffaaDoor.P
end
section
namespace Go.Proofs.YtnhpcpmgedjffaaDoor.P
open Go.RowKit Go.Proofs.YtnhpcpmgedjffaaDoorW.PrintWords Go.Proofs.YtnhpcpmgedjffaaDoorW.PrintLast Go.Proofs.YtnhpcpmgedjffaaDoorW.PrintMore Go.Proofs.YtnhpcpmgedjffaaDoorX
set_option linter.unusedVariables false
set_option linter.unusedSimpArgs false

def lowL (s : ByteArray) : List Int := (bytesOf s).map lowC
theorem lowC_byte (c : Int) (h0 : 0 ≤ c) (h1 : c ≤ 255) : 0 ≤ lowC c ∧ lowC c < 256 := by
  unfold lowC; split
  · split <;> omega
  · omega
theorem isBytes_lowL (s : ByteArray) : isBytes (lowL s) = true := by
  simp only [isBytes, lowL, bytesOf, List.all_map, List.all_eq_true, Function.comp, Bool.and_eq_true, decide_eq_true_eq]
  intro b _
  have := b.toNat_lt
  exact lowC_byte _ (by omega) (by omega)
theorem lower_iff (a b : ByteArray) : (xLower a).toList = (xLower b).toList ↔ lowL a = lowL b := by
  rw [toList_eq]
  constructor
  · intro h
    have : bytesOf (strOfNums (lowL a)) = bytesOf (strOfNums (lowL b)) := congrArg bytesOf h
    rw [bytesOf_strOf (isBytes_lowL a), bytesOf_strOf (isBytes_lowL b)] at this
    exact this
  · intro h
    unfold xLower
    show strOfNums (lowL a) = strOfNums (lowL b)
    rw [h]
abbrev SF := S67
def valsF (fs : List SF) (key : ByteArray) : List ByteArray := (fs.filter (fun f => decide (lowL f.f0 = lowL key))).map (·.f1)
theorem valsF_cons (f : SF) (fs : List SF) (key : ByteArray) : valsF (f :: fs) key = (if lowL f.f0 = lowL key then [f.f1] else []) ++ valsF fs key := by
  unfold valsF
  by_cases h : lowL f.f0 = lowL key <;> simp [h]
theorem rdT_nat (fs : List SF) (i : Nat) (h : i < fs.length) : rd_T67 fs (i : Int) = fs[i] := by
  simp [rd_T67, List.getD_eq_getElem?_getD, List.getElem?_eq_getElem h]
def Small (fs : List SF) : Prop := fs.length ≤ 4294967295 ∧ ∀ f ∈ fs, f.f0.size ≤ 140737488355328
theorem all_loop (key : ByteArray) (hk : key.size ≤ 140737488355328) (fs : List SF) (hf : Small fs) : ∀ (m i : Nat) (acc : List ByteArray), i + m = fs.length → acc.length ≤ i → Ev (fun k => head_all.l0 k key acc fs (fs.length : Int) (i : Int)) (acc ++ valsF (fs.drop i) key)
  | 0, i, acc, h, ha => by
    refine Ev.step (fun k => by rw [head_all.l0]) (Ev.ite_neg (by omega) (Ev.is (Ev.now _) ?_))
    rw [List.drop_of_length_le (by omega)]
    simp [valsF]
  | m + 1, i, acc, h, ha => by
    have hl := hf.1
    have hn := hf.2 fs[i] (List.getElem_mem _)
    refine Ev.step (fun k => by rw [head_all.l0]) (Ev.ite_pos (by omega) (Ev.ite_pos (by omega) (Ev.ite_pos (by omega) ?_)))
    rw [rdT_nat fs i (by omega), wrap64_id (n := (i : Int) + 1) (by omega) (by omega), List.drop_eq_getElem_cons (show i < fs.length by omega), valsF_cons]
    refine Ev.some_bind (a := xLower fs[i].f0) (by unfold head_lower.f; exact if_pos hn) (Ev.some_bind (a := xLower key) (by unfold head_lower.f; exact if_pos hk) ?_)
    by_cases hc : lowL fs[i].f0 = lowL key
    · refine Ev.ite_pos ((lower_iff _ _).2 hc) (Ev.ite_pos (by omega) ?_)
      have := all_loop key hk fs hf m (i + 1) (acc ++ [fs[i].f1]) (by omega) (by simp; omega)
      rw [if_pos hc, ← List.append_assoc]
      exact this
    · refine Ev.ite_neg (fun e => hc ((lower_iff _ _).1 e)) ?_
      have := all_loop key hk fs hf m (i + 1) acc (by omega) (by omega)
      rw [if_neg hc, List.nil_append]
      exact this
theorem all_ev (m t : ByteArray) (mi : Int) (fs : List SF) (key : ByteArray) (hf : Small fs) (hk : key.size ≤ 140737488355328) : Ev (fun k => head_all.f k m t mi fs key) (valsF fs key) := by
  unfold head_all.f
  exact all_loop key hk fs hf fs.length 0 [] (by omega) (by simp)
def fieldP (fs : List SF) (key : ByteArray) : ByteArray × Int := ((valsF fs key).headD (⟨#[]⟩ : ByteArray), ((valsF fs key).length : Int))
theorem hfield_ev (m t : ByteArray) (mi : Int) (fs : List SF) (key : ByteArray) (hf : Small fs) (hk : key.size ≤ 140737488355328) : Ev (fun k => head_Field.f k m t mi fs key) (fieldP fs key) := by
  unfold head_Field.f fieldP
  refine Ev.bind (all_ev m t mi fs key hf hk) ?_
  cases hv : valsF fs key with
  | nil => exact Ev.ite_pos (by simp) (Ev.now _)
  | cons v vs => exact Ev.ite_neg (by first | (simp; done) | (simp; omega)) (Ev.ite_pos (by first | (simp; done) | (simp; omega)) (Ev.now _))
def HOST : ByteArray := ⟨#[104, 111, 115, 116]⟩
def hostsP (mi : Int) (fs : List SF) : Bool := (valsF fs HOST).length == 1 || ((valsF fs HOST).length == 0 && mi == 0)
theorem hosts_of {mi : Int} {fs : List SF} {f : Nat → Option (ByteArray × Int)} (h : Ev f (fieldP fs HOST)) : Ev (fun k => (f k).bind fun bt149 => (if bt149.2 = 1 then (some true) else (if bt149.2 = 0 then (some (mi == 0)) else (some false)))) (hostsP mi fs) := by
  refine Ev.bind h ?_
  unfold fieldP hostsP
  by_cases h1 : (valsF fs HOST).length = 1
  · exact Ev.ite_pos (by show ((valsF fs HOST).length : Int) = 1; omega) (Ev.is (Ev.now true) (by simp [h1]))
  · refine Ev.ite_neg (by show ¬ ((valsF fs HOST).length : Int) = 1; omega) ?_
    by_cases h0 : (valsF fs HOST).length = 0
    · exact Ev.ite_pos (by show ((valsF fs HOST).length : Int) = 0; omega) (Ev.is (Ev.now _) (by simp [h0]))
    · exact Ev.ite_neg (by show ¬ ((valsF fs HOST).length : Int) = 0; omega) (Ev.is (Ev.now false) (by simp [h1]; intro e; exact absurd (by rw [e]; rfl) h0))
theorem hhosts_ev (m t : ByteArray) (mi : Int) (fs : List SF) (hf : Small fs) : Ev (fun k => head_hosts.f k m t mi fs) (hostsP mi fs) := by
  unfold head_hosts.f
  exact hosts_of (hfield_ev m t mi fs HOST hf (by decide))
end Go.Proofs.YtnhpcpmgedjffaaDoor.P
end
section
namespace Go.Proofs.YtnhpcpmgedjffaaDoor.P
open Go.RowKit Go.Proofs.YtnhpcpmgedjffaaDoorW.PrintWords Go.Proofs.YtnhpcpmgedjffaaDoorW.PrintLast Go.Proofs.YtnhpcpmgedjffaaDoorW.PrintMore Go.Proofs.YtnhpcpmgedjffaaDoorX
set_option linter.unusedVariables false
set_option linter.unusedSimpArgs false
structure Sml (fs : List SF) : Prop where
  len : fs.length ≤ 100
  sz : ∀ f ∈ fs, f.f0.size ≤ 100000 ∧ f.f1.size ≤ 100000
theorem Sml.small {fs : List SF} (h : Sml fs) : Small fs := ⟨by have := h.len; omega, fun f hf => by have := (h.sz f hf).1; omega⟩
def okF (f : SF) : Bool := wordF (bytesOf f.f0) 64 && valP f.f1
theorem drop_cons (fs : List SF) (i : Nat) (h : i < fs.length) : fs.drop i = fs[i] :: fs.drop (i + 1) := List.drop_eq_getElem_cons h
def totF (fs : List SF) : Nat := (fs.map (fun f => f.f0.size + f.f1.size)).sum
theorem totF_cons (f : SF) (fs : List SF) : totF (f :: fs) = f.f0.size + f.f1.size + totF fs := by simp [totF]
theorem totF_mem {fs : List SF} {f : SF} (h : f ∈ fs) : f.f0.size + f.f1.size ≤ totF fs := by
  induction fs with
  | nil => cases h
  | cons g fs ih =>
    rw [totF_cons]
    rcases List.mem_cons.1 h with rfl | h
    · omega
    · have := ih h; omega
theorem long_loop (fs : List SF) (most : Int) (hs : ∀ f ∈ fs, f.f0.size ≤ 140737488351232 ∧ f.f1.size ≤ 140737488351232) (hl : fs.length ≤ 4611686018427387904) : ∀ (d i n : Nat), i + d = fs.length → n ≤ 300000000000000 →
    ∃ b, Ev (fun k => ostiarykit_LongFields.l0 k fs most (n : Int) (i : Int)) b ∧ (b = false → (fs.length : Int) ≤ most ∧ n + totF (fs.drop i) ≤ 6000)
  | 0, i, n, h, hn => by
    have hd : fs.drop i = [] := List.drop_eq_nil_of_le (by omega)
    rw [hd]
    by_cases h1 : (fs.length : Int) > most
    · exact ⟨true, Ev.step (fun k => by rw [ostiarykit_LongFields.l0]) (Ev.ite_neg (by omega) (Ev.ite_pos h1 (Ev.now _))), by simp⟩
    · refine ⟨decide ((n : Int) > 6000), Ev.step (fun k => by rw [ostiarykit_LongFields.l0]) (Ev.ite_neg (by omega) (Ev.ite_neg h1 (Ev.now _))), fun h2 => ⟨by omega, ?_⟩⟩
      simp at h2
      simp [totF]; omega
  | d + 1, i, n, h, hn => by
    have hi : i < fs.length := by omega
    by_cases h6 : (n : Int) ≤ 6000
    · have hm := hs fs[i] (List.getElem_mem hi)
      obtain ⟨b, hb, hb2⟩ := long_loop fs most hs hl d (i + 1) (n + fs[i].f0.size + fs[i].f1.size) (by omega) (by omega)
      refine ⟨b, Ev.step (fun k => by rw [ostiarykit_LongFields.l0]) (Ev.ite_pos (by omega) (Ev.ite_pos h6 (Ev.ite_pos (by omega) ?_))), fun h2 => ?_⟩
      · rw [rdT_nat fs i hi, wrap64_id (n := (n : Int) + _) (by omega) (by omega), wrap64_id (n := (n : Int) + _ + _) (by omega) (by omega), wrap64_id (n := (i : Int) + 1) (by omega) (by omega)]
        exact_mod_cast hb
      · obtain ⟨h3, h4⟩ := hb2 h2
        refine ⟨h3, ?_⟩
        rw [drop_cons fs i hi, totF_cons]
        omega
    · by_cases h1 : (fs.length : Int) > most
      · exact ⟨true, Ev.step (fun k => by rw [ostiarykit_LongFields.l0]) (Ev.ite_pos (by omega) (Ev.ite_neg h6 (Ev.ite_pos h1 (Ev.now _)))), by simp⟩
      · refine ⟨decide ((n : Int) > 6000), Ev.step (fun k => by rw [ostiarykit_LongFields.l0]) (Ev.ite_pos (by omega) (Ev.ite_neg h6 (Ev.ite_neg h1 (Ev.now _)))), fun h2 => ?_⟩
        simp at h2; omega
theorem long_ev (fs : List SF) (most : Int) (hs : ∀ f ∈ fs, f.f0.size ≤ 140737488351232 ∧ f.f1.size ≤ 140737488351232) (hl : fs.length ≤ 4611686018427387904) :
    ∃ b, Ev (fun k => ostiarykit_LongFields.f k fs most) b ∧ (b = false → (fs.length : Int) ≤ most ∧ totF fs ≤ 6000) := by
  obtain ⟨b, h1, h2⟩ := long_loop fs most hs hl fs.length 0 0 (by omega) (by omega)
  exact ⟨b, h1, fun h => by simpa using h2 h⟩
theorem sml_of {fs : List SF} {most : Int} (hm : most ≤ 100) (h1 : (fs.length : Int) ≤ most) (h2 : totF fs ≤ 6000) : Sml fs :=
  ⟨by omega, fun f hf => by have := totF_mem hf; omega⟩
def fineP (m t : ByteArray) (mi : Int) (fs : List SF) : Bool := wordF (bytesOf m) 16 && (decide (t.size ≤ 2048) && (tgtP t && (decide (0 ≤ mi) && (decide (mi ≤ 1) && (decide (fs.length ≤ 32) && (fs.all okF && hostsP mi fs))))))
theorem hfine_loop (m t : ByteArray) (mi : Int) (fs : List SF) (hf : Sml fs) : ∀ (d i : Nat), i + d = fs.length → Ev (fun k => head_fine.l0 k fs (fs.length : Int) (i : Int) m t mi fs) ((fs.drop i).all okF && hostsP mi fs)
  | 0, i, h => by
    have hd : fs.drop i = [] := List.drop_eq_nil_of_le (by omega)
    refine Ev.step (fun k => by rw [head_fine.l0]) (Ev.ite_neg (by omega) (Ev.bind (hhosts_ev m t mi fs hf.small) (Ev.is (Ev.now _) ?_)))
    rw [hd]; simp
  | d + 1, i, h => by
    have hi : i < fs.length := by omega
    have hl := hf.len
    have hsz := hf.sz fs[i] (List.getElem_mem hi)
    refine Ev.step (fun k => by rw [head_fine.l0]) (Ev.ite_pos (by omega) (Ev.ite_pos (by omega) (Ev.ite_pos (by omega) ?_)))
    rw [rdT_nat fs i hi, drop_cons fs i hi, List.all_cons, wrap64_id (by omega) (by omega)]
    refine Ev.some_bind (hword_eq fs[i].f0 64 (by omega)) ?_
    by_cases h1 : wordF (bytesOf fs[i].f0) 64 = true
    · refine Ev.ite_pos h1 (Ev.bind (hvalue_ev fs[i].f1 (by omega)) ?_)
      by_cases h2 : valP fs[i].f1 = true
      · refine Ev.ite_pos h2 (Ev.is (hfine_loop m t mi fs hf d (i + 1) (by omega)) ?_)
        simp [okF, h1, h2]
      · exact Ev.ite_neg h2 (Ev.is (Ev.now _) (by simp [okF, h2]))
    · exact Ev.ite_neg h1 (Ev.is (Ev.now _) (by simp [okF, h1]))
theorem hfine_j (m t : ByteArray) (mi : Int) (fs : List SF) : Ev (fun k => head_fine.j0 k true m t mi fs) false := Ev.step (fun k => by rw [head_fine.j0]) (Ev.ite_pos rfl (Ev.now _))
theorem hfine_ev (m t : ByteArray) (mi : Int) (fs : List SF) (hm : m.size ≤ 100000) (ht : t.size ≤ 100000) (hf : Sml fs) : Ev (fun k => head_fine.f k m t mi fs) (fineP m t mi fs) := by
  unfold head_fine.f fineP
  refine Ev.some_bind (hword_eq m 16 (by omega)) ?_
  by_cases h1 : wordF (bytesOf m) 16 = true
  · refine Ev.ite_pos h1 ?_
    by_cases h2 : (t.size : Int) > 2048
    · exact Ev.ite_pos h2 (Ev.is (hfine_j m t mi fs) (by simp [show ¬ t.size ≤ 2048 by omega]))
    · refine Ev.ite_neg h2 (Ev.bind (htarget_ev t (by omega)) ?_)
      by_cases h3 : tgtP t = true
      · refine Ev.ite_pos h3 ?_
        by_cases h4 : mi < 0
        · exact Ev.ite_pos h4 (Ev.is (hfine_j m t mi fs) (by simp [show ¬ 0 ≤ mi by omega]))
        · refine Ev.ite_neg h4 ?_
          by_cases h5 : mi > 1
          · exact Ev.ite_pos h5 (Ev.is (hfine_j m t mi fs) (by simp [show ¬ mi ≤ 1 by omega]))
          · refine Ev.ite_neg h5 ?_
            by_cases h6 : (fs.length : Int) > 32
            · rw [decide_eq_true h6]
              exact Ev.is (hfine_j m t mi fs) (by simp [show ¬ fs.length ≤ 32 by omega])
            · rw [decide_eq_false h6]
              refine Ev.step (fun k => by rw [head_fine.j0]) ?_
              refine Ev.ite_neg (by decide) ?_
              refine Ev.is (hfine_loop m t mi fs hf fs.length 0 (by omega)) ?_
              simp [h1, h3, show t.size ≤ 2048 by omega, show 0 ≤ mi by omega, show mi ≤ 1 by omega, show fs.length ≤ 32 by omega]
      · exact Ev.ite_neg h3 (Ev.is (hfine_j m t mi fs) (by simp [h3]))
  · exact Ev.ite_neg h1 (Ev.is (hfine_j m t mi fs) (by simp [h1]))
theorem flat_len (fs : List SF) (hf : ∀ f ∈ fs, f.f0.size ≤ 100000 ∧ f.f1.size ≤ 100000) : (fs.flatMap hfield).length ≤ fs.length * 200004 := by
  induction fs with
  | nil => simp
  | cons f fs ih =>
    have h1 := hf f (by simp)
    have h2 := ih (fun g hg => hf g (by simp [hg]))
    simp only [List.flatMap_cons, List.length_append, hfield, bytesOf_length, List.length_cons, List.length_nil]
    omega
theorem hbytes_len (m t : ByteArray) (mi : Int) (fs : List SF) (hm : m.size ≤ 100000) (ht : t.size ≤ 100000) (hf : Sml fs) : (hbytes m t mi fs).length ≤ 30000000 := by
  have h1 := flat_len fs hf.sz
  have h2 := hf.len
  simp only [hbytes, hhead, List.length_append, bytesOf_length, List.length_cons, List.length_nil]
  omega
def headW (m t : ByteArray) (mi : Int) (fs : List SF) : List Int × Int := if fineP m t mi fs = true then (if (hbytes m t mi fs).length > 4096 then ([], 2) else (hbytes m t mi fs, 0)) else ([], 2)
theorem fineP_mi {m t : ByteArray} {mi : Int} {fs : List SF} (h : fineP m t mi fs = true) : mi = 0 ∨ mi = 1 := by
  simp only [fineP, Bool.and_eq_true, decide_eq_true_eq] at h
  omega
theorem hwrite_ev (m t : ByteArray) (mi : Int) (fs : List SF) (hm : m.size ≤ 100000) (ht : t.size ≤ 100000) (hf : Sml fs) : Ev (fun k => head_Write.f k m t mi fs) (headW m t mi fs) := by
  unfold head_Write.f headW
  refine Ev.bind (hfine_ev m t mi fs hm ht hf) ?_
  by_cases h1 : fineP m t mi fs = true
  · have hb : head_bytes.f m t mi fs = some (hbytes m t mi fs) := by
      unfold head_bytes.f
      rw [if_pos ⟨fineP_mi h1, by have := hbytes_len m t mi fs hm ht hf; omega⟩]
    by_cases h2 : (hbytes m t mi fs).length > 4096
    · exact Ev.is (Ev.ite_pos h1 (Ev.some_bind hb (Ev.ite_pos (by omega) (Ev.now _)))) (by rw [if_pos h1, if_pos h2])
    · exact Ev.is (Ev.ite_pos h1 (Ev.some_bind hb (Ev.ite_neg (by omega) (Ev.now _)))) (by rw [if_pos h1, if_neg h2])
  · exact Ev.is (Ev.ite_neg h1 (Ev.now _)) (by rw [if_neg h1])
theorem hcheck_ev (m t : ByteArray) (mi : Int) (fs : List SF) (hm : m.size ≤ 100000) (ht : t.size ≤ 100000) (hf : Sml fs) : Ev (fun k => head_Check.f k m t mi fs) (headW m t mi fs).2 := by
  unfold head_Check.f
  exact Ev.bind (hwrite_ev m t mi fs hm ht hf) (Ev.now _)
end Go.Proofs.YtnhpcpmgedjffaaDoor.P
end
section
namespace Go.Proofs.YtnhpcpmgedjffaaDoor.P
open Go.RowKit Go.Proofs.YtnhpcpmgedjffaaDoorW.PrintWords Go.Proofs.YtnhpcpmgedjffaaDoorW.PrintLast Go.Proofs.YtnhpcpmgedjffaaDoorW.PrintMore Go.Proofs.YtnhpcpmgedjffaaDoorX
set_option linter.unusedVariables false
set_option linter.unusedSimpArgs false
def nCL : ByteArray := ⟨#[99, 111, 110, 116, 101, 110, 116, 45, 108, 101, 110, 103, 116, 104]⟩
def nCO : ByteArray := ⟨#[99, 111, 110, 110, 101, 99, 116, 105, 111, 110]⟩
def nTE : ByteArray := ⟨#[116, 114, 97, 110, 115, 102, 101, 114, 45, 101, 110, 99, 111, 100, 105, 110, 103]⟩
def ownK (n : ByteArray) : Bool := decide (lowL n = lowL nCL) || (decide (lowL n = lowL nCO) || decide (lowL n = lowL nTE))
theorem field_one (n v key : ByteArray) : (fieldP [(⟨n, v⟩ : SF)] key).2 = if lowL n = lowL key then 1 else 0 := by
  unfold fieldP
  rw [valsF_cons]
  by_cases h : lowL n = lowL key
  · simp [h, valsF]
  · simp [h, valsF]
theorem own_step (l : List ByteArray) (hl : l.length = 3) (n v : ByteArray) (hn : n.size ≤ 100000) (hk : ∀ x ∈ l, x.size ≤ 1000) (i : Nat) (hi : i < l.length) {r : Bool}
    (h : lowL n ≠ lowL l[i] → Ev (fun k => resp_own.l0 k l (l.length : Int) ((i : Int) + 1) n v) r) (hr : lowL n = lowL l[i] → r = true) :
    Ev (fun k => resp_own.l0 k l (l.length : Int) (i : Int) n v) r := by
  have hs : Small [(⟨n, v⟩ : SF)] := ⟨by simp, by intro f hf; simp at hf; rw [hf]; show n.size ≤ _; omega⟩
  have hkk := hk l[i] (List.getElem_mem hi)
  refine Ev.step (fun k => by rw [resp_own.l0]) (Ev.ite_pos (by omega) (Ev.ite_pos (by omega) (Ev.ite_pos (by omega) ?_)))
  rw [show rdOf ByteArray.empty l (i : Int) = l[i] from by simp [rdOf, List.getD_eq_getElem?_getD, List.getElem?_eq_getElem hi], wrap64_id (by omega) (by omega)]
  refine Ev.bind (hfield_ev _ _ 0 _ l[i] hs (by omega)) ?_
  rw [field_one]
  by_cases he : lowL n = lowL l[i]
  · rw [if_pos he, hr he]
    exact Ev.ite_pos (by decide) (Ev.now _)
  · rw [if_neg he]
    exact Ev.ite_neg (by decide) (h he)
theorem hown_ev (n v : ByteArray) (hn : n.size ≤ 100000) : Ev (fun k => resp_own.f k n v) (ownK n) := by
  unfold resp_own.f
  refine Ev.some_bind rfl ?_
  obtain ⟨l, hl⟩ : ∃ l : List ByteArray, l = [nCL, nCO, nTE] := ⟨_, rfl⟩
  have hlen : l.length = 3 := by rw [hl]; rfl
  have hk : ∀ x ∈ l, x.size ≤ 1000 := by rw [hl]; intro x hx; simp at hx; rcases hx with rfl | rfl | rfl <;> decide
  have e0 : l[0]'(by omega) = nCL := by simp [hl]
  have e1 : l[1]'(by omega) = nCO := by simp [hl]
  have e2 : l[2]'(by omega) = nTE := by simp [hl]
  have key : Ev (fun k => resp_own.l0 k l (l.length : Int) ((0 : Nat) : Int) n v) (ownK n) := by
    refine own_step l hlen n v hn hk 0 (by omega) (fun h0 => ?_) (fun h0 => ?_)
    · refine own_step l hlen n v hn hk 1 (by omega) (fun h1 => ?_) (fun h1 => ?_)
      · refine own_step l hlen n v hn hk 2 (by omega) (fun h2 => ?_) (fun h2 => ?_)
        · rw [e0] at h0; rw [e1] at h1; rw [e2] at h2
          refine Ev.step (fun k => by rw [resp_own.l0]) (Ev.ite_neg (by rw [hlen]; decide) (Ev.is (Ev.now _) ?_))
          simp [ownK, h0, h1, h2]
        · rw [e2] at h2; simp [ownK, h2]
      · rw [e1] at h1; simp [ownK, h1]
    · rw [e0] at h0; simp [ownK, h0]
  rw [hl] at key
  exact key
def AA : ByteArray := ⟨#[65]⟩
def SL : ByteArray := ⟨#[47]⟩
theorem fine_AA (n x : ByteArray) (hx : x.size ≤ 3000) : (headW AA SL 0 [(⟨n, x⟩ : SF)]).2 = if (wordF (bytesOf n) 64 && valP x) = true then 0 else 2 := by
  have h1 : wordF (bytesOf AA) 16 = true := by decide +kernel
  have h2 : tgtP SL = true := by decide +kernel
  have h3 : ∀ n x : ByteArray, hostsP 0 [(⟨n, x⟩ : SF)] = true := by
    intro n x
    unfold hostsP
    rw [valsF_cons]
    by_cases h : lowL n = lowL HOST
    · simp [h, valsF]
    · simp [h, valsF]
  have hf : fineP AA SL 0 [(⟨n, x⟩ : SF)] = (wordF (bytesOf n) 64 && valP x) := by
    simp [fineP, h1, h2, h3, okF, show SL.size ≤ 2048 by decide]
  unfold headW
  rw [hf]
  by_cases h : (wordF (bytesOf n) 64 && valP x) = true
  · rw [if_pos h, if_pos h]
    have hn : n.size ≤ 64 := by
      rw [Bool.and_eq_true] at h
      have := h.1
      simp only [wordF, Bool.and_eq_true, decide_eq_true_eq, bytesOf_length] at this
      omega
    rw [if_neg]
    simp only [hbytes, hhead, hfield, List.length_append, List.flatMap_cons, List.flatMap_nil, List.length_cons, List.length_nil, bytesOf_length]
    have e1 : AA.size = 1 := rfl
    have e2 : SL.size = 1 := rfl
    omega
  · rw [if_neg h, if_neg h]
theorem valP_x (c : ByteArray) : valP ((⟨#[120]⟩ : ByteArray) ++ c ++ (⟨#[120]⟩ : ByteArray)) = (bytesOf c).all okV := by
  have e : (bytesOf ((⟨#[120]⟩ : ByteArray) ++ c ++ (⟨#[120]⟩ : ByteArray))) = 120 :: (bytesOf c ++ [120]) := by
    rw [bytesOf_append, bytesOf_append]; rfl
  have hsz : ((⟨#[120]⟩ : ByteArray) ++ c ++ (⟨#[120]⟩ : ByteArray)).size = c.size + 2 := by
    rw [ByteArray.size_append, ByteArray.size_append]
    show 1 + c.size + 1 = _
    omega
  have h0 : bt ((⟨#[120]⟩ : ByteArray) ++ c ++ (⟨#[120]⟩ : ByteArray)) 0 = 120 := by
    rw [← rd_bytesOf, e]; rfl
  have h1 : bt ((⟨#[120]⟩ : ByteArray) ++ c ++ (⟨#[120]⟩ : ByteArray)) ((((⟨#[120]⟩ : ByteArray) ++ c ++ (⟨#[120]⟩ : ByteArray)).size : Int) - 1) = 120 := by
    rw [← rd_bytesOf, e, hsz]
    have : (((c.size + 2 : Nat) : Int) - 1).toNat = (bytesOf c).length + 1 := by rw [bytesOf_length]; omega
    unfold rd
    rw [this]
    simp [List.getD_eq_getElem?_getD]
  unfold valP endsP
  rw [e, h0, h1]
  have b1 : blankC 120 = false := by decide
  have o1 : okV 120 = true := by decide
  simp [b1, o1]
theorem fine_loop (n v : ByteArray) (hn : n.size ≤ 100000) : ∀ (m : Nat) (x : ByteArray), x.size ≤ m → m ≤ 100000 → Ev (fun k => resp_fine.l0 k x n v) (wordF (bytesOf n) 64 && (bytesOf x).all okV)
  | m, x, hx, hm => by
    have hmn : mn (x.size : Int) 2000 = ((min x.size 2000 : Nat) : Int) := by unfold mn; omega
    obtain ⟨q, hq⟩ : ∃ q, min x.size 2000 = q := ⟨_, rfl⟩
    have hq1 : q ≤ x.size := by omega
    have hq2 : q ≤ 2000 := by omega
    have hc : (x.extract 0 q).size = q := by rw [ByteArray.size_extract]; omega
    have e1 : (⟨#[120]⟩ : ByteArray).size = 1 := rfl
    have hsml : Sml [(⟨n, (⟨#[120]⟩ : ByteArray) ++ x.extract 0 q ++ (⟨#[120]⟩ : ByteArray)⟩ : SF)] := ⟨by simp, by
      intro f hf; simp only [List.mem_singleton] at hf; rw [hf]
      simp only [ByteArray.size_append, hc, e1]; omega⟩
    have hb : bytesOf x = bytesOf (x.extract 0 q) ++ bytesOf (x.extract q x.size) := by
      rw [← bytesOf_append]
      congr 1
      apply ba_ext
      simp
    refine Ev.step (fun k => by rw [resp_fine.l0]) ?_
    rw [hmn, hq]
    simp only [Int.toNat_natCast]
    refine Ev.ite_pos (by omega) (Ev.ite_pos (by omega) (Ev.ite_pos (by omega) (Ev.ite_pos (by rw [ByteArray.size_append, hc, e1]; omega) (Ev.bind (hcheck_ev AA SL 0 _ (by decide) (by decide) hsml) ?_))))
    rw [fine_AA _ _ (by simp only [ByteArray.size_append, hc, e1]; omega), valP_x]
    by_cases h1 : (wordF (bytesOf n) 64 && (bytesOf (x.extract 0 q)).all okV) = true
    · rw [if_pos h1]
      refine Ev.ite_pos rfl ?_
      rw [Bool.and_eq_true] at h1
      by_cases h2 : (x.extract q x.size).toList = ([] : List UInt8)
      · refine Ev.ite_pos h2 (Ev.is (Ev.now _) ?_)
        have h3 : bytesOf (x.extract q x.size) = [] := by
          rw [bytesOf_D, ← toList_D, h2]; rfl
        rw [hb, h3, List.append_nil, h1.1, h1.2]; rfl
      · have hlt : q < x.size := by
          rcases Nat.lt_or_ge q x.size with h | h
          · exact h
          · exact absurd (nil_size.2 (by rw [ByteArray.size_extract]; omega)) h2
        have hq0 : 0 < q := by omega
        refine Ev.ite_neg h2 (Ev.is (fine_loop n v hn (m - q) (x.extract q x.size) (by rw [ByteArray.size_extract]; omega) (by omega)) ?_)
        rw [hb, List.all_append, h1.1, h1.2]; rfl
    · rw [if_neg h1]
      refine Ev.ite_neg (by decide) (Ev.is (Ev.now _) ?_)
      rw [hb, List.all_append]
      cases hw : wordF (bytesOf n) 64 with
      | false => rfl
      | true => rw [hw, Bool.true_and, Bool.not_eq_true] at h1; rw [h1]; rfl
  termination_by m => m
  decreasing_by omega
theorem rfine_ev (n v : ByteArray) (hn : n.size ≤ 100000) (hv : v.size ≤ 100000) : Ev (fun k => resp_fine.f k n v) (okF ⟨n, v⟩) := by
  unfold resp_fine.f
  refine Ev.some_bind (htrim_eq v (by omega)) ?_
  by_cases h : mkB (trimL v.data.toList) = v
  · refine Ev.ite_pos (by rw [h]) (Ev.is (fine_loop n v hn v.size v (Nat.le_refl _) hv) ?_)
    have h2 := (trim_same v).1 h
    simp [okF, valP, h2]
  · refine Ev.ite_neg (fun e => h (toList_eq.1 e)) (Ev.is (Ev.now _) ?_)
    have h2 : endsP v = false := by
      cases he : endsP v with
      | false => rfl
      | true => exact absurd ((trim_same v).2 he) h
    simp [okF, valP, h2]
def okR (f : SF) : Bool := !ownK f.f0 && okF f
def bodyP (fs : List SF) : Bool := fs.all okR && decide (totF fs ≤ 4096)
def checkP (st : Int) (fs : List SF) (n : Nat) : Int := if (reasonS st).size = 0 ∨ fs.length > 16 ∨ n > 65535 then 2 else if bodyP fs = true then 0 else 2
theorem hcl_loop (fs : List SF) (hf : Sml fs) : ∀ (d i s : Nat), i + d = fs.length → s ≤ 4096 →
    Ev (fun k => resp_Check.l0 k (s : Int) fs (fs.length : Int) (i : Int)) (if ((fs.drop i).all okR && decide (s + totF (fs.drop i) ≤ 4096)) = true then 0 else 2)
  | 0, i, s, h, hs => by
    have hd : fs.drop i = [] := List.drop_eq_nil_of_le (by omega)
    rw [hd]
    refine Ev.step (fun k => by rw [resp_Check.l0]) (Ev.ite_neg (by omega) (Ev.is (Ev.now _) ?_))
    simp [totF]; omega
  | d + 1, i, s, h, hs => by
    have hi : i < fs.length := by omega
    have hl := hf.len
    have hsz := hf.sz fs[i] (List.getElem_mem hi)
    refine Ev.step (fun k => by rw [resp_Check.l0]) (Ev.ite_pos (by omega) (Ev.ite_pos (by omega) (Ev.ite_pos (by omega) ?_)))
    rw [rdT_nat fs i hi, drop_cons fs i hi, List.all_cons, totF_cons, wrap64_id (n := (i : Int) + 1) (by omega) (by omega), wrap64_id (n := (fs[i].f0.size : Int) + _) (by omega) (by omega), wrap64_id (n := (s : Int) + _) (by omega) (by omega)]
    by_cases h0 : (s : Int) + ((fs[i].f0.size : Int) + (fs[i].f1.size : Int)) > 4096
    · refine Ev.ite_pos h0 (Ev.is (Ev.now _) ?_)
      rw [if_neg]
      simp only [Bool.and_eq_true, decide_eq_true_eq]
      omega
    · refine Ev.ite_neg h0 (Ev.bind (hown_ev fs[i].f0 fs[i].f1 (by omega)) ?_)
      cases h1 : ownK fs[i].f0 with
      | true => exact Ev.ite_pos rfl (Ev.is (Ev.now _) (by simp [okR, h1]))
      | false =>
        refine Ev.ite_neg (by decide) (Ev.bind (rfine_ev fs[i].f0 fs[i].f1 (by omega) (by omega)) ?_)
        cases h2 : okF fs[i] with
        | false => exact Ev.ite_neg (by decide) (Ev.is (Ev.now _) (by simp [okR, h2]))
        | true =>
          refine Ev.ite_pos rfl ?_
          have e : (s : Int) + ((fs[i].f0.size : Int) + (fs[i].f1.size : Int)) = ((s + fs[i].f0.size + fs[i].f1.size : Nat) : Int) := by omega
          rw [e]
          refine Ev.is (hcl_loop fs hf d (i + 1) (s + fs[i].f0.size + fs[i].f1.size) (by omega) (by omega)) ?_
          simp only [okR, h1, h2, Bool.not_false, Bool.true_and, Bool.and_self]
          rw [show s + fs[i].f0.size + fs[i].f1.size + totF (fs.drop (i + 1)) = s + (fs[i].f0.size + fs[i].f1.size + totF (fs.drop (i + 1))) by omega]
theorem reason_nil (st : Int) : (reasonS st).toList = ([] : List UInt8) ↔ (reasonS st).size = 0 := nil_size
theorem hcheck15_ev (st : Int) (fs : List SF) (body : List Int) (keep : Bool) (hf : Sml fs) : Ev (fun k => resp_Check.f k st fs body keep) (checkP st fs body.length) := by
  have bad : Ev (fun k => resp_Check.j0 k true st fs body keep) 2 := Ev.step (fun k => by rw [resp_Check.j0]) (Ev.ite_pos rfl (Ev.now _))
  unfold resp_Check.f checkP
  refine Ev.some_bind rfl ?_
  by_cases h1 : (reasonS st).size = 0
  · exact Ev.ite_pos ((reason_nil st).2 h1) (Ev.is bad (by rw [if_pos (.inl h1)]))
  · refine Ev.ite_neg (fun h => h1 ((reason_nil st).1 h)) ?_
    by_cases h2 : (fs.length : Int) > 16
    · exact Ev.ite_pos h2 (Ev.is bad (by rw [if_pos (.inr (.inl (by omega)))]))
    · refine Ev.ite_neg h2 ?_
      by_cases h3 : (body.length : Int) > 65535
      · rw [decide_eq_true h3]; exact Ev.is bad (by rw [if_pos (.inr (.inr (by omega)))])
      · rw [decide_eq_false h3]
        refine Ev.step (fun k => by rw [resp_Check.j0]) ?_
        refine Ev.ite_neg (by decide) ?_
        refine Ev.is (hcl_loop fs hf fs.length 0 0 (by omega) (by omega)) ?_
        rw [if_neg (show ¬ ((reasonS st).size = 0 ∨ fs.length > 16 ∨ body.length > 65535) by omega)]
        simp [bodyP]
def respW (st : Int) (fs : List SF) (body : List Int) (keep : Bool) : List Int × Int := if checkP st fs body.length = 0 then (n8 (resp8 st fs (body.length : Int) keep) ++ body, 0) else ([], 2)
theorem checkP_two {st : Int} {fs : List SF} {n : Nat} (h : checkP st fs n ≠ 0) : checkP st fs n = 2 := by
  unfold checkP at h ⊢
  split
  · rfl
  · rw [if_neg (by assumption)] at h
    split
    · rw [if_pos (by assumption)] at h; exact absurd rfl h
    · rfl
end Go.Proofs.YtnhpcpmgedjffaaDoor.P
end
section
namespace Go.Proofs.YtnhpcpmgedjffaaDoor.P
open Go.RowKit Go.Proofs.YtnhpcpmgedjffaaDoorW.PrintWords Go.Proofs.YtnhpcpmgedjffaaDoorW.PrintLast Go.Proofs.YtnhpcpmgedjffaaDoorW.PrintMore Go.Proofs.YtnhpcpmgedjffaaDoorX
set_option linter.unusedVariables false
set_option linter.unusedSimpArgs false
theorem reason_size (st : Int) : (reasonS st).size ≤ 40 := by
  unfold reasonS
  cases hf : RT.find? (fun p => st == p.1) with
  | none => exact Nat.zero_le _
  | some p =>
    have h2 := List.mem_of_find?_eq_some hf
    have h3 : ∀ p ∈ RT, p.2.size ≤ 40 := by decide
    exact h3 p h2
theorem reason_no10 (st : Int) : ∀ b ∈ (reasonS st).data.toList, b ≠ 10 := by
  unfold reasonS
  cases hf : RT.find? (fun p => st == p.1) with
  | none => intro b hb; cases hb
  | some p =>
    have h2 := List.mem_of_find?_eq_some hf
    have h3 : ∀ p ∈ RT, ∀ b ∈ p.2.data.toList, b ≠ 10 := by decide
    exact h3 p h2
theorem dec_no10 : ∀ (m u : Nat), u ≤ m → ∀ b ∈ Lib.decDigits u, b ≠ 10
  | m, u, h, b, hb => by
    have key : ∀ d, d < 10 → UInt8.ofNat (48 + d) ≠ 10 := by decide
    unfold Lib.decDigits at hb
    split at hb
    · rename_i h1
      simp only [List.mem_singleton] at hb
      rw [hb]
      exact key u h1
    · rename_i h1
      rcases List.mem_append.1 hb with h2 | h2
      · exact dec_no10 (m - 1) (u / 10) (by omega) b h2
      · simp only [List.mem_singleton] at h2
        rw [h2]
        exact key _ (Nat.mod_lt _ (by omega))
  termination_by m => m
  decreasing_by omega
theorem itoa_no10 (n : Int) : ∀ b ∈ (itoaB n).data.toList, b ≠ 10 := by
  intro b hb
  have hb : b ∈ Lib.itoa n := by simpa [itoaB] using hb
  unfold Lib.itoa at hb
  split at hb
  · rcases List.mem_cons.1 hb with rfl | h
    · decide
    · exact dec_no10 _ _ (Nat.le_refl _) b h
  · exact dec_no10 _ _ (Nat.le_refl _) b hb
theorem itoa_size {n : Int} (h0 : -9223372036854775808 ≤ n) (h1 : n ≤ 9223372036854775807) : (itoaB n).size ≤ 21 := by
  have h := Lib.itoa_length_le n h0 h1
  show (itoaB n).data.size ≤ 21
  simpa [itoaB] using h
theorem line8_len (l : List ByteArray) : (line8 l).length = (l.map (·.size)).sum + 2 := by
  unfold line8
  rw [List.length_append]
  congr 1
  induction l with
  | nil => rfl
  | cons b l ih =>
    simp only [cat8, List.flatMap_cons, List.length_append, List.map_cons, List.sum_cons] at ih ⊢
    rw [ih]
    rfl
theorem fields8_len (fs : List SF) : (fs.flatMap rfield8).length = totF fs + 4 * fs.length := by
  induction fs with
  | nil => rfl
  | cons f fs ih =>
    rw [List.flatMap_cons, List.length_append, ih, totF_cons, List.length_cons]
    unfold rfield8
    rw [line8_len]
    have : rCOL.size = 2 := rfl
    simp only [List.map_cons, List.map_nil, List.sum_cons, List.sum_nil, this]
    omega
theorem resp8_len (st : Int) (fs : List SF) (n : Int) (keep : Bool) (h0 : -9223372036854775808 ≤ st) (h1 : st ≤ 9223372036854775807) (h2 : 0 ≤ n) (h3 : n ≤ 9223372036854775807) : (resp8 st fs n keep).length ≤ totF fs + 4 * fs.length + 400 := by
  have a := itoa_size h0 h1
  have b := itoa_size (n := n) (by omega) h3
  have c := reason_size st
  have e1 : rH11.size = 9 := rfl
  have e2 : rSP.size = 1 := rfl
  have e3 : rCLH.size ≤ 40 := by decide
  have e4 : rCC.size ≤ 40 := by decide
  unfold resp8 rfirst8 rend8
  cases keep <;> simp only [List.length_append, line8_len, fields8_len, List.map_cons, List.map_nil, List.sum_cons, List.sum_nil, if_true, if_false, List.length_nil, Bool.false_eq_true] <;> omega
theorem hwrite15_ev (st : Int) (fs : List SF) (body : List Int) (keep : Bool) (hf : Sml fs) (h0 : -9223372036854775808 ≤ st) (h1 : st ≤ 9223372036854775807) : Ev (fun k => resp_Write.f k st fs body keep) (respW st fs body keep) := by
  unfold resp_Write.f
  refine Ev.bind (hcheck15_ev st fs body keep hf) ?_
  unfold respW
  by_cases h : checkP st fs body.length = 0
  · rw [if_pos h]
    have hb : fs.length ≤ 16 ∧ body.length ≤ 65535 := by
      unfold checkP at h
      split at h
      · cases h
      · omega
    have ht : totF fs ≤ 4096 := by
      unfold checkP at h
      split at h
      · cases h
      · split at h
        · rename_i hbp
          unfold bodyP at hbp
          rw [Bool.and_eq_true, decide_eq_true_eq] at hbp
          exact hbp.2
        · cases h
    have hl := resp8_len st fs (body.length : Int) keep h0 h1 (by omega) (by omega)
    rw [if_pos h]
    refine Ev.ite_pos ⟨⟨h0, h1⟩, by omega⟩ (Ev.now _)
  · rw [if_neg h, if_neg h]
    exact Ev.is (Ev.now _) (by rw [checkP_two h])
theorem awake15_ev : Ev (fun k => ostiarylaw15_awake.f k) true := Ev.of ostiarylaw15_awake.mono (k := 60) (by decide +kernel)
def cntL : List Int → Nat
  | x :: y :: l => (if x = 13 ∧ y = 10 then 1 else 0) + cntL (y :: l)
  | _ => 0
theorem cntL_line (r : List Int) : ∀ (t : List Int), (∀ b ∈ t, b ≠ 10) → cntL (t ++ 13 :: 10 :: r) = 1 + cntL r
  | [], _ => by
    show (if (13 : Int) = 13 ∧ (10 : Int) = 10 then 1 else 0) + cntL (10 :: r) = _
    rw [if_pos ⟨rfl, rfl⟩]
    cases r with
    | nil => rfl
    | cons y r => show 1 + ((if (10 : Int) = 13 ∧ y = 10 then 1 else 0) + cntL (y :: r)) = _; rw [if_neg (by omega)]; omega
  | [x], h => by
    show (if x = 13 ∧ (13 : Int) = 10 then 1 else 0) + cntL ([] ++ 13 :: 10 :: r) = _
    rw [if_neg (by omega), cntL_line r [] (by simp)]
    omega
  | x :: y :: t, h => by
    show (if x = 13 ∧ y = 10 then 1 else 0) + cntL ((y :: t) ++ 13 :: 10 :: r) = _
    have := h y (by simp)
    rw [if_neg (by omega), cntL_line r (y :: t) (fun b hb => h b (List.mem_cons_of_mem _ hb))]
    omega
theorem n8_app (a b : List UInt8) : n8 (a ++ b) = n8 a ++ n8 b := by simp [n8]
theorem cnt_line8 (l : List ByteArray) (r : List Int) (h : ∀ x ∈ l, ∀ b ∈ x.data.toList, b ≠ 10) : cntL (n8 (line8 l) ++ r) = 1 + cntL r := by
  have e : n8 (line8 l) ++ r = n8 (cat8 l) ++ 13 :: 10 :: r := by
    unfold line8
    rw [n8_app, List.append_assoc]
    rfl
  rw [e]
  refine cntL_line r _ ?_
  intro b hb
  simp only [n8, List.mem_map] at hb
  obtain ⟨c, hc, rfl⟩ := hb
  simp only [cat8, List.mem_flatMap] at hc
  obtain ⟨x, hx, hcx⟩ := hc
  have h1 : c ∈ x.data.toList := by simpa [ba8] using hcx
  have h2 := h x hx c h1
  intro h3
  apply h2
  apply UInt8.toNat_inj.1
  show c.toNat = 10
  omega
theorem no10_of (s : ByteArray) (p : Int → Bool) (hp : p 10 = false) (h : (bytesOf s).all p = true) : ∀ b ∈ s.data.toList, b ≠ 10 := by
  intro b hb h2
  subst h2
  rw [List.all_eq_true] at h
  have h3 : (10 : Int) ∈ bytesOf s := by
    rw [bytesOf_D]
    exact List.mem_map.2 ⟨10, hb, rfl⟩
  have := h 10 h3
  rw [hp] at this
  cases this
theorem okF_no10 {f : SF} (h : okF f = true) : (∀ b ∈ f.f0.data.toList, b ≠ 10) ∧ ∀ b ∈ f.f1.data.toList, b ≠ 10 := by
  unfold okF wordF valP at h
  simp only [Bool.and_eq_true] at h
  exact ⟨no10_of _ wordL (by decide +kernel) h.1.1, no10_of _ okV (by decide +kernel) h.2.1⟩
theorem cnt_fields (r : List Int) : ∀ (fs : List SF), fs.all okR = true → cntL (n8 (fs.flatMap rfield8) ++ r) = fs.length + cntL r
  | [], _ => by simp [n8]
  | f :: fs, h => by
    rw [List.all_cons, Bool.and_eq_true] at h
    have h1 : okF f = true := by
      have := h.1
      unfold okR at this
      rw [Bool.and_eq_true] at this
      exact this.2
    obtain ⟨h2, h3⟩ := okF_no10 h1
    rw [List.flatMap_cons, n8_app, List.append_assoc]
    unfold rfield8
    rw [cnt_line8 _ _ (by
      intro x hx
      simp only [List.mem_cons, List.not_mem_nil, or_false] at hx
      rcases hx with rfl | rfl | rfl
      · exact h2
      · decide
      · exact h3)]
    rw [show (fun f : SF => line8 [f.f0, rCOL, f.f1]) = rfield8 from rfl, cnt_fields r fs h.2, List.length_cons]
    omega
theorem cnt_resp (st : Int) (fs : List SF) (n : Int) (keep : Bool) (h : fs.all okR = true) : cntL (n8 (resp8 st fs n keep)) = 3 + fs.length + (if keep = true then 0 else 1) := by
  have e0 : n8 (line8 []) = n8 (line8 []) ++ [] := by simp
  have hlast : cntL (n8 (line8 [])) = 1 := by decide
  unfold resp8 rfirst8 rend8
  rw [n8_app, cnt_line8 _ _ (by
    intro x hx
    simp only [List.mem_cons, List.not_mem_nil, or_false] at hx
    rcases hx with rfl | rfl | rfl | rfl
    · decide
    · exact itoa_no10 st
    · decide
    · exact reason_no10 st), n8_app, cnt_fields _ fs h, n8_app, cnt_line8 _ _ (by
    intro x hx
    simp only [List.mem_cons, List.not_mem_nil, or_false] at hx
    rcases hx with rfl | rfl
    · decide
    · exact itoa_no10 n)]
  cases keep with
  | true =>
    simp only [if_true, List.nil_append]
    rw [hlast]
    omega
  | false =>
    simp only [Bool.false_eq_true, if_false]
    rw [n8_app, cnt_line8 _ _ (by
      intro x hx
      simp only [List.mem_cons, List.not_mem_nil, or_false] at hx
      rcases hx with rfl
      decide), hlast]
    omega
theorem cnt_step (L : List Int) (h i : Nat) (h1 : 1 ≤ i) (hi : i < h) (hh : h ≤ L.length) : cntL ((L.take h).drop (i - 1)) = (if rd L ((i - 1 : Nat) : Int) = 13 ∧ rd L (i : Int) = 10 then 1 else 0) + cntL ((L.take h).drop (i + 1 - 1)) := by
  have hlt : (L.take h).length = h := by rw [List.length_take]; omega
  have g : ∀ j (hj : j < h), (L.take h)[j]'(by omega) = rd L (j : Int) := by
    intro j hj
    rw [List.getElem_take]
    simp [rd, List.getD_eq_getElem?_getD, List.getElem?_eq_getElem (show j < L.length by omega)]
  have e2 : i - 1 + 1 = i := by omega
  have e1 : (L.take h).drop (i - 1) = rd L ((i - 1 : Nat) : Int) :: rd L (i : Int) :: (L.take h).drop (i + 1) := by
    rw [List.drop_eq_getElem_cons (by omega), g _ (by omega), e2, List.drop_eq_getElem_cons (by omega), g _ (by omega)]
  have e3 : (L.take h).drop (i + 1 - 1) = rd L (i : Int) :: (L.take h).drop (i + 1) := by
    rw [show i + 1 - 1 = i by omega, List.drop_eq_getElem_cons (by omega), g _ (by omega)]
  rw [e1, e3]
  rfl
theorem splits_loop (st : Int) (fs : List SF) (body : List Int) (keep : Bool) (L : List Int) (h : Nat) (hL : L.length ≤ 1000000) (hh : h ≤ L.length) (hfl : fs.length ≤ 1000) (hb : L.drop h = body) : ∀ (d i n : Nat), i + d = h → 1 ≤ i → n ≤ i → n + cntL ((L.take h).drop (i - 1)) = 3 + fs.length + (if keep = true then 0 else 1) →
    Ev (fun k => ostiarylaw15_RespSplits.l0 k true L (n : Int) (h : Int) (i : Int) st fs body keep) true
  | 0, i, n, hi, h1, hn, hc => by
    refine Ev.step (fun k => by rw [ostiarylaw15_RespSplits.l0]) (Ev.ite_neg (by omega) ?_)
    have h0 : cntL ((L.take h).drop (i - 1)) = 0 := by
      have hl : ((L.take h).drop (i - 1)).length ≤ 1 := by rw [List.length_drop, List.length_take]; omega
      match hm : (L.take h).drop (i - 1), hl with
      | [], _ => rfl
      | [x], _ => rfl
    rw [h0] at hc
    have hw : wrap64 (3 + (fs.length : Int)) = 3 + (fs.length : Int) := wrap64_id (by omega) (by omega)
    have hS : ostiarykit_SameBytes.f (L.drop (h : Int).toNat) body = some true := by
      rw [Int.toNat_natCast, hb]
      unfold ostiarykit_SameBytes.f
      simp
    cases keep with
    | true =>
      simp only [if_true] at hc
      have q1 : (n : Int) = wrap64 (3 + (fs.length : Int)) := by rw [hw]; omega
      refine Ev.ite_pos rfl (Ev.ite_pos rfl ?_)
      refine Ev.ite_pos q1 ?_
      refine Ev.ite_pos (Int.natCast_nonneg h) ?_
      refine Ev.ite_pos (Int.ofNat_le.2 hh) ?_
      rw [hS]
      exact Ev.now _
    | false =>
      simp only [Bool.false_eq_true, if_false] at hc
      have q1 : (n : Int) = wrap64 (wrap64 (3 + (fs.length : Int)) + 1) := by rw [hw, wrap64_id (by omega) (by omega)]; omega
      refine Ev.ite_neg Bool.false_ne_true (Ev.ite_pos rfl ?_)
      refine Ev.ite_pos q1 ?_
      refine Ev.ite_pos (Int.natCast_nonneg h) ?_
      refine Ev.ite_pos (Int.ofNat_le.2 hh) ?_
      rw [hS]
      exact Ev.now _
  | d + 1, i, n, hi, h1, hn, hc => by
    have e4 := cnt_step L h i h1 (by clear hc; omega) hh
    generalize hq : cntL ((L.take h).drop (i + 1 - 1)) = q at e4
    rw [e4] at hc
    have hw : wrap64 ((i : Int) - 1) = ((i - 1 : Nat) : Int) := by clear hc e4 hq; rw [wrap64_id (by omega) (by omega)]; omega
    have hw2 : wrap64 ((i : Int) + 1) = ((i + 1 : Nat) : Int) := by clear hc e4 hq; rw [wrap64_id (by omega) (by omega)]; omega
    have hw3 : wrap64 ((n : Int) + 1) = ((n + 1 : Nat) : Int) := by clear hc e4 hq; rw [wrap64_id (by omega) (by omega)]; omega
    have hi2 : i < h := by clear hc e4 hq; omega
    have hi3 : i < L.length := by clear hc e4 hq; omega
    have hi4 : i + 1 + d = h := by clear hc e4 hq; omega
    have hn2 : n ≤ i + 1 := by clear hc e4 hq; omega
    clear e4
    refine Ev.step (fun k => by rw [ostiarylaw15_RespSplits.l0]) ?_
    rw [hw, hw2, hw3]
    refine Ev.ite_pos (Int.ofNat_lt.2 hi2) (Ev.ite_pos (Int.natCast_nonneg _) (Ev.ite_pos (Int.ofNat_lt.2 (Nat.lt_of_le_of_lt (Nat.sub_le _ _) hi3)) ?_))
    by_cases c1 : rd L ((i - 1 : Nat) : Int) = 13
    · refine Ev.ite_pos c1 (Ev.ite_pos (Int.natCast_nonneg _) (Ev.ite_pos (Int.ofNat_lt.2 hi3) ?_))
      by_cases c2 : rd L (i : Int) = 10
      · refine Ev.ite_pos c2 ?_
        rw [if_pos ⟨c1, c2⟩] at hc
        exact splits_loop st fs body keep L h hL hh hfl hb d (i + 1) (n + 1) hi4 (Nat.le_add_left 1 i) (Nat.succ_le_succ hn) (by rw [hq, ← hc, Nat.add_assoc])
      · refine Ev.ite_neg c2 ?_
        rw [if_neg (fun x => c2 x.2), Nat.zero_add] at hc
        exact splits_loop st fs body keep L h hL hh hfl hb d (i + 1) n hi4 (Nat.le_add_left 1 i) hn2 (by rw [hq]; exact hc)
    · refine Ev.ite_neg c1 ?_
      rw [if_neg (fun x => c1 x.1), Nat.zero_add] at hc
      exact splits_loop st fs body keep L h hL hh hfl hb d (i + 1) n hi4 (Nat.le_add_left 1 i) hn2 (by rw [hq]; exact hc)
theorem long15_ev (st : Int) (fs : List SF) (body : List Int) (keep : Bool) (hs : ∀ f ∈ fs, f.f0.size ≤ 140737488351232 ∧ f.f1.size ≤ 140737488351232) (hl : fs.length ≤ 4611686018427387904) :
    ∃ b, Ev (fun k => ostiarylaw15_Long.f k st fs body keep) b ∧ (b = false → (fs.length : Int) ≤ 40 ∧ totF fs ≤ 6000 ∧ body.length ≤ 70000) := by
  obtain ⟨b, h1, h2⟩ := long_ev fs 40 hs hl
  unfold ostiarylaw15_Long.f
  cases b with
  | true => exact ⟨true, Ev.bind h1 (Ev.ite_pos rfl (Ev.now _)), by simp⟩
  | false =>
    refine ⟨_, Ev.bind h1 (Ev.ite_neg (by decide) (Ev.now _)), fun h => ?_⟩
    have := h2 rfl
    simp only [decide_eq_false_iff_not] at h
    exact ⟨this.1, this.2, by omega⟩
theorem checkP_ok {st : Int} {fs : List SF} {n : Nat} (h : checkP st fs n = 0) : fs.all okR = true ∧ fs.length ≤ 16 ∧ totF fs ≤ 4096 ∧ n ≤ 65535 := by
  unfold checkP at h
  split at h
  · cases h
  · split at h
    · rename_i h1 h2
      unfold bodyP at h2
      rw [Bool.and_eq_true, decide_eq_true_eq] at h2
      exact ⟨h2.1, by omega, h2.2, by omega⟩
    · cases h
theorem respSplits_ev (st : Int) (fs : List SF) (body : List Int) (keep : Bool) (h0 : -9223372036854775808 ≤ st) (h1 : st ≤ 9223372036854775807) (hs : ∀ f ∈ fs, f.f0.size ≤ 140737488351232 ∧ f.f1.size ≤ 140737488351232) (hl : fs.length ≤ 4611686018427387904) :
    Ev (fun k => ostiarylaw15_RespSplits.f k st fs body keep) true := by
  unfold ostiarylaw15_RespSplits.f
  obtain ⟨b, hb1, hb2⟩ := long15_ev st fs body keep hs hl
  refine Ev.bind awake15_ev (Ev.bind hb1 ?_)
  cases b with
  | true => exact Ev.ite_pos rfl (Ev.now _)
  | false =>
    obtain ⟨h40, htot, hbod⟩ := hb2 rfl
    have hsml : Sml fs := sml_of (by decide) h40 htot
    refine Ev.ite_neg (by decide) (Ev.bind (hwrite15_ev st fs body keep hsml h0 h1) ?_)
    unfold respW
    by_cases hc : checkP st fs body.length = 0
    · rw [if_pos hc]
      obtain ⟨hk, h16, ht2, hb3⟩ := checkP_ok hc
      have hlen := resp8_len st fs (body.length : Int) keep h0 h1 (by omega) (by omega)
      obtain ⟨H, hH⟩ : ∃ H, H = resp8 st fs (body.length : Int) keep := ⟨_, rfl⟩
      have hcnt := cnt_resp st fs (body.length : Int) keep hk
      rw [← hH] at hlen hcnt ⊢
      clear hH
      have hHl : (n8 H).length = H.length := by simp [n8]
      have hpos : 1 ≤ H.length := by
        rcases Nat.eq_zero_or_pos H.length with h | h
        · rw [List.length_eq_zero_iff.1 h] at hcnt
          have : cntL (n8 []) = 0 := rfl
          omega
        · exact h
      have hw : wrap64 (((n8 H ++ body).length : Int) - (body.length : Int)) = (H.length : Int) := by
        rw [List.length_append, hHl, wrap64_id (by omega) (by omega)]
        omega
      refine Ev.ite_pos rfl ?_
      show Ev (fun k => if wrap64 (((n8 H ++ body).length : Int) - (body.length : Int)) < 0 then some false else ostiarylaw15_RespSplits.l0 k true (n8 H ++ body) 0 (wrap64 (((n8 H ++ body).length : Int) - (body.length : Int))) 1 st fs body keep) true
      rw [hw]
      refine Ev.ite_neg (by omega) ?_
      refine splits_loop st fs body keep (n8 H ++ body) H.length (by rw [List.length_append, hHl]; omega) (by rw [List.length_append, hHl]; omega) (by omega) ?_ (H.length - 1) 1 0 (by omega) (by omega) (by omega) ?_
      · rw [← hHl, List.drop_left]
      · have e : ((n8 H ++ body).take H.length).drop (1 - 1) = n8 H := by rw [← hHl, List.take_left]; rfl
        rw [e, hcnt]
        omega
    · rw [if_neg hc]
      refine Ev.ite_neg (by show ¬ (2 : Int) = 0; decide) (Ev.ite_pos rfl (Ev.bind (hcheck15_ev st fs body keep hsml) ?_))
      exact Ev.ite_pos (checkP_two hc) (Ev.now _)
end Go.Proofs.YtnhpcpmgedjffaaDoor.P
end
section
namespace Go.Proofs.YtnhpcpmgedjffaaDoor.P
open Go Go.RowKit Go.Deep Go.Joins Go.ChangeShapes Go.WideShapes Go.ChangeAt Go.Proofs.YtnhpcpmgedjffaaDoorW.PrintWords Go.Proofs.YtnhpcpmgedjffaaDoorW.PrintLast Go.Proofs.YtnhpcpmgedjffaaDoorW.PrintMore Go.Proofs.YtnhpcpmgedjffaaDoorX
set_option linter.unusedVariables false
set_option linter.unusedSimpArgs false
def Opens {α : Type} (P : Program) (t : TypeId) (d : Kd α) (Ok : α → Prop) : Prop :=
  ∀ (H : Type) (enc : TypeId × Value → H) (W : World) (base : Nat) (spare : Nat → Bool) (held : Bool) (fuel : Nat) (cs : List Value) (y : DataW H × List MemPlace),
    DataW.trod enc P W base spare held fuel t cs = some y → (∀ n ∈ y.1.weights P t, n ≤ reachBytes) → ∃ x, d.K W x cs ∧ Ok x
theorem opens_int {P : Program} {t : TypeId} {k : IntKind} (ht : P.underlying t = some (.int k)) : Opens P t (Kd.int k) (fun n => (Lit.int k n).wf = true) := by
  intro H enc W base spare held fuel cs y h hw
  obtain ⟨n, rfl, rfl, hn⟩ := DataW.trod_int ht h
  exact ⟨n, rfl, hn⟩
theorem weights_all {H : Type} {P : Program} {e : TypeId} : ∀ {l : List (DataW H)} {d : DataW H}, d ∈ l → ∀ n ∈ d.weights P e, n ∈ DataW.weightsAll P e l
  | x :: l, d, h, n, hn => by
    unfold DataW.weightsAll
    rcases List.mem_cons.1 h with rfl | h
    · exact List.mem_append.2 (.inl hn)
    · exact List.mem_append.2 (.inr (weights_all h n hn))
theorem add_addn (a : Addr) (i j : Nat) : (a.add i).add j = a.add (i + j) := by
  unfold Addr.add
  rcases i with _ | i <;> rcases j with _ | j <;> simp <;> omega
theorem open_kslice {α : Type} {P : Program} {t e : TypeId} {d : Kd α} {Ok : α → Prop} (ht : P.underlying t = some (.slice e)) (hc : P.cellsOf e = d.sz) (hd : Opens P e d Ok)
    {H : Type} {enc : TypeId × Value → H} {W : World} {base : Nat} {spare : Nat → Bool} {held : Bool} {fuel : Nat} {cs : List Value} {y : DataW H × List MemPlace}
    (h : DataW.trod enc P W base spare held fuel t cs = some y) (hw : ∀ n ∈ y.1.weights P t, n ≤ reachBytes) :
    ∃ A n c xs, cs = [.slice A n c] ∧ n ≤ c ∧ xs.length = n ∧ Kd.C d W A n xs ∧ (∀ x ∈ xs, Ok x) ∧ n * P.bytesOf e ≤ 140737488351232 := by
  rcases open_slice ht h with ⟨rfl, rfl⟩ | ⟨a, len, cap, m, N, D, Pl, rfl, hb, hl, hm, hmm, rfl, hel⟩
  · exact ⟨none, 0, 0, [], rfl, Nat.le_refl _, rfl, Kd.C_nil d W, by simp, by simp⟩
  · have hlm : len ≤ m := by rw [hmm]; split <;> omega
    have hws : ∀ n ∈ (len + (m - len)) * P.bytesOf e :: (DataW.weightsAll P e ((List.range len).map D) ++ DataW.weightsAll P e ((List.range (m - len)).map fun j => D (len + j))), n ≤ reachBytes := by
      intro n hn
      refine hw n ?_
      simp only [DataW.weights, ht, List.length_map, List.length_range]
      exact hn
    have hex : ∀ i : Fin len, ∃ x, Ok x ∧ ∃ c, c.length = d.sz ∧ d.K W x c ∧ ∀ j u, c[j]? = some u → W.cell? (a.add (i.val * d.sz + j)) = some u := by
      intro i
      obtain ⟨c, hcell, htr⟩ := hel i.val (by have := i.isLt; omega)
      obtain ⟨x, hK, hO⟩ := hd H enc W base spare held N c (D i.val, Pl i.val) htr (fun n hn => hws n (List.mem_cons_of_mem _ (List.mem_append.2 (.inl (weights_all (List.mem_map.2 ⟨i.val, by simp, rfl⟩) n hn)))))
      refine ⟨x, hO, c, d.K_len hK, hK, fun j u hu => ?_⟩
      rw [hc] at hcell
      obtain ⟨_, hlen, h2⟩ := World.cells?_some hcell
      have hj := (List.getElem?_eq_some_iff.1 hu).1
      have h3 := h2 j (by omega)
      rw [add_addn] at h3
      rw [h3]; exact hu
    refine ⟨some a, len, cap, List.ofFn (fun i => (hex i).choose), rfl, hl, by simp, ⟨by simp, by unfold maxLen at hm; omega, fun _ => ⟨a, rfl, fun j p hj => ?_⟩⟩, fun x hx => ?_, ?_⟩
    · rw [List.getElem?_ofFn] at hj
      split at hj
      · rename_i hjl
        cases hj
        exact (hex ⟨j, hjl⟩).choose_spec.2
      · cases hj
    · obtain ⟨i, rfl⟩ := List.mem_ofFn.1 hx
      exact (hex i).choose_spec.1
    · have := hws _ (List.mem_cons_self ..)
      have h2 : len * P.bytesOf e ≤ (len + (m - len)) * P.bytesOf e := Nat.mul_le_mul_right _ (by omega)
      have h3 : reachBytes = 140737488351232 := rfl
      omega
set_option maxRecDepth 100000 in
theorem opens_field : Opens Tryd.prog 67 k67 (fun f => f.f0.size ≤ 140737488351232 ∧ f.f1.size ≤ 140737488351232) := by
  intro H enc W base spare held fuel cs y h hw
  obtain ⟨y0, y1, n, rfl, hl, h0, h1⟩ := trod_struct2 Tryd.underlying67 h
  have hl2 : cs.length = 2 := hl.trans (by kernel_rfl)
  match cs, hl2 with
  | [c0, c1], _ =>
    have hc9 : Tryd.prog.cellsOf 9 = 1 := by kernel_rfl
    change DataW.trod enc _ W base spare held n 9 (([c0, c1].drop 0).take (Tryd.prog.cellsOf 9)) = some y0 at h0
    change DataW.trod enc _ W base spare held n 9 (([c0, c1].drop 1).take (Tryd.prog.cellsOf 9)) = some y1 at h1
    rw [hc9] at h0 h1
    simp only [List.drop_zero, List.drop_succ_cons, List.take_succ_cons, List.take_zero] at h0 h1
    obtain ⟨s0, e0, rfl, _⟩ := DataW.trod_string Tryd.underlying9 h0
    obtain ⟨s1, e1, rfl, _⟩ := DataW.trod_string Tryd.underlying9 h1
    simp only [List.cons.injEq, and_true] at e0 e1
    subst e0 e1
    have hw' : ∀ n ∈ [s0.data.toList.length, s1.data.toList.length], n ≤ reachBytes := by
      intro q hq
      refine hw q ?_
      unfold DataW.weights
      rw [Tryd.underlying67]
      show q ∈ DataW.weightsEach Tryd.prog [9, 9] _
      simp only [DataW.weightsEach, DataW.weights]
      simpa using hq
    have a0 := hw' _ (List.mem_cons_self ..)
    have a1 := hw' _ (List.mem_cons_of_mem _ (List.mem_cons_self ..))
    rw [data_length] at a0 a1
    exact ⟨⟨s0, s1⟩, k67_mk W ⟨s0, s1⟩, by simpa [reachBytes] using a0, by simpa [reachBytes] using a1⟩
def FOk (fs : List (S67)) : Prop := fs.length * 32 ≤ 140737488351232 ∧ ∀ f ∈ fs, f.f0.size ≤ 140737488351232 ∧ f.f1.size ≤ 140737488351232
theorem open_fields {H : Type} {enc : TypeId × Value → H} {W : World} {base : Nat} {spare : Nat → Bool} {held : Bool} {fuel : Nat} {v : Value} {y : DataW H × List MemPlace}
    (h : DataW.trod enc Tryd.prog W base spare held fuel 22 [v] = some y) (hw : ∀ n ∈ y.1.weights Tryd.prog 22, n ≤ reachBytes) :
    ∃ A c fs, v = .slice A fs.length c ∧ fs.length ≤ c ∧ Kd.C k67 W A fs.length fs ∧ FOk fs := by
  obtain ⟨A, n, c, xs, hcs, hn, hx, hC, hO, hb⟩ := open_kslice (d := k67) Tryd.underlying22 (by kernel_rfl) opens_field h hw
  subst hx
  simp only [List.cons.injEq, and_true] at hcs
  exact ⟨A, c, xs, hcs, hn, hC, by rw [show Tryd.prog.bytesOf 67 = 32 by kernel_rfl] at hb; exact hb, hO⟩
theorem trod_bytes {H : Type} {enc : TypeId × Value → H} {W : World} {base : Nat} {spare : Nat → Bool} {held : Bool} {fuel : Nat} {v : Value} {y : DataW H × List MemPlace}
    (h : DataW.trod enc Tryd.prog W base spare held fuel 25 [v] = some y) (hw : ∀ n ∈ y.1.weights Tryd.prog 25, n ≤ reachBytes) :
    ∃ A c l, v = .slice A l.length c ∧ l.length ≤ c ∧ Kd.C (Kd.int .u8) W A l.length l ∧ l.length ≤ 140737488351232 ∧ ∀ x ∈ l, (Lit.int .u8 x).wf = true := by
  obtain ⟨A, n, c, xs, hcs, hn, hx, hC, hO, hb⟩ := open_kslice (d := Kd.int .u8) Tryd.underlying25 (by kernel_rfl) (opens_int Tryd.underlying5) h hw
  subst hx
  simp only [List.cons.injEq, and_true] at hcs
  exact ⟨A, c, xs, hcs, hn, hC, by rw [show Tryd.prog.bytesOf 5 = 1 by kernel_rfl] at hb; omega, hO⟩
theorem trod_num {H : Type} {enc : TypeId × Value → H} {W : World} {base : Nat} {spare : Nat → Bool} {held : Bool} {fuel : Nat} {v : Value} {y : DataW H × List MemPlace}
    (h : DataW.trod enc Tryd.prog W base spare held fuel 3 [v] = some y) : ∃ n : Int, v = .int .i64 n ∧ -9223372036854775808 ≤ n ∧ n ≤ 9223372036854775807 := by
  obtain ⟨n, e, _, hn⟩ := DataW.trod_int Tryd.underlying3 h
  simp only [List.cons.injEq, and_true] at e
  have h2 : IntKind.i64.min ≤ n ∧ n ≤ IntKind.i64.max := by simpa [Lit.wf] using hn
  exact ⟨n, e, h2.1, h2.2⟩
theorem trod_bit {H : Type} {enc : TypeId × Value → H} {W : World} {base : Nat} {spare : Nat → Bool} {held : Bool} {fuel : Nat} {v : Value} {y : DataW H × List MemPlace}
    (h : DataW.trod enc Tryd.prog W base spare held fuel 4 [v] = some y) : ∃ b : Bool, v = .bool b := by
  obtain ⟨b, e, _⟩ := DataW.trod_bool Tryd.underlying4 h
  simp only [List.cons.injEq, and_true] at e
  exact ⟨b, e⟩
set_option maxRecDepth 100000 in
theorem open_resp {H : Type} {enc : TypeId × Value → H} {W : World} {b0 base : Nat} {spare : Nat → Bool} {held : Bool} {v : Value} {d : DataW H} {p : List MemPlace} {r : Reach}
    (hv : Value.okWide Tryd.prog W r b0 54 v) (h : DataW.Trod enc Tryd.prog W base spare held 54 v d p) (hw : ∀ n ∈ d.weights Tryd.prog 54, n ≤ reachBytes) :
    ∃ (st : Int) (A1 : Option Addr) (c1 : Nat) (fs : List (S67)) (A2 : Option Addr) (c2 : Nat) (body : List Int) (keep : Bool), v = .agg #[.int .i64 st, .slice A1 fs.length c1, .slice A2 body.length c2, .bool keep] ∧ (fs.length ≤ c1 ∧ Kd.C k67 W A1 fs.length fs ∧ FOk fs) ∧ (body.length ≤ c2 ∧ Kd.C (Kd.int .u8) W A2 body.length body ∧ body.length ≤ 140737488351232 ∧ ∀ x ∈ body, (Lit.int .u8 x).wf = true) ∧ -9223372036854775808 ≤ st ∧ st ≤ 9223372036854775807 := by
  obtain ⟨v0, v1, v2, v3, y0, y1, y2, y3, n, rfl, rfl, rfl, h0, h1, h2, h3⟩ := open_agg4 Tryd.underlying54 (by kernel_rfl) (by kernel_rfl) hv h
  have hw' : ∀ n ∈ DataW.weightsEach Tryd.prog [3, 22, 25, 4] [y0.1, y1.1, y2.1, y3.1], n ≤ reachBytes := by
    intro q hq
    refine hw q ?_
    unfold DataW.weights
    rw [Tryd.underlying54]
    exact hq
  simp only [DataW.weightsEach, List.mem_append, List.append_nil] at hw'
  obtain ⟨st, rfl, hs0, hs1⟩ := trod_num h0
  obtain ⟨A1, c1, fs, rfl, hc1, hC1, hF⟩ := open_fields h1 (fun q hq => hw' q (.inr (.inl hq)))
  obtain ⟨A2, c2, body, rfl, hc2, hC2, hB, hwf⟩ := trod_bytes h2 (fun q hq => hw' q (.inr (.inr (.inl hq))))
  obtain ⟨keep, rfl⟩ := trod_bit h3
  exact ⟨st, A1, c1, fs, A2, c2, body, keep, rfl, ⟨hc1, hC1, hF⟩, ⟨hc2, hC2, hB, hwf⟩, hs0, hs1⟩
end Go.Proofs.YtnhpcpmgedjffaaDoor.P
end
section
namespace Go.Proofs.YtnhpcpmgedjffaaDoor.P
open Go.RowKit Go.Proofs.YtnhpcpmgedjffaaDoorW.PrintWords Go.Proofs.YtnhpcpmgedjffaaDoorW.PrintLast Go.Proofs.YtnhpcpmgedjffaaDoorW.PrintMore Go.Proofs.YtnhpcpmgedjffaaDoorX
theorem respSplits_walk (st : Int) (A1 : Option Addr) (c1 : Nat) (fs : List SF) (A2 : Option Addr) (c2 : Nat) (body : List Int) (keep : Bool) (w : World) (hr1 : Kd.C k67 w A1 fs.length fs) (hc1 : fs.length ≤ c1) (hF : FOk fs) (hr2 : Kd.C (Kd.int .u8) w A2 body.length body) (hc2 : body.length ≤ c2) (h0 : -9223372036854775808 ≤ st) (h1 : st ≤ 9223372036854775807) (hG : GG 7 w) :
    Calls Tryd.prog 7 #[.agg #[.int .i64 st, .slice A1 fs.length c1, .slice A2 body.length c2, .bool keep]] w fun e w' => e = .returned (.bool true) ∧ Below w.heap.size w w' := by
  obtain ⟨k, hk⟩ := (respSplits_ev st fs body keep h0 h1 hF.2 (by have := hF.1; omega)).rounds
  exact ostiarylaw15_RespSplits.calls k st A1 c1 fs A2 c2 body keep true w hr1 hc1 hr2 hc2 (GG_sub hG rfl) hk
end Go.Proofs.YtnhpcpmgedjffaaDoor.P
end
section
-- PRINTED BY print.sh 35421559b90ae4d0a3588c463048766b98c2df88dd9212a6774a882060cdf62d: not written by this session
-- PRINTED WORDS (module Derived/Print/Sized.lean): go-gate-2's, for the rows of laws over slices: an AI agent of Go's test side, Tue Nov 17 2026; no person has read it. Lean checks it.
namespace Go.Proofs.YtnhpcpmgedjffaaDoorW.PrintWords
open Go.ChangeShapes Go.WideShapes
end Go.Proofs.YtnhpcpmgedjffaaDoorW.PrintWords
end
section
/-! The premise on the variables with strconv's powers of ten. -/
namespace Go.Proofs.YtnhpcpmgedjffaaDoorX
open Go Go.RowKit Go.Lib Go.Proofs Go.Proofs.YtnhpcpmgedjffaaDoor
theorem pow10_of {W : World} (h : VarReads Tryd.prog W "internal/strconv.uint64pow10" Rows.laid_internal_strconv_uint64pow10) : Lib.TabIs Tryd.prog W "internal/strconv.uint64pow10" .u64 Lib.pow10Tab ∧ 1 < W.heap.size := by
  rw [show (Rows.laid_internal_strconv_uint64pow10 : DataW Unit) = tabData .u64 Lib.pow10Tab by kernel_rfl] at h
  obtain ⟨g, t, cs, fuel, p, hg, hty, hvar, hd⟩ := h
  obtain rfl := Option.some.inj ((show Tryd.prog.globalNamed "internal/strconv.uint64pow10" = some 1 by kernel_rfl).symm.trans hg)
  obtain rfl := Option.some.inj ((show (Tryd.prog.globals[1]?).map (·.type) = some 204 by kernel_rfl).symm.trans hty)
  have hcs := cells_of_tab Tryd.underlying204 Tryd.underlying174 (by kernel_rfl) (by kernel_rfl) hd
  have he : cs = (Lib.pow10Tab.map fun z => Value.int .u64 z).toArray := by rw [← hcs]
  subst he
  refine ⟨hvar, ?_⟩
  have h0 := World.var?_cell hg hvar 0
  rcases Nat.lt_or_ge 1 W.heap.size with h1 | h1
  · exact h1
  · exfalso
    have h2 : W.cell? ⟨1, 0, none⟩ = none := by
      unfold World.cell?
      rw [Array.getElem?_eq_none h1]
    rw [h2] at h0
    revert h0
    decide
theorem gg7_of {W : World} (hsh : W.ShapedOpen Tryd.prog) (h3 : VarReads Tryd.prog W "unicode/utf8.first" Rows.laid_unicode_utf8_first) (h4 : VarReads Tryd.prog W "unicode/utf8.acceptRanges" Rows.laid_unicode_utf8_acceptRanges) (h5 : VarReads Tryd.prog W "internal/strconv.uint64pow10" Rows.laid_internal_strconv_uint64pow10) : GG 7 W :=
  ⟨fun _ => maxlen_of hsh, fun _ => pow10_of h5, fun _ => utf8_of h3 h4⟩
end Go.Proofs.YtnhpcpmgedjffaaDoorX
end
section
/-! The row of RespSplits. -/
namespace Go.Proofs.YtnhpcpmgedjffaaDoor.respSplits
open Go.ChangeShapes Go.WideShapes Go.ChangeAt Go.RowKit Go.Lib Go.Proofs.YtnhpcpmgedjffaaDoorX
open Go.ChangeMaps (open_string shut_string)
set_option linter.unusedVariables false
theorem laidOut : laidOutB Tryd.prog = true := by kernel_rfl
def IsRow (k : IntKind) (w : World) (a : Option Addr) (len cap : Nat) (zs : List Int) : Prop :=
  (a = none ∧ len = 0 ∧ cap = 0 ∧ zs = []) ∨
  ∃ x, a = some x ∧ len ≤ cap ∧ cap ≤ maxLen ∧ zs.length = cap ∧ (∀ i, i < zs.length → w.cell? (x.add i) = some (.int k (zs.getD i 0))) ∧ ∀ n ∈ zs, (Lit.int k n).wf = true
set_option maxRecDepth 100000 in
theorem door_met (os : Os) (args : Array Value) : laidMetH Tryd.prog Rows.respSplitsRow.laid ((doorWorld os).forCall (fun _ _ => 0) ⟨#[], args, []⟩).memory :=
  laidMetH_of_parts3 (fuel := 8) (laidMet_of_run' 8 (by kernel_rfl) (by kernel_rfl)) (by kernel_rfl) (by kernel_rfl)
set_option maxRecDepth 100000 in
theorem lifted (os : Os) (started : os.Started) (H : Type) (enc : TypeId × Value → H) :
    ReturnsInHanded {} Tryd.checked os 7 .any (fun w args => (Rows.respSplitsSpec.pre enc Tryd.checked.prog Tryd.f7 Rows.respSplitsRow.domain false w args ∧ laidMetH Tryd.prog Rows.respSplitsRow.laid w) ∧ sizedMet enc Tryd.checked.prog Tryd.f7 (OpenSpec.ofChange Rows.respSplitsSpec) false w args) (Rows.respSplitsSpec.post enc Tryd.checked.prog Tryd.f7 false true false false) := by
  refine handed_laid (C := Tryd.checked) (X := (fun w _ => laidMetH Tryd.prog Rows.respSplitsRow.laid w)) (fun _ _ _ hh h => h.of_heap hh) own started (by kernel_rfl) Tryd.func7
    (ChangeSpec.witness_shaped (enc := enc) (C := Tryd.checked) (os := os) (X := (fun w _ => laidMetH Tryd.prog Rows.respSplitsRow.laid w)) false (doorWorld os) #[.agg #[.int .i64 0, .slice none 0 0, .slice none 0 0, .bool false]] 8 rfl (World.shaped_of_RefB (by kernel_rfl) (by kernel_rfl)) (by kernel_rfl) (by kernel_rfl) (by kernel_rfl) (door_met os _)) ?_
  intro W base args ds gs before hval0 hW hcnd hsz0 hL hsh
  have hsz : (DataW.weightsEach Tryd.prog (Tryd.f7.params.toList ++ Rows.respSplitsSpec.plain.varTypes Tryd.prog) (ds ++ gs)).all (· ≤ reachBytes) = true := hsz0
  have hval : ∀ (j : Nat) t v, Tryd.f7.params[j]? = some t → args[j]? = some v → Value.okWide Tryd.prog W .any base t v := hval0
  have hL' : laidMet Tryd.prog Rows.respSplitsRow.laid W := by
    have h := hL
    rw [MakeChecks.laidMetH_plain _ _ _ (by kernel_rfl)] at h
    exact h
  have hG : GG 7 W := gg7_of hsh (Lib.laidMet.reads hL' (.tail _ (.tail _ (.tail _ (.tail _ (.head _)))))) (Lib.laidMet.reads hL' (.tail _ (.tail _ (.tail _ (.head _))))) (Lib.laidMet.reads hL' (.tail _ (.tail _ (.head _))))
  have hW' := hW
  obtain ⟨p, q, hA0, hV, rfl, hfz, hnd⟩ := hW
  have hA : DataW.TrodAll enc Tryd.prog W 0 (fun _ => true) true Tryd.f7.params.toList args.toList ds p := hA0
  rw [Tryd.params7] at hA hval hsz
  obtain ⟨v0, vs0, d0, ds0, p0, q0, hargs, rfl, rfl, h0, r0⟩ := trodAll_cons hA
  obtain ⟨rfl, rfl, rfl⟩ := trodAll_nil r0
  obtain rfl : args = #[v0] := by cases args; simp_all
  obtain ⟨rfl, rfl⟩ := trodVars_none hV
  have k0 := h0
  have lt0 : ∀ x ∈ p0, x.block < W.heap.size := by obtain ⟨m, hm⟩ := k0; exact DataW.trod_lt m _ _ _ hm
  obtain ⟨a, A1, c1, fs, A2, c2, body, keep, rfl, ⟨hc1, hC1, hF⟩, ⟨hc2, hC2, -, -⟩, hs0, hs1⟩ := P.open_resp (hval 0 54 v0 rfl rfl) h0 (fun n hn => of_decide_eq_true (List.all_eq_true.1 hsz n (DataW.weights_mem_each (j := 0) rfl rfl n hn)))
  clear hA0 hval0 hsz0 hsz
  refine (P.respSplits_walk a A1 c1 fs A2 c2 body keep W hC1 hc1 hF hC2 hc2 hs0 hs1 hG).mono fun e W' ⟨he, bel⟩ => ?_
  subst he
  exact ⟨_, rfl, _, _, _, [], _, [], hW', trodAll_mk1 (shut_bool Tryd.underlying4 _), (trodAll_cons_mk (Below.trod laidOut (by kernel_rfl) (of_decide_eq_true (by kernel_rfl)) k0 bel lt0) trodAll_mk0), rfl, bel.frame _, fun h => by cases h⟩
theorem andT {a b : Bool} (h1 : a = true) (h2 : b = true) : (a && b) = true := Bool.and_eq_true_iff.2 ⟨h1, h2⟩
set_option maxHeartbeats 4000000 in
theorem facts : joinedFacts Tryd.prog 7 Tryd.f7 Rows.respSplitsSpec Rows.respSplitsRow = true := by
  unfold joinedFacts
  iterate 31 (refine andT ?_ (by as_aux_lemma => kernel_rfl))
  as_aux_lemma => kernel_rfl
theorem over : Rows.respSplitsRow.holds Tryd.pinned (OpenSpec.ofChange Rows.respSplitsSpec) :=
  OpenClaim.holds_of_wide 7 Tryd.f7 rfl rfl rfl rfl rfl rfl rfl ⟨rfl, rfl, rfl, rfl, rfl⟩ rfl rfl rfl rfl rfl (by kernel_rfl) Tryd.func7 facts
    (of_decide_eq_true (by kernel_rfl)) (by unfold Func.isWrapper; first | (rw [if_pos (by decide +kernel)]; kernel_rfl) | (rw [if_neg (by decide +kernel)]; exact ⟨rfl, rfl⟩))
    (fun os started H enc _ => lifted os started H enc)
theorem proved : Rows.RespSplitsSaid := over
end Go.Proofs.YtnhpcpmgedjffaaDoor.respSplits
end
