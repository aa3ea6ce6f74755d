import Derived.Test.YtnhpcpmgedjffaaDoorProg
import Derived.IntWalk
import Derived.Deep.DrawnRows
import Derived.Deep.RegionHeld3
import Derived.Laws.MakeOwn
import Derived.Deep.DeepCutAuto
import Derived.SizedLaws
import Derived.ChangeSlices
import Derived.Test.YtnhpcpmgedjffaaDoorRows
import Derived.WalkKit
import Derived.ProofKit
import Derived.OpenShut
import Derived.ShutString
import Derived.ChangeOld
import Derived.Below
import Derived.Test.YtnhpcpmgedjffaaDoorKHeadParses7
section
-- Written by the proof's own program out of the translation; Lean checks it.
namespace Go.Proofs.YtnhpcpmgedjffaaDoor.P
open Go.RowKit Go.Proofs.YtnhpcpmgedjffaaDoorW.PrintWords Go.Proofs.YtnhpcpmgedjffaaDoorW.PrintLast Go.Proofs.YtnhpcpmgedjffaaDoorW.PrintMore Go.Proofs.YtnhpcpmgedjffaaDoorX
attribute [local go_sem] max2_int min2_int max_two min_two max_three min_three max_four min_four   -- for this text's walks alone
set_option linter.unusedVariables false
set_option linter.unusedSimpArgs false

end Go.Proofs.YtnhpcpmgedjffaaDoor.P
end
section
namespace Go.Proofs.YtnhpcpmgedjffaaDoorX
open Go.RowKit Go.Proofs.YtnhpcpmgedjffaaDoorW.PrintWords Go.Proofs.YtnhpcpmgedjffaaDoorW.PrintLast Go.Proofs.YtnhpcpmgedjffaaDoorW.PrintMore
set_option linter.unusedVariables false
set_option linter.unusedSimpArgs false

theorem toList_D (s : ByteArray) : s.toList = s.data.toList := by
  obtain ⟨⟨l⟩⟩ := s
  exact ByteArray.toList_mk l
theorem ba_ext {s t : ByteArray} (h : s.data.toList = t.data.toList) : s = t := by
  obtain ⟨⟨l⟩⟩ := s; obtain ⟨⟨m⟩⟩ := t
  simp at h; subst h; rfl
def nums8 (l : List UInt8) : List Int := l.map fun b => (b.toNat : Int)
theorem isBytes_nums8 (l : List UInt8) : isBytes (nums8 l) = true := by
  simp only [isBytes, nums8, List.all_map, List.all_eq_true, Function.comp, Bool.and_eq_true, decide_eq_true_eq]
  intro b _
  have := b.toNat_lt
  omega
theorem ofNat_byte (b : UInt8) : UInt8.ofNat ((b.toNat : Int)).toNat = b := by simp
theorem lib_nums8 (l : List UInt8) : Lib.bytesOf (nums8 l) = l := by
  simp only [Lib.bytesOf, nums8, List.map_map]
  conv => rhs; rw [← List.map_id l]
  exact List.map_congr_left fun b _ => ofNat_byte b
theorem strOf_nums8 (l : List UInt8) : strOfNums (nums8 l) = ⟨l.toArray⟩ := by
  have h := lib_nums8 l
  simp only [Lib.bytesOf] at h
  simp only [strOfNums, h]
theorem bytesOf_strOf {l : List Int} (h : isBytes l = true) : bytesOf (strOfNums l) = l := by
  simp only [bytesOf, strOfNums, List.map_map]
  conv => rhs; rw [← List.map_id l]
  refine List.map_congr_left fun c hc => ?_
  have := isBytes_mem h c hc
  simp only [Function.comp, id]
  rw [UInt8.toNat_ofNat_of_lt' (by simp [UInt8.size]; omega)]
  omega
theorem nums8_length (a : List UInt8) : (nums8 a).length = a.length := by simp [nums8]
theorem size_D (s : ByteArray) : s.size = s.data.toList.length := (data_length s).symm

theorem index_at (c : UInt8) (t rest : List UInt8) : ∀ p : List UInt8, c ∉ p → Lib.index (p ++ (c :: t) ++ rest) (c :: t) = p.length
  | [], _ => by
    simp only [List.nil_append, List.cons_append, List.length_nil]
    unfold Lib.index
    rw [if_pos (by rw [← List.cons_append, List.isPrefixOf_iff_prefix]; exact List.prefix_append _ _)]
    rfl
  | b :: p, h => by
    have hb : c ≠ b := fun e => h (by rw [e]; exact List.mem_cons_self)
    have ih := index_at c t rest p (fun e => h (List.mem_cons_of_mem _ e))
    simp only [List.cons_append]
    unfold Lib.index
    rw [if_neg (by simp [List.isPrefixOf, hb]), ih]
    have : ((p.length : Int) == -1) = false := by rw [beq_eq_false_iff_ne]; omega
    simp [this]
theorem cutB_at (p rest : List UInt8) (h : (13 : UInt8) ∉ p) : xCutB (nums8 (p ++ 13 :: 10 :: rest)) [13, 10] = (nums8 p, nums8 rest, true) := by
  have e : xIndex (nums8 (p ++ 13 :: 10 :: rest)) [13, 10] = p.length := by
    unfold xIndex
    rw [lib_nums8]
    have := index_at 13 [10] rest p h
    simpa [Lib.bytesOf] using this
  unfold xCutB
  have e1 : nums8 (p ++ 13 :: 10 :: rest) = nums8 p ++ ([13, 10] ++ nums8 rest) := by simp [nums8]
  rw [e, if_pos (by omega), e1]
  have e2 : (nums8 p).length = p.length := nums8_length p
  simp [List.take_append, List.drop_append, e2]
theorem cut_at (s sep : ByteArray) (c : UInt8) (hc : sep.data.toList = [c]) (p rest : List UInt8) (hs : s.data.toList = p ++ c :: rest) (h : c ∉ p) : xCut s sep = (⟨p.toArray⟩, ⟨rest.toArray⟩, true) := by
  have e : Lib.index (p ++ c :: rest) [c] = p.length := by simpa using index_at c [] rest p h
  unfold xCut Lib.cut
  rw [hs, hc, e, if_pos (by omega)]
  simp

theorem dropWhile_head {α : Type} (f : α → Bool) (l : List α) (h : ∀ x, l.head? = some x → f x = false) : l.dropWhile f = l := by
  cases l with
  | nil => rfl
  | cons a l => rw [List.dropWhile_cons, if_neg (by rw [h a rfl]; decide)]
theorem dropWhile_past {α : Type} (f : α → Bool) (a l : List α) (h : ∀ x ∈ a, f x = true) : (a ++ l).dropWhile f = l.dropWhile f := by
  rw [List.dropWhile_append_of_pos h]
theorem trimS_at (a v b cs : List UInt8) (ha : ∀ x ∈ a, cs.contains x = true) (hb : ∀ x ∈ b, cs.contains x = true)
    (h1 : ∀ x, v.head? = some x → cs.contains x = false) (h2 : ∀ x, v.getLast? = some x → cs.contains x = false) : Lib.trimS (a ++ v ++ b) cs = v := by
  have e1 : Lib.trimRightS (a ++ v ++ b) cs = Lib.trimRightS (a ++ v) cs := by
    unfold Lib.trimRightS
    rw [List.reverse_append, dropWhile_past _ _ _ (fun x hx => hb x (List.mem_reverse.1 hx))]
  unfold Lib.trimS
  rw [e1]
  by_cases hv : v = []
  · subst hv
    have : Lib.trimRightS (a ++ []) cs = [] := by
      unfold Lib.trimRightS
      rw [List.append_nil, ← List.append_nil a.reverse, dropWhile_past _ _ _ (fun x hx => ha x (List.mem_reverse.1 hx))]
      rfl
    rw [this]; rfl
  · have e2 : Lib.trimRightS (a ++ v) cs = a ++ v := by
      unfold Lib.trimRightS
      rw [dropWhile_head, List.reverse_reverse]
      intro x hx
      rw [List.head?_reverse, List.getLast?_append] at hx
      obtain ⟨z, hz⟩ : ∃ z, v.getLast? = some z := by
        cases hq : v.getLast? with
        | none => exact absurd (List.getLast?_eq_none_iff.1 hq) hv
        | some z => exact ⟨z, rfl⟩
      rw [hz] at hx
      simp at hx
      exact hx ▸ h2 z hz
    rw [e2]
    unfold Lib.trimLeftS
    rw [dropWhile_past _ _ _ ha, dropWhile_head _ _ h1]

end Go.Proofs.YtnhpcpmgedjffaaDoorX
end
section
namespace Go.Proofs.YtnhpcpmgedjffaaDoor.P
open Go.RowKit Go.Proofs.YtnhpcpmgedjffaaDoorW.PrintWords Go.Proofs.YtnhpcpmgedjffaaDoorW.PrintLast Go.Proofs.YtnhpcpmgedjffaaDoorW.PrintMore Go.Proofs.YtnhpcpmgedjffaaDoorX
set_option linter.unusedVariables false
set_option linter.unusedSimpArgs false

theorem Ev.ite_pos {α : Type} {c : Prop} [Decidable c] {f g : Nat → Option α} {r : α} (hc : c) (h : Ev f r) : Ev (fun k => if c then f k else g k) r := by
  simpa [hc] using h
theorem Ev.ite_neg {α : Type} {c : Prop} [Decidable c] {f g : Nat → Option α} {r : α} (hc : ¬ c) (h : Ev g r) : Ev (fun k => if c then f k else g k) r := by
  simpa [hc] using h
theorem Ev.some_bind {α β : Type} {o : Option α} {f : Nat → α → Option β} {a : α} {r : β} (h : o = some a) (k : Ev (fun n => f n a) r) : Ev (fun n => o.bind (f n)) r := by
  subst h; exact k
theorem Ev.is {α : Type} {g : Nat → Option α} {a b : α} (h : Ev g a) (e : a = b) : Ev g b := e ▸ h
theorem wrap64_id {n : Int} (h0 : -9223372036854775808 ≤ n) (h1 : n ≤ 9223372036854775807) : wrap64 n = n := by
  unfold wrap64; omega
theorem bt_nat (s : ByteArray) (i : Nat) (h : i < s.data.toList.length) : bt s (i : Int) = (s.data.toList[i].toNat : Int) := by
  have e := rd_bytesOf s (i : Int)
  rw [← e, rd_at _ _ (by rw [bytesOf_length, size_D]; exact h)]
  simp [bytesOf]
theorem rd_nums8 (l : List UInt8) (i : Nat) (h : i < l.length) : rd (nums8 l) (i : Int) = (l[i].toNat : Int) := by
  rw [rd_at _ _ (by rw [nums8_length]; exact h)]
  simp [nums8]
abbrev mkB (l : List UInt8) : ByteArray := ⟨l.toArray⟩
theorem mkB_D (s : ByteArray) : mkB s.data.toList = s := ba_ext rfl
theorem mkB_size (l : List UInt8) : (mkB l).size = l.length := rfl
theorem nil_size {s : ByteArray} : s.toList = ([] : List UInt8) ↔ s.size = 0 := by
  rw [toList_D, size_D]; exact List.length_eq_zero_iff.symm
theorem toList_eq {s t : ByteArray} : s.toList = t.toList ↔ s = t := ⟨fun h => ba_ext (by rw [toList_D, toList_D] at h; exact h), fun h => by rw [h]⟩

theorem letter_all : ∀ b : Fin 256, ostiaryref13_Letter.f (b.val : Int) = some (wordL (b.val : Int)) := by decide +kernel
theorem letter_at (s : ByteArray) (i : Int) : ostiaryref13_Letter.f (bt s i) = some (wordL (bt s i)) := by
  obtain ⟨h0, h1⟩ := bt_range s i
  have := letter_all ⟨(bt s i).toNat, by omega⟩
  simpa [Int.toNat_of_nonneg h0] using this
theorem drop_bytes (s : ByteArray) (i : Nat) (h : i < s.size) : (bytesOf s).drop i = bt s (i : Int) :: (bytesOf s).drop (i + 1) := by
  have hl := bytesOf_length s
  rw [List.drop_eq_getElem_cons (by omega), ← rd_at _ _ (by omega), rd_bytesOf]
theorem rword_loop (s : ByteArray) (hs : s.size ≤ 9223372036854775000) : ∀ (m i : Nat), i + m = s.size → Ev (fun k => ostiaryref13_Word.l0 k s (i : Int)) (((bytesOf s).drop i).all wordL)
  | 0, i, h => by
    have hl := bytesOf_length s
    refine Ev.step (fun k => by rw [ostiaryref13_Word.l0]) (Ev.ite_neg (by omega) ?_)
    rw [List.drop_of_length_le (by omega)]
    exact Ev.now true
  | m + 1, i, h => by
    have ih := rword_loop s hs m (i + 1) (by omega)
    refine Ev.step (fun k => by rw [ostiaryref13_Word.l0]) (Ev.ite_pos (by omega) (Ev.ite_pos (by omega) (Ev.some_bind (letter_at _ _) ?_)))
    rw [wrap64_id (n := (i : Int) + 1) (by omega) (by omega), drop_bytes s i (by omega), List.all_cons]
    cases hw : wordL (bt s (i : Int)) with
    | true => exact Ev.ite_pos rfl ih
    | false => exact Ev.ite_neg (by decide) (Ev.now false)
theorem rword_ev (s : ByteArray) (most : Int) (hs : s.size ≤ 9223372036854775000) : Ev (fun k => ostiaryref13_Word.f k s most) (wordF (bytesOf s) most) := by
  have hl := bytesOf_length s
  have h0 := rword_loop s hs s.size 0 (by omega)
  unfold ostiaryref13_Word.f wordF
  by_cases h1 : (s.size : Int) < 1
  · refine Ev.ite_pos h1 (Ev.step (fun k => by rw [ostiaryref13_Word.j0]) (Ev.ite_pos rfl (Ev.is (Ev.now false) ?_)))
    have : ((bytesOf s).length != 0) = false := bne_eq_false_iff_eq.2 (by omega)
    simp [this]
  · have e1 : ((bytesOf s).length != 0) = true := bne_iff_ne.2 (by omega)
    refine Ev.ite_neg h1 (Ev.step (fun k => by rw [ostiaryref13_Word.j0]) ?_)
    by_cases h2 : (s.size : Int) > most
    · refine Ev.ite_pos (by simpa using h2) (Ev.is (Ev.now false) ?_)
      have : decide (((bytesOf s).length : Int) ≤ most) = false := decide_eq_false (by omega)
      simp [this]
    · refine Ev.ite_neg (by simpa using h2) (Ev.is h0 ?_)
      have : decide (((bytesOf s).length : Int) ≤ most) = true := decide_eq_true (by omega)
      simp [this, e1]
theorem hword_eq (s : ByteArray) (most : Int) (hs : s.size ≤ 140737488355328) : head_word.f s most = some (wordF (bytesOf s) most) := by
  unfold head_word.f; rw [if_pos hs]

def okT (c : Int) : Bool := !decide (c < 33) && !decide (c > 126)
def tgtP (s : ByteArray) : Bool := (bytesOf s).all okT && (s.size != 0 && bt s 0 == 47)
theorem okT_lo {c : Int} (h : c < 33) : okT c = false := by simp [okT, h]
theorem okT_hi {c : Int} (h : c > 126) : okT c = false := by simp [okT, h]
theorem okT_in {c : Int} (h : ¬ c < 33) (h2 : ¬ c > 126) : okT c = true := by simp [okT, h, h2]
theorem htarget_loop (s : ByteArray) (hs : s.size ≤ 140737488355328) : ∀ (m i : Nat), i + m = s.size → Ev (fun k => head_target.l0 k s (bytesOf s) ((bytesOf s).length : Int) (i : Int)) (((bytesOf s).drop i).all okT && (s.size != 0 && bt s 0 == 47))
  | 0, i, h => by
    have hl := bytesOf_length s
    refine Ev.step (fun k => by rw [head_target.l0]) (Ev.ite_neg (by omega) ?_)
    rw [List.drop_of_length_le (by omega)]
    by_cases h0 : s.size = 0
    · exact Ev.ite_pos (nil_size.2 h0) (Ev.is (Ev.now false) (by simp [h0]))
    · exact Ev.ite_neg (fun e => h0 (nil_size.1 e)) (Ev.ite_pos (by omega) (Ev.is (Ev.now _) (by simp [h0])))
  | m + 1, i, h => by
    have hl := bytesOf_length s
    have ih := htarget_loop s hs m (i + 1) (by omega)
    refine Ev.step (fun k => by rw [head_target.l0]) (Ev.ite_pos (by omega) (Ev.ite_pos (by omega) (Ev.ite_pos (by omega) ?_)))
    rw [wrap64_id (n := (i : Int) + 1) (by omega) (by omega), drop_bytes s i (by omega), List.all_cons, rd_bytesOf]
    by_cases h1 : bt s (i : Int) < 33
    · exact Ev.ite_pos h1 (Ev.is (Ev.now false) (by rw [okT_lo h1]; rfl))
    · refine Ev.ite_neg h1 ?_
      by_cases h2 : bt s (i : Int) > 126
      · exact Ev.ite_pos h2 (Ev.is (Ev.now false) (by rw [okT_hi h2]; rfl))
      · exact Ev.ite_neg h2 (Ev.is ih (by rw [okT_in h1 h2, Bool.true_and]))
theorem htarget_ev (s : ByteArray) (hs : s.size ≤ 140737488355328) : Ev (fun k => head_target.f k s) (tgtP s) := by
  have := htarget_loop s hs s.size 0 (by omega)
  unfold head_target.f
  exact Ev.ite_pos hs (Ev.some_bind rfl (Ev.is this (by rw [List.drop_zero]; rfl)))
theorem rtarget_loop (s : ByteArray) (hs : s.size ≤ 140737488355328) : ∀ (m i : Nat), i + m = s.size → Ev (fun k => ostiaryref13_target.l0 k s (i : Int)) (((bytesOf s).drop i).all okT)
  | 0, i, h => by
    have hl := bytesOf_length s
    refine Ev.step (fun k => by rw [ostiaryref13_target.l0]) (Ev.ite_neg (by omega) ?_)
    rw [List.drop_of_length_le (by omega)]
    exact Ev.now true
  | m + 1, i, h => by
    have ih := rtarget_loop s hs m (i + 1) (by omega)
    refine Ev.step (fun k => by rw [ostiaryref13_target.l0]) (Ev.ite_pos (by omega) (Ev.ite_pos (by omega) ?_))
    rw [wrap64_id (n := (i : Int) + 1) (by omega) (by omega), drop_bytes s i (by omega), List.all_cons]
    by_cases h1 : bt s (i : Int) < 33
    · exact Ev.ite_pos h1 (Ev.is (Ev.now false) (by rw [okT_lo h1]; rfl))
    · refine Ev.ite_neg h1 ?_
      by_cases h2 : bt s (i : Int) > 126
      · exact Ev.ite_pos h2 (Ev.is (Ev.now false) (by rw [okT_hi h2]; rfl))
      · exact Ev.ite_neg h2 (Ev.is ih (by rw [okT_in h1 h2, Bool.true_and]))
theorem rtarget_ev (s : ByteArray) (hs : s.size ≤ 140737488355328) : Ev (fun k => ostiaryref13_target.f k s) (tgtP s) := by
  have h0 := rtarget_loop s hs s.size 0 (by omega)
  unfold ostiaryref13_target.f tgtP
  by_cases h1 : (s.size : Int) < 1
  · refine Ev.ite_pos h1 (Ev.step (fun k => by rw [ostiaryref13_target.j0]) (Ev.ite_pos rfl (Ev.is (Ev.now false) ?_)))
    have : s.size = 0 := by omega
    simp [this]
  · have e1 : (s.size != 0) = true := bne_iff_ne.2 (by omega)
    refine Ev.ite_neg h1 (Ev.ite_pos (by omega) (Ev.step (fun k => by rw [ostiaryref13_target.j0]) ?_))
    by_cases h2 : bt s 0 = 47
    · refine Ev.ite_neg (by simp [h2]) (Ev.is h0 ?_)
      simp [h2, e1]
    · refine Ev.ite_pos (by simp [h2]) (Ev.is (Ev.now false) ?_)
      simp [h2]

def blankC (c : Int) : Bool := c == 9 || c == 32
theorem blank_f (c : Int) : head_blank.f c = some (blankC c) := by
  unfold head_blank.f blankC
  by_cases h : c = 9
  · simp [h]
  · rw [if_neg h]; simp [h]
theorem rblank_f (c : Int) : ostiaryref13_blank.f c = some (blankC c) := blank_f c
def bl8 (x : UInt8) : Bool := blankC (x.toNat : Int)
theorem blank_cs (x : UInt8) : ([9, 32] : List UInt8).contains x = bl8 x := by
  have : ∀ b : Fin 256, ([9, 32] : List UInt8).contains (UInt8.ofNat b.val) = blankC (b.val : Int) := by decide +kernel
  have h := this ⟨x.toNat, x.toNat_lt⟩
  simpa [bl8] using h
def trimL (l : List UInt8) : List UInt8 := ((l.dropWhile bl8).reverse.dropWhile bl8).reverse
theorem dropWhile_cut {α : Type} (p : α → Bool) (l : List α) : ∃ a, l = a ++ l.dropWhile p ∧ (∀ x ∈ a, p x = true) ∧ ∀ x, (l.dropWhile p).head? = some x → p x = false := by
  induction l with
  | nil => exact ⟨[], rfl, by simp, by simp⟩
  | cons b l ih =>
    rw [List.dropWhile_cons]
    cases hb : p b with
    | true =>
      obtain ⟨a, h1, h2, h3⟩ := ih
      exact ⟨b :: a, by rw [if_pos rfl]; exact congrArg (b :: ·) h1, by simpa [hb] using h2, by rw [if_pos rfl]; exact h3⟩
    | false =>
      rw [if_neg (by simp)]
      exact ⟨[], rfl, by simp, by intro x hx; simp at hx; exact hx ▸ hb⟩
theorem trim_parts (l : List UInt8) : ∃ a b, l = a ++ trimL l ++ b ∧ (∀ x ∈ a, bl8 x = true) ∧ (∀ x ∈ b, bl8 x = true) ∧ (∀ x, (trimL l).head? = some x → bl8 x = false) ∧ (∀ x, (trimL l).getLast? = some x → bl8 x = false) := by
  obtain ⟨a, h1, h2, h3⟩ := dropWhile_cut bl8 l
  obtain ⟨b, g1, g2, g3⟩ := dropWhile_cut bl8 (l.dropWhile bl8).reverse
  have e : l.dropWhile bl8 = trimL l ++ b.reverse := by
    have := congrArg List.reverse g1
    rw [List.reverse_reverse, List.reverse_append] at this
    exact this
  refine ⟨a, b.reverse, ?_, h2, fun x hx => g2 x (List.mem_reverse.1 hx), ?_, ?_⟩
  · rw [List.append_assoc, ← e]; exact h1
  · intro x hx
    refine h3 x ?_
    rw [e]
    rw [List.head?_append, hx]; rfl
  · intro x hx
    refine g3 x ?_
    unfold trimL at hx
    rw [List.getLast?_reverse] at hx
    exact hx
theorem trimS_is (l : List UInt8) : Lib.trimS l [9, 32] = trimL l := by
  obtain ⟨a, b, h1, h2, h3, h4, h5⟩ := trim_parts l
  conv => lhs; rw [h1]
  exact trimS_at a (trimL l) b [9, 32] (fun x hx => by rw [blank_cs]; exact h2 x hx) (fun x hx => by rw [blank_cs]; exact h3 x hx) (fun x hx => by rw [blank_cs]; exact h4 x hx) (fun x hx => by rw [blank_cs]; exact h5 x hx)
theorem trimL_length (l : List UInt8) : (trimL l).length ≤ l.length := by
  obtain ⟨a, b, h1, _⟩ := trim_parts l
  have := congrArg List.length h1
  simp at this; omega
theorem htrim_eq (s : ByteArray) (hs : s.size ≤ 9223372036854775807) : strings_Trim.f s (⟨#[9, 32]⟩ : ByteArray) = some (mkB (trimL s.data.toList)) := by
  unfold strings_Trim.f
  rw [if_pos ⟨hs, by decide, by decide⟩]
  congr 1
  unfold xTrim
  rw [← trimS_is]

theorem rtrim_right : ∀ (m : Nat) (l : List UInt8), l.length = m → m ≤ 9223372036854775000 → Ev (fun k => ostiaryref13_Trim.l1 k (mkB l)) (mkB (l.reverse.dropWhile bl8).reverse)
  | 0, l, h, hm => by
    have : l = [] := List.length_eq_zero_iff.1 h
    subst this
    refine Ev.step (fun k => by rw [ostiaryref13_Trim.l1]) ?_
    refine Ev.ite_neg (by decide) ?_
    exact Ev.now _
  | m + 1, l, h, hm => by
    have hsz : (mkB l).size = m + 1 := h
    obtain ⟨p, c, rfl⟩ : ∃ p c, l = p ++ [c] := by
      rcases List.eq_nil_or_concat l with e | ⟨p, c, e⟩
      · subst e; cases h
      · exact ⟨p, c, by rw [e, List.concat_eq_append]⟩
    have hp : p.length = m := by simpa using h
    have hw : wrap64 (((mkB (p ++ [c])).size : Int) - 1) = (m : Int) := by
      rw [hsz, wrap64_id (by omega) (by omega)]; omega
    have hb : bt (mkB (p ++ [c])) (m : Int) = (c.toNat : Int) := by
      rw [bt_nat _ _ (by simp [hp])]
      simp [hp]
    refine Ev.step (fun k => by rw [ostiaryref13_Trim.l1]) (Ev.ite_pos (by omega) ?_)
    rw [hw]
    refine Ev.ite_pos (by omega) (Ev.ite_pos (by omega) (Ev.some_bind (rblank_f _) ?_))
    rw [hb, List.reverse_append, List.reverse_singleton, List.singleton_append, List.dropWhile_cons]
    cases hc : bl8 c with
    | true =>
      have hc' : blankC (c.toNat : Int) = true := hc
      rw [hc', if_pos rfl]
      refine Ev.ite_pos rfl (Ev.ite_pos (by omega) ?_)
      have e : (mkB (p ++ [c])).extract 0 ((m : Int)).toNat = mkB p := ba_ext (by simp [hp])
      rw [e]
      exact rtrim_right m p hp (by omega)
    | false =>
      have hc' : blankC (c.toNat : Int) = false := hc
      rw [hc', if_neg (by decide)]
      refine Ev.ite_neg (by decide) (Ev.is (Ev.now _) ?_)
      simp
theorem rtrim_left : ∀ (l : List UInt8), l.length ≤ 9223372036854775000 → Ev (fun k => ostiaryref13_Trim.l0 k (mkB l)) (mkB (trimL l))
  | [], h => by
    refine Ev.step (fun k => by rw [ostiaryref13_Trim.l0]) (Ev.ite_neg (by decide) (Ev.step (fun k => by rw [ostiaryref13_Trim.j1]) ?_))
    exact rtrim_right 0 [] rfl (by decide)
  | c :: l, h => by
    have hsz : (mkB (c :: l)).size = l.length + 1 := rfl
    have hb : bt (mkB (c :: l)) 0 = (c.toNat : Int) := bt_nat (mkB (c :: l)) 0 (by simp)
    have hl : l.length + 1 ≤ 9223372036854775000 := h
    refine Ev.step (fun k => by rw [ostiaryref13_Trim.l0]) (Ev.ite_pos (by omega) (Ev.ite_pos (by omega) (Ev.some_bind (rblank_f _) ?_)))
    rw [hb]
    cases hc : bl8 c with
    | true =>
      have hc' : blankC (c.toNat : Int) = true := hc
      rw [hc']
      refine Ev.ite_pos rfl (Ev.ite_pos (by omega) ?_)
      have e : (mkB (c :: l)).extract 1 (mkB (c :: l)).size = mkB l := ba_ext (by simp [hsz])
      rw [e]
      refine Ev.is (rtrim_left l (by omega)) ?_
      unfold trimL
      rw [List.dropWhile_cons, if_pos hc]
    | false =>
      have hc' : blankC (c.toNat : Int) = false := hc
      rw [hc']
      refine Ev.ite_neg (by decide) (Ev.step (fun k => by rw [ostiaryref13_Trim.j1]) (Ev.is (rtrim_right _ _ rfl h) ?_))
      unfold trimL
      rw [List.dropWhile_cons, if_neg (by rw [hc]; decide)]
theorem rtrim_ev (s : ByteArray) (hs : s.size ≤ 9223372036854775000) : Ev (fun k => ostiaryref13_Trim.f k s) (mkB (trimL s.data.toList)) := by
  have := rtrim_left s.data.toList (by rw [← size_D]; exact hs)
  rw [mkB_D] at this
  exact this

def okV (c : Int) : Bool := c == 9 || (!decide (c < 32) && c != 127)
def endsP (s : ByteArray) : Bool := s.size == 0 || (!blankC (bt s 0) && !blankC (bt s ((s.size : Int) - 1)))
def valP (s : ByteArray) : Bool := (bytesOf s).all okV && endsP s
theorem value_loop (s : ByteArray) (hs : s.size ≤ 140737488355328) : ∀ (m i : Nat), i + m = s.size →
    Ev (fun k => head_value.l0 k s (bytesOf s) ((bytesOf s).length : Int) (i : Int)) (((bytesOf s).drop i).all okV && endsP s)
  | 0, i, h => by
    have hl := bytesOf_length s
    refine Ev.step (fun k => by rw [head_value.l0]) ?_
    refine Ev.ite_neg (by omega) ?_
    rw [List.drop_of_length_le (by omega)]
    unfold endsP
    by_cases h1 : s.size = 0
    · refine Ev.ite_pos (nil_size.2 h1) ?_
      simpa [h1] using Ev.now true
    · have h1b : (s.size == 0) = false := by simpa using h1
      refine Ev.ite_neg (fun e => h1 (nil_size.1 e)) (Ev.ite_pos (by omega) (Ev.some_bind (blank_f _) ?_))
      by_cases hb : blankC (bt s 0) = true
      · refine Ev.ite_pos hb ?_
        simpa [hb, h1b] using Ev.now false
      · refine Ev.ite_neg hb ?_
        rw [wrap64_id (by omega) (by omega)]
        refine Ev.ite_pos (by omega) (Ev.ite_pos (by omega) (Ev.some_bind (blank_f _) ?_))
        simpa [hb, h1b] using Ev.now (!blankC (bt s ((s.size : Int) - 1)))
  | m + 1, i, h => by
    have hl := bytesOf_length s
    have ih := value_loop s hs m (i + 1) (by omega)
    refine Ev.step (fun k => by rw [head_value.l0]) ?_
    rw [wrap64_id (n := (i : Int) + 1) (by omega) (by omega), rd_bytesOf, drop_bytes s i (by omega)]
    refine Ev.ite_pos (by omega) (Ev.ite_pos (by omega) (Ev.ite_pos (by omega) ?_))
    simp only [List.all_cons]
    generalize bt s (i : Int) = c
    by_cases h9 : c = 9
    · refine Ev.ite_pos h9 ?_
      simpa [okV, h9] using ih
    · have e9 : (c == 9) = false := beq_eq_false_iff_ne.2 h9
      refine Ev.ite_neg h9 ?_
      by_cases h32 : c < 32
      · refine Ev.ite_pos h32 ?_
        simpa [okV, e9, h32] using Ev.now false
      · refine Ev.ite_neg h32 ?_
        by_cases h127 : c = 127
        · refine Ev.ite_pos h127 ?_
          simpa [okV, e9, h127] using Ev.now false
        · refine Ev.ite_neg h127 ?_
          have e127 : (c != 127) = true := bne_iff_ne.2 h127
          simpa [okV, e9, h32, e127] using ih
theorem hvalue_ev (s : ByteArray) (hs : s.size ≤ 140737488355328) : Ev (fun k => head_value.f k s) (valP s) := by
  have := value_loop s hs s.size 0 (by omega)
  unfold head_value.f
  refine Ev.ite_pos hs (Ev.some_bind rfl ?_)
  simpa [valP] using this
theorem trim_same (s : ByteArray) : (mkB (trimL s.data.toList) = s) ↔ endsP s = true := by
  obtain ⟨a, b, h1, h2, h3, h4, h5⟩ := trim_parts s.data.toList
  have hsz := size_D s
  unfold endsP
  constructor
  · intro h
    have e : trimL s.data.toList = s.data.toList := by conv => rhs; rw [← h]
    by_cases h0 : s.size = 0
    · simp [h0]
    · have hpos : 0 < s.data.toList.length := by omega
      have hh := h4 s.data.toList[0] (by rw [e, List.head?_eq_getElem?, List.getElem?_eq_getElem hpos])
      have hl := h5 (s.data.toList[s.data.toList.length - 1]) (by rw [e, List.getLast?_eq_getElem?, List.getElem?_eq_getElem (by omega)])
      have b0 := bt_nat s 0 hpos
      have b1 := bt_nat s (s.data.toList.length - 1) (by omega)
      have e2 : (s.size : Int) - 1 = ((s.data.toList.length - 1 : Nat) : Int) := by omega
      rw [e2, b1, show (0 : Int) = ((0 : Nat) : Int) from rfl, b0]
      unfold bl8 at hh hl
      rw [hh, hl]; simp
  · intro h
    by_cases h0 : s.size = 0
    · have : s.data.toList = [] := List.length_eq_zero_iff.1 (by omega)
      refine ba_ext ?_
      rw [this]; rfl
    · have hpos : 0 < s.data.toList.length := by omega
      have b0 := bt_nat s 0 hpos
      have b1 := bt_nat s (s.data.toList.length - 1) (by omega)
      have e2 : (s.size : Int) - 1 = ((s.data.toList.length - 1 : Nat) : Int) := by omega
      rw [e2, b1, show (0 : Int) = ((0 : Nat) : Int) from rfl, b0] at h
      have h0b : (s.size == 0) = false := by simpa using h0
      simp only [h0b, Bool.false_or, Bool.and_eq_true, Bool.not_eq_true'] at h
      have ha : a = [] := by
        cases a with
        | nil => rfl
        | cons x a =>
          have := h2 x (by simp)
          have e : s.data.toList[0] = x := by
            have hq : s.data.toList[0]? = some x := by rw [h1]; rfl
            rw [List.getElem?_eq_getElem hpos] at hq
            exact Option.some.inj hq
          rw [e] at h
          unfold bl8 at this
          rw [this] at h
          exact absurd h.1 (by decide)
      have hb : b = [] := by
        rcases List.eq_nil_or_concat b with e | ⟨q, x, e⟩
        · exact e
        · have := h3 x (by rw [e]; simp)
          have e3 : s.data.toList[s.data.toList.length - 1] = x := by
            have hq : s.data.toList.getLast? = some x := by rw [h1, e]; simp
            rw [List.getLast?_eq_getElem?, List.getElem?_eq_getElem (by omega)] at hq
            exact Option.some.inj hq
          rw [e3] at h
          unfold bl8 at this
          rw [this] at h
          exact absurd h.2 (by decide)
      refine ba_ext ?_
      show trimL s.data.toList = s.data.toList
      conv => rhs; rw [h1, ha, hb]
      simp
theorem rvalue_loop (s : ByteArray) (hs : s.size ≤ 140737488355328) : ∀ (m i : Nat), i + m = s.size → Ev (fun k => ostiaryref13_Value.l0 k s (i : Int)) (((bytesOf s).drop i).all okV && endsP s)
  | 0, i, h => by
    have hl := bytesOf_length s
    refine Ev.step (fun k => by rw [ostiaryref13_Value.l0]) (Ev.ite_neg (by omega) (Ev.bind (rtrim_ev s (by omega)) (Ev.is (Ev.now _) ?_)))
    rw [List.drop_of_length_le (by omega)]
    rw [Bool.eq_iff_iff]
    simp only [beq_iff_eq, toList_eq, List.all_nil, Bool.true_and]
    exact trim_same s
  | m + 1, i, h => by
    have ih := rvalue_loop s hs m (i + 1) (by omega)
    refine Ev.step (fun k => by rw [ostiaryref13_Value.l0]) (Ev.ite_pos (by omega) (Ev.ite_pos (by omega) ?_))
    rw [wrap64_id (n := (i : Int) + 1) (by omega) (by omega), drop_bytes s i (by omega), List.all_cons]
    generalize bt s (i : Int) = c
    by_cases h9 : c = 9
    · refine Ev.ite_pos h9 (Ev.ite_neg (by omega) ?_)
      simpa [okV, h9] using ih
    · have e9 : (c == 9) = false := beq_eq_false_iff_ne.2 h9
      refine Ev.ite_neg h9 ?_
      by_cases h32 : c < 32
      · refine Ev.ite_pos h32 ?_
        simpa [okV, e9, h32] using Ev.now false
      · refine Ev.ite_neg h32 ?_
        by_cases h127 : c = 127
        · refine Ev.ite_pos h127 ?_
          simpa [okV, e9, h127] using Ev.now false
        · refine Ev.ite_neg h127 ?_
          have e127 : (c != 127) = true := bne_iff_ne.2 h127
          simpa [okV, e9, h32, e127] using ih
theorem rvalue_ev (s : ByteArray) (hs : s.size ≤ 140737488355328) : Ev (fun k => ostiaryref13_Value.f k s) (valP s) := by
  have := rvalue_loop s hs s.size 0 (by omega)
  unfold ostiaryref13_Value.f
  exact Ev.is this (by rw [List.drop_zero]; rfl)
end Go.Proofs.YtnhpcpmgedjffaaDoor.P
end
section
namespace Go.Proofs.YtnhpcpmgedjffaaDoor.P
open Go.RowKit Go.Proofs.YtnhpcpmgedjffaaDoorW.PrintWords Go.Proofs.YtnhpcpmgedjffaaDoorW.PrintLast Go.Proofs.YtnhpcpmgedjffaaDoorW.PrintMore Go.Proofs.YtnhpcpmgedjffaaDoorX
set_option linter.unusedVariables false
set_option linter.unusedSimpArgs false

def lowL (s : ByteArray) : List Int := (bytesOf s).map lowC
theorem lowC_byte (c : Int) (h0 : 0 ≤ c) (h1 : c ≤ 255) : 0 ≤ lowC c ∧ lowC c < 256 := by
  unfold lowC; split
  · split <;> omega
  · omega
theorem isBytes_lowL (s : ByteArray) : isBytes (lowL s) = true := by
  simp only [isBytes, lowL, bytesOf, List.all_map, List.all_eq_true, Function.comp, Bool.and_eq_true, decide_eq_true_eq]
  intro b _
  have := b.toNat_lt
  exact lowC_byte _ (by omega) (by omega)
theorem lower_iff (a b : ByteArray) : (xLower a).toList = (xLower b).toList ↔ lowL a = lowL b := by
  rw [toList_eq]
  constructor
  · intro h
    have : bytesOf (strOfNums (lowL a)) = bytesOf (strOfNums (lowL b)) := congrArg bytesOf h
    rw [bytesOf_strOf (isBytes_lowL a), bytesOf_strOf (isBytes_lowL b)] at this
    exact this
  · intro h
    unfold xLower
    show strOfNums (lowL a) = strOfNums (lowL b)
    rw [h]
theorem lowL_drop (s : ByteArray) (i : Nat) (h : i < s.size) : (lowL s).drop i = lowC (bt s (i : Int)) :: (lowL s).drop (i + 1) := by
  unfold lowL
  rw [← List.map_drop, ← List.map_drop, drop_bytes s i h, List.map_cons]
theorem lowL_length (s : ByteArray) : (lowL s).length = s.size := by simp [lowL, bytesOf_length]
theorem lowC_up {c : Int} (h : c ≥ 65) (h2 : c ≤ 90) : lowC c = (c + 32) % 256 := by unfold lowC; rw [if_pos h, if_pos h2]; omega
theorem lowC_hi {c : Int} (h2 : ¬ c ≤ 90) : lowC c = c := by unfold lowC; split <;> simp [h2]
theorem lowC_lo {c : Int} (h : ¬ c ≥ 65) : lowC c = c := by unfold lowC; rw [if_neg h]
theorem rsame_loop (a b : ByteArray) (hab : a.size = b.size) (hs : a.size ≤ 9223372036854775000) : ∀ (m i : Nat), i + m = a.size → Ev (fun k => ostiaryref13_Same.l0 k a b (i : Int)) (decide ((lowL a).drop i = (lowL b).drop i))
  | 0, i, h => by
    refine Ev.step (fun k => by rw [ostiaryref13_Same.l0]) (Ev.ite_neg (by omega) (Ev.is (Ev.now true) ?_))
    rw [List.drop_of_length_le (by rw [lowL_length]; omega), List.drop_of_length_le (by rw [lowL_length]; omega)]
    rfl
  | m + 1, i, h => by
    have ih := rsame_loop a b hab hs m (i + 1) (by omega)
    refine Ev.step (fun k => by rw [ostiaryref13_Same.l0]) (Ev.ite_pos (by omega) (Ev.ite_pos (by omega) (Ev.ite_pos (by omega) ?_)))
    rw [lowL_drop a i (by omega), lowL_drop b i (by omega)]
    obtain ⟨x0, x1⟩ := bt_range a (i : Int)
    obtain ⟨y0, y1⟩ := bt_range b (i : Int)
    generalize hx : bt a (i : Int) = x at x0 x1 ⊢
    generalize hy : bt b (i : Int) = y at y0 y1 ⊢
    have fin : ∀ x' : Int, x' = lowC x → Ev (fun k => ostiaryref13_Same.j2 k a b (i : Int) x' y) (decide (lowC x :: (lowL a).drop (i + 1) = lowC y :: (lowL b).drop (i + 1))) := by
      rintro x' rfl
      have last : ∀ y' : Int, y' = lowC y → Ev (fun k => if lowC x = y' then ostiaryref13_Same.l0 k a b (wrap64 ((i : Int) + 1)) else some false) (decide (lowC x :: (lowL a).drop (i + 1) = lowC y :: (lowL b).drop (i + 1))) := by
        rintro y' rfl
        rw [wrap64_id (by omega) (by omega)]
        by_cases e : lowC x = lowC y
        · exact Ev.ite_pos e (Ev.is ih (by rw [e]; simp))
        · exact Ev.ite_neg e (Ev.is (Ev.now false) (by simp [e]))
      refine Ev.step (fun k => by rw [ostiaryref13_Same.j2]) ?_
      by_cases h1 : y ≥ 65
      · refine Ev.ite_pos h1 ?_
        refine Ev.step (fun k => by rw [ostiaryref13_Same.j3]) ?_
        by_cases h2 : y ≤ 90
        · exact Ev.ite_pos (by simpa using h2) (last _ (lowC_up h1 h2).symm)
        · exact Ev.ite_neg (by simpa using h2) (last _ (lowC_hi h2).symm)
      · refine Ev.ite_neg h1 ?_
        refine Ev.step (fun k => by rw [ostiaryref13_Same.j3]) ?_
        exact Ev.ite_neg (by decide) (last _ (lowC_lo h1).symm)
    by_cases h1 : x ≥ 65
    · refine Ev.ite_pos h1 ?_
      refine Ev.step (fun k => by rw [ostiaryref13_Same.j1]) ?_
      by_cases h2 : x ≤ 90
      · exact Ev.ite_pos (by simpa using h2) (fin _ (lowC_up h1 h2).symm)
      · exact Ev.ite_neg (by simpa using h2) (fin _ (lowC_hi h2).symm)
    · refine Ev.ite_neg h1 ?_
      refine Ev.step (fun k => by rw [ostiaryref13_Same.j1]) ?_
      exact Ev.ite_neg (by decide) (fin _ (lowC_lo h1).symm)
theorem rsame_ev (a b : ByteArray) (hs : a.size ≤ 9223372036854775000) : Ev (fun k => ostiaryref13_Same.f k a b) (decide (lowL a = lowL b)) := by
  unfold ostiaryref13_Same.f
  by_cases h : a.size = b.size
  · refine Ev.ite_pos (by omega) ?_
    have := rsame_loop a b h hs a.size 0 (by omega)
    rwa [List.drop_zero, List.drop_zero] at this
  · refine Ev.ite_neg (by omega) (Ev.is (Ev.now false) ?_)
    have : lowL a ≠ lowL b := fun e => h (by have := congrArg List.length e; rwa [lowL_length, lowL_length] at this)
    simp [this]

abbrev SF := S67
def valsF (fs : List SF) (key : ByteArray) : List ByteArray := (fs.filter (fun f => decide (lowL f.f0 = lowL key))).map (·.f1)
theorem valsF_cons (f : SF) (fs : List SF) (key : ByteArray) : valsF (f :: fs) key = (if lowL f.f0 = lowL key then [f.f1] else []) ++ valsF fs key := by
  unfold valsF
  by_cases h : lowL f.f0 = lowL key <;> simp [h]
theorem rdT_nat (fs : List SF) (i : Nat) (h : i < fs.length) : rd_T67 fs (i : Int) = fs[i] := by
  simp [rd_T67, List.getD_eq_getElem?_getD, List.getElem?_eq_getElem h]
def Small (fs : List SF) : Prop := fs.length ≤ 4294967295 ∧ ∀ f ∈ fs, f.f0.size ≤ 140737488355328
theorem all_loop (key : ByteArray) (hk : key.size ≤ 140737488355328) (fs : List SF) (hf : Small fs) : ∀ (m i : Nat) (acc : List ByteArray), i + m = fs.length → acc.length ≤ i → Ev (fun k => head_all.l0 k key acc fs (fs.length : Int) (i : Int)) (acc ++ valsF (fs.drop i) key)
  | 0, i, acc, h, ha => by
    refine Ev.step (fun k => by rw [head_all.l0]) (Ev.ite_neg (by omega) (Ev.is (Ev.now _) ?_))
    rw [List.drop_of_length_le (by omega)]
    simp [valsF]
  | m + 1, i, acc, h, ha => by
    have hl := hf.1
    have hn := hf.2 fs[i] (List.getElem_mem _)
    refine Ev.step (fun k => by rw [head_all.l0]) (Ev.ite_pos (by omega) (Ev.ite_pos (by omega) (Ev.ite_pos (by omega) ?_)))
    rw [rdT_nat fs i (by omega), wrap64_id (n := (i : Int) + 1) (by omega) (by omega), List.drop_eq_getElem_cons (show i < fs.length by omega), valsF_cons]
    refine Ev.some_bind (a := xLower fs[i].f0) (by unfold head_lower.f; exact if_pos hn) (Ev.some_bind (a := xLower key) (by unfold head_lower.f; exact if_pos hk) ?_)
    by_cases hc : lowL fs[i].f0 = lowL key
    · refine Ev.ite_pos ((lower_iff _ _).2 hc) (Ev.ite_pos (by omega) ?_)
      have := all_loop key hk fs hf m (i + 1) (acc ++ [fs[i].f1]) (by omega) (by simp; omega)
      rw [if_pos hc, ← List.append_assoc]
      exact this
    · refine Ev.ite_neg (fun e => hc ((lower_iff _ _).1 e)) ?_
      have := all_loop key hk fs hf m (i + 1) acc (by omega) (by omega)
      rw [if_neg hc, List.nil_append]
      exact this
theorem all_ev (m t : ByteArray) (mi : Int) (fs : List SF) (key : ByteArray) (hf : Small fs) (hk : key.size ≤ 140737488355328) : Ev (fun k => head_all.f k m t mi fs key) (valsF fs key) := by
  unfold head_all.f
  exact all_loop key hk fs hf fs.length 0 [] (by omega) (by simp)
def fieldP (fs : List SF) (key : ByteArray) : ByteArray × Int := ((valsF fs key).headD (⟨#[]⟩ : ByteArray), ((valsF fs key).length : Int))
theorem hfield_ev (m t : ByteArray) (mi : Int) (fs : List SF) (key : ByteArray) (hf : Small fs) (hk : key.size ≤ 140737488355328) : Ev (fun k => head_Field.f k m t mi fs key) (fieldP fs key) := by
  unfold head_Field.f fieldP
  refine Ev.bind (all_ev m t mi fs key hf hk) ?_
  cases hv : valsF fs key with
  | nil => exact Ev.ite_pos (by simp) (Ev.now _)
  | cons v vs => exact Ev.ite_neg (by first | (simp; done) | (simp; omega)) (Ev.ite_pos (by first | (simp; done) | (simp; omega)) (Ev.now _))
theorem rfield_loop (m t : ByteArray) (mi : Int) (key : ByteArray) (fs : List SF) (hf : Small fs) : ∀ (d i : Nat) (v : ByteArray) (n : Nat), i + d = fs.length → n ≤ i →
    Ev (fun k => ostiaryref13_Field.l0 k key v (n : Int) (i : Int) m t mi fs) (if n = 0 then (valsF (fs.drop i) key).headD v else v, ((n + (valsF (fs.drop i) key).length : Nat) : Int))
  | 0, i, v, n, h, hn => by
    refine Ev.step (fun k => by rw [ostiaryref13_Field.l0]) (Ev.ite_neg (by omega) (Ev.is (Ev.now _) ?_))
    rw [List.drop_of_length_le (by omega)]
    simp [valsF]
  | d + 1, i, v, n, h, hn => by
    have hl := hf.1
    have hs := hf.2 fs[i] (List.getElem_mem _)
    refine Ev.step (fun k => by rw [ostiaryref13_Field.l0]) (Ev.ite_pos (by omega) (Ev.ite_pos (by omega) ?_))
    rw [rdT_nat fs i (by omega), wrap64_id (n := (i : Int) + 1) (by omega) (by omega), wrap64_id (n := (n : Int) + 1) (by omega) (by omega), List.drop_eq_getElem_cons (show i < fs.length by omega), valsF_cons]
    refine Ev.bind (rsame_ev _ _ (by omega)) ?_
    by_cases hc : lowL fs[i].f0 = lowL key
    · refine Ev.ite_pos (by simpa using hc) ?_
      rw [if_pos hc]
      by_cases h0 : n = 0
      · subst h0
        refine Ev.ite_pos rfl (Ev.is (rfield_loop m t mi key fs hf d (i + 1) fs[i].f1 1 (by omega) (by omega)) ?_)
        simp; omega
      · refine Ev.ite_neg (by omega) (Ev.is (rfield_loop m t mi key fs hf d (i + 1) v (n + 1) (by omega) (by omega)) ?_)
        simp [h0]; omega
    · refine Ev.ite_neg (by simpa using hc) ?_
      rw [if_neg hc, List.nil_append]
      exact rfield_loop m t mi key fs hf d (i + 1) v n (by omega) (by omega)
theorem rfield_ev (m t : ByteArray) (mi : Int) (fs : List SF) (key : ByteArray) (hf : Small fs) : Ev (fun k => ostiaryref13_Field.f k m t mi fs key) (fieldP fs key) := by
  unfold ostiaryref13_Field.f
  refine Ev.is (rfield_loop m t mi key fs hf fs.length 0 (⟨#[]⟩ : ByteArray) 0 (by omega) (by omega)) ?_
  simp [fieldP]
def HOST : ByteArray := ⟨#[104, 111, 115, 116]⟩
def hostsP (mi : Int) (fs : List SF) : Bool := (valsF fs HOST).length == 1 || ((valsF fs HOST).length == 0 && mi == 0)
theorem hosts_of {mi : Int} {fs : List SF} {f : Nat → Option (ByteArray × Int)} (h : Ev f (fieldP fs HOST)) : Ev (fun k => (f k).bind fun bt149 => (if bt149.2 = 1 then (some true) else (if bt149.2 = 0 then (some (mi == 0)) else (some false)))) (hostsP mi fs) := by
  refine Ev.bind h ?_
  unfold fieldP hostsP
  by_cases h1 : (valsF fs HOST).length = 1
  · exact Ev.ite_pos (by show ((valsF fs HOST).length : Int) = 1; omega) (Ev.is (Ev.now true) (by simp [h1]))
  · refine Ev.ite_neg (by show ¬ ((valsF fs HOST).length : Int) = 1; omega) ?_
    by_cases h0 : (valsF fs HOST).length = 0
    · exact Ev.ite_pos (by show ((valsF fs HOST).length : Int) = 0; omega) (Ev.is (Ev.now _) (by simp [h0]))
    · exact Ev.ite_neg (by show ¬ ((valsF fs HOST).length : Int) = 0; omega) (Ev.is (Ev.now false) (by simp [h1]; intro e; exact absurd (by rw [e]; rfl) h0))
theorem hhosts_ev (m t : ByteArray) (mi : Int) (fs : List SF) (hf : Small fs) : Ev (fun k => head_hosts.f k m t mi fs) (hostsP mi fs) := by
  unfold head_hosts.f
  exact hosts_of (hfield_ev m t mi fs HOST hf (by decide))
theorem rhosts_ev (m t : ByteArray) (mi : Int) (fs : List SF) (hf : Small fs) : Ev (fun k => ostiaryref13_hosts.f k m t mi fs) (hostsP mi fs) := by
  unfold ostiaryref13_hosts.f
  exact hosts_of (rfield_ev m t mi fs HOST hf)

def eol (c : UInt8) : Bool := c == 13 || c == 10
def spanL : List UInt8 → List UInt8 × List UInt8
  | [] => ([], [])
  | c :: l => if eol c then ([], c :: l) else (c :: (spanL l).1, (spanL l).2)
theorem spanL_app : ∀ l, (spanL l).1 ++ (spanL l).2 = l
  | [] => rfl
  | c :: l => by
    unfold spanL
    by_cases h : eol c = true
    · simp [h]
    · simp [h, spanL_app l]
theorem spanL_no : ∀ l, ∀ x ∈ (spanL l).1, eol x = false
  | [] => by simp [spanL]
  | c :: l => by
    unfold spanL
    by_cases h : eol c = true
    · simp [h]
    · have := spanL_no l
      have h' : eol c = false := by simpa using h
      simpa [h, h'] using this
theorem spanL_hd : ∀ l x, (spanL l).2.head? = some x → eol x = true
  | [], x, h => by simp [spanL] at h
  | c :: l, x, h => by
    unfold spanL at h
    by_cases hc : eol c = true
    · simp [hc] at h; exact h ▸ hc
    · simp [hc] at h; exact spanL_hd l x h
theorem spanL_eq (p : List UInt8) (hp : ∀ x ∈ p, eol x = false) (l : List UInt8) (hl : ∀ x, l.head? = some x → eol x = true) : spanL (p ++ l) = (p, l) := by
  induction p with
  | nil =>
    cases l with
    | nil => rfl
    | cons c l => simp [spanL, hl c rfl]
  | cons c p ih =>
    have hc := hp c (by simp)
    have ih' := ih (fun x hx => hp x (by simp [hx]))
    simp only [List.cons_append, spanL, hc, ih']
    simp
def linesN : Nat → List UInt8 → List (List UInt8) → Option (List (List UInt8))
  | 0, _, _ => none
  | n + 1, l, acc => match (spanL l).2 with
    | 13 :: 10 :: rest => if (spanL l).1 = [] then (if rest = [] then some acc else none) else linesN n rest (acc ++ [(spanL l).1])
    | _ => none
theorem linesN_some {n : Nat} {l p rest : List UInt8} {acc : List (List UInt8)} (h : spanL l = (p, 13 :: 10 :: rest)) : linesN (n + 1) l acc = if p = [] then (if rest = [] then some acc else none) else linesN n rest (acc ++ [p]) := by
  simp [linesN, h]
theorem linesN_none {n : Nat} {l : List UInt8} {acc : List (List UInt8)} (h : ∀ rest, (spanL l).2 ≠ 13 :: 10 :: rest) : linesN (n + 1) l acc = none := by
  unfold linesN
  split
  · rename_i rest e; exact absurd e (h rest)
  · rfl
def Told (r : Option (List (List UInt8))) (x : List ByteArray × Bool) : Prop := match r with
  | some out => x = (out.map mkB, true)
  | none => x.2 = false
theorem nohit (p : List UInt8) (hp : ∀ x ∈ p, eol x = false) : (nums8 p).any hitC = false := by
  rw [List.any_eq_false]
  intro x hx
  obtain ⟨b, hb, rfl⟩ := List.mem_map.1 hx
  have := hp b hb
  unfold hitC
  unfold eol at this
  simp only [Bool.or_eq_false_iff, beq_eq_false_iff_ne, ne_eq] at this
  simp only [Bool.or_eq_true, beq_iff_eq]
  rintro (h | h)
  · exact this.1 (UInt8.toNat_inj.1 (by simpa using (by omega : b.toNat = 13)))
  · exact this.2 (UInt8.toNat_inj.1 (by simpa using (by omega : b.toNat = 10)))
theorem hit_of {p : List UInt8} {b : UInt8} (hb : b ∈ p) (h : eol b = true) : (nums8 p).any hitC = true := by
  refine List.any_eq_true.2 ⟨(b.toNat : Int), List.mem_map.2 ⟨b, hb, rfl⟩, ?_⟩
  unfold eol at h
  unfold hitC
  rcases (Bool.or_eq_true_iff.1 h) with h | h
  · have : b = 13 := by simpa using h
    subst this; rfl
  · have : b = 10 := by simpa using h
    subst this; rfl
theorem cutF (l : List UInt8) (hl : l.length < 4294967281) : bytes_Cut.f (nums8 l) [13, 10] = some (xCutB (nums8 l) [13, 10]) := by
  unfold bytes_Cut.f
  rw [if_pos ⟨by decide, by decide, isBytes_nums8 _, by decide, by rw [nums8_length]; exact hl⟩]
theorem anyF (p : List UInt8) (hl : p.length < 4294967281) : bytes_ContainsAny.f (nums8 p) (⟨#[13, 10]⟩ : ByteArray) = some ((nums8 p).any hitC) := by
  unfold bytes_ContainsAny.f
  rw [if_pos ⟨rfl, isBytes_nums8 _, by rw [nums8_length]; exact hl⟩]
theorem hlines_ev : ∀ (n : Nat) (l : List UInt8) (acc : List (List UInt8)), l.length < n → l.length + acc.length < 4294967281 → ∃ x, Ev (fun k => head_lines.l0 k (nums8 l) (acc.map mkB)) x ∧ Told (linesN n l acc) x
  | 0, l, acc, h, hb => by omega
  | n + 1, l, acc, h, hb => by
    have happ := spanL_app l
    have hno := spanL_no l
    have hlen := congrArg List.length happ
    rw [List.length_append] at hlen
    by_cases hex : ∃ rest, (spanL l).2 = 13 :: 10 :: rest
    · obtain ⟨rest, hr⟩ := hex
      have hsp : spanL l = ((spanL l).1, 13 :: 10 :: rest) := by rw [← hr]
      generalize hp : (spanL l).1 = p at *
      rw [linesN_some hsp]
      have hl : l = p ++ 13 :: 10 :: rest := by rw [← happ, hr]
      have h13 : (13 : UInt8) ∉ p := fun hm => absurd (hno 13 hm) (by decide)
      have hcut : bytes_Cut.f (nums8 l) [13, 10] = some (nums8 p, nums8 rest, true) := by rw [cutF l (by omega), hl, cutB_at p rest h13]
      rw [hr] at hlen
      simp only [List.length_cons] at hlen
      by_cases h0 : p = []
      · subst h0
        rw [if_pos rfl]
        refine ⟨(acc.map mkB, ((nums8 rest).length : Int) == 0), ?_, ?_⟩
        · refine Ev.step (fun k => by rw [head_lines.l0]) (Ev.some_bind hcut (Ev.ite_pos rfl (Ev.some_bind (anyF [] (by simp)) ?_)))
          refine Ev.step (fun k => by rw [head_lines.j1]) (Ev.ite_neg (by decide) (Ev.ite_pos (by simp [nums8]) ?_))
          exact Ev.now _
        · by_cases hr0 : rest = []
          · subst hr0; rfl
          · rw [if_neg hr0]
            show (((nums8 rest).length : Int) == 0) = false
            have := List.length_pos_iff.2 hr0
            rw [nums8_length, beq_eq_false_iff_ne]; omega
      · rw [if_neg h0]
        have hpos := List.length_pos_iff.2 h0
        obtain ⟨x, hx, ht⟩ := hlines_ev n rest (acc ++ [p]) (by omega) (by simp; omega)
        refine ⟨x, ?_, ht⟩
        refine Ev.step (fun k => by rw [head_lines.l0]) (Ev.some_bind hcut (Ev.ite_pos rfl (Ev.some_bind (anyF p (by omega)) ?_)))
        dsimp only
        rw [nohit p hno]
        refine Ev.step (fun k => by rw [head_lines.j1]) (Ev.ite_neg (by decide) (Ev.ite_neg (by rw [nums8_length]; omega) (Ev.ite_pos (by rw [List.length_map]; omega) ?_)))
        rw [strOf_nums8]
        simpa using hx
    · have hno2 : ∀ rest, (spanL l).2 ≠ 13 :: 10 :: rest := fun rest e => hex ⟨rest, e⟩
      rw [linesN_none hno2]
      refine ⟨([], false), ?_, rfl⟩
      refine Ev.step (fun k => by rw [head_lines.l0]) (Ev.some_bind (cutF l (by omega)) ?_)
      have hix : xIndex (nums8 l) [13, 10] = Lib.index l [13, 10] := by unfold xIndex; rw [lib_nums8]; rfl
      rcases Lib.index_spec l [13, 10] with ⟨hi, _⟩ | ⟨i, hi, hil, hocc, hno3⟩
      · have hx : xCutB (nums8 l) [13, 10] = (nums8 l, [], false) := by unfold xCutB; rw [hix, hi, if_neg (by decide)]
        rw [hx]
        exact Ev.ite_neg Bool.false_ne_true (Ev.step (fun k => by rw [head_lines.j1]) (Ev.ite_pos rfl (Ev.now _)))
      · have hx : xCutB (nums8 l) [13, 10] = (nums8 (l.take i), nums8 (l.drop (i + 2)), true) := by
          unfold xCutB; rw [hix, hi, if_pos (by omega)]
          simp [nums8, List.map_take, List.map_drop]
        rw [hx]
        have hcat : l = l.take i ++ 13 :: 10 :: l.drop (i + 2) := by
          unfold Lib.occAt at hocc
          rw [List.isPrefixOf_iff_prefix] at hocc
          obtain ⟨t, ht⟩ := hocc
          have e2 : l.drop (i + 2) = t := by rw [← List.drop_drop, ← ht]; rfl
          rw [e2]
          conv => lhs; rw [← List.take_append_drop i l, ← ht]
          rfl
        have hhit : ∃ b ∈ l.take i, eol b = true := by
          refine Classical.byContradiction fun hc => ?_
          have hall : ∀ x ∈ l.take i, eol x = false := fun x hx => by
            cases he : eol x with
            | false => rfl
            | true => exact absurd ⟨x, hx, he⟩ hc
          have := spanL_eq (l.take i) hall (13 :: 10 :: l.drop (i + 2)) (fun x hx => by simp at hx; subst hx; rfl)
          rw [← hcat] at this
          exact hno2 _ (by rw [this])
        obtain ⟨b, hb1, hb2⟩ := hhit
        refine Ev.ite_pos rfl (Ev.some_bind (anyF _ (by rw [List.length_take]; omega)) ?_)
        rw [hit_of hb1 hb2]
        exact Ev.step (fun k => by rw [head_lines.j1]) (Ev.ite_pos rfl (Ev.now _))
end Go.Proofs.YtnhpcpmgedjffaaDoor.P
end
section
namespace Go.Proofs.YtnhpcpmgedjffaaDoor.P
open Go.RowKit Go.Proofs.YtnhpcpmgedjffaaDoorW.PrintWords Go.Proofs.YtnhpcpmgedjffaaDoorW.PrintLast Go.Proofs.YtnhpcpmgedjffaaDoorW.PrintMore Go.Proofs.YtnhpcpmgedjffaaDoorX
set_option linter.unusedVariables false
set_option linter.unusedSimpArgs false

theorem rdOf_nat {α : Type} (d : α) (l : List α) (i : Nat) (h : i < l.length) : rdOf d l (i : Int) = l[i] := by
  simp [rdOf, List.getD_eq_getElem?_getD, List.getElem?_eq_getElem h]
theorem mkB_nil {l : List UInt8} : (mkB l).toList = ([] : List UInt8) ↔ l = [] := by rw [toList_D]
theorem rd_is (L : List UInt8) (i : Nat) (h : i < L.length) (c : UInt8) : rd (nums8 L) (i : Int) = (c.toNat : Int) ↔ L[i] = c := by
  rw [rd_nums8 L i h]
  constructor
  · intro e; exact UInt8.toNat_inj.1 (by omega)
  · intro e; rw [e]
theorem rl_char (L : List UInt8) (hL : L.length ≤ 9223372036854770000) (out : List ByteArray) (cur : List UInt8) (i : Nat) (h : i < L.length) (hc : eol L[i] = false) (hcur : cur.length ≤ i) {R : List ByteArray × Bool}
    (k : Ev (fun k => ostiaryref13_lines.l0 k (nums8 L) out (mkB (cur ++ [L[i]])) ((i + 1 : Nat) : Int)) R) : Ev (fun k => ostiaryref13_lines.l0 k (nums8 L) out (mkB cur) (i : Int)) R := by
  have hl := nums8_length L
  have h13 : ¬ rd (nums8 L) (i : Int) = 13 := fun e => by
    rw [(rd_is L i h 13).1 e] at hc; exact absurd hc (by decide)
  have h10 : ¬ rd (nums8 L) (i : Int) = 10 := fun e => by
    rw [(rd_is L i h 10).1 e] at hc; exact absurd hc (by decide)
  have hw : wrap64 ((i : Int) + 1) = ((i + 1 : Nat) : Int) := by rw [wrap64_id (by omega) (by omega)]; omega
  refine Ev.step (fun k => by rw [ostiaryref13_lines.l0]) (Ev.ite_pos (by omega) (Ev.ite_pos (by omega) (Ev.ite_neg h13 ?_)))
  refine Ev.step (fun k => by rw [ostiaryref13_lines.j1]) (Ev.ite_pos (bne_iff_ne.2 h10) (Ev.ite_pos (by omega) ?_))
  rw [hw]
  have e1 : strOfNums (((nums8 L).take (((i + 1 : Nat) : Int)).toNat).drop ((i : Int)).toNat) = mkB [L[i]] := by
    have : ((nums8 L).take (((i + 1 : Nat) : Int)).toNat).drop ((i : Int)).toNat = nums8 [L[i]] := by
      simp only [Int.toNat_natCast, nums8, ← List.map_take, ← List.map_drop]
      congr 1
      rw [List.take_succ_eq_append_getElem h, List.drop_append, List.length_take]
      simp [Nat.min_eq_left (Nat.le_of_lt h)]
    rw [this, strOf_nums8]
  rw [e1]
  refine Ev.ite_pos (by omega) (Ev.ite_pos (by omega) (Ev.ite_pos (by show cur.length + 1 ≤ _; omega) ?_))
  have e2 : mkB cur ++ mkB [L[i]] = mkB (cur ++ [L[i]]) := ba_ext (by simp)
  rw [e2]
  exact k
theorem rl_eat (L : List UInt8) (hL : L.length ≤ 9223372036854770000) (out : List ByteArray) {R : List ByteArray × Bool} : ∀ (p q cur : List UInt8) (i : Nat), L.drop i = p ++ q → (∀ x ∈ p, eol x = false) → cur.length ≤ i →
    Ev (fun k => ostiaryref13_lines.l0 k (nums8 L) out (mkB (cur ++ p)) ((i + p.length : Nat) : Int)) R → Ev (fun k => ostiaryref13_lines.l0 k (nums8 L) out (mkB cur) (i : Int)) R
  | [], q, cur, i, h, hp, hc, k => by simpa using k
  | c :: p, q, cur, i, h, hp, hc, k => by
    have hi : i < L.length := by
      refine Nat.lt_of_not_le fun hge => ?_
      rw [List.drop_of_length_le hge] at h; cases h
    have hd := List.drop_eq_getElem_cons hi
    rw [h] at hd
    simp only [List.cons_append, List.cons.injEq] at hd
    refine rl_char L hL out cur i hi (by rw [← hd.1]; exact hp c (by simp)) hc ?_
    rw [← hd.1]
    refine rl_eat L hL out p q (cur ++ [c]) (i + 1) hd.2.symm (fun x hx => hp x (by simp [hx])) (by simp; omega) ?_
    rw [List.append_assoc, List.singleton_append]
    refine Eq.mp ?_ k
    rw [List.length_cons, show i + (p.length + 1) = i + 1 + p.length by omega]
theorem rl_push (L : List UInt8) (hL : L.length ≤ 9223372036854770000) (out : List ByteArray) (cur rest : List UInt8) (i : Nat) (h : L.drop i = 13 :: 10 :: rest) (ho : out.length < 8796093022208) {R : List ByteArray × Bool}
    (k : Ev (fun k => ostiaryref13_lines.l0 k (nums8 L) (out ++ [mkB cur]) (mkB []) ((i + 2 : Nat) : Int)) R) : Ev (fun k => ostiaryref13_lines.l0 k (nums8 L) out (mkB cur) (i : Int)) R := by
  have hl := nums8_length L
  have hlen := congrArg List.length h
  simp only [List.length_drop, List.length_cons] at hlen
  have hd := List.drop_eq_getElem_cons (show i < L.length by omega)
  rw [h] at hd
  simp only [List.cons.injEq] at hd
  have hd2 := List.drop_eq_getElem_cons (show i + 1 < L.length by omega)
  rw [← hd.2] at hd2
  simp only [List.cons.injEq] at hd2
  have h13 : rd (nums8 L) (i : Int) = 13 := (rd_is L i (by omega) 13).2 hd.1.symm
  have h10 : rd (nums8 L) ((i + 1 : Nat) : Int) = 10 := (rd_is L (i + 1) (by omega) 10).2 hd2.1.symm
  have hw : wrap64 ((i : Int) + 1) = ((i + 1 : Nat) : Int) := by rw [wrap64_id (by omega) (by omega)]; omega
  have hw2 : wrap64 (((i + 1 : Nat) : Int) + 1) = ((i + 2 : Nat) : Int) := by rw [wrap64_id (by omega) (by omega)]; omega
  refine Ev.step (fun k => by rw [ostiaryref13_lines.l0]) (Ev.ite_pos (by omega) (Ev.ite_pos (by omega) (Ev.ite_pos h13 ?_)))
  refine Ev.step (fun k => by rw [ostiaryref13_lines.j1]) (Ev.ite_neg (by decide) (Ev.ite_pos (by omega) (Ev.ite_pos (by omega) (Ev.ite_neg (by omega) ?_))))
  rw [hw, hw2]
  exact Ev.ite_neg (by omega) (Ev.ite_pos (by omega) (Ev.ite_pos (by omega) (Ev.ite_pos h10 (Ev.ite_pos ho k))))
theorem rl_bad (L : List UInt8) (hL : L.length ≤ 9223372036854770000) (out : List ByteArray) (cur q : List UInt8) (i : Nat) (h : L.drop i = q) (h0 : q ≠ []) (he : ∀ x, q.head? = some x → eol x = true) (hno : ∀ rest, q ≠ 13 :: 10 :: rest) :
    Ev (fun k => ostiaryref13_lines.l0 k (nums8 L) out (mkB cur) (i : Int)) ([], false) := by
  have hl := nums8_length L
  have hi : i < L.length := by
    refine Nat.lt_of_not_le fun hge => h0 ?_
    rw [← h, List.drop_of_length_le hge]
  have hd := List.drop_eq_getElem_cons hi
  rw [h] at hd
  have hc : eol L[i] = true := he _ (by rw [hd]; rfl)
  have hw : wrap64 ((i : Int) + 1) = ((i + 1 : Nat) : Int) := by rw [wrap64_id (by omega) (by omega)]; omega
  refine Ev.step (fun k => by rw [ostiaryref13_lines.l0]) (Ev.ite_pos (by omega) (Ev.ite_pos (by omega) ?_))
  by_cases h10 : L[i] = 10
  · have e10 : rd (nums8 L) (i : Int) = 10 := (rd_is L i hi 10).2 h10
    refine Ev.ite_neg (by omega) (Ev.step (fun k => by rw [ostiaryref13_lines.j1]) (Ev.ite_neg (by rw [e10]; decide) (Ev.ite_pos (by omega) (Ev.ite_pos (by omega) (Ev.ite_pos e10 ?_)))))
    exact Ev.now _
  · have h13 : L[i] = 13 := by
      unfold eol at hc
      rcases Bool.or_eq_true_iff.1 hc with e | e
      · simpa using e
      · exact absurd (by simpa using e) h10
    have e13 : rd (nums8 L) (i : Int) = 13 := (rd_is L i hi 13).2 h13
    refine Ev.ite_pos e13 (Ev.step (fun k => by rw [ostiaryref13_lines.j1]) (Ev.ite_neg (by decide) (Ev.ite_pos (by omega) (Ev.ite_pos (by omega) (Ev.ite_neg (by omega) ?_)))))
    rw [hw]
    by_cases hlast : L.length ≤ i + 1
    · exact Ev.ite_pos (by omega) (Ev.now _)
    · have hd2 := List.drop_eq_getElem_cons (show i + 1 < L.length by omega)
      refine Ev.ite_neg (by omega) (Ev.ite_pos (by omega) (Ev.ite_pos (by omega) (Ev.ite_neg ?_ (Ev.now _))))
      intro e
      have := (rd_is L (i + 1) (by omega) 10).1 e
      exact hno (L.drop (i + 2)) (by rw [hd, h13, hd2, this])
theorem rl_j2 (out : List (List UInt8)) : Ev (fun k => ostiaryref13_lines.j2 k (out.map mkB) true) ([], false) :=
  Ev.step (fun k => by rw [ostiaryref13_lines.j2]) (Ev.ite_pos rfl (Ev.now _))
theorem rl_end (L : List UInt8) (out : List (List UInt8)) (cur : List UInt8) (i : Nat) (h : L.length = i) (hc : cur ≠ []) : Ev (fun k => ostiaryref13_lines.l0 k (nums8 L) (out.map mkB) (mkB cur) (i : Int)) ([], false) := by
  have hl := nums8_length L
  exact Ev.step (fun k => by rw [ostiaryref13_lines.l0]) (Ev.ite_neg (by omega) (Ev.ite_neg (fun e => hc (mkB_nil.1 e)) (rl_j2 out)))
theorem rl_end0 (L : List UInt8) (out : List (List UInt8)) (i : Nat) (h : L.length = i) (h0 : out ≠ []) {R : List ByteArray × Bool} (k : Ev (fun k => ostiaryref13_lines.l1 k (out.map mkB) 0) R) : Ev (fun k => ostiaryref13_lines.l0 k (nums8 L) (out.map mkB) (mkB []) (i : Int)) R := by
  have hl := nums8_length L
  have := List.length_pos_iff.2 h0
  refine Ev.step (fun k => by rw [ostiaryref13_lines.l0]) (Ev.ite_neg (by omega) (Ev.ite_pos (mkB_nil.2 rfl) ?_))
  refine Ev.step (fun k => by rw [ostiaryref13_lines.j2]) (Ev.ite_neg ?_ k)
  rw [List.length_map, beq_iff_eq]; omega
theorem l1_round (out : List (List UInt8)) (j : Nat) (h : j < out.length) (hb : out.length ≤ 9223372036854775000) {R : List ByteArray × Bool}
    (k : Ev (fun k => if ((out[j] == ([] : List UInt8)) != (decide (j + 1 = out.length))) = true then some (([] : List ByteArray), false) else ostiaryref13_lines.l1 k (out.map mkB) ((j + 1 : Nat) : Int)) R) : Ev (fun k => ostiaryref13_lines.l1 k (out.map mkB) (j : Int)) R := by
  have hl : (out.map mkB).length = out.length := List.length_map _
  have hw : wrap64 ((j : Int) + 1) = ((j + 1 : Nat) : Int) := by rw [wrap64_id (by omega) (by omega)]; omega
  have hw2 : wrap64 (((out.map mkB).length : Int) - 1) = (out.length : Int) - 1 := by rw [hl, wrap64_id (by omega) (by omega)]
  refine Ev.step (fun k => by rw [ostiaryref13_lines.l1]) (Ev.ite_pos (by omega) (Ev.ite_pos (by omega) ?_))
  rw [hw, hw2, rdOf_nat _ _ j (by omega), List.getElem_map, toList_D]
  have e : ((j : Int) == (out.length : Int) - 1) = decide (j + 1 = out.length) := by
    rw [Bool.eq_iff_iff]; simp; omega
  rw [e]
  exact k
theorem l1_good (acc : List (List UInt8)) (ha : ∀ x ∈ acc, x ≠ []) (hb : acc.length ≤ 9223372036854770000) : ∀ (m j : Nat), j + m = acc.length + 1 → Ev (fun k => ostiaryref13_lines.l1 k ((acc ++ [[]]).map mkB) (j : Int)) ((acc ++ [[]]).map mkB, true)
  | 0, j, h => by
    refine Ev.step (fun k => by rw [ostiaryref13_lines.l1]) (Ev.ite_neg (by rw [List.length_map, List.length_append, List.length_singleton]; omega) (Ev.now _))
  | m + 1, j, h => by
    have hl : (acc ++ [([] : List UInt8)]).length = acc.length + 1 := by simp
    refine l1_round _ j (by omega) (by omega) (Ev.ite_neg ?_ (l1_good acc ha hb m (j + 1) (by omega)))
    by_cases hj : j < acc.length
    · rw [List.getElem_append_left hj]
      have h1 := ha acc[j] (List.getElem_mem _)
      have e1 : (acc[j] == ([] : List UInt8)) = false := beq_eq_false_iff_ne.2 h1
      rw [e1, decide_eq_false (by omega)]; decide
    · have hj' : j = acc.length := by omega
      subst hj'
      rw [List.getElem_append_right (Nat.le_refl _), decide_eq_true (by omega)]
      simp
theorem l1_bad (out : List (List UInt8)) (hb : out.length ≤ 9223372036854770000) (e : Nat) (he : e < out.length) (hbad : (out[e] == ([] : List UInt8)) ≠ decide (e + 1 = out.length)) : ∀ (m j : Nat), j + m = e → Ev (fun k => ostiaryref13_lines.l1 k (out.map mkB) (j : Int)) ([], false)
  | 0, j, h => by
    obtain rfl : j = e := by omega
    exact l1_round _ j he (by omega) (Ev.ite_pos (bne_iff_ne.2 hbad) (Ev.now _))
  | m + 1, j, h => by
    refine l1_round _ j (by omega) (by omega) ?_
    by_cases hx : ((out[j] == ([] : List UInt8)) != decide (j + 1 = out.length)) = true
    · exact Ev.ite_pos hx (Ev.now _)
    · exact Ev.ite_neg hx (l1_bad out hb e he hbad m (j + 1) (by omega))
theorem rl_empty (L : List UInt8) (hL : L.length ≤ 4294967000) : ∀ (n : Nat) (acc : List (List UInt8)) (cur : List UInt8) (i : Nat), L.length - i < n → i ≤ L.length → acc.length ≤ i → cur.length ≤ i → ([] : List UInt8) ∈ acc → (i < L.length ∨ cur ≠ [] ∨ ([] : List UInt8) ∈ acc.dropLast) →
    Ev (fun k => ostiaryref13_lines.l0 k (nums8 L) (acc.map mkB) (mkB cur) (i : Int)) ([], false)
  | 0, acc, cur, i, h, hi, ha, hcl, hm, hd => by omega
  | n + 1, acc, cur, i, h, hi, ha, hcl, hm, hd => by
    have happ := spanL_app (L.drop i)
    have hno := spanL_no (L.drop i)
    have hhd := spanL_hd (L.drop i)
    have hlen := congrArg List.length happ
    rw [List.length_append, List.length_drop] at hlen
    generalize (spanL (L.drop i)).1 = p at *
    generalize (spanL (L.drop i)).2 = q at *
    refine rl_eat L (by omega) _ p q cur i happ.symm hno hcl ?_
    have hq : L.drop (i + p.length) = q := by
      rw [← List.drop_drop, ← happ]; simp
    by_cases h0 : q = []
    · subst h0
      have hlq : L.length = i + p.length := by simp at hlen; omega
      by_cases hcp : cur ++ p = []
      · obtain ⟨hc0, hp0⟩ := List.append_eq_nil_iff.1 hcp
        subst hc0 hp0
        have hmem : ([] : List UInt8) ∈ acc.dropLast := by
          rcases hd with hd | hd | hd
          · simp at hlen; omega
          · exact absurd rfl hd
          · exact hd
        obtain ⟨e, he, hee⟩ := List.getElem_of_mem hmem
        have hel : e + 1 < acc.length := by rw [List.length_dropLast] at he; omega
        rw [List.getElem_dropLast] at hee
        refine rl_end0 L acc _ hlq (fun e => by rw [e] at hm; cases hm) (l1_bad acc (by omega) e (by omega) ?_ e 0 (by omega))
        rw [hee, decide_eq_false (by omega)]; decide
      · exact rl_end L acc _ _ hlq hcp
    · by_cases hex : ∃ rest, q = 13 :: 10 :: rest
      · obtain ⟨rest, rfl⟩ := hex
        simp only [List.length_cons] at hlen
        refine rl_push L (by omega) _ _ rest _ hq (by rw [List.length_map]; omega) ?_
        have := rl_empty L hL n (acc ++ [cur ++ p]) [] (i + p.length + 2) (by omega) (by omega) (by simp; omega) (by simp) (by simp [hm]) (.inr (.inr (by simpa using hm)))
        simpa using this
      · exact rl_bad L (by omega) _ _ q _ hq h0 hhd (fun rest e => hex ⟨rest, e⟩)
def ToldR (r : Option (List (List UInt8))) (x : List ByteArray × Bool) : Prop := match r with
  | some out => x = ((out ++ [[]]).map mkB, true)
  | none => x.2 = false
theorem rlines_loop (L : List UInt8) (hL : L.length ≤ 4294967000) : ∀ (n : Nat) (acc : List (List UInt8)) (i : Nat), L.length - i < n → i ≤ L.length → acc.length ≤ i → (∀ x ∈ acc, x ≠ []) →
    ∃ x, Ev (fun k => ostiaryref13_lines.l0 k (nums8 L) (acc.map mkB) (mkB []) (i : Int)) x ∧ ToldR (linesN n (L.drop i) acc) x
  | 0, acc, i, h, hi, ha, hn => by omega
  | n + 1, acc, i, h, hi, ha, hn => by
    have happ := spanL_app (L.drop i)
    have hno := spanL_no (L.drop i)
    have hhd := spanL_hd (L.drop i)
    have hlen := congrArg List.length happ
    rw [List.length_append, List.length_drop] at hlen
    by_cases hex : ∃ rest, (spanL (L.drop i)).2 = 13 :: 10 :: rest
    · obtain ⟨rest, hr⟩ := hex
      have hsp : spanL (L.drop i) = ((spanL (L.drop i)).1, 13 :: 10 :: rest) := by rw [← hr]
      rw [linesN_some hsp]
      rw [hr] at happ hlen
      generalize (spanL (L.drop i)).1 = p at *
      simp only [List.length_cons] at hlen
      have hq : L.drop (i + p.length) = 13 :: 10 :: rest := by rw [← List.drop_drop, ← happ]; simp
      have hq2 : L.drop (i + p.length + 2) = rest := by rw [← List.drop_drop, hq]; rfl
      have heat : ∀ {R : List ByteArray × Bool}, Ev (fun k => ostiaryref13_lines.l0 k (nums8 L) ((acc ++ [p]).map mkB) (mkB []) ((i + p.length + 2 : Nat) : Int)) R → Ev (fun k => ostiaryref13_lines.l0 k (nums8 L) (acc.map mkB) (mkB []) (i : Int)) R := by
        intro R k
        refine rl_eat L (by omega) _ p (13 :: 10 :: rest) [] i happ.symm hno (by simp) ?_
        rw [List.nil_append]
        refine rl_push L (by omega) _ _ rest _ hq (by rw [List.length_map]; omega) ?_
        simpa using k
      by_cases h0 : p = []
      · subst h0
        rw [if_pos rfl]
        by_cases hr0 : rest = []
        · subst hr0
          rw [if_pos rfl]
          refine ⟨_, heat (rl_end0 L _ _ (by simp at hlen ⊢; omega) (by simp) (l1_good acc hn (by omega) (acc.length + 1) 0 (by omega))), rfl⟩
        · rw [if_neg hr0]
          have := List.length_pos_iff.2 hr0
          exact ⟨_, heat (rl_empty L hL (L.length + 1) (acc ++ [[]]) [] _ (by omega) (by simp; omega) (by simp; omega) (by simp) (by simp) (.inl (by simp; omega))), rfl⟩
      · rw [if_neg h0]
        obtain ⟨x, hx, ht⟩ := rlines_loop L hL n (acc ++ [p]) (i + p.length + 2) (by omega) (by omega) (by simp; omega) (fun x hx => by
          rcases List.mem_append.1 hx with hx | hx
          · exact hn x hx
          · rw [List.mem_singleton.1 hx]; exact h0)
        rw [hq2] at ht
        exact ⟨x, heat hx, ht⟩
    · have hno2 : ∀ rest, (spanL (L.drop i)).2 ≠ 13 :: 10 :: rest := fun rest e => hex ⟨rest, e⟩
      rw [linesN_none hno2]
      refine ⟨([], false), ?_, rfl⟩
      generalize (spanL (L.drop i)).1 = p at *
      generalize (spanL (L.drop i)).2 = q at *
      refine rl_eat L (by omega) _ p q [] i happ.symm hno (by simp) ?_
      rw [List.nil_append]
      have hq : L.drop (i + p.length) = q := by rw [← List.drop_drop, ← happ]; simp
      by_cases h0 : q = []
      · subst h0
        have hlq : L.length = i + p.length := by simp at hlen; omega
        by_cases hp0 : p = []
        · subst hp0
          by_cases hacc : acc = []
          · subst hacc
            have hl := nums8_length L
            refine Ev.step (fun k => by rw [ostiaryref13_lines.l0]) (Ev.ite_neg (by omega) (Ev.ite_pos (mkB_nil.2 rfl) ?_))
            exact rl_j2 []
          · have hpos := List.length_pos_iff.2 hacc
            refine rl_end0 L acc _ hlq hacc (l1_bad acc (by omega) (acc.length - 1) (by omega) ?_ (acc.length - 1) 0 (by omega))
            have h1 := hn acc[acc.length - 1] (List.getElem_mem _)
            rw [beq_eq_false_iff_ne.2 h1, decide_eq_true (by omega)]; decide
        · exact rl_end L acc _ _ hlq hp0
      · exact rl_bad L (by omega) _ _ q _ hq h0 hhd hno2
def linesP (L : List UInt8) : Option (List (List UInt8)) := linesN (L.length + 1) L []
theorem hlinesP_ev (L : List UInt8) (hL : L.length ≤ 4294967000) : ∃ x, Ev (fun k => head_lines.f k (nums8 L)) x ∧ Told (linesP L) x := by
  unfold head_lines.f
  exact hlines_ev (L.length + 1) L [] (by omega) (by simp; omega)
theorem rlinesP_ev (L : List UInt8) (hL : L.length ≤ 4294967000) : ∃ x, Ev (fun k => ostiaryref13_lines.f k (nums8 L)) x ∧ ToldR (linesP L) x := by
  unfold ostiaryref13_lines.f
  exact rlines_loop L hL (L.length + 1) [] 0 (by omega) (by omega) (by simp) (by simp)
theorem linesN_sizes : ∀ (n : Nat) (l : List UInt8) (acc out : List (List UInt8)) (N : Nat), linesN n l acc = some out → l.length ≤ N → (∀ x ∈ acc, x.length ≤ N) → acc.length + l.length ≤ N → (∀ x ∈ out, x.length ≤ N) ∧ out.length ≤ N
  | 0, l, acc, out, N, h, _, _, _ => by cases h
  | n + 1, l, acc, out, N, h, hl, ha, hal => by
    have happ := spanL_app l
    have hlen := congrArg List.length happ
    rw [List.length_append] at hlen
    by_cases hex : ∃ rest, (spanL l).2 = 13 :: 10 :: rest
    · obtain ⟨rest, hr⟩ := hex
      have hsp : spanL l = ((spanL l).1, 13 :: 10 :: rest) := by rw [← hr]
      rw [linesN_some hsp] at h
      rw [hr] at hlen
      simp only [List.length_cons] at hlen
      by_cases h0 : (spanL l).1 = []
      · rw [if_pos h0] at h
        by_cases hr0 : rest = []
        · rw [if_pos hr0] at h
          cases h
          exact ⟨ha, by omega⟩
        · rw [if_neg hr0] at h; cases h
      · rw [if_neg h0] at h
        refine linesN_sizes n rest _ out N h (by omega) (fun x hx => ?_) (by simp; omega)
        rcases List.mem_append.1 hx with hx | hx
        · exact ha x hx
        · rw [List.mem_singleton.1 hx]; omega
    · rw [linesN_none (fun rest e => hex ⟨rest, e⟩)] at h; cases h

def glue (w : List UInt8) : List (List UInt8) → List (List UInt8)
  | [] => [w]
  | x :: xs => (w ++ x) :: xs
def splitL (c : UInt8) : List UInt8 → List (List UInt8)
  | [] => [[]]
  | b :: l => if b = c then [] :: splitL c l else glue [b] (splitL c l)
theorem splitL_ne (c : UInt8) : ∀ l, splitL c l ≠ []
  | [] => by simp [splitL]
  | b :: l => by
    unfold splitL
    split
    · simp
    · cases splitL c l <;> simp [glue]
theorem glue_glue (a b : List UInt8) (X : List (List UInt8)) : glue a (glue b X) = glue (a ++ b) X := by
  cases X <;> simp [glue]
theorem glue_nil {X : List (List UInt8)} (h : X ≠ []) : glue [] X = X := by
  cases X with
  | nil => exact absurd rfl h
  | cons x xs => rfl
theorem splitL_at (c : UInt8) (rest : List UInt8) : ∀ p, c ∉ p → splitL c (p ++ c :: rest) = p :: splitL c rest
  | [], _ => by simp [splitL]
  | b :: p, h => by
    have hb : ¬ b = c := fun e => h (by simp [e])
    simp only [List.cons_append, splitL, if_neg hb, splitL_at c rest p (fun e => h (by simp [e])), glue]
    rfl
theorem splitL_one (c : UInt8) : ∀ p, c ∉ p → splitL c p = [p]
  | [], _ => rfl
  | b :: p, h => by
    have hb : ¬ b = c := fun e => h (by simp [e])
    simp only [splitL, if_neg hb, splitL_one c p (fun e => h (by simp [e])), glue]
    rfl
theorem splitB_is (c : UInt8) (sep : ByteArray) (hsep : sep.data.toList = [c]) : ∀ (n : Nat) (s : ByteArray), s.size ≤ n → Lib.splitB sep 0 (Lib.countB s sep) s = (splitL c s.data.toList).map mkB ∧ Lib.countB s sep ≤ s.size
  | n, s, hn => by
    have hs1 : sep.size = 1 := by rw [size_D, hsep]; rfl
    have hsz := size_D s
    have hixe : Lib.indexB s sep = Lib.index s.data.toList [c] := by rw [← hsep]; first | done | rfl
    rcases Lib.index_spec s.data.toList [c] with ⟨hi, hno⟩ | ⟨i, hi, hil, hocc, hno⟩
    · have h1 : Lib.indexB s sep = -1 := by rw [hixe, hi]
      have hmem : c ∉ s.data.toList := fun hm => by
        obtain ⟨j, hj, e⟩ := List.getElem_of_mem hm
        have := hno j (by omega)
        unfold Lib.occAt at this
        rw [List.drop_eq_getElem_cons hj, e] at this
        simp [List.isPrefixOf] at this
      rw [Lib.splitB_miss _ _ _ _ h1, Lib.countB_miss _ _ h1, splitL_one c _ hmem]
      exact ⟨by simp [mkB_D], by omega⟩
    · have h1 : Lib.indexB s sep = i := by rw [hixe, hi]
      have hroom : i < s.data.toList.length := by
        rcases Nat.lt_or_ge i s.data.toList.length with h | h
        · exact h
        · unfold Lib.occAt at hocc
          rw [List.drop_of_length_le h] at hocc
          simp [List.isPrefixOf] at hocc
      have hci : s.data.toList[i] = c := by
        unfold Lib.occAt at hocc
        rw [List.drop_eq_getElem_cons hroom] at hocc
        simp [List.isPrefixOf] at hocc
        exact hocc.symm
      have hp : c ∉ s.data.toList.take i := fun hm => by
        obtain ⟨j, hj, e⟩ := List.getElem_of_mem hm
        rw [List.length_take] at hj
        rw [List.getElem_take] at e
        have := hno j (by omega)
        unfold Lib.occAt at this
        rw [List.drop_eq_getElem_cons (show j < s.data.toList.length by omega), e] at this
        simp [List.isPrefixOf] at this
      have hcat : s.data.toList = s.data.toList.take i ++ c :: s.data.toList.drop (i + 1) := by
        conv => lhs; rw [← List.take_append_drop i s.data.toList, List.drop_eq_getElem_cons hroom, hci]
      have hx : (s.extract (i + sep.size) s.size).data.toList = s.data.toList.drop (i + 1) := by
        rw [hs1, ByteArray.data_extract, Array.toList_extract, List.extract_eq_take_drop, List.take_of_length_le (by rw [List.length_drop]; omega)]
      have hxs : (s.extract (i + sep.size) s.size).size = s.size - (i + 1) := by
        rw [size_D, hx, List.length_drop, hsz]
      have ih := splitB_is c sep hsep (n - 1) (s.extract (i + sep.size) s.size) (by omega)
      rw [Lib.countB_hit s sep i (by omega) h1, Nat.add_comm 1, Lib.splitB_hit _ _ _ _ i h1, ih.1, hx]
      refine ⟨?_, by omega⟩
      conv => rhs; rw [hcat, splitL_at c _ _ hp]
      rw [List.map_cons]
      congr 1
      refine ba_ext ?_
      simp [mkB]
  termination_by n s => s.size
  decreasing_by omega
theorem hsplit_eq (s : ByteArray) (hs : s.size < 4294967000) : strings_Split.f s (⟨#[32]⟩ : ByteArray) = some ((splitL 32 s.data.toList).map mkB) := by
  have h := splitB_is 32 (⟨#[32]⟩ : ByteArray) rfl s.size s (Nat.le_refl _)
  have hx : xSplit s (⟨#[32]⟩ : ByteArray) = (splitL 32 s.data.toList).map mkB := h.1
  unfold strings_Split.f
  rw [if_pos ⟨by omega, by decide, by rw [xSplit_length _ _ (by decide)]; omega⟩, hx]
theorem rsplit_loop (s : ByteArray) (hs : s.size ≤ 4294967000) (c : UInt8) : ∀ (m i : Nat) (out : List (List UInt8)) (w : List UInt8), i + m = s.size → out.length ≤ i → w.length ≤ i →
    Ev (fun k => ostiaryref13_split.l0 k s (c.toNat : Int) (out.map mkB) (mkB w) (i : Int)) ((out ++ glue w (splitL c (s.data.toList.drop i))).map mkB)
  | 0, i, out, w, h, ho, hw => by
    have hsz := size_D s
    refine Ev.step (fun k => by rw [ostiaryref13_split.l0]) (Ev.ite_neg (by omega) (Ev.ite_pos (by rw [List.length_map]; omega) (Ev.is (Ev.now _) ?_)))
    rw [List.drop_of_length_le (by omega)]
    simp [splitL, glue]
  | m + 1, i, out, w, h, ho, hw => by
    have hsz := size_D s
    have hi : i < s.data.toList.length := by omega
    have hb := bt_nat s i hi
    have hd := List.drop_eq_getElem_cons hi
    have hwr : wrap64 ((i : Int) + 1) = ((i + 1 : Nat) : Int) := by rw [wrap64_id (by omega) (by omega)]; omega
    refine Ev.step (fun k => by rw [ostiaryref13_split.l0]) (Ev.ite_pos (by omega) (Ev.ite_pos (by omega) ?_))
    rw [hwr, hd]
    by_cases hc : s.data.toList[i] = c
    · refine Ev.ite_pos (by rw [hb, hc]) (Ev.ite_pos (by rw [List.length_map]; omega) ?_)
      have := rsplit_loop s hs c m (i + 1) (out ++ [w]) [] (by omega) (by simp; omega) (by simp)
      rw [List.map_append] at this
      refine Ev.is this ?_
      rw [splitL, if_pos hc, glue_nil (splitL_ne _ _)]
      simp [glue]
    · refine Ev.ite_neg (fun e => hc (UInt8.toNat_inj.1 (by omega))) (Ev.ite_pos (by omega) (Ev.ite_pos (by omega) ?_))
      have e1 : s.extract ((i : Int)).toNat (((i + 1 : Nat) : Int)).toNat = mkB [s.data.toList[i]] := by
        refine ba_ext ?_
        simp only [Int.toNat_natCast, ByteArray.data_extract, Array.toList_extract, List.extract_eq_take_drop]
        rw [hd]
        simp
      rw [e1]
      refine Ev.ite_pos (by show w.length + 1 ≤ _; omega) ?_
      have e2 : mkB w ++ mkB [s.data.toList[i]] = mkB (w ++ [s.data.toList[i]]) := ba_ext (by simp)
      rw [e2]
      refine Ev.is (rsplit_loop s hs c m (i + 1) out (w ++ [s.data.toList[i]]) (by omega) (by omega) (by simp; omega)) ?_
      rw [splitL, if_neg hc, glue_glue]
theorem rsplit_ev (s : ByteArray) (hs : s.size ≤ 4294967000) (c : UInt8) : Ev (fun k => ostiaryref13_split.f k s (c.toNat : Int)) ((splitL c s.data.toList).map mkB) := by
  unfold ostiaryref13_split.f
  refine Ev.is (rsplit_loop s hs c s.size 0 [] [] (by omega) (by simp) (by simp)) ?_
  rw [List.drop_zero, List.nil_append, glue_nil (splitL_ne _ _)]
end Go.Proofs.YtnhpcpmgedjffaaDoor.P
end
section
namespace Go.Proofs.YtnhpcpmgedjffaaDoor.P
open Go.RowKit Go.Proofs.YtnhpcpmgedjffaaDoorW.PrintWords Go.Proofs.YtnhpcpmgedjffaaDoorW.PrintLast Go.Proofs.YtnhpcpmgedjffaaDoorW.PrintMore Go.Proofs.YtnhpcpmgedjffaaDoorX
set_option linter.unusedVariables false
set_option linter.unusedSimpArgs false

def digC (c : Int) : Bool := decide (48 ≤ c) && decide (c ≤ 57)
theorem digit_f (c : Int) : head_digit.f c = some (digC c) := by
  unfold head_digit.f digC
  by_cases h : c ≥ 48
  · rw [if_pos h, decide_eq_true h]; rfl
  · rw [if_neg h, decide_eq_false (by omega)]; rfl
theorem rdigit_f (c : Int) : ostiaryref13_digit.f c = some (digC c) := digit_f c
def HTTP : List UInt8 := [72, 84, 84, 80, 47]
def verOk (s : ByteArray) : Bool := s.size == 8 && (s.data.toList.take 5 == HTTP && (digC (bt s 5) && (bt s 6 == 46 && digC (bt s 7))))
def verP (s : ByteArray) : Option (Option Int) := if verOk s = true then (if bt s 5 = 49 ∧ bt s 7 ≤ 49 then some (some (bt s 7 - 48)) else some none) else none
theorem ext5 (s : ByteArray) : (s.extract 0 5).toList = s.data.toList.take 5 := by
  rw [toList_D, ByteArray.data_extract, Array.toList_extract, List.extract_eq_take_drop]; simp
theorem hversion_eq (s : ByteArray) : head_version.f s = some (if verOk s = true then ((bt s 5 - 48) % 256, (bt s 7 - 48) % 256, true) else (0, 0, false)) := by
  unfold head_version.f verOk
  rw [show ([72, 84, 84, 80, 47] : List UInt8) = HTTP from rfl]
  by_cases h8 : s.size = 8
  · rw [if_pos (by omega), if_pos (by decide), if_pos (by omega), ext5]
    by_cases h5 : s.data.toList.take 5 = HTTP
    · rw [if_pos h5, if_pos (by omega), digit_f]
      simp only [Option.bind_some]
      by_cases hd : digC (bt s 5) = true
      · rw [if_pos hd, if_pos (by omega)]
        by_cases h6 : bt s 6 = 46
        · rw [if_pos h6, if_pos (by omega), digit_f]
          simp only [Option.bind_some]
          by_cases hd7 : digC (bt s 7) = true
          · rw [if_pos hd7]; simp [h8, h5, hd, h6, hd7]
          · rw [if_neg hd7]; simp [hd7]
        · rw [if_neg h6]; simp [h6]
      · rw [if_neg hd]; simp [hd]
    · rw [if_neg h5]; simp [h5]
  · rw [if_neg (by omega)]; simp [h8]
theorem len3 {α : Type} {l : List α} (h : l.length = 3) : ∃ a b c, l = [a, b, c] := by
  match l, h with
  | [a, b, c], _ => exact ⟨a, b, c, rfl⟩
theorem ver_form {s : ByteArray} (h8 : s.size = 8) (h5 : s.data.toList.take 5 = HTTP) : ∃ a b c, s.data.toList = [72, 84, 84, 80, 47, a, b, c] ∧ bt s 5 = (a.toNat : Int) ∧ bt s 6 = (b.toNat : Int) ∧ bt s 7 = (c.toNat : Int) := by
  have hsz := size_D s
  have hd : (s.data.toList.drop 5).length = 3 := by rw [List.length_drop]; omega
  obtain ⟨a, b, c, e⟩ := len3 hd
  have hl : s.data.toList = [72, 84, 84, 80, 47, a, b, c] := by
    rw [← List.take_append_drop 5 s.data.toList, h5, e]; rfl
  have b5 := bt_nat s 5 (by omega)
  have b6 := bt_nat s 6 (by omega)
  have b7 := bt_nat s 7 (by omega)
  simp only [hl] at b5 b6 b7
  exact ⟨a, b, c, hl, b5, b6, b7⟩

abbrev RES := ByteArray × ByteArray × Int × List SF × Int
def bad (n : Int) : RES := ((⟨#[]⟩ : ByteArray), (⟨#[]⟩ : ByteArray), 0, ([] : List SF), n)
def cutL (c : UInt8) : List UInt8 → Option (List UInt8 × List UInt8)
  | [] => none
  | b :: l => if b = c then some ([], l) else (cutL c l).map (fun p => (b :: p.1, p.2))
theorem cutL_some {c : UInt8} : ∀ {x p r : List UInt8}, cutL c x = some (p, r) → x = p ++ c :: r ∧ c ∉ p
  | [], p, r, h => by cases h
  | b :: l, p, r, h => by
    unfold cutL at h
    by_cases hb : b = c
    · rw [if_pos hb] at h
      cases h
      exact ⟨by rw [hb]; rfl, by simp⟩
    · rw [if_neg hb] at h
      obtain ⟨⟨p', r'⟩, h1, h2⟩ := Option.map_eq_some_iff.1 h
      cases h2
      obtain ⟨e, hn⟩ := cutL_some h1
      exact ⟨by rw [e]; rfl, by simp [Ne.symm hb, hn]⟩
theorem cutL_none {c : UInt8} : ∀ {x : List UInt8}, cutL c x = none → c ∉ x
  | [], h => by simp
  | b :: l, h => by
    unfold cutL at h
    by_cases hb : b = c
    · rw [if_pos hb] at h; cases h
    · rw [if_neg hb] at h
      have := cutL_none (Option.map_eq_none_iff.1 h)
      simp [Ne.symm hb, this]
def lineF (x : List UInt8) : Option SF := match cutL 58 x with
  | none => none
  | some (n, v) => if wordF (nums8 n) 64 = true ∧ valP (mkB (trimL v)) = true then some ⟨mkB n, mkB (trimL v)⟩ else none
def fieldsP (mi : Int) (m t : List UInt8) : List (List UInt8) → List SF → RES
  | [], acc => if hostsP mi acc = true then (mkB m, mkB t, mi, acc, 200) else bad 400
  | x :: xs, acc => if acc.length = 32 then bad 431 else match lineF x with
    | none => bad 400
    | some f => fieldsP mi m t xs (acc ++ [f])
def wordsOk (m t v : List UInt8) : Bool := m != [] && (t != [] && (v != [] && wordF (nums8 m) 16))
def headP (first : List UInt8) (rest : List (List UInt8)) : RES := match splitL 32 first with
  | [m, t, v] => if wordsOk m t v = true then (match verP (mkB v) with
    | none => bad 400
    | some none => bad 505
    | some (some mi) => if t.length > 2048 then bad 414 else if tgtP (mkB t) = true then fieldsP mi m t rest [] else bad 400) else bad 400
  | _ => bad 400
def parseP (L : List UInt8) : RES := if L.length > 4096 then bad 431 else match linesP L with
  | some (first :: rest) => headP first rest
  | _ => bad 400
theorem headP_three {first : List UInt8} {rest : List (List UInt8)} {m t v : List UInt8} (h : splitL 32 first = [m, t, v]) : headP first rest = if wordsOk m t v = true then (match verP (mkB v) with
    | none => bad 400
    | some none => bad 505
    | some (some mi) => if t.length > 2048 then bad 414 else if tgtP (mkB t) = true then fieldsP mi m t rest [] else bad 400) else bad 400 := by
  unfold headP; rw [h]
theorem headP_else {first : List UInt8} {rest : List (List UInt8)} (h : (splitL 32 first).length ≠ 3) : headP first rest = bad 400 := by
  unfold headP
  split
  · rename_i m t v e; rw [e] at h; exact absurd rfl h
  · rfl
theorem nums8_mkB (l : List UInt8) : bytesOf (mkB l) = nums8 l := rfl
theorem splitL_sizes (c : UInt8) : ∀ (l : List UInt8), (∀ x ∈ splitL c l, x.length ≤ l.length)
  | [] => by simp [splitL]
  | b :: l => by
    have ih := splitL_sizes c l
    intro x hx
    unfold splitL at hx
    split at hx
    · rcases List.mem_cons.1 hx with e | hx
      · subst e; simp
      · have := ih x hx; simp; omega
    · cases hs : splitL c l with
      | nil => rw [hs] at hx; simp [glue] at hx; subst hx; simp
      | cons y ys =>
        rw [hs] at hx ih
        simp only [glue, List.mem_cons] at hx
        rcases hx with e | hx
        · subst e
          have := ih y (by simp)
          simp; omega
        · have := ih x (by simp [hx])
          simp; omega
theorem lineF_name {x : List UInt8} {f : SF} (h : lineF x = some f) : f.f0.size ≤ 64 := by
  unfold lineF at h
  split at h
  · cases h
  · rename_i n v e
    split at h
    · rename_i hw
      cases h
      have := hw.1
      unfold wordF at this
      simp only [Bool.and_eq_true, decide_eq_true_eq, nums8_length] at this
      show n.length ≤ 64
      omega
    · cases h

theorem hbad_j0 (x : List ByteArray) : Ev (fun k => head_Parse.j0 k x true) (bad 400) := by
  refine Ev.step (fun k => by rw [head_Parse.j0]) ?_
  exact Ev.ite_pos rfl (Ev.now _)
theorem hcut_some {x p r : List UInt8} (hx : x.length < 4294967281) (h : cutL 58 x = some (p, r)) : strings_Cut.f (mkB x) (⟨#[58]⟩ : ByteArray) = some (mkB p, mkB r, true) := by
  obtain ⟨e, hn⟩ := cutL_some h
  unfold strings_Cut.f
  rw [if_pos (show (mkB x).size < _ from hx), cut_at _ _ 58 rfl p r (by rw [← e]) hn]
theorem hcut_none {x : List UInt8} (hx : x.length < 4294967281) (h : cutL 58 x = none) : strings_Cut.f (mkB x) (⟨#[58]⟩ : ByteArray) = some (mkB x, mkB [], false) := by
  have hn := cutL_none h
  unfold strings_Cut.f
  rw [if_pos (show (mkB x).size < _ from hx)]
  have hi : Lib.index x [58] = -1 := by
    rcases Lib.index_spec x [58] with ⟨hi, _⟩ | ⟨i, hi, hil, hocc, _⟩
    · exact hi
    · exfalso
      unfold Lib.occAt at hocc
      rcases Nat.lt_or_ge i x.length with hlt | hge
      · rw [List.drop_eq_getElem_cons hlt] at hocc
        simp [List.isPrefixOf] at hocc
        exact hn (hocc ▸ List.getElem_mem _)
      · rw [List.drop_of_length_le hge] at hocc
        simp [List.isPrefixOf] at hocc
  unfold xCut Lib.cut
  show some _ = _
  simp only [show ((⟨#[58]⟩ : ByteArray)).data.toList = [58] from rfl, show (mkB x).data.toList = x from rfl, hi]
  rfl
theorem hfields_loop (mi : Int) (m t : List UInt8) (all : List ByteArray) (hall : all.length ≤ 5000) : ∀ (xs : List (List UInt8)) (i : Nat) (acc : List SF), all.drop i = xs.map mkB → (∀ x ∈ xs, x.length ≤ 5000) → i + xs.length = all.length → Small acc → acc.length ≤ 32 →
    Ev (fun k => head_Parse.l0 k all (all.length : Int) (i : Int) (mkB m) (mkB t) mi acc) (fieldsP mi m t xs acc)
  | [], i, acc, h, hx, hi, hs, ha => by
    simp only [List.length_nil] at hi
    refine Ev.step (fun k => by rw [head_Parse.l0]) (Ev.ite_neg (by omega) (Ev.bind (hhosts_ev _ _ mi acc hs) ?_))
    by_cases hh : hostsP mi acc = true
    · exact Ev.is (Ev.ite_pos hh (Ev.now _)) (by rw [fieldsP, if_pos hh])
    · exact Ev.is (Ev.ite_neg hh (Ev.now _)) (by rw [fieldsP, if_neg hh]; rfl)
  | x :: xs, i, acc, h, hx, hi, hs, ha => by
    simp only [List.length_cons] at hi
    have hd := List.drop_eq_getElem_cons (show i < all.length by omega)
    rw [h] at hd
    simp only [List.map_cons, List.cons.injEq] at hd
    have hxl := hx x (by simp)
    have hw : wrap64 ((i : Int) + 1) = ((i + 1 : Nat) : Int) := by rw [wrap64_id (by omega) (by omega)]; omega
    refine Ev.step (fun k => by rw [head_Parse.l0]) (Ev.ite_pos (by omega) (Ev.ite_pos (by omega) (Ev.ite_pos (by omega) ?_)))
    rw [rdOf_nat _ _ i (by omega), ← hd.1, hw]
    unfold fieldsP
    by_cases h32 : acc.length = 32
    · rw [if_pos h32]
      exact Ev.ite_pos (by omega) (Ev.now _)
    · rw [if_neg h32]
      refine Ev.ite_neg (by omega) ?_
      cases hc : cutL 58 x with
      | none =>
        have hlf : lineF x = none := by unfold lineF; rw [hc]
        rw [hlf]
        refine Ev.some_bind (hcut_none (by omega) hc) (Ev.some_bind (htrim_eq _ (by show (0 : Nat) ≤ _; omega)) (Ev.ite_neg Bool.false_ne_true ?_))
        exact Ev.now _
      | some pr =>
        obtain ⟨p, r⟩ := pr
        obtain ⟨hxe, hnp⟩ := cutL_some hc
        have hlx : x.length = p.length + 1 + r.length := by rw [hxe]; simp; omega
        have htl := trimL_length r
        refine Ev.some_bind (hcut_some (by omega) hc) (Ev.some_bind (htrim_eq _ (by show r.length ≤ _; omega)) (Ev.ite_pos rfl ?_))
        refine Ev.some_bind (hword_eq _ _ (by show p.length ≤ _; omega)) ?_
        by_cases hwp : wordF (nums8 p) 64 = true
        · refine Ev.ite_pos hwp (Ev.bind (hvalue_ev _ (by show (trimL r).length ≤ _; omega)) ?_)
          by_cases hv : valP (mkB (trimL r)) = true
          · have hlf : lineF x = some ⟨mkB p, mkB (trimL r)⟩ := by unfold lineF; rw [hc]; exact if_pos ⟨hwp, hv⟩
            rw [hlf]
            refine Ev.ite_pos hv (Ev.ite_pos (by omega) ?_)
            refine hfields_loop mi m t all hall xs (i + 1) _ hd.2.symm (fun y hy => hx y (by simp [hy])) (by omega) ⟨by simp; omega, ?_⟩ (by simp; omega)
            intro f hf
            rcases List.mem_append.1 hf with hf | hf
            · exact hs.2 f hf
            · rw [List.mem_singleton.1 hf]
              have h64 : p.length ≤ 64 := lineF_name hlf
              show p.length ≤ 140737488355328
              omega
          · have hlf : lineF x = none := by unfold lineF; rw [hc]; exact if_neg (fun e => hv e.2)
            rw [hlf]
            exact Ev.ite_neg hv (Ev.now _)
        · have hlf : lineF x = none := by unfold lineF; rw [hc]; exact if_neg (fun e => hwp e.1)
          rw [hlf]
          exact Ev.ite_neg hwp (Ev.now _)
theorem small_nil : Small [] := ⟨by simp, by simp⟩
theorem hparse_j1 (X : List (List UInt8)) (first m t v : List UInt8) (rest : List (List UInt8)) (hX : X = first :: rest) (hXl : X.length ≤ 5000) (hXs : ∀ x ∈ X, x.length ≤ 5000) (ht : t.length ≤ 5000) (hv : v.length ≤ 5000) (b : Bool) :
    Ev (fun k => head_Parse.j1 k (X.map mkB) [mkB m, mkB t, mkB v] b) (if b = false then (match verP (mkB v) with
    | none => bad 400
    | some none => bad 505
    | some (some mi) => if t.length > 2048 then bad 414 else if tgtP (mkB t) = true then fieldsP mi m t rest [] else bad 400) else bad 400) := by
  cases b with
  | true =>
    rw [if_neg (by decide)]
    refine Ev.step (fun k => by rw [head_Parse.j1]) ?_
    exact Ev.ite_pos rfl (Ev.now _)
  | false =>
    rw [if_pos rfl]
    refine Ev.step (fun k => by rw [head_Parse.j1]) (Ev.ite_neg (by decide) (Ev.ite_pos (by simp) (Ev.some_bind (hversion_eq _) ?_)))
    show Ev _ _
    have e2 : rdOf ByteArray.empty [mkB m, mkB t, mkB v] 2 = mkB v := rfl
    rw [e2]
    unfold verP
    by_cases hok : verOk (mkB v) = true
    · rw [if_pos hok, if_pos hok]
      have hok' := hok
      simp only [verOk, Bool.and_eq_true, beq_iff_eq, digC, decide_eq_true_eq] at hok'
      refine Ev.ite_pos rfl ?_
      have r5 := bt_range (mkB v) 5
      have r7 := bt_range (mkB v) 7
      have fin : ∀ x77 : Bool, (bt (mkB v) 5 = 49 ∧ bt (mkB v) 7 ≤ 49 ↔ x77 = false) → Ev (fun k => head_Parse.j2 k (X.map mkB) [mkB m, mkB t, mkB v] ((bt (mkB v) 7 - 48) % 256) x77) (match (if bt (mkB v) 5 = 49 ∧ bt (mkB v) 7 ≤ 49 then some (some (bt (mkB v) 7 - 48)) else some none : Option (Option Int)) with
          | none => bad 400
          | some none => bad 505
          | some (some mi) => if t.length > 2048 then bad 414 else if tgtP (mkB t) = true then fieldsP mi m t rest [] else bad 400) := by
        intro x77 hx
        cases x77 with
        | true =>
          rw [if_neg (fun e => absurd (hx.1 e) (by decide))]
          refine Ev.step (fun k => by rw [head_Parse.j2]) ?_
          exact Ev.ite_pos rfl (Ev.now _)
        | false =>
          have hc := hx.2 rfl
          rw [if_pos hc]
          refine Ev.step (fun k => by rw [head_Parse.j2]) (Ev.ite_neg (by decide) (Ev.ite_pos (by simp) ?_))
          have e1 : rdOf ByteArray.empty [mkB m, mkB t, mkB v] 1 = mkB t := rfl
          have e0 : rdOf ByteArray.empty [mkB m, mkB t, mkB v] 0 = mkB m := rfl
          rw [e1, e0, mkB_size]
          show Ev _ (if t.length > 2048 then _ else _)
          by_cases h14 : t.length > 2048
          · rw [if_pos h14]
            exact Ev.ite_pos (by omega) (Ev.now _)
          · rw [if_neg h14]
            refine Ev.ite_neg (by omega) (Ev.bind (htarget_ev _ (by show t.length ≤ _; omega)) ?_)
            by_cases htg : tgtP (mkB t) = true
            · refine Ev.is ?_ (if_pos htg).symm
              have hmi : wrap64 ((bt (mkB v) 7 - 48) % 256) = bt (mkB v) 7 - 48 := by
                rw [wrap64_id (by omega) (by omega)]; omega
              refine Ev.ite_pos htg (Ev.ite_pos (by simp) (Ev.ite_pos (by subst hX; simp; omega) (Ev.some_bind rfl ?_)))
              rw [hmi]
              have hdr : (X.map mkB).drop 1 = rest.map mkB := by subst hX; rfl
              rw [hdr]
              have hl1 : (rest.map mkB).length = rest.length := List.length_map _
              subst hX
              simp only [List.length_cons] at hXl
              exact hfields_loop _ m t (rest.map mkB) (by omega) rest 0 [] rfl (fun x hx => hXs x (by simp [hx])) (by omega) small_nil (by simp)
            · exact Ev.is (Ev.ite_neg htg (Ev.now _)) (if_neg htg).symm
      dsimp only
      by_cases h49 : (bt (mkB v) 5 - 48) % 256 = 1
      · refine Ev.ite_pos h49 (fin _ ?_)
        rw [decide_eq_false_iff_not]
        omega
      · refine Ev.ite_neg h49 (fin _ ?_)
        constructor
        · intro e; omega
        · intro e; cases e
    · rw [if_neg hok, if_neg hok]
      exact Ev.ite_neg Bool.false_ne_true (Ev.now _)
theorem hparse_ev (L : List UInt8) (hL : L.length ≤ 4294967000) : Ev (fun k => head_Parse.f k (nums8 L)) (parseP L) := by
  have hl := nums8_length L
  unfold head_Parse.f parseP
  by_cases h : L.length > 4096
  · rw [if_pos h]
    exact Ev.ite_pos (by omega) (Ev.now _)
  · rw [if_neg h]
    refine Ev.ite_neg (by omega) ?_
    obtain ⟨x, hx, ht⟩ := hlinesP_ev L hL
    refine Ev.bind hx ?_
    cases hlp : linesP L with
    | none =>
      rw [hlp] at ht
      exact Ev.ite_neg (by rw [show x.2 = false from ht]; decide) (hbad_j0 _)
    | some out =>
      rw [hlp] at ht
      obtain rfl : x = (out.map mkB, true) := ht
      refine Ev.ite_pos rfl ?_
      obtain ⟨hsz, hlen⟩ := linesN_sizes _ L [] out 4096 hlp (by omega) (by simp) (by simp; omega)
      cases out with
      | nil => exact hbad_j0 _
      | cons first rest =>
        have hf := hsz first (by simp)
        refine Ev.step (fun k => by rw [head_Parse.j0]) (Ev.ite_neg (by first | (simp; done) | (simp; omega)) (Ev.ite_pos (by first | (simp; done) | (simp; omega)) ?_))
        have e0 : rdOf ByteArray.empty ((first :: rest).map mkB) 0 = mkB first := rfl
        dsimp only
        rw [e0]
        refine Ev.some_bind (hsplit_eq (mkB first) (by show first.length < _; omega)) ?_
        have hml : ((splitL 32 first).map mkB).length = (splitL 32 first).length := List.length_map _
        show Ev _ (headP first rest)
        by_cases h3 : (splitL 32 first).length = 3
        · obtain ⟨m, t, v, hs⟩ := len3 h3
          have hss := splitL_sizes 32 first
          rw [hs] at hss
          have hm := hss m (by simp)
          have htl := hss t (by simp)
          have hv := hss v (by simp)
          rw [headP_three hs]
          have hj := fun b => hparse_j1 (first :: rest) first m t v rest rfl (by omega) (fun x hx => by have := hsz x hx; omega) (by omega) (by omega) b
          show Ev (fun k => if (((splitL 32 first).map mkB).length : Int) = 3 then _ else _) _
          rw [hs]
          refine Ev.ite_pos rfl (Ev.ite_pos (by simp) ?_)
          have e0 : rdOf ByteArray.empty ([m, t, v].map mkB) 0 = mkB m := rfl
          have e1 : rdOf ByteArray.empty ([m, t, v].map mkB) 1 = mkB t := rfl
          have e2 : rdOf ByteArray.empty ([m, t, v].map mkB) 2 = mkB v := rfl
          rw [e0, e1, e2]
          by_cases hm0 : m = []
          · refine Ev.ite_pos (mkB_nil.2 hm0) (Ev.is (hj true) ?_)
            simp [wordsOk, hm0]
          · refine Ev.ite_neg (fun e => hm0 (mkB_nil.1 e)) (Ev.ite_pos (by simp) ?_)
            by_cases ht0 : t = []
            · refine Ev.ite_pos (mkB_nil.2 ht0) (Ev.is (hj true) ?_)
              simp [wordsOk, ht0]
            · refine Ev.ite_neg (fun e => ht0 (mkB_nil.1 e)) (Ev.ite_pos (by simp) ?_)
              by_cases hv0 : v = []
              · refine Ev.ite_pos (mkB_nil.2 hv0) (Ev.is (hj true) ?_)
                simp [wordsOk, hv0]
              · refine Ev.ite_neg (fun e => hv0 (mkB_nil.1 e)) (Ev.some_bind (hword_eq _ _ (by show m.length ≤ _; omega)) (Ev.is (hj _) ?_))
                rw [nums8_mkB]
                have ew : wordsOk m t v = wordF (nums8 m) 16 := by rw [wordsOk, bne_iff_ne.2 hm0, bne_iff_ne.2 ht0, bne_iff_ne.2 hv0]; rfl
                rw [ew]
                cases wordF (nums8 m) 16 <;> rfl
        · rw [headP_else h3]
          refine Ev.ite_neg (by show ¬ (((splitL 32 first).map mkB).length : Int) = 3; omega) ?_
          refine Ev.step (fun k => by rw [head_Parse.j1]) ?_
          exact Ev.ite_pos rfl (Ev.now _)
end Go.Proofs.YtnhpcpmgedjffaaDoor.P
end
section
namespace Go.Proofs.YtnhpcpmgedjffaaDoor.P
open Go.RowKit Go.Proofs.YtnhpcpmgedjffaaDoorW.PrintWords Go.Proofs.YtnhpcpmgedjffaaDoorW.PrintLast Go.Proofs.YtnhpcpmgedjffaaDoorW.PrintMore Go.Proofs.YtnhpcpmgedjffaaDoorX
set_option linter.unusedVariables false
set_option linter.unusedSimpArgs false

theorem rsplit32 (s : ByteArray) (hs : s.size ≤ 4294967000) : Ev (fun k => ostiaryref13_split.f k s 32) ((splitL 32 s.data.toList).map mkB) := rsplit_ev s hs 32
theorem rscan (X : List ByteArray) (i : Nat) (hi : i < X.length) (x : List UInt8) (hX : X[i] = mkB x) (hxl : x.length ≤ 5000) (hXl : X.length ≤ 6000) (m t : ByteArray) (mi : Int) (acc : List SF) {R : RES} : ∀ (p q : List UInt8) (j : Nat), x.drop j = p ++ q → (58 : UInt8) ∉ p → (∀ y, q.head? = some y → y = 58) →
    Ev (fun k => ostiaryref13_Parse.j6 k X (i : Int) ((j + p.length : Nat) : Int) m t mi acc) R → Ev (fun k => ostiaryref13_Parse.l1 k X (i : Int) (j : Int) m t mi acc) R
  | [], q, j, h, hp, hq, k => by
    have er : rdOf ByteArray.empty X (i : Int) = mkB x := by rw [rdOf_nat _ _ i hi, hX]
    refine Ev.step (fun k => by rw [ostiaryref13_Parse.l1]) (Ev.ite_pos (by omega) (Ev.ite_pos (by omega) ?_))
    rw [er, mkB_size]
    by_cases hj : j < x.length
    · have hd := List.drop_eq_getElem_cons hj
      rw [h, List.nil_append] at hd
      have hc : x[j] = 58 := hq _ (by rw [hd]; rfl)
      have hb := bt_nat (mkB x) j hj
      refine Ev.ite_pos (by omega) (Ev.ite_pos (by omega) (Ev.ite_pos ?_ k))
      rw [hb]
      show ((x[j]).toNat : Int) = 58
      rw [hc]; rfl
    · exact Ev.ite_neg (by omega) k
  | c :: p, q, j, h, hp, hq, k => by
    have hj : j < x.length := by
      refine Nat.lt_of_not_le fun hge => ?_
      rw [List.drop_of_length_le hge] at h; cases h
    have hd := List.drop_eq_getElem_cons hj
    rw [h] at hd
    simp only [List.cons_append, List.cons.injEq] at hd
    have er : rdOf ByteArray.empty X (i : Int) = mkB x := by rw [rdOf_nat _ _ i hi, hX]
    have hb := bt_nat (mkB x) j hj
    have hw : wrap64 ((j : Int) + 1) = ((j + 1 : Nat) : Int) := by rw [wrap64_id (by omega) (by omega)]; omega
    refine Ev.step (fun k => by rw [ostiaryref13_Parse.l1]) (Ev.ite_pos (by omega) (Ev.ite_pos (by omega) ?_))
    rw [er, mkB_size, hw]
    refine Ev.ite_pos (by omega) (Ev.ite_pos (by omega) (Ev.ite_neg ?_ ?_))
    · rw [hb]
      intro e
      have e' : ((x[j]).toNat : Int) = 58 := e
      have hc : x[j] = 58 := UInt8.toNat_inj.1 (by show (x[j]).toNat = 58; omega)
      exact hp (by rw [hd.1, hc]; simp)
    · refine rscan X i hi x hX hxl hXl m t mi acc p q (j + 1) hd.2.symm (fun e => hp (List.mem_cons_of_mem _ e)) hq ?_
      refine Eq.mp ?_ k
      rw [List.length_cons, show j + (p.length + 1) = j + 1 + p.length by omega]
theorem ext_pre (p r : List UInt8) (c : UInt8) : (mkB (p ++ c :: r)).extract 0 p.length = mkB p := ba_ext (by simp)
theorem ext_post (p r : List UInt8) (c : UInt8) : (mkB (p ++ c :: r)).extract (p.length + 1) (mkB (p ++ c :: r)).size = mkB r := by
  refine ba_ext ?_
  rw [ByteArray.data_extract, Array.toList_extract, List.extract_eq_take_drop, mkB_size]
  show ((p ++ c :: r).drop (p.length + 1)).take _ = r
  rw [show p ++ c :: r = (p ++ [c]) ++ r by simp, List.drop_left' (by simp), List.take_of_length_le (by simp; omega)]
theorem rfields_loop (mi : Int) (m t : List UInt8) (X : List ByteArray) (hXl : X.length ≤ 6000) : ∀ (xs : List (List UInt8)) (acc : List SF), X.drop (acc.length + 1) = (xs ++ [[]]).map mkB → (∀ x ∈ xs, x.length ≤ 5000) → acc.length + xs.length + 2 = X.length → Small acc → acc.length ≤ 32 →
    Ev (fun k => ostiaryref13_Parse.l0 k X ((acc.length + 1 : Nat) : Int) (mkB m) (mkB t) mi acc) (fieldsP mi m t xs acc)
  | [], acc, h, hx, hi, hs, ha => by
    simp only [List.length_nil] at hi
    have hw : wrap64 ((X.length : Int) - 1) = (X.length : Int) - 1 := wrap64_id (by omega) (by omega)
    refine Ev.step (fun k => by rw [ostiaryref13_Parse.l0]) ?_
    rw [hw]
    refine Ev.ite_neg (by omega) (Ev.bind (rhosts_ev _ _ mi acc hs) ?_)
    by_cases hh : hostsP mi acc = true
    · exact Ev.is (Ev.ite_pos hh (Ev.now _)) (by rw [fieldsP, if_pos hh])
    · exact Ev.is (Ev.ite_neg hh (Ev.now _)) (by rw [fieldsP, if_neg hh]; rfl)
  | x :: xs, acc, h, hx, hi, hs, ha => by
    simp only [List.length_cons] at hi
    have hil : acc.length + 1 < X.length := by omega
    have hd := List.drop_eq_getElem_cons hil
    rw [h] at hd
    simp only [List.cons_append, List.map_cons, List.cons.injEq] at hd
    have hxl := hx x (by simp)
    have hw : wrap64 ((X.length : Int) - 1) = (X.length : Int) - 1 := wrap64_id (by omega) (by omega)
    refine Ev.step (fun k => by rw [ostiaryref13_Parse.l0]) ?_
    rw [hw]
    refine Ev.ite_pos (by omega) ?_
    unfold fieldsP
    by_cases h32 : acc.length = 32
    · rw [if_pos h32]
      exact Ev.ite_pos (by omega) (Ev.now _)
    · rw [if_neg h32]
      refine Ev.ite_neg (by omega) ?_
      have er : rdOf ByteArray.empty X ((acc.length + 1 : Nat) : Int) = mkB x := by rw [rdOf_nat _ _ _ hil, hd.1]
      cases hc : cutL 58 x with
      | none =>
        have hlf : lineF x = none := by unfold lineF; rw [hc]
        rw [hlf]
        refine rscan X (acc.length + 1) hil x hd.1.symm hxl hXl _ _ mi acc x [] 0 (by simp) (cutL_none hc) (by simp) ?_
        refine Ev.step (fun k => by rw [ostiaryref13_Parse.j6]) (Ev.ite_pos (by omega) (Ev.ite_pos (by omega) ?_))
        rw [er, mkB_size, Nat.zero_add]
        refine Ev.ite_pos rfl ?_
        exact Ev.now _
      | some pr =>
        obtain ⟨p, r⟩ := pr
        obtain ⟨hxe, hnp⟩ := cutL_some hc
        have hlx : x.length = p.length + 1 + r.length := by rw [hxe]; simp; omega
        have htl := trimL_length r
        refine rscan X (acc.length + 1) hil x hd.1.symm hxl hXl _ _ mi acc p (58 :: r) 0 (by rw [List.drop_zero]; exact hxe) hnp (by simp) ?_
        rw [Nat.zero_add]
        have hw1 : wrap64 ((p.length : Int) + 1) = ((p.length + 1 : Nat) : Int) := by rw [wrap64_id (by omega) (by omega)]; omega
        have hw2 : wrap64 (((acc.length + 1 : Nat) : Int) + 1) = ((acc.length + 1 + 1 : Nat) : Int) := by rw [wrap64_id (by omega) (by omega)]; omega
        refine Ev.step (fun k => by rw [ostiaryref13_Parse.j6]) (Ev.ite_pos (by omega) (Ev.ite_pos (by omega) ?_))
        rw [er, hw1, hw2]
        have e1 : (mkB x).extract 0 ((p.length : Int)).toNat = mkB p := by rw [Int.toNat_natCast, hxe]; exact ext_pre p r 58
        have e2 : (mkB x).extract (((p.length + 1 : Nat) : Int)).toNat (mkB x).size = mkB r := by rw [Int.toNat_natCast, hxe]; exact ext_post p r 58
        rw [e1, e2, mkB_size]
        refine Ev.ite_neg (by omega) (Ev.ite_pos (by omega) (Ev.ite_pos (by omega) (Ev.bind (rword_ev _ _ (by show p.length ≤ _; omega)) ?_)))
        by_cases hwp : wordF (nums8 p) 64 = true
        · refine Ev.ite_pos hwp (Ev.ite_pos (by omega) (Ev.ite_pos (by omega) (Ev.bind (rtrim_ev _ (by show r.length ≤ _; omega)) (Ev.bind (rvalue_ev _ (by show (trimL r).length ≤ _; omega)) ?_))))
          by_cases hv : valP (mkB (trimL r)) = true
          · have hlf : lineF x = some ⟨mkB p, mkB (trimL r)⟩ := by unfold lineF; rw [hc]; exact if_pos ⟨hwp, hv⟩
            rw [hlf]
            refine Ev.ite_pos hv (Ev.bind (rtrim_ev _ (by show r.length ≤ _; omega)) (Ev.ite_pos (by omega) ?_))
            have hal : (acc ++ [(⟨mkB p, mkB (trimL r)⟩ : SF)]).length = acc.length + 1 := by simp
            have := rfields_loop mi m t X hXl xs (acc ++ [⟨mkB p, mkB (trimL r)⟩]) (by rw [hal]; exact hd.2.symm) (fun y hy => hx y (by simp [hy])) (by rw [hal]; omega) ⟨by rw [hal]; omega, fun f hf => by
              rcases List.mem_append.1 hf with hf | hf
              · exact hs.2 f hf
              · rw [List.mem_singleton.1 hf]
                have h64 : p.length ≤ 64 := lineF_name hlf
                show p.length ≤ 140737488355328
                omega⟩ (by rw [hal]; omega)
            rw [hal] at this
            exact this
          · have hlf : lineF x = none := by unfold lineF; rw [hc]; exact if_neg (fun e => hv e.2)
            rw [hlf]
            exact Ev.ite_neg hv (Ev.now _)
        · have hlf : lineF x = none := by unfold lineF; rw [hc]; exact if_neg (fun e => hwp e.1)
          rw [hlf]
          exact Ev.ite_neg hwp (Ev.now _)
def tailP (m t v : List UInt8) (rest : List (List UInt8)) : RES := match verP (mkB v) with
    | none => bad 400
    | some none => bad 505
    | some (some mi) => if t.length > 2048 then bad 414 else if tgtP (mkB t) = true then fieldsP mi m t rest [] else bad 400
theorem rparse_j3 (X : List (List UInt8)) (first m t v : List UInt8) (rest : List (List UInt8)) (hX : X = first :: (rest ++ [[]])) (hXl : X.length ≤ 5000) (hXs : ∀ x ∈ rest, x.length ≤ 5000) (ht : t.length ≤ 5000) (hok : verOk (mkB v) = true) (x95 : Bool)
    (hx : bt (mkB v) 5 = 49 ∧ bt (mkB v) 7 ≤ 49 ↔ x95 = false) : Ev (fun k => ostiaryref13_Parse.j3 k (X.map mkB) [mkB m, mkB t, mkB v] (mkB v) x95) (tailP m t v rest) := by
  have hok' := hok
  simp only [verOk, Bool.and_eq_true, beq_iff_eq, digC, decide_eq_true_eq] at hok'
  have r5 := bt_range (mkB v) 5
  have r7 := bt_range (mkB v) 7
  cases x95 with
  | true =>
    refine Ev.step (fun k => by rw [ostiaryref13_Parse.j3]) ?_
    refine Ev.is (Ev.ite_pos rfl (Ev.now _)) ?_
    have : verP (mkB v) = some none := by unfold verP; rw [if_pos hok, if_neg (fun e => absurd (hx.1 e) (by decide))]
    rw [tailP, this]; rfl
  | false =>
    have hc := hx.2 rfl
    have hvp : verP (mkB v) = some (some (bt (mkB v) 7 - 48)) := by unfold verP; rw [if_pos hok, if_pos hc]
    have htail : tailP m t v rest = if t.length > 2048 then bad 414 else if tgtP (mkB t) = true then fieldsP (bt (mkB v) 7 - 48) m t rest [] else bad 400 := by rw [tailP, hvp]
    rw [htail]
    refine Ev.step (fun k => by rw [ostiaryref13_Parse.j3]) (Ev.ite_neg (by decide) (Ev.ite_pos (by simp) ?_))
    have e1 : rdOf ByteArray.empty [mkB m, mkB t, mkB v] 1 = mkB t := rfl
    have e0 : rdOf ByteArray.empty [mkB m, mkB t, mkB v] 0 = mkB m := rfl
    rw [e1, e0, mkB_size]
    by_cases h14 : t.length > 2048
    · rw [if_pos h14]
      exact Ev.ite_pos (by omega) (Ev.now _)
    · rw [if_neg h14]
      refine Ev.ite_neg (by omega) (Ev.bind (rtarget_ev _ (by show t.length ≤ _; omega)) ?_)
      by_cases htg : tgtP (mkB t) = true
      · refine Ev.is ?_ (if_pos htg).symm
        have hmi : wrap64 ((bt (mkB v) 7 - 48) % 256) = bt (mkB v) 7 - 48 := by
          rw [wrap64_id (by omega) (by omega)]; omega
        refine Ev.ite_pos htg (Ev.ite_pos (by simp) (Ev.ite_pos (by have := hok'.1; omega) ?_))
        rw [hmi]
        have hl1 : (X.map mkB).length = X.length := List.length_map _
        have hl2 : X.length = rest.length + 2 := by rw [hX]; simp
        exact rfields_loop _ m t (X.map mkB) (by omega) rest [] (by rw [hX]; rfl) hXs (by rw [hl1]; simp; omega) small_nil (by simp)
      · exact Ev.is (Ev.ite_neg htg (Ev.now _)) (if_neg htg).symm
theorem rparse_j2 (X : List (List UInt8)) (first m t v : List UInt8) (rest : List (List UInt8)) (hX : X = first :: (rest ++ [[]])) (hXl : X.length ≤ 5000) (hXs : ∀ x ∈ rest, x.length ≤ 5000) (ht : t.length ≤ 5000) (x88 : Bool)
    (hx : verOk (mkB v) = true ↔ x88 = false) : Ev (fun k => ostiaryref13_Parse.j2 k (X.map mkB) [mkB m, mkB t, mkB v] (mkB v) x88) (tailP m t v rest) := by
  cases x88 with
  | true =>
    refine Ev.step (fun k => by rw [ostiaryref13_Parse.j2]) ?_
    refine Ev.is (Ev.ite_pos rfl (Ev.now _)) ?_
    have : verP (mkB v) = none := by unfold verP; rw [if_neg (fun e => absurd (hx.1 e) (by decide))]
    rw [tailP, this]; rfl
  | false =>
    have hok := hx.2 rfl
    have hok' := hok
    simp only [verOk, Bool.and_eq_true, beq_iff_eq, digC, decide_eq_true_eq] at hok'
    obtain ⟨a, b, c, hv, b5, b6, b7⟩ := ver_form hok'.1 hok'.2.1
    have hv' : v = [72, 84, 84, 80, 47, a, b, c] := hv
    have hb : b = 46 := UInt8.toNat_inj.1 (by show b.toNat = 46; have := hok'.2.2.2.1; omega)
    have j3 := rparse_j3 X first m t v rest hX hXl hXs ht hok
    refine Ev.step (fun k => by rw [ostiaryref13_Parse.j2]) (Ev.ite_neg (by decide) ?_)
    have hac : ∀ z : UInt8, (mkB v).toList = [72, 84, 84, 80, 47, 49, 46, z] ↔ bt (mkB v) 5 = 49 ∧ bt (mkB v) 7 = (z.toNat : Int) := by
      intro z
      rw [b5, b7, toList_D, show (mkB v).data.toList = v from rfl, hv', hb]
      simp only [List.cons.injEq, true_and, and_true]
      constructor
      · rintro ⟨rfl, rfl⟩; exact ⟨rfl, rfl⟩
      · rintro ⟨e1, e2⟩
        exact ⟨UInt8.toNat_inj.1 (by show a.toNat = 49; omega), UInt8.toNat_inj.1 (by omega)⟩
    have h0 := hac 48
    have h1 := hac 49
    have z0 : ((48 : UInt8).toNat : Int) = 48 := rfl
    have z1 : ((49 : UInt8).toNat : Int) = 49 := rfl
    rw [z0] at h0
    rw [z1] at h1
    have d7 := hok'.2.2.2.2
    by_cases e : (mkB v).toList = [72, 84, 84, 80, 47, 49, 46, 48]
    · have := h0.1 e
      exact Ev.ite_pos e (j3 _ (by constructor <;> intro _ <;> first | rfl | omega))
    · refine Ev.ite_neg e (j3 _ ?_)
      have hne : ¬ (bt (mkB v) 5 = 49 ∧ bt (mkB v) 7 = 48) := fun h => e (h0.2 h)
      by_cases e1 : (mkB v).toList = [72, 84, 84, 80, 47, 49, 46, 49]
      · have := h1.1 e1
        rw [bne_eq_false_iff_eq]
        constructor
        · intro _; exact e1
        · intro _; omega
      · have hne1 : ¬ (bt (mkB v) 5 = 49 ∧ bt (mkB v) 7 = 49) := fun h => e1 (h1.2 h)
        rw [bne_eq_false_iff_eq]
        constructor
        · intro h; omega
        · intro h; exact absurd h e1
theorem rparse_j1 (X : List (List UInt8)) (first m t v : List UInt8) (rest : List (List UInt8)) (hX : X = first :: (rest ++ [[]])) (hXl : X.length ≤ 5000) (hXs : ∀ x ∈ rest, x.length ≤ 5000) (ht : t.length ≤ 5000) (b : Bool) :
    Ev (fun k => ostiaryref13_Parse.j1 k (X.map mkB) [mkB m, mkB t, mkB v] b) (if b = false then tailP m t v rest else bad 400) := by
  cases b with
  | true =>
    rw [if_neg (by decide)]
    refine Ev.step (fun k => by rw [ostiaryref13_Parse.j1]) ?_
    exact Ev.ite_pos rfl (Ev.now _)
  | false =>
    rw [if_pos rfl]
    have j2 := rparse_j2 X first m t v rest hX hXl hXs ht
    refine Ev.step (fun k => by rw [ostiaryref13_Parse.j1]) (Ev.ite_neg (by decide) (Ev.ite_pos (by simp) ?_))
    have e2 : rdOf ByteArray.empty [mkB m, mkB t, mkB v] 2 = mkB v := rfl
    rw [e2]
    have hun : verOk (mkB v) = ((mkB v).size == 8 && ((mkB v).data.toList.take 5 == HTTP && (digC (bt (mkB v) 5) && (bt (mkB v) 6 == 46 && digC (bt (mkB v) 7))))) := rfl
    have no : verOk (mkB v) = false → (verOk (mkB v) = true ↔ true = false) := fun h => by rw [h]; simp
    by_cases h8 : (mkB v).size = 8
    · refine Ev.ite_pos (by omega) (Ev.ite_pos (by decide) (Ev.ite_pos (by omega) ?_))
      rw [ext5]
      by_cases h5 : (mkB v).data.toList.take 5 = HTTP
      · refine Ev.ite_pos h5 (Ev.ite_pos (by omega) (Ev.some_bind (rdigit_f _) ?_))
        by_cases hd : digC (bt (mkB v) 5) = true
        · refine Ev.ite_pos hd (Ev.ite_pos (by omega) ?_)
          by_cases h6 : bt (mkB v) 6 = 46
          · refine Ev.ite_pos h6 (Ev.ite_pos (by omega) (Ev.some_bind (rdigit_f _) (j2 _ ?_)))
            rw [hun]
            cases hd7 : digC (bt (mkB v) 7) <;> simp [h8, h5, hd, h6]
          · refine Ev.ite_neg h6 (j2 _ (no ?_))
            rw [hun]; simp [h6]
        · refine Ev.ite_neg hd (j2 _ (no ?_))
          rw [hun]; simp [hd]
      · refine Ev.ite_neg h5 (j2 _ (no ?_))
        rw [hun, beq_eq_false_iff_ne.2 h5]; simp
    · refine Ev.ite_neg (by omega) (j2 _ (no ?_))
      rw [hun, beq_eq_false_iff_ne.2 h8]; rfl
theorem rbad_j0 (x : List ByteArray) : Ev (fun k => ostiaryref13_Parse.j0 k x true) (bad 400) := by
  refine Ev.step (fun k => by rw [ostiaryref13_Parse.j0]) ?_
  exact Ev.ite_pos rfl (Ev.now _)
theorem rparse_ev (L : List UInt8) (hL : L.length ≤ 4294967000) : Ev (fun k => ostiaryref13_Parse.f k (nums8 L)) (parseP L) := by
  have hl := nums8_length L
  unfold ostiaryref13_Parse.f parseP
  by_cases h : L.length > 4096
  · rw [if_pos h]
    exact Ev.ite_pos (by omega) (Ev.now _)
  · rw [if_neg h]
    refine Ev.ite_neg (by omega) ?_
    obtain ⟨x, hx, ht⟩ := rlinesP_ev L hL
    refine Ev.bind hx ?_
    cases hlp : linesP L with
    | none =>
      rw [hlp] at ht
      exact Ev.ite_neg (by rw [show x.2 = false from ht]; decide) (rbad_j0 _)
    | some out =>
      rw [hlp] at ht
      have ht' : x = ((out ++ [([] : List UInt8)]).map mkB, true) := ht
      subst ht'
      refine Ev.ite_pos rfl ?_
      obtain ⟨hsz, hlen⟩ := linesN_sizes _ L [] out 4096 hlp (by omega) (by simp) (by simp; omega)
      cases out with
      | nil => exact rbad_j0 _
      | cons first rest =>
        have hf := hsz first (by simp)
        have hlr : ((first :: rest ++ [[]]).map mkB).length = rest.length + 2 := by simp
        have hdec : decide ((((first :: rest ++ [[]]).map mkB).length : Int) < 2) = false := decide_eq_false (by omega)
        dsimp only
        rw [hdec]
        refine Ev.step (fun k => by rw [ostiaryref13_Parse.j0]) (Ev.ite_neg (by decide) (Ev.ite_pos (by omega) ?_))
        have e0 : rdOf ByteArray.empty ((first :: rest ++ [[]]).map mkB) 0 = mkB first := rfl
        rw [e0]
        refine Ev.bind (rsplit32 (mkB first) (by show first.length ≤ _; omega)) ?_
        have hml : ((splitL 32 first).map mkB).length = (splitL 32 first).length := List.length_map _
        show Ev _ (headP first rest)
        by_cases h3 : (splitL 32 first).length = 3
        · obtain ⟨m, t, v, hs⟩ := len3 h3
          have hss := splitL_sizes 32 first
          rw [hs] at hss
          have hm := hss m (by simp)
          have htl := hss t (by simp)
          have hv := hss v (by simp)
          rw [headP_three hs]
          simp only [List.length_cons] at hlen
          have hj := fun b => rparse_j1 (first :: (rest ++ [[]])) first m t v rest rfl (by simp; omega) (fun x hx => by have := hsz x (by simp [hx]); omega) (by omega) b
          show Ev (fun k => if (((splitL 32 first).map mkB).length : Int) = 3 then _ else _) (if wordsOk m t v = true then tailP m t v rest else bad 400)
          rw [hs]
          refine Ev.ite_pos rfl (Ev.ite_pos (by simp) ?_)
          have e0 : rdOf ByteArray.empty ([m, t, v].map mkB) 0 = mkB m := rfl
          have e1 : rdOf ByteArray.empty ([m, t, v].map mkB) 1 = mkB t := rfl
          have e2 : rdOf ByteArray.empty ([m, t, v].map mkB) 2 = mkB v := rfl
          rw [e0, e1, e2]
          by_cases hm0 : m = []
          · refine Ev.ite_pos (mkB_nil.2 hm0) (Ev.is (hj true) ?_)
            simp [wordsOk, hm0]
          · refine Ev.ite_neg (fun e => hm0 (mkB_nil.1 e)) (Ev.ite_pos (by simp) ?_)
            by_cases ht0 : t = []
            · refine Ev.ite_pos (mkB_nil.2 ht0) (Ev.is (hj true) ?_)
              simp [wordsOk, ht0]
            · refine Ev.ite_neg (fun e => ht0 (mkB_nil.1 e)) (Ev.ite_pos (by simp) ?_)
              by_cases hv0 : v = []
              · refine Ev.ite_pos (mkB_nil.2 hv0) (Ev.is (hj true) ?_)
                simp [wordsOk, hv0]
              · refine Ev.ite_neg (fun e => hv0 (mkB_nil.1 e)) (Ev.bind (rword_ev _ _ (by show m.length ≤ _; omega)) (Ev.is (hj _) ?_))
                rw [nums8_mkB]
                have ew : wordsOk m t v = wordF (nums8 m) 16 := by rw [wordsOk, bne_iff_ne.2 hm0, bne_iff_ne.2 ht0, bne_iff_ne.2 hv0]; rfl
                rw [ew]
                cases wordF (nums8 m) 16 <;> rfl
        · rw [headP_else h3]
          refine Ev.ite_neg (by show ¬ (((splitL 32 first).map mkB).length : Int) = 3; omega) ?_
          refine Ev.step (fun k => by rw [ostiaryref13_Parse.j1]) ?_
          exact Ev.ite_pos rfl (Ev.now _)
end Go.Proofs.YtnhpcpmgedjffaaDoor.P
end
section
namespace Go.Proofs.YtnhpcpmgedjffaaDoorX
open Go.RowKit Go.Proofs.YtnhpcpmgedjffaaDoorW.PrintWords Go.Proofs.YtnhpcpmgedjffaaDoorW.PrintLast Go.Proofs.YtnhpcpmgedjffaaDoorW.PrintMore
set_option linter.unusedVariables false
set_option linter.unusedSimpArgs false

attribute [local go_sem ↓] Go.wp_at_zero Go.wp_at_succ
def mark (i : Nat) : Int := 160 + (i : Int) % 90
def marks (n : Nat) : List Int := [mark n, mark (n + 1), mark (n + 2)]
def room (n k : Nat) : List Int := (marks n).take k ++ List.replicate (3 - k) 0
theorem room_length (n k : Nat) (hk : k ≤ 3) : (room n k).length = 3 := by
  simp [room, marks]; omega
theorem room_set (l : List Int) (n k : Nat) (hn : l.length = n) (hk : k < 3) : (l ++ room n k).set (n + k) (mark (n + k)) = l ++ room n (k + 1) := by
  rw [List.set_append_right _ _ (by omega), show n + k - l.length = k by omega]
  congr 1
  match k, hk with
  | 0, _ => rfl
  | 1, _ => rfl
  | 2, _ => rfl
section
variable {P : Program} {ops : Array Oper} {Q : Exit → Act → World → Prop} {o : Oper} {rest : List Oper} {a : Act}
theorem M_make {W : World} (hgd : o.guard = none) {N : Tmp} (_hd : o.dst = some N) (t : TypeId) (x : Operand) (ho : o.op = .makeSlice t x x) (e : Nat) (ht : P.underlying t = some (.slice e)) {i : TypeInfo} (hi : P.info? e = some i) (hz : i.zero = some (.int .u8 0)) (hs1 : i.size = 1) (hb1 : i.bytes = 1)
    (n : Nat) (hx : a.eval x = .int .i64 n) (hn : n ≤ 281474976710656)
    (h : ∀ g w1, W.heap.size ≤ g → MRow w1 g n (List.replicate n 0) → Below W.heap.size W w1 → wpList P ops Q rest (a.put o.dst (.slice (some ⟨g, 0, none⟩) n n)) w1) : wpList P ops Q (o :: rest) a W := by
  have hr := run_make (P := P) W t e i (.int .u8 0) ht hi hz .i64 .i64 n n (by omega) (Int.le_refl _) (by rw [hb1]; omega) (by omega)
  simp only [Int.toNat_natCast] at hr
  have hrun : (execOp a.eval o).run P W = .ok (.value (.slice (some ⟨W.heap.size, 0, none⟩) n n)) (W.alloc (.cells (madeCells (Value.int .u8 0).cells (n * i.size)) e)) := by
    simp [execOp, ho, hx, hr]
  have hc : madeCells (Value.int .u8 0).cells (n * i.size) = ((List.replicate n (0 : Int)).map (Value.int .u8)).toArray := by
    rw [hs1, Nat.mul_one]
    apply Array.ext'
    simp [madeCells]
    apply List.ext_getElem?
    intro j
    by_cases hj : j < n
    · simp [hj, Value.cells, Nat.mod_one]
    · simp [hj]
  rw [hc] at hrun
  refine Kd.event_run hgd hrun (h _ _ (Nat.le_refl _) ?_ ((Below.refl _ _).alloc (Nat.le_refl _) _))
  have hm := MRow.new (W.alloc (.cells ((List.replicate n (0 : Int)).map (Value.int .u8)).toArray e)) ((List.replicate n (0 : Int)).map (Value.int .u8)).toArray e (0, 0) (List.replicate n 0) (by simp) (by simp; omega) (fun k _ h1 => by simp at h1) W.heap.size (heap_alloc_new W _) (by simp) (by intro v hv; simp at hv; obtain ⟨_, rfl⟩ := hv; exact ⟨0, rfl⟩)
  simpa using hm
theorem M_copy {W : World} (hgd : o.guard = none) {N : Tmp} (_hd : o.dst = some N) (d s : Operand) (t : TypeId) (ho : o.op = .call { callee := .builtin .copy, args := #[d, s], argTypes := #[t, t] }) (e : Nat) (ht : P.underlying t = some (.slice e)) (hs : (P.info? e).map (·.size) = some 1)
    {g cap n c : Nat} {l ys : List Int} {A : Option Addr} (hm : MRow W g cap l) (hn : n = l.length) (hd : a.eval d = .slice (some ⟨g, 0, none⟩) n cap) (hy : Kd.C (Kd.int .u8) W A ys.length ys) (hx : a.eval s = .slice A ys.length c) (hle : ys.length ≤ l.length)
    (h : ∀ w1, MRow w1 g cap (ys ++ l.drop ys.length) → W.grownBy w1 (some g) → wpList P ops Q rest (a.put o.dst (.int .i64 ys.length)) w1) : wpList P ops Q (o :: rest) a W := by
  subst hn
  have hr := Kd.reads_of_C (d := (0 : Int)) hy
  by_cases h0 : ys.length = 0
  · have hy0 : ys = [] := List.length_eq_zero_iff.1 h0
    subst hy0
    have hrun := run_copy_none (P := P) W t t o.type e (some ⟨g, 0, none⟩) A l.length cap 0 c ht hs (by simp)
    refine wpList_plain hgd fun K hK => ?_
    unfold Oper.wp execOp
    simp only [ho, resolve, invoke, builtin, Sem.run_bind, Sem.run_pure, Result.andThen_ok, List.map_toArray, List.map_cons, List.map_nil, hd, hx, List.length_nil, hrun]
    exact hK _ _ (by simpa [goInt] using h W (by simpa using hm) ⟨rfl, rfl, rfl, Nat.le_refl _, fun _ _ _ => rfl⟩)
  · obtain ⟨ad, rfl, hc⟩ := hr.2.2 (by omega)
    have hlen : (ys.map (Value.int .u8)).length = ys.length := List.length_map _
    have hmin : Nat.min ys.length l.length = ys.length := Nat.min_eq_left hle
    have hrun := run_copy_cells (P := P) W t t o.type e g 0 l.length cap ad ys.length c (ys.map (Value.int .u8)) ht hs (by rw [hlen, hmin]) (fun j v hv => by
        rw [List.getElem?_map] at hv
        obtain ⟨y, hy, rfl⟩ := Option.map_eq_some_iff.1 hv
        obtain ⟨hj, hy⟩ := List.getElem?_eq_some_iff.1 hy
        have := hc j hj
        simp only [List.getD_eq_getElem?_getD, List.getElem?_eq_getElem hj, hy] at this
        exact this) (fun j hj => by rw [hlen] at hj; rw [Nat.zero_add]; exact hm.there j (by have := hm.le; omega)) (fun j hj => by rw [hlen] at hj; rw [Nat.zero_add]; exact hm.free j (by have := hm.le; omega)) (fun v hv => by
        obtain ⟨y, _, rfl⟩ := List.mem_map.1 hv; rfl)
    have hsm := setCells_same g (ys.map (Value.int .u8)) 0 W
    have hin := World.cell?_setCells_in g (ys.map (Value.int .u8)) 0 W (fun j hj => by rw [hlen] at hj; rw [Nat.zero_add]; exact hm.there j (by have := hm.le; omega))
    have hout : ∀ k, ys.length ≤ k → (W.setCells g 0 (ys.map (Value.int .u8))).cell? ⟨g, k, none⟩ = W.cell? ⟨g, k, none⟩ := fun k hk => World.cell?_setCells_out g _ _ W _ (fun _ _ => .inr (by rw [hlen]; show 0 + ys.length ≤ k; omega))
    refine wpList_plain hgd fun K hK => ?_
    unfold Oper.wp execOp
    simp only [ho, resolve, invoke, builtin, Sem.run_bind, Sem.run_pure, Result.andThen_ok, List.map_toArray, List.map_cons, List.map_nil, hd, hx, hrun]
    refine hK _ _ ?_
    rw [hlen]
    refine h _ ⟨by rw [hsm.2.2.2]; exact hm.lt, ?_, hm.capLe, fun k hk => ?_, fun k hk => ?_, fun k hk => by rw [World.frozen?_setCells]; exact hm.free k hk⟩ ⟨hsm.1, hsm.2.1, hsm.2.2.1, by rw [hsm.2.2.2]; exact Nat.le_refl _, fun k _ hne => setCells_far _ _ k (fun e => hne (by rw [e]))⟩
    · have := hm.le
      simp only [List.length_append, List.length_drop]; omega
    · simp only [List.length_append, List.length_drop] at hk
      by_cases hkl : k < ys.length
      · have h1 := hin k (by rw [hlen]; exact hkl)
        rw [Nat.zero_add] at h1
        rw [h1]
        simp [List.getD_eq_getElem?_getD, List.getElem?_append_left hkl, List.getElem?_eq_getElem hkl]
      · rw [hout k (by omega), hm.cell k (by omega)]
        simp only [List.getD_eq_getElem?_getD, List.getElem?_append_right (show ys.length ≤ k by omega), List.getElem?_drop]
        rw [show ys.length + (k - ys.length) = k by omega]
    · by_cases hkl : k < ys.length
      · have h1 := hin k (by rw [hlen]; exact hkl)
        rw [Nat.zero_add] at h1
        rw [h1]
        exact ⟨ys[k]'hkl, by simp⟩
      · rw [hout k (by omega)]; exact hm.ints k hk
end
theorem info_u8L : (Tryd.prog.info? 5).map (fun i => (i.zero, i.size, i.bytes)) = some (some (.int .u8 0), 1, 1) := by kernel_rfl
theorem infoL : (Tryd.prog.info? 5).map (·.size) = some 1 := by kernel_rfl
set_option maxHeartbeats 2000000 in
set_option maxRecDepth 100000 in
theorem lent_calls (A0 : Option Addr) (c0 : Nat) (l0 : List Int) (w : World) (hr0 : Kd.C (Kd.int .u8) w A0 l0.length l0) (hc0 : l0.length ≤ c0) (hs : l0.length ≤ 140737488355000) :
    Calls Tryd.prog 14 #[.slice A0 l0.length c0] w fun e w' => ∃ g, e = .returned (.slice (some ⟨g, 0, none⟩) l0.length (l0.length + 3)) ∧ w.heap.size ≤ g ∧ MRow w' g (l0.length + 3) (l0 ++ marks l0.length) ∧ Below w.heap.size w w' := by
  obtain ⟨i0, hi0, hz0, hs0, hb0⟩ := info_parts info_u8L
  have HI := Aside0.mk hi0
  have HZ := Aside0.mk hz0
  have HS := Aside0.mk hs0
  have HBy := Aside0.mk hb0
  have HC := Aside0.mk hr0
  clear hi0 hz0 hs0 hb0 hr0
  have h3 : (l0.length : Int) + 3 ≤ 9223372036854775807 := by omega
  obtain ⟨n, hn⟩ : ∃ n, l0.length = n := ⟨_, rfl⟩
  have HN := Aside0.mk hn
  rw [hn] at hs hc0 h3 ⊢
  clear hn
  go_enter Tryd.func14, Tryd.ntmps14
  go_wp2_with (first
    | ((with_reducible refine gate_dst (N := 8) rfl ?_); refine M_make rfl (N := 8) rfl 25 _ rfl 5 Tryd.underlying25 HI.out HZ.out HS.out HBy.out (n + 3) (by first | rfl | (simp; done)) (by omega) ?_; intro g w1 hge hm hb; have GE := Aside0.mk hge; have HM := Aside0.mk hm; have HB := Aside0.mk hb; clear hge hm hb)
    | ((with_reducible refine gate_dst (N := 11) rfl ?_); refine M_copy rfl (N := 11) rfl _ _ 25 rfl 5 Tryd.underlying25 infoL HM.out (by simp) rfl (Kd.C_below HC.out HB.out) (by rw [HN.out]; rfl) (by rw [HN.out]; simp) ?_; intro w2 hm hgr; have n0_ := Aside0.mk hm; have n1_ := Aside0.mk (HB.out.grown hgr HB.out.size (fun k hk => by cases hk; exact GE.out)); clear HM HB hm hgr; have HM := n0_; have HB := n1_; clear n0_ n1_))
  have HM0 := Aside0.mk (show MRow w2 g (n + 3) (l0 ++ room n 0) from by
    have h := HM.out
    rw [List.drop_replicate, HN.out, show n + 3 - n = 3 by omega] at h
    exact h)
  clear HM
  have HE := Aside0.mk hc0
  clear hc0
  go_loopw [4] (fun v4 wr => ∃ k : Nat, k ≤ 3 ∧ v4 = .int .i64 ((n + k : Nat) : Int) ∧ Aside0 (MRow wr g (n + 3) (l0 ++ room n k)) ∧ Aside0 (Below w.heap.size w wr)) (fun v4 _ => n + 3 - (intOf v4).toNat)
  case atStart => exact ⟨0, by omega, rfl, HM0, HB⟩
  case round =>
    obtain ⟨k, hk, rfl, HM, HB⟩ := hrel
    by_cases hlt : k < 3
    · have hf := HM.out.free (n + k) (by omega)
      have ht := HM.out.there (n + k) (by omega)
      have Hst := Aside0.mk (HM.out.set (n + k) (by rw [List.length_append, room_length _ _ (by omega), HN.out]; omega) (mark (n + k)))
      rw [room_set l0 n k HN.out hlt] at Hst
      obtain ⟨v, hv⟩ := Option.isSome_iff_exists.1 ht
      clear ht
      obtain ⟨i, hi⟩ : ∃ i, n + k = i := ⟨_, rfl⟩
      have hi3 : i < n + 3 := by omega
      have Hi := Aside0.mk hi
      rw [hi] at Hst hv hf ⊢
      clear hi
      have hi0 : (0 : Int) ≤ (i : Int) := by omega
      have hi4 : (i : Int) + 1 ≤ 9223372036854775807 := by omega
      have hlt2 : (i : Int) < (n : Int) + 3 := by omega
      have Hs := Aside0.mk hs
      clear hs h3 hk
      go_wp2
      go_roundw
      case measure => simp [intOf]; omega
      case rel => exact ⟨k + 1, by have := Hi.out; omega, by rw [show n + (k + 1) = i + 1 by have := Hi.out; omega]; go_num, Hst, ⟨below_set HB.out GE.out⟩⟩
    · obtain rfl : k = 3 := by omega
      go_wp2
      go_ret
      exact ⟨g, rfl, GE.out, HM.out, HB.out⟩
set_option maxHeartbeats 1000000 in
theorem sameBytes_calls (A0 A1 : Option Addr) (n0 n1 c0 c1 : Nat) (l0 l1 : List Int) (w : World) (hr0 : Kd.C (Kd.int .u8) w A0 n0 l0) (hr1 : Kd.C (Kd.int .u8) w A1 n1 l1) :
    Calls Tryd.prog 19 #[.slice A0 n0 c0, .slice A1 n1 c1] w fun e w' => e = .returned (.bool ((strOfNums l0).toList == (strOfNums l1).toList)) ∧ w = w' := by
  have hcv0 := Kd.C_string (P := Tryd.prog) (c := c0) Tryd.underlying25 Tryd.underlying5 Tryd.underlying9 hr0
  have hcv1 := Kd.C_string (P := Tryd.prog) (c := c1) Tryd.underlying25 Tryd.underlying5 Tryd.underlying9 hr1
  clear hr0 hr1
  go_enter Tryd.func19, Tryd.ntmps19
  go_wp2
  go_ret
  exact ⟨rfl, rfl⟩
set_option maxHeartbeats 600000 in
set_option maxRecDepth 100000 in
theorem kept_calls (g n : Nat) (A1 : Option Addr) (c1 : Nat) (l1 : List Int) (w : World) (hn : l1.length = n) (hm : MRow w g (n + 3) (l1 ++ marks n)) (hr1 : Kd.C (Kd.int .u8) w A1 n l1) (hc1 : n ≤ c1) (hs : n ≤ 140737488355000) :
    Calls Tryd.prog 22 #[.slice (some ⟨g, 0, none⟩) n (n + 3), .slice A1 n c1] w fun e w' => e = .returned (.bool true) ∧ Below w.heap.size w w' := by
  have HC := Aside0.mk hr1
  have HM := Aside0.mk hm
  have HL := Aside0.mk hc1
  have Hs := Aside0.mk hs
  have HN := Aside0.mk hn
  have hw : IntKind.i64.wrap ((n : Int) + 3) = (n : Int) + 3 := IntWalk.i64_in _ (by omega)
  have hp : (0 : Int) ≤ (n : Int) + 3 := by omega
  have ht : ((n : Int) + 3).toNat = n + 3 := by omega
  clear hr1 hm hc1 hs hn
  have HF : Aside0 (∀ W : World, Below w.heap.size w W → Kd.C (Kd.int .u8) W (some ⟨g, 0, none⟩) (n + 3) (l1 ++ marks n)) := ⟨fun W hb => by
    have h := (HM.out.below hb).C
    rwa [show (l1 ++ marks n).length = n + 3 from by rw [List.length_append, HN.out]; rfl] at h⟩
  have HLC : Aside0 (∀ W : World, Below w.heap.size w W → Calls Tryd.prog 14 #[.slice A1 n c1] W fun e w1 => ∃ g2, e = .returned (.slice (some ⟨g2, 0, none⟩) n (n + 3)) ∧ Aside0 (Kd.C (Kd.int .u8) w1 (some ⟨g2, 0, none⟩) (n + 3) (l1 ++ marks n)) ∧ Aside0 (Below w.heap.size w w1)) := ⟨fun W hB => by
    have h := lent_calls A1 c1 l1 W (by rw [HN.out]; exact Kd.C_below HC.out hB) (by rw [HN.out]; exact HL.out) (by rw [HN.out]; exact Hs.out)
    rw [HN.out] at h
    refine h.mono ?_
    rintro e w1 ⟨g2, rfl, hge, hm2, hb⟩
    refine ⟨g2, rfl, ⟨?_⟩, ⟨below_step hB hb⟩⟩
    have h := hm2.C
    rwa [show (l1 ++ marks n).length = n + 3 from by rw [List.length_append, HN.out]; rfl] at h⟩
  go_enter Tryd.func22, Tryd.ntmps22
  go_wp2
  go_region_held3 (fun W => Aside0 (Below w.heap.size w W)) (first | assumption | exact ⟨Below.refl _ _⟩ | (refine ⟨?_⟩; (repeat (first | apply pw_below_drewN | apply below_drew)); first | exact Below.refl _ _ | exact HB.out)) (first
    | (go_at_call 14; (with_reducible refine (HLC.out _ (by first | exact Below.refl _ _ | (repeat (first | apply pw_below_drewN | apply below_drew)); exact Below.refl _ _)).mono ?_); rintro e w1 ⟨g2, rfl, HM2, HB⟩)
    | (go_at_call 19; (with_reducible refine (sameBytes_calls _ _ _ _ _ _ (l1 ++ marks n) (l1 ++ marks n) _ (HF.out _ HB.out) HM2.out).mono ?_); rintro e w2 ⟨rfl, rfl⟩))
  go_wp2
  go_ret
  exact ⟨rfl, HB.out⟩
end Go.Proofs.YtnhpcpmgedjffaaDoorX
end
section
namespace Go.Proofs.YtnhpcpmgedjffaaDoor.P
open Go.RowKit Go.Proofs.YtnhpcpmgedjffaaDoorW.PrintWords Go.Proofs.YtnhpcpmgedjffaaDoorW.PrintLast Go.Proofs.YtnhpcpmgedjffaaDoorW.PrintMore Go.Proofs.YtnhpcpmgedjffaaDoorX
set_option linter.unusedVariables false
set_option linter.unusedSimpArgs false

theorem awake13_calls (w : World) (hG : GG 5 w) : Calls Tryd.prog 40 #[] w fun e w' => e = .returned (.bool true) ∧ Below w.heap.size w w' := ostiarylaw13_awake.calls true w hG rfl
def HeadIs (w : World) (base : Nat) (A : Option Addr) (c : Nat) (R : RES) : Prop := Kd.R k67 67 w base (fun _ => True) (.slice A R.2.2.2.1.length c) R.2.2.2.1
theorem HeadIs.C {w : World} {base : Nat} {A : Option Addr} {c : Nat} {R : RES} (h : HeadIs w base A c R) : R.2.2.2.1.length ≤ c ∧ Kd.C k67 w A R.2.2.2.1.length R.2.2.2.1 := by
  have := Kd.R_reads' h
  exact ⟨this.2.1, this.2.2⟩
theorem hparse_calls (L : List UInt8) (hL : L.length ≤ 4294967000) (A0 : Option Addr) (c0 : Nat) (w : World) (hr0 : Kd.C (Kd.int .u8) w A0 L.length (nums8 L)) (hc0 : L.length ≤ c0) (hG : GG 5 w) (m t : ByteArray) (mi : Int) (fs : List SF) (st : Int) (hR : parseP L = (m, t, mi, fs, st)) :
    Calls Tryd.prog 41 #[.slice A0 L.length c0] w fun e w' => ∃ A c, e = .returned (.tuple #[.agg #[.string m, .string t, .int .i64 mi, .slice A fs.length c], .int .i64 st]) ∧ Aside0 (Kd.R k67 67 w' w.heap.size (fun _ => True) (.slice A fs.length c) fs) ∧ Below w.heap.size w w' := by
  obtain ⟨k, hk⟩ := (hparse_ev L hL).rounds
  rw [hR] at hk
  have hl := nums8_length L
  have h := head_Parse.calls k A0 c0 (nums8 L) m t mi fs st w (by rw [hl]; exact hr0) (by rw [hl]; exact hc0) hG hk
  rw [hl] at h
  refine h.mono ?_
  rintro e w' ⟨v, rfl, hr, hb⟩
  obtain ⟨A, c, rfl⟩ := Kd.R_slice hr
  exact ⟨A, c, rfl, ⟨hr⟩, hb⟩
theorem rparse_calls (L : List UInt8) (hL : L.length ≤ 4294967000) (A0 : Option Addr) (c0 : Nat) (w : World) (hr0 : Kd.C (Kd.int .u8) w A0 L.length (nums8 L)) (hc0 : L.length ≤ c0) (m t : ByteArray) (mi : Int) (fs : List SF) (st : Int) (hR : parseP L = (m, t, mi, fs, st)) :
    Calls Tryd.prog 42 #[.slice A0 L.length c0] w fun e w' => ∃ A c, e = .returned (.tuple #[.agg #[.string m, .string t, .int .i64 mi, .slice A fs.length c], .int .i64 st]) ∧ Aside0 (Kd.R k67 67 w' w.heap.size (fun _ => True) (.slice A fs.length c) fs) ∧ Below w.heap.size w w' := by
  obtain ⟨k, hk⟩ := (rparse_ev L hL).rounds
  rw [hR] at hk
  have hl := nums8_length L
  have h := ostiaryref13_Parse.calls k A0 c0 (nums8 L) m t mi fs st w (by rw [hl]; exact hr0) (by rw [hl]; exact hc0) hk
  rw [hl] at h
  refine h.mono ?_
  rintro e w' ⟨v, rfl, hr, hb⟩
  obtain ⟨A, c, rfl⟩ := Kd.R_slice hr
  exact ⟨A, c, rfl, ⟨hr⟩, hb⟩
theorem sameFields_ev (fs : List SF) (hf : fs.length ≤ 9223372036854775000) : ∀ (m i : Nat), i + m = fs.length → Ev (fun k => ostiarykit_SameFields.l0 k fs fs (i : Int)) true
  | 0, i, h => Ev.step (fun k => by rw [ostiarykit_SameFields.l0]) (Ev.ite_neg (by omega) (Ev.now _))
  | m + 1, i, h => by
    refine Ev.step (fun k => by rw [ostiarykit_SameFields.l0]) (Ev.ite_pos (by omega) (Ev.ite_pos (by omega) (Ev.ite_pos (by omega) (Ev.ite_neg (by simp) ?_))))
    rw [wrap64_id (by omega) (by omega)]
    exact sameFields_ev fs hf m (i + 1) (by omega)
theorem sameHead_ev (m t : ByteArray) (mi : Int) (fs : List SF) (hf : fs.length ≤ 9223372036854775000) : Ev (fun k => ostiarykit_SameHead.f k m t mi fs m t mi fs) true := by
  unfold ostiarykit_SameHead.f ostiarykit_SameFields.f
  exact Ev.ite_pos rfl (Ev.ite_pos rfl (Ev.ite_pos rfl (Ev.bind (Ev.ite_pos rfl (sameFields_ev fs hf fs.length 0 (by omega))) (Ev.now _))))
theorem sameHead_calls (m t : ByteArray) (mi : Int) (fs : List SF) (hf : fs.length ≤ 9223372036854775000) (A0 A1 : Option Addr) (c0 c1 : Nat) (w : World) (hr0 : Kd.C k67 w A0 fs.length fs) (hc0 : fs.length ≤ c0) (hr1 : Kd.C k67 w A1 fs.length fs) (hc1 : fs.length ≤ c1) :
    Calls Tryd.prog 21 #[.agg #[.string m, .string t, .int .i64 mi, .slice A0 fs.length c0], .agg #[.string m, .string t, .int .i64 mi, .slice A1 fs.length c1]] w fun e w' => e = .returned (.bool true) ∧ Below w.heap.size w w' := by
  obtain ⟨k, hk⟩ := (sameHead_ev m t mi fs hf).rounds
  exact ostiarykit_SameHead.calls k m t mi A0 c0 fs m t mi A1 c1 fs true w hr0 hc0 hr1 hc1 hk
theorem fieldsP_length (mi : Int) (m t : List UInt8) : ∀ (xs : List (List UInt8)) (acc : List SF), acc.length ≤ 32 → (fieldsP mi m t xs acc).2.2.2.1.length ≤ 32
  | [], acc, h => by
    unfold fieldsP
    split
    · exact h
    · simp [bad]
  | x :: xs, acc, h => by
    unfold fieldsP
    split
    · simp [bad]
    · split
      · simp [bad]
      · exact fieldsP_length mi m t xs _ (by simp; omega)
theorem parseP_length (L : List UInt8) : (parseP L).2.2.2.1.length ≤ 32 := by
  unfold parseP
  split
  · simp [bad]
  · split
    · unfold headP
      split
      · split
        · split
          · simp [bad]
          · simp [bad]
          · split
            · simp [bad]
            · split
              · exact fieldsP_length _ _ _ _ _ (by simp)
              · simp [bad]
        · simp [bad]
      · simp [bad]
    · simp [bad]

theorem lent_C {W : World} {g n : Nat} {L : List UInt8} (hn : L.length = n) (h : MRow W g (n + 3) (nums8 L ++ marks n)) : Kd.C (Kd.int .u8) W (some ⟨g, 0, none⟩) n (nums8 L) := by
  have h2 := (h.take n).C
  have e : (nums8 L ++ marks n).take n = nums8 L := by rw [List.take_left' (by rw [nums8_length, hn])]
  rw [e, nums8_length, hn] at h2
  exact h2
theorem hparse_n (L : List UInt8) (n : Nat) (hn : L.length = n) (hL : n ≤ 6000) (A0 : Option Addr) (c0 : Nat) (w : World) (hr0 : Kd.C (Kd.int .u8) w A0 n (nums8 L)) (hc0 : n ≤ c0) (hG : GG 5 w) (m t : ByteArray) (mi : Int) (fs : List SF) (st : Int) (hR : parseP L = (m, t, mi, fs, st)) :
    Calls Tryd.prog 41 #[.slice A0 n c0] w fun e w' => ∃ A c, e = .returned (.tuple #[.agg #[.string m, .string t, .int .i64 mi, .slice A fs.length c], .int .i64 st]) ∧ Aside0 (Kd.R k67 67 w' w.heap.size (fun _ => True) (.slice A fs.length c) fs) ∧ Below w.heap.size w w' := by
  subst hn
  exact hparse_calls L (by omega) A0 c0 w hr0 hc0 hG m t mi fs st hR
theorem rparse_n (L : List UInt8) (n : Nat) (hn : L.length = n) (hL : n ≤ 6000) (A0 : Option Addr) (c0 : Nat) (w : World) (hr0 : Kd.C (Kd.int .u8) w A0 n (nums8 L)) (hc0 : n ≤ c0) (m t : ByteArray) (mi : Int) (fs : List SF) (st : Int) (hR : parseP L = (m, t, mi, fs, st)) :
    Calls Tryd.prog 42 #[.slice A0 n c0] w fun e w' => ∃ A c, e = .returned (.tuple #[.agg #[.string m, .string t, .int .i64 mi, .slice A fs.length c], .int .i64 st]) ∧ Aside0 (Kd.R k67 67 w' w.heap.size (fun _ => True) (.slice A fs.length c) fs) ∧ Below w.heap.size w w' := by
  subst hn
  exact rparse_calls L (by omega) A0 c0 w hr0 hc0 m t mi fs st hR

structure PSt (w W : World) (B1 g n gb gy : Nat) (l : List Int) (m t : ByteArray) (mi : Int) (fs : List SF) (Ax Ay : Option Addr) (cx cy : Nat) : Prop where
  hm : MRow W g (n + 3) l
  hb : Below w.heap.size w W
  bx : W.heap[gb]? = some (.cells #[.string m, .string t, .int .i64 mi, .slice Ax fs.length cx] 24 (0, 0))
  by_ : W.heap[gy]? = some (.cells #[.string m, .string t, .int .i64 mi, .slice Ay fs.length cy] 24 (0, 0))
  hy : Kd.R k67 67 W (gb + 1) (fun _ => True) (.slice Ay fs.length cy) fs
  lw : w.heap.size ≤ B1
  lg : g < B1
  ly : gb < gy
  xb : ∀ k, (Value.slice Ax fs.length cx).ownBlock = some k → B1 ≤ k ∧ k < gb
theorem PSt.step {w W W' : World} {B1 g n gb gy : Nat} {l : List Int} {m t : ByteArray} {mi : Int} {fs : List SF} {Ax Ay : Option Addr} {cx cy : Nat} (h : PSt w W B1 g n gb gy l m t mi fs Ax Ay cx cy) (hb : Below W.heap.size W W') : PSt w W' B1 g n gb gy l m t mi fs Ax Ay cx cy :=
  ⟨h.hm.below hb, below_step h.hb hb, blk_below h.bx hb, blk_below h.by_ hb, Kd.R_below h.hy hb, h.lw, h.lg, h.ly, h.xb⟩
theorem PSt.grown {w W W' : World} {B1 g n gb gy : Nat} {l : List Int} {m t : ByteArray} {mi : Int} {fs : List SF} {Ax Ay : Option Addr} {cx cy : Nat} (h : PSt w W B1 g n gb gy l m t mi fs Ax Ay cx cy) (hg : W.grownBy W' (Value.slice Ax fs.length cx).ownBlock) : PSt w W' B1 g n gb gy l m t mi fs Ax Ay cx cy := by
  have h1 := h.lw; have h2 := h.lg; have h3 := h.ly
  refine ⟨h.hm.grown hg (fun e => ?_), h.hb.grown hg h.hb.size (fun k e => ?_), blk_grown h.bx hg (fun e => ?_), blk_grown h.by_ hg (fun e => ?_), ?_, h.lw, h.lg, h.ly, h.xb⟩
  · have := h.xb g e.symm; omega
  · have := h.xb k e; omega
  · have := h.xb gb e.symm; omega
  · have := h.xb gy e.symm; omega
  · refine Kd.R_mono (Kd.R_grown (Kd.R_bound h.hy) hg (fun k hk e => ?_)) (fun _ _ => trivial)
    have := h.xb k e.symm
    have := hk.2.1
    omega
theorem PSt.below {w W : World} {B1 g n gb gy : Nat} {l : List Int} {m t : ByteArray} {mi : Int} {fs : List SF} {Ax Ay : Option Addr} {cx cy : Nat} (h : PSt w W B1 g n gb gy l m t mi fs Ax Ay cx cy) : Below w.heap.size w W := h.hb
theorem PSt.readsY {w W : World} {B1 g n gb gy : Nat} {l : List Int} {m t : ByteArray} {mi : Int} {fs : List SF} {Ax Ay : Option Addr} {cx cy : Nat} (h : PSt w W B1 g n gb gy l m t mi fs Ax Ay cx cy) : fs.length ≤ cy ∧ Kd.C k67 W Ay fs.length fs := by
  have := Kd.R_reads' h.hy
  exact ⟨this.2.1, this.2.2⟩

set_option maxHeartbeats 2000000 in
set_option maxRecDepth 100000 in
theorem headParses_walk (A0 : Option Addr) (c0 : Nat) (L : List UInt8) (w : World) (hr0 : Kd.C (Kd.int .u8) w A0 L.length (nums8 L)) (hc0 : L.length ≤ c0) (hm : L.length ≤ 140737488351232) (hG : GG 5 w) :
    Calls Tryd.prog 9 #[.slice A0 L.length c0] w fun e w' => e = .returned (.bool true) ∧ Below w.heap.size w w' := by
  have HC := Aside0.mk hr0
  have HL := Aside0.mk hc0
  have HGG := Aside0.mk hG
  clear hr0 hc0 hG
  have hu24 := Tryd.underlying24
  obtain ⟨n, hn⟩ : ∃ n, L.length = n := ⟨_, rfl⟩
  have HN := Aside0.mk hn
  rw [hn] at hm ⊢
  clear hn
  by_cases h6 : 6000 < n
  · have h6' : (6000 : Int) < (n : Int) := by omega
    go_enter Tryd.func9, Tryd.ntmps9
    go_wp2_with (go_at_call 40; refine (awake13_calls _ HGG.out).mono ?_; rintro e w1 ⟨rfl, hb⟩)
    go_ret
    exact ⟨rfl, hb⟩
  · have h6' : ¬ (6000 : Int) < (n : Int) := by omega
    obtain ⟨⟨m, t, mi, fs, st⟩, hR⟩ : ∃ R, parseP L = R := ⟨_, rfl⟩
    have HR := Aside0.mk hR
    have hfl := parseP_length L
    rw [hR] at hfl
    have hfl' : fs.length ≤ 32 := hfl
    clear hR hfl
    have HFL := Aside0.mk hfl'
    clear hfl'
    have HLc : Aside0 (∀ W, Below w.heap.size w W → Calls Tryd.prog 14 #[.slice A0 n c0] W fun e w1 => ∃ g, e = .returned (.slice (some ⟨g, 0, none⟩) n (n + 3)) ∧ Aside0 (MRow w1 g (n + 3) (nums8 L ++ marks n)) ∧ Aside0 (Below w.heap.size w w1)) := ⟨fun W hB => by
      have hl := nums8_length L
      rw [HN.out] at hl
      have h := lent_calls A0 c0 (nums8 L) W (by rw [hl]; have := Kd.C_below HC.out hB; rwa [HN.out] at this) (by rw [hl]; have := HL.out; rwa [HN.out] at this) (by rw [hl]; omega)
      rw [hl] at h
      refine h.mono ?_
      rintro e w1 ⟨g, rfl, hge, hmr, hb⟩
      exact ⟨g, rfl, ⟨hmr⟩, ⟨below_step hB hb⟩⟩⟩
    go_enter Tryd.func9, Tryd.ntmps9
    have HC' := Aside0.mk (show Kd.C (Kd.int .u8) w A0 n (nums8 L) from by have := HC.out; rwa [HN.out] at this)
    have HL' := Aside0.mk (show n ≤ c0 from by have := HL.out; rwa [HN.out] at this)
    have H6 := Aside0.mk (show n ≤ 6000 by omega)
    clear HC HL
    go_upto_region 6 with (first
      | (go_at_call 14; (with_reducible refine (HLc.out _ (Below.refl _ _)).mono ?_); rintro e w1 ⟨g, rfl, HM1, HB1⟩)
      | (go_at_call 41; (with_reducible refine (hparse_n L n HN.out H6.out _ _ _ (lent_C HN.out HM1.out) (by omega) (GG_step HGG.out rfl HB1.out) m t mi fs st HR.out).mono ?_); rintro e w2 ⟨Ax, cx, rfl, HX, hb⟩; have HM := Aside0.mk (HM1.out.below hb); have HB := Aside0.mk (below_step HB1.out hb); have HXb := Aside0.mk (below_size HB1.out); have HXg := Aside0.mk HM1.out.lt; clear HM1 HB1 hb)
      | (go_at_call 42; (with_reducible refine (rparse_n L n HN.out H6.out _ _ _ (Kd.C_below HC'.out (below_alloc HB.out _)) HL'.out m t mi fs st HR.out).mono ?_); rintro e w3 ⟨Ay, cy, rfl, HY, hb⟩; have HM3 := Aside0.mk ((HM.out.alloc _).below hb); have HB3 := Aside0.mk (below_step (below_alloc HB.out _) hb); have BX := Aside0.mk (blk_below (blk_new w2 _) hb); have HX3 := Aside0.mk (Kd.R_below (Kd.R_alloc HX.out _) hb); have HYb := Aside0.mk (show w2.heap.size < (w2.alloc (.cells #[.string m, .string t, .int .i64 mi, .slice Ax fs.length cx] 24)).heap.size by simp); clear HM HB hb))
    (try simp only [Act.put, List.setIfInBounds_toArray, List.set_cons_zero, List.set_cons_succ])
    obtain ⟨gb, hgb⟩ : ∃ gb, gb = w2.heap.size := ⟨_, rfl⟩
    obtain ⟨gy, hgy⟩ : ∃ gy, gy = w3.heap.size := ⟨_, rfl⟩
    have hlt : gb < gy := by have := blk_lt BX.out; omega
    have HLT := Aside0.mk hlt
    have HXn := Aside0.mk (show ∀ k, (Value.slice Ax fs.length cx).ownBlock = some k → w1.heap.size ≤ k ∧ k < gb from fun k hk => ⟨Kd.R_base HX.out k hk, by rw [hgb]; exact own_lt (Kd.R_own HX.out).choose_spec k hk⟩)
    obtain ⟨w4, hw4⟩ : ∃ w4, w4 = w3.alloc (.cells #[.string m, .string t, .int .i64 mi, .slice Ay fs.length cy] 24) := ⟨_, rfl⟩
    have BY := Aside0.mk (show w4.heap[gy]? = some (.cells #[.string m, .string t, .int .i64 mi, .slice Ay fs.length cy] 24 (0, 0)) by rw [hw4, hgy]; exact blk_new w3 _)
    have BX4 := Aside0.mk (show w4.heap[gb]? = some (.cells #[.string m, .string t, .int .i64 mi, .slice Ax fs.length cx] 24 (0, 0)) by rw [hw4, hgb]; exact blk_alloc BX.out _)
    have HM := Aside0.mk (show MRow w4 g (n + 3) (nums8 L ++ marks n) by rw [hw4]; exact HM3.out.alloc _)
    have HB := Aside0.mk (show Below w.heap.size w w4 by rw [hw4]; exact below_alloc HB3.out _)
    have HX4 := Aside0.mk (show Kd.R k67 67 w4 w1.heap.size (fun _ => True) (.slice Ax fs.length cx) fs by rw [hw4]; exact Kd.R_alloc HX3.out _)
    have HY4 := Aside0.mk (show Kd.R k67 67 w4 (gb + 1) (fun _ => True) (.slice Ay fs.length cy) fs by rw [hw4, hgb]; refine Kd.R_lower (Kd.R_alloc HY.out _) ?_; simp)
    rw [← hgb, ← hgy, ← hw4]
    have HP := Aside0.mk (show PSt w w4 w1.heap.size g n gb gy (nums8 L ++ marks n) m t mi fs Ax Ay cx cy from ⟨HM.out, HB.out, BX4.out, BY.out, HY4.out, HXb.out, HXg.out, HLT.out, HXn.out⟩)
    obtain ⟨B1, hB1⟩ : ∃ B1, B1 = w1.heap.size := ⟨_, rfl⟩
    rw [← hB1] at HP HX4
    clear hw4 hgb hgy HX HY HYb HX3 HM3 HB3 BX hlt HM HB BX4 BY HY4 hB1 HXb HXg HLT HXn
    have hx0 := blk_cell HP.out.bx 0
    have hx1 := blk_cell HP.out.bx 1
    have hx2 := blk_cell HP.out.bx 2
    have hx3 := blk_cell HP.out.bx 3
    have hy0 := blk_cell HP.out.by_ 0
    have hy1 := blk_cell HP.out.by_ 1
    have hy2 := blk_cell HP.out.by_ 2
    have hy3 := blk_cell HP.out.by_ 3
    simp at hx0 hx1 hx2 hx3 hy0 hy1 hy2 hy3
    have HFL' := Aside0.mk (show fs.length ≤ 9223372036854775000 by have := HFL.out; omega)
    have HN8 := Aside0.mk (show (nums8 L).length = n by rw [nums8_length]; exact HN.out)
    have H6' := Aside0.mk (show n ≤ 140737488355000 by have := H6.out; omega)
    go_wp2_with (first
      | (go_at_call 21; (with_reducible refine (sameHead_calls m t mi fs HFL'.out Ax Ay cx cy w4 (Kd.R_reads' HX4.out).2.2 (Kd.R_reads' HX4.out).2.1 HP.out.readsY.2 HP.out.readsY.1).mono ?_); rintro e w5 ⟨rfl, hb⟩; have HP5 := Aside0.mk (HP.out.step hb); have HX5 := Aside0.mk (Kd.R_below HX4.out hb); clear HP HX4 hb hx0 hx1 hx2 hx3 hy0 hy1 hy2 hy3)
      | (go_at_call 22; (with_reducible refine (kept_calls g n A0 c0 (nums8 L) w5 HN8.out HP5.out.hm (Kd.C_below HC'.out HP5.out.below) HL'.out H6'.out).mono ?_); rintro e w6 ⟨rfl, hb⟩; have HP6 := Aside0.mk (HP5.out.step hb); have HX6 := Aside0.mk (Kd.R_below HX5.out hb); clear HP5 HX5 hb))
    go_loopw [9] (fun v9 wr => ∃ (k : Nat) (xs : List SF), k ≤ fs.length ∧ v9 = .int .i64 k ∧ xs.length = fs.length ∧ Aside0 (PSt w wr B1 g n gb gy (nums8 L ++ marks n) m t mi fs Ax Ay cx cy) ∧ Aside0 (Kd.R k67 67 wr B1 (fun _ => True) (.slice Ax fs.length cx) xs)) (fun v9 _ => fs.length - (intOf v9).toNat)
    case atStart => exact ⟨0, fs, Nat.zero_le _, rfl, rfl, HP6, HX6⟩
    case round =>
      obtain ⟨k, xs, hk, rfl, hxs, HP, HX⟩ := hrel
      have HXS := Aside0.mk hxs
      clear hxs
      have hx3 := blk_cell HP.out.bx 3
      simp at hx3
      have hfl := HFL.out
      by_cases hlt : k < fs.length
      · obtain ⟨gx, rfl⟩ : ∃ gx, Ax = some ⟨gx, 0, none⟩ := by
          obtain ⟨inner, ho⟩ := Kd.R_own HX.out
          rcases ho.2 with ⟨he, h0⟩ | ⟨gx, cap, cur, he, _⟩
          · have := HXS.out; omega
          · injection he with he; exact ⟨gx, he⟩
        obtain ⟨ad, c, had, hcl, hK, hcc⟩ := Kd.C_get (Kd.R_reads' HX.out).2.2 z67 (k : Int) (by omega) (by have := HXS.out; omega)
        cases had
        have HCC : Aside0 (∀ j u, c[j]? = some u → wr.cell? ⟨gx, (k : Int).toNat * (k67).sz + j, none⟩ = some u) := ⟨fun j u hu => by have := hcc j u hu; rwa [add_plain] at this⟩
        have HCL := Aside0.mk hcl
        clear hcc hK hcl
        go_wp2_with (first | ((with_reducible refine gate_store (t := 67) (p := 52) rfl ?_); refine Kd.R_store k67 (w0 := wr) B1 rfl rfl 67 _ _ rfl 67 (k : Int) 0 xs z67 (.agg #[.string ⟨#[]⟩, .string ⟨#[]⟩]) [.string ⟨#[]⟩, .string ⟨#[]⟩] c (fun _ => True) (fun _ => False) rfl ?hoff rfl rfl ?ht ?h1 HX.out (by omega) (by omega) HCL.out HCC.out ?hj ?hM (fun _ h => h.elim) (Below.refl _ _) ?_; (case hoff => (show k * 2 = (k : Int).toNat * 2 + 0); simp); (case ht => kernel_rfl); (case h1 => simp [Value.oneCell']); (case hj => exact Nat.le_refl 2); (case hM => (show (k67).M wr B1 (fun _ => False) z67 ([.string ⟨#[]⟩, .string ⟨#[]⟩] ++ c.drop 2)); rw [show c.drop 2 = [] from List.drop_eq_nil_of_le (by rw [HCL.out]; exact Nat.le_refl 2)]; exact ⟨[.string ⟨#[]⟩], [.string ⟨#[]⟩], rfl, rfl, rfl⟩); intro w7 hr hbb hgr; have HX7 := Aside0.mk hr; have HP7 := Aside0.mk (HP.out.grown hgr); clear hr hbb hgr HX HP hx3))
        go_roundw
        case measure => simp [intOf]; omega
        case rel => exact ⟨k + 1, xs.set (k : Int).toNat z67, by omega, by go_num, by rw [List.length_set]; exact HXS.out, HP7, HX7⟩
      · have hkn : k = fs.length := by omega
        subst hkn
        have hy0 := blk_cell HP.out.by_ 0
        have hy1 := blk_cell HP.out.by_ 1
        have hy2 := blk_cell HP.out.by_ 2
        have hy3 := blk_cell HP.out.by_ 3
        simp at hy0 hy1 hy2 hy3
        go_upto_region 12 with (first
          | (go_at_call 41; (with_reducible refine (hparse_n L n HN.out H6.out _ _ _ (lent_C HN.out HP.out.hm) (by omega) (GG_step HGG.out rfl HP.out.below) m t mi fs st HR.out).mono ?_); rintro e w7 ⟨Az, cz, rfl, HZ, hb⟩; have HP7 := Aside0.mk (HP.out.step hb); clear HP HX hb hx3 hy0 hy1 hy2 hy3))
        (try simp only [Act.put, List.setIfInBounds_toArray, List.set_cons_zero, List.set_cons_succ])
        obtain ⟨gz, hgz⟩ : ∃ gz, gz = w7.heap.size := ⟨_, rfl⟩
        obtain ⟨w8, hw8⟩ : ∃ w8, w8 = w7.alloc (.cells #[.string m, .string t, .int .i64 mi, .slice Az fs.length cz] 24) := ⟨_, rfl⟩
        have BZ := Aside0.mk (show w8.heap[gz]? = some (.cells #[.string m, .string t, .int .i64 mi, .slice Az fs.length cz] 24 (0, 0)) by rw [hw8, hgz]; exact blk_new w7 _)
        have HP8 := Aside0.mk (show PSt w w8 B1 g n gb gy (nums8 L ++ marks n) m t mi fs Ax Ay cx cy from by rw [hw8]; exact HP7.out.step (below_alloc (Below.refl _ _) _))
        have hzr := Kd.R_reads' HZ.out
        have HZ8 := Aside0.mk (show fs.length ≤ cz ∧ Kd.C k67 w8 Az fs.length fs from ⟨hzr.2.1, by rw [hw8]; exact Kd.C_below hzr.2.2 (below_alloc (Below.refl _ _) _)⟩)
        clear hzr
        rw [← hgz, ← hw8]
        clear hgz hw8 HZ HP7
        have hz0 := blk_cell BZ.out 0
        have hz1 := blk_cell BZ.out 1
        have hz2 := blk_cell BZ.out 2
        have hz3 := blk_cell BZ.out 3
        have hy0 := blk_cell HP8.out.by_ 0
        have hy1 := blk_cell HP8.out.by_ 1
        have hy2 := blk_cell HP8.out.by_ 2
        have hy3 := blk_cell HP8.out.by_ 3
        simp at hz0 hz1 hz2 hz3 hy0 hy1 hy2 hy3
        go_wp2_with (first
          | (go_at_call 21; (with_reducible refine (sameHead_calls m t mi fs HFL'.out Az Ay cz cy w8 HZ8.out.2 HZ8.out.1 HP8.out.readsY.2 HP8.out.readsY.1).mono ?_); rintro e w9 ⟨rfl, hb⟩; have HB9 := Aside0.mk (below_step HP8.out.below hb); clear HP8 hb hz0 hz1 hz2 hz3 hy0 hy1 hy2 hy3)
          | (go_at_call 40; (with_reducible refine (awake13_calls _ (GG_step HGG.out rfl HB9.out)).mono ?_); rintro e w10 ⟨rfl, hb⟩; have HB10 := Aside0.mk (below_step HB9.out hb); clear HB9 hb))
        go_ret
        exact ⟨rfl, HB10.out⟩
theorem nums8_of : ∀ (l : List Int), (∀ x ∈ l, (Lit.int .u8 x).wf = true) → ∃ L : List UInt8, l = nums8 L
  | [], _ => ⟨[], rfl⟩
  | x :: l, h => by
    obtain ⟨L, hL⟩ := nums8_of l (fun y hy => h y (by simp [hy]))
    have hx := h x (by simp)
    have hx2 : IntKind.u8.min ≤ x ∧ x ≤ IntKind.u8.max := by simpa [Lit.wf] using hx
    have hx' : 0 ≤ x ∧ x ≤ 255 := ⟨hx2.1, hx2.2⟩
    refine ⟨UInt8.ofNat x.toNat :: L, ?_⟩
    show x :: l = ((UInt8.ofNat x.toNat).toNat : Int) :: nums8 L
    rw [← hL, UInt8.toNat_ofNat_of_lt' (by simp [UInt8.size]; omega)]
    congr 1
    omega
theorem headParses_row (a : Option Addr) (len cap : Nat) (zs : List Int) (W : World) (hrow : (a = none ∧ len = 0 ∧ cap = 0 ∧ zs = []) ∨ ∃ x, a = some x ∧ len ≤ cap ∧ cap ≤ maxLen ∧ zs.length = cap ∧ (∀ i, i < zs.length → W.cell? (x.add i) = some (.int .u8 (zs.getD i 0))) ∧ ∀ n ∈ zs, (Lit.int .u8 n).wf = true) (hs : len * 1 ≤ 140737488351232) (hG : GG 5 W) :
    Calls Tryd.prog 9 #[.slice a len cap] W fun e w' => e = .returned (.bool true) ∧ Below W.heap.size W w' := by
  obtain ⟨l, rfl, hr, hm, hw, hc⟩ := ReadsInt.ofRowC hrow
  obtain ⟨L, rfl⟩ := nums8_of l hw
  have hl := nums8_length L
  have h := Kd.C_of_reads (d := (0 : Int)) (h1 := fun _ => rfl) hr
  have h2 : Kd.C (Kd.int .u8) W a L.length (nums8 L) := by rw [hl] at h; exact h
  rw [hl]
  exact headParses_walk a cap L W h2 (by omega) (by omega) hG
end Go.Proofs.YtnhpcpmgedjffaaDoor.P
end
section
-- PRINTED BY print.sh 35421559b90ae4d0a3588c463048766b98c2df88dd9212a6774a882060cdf62d: not written by this session
-- PRINTED WORDS (module Derived/Print/Sized.lean): go-gate-2's, for the rows of laws over slices: an AI agent of Go's test side, Tue Nov 17 2026; no person has read it. Lean checks it.
namespace Go.Proofs.YtnhpcpmgedjffaaDoorW.PrintWords
open Go.ChangeShapes Go.WideShapes
theorem sized_ints {H : Type} {enc : TypeId × Value → H} {P : Program} {W : World} {base : Nat} {spare : Nat → Bool} {held : Bool} {t e : TypeId} {k : IntKind} {a : Option Addr} {len cap : Nat} {d : DataW H} {ps : List MemPlace} {ts : List TypeId} {ds : List (DataW H)} {j : Nat}
    (hsz : (DataW.weightsEach P ts ds).all (· ≤ reachBytes) = true) (ht : ts[j]? = some t) (hd : ds[j]? = some d) (hu : P.underlying t = some (.slice e)) (he : P.underlying e = some (.int k)) (hc : P.cellsOf e = 1) {B : Nat} (hB : P.bytesOf e = B)
    (h : DataW.Trod enc P W base spare held t (.slice a len cap) d ps) : len * B ≤ 140737488351232 := by
  obtain ⟨fuel, hf⟩ := h
  rcases open_ints hu he hc hf with ⟨hcs, _⟩ | ⟨x, l, c, zs, hcs, _, hl, _, hz, hx, _, _⟩
  · simp [Value.cells] at hcs
    obtain ⟨rfl, rfl, rfl⟩ := hcs
    simp
  · simp [Value.cells] at hcs
    obtain ⟨rfl, rfl, rfl⟩ := hcs
    obtain ⟨hx, _⟩ := Prod.mk.inj hx
    subst hx
    have z := sized_slice hsz ht hd hu
    rw [hB] at z
    have hl2 : len ≤ zs.length := by
      rw [hz]
      split
      · exact hl
      · exact Nat.le_refl _
    have h1 : (lits (H := H) k (zs.take len)).length + (lits (H := H) k (zs.drop len)).length = zs.length := by
      simp [lits]
      omega
    rw [h1] at z
    exact Nat.le_trans (Nat.mul_le_mul_right _ hl2) z
end Go.Proofs.YtnhpcpmgedjffaaDoorW.PrintWords
end
section
/-! The row of HeadParses. -/
namespace Go.Proofs.YtnhpcpmgedjffaaDoor.headParses
open Go.ChangeShapes Go.WideShapes Go.ChangeAt Go.RowKit Go.Lib Go.Proofs.YtnhpcpmgedjffaaDoorX
open Go.ChangeMaps (open_string shut_string)
set_option linter.unusedVariables false
theorem laidOut : laidOutB Tryd.prog = true := by kernel_rfl
def IsRow (k : IntKind) (w : World) (a : Option Addr) (len cap : Nat) (zs : List Int) : Prop :=
  (a = none ∧ len = 0 ∧ cap = 0 ∧ zs = []) ∨
  ∃ x, a = some x ∧ len ≤ cap ∧ cap ≤ maxLen ∧ zs.length = cap ∧ (∀ i, i < zs.length → w.cell? (x.add i) = some (.int k (zs.getD i 0))) ∧ ∀ n ∈ zs, (Lit.int k n).wf = true
set_option maxRecDepth 100000 in
theorem door_met (os : Os) (args : Array Value) : laidMetH Tryd.prog Rows.headParsesRow.laid ((doorWorld os).forCall (fun _ _ => 0) ⟨#[], args, []⟩).memory :=
  laidMetH_of_parts3 (fuel := 8) (laidMet_of_run' 8 (by kernel_rfl) (by kernel_rfl)) (by kernel_rfl) (by kernel_rfl)
set_option maxRecDepth 100000 in
theorem lifted (os : Os) (started : os.Started) (H : Type) (enc : TypeId × Value → H) :
    ReturnsInHanded {} Tryd.checked os 9 .any (fun w args => (Rows.headParsesSpec.pre enc Tryd.checked.prog Tryd.f9 Rows.headParsesRow.domain false w args ∧ laidMetH Tryd.prog Rows.headParsesRow.laid w) ∧ sizedMet enc Tryd.checked.prog Tryd.f9 (OpenSpec.ofChange Rows.headParsesSpec) false w args) (Rows.headParsesSpec.post enc Tryd.checked.prog Tryd.f9 false true false false) := by
  refine handed_laid (C := Tryd.checked) (X := (fun w _ => laidMetH Tryd.prog Rows.headParsesRow.laid w)) (fun _ _ _ hh h => h.of_heap hh) own started (by kernel_rfl) Tryd.func9
    (ChangeSpec.witness_shaped (enc := enc) (C := Tryd.checked) (os := os) (X := (fun w _ => laidMetH Tryd.prog Rows.headParsesRow.laid w)) false (doorWorld os) #[.slice none 0 0] 8 rfl (World.shaped_of_RefB (by kernel_rfl) (by kernel_rfl)) (by kernel_rfl) (by kernel_rfl) (by kernel_rfl) (door_met os _)) ?_
  intro W base args ds gs before hval0 hW hcnd hsz0 hL hsh
  have hsz : (DataW.weightsEach Tryd.prog (Tryd.f9.params.toList ++ Rows.headParsesSpec.plain.varTypes Tryd.prog) (ds ++ gs)).all (· ≤ reachBytes) = true := hsz0
  have hval : ∀ (j : Nat) t v, Tryd.f9.params[j]? = some t → args[j]? = some v → Value.okWide Tryd.prog W .any base t v := hval0
  have hL' : laidMet Tryd.prog Rows.headParsesRow.laid W := by
    have h := hL
    rw [MakeChecks.laidMetH_plain _ _ _ (by kernel_rfl)] at h
    exact h
  have hG : GG 5 W := gg5_of hsh (Lib.laidMet.reads hL' (.tail _ (.head _))) (Lib.laidMet.reads hL' (.head _))
  have hW' := hW
  obtain ⟨p, q, hA0, hV, rfl, hfz, hnd⟩ := hW
  have hA : DataW.TrodAll enc Tryd.prog W 0 (fun _ => true) true Tryd.f9.params.toList args.toList ds p := hA0
  rw [Tryd.params9] at hA hval hsz
  obtain ⟨v0, vs0, d0, ds0, p0, q0, hargs, rfl, rfl, h0, r0⟩ := trodAll_cons hA
  obtain ⟨rfl, rfl, rfl⟩ := trodAll_nil r0
  obtain rfl : args = #[v0] := by cases args; simp_all
  obtain ⟨rfl, rfl⟩ := trodVars_none hV
  obtain ⟨a0, len0, cap0, rfl⟩ := okWide_slice Tryd.underlying25 (hval 0 25 v0 rfl rfl)
  have k0 := h0
  have lt0 : ∀ x ∈ p0, x.block < W.heap.size := by obtain ⟨m, hm⟩ := k0; exact DataW.trod_lt m _ _ _ hm
  obtain ⟨z0, w0⟩ : ∃ zs, IsRow .u8 W a0 len0 cap0 zs := by
    obtain ⟨fuel, hf⟩ := h0
    rcases open_ints Tryd.underlying25 Tryd.underlying5 (by kernel_rfl) hf with ⟨hcs, _⟩ | ⟨x, l, c, zs, hcs, _, hl, hm, hz, _, hcell, hwz⟩
    · simp [Value.cells] at hcs
      obtain ⟨rfl, rfl, rfl⟩ := hcs
      exact ⟨[], .inl ⟨rfl, rfl, rfl, rfl⟩⟩
    · simp [Value.cells] at hcs
      obtain ⟨rfl, rfl, rfl⟩ := hcs
      exact ⟨zs, .inr ⟨_, rfl, hl, hm, by simpa using hz, hcell, hwz⟩⟩
  have y0 : len0 * 1 ≤ 140737488351232 := Go.Proofs.YtnhpcpmgedjffaaDoorW.PrintWords.sized_ints hsz (j := 0) (t := 25) rfl rfl Tryd.underlying25 Tryd.underlying5 (by kernel_rfl) (by kernel_rfl) h0
  clear hA0 hval0 hsz0 hsz
  refine (P.headParses_row a0 len0 cap0 z0 W w0 y0 hG).mono fun e W' ⟨he, bel⟩ => ?_
  subst he
  exact ⟨_, rfl, _, _, _, [], _, [], hW', trodAll_mk1 (shut_bool Tryd.underlying4 _), (trodAll_cons_mk (Below.trod laidOut (by kernel_rfl) (of_decide_eq_true (by kernel_rfl)) k0 bel lt0) trodAll_mk0), rfl, bel.frame _, fun h => by cases h⟩
theorem over : Rows.headParsesRow.holds Tryd.pinned (OpenSpec.ofChange Rows.headParsesSpec) :=
  OpenClaim.holds_of_wide 9 Tryd.f9 rfl rfl rfl rfl rfl rfl rfl ⟨rfl, rfl, rfl, rfl, rfl⟩ rfl rfl rfl rfl rfl (by kernel_rfl) Tryd.func9 (by kernel_rfl)
    (of_decide_eq_true (by kernel_rfl)) (by unfold Func.isWrapper; first | (rw [if_pos (by decide +kernel)]; kernel_rfl) | (rw [if_neg (by decide +kernel)]; exact ⟨rfl, rfl⟩))
    (fun os started H enc _ => lifted os started H enc)
theorem proved : Rows.HeadParsesSaid := over
end Go.Proofs.YtnhpcpmgedjffaaDoor.headParses
end
