import Derived.Test.YtnhpcpmgedjffaaGreatDoorProg
import Derived.Outline
import Derived.IntWalk
import Derived.Deep.DrawnRows
import Derived.Deep.RegionHeld3
import Derived.Laws.MakeOwn
import Derived.Deep.Slices
import Derived.Lib.SmallJoins
import Derived.ChangeSame
import Derived.ChangeArms
import Derived.SizedLaws
import Derived.OpenShut
import Derived.Deep.DeepCutAuto
import Derived.ChangeSlices
import Derived.Test.YtnhpcpmgedjffaaGreatDoorRows
import Derived.WalkKit
import Derived.ProofKit
import Derived.ShutString
import Derived.ChangeOld
import Derived.Below
import Derived.Test.YtnhpcpmgedjffaaGreatDoorKHeadWrites9
section
-- Written by the proof's own program out of the translation; Lean checks it.
namespace Go.Proofs.YtnhpcpmgedjffaaGreatDoor.P
open Go.RowKit Go.Proofs.YtnhpcpmgedjffaaGreatDoorW.PrintWords Go.Proofs.YtnhpcpmgedjffaaGreatDoorW.PrintLast Go.Proofs.YtnhpcpmgedjffaaGreatDoorW.PrintMore Go.Proofs.YtnhpcpmgedjffaaGreatDoorX
attribute [local go_sem] max2_int min2_int max_two min_two max_three min_three max_four min_four   -- for this text's walks alone
set_option linter.unusedVariables false
set_option linter.unusedSimpArgs false

end Go.Proofs.YtnhpcpmgedjffaaGreatDoor.P
end
section
namespace Go.Proofs.YtnhpcpmgedjffaaGreatDoorX
open Go.RowKit Go.Proofs.YtnhpcpmgedjffaaGreatDoorW.PrintWords Go.Proofs.YtnhpcpmgedjffaaGreatDoorW.PrintLast Go.Proofs.YtnhpcpmgedjffaaGreatDoorW.PrintMore
set_option linter.unusedVariables false
set_option linter.unusedSimpArgs false

theorem toList_D (s : ByteArray) : s.toList = s.data.toList := by
  obtain ⟨⟨l⟩⟩ := s
  exact ByteArray.toList_mk l
theorem ba_ext {s t : ByteArray} (h : s.data.toList = t.data.toList) : s = t := by
  obtain ⟨⟨l⟩⟩ := s; obtain ⟨⟨m⟩⟩ := t
  simp at h; subst h; rfl
theorem bytesOf_append (a b : ByteArray) : bytesOf (a ++ b) = bytesOf a ++ bytesOf b := by simp [bytesOf]
theorem bytesOf_strOf {l : List Int} (h : isBytes l = true) : bytesOf (strOfNums l) = l := by
  simp only [bytesOf, strOfNums, List.map_map]
  conv => rhs; rw [← List.map_id l]
  refine List.map_congr_left fun c hc => ?_
  have := isBytes_mem h c hc
  simp only [Function.comp, id]
  rw [UInt8.toNat_ofNat_of_lt' (by simp [UInt8.size]; omega)]
  omega
theorem size_D (s : ByteArray) : s.size = s.data.toList.length := (data_length s).symm

end Go.Proofs.YtnhpcpmgedjffaaGreatDoorX
end
section
namespace Go.Proofs.YtnhpcpmgedjffaaGreatDoor.P
open Go.RowKit Go.Proofs.YtnhpcpmgedjffaaGreatDoorW.PrintWords Go.Proofs.YtnhpcpmgedjffaaGreatDoorW.PrintLast Go.Proofs.YtnhpcpmgedjffaaGreatDoorW.PrintMore Go.Proofs.YtnhpcpmgedjffaaGreatDoorX
set_option linter.unusedVariables false
set_option linter.unusedSimpArgs false

theorem Ev.ite_pos {α : Type} {c : Prop} [Decidable c] {f g : Nat → Option α} {r : α} (hc : c) (h : Ev f r) : Ev (fun k => if c then f k else g k) r := by
  simpa [hc] using h
theorem Ev.ite_neg {α : Type} {c : Prop} [Decidable c] {f g : Nat → Option α} {r : α} (hc : ¬ c) (h : Ev g r) : Ev (fun k => if c then f k else g k) r := by
  simpa [hc] using h
theorem Ev.some_bind {α β : Type} {o : Option α} {f : Nat → α → Option β} {a : α} {r : β} (h : o = some a) (k : Ev (fun n => f n a) r) : Ev (fun n => o.bind (f n)) r := by
  subst h; exact k
theorem Ev.is {α : Type} {g : Nat → Option α} {a b : α} (h : Ev g a) (e : a = b) : Ev g b := e ▸ h
theorem wrap64_id {n : Int} (h0 : -9223372036854775808 ≤ n) (h1 : n ≤ 9223372036854775807) : wrap64 n = n := by
  unfold wrap64; omega
theorem bt_nat (s : ByteArray) (i : Nat) (h : i < s.data.toList.length) : bt s (i : Int) = (s.data.toList[i].toNat : Int) := by
  have e := rd_bytesOf s (i : Int)
  rw [← e, rd_at _ _ (by rw [bytesOf_length, size_D]; exact h)]
  simp [bytesOf]
abbrev mkB (l : List UInt8) : ByteArray := ⟨l.toArray⟩
theorem mkB_D (s : ByteArray) : mkB s.data.toList = s := ba_ext rfl
theorem nil_size {s : ByteArray} : s.toList = ([] : List UInt8) ↔ s.size = 0 := by
  rw [toList_D, size_D]; exact List.length_eq_zero_iff.symm
theorem toList_eq {s t : ByteArray} : s.toList = t.toList ↔ s = t := ⟨fun h => ba_ext (by rw [toList_D, toList_D] at h; exact h), fun h => by rw [h]⟩

theorem letter_all : ∀ b : Fin 256, ostiaryref13_Letter.f (b.val : Int) = some (wordL (b.val : Int)) := by decide +kernel
theorem letter_at (s : ByteArray) (i : Int) : ostiaryref13_Letter.f (bt s i) = some (wordL (bt s i)) := by
  obtain ⟨h0, h1⟩ := bt_range s i
  have := letter_all ⟨(bt s i).toNat, by omega⟩
  simpa [Int.toNat_of_nonneg h0] using this
theorem drop_bytes (s : ByteArray) (i : Nat) (h : i < s.size) : (bytesOf s).drop i = bt s (i : Int) :: (bytesOf s).drop (i + 1) := by
  have hl := bytesOf_length s
  rw [List.drop_eq_getElem_cons (by omega), ← rd_at _ _ (by omega), rd_bytesOf]
theorem rword_loop (s : ByteArray) (hs : s.size ≤ 9223372036854775000) : ∀ (m i : Nat), i + m = s.size → Ev (fun k => ostiaryref13_Word.l0 k s (i : Int)) (((bytesOf s).drop i).all wordL)
  | 0, i, h => by
    have hl := bytesOf_length s
    refine Ev.step (fun k => by rw [ostiaryref13_Word.l0]) (Ev.ite_neg (by omega) ?_)
    rw [List.drop_of_length_le (by omega)]
    exact Ev.now true
  | m + 1, i, h => by
    have ih := rword_loop s hs m (i + 1) (by omega)
    refine Ev.step (fun k => by rw [ostiaryref13_Word.l0]) (Ev.ite_pos (by omega) (Ev.ite_pos (by omega) (Ev.some_bind (letter_at _ _) ?_)))
    rw [wrap64_id (n := (i : Int) + 1) (by omega) (by omega), drop_bytes s i (by omega), List.all_cons]
    cases hw : wordL (bt s (i : Int)) with
    | true => exact Ev.ite_pos rfl ih
    | false => exact Ev.ite_neg (by decide) (Ev.now false)
theorem rword_ev (s : ByteArray) (most : Int) (hs : s.size ≤ 9223372036854775000) : Ev (fun k => ostiaryref13_Word.f k s most) (wordF (bytesOf s) most) := by
  have hl := bytesOf_length s
  have h0 := rword_loop s hs s.size 0 (by omega)
  unfold ostiaryref13_Word.f wordF
  by_cases h1 : (s.size : Int) < 1
  · refine Ev.ite_pos h1 (Ev.step (fun k => by rw [ostiaryref13_Word.j0]) (Ev.ite_pos rfl (Ev.is (Ev.now false) ?_)))
    have : ((bytesOf s).length != 0) = false := bne_eq_false_iff_eq.2 (by omega)
    simp [this]
  · have e1 : ((bytesOf s).length != 0) = true := bne_iff_ne.2 (by omega)
    refine Ev.ite_neg h1 (Ev.step (fun k => by rw [ostiaryref13_Word.j0]) ?_)
    by_cases h2 : (s.size : Int) > most
    · refine Ev.ite_pos (by simpa using h2) (Ev.is (Ev.now false) ?_)
      have : decide (((bytesOf s).length : Int) ≤ most) = false := decide_eq_false (by omega)
      simp [this]
    · refine Ev.ite_neg (by simpa using h2) (Ev.is h0 ?_)
      have : decide (((bytesOf s).length : Int) ≤ most) = true := decide_eq_true (by omega)
      simp [this, e1]
theorem hword_eq (s : ByteArray) (most : Int) (hs : s.size ≤ 140737488355328) : head_word.f s most = some (wordF (bytesOf s) most) := by
  unfold head_word.f; rw [if_pos hs]

def okT (c : Int) : Bool := !decide (c < 33) && !decide (c > 126)
def tgtP (s : ByteArray) : Bool := (bytesOf s).all okT && (s.size != 0 && bt s 0 == 47)
theorem okT_lo {c : Int} (h : c < 33) : okT c = false := by simp [okT, h]
theorem okT_hi {c : Int} (h : c > 126) : okT c = false := by simp [okT, h]
theorem okT_in {c : Int} (h : ¬ c < 33) (h2 : ¬ c > 126) : okT c = true := by simp [okT, h, h2]
theorem htarget_loop (s : ByteArray) (hs : s.size ≤ 140737488355328) : ∀ (m i : Nat), i + m = s.size → Ev (fun k => head_target.l0 k s (bytesOf s) ((bytesOf s).length : Int) (i : Int)) (((bytesOf s).drop i).all okT && (s.size != 0 && bt s 0 == 47))
  | 0, i, h => by
    have hl := bytesOf_length s
    refine Ev.step (fun k => by rw [head_target.l0]) (Ev.ite_neg (by omega) ?_)
    rw [List.drop_of_length_le (by omega)]
    by_cases h0 : s.size = 0
    · exact Ev.ite_pos (nil_size.2 h0) (Ev.is (Ev.now false) (by simp [h0]))
    · exact Ev.ite_neg (fun e => h0 (nil_size.1 e)) (Ev.ite_pos (by omega) (Ev.is (Ev.now _) (by simp [h0])))
  | m + 1, i, h => by
    have hl := bytesOf_length s
    have ih := htarget_loop s hs m (i + 1) (by omega)
    refine Ev.step (fun k => by rw [head_target.l0]) (Ev.ite_pos (by omega) (Ev.ite_pos (by omega) (Ev.ite_pos (by omega) ?_)))
    rw [wrap64_id (n := (i : Int) + 1) (by omega) (by omega), drop_bytes s i (by omega), List.all_cons, rd_bytesOf]
    by_cases h1 : bt s (i : Int) < 33
    · exact Ev.ite_pos h1 (Ev.is (Ev.now false) (by rw [okT_lo h1]; rfl))
    · refine Ev.ite_neg h1 ?_
      by_cases h2 : bt s (i : Int) > 126
      · exact Ev.ite_pos h2 (Ev.is (Ev.now false) (by rw [okT_hi h2]; rfl))
      · exact Ev.ite_neg h2 (Ev.is ih (by rw [okT_in h1 h2, Bool.true_and]))
theorem htarget_ev (s : ByteArray) (hs : s.size ≤ 140737488355328) : Ev (fun k => head_target.f k s) (tgtP s) := by
  have := htarget_loop s hs s.size 0 (by omega)
  unfold head_target.f
  exact Ev.ite_pos hs (Ev.some_bind rfl (Ev.is this (by rw [List.drop_zero]; rfl)))
theorem rtarget_loop (s : ByteArray) (hs : s.size ≤ 140737488355328) : ∀ (m i : Nat), i + m = s.size → Ev (fun k => ostiaryref13_target.l0 k s (i : Int)) (((bytesOf s).drop i).all okT)
  | 0, i, h => by
    have hl := bytesOf_length s
    refine Ev.step (fun k => by rw [ostiaryref13_target.l0]) (Ev.ite_neg (by omega) ?_)
    rw [List.drop_of_length_le (by omega)]
    exact Ev.now true
  | m + 1, i, h => by
    have ih := rtarget_loop s hs m (i + 1) (by omega)
    refine Ev.step (fun k => by rw [ostiaryref13_target.l0]) (Ev.ite_pos (by omega) (Ev.ite_pos (by omega) ?_))
    rw [wrap64_id (n := (i : Int) + 1) (by omega) (by omega), drop_bytes s i (by omega), List.all_cons]
    by_cases h1 : bt s (i : Int) < 33
    · exact Ev.ite_pos h1 (Ev.is (Ev.now false) (by rw [okT_lo h1]; rfl))
    · refine Ev.ite_neg h1 ?_
      by_cases h2 : bt s (i : Int) > 126
      · exact Ev.ite_pos h2 (Ev.is (Ev.now false) (by rw [okT_hi h2]; rfl))
      · exact Ev.ite_neg h2 (Ev.is ih (by rw [okT_in h1 h2, Bool.true_and]))
theorem rtarget_ev (s : ByteArray) (hs : s.size ≤ 140737488355328) : Ev (fun k => ostiaryref13_target.f k s) (tgtP s) := by
  have h0 := rtarget_loop s hs s.size 0 (by omega)
  unfold ostiaryref13_target.f tgtP
  by_cases h1 : (s.size : Int) < 1
  · refine Ev.ite_pos h1 (Ev.step (fun k => by rw [ostiaryref13_target.j0]) (Ev.ite_pos rfl (Ev.is (Ev.now false) ?_)))
    have : s.size = 0 := by omega
    simp [this]
  · have e1 : (s.size != 0) = true := bne_iff_ne.2 (by omega)
    refine Ev.ite_neg h1 (Ev.ite_pos (by omega) (Ev.step (fun k => by rw [ostiaryref13_target.j0]) ?_))
    by_cases h2 : bt s 0 = 47
    · refine Ev.ite_neg (by simp [h2]) (Ev.is h0 ?_)
      simp [h2, e1]
    · refine Ev.ite_pos (by simp [h2]) (Ev.is (Ev.now false) ?_)
      simp [h2]

def blankC (c : Int) : Bool := c == 9 || c == 32
theorem blank_f (c : Int) : head_blank.f c = some (blankC c) := by
  unfold head_blank.f blankC
  by_cases h : c = 9
  · simp [h]
  · rw [if_neg h]; simp [h]
theorem rblank_f (c : Int) : ostiaryref13_blank.f c = some (blankC c) := blank_f c
def bl8 (x : UInt8) : Bool := blankC (x.toNat : Int)
def trimL (l : List UInt8) : List UInt8 := ((l.dropWhile bl8).reverse.dropWhile bl8).reverse
theorem dropWhile_cut {α : Type} (p : α → Bool) (l : List α) : ∃ a, l = a ++ l.dropWhile p ∧ (∀ x ∈ a, p x = true) ∧ ∀ x, (l.dropWhile p).head? = some x → p x = false := by
  induction l with
  | nil => exact ⟨[], rfl, by simp, by simp⟩
  | cons b l ih =>
    rw [List.dropWhile_cons]
    cases hb : p b with
    | true =>
      obtain ⟨a, h1, h2, h3⟩ := ih
      exact ⟨b :: a, by rw [if_pos rfl]; exact congrArg (b :: ·) h1, by simpa [hb] using h2, by rw [if_pos rfl]; exact h3⟩
    | false =>
      rw [if_neg (by simp)]
      exact ⟨[], rfl, by simp, by intro x hx; simp at hx; exact hx ▸ hb⟩
theorem trim_parts (l : List UInt8) : ∃ a b, l = a ++ trimL l ++ b ∧ (∀ x ∈ a, bl8 x = true) ∧ (∀ x ∈ b, bl8 x = true) ∧ (∀ x, (trimL l).head? = some x → bl8 x = false) ∧ (∀ x, (trimL l).getLast? = some x → bl8 x = false) := by
  obtain ⟨a, h1, h2, h3⟩ := dropWhile_cut bl8 l
  obtain ⟨b, g1, g2, g3⟩ := dropWhile_cut bl8 (l.dropWhile bl8).reverse
  have e : l.dropWhile bl8 = trimL l ++ b.reverse := by
    have := congrArg List.reverse g1
    rw [List.reverse_reverse, List.reverse_append] at this
    exact this
  refine ⟨a, b.reverse, ?_, h2, fun x hx => g2 x (List.mem_reverse.1 hx), ?_, ?_⟩
  · rw [List.append_assoc, ← e]; exact h1
  · intro x hx
    refine h3 x ?_
    rw [e]
    rw [List.head?_append, hx]; rfl
  · intro x hx
    refine g3 x ?_
    unfold trimL at hx
    rw [List.getLast?_reverse] at hx
    exact hx
theorem rtrim_right : ∀ (m : Nat) (l : List UInt8), l.length = m → m ≤ 9223372036854775000 → Ev (fun k => ostiaryref13_Trim.l1 k (mkB l)) (mkB (l.reverse.dropWhile bl8).reverse)
  | 0, l, h, hm => by
    have : l = [] := List.length_eq_zero_iff.1 h
    subst this
    refine Ev.step (fun k => by rw [ostiaryref13_Trim.l1]) ?_
    refine Ev.ite_neg (by decide) ?_
    exact Ev.now _
  | m + 1, l, h, hm => by
    have hsz : (mkB l).size = m + 1 := h
    obtain ⟨p, c, rfl⟩ : ∃ p c, l = p ++ [c] := by
      rcases List.eq_nil_or_concat l with e | ⟨p, c, e⟩
      · subst e; cases h
      · exact ⟨p, c, by rw [e, List.concat_eq_append]⟩
    have hp : p.length = m := by simpa using h
    have hw : wrap64 (((mkB (p ++ [c])).size : Int) - 1) = (m : Int) := by
      rw [hsz, wrap64_id (by omega) (by omega)]; omega
    have hb : bt (mkB (p ++ [c])) (m : Int) = (c.toNat : Int) := by
      rw [bt_nat _ _ (by simp [hp])]
      simp [hp]
    refine Ev.step (fun k => by rw [ostiaryref13_Trim.l1]) (Ev.ite_pos (by omega) ?_)
    rw [hw]
    refine Ev.ite_pos (by omega) (Ev.ite_pos (by omega) (Ev.some_bind (rblank_f _) ?_))
    rw [hb, List.reverse_append, List.reverse_singleton, List.singleton_append, List.dropWhile_cons]
    cases hc : bl8 c with
    | true =>
      have hc' : blankC (c.toNat : Int) = true := hc
      rw [hc', if_pos rfl]
      refine Ev.ite_pos rfl (Ev.ite_pos (by omega) ?_)
      have e : (mkB (p ++ [c])).extract 0 ((m : Int)).toNat = mkB p := ba_ext (by simp [hp])
      rw [e]
      exact rtrim_right m p hp (by omega)
    | false =>
      have hc' : blankC (c.toNat : Int) = false := hc
      rw [hc', if_neg (by decide)]
      refine Ev.ite_neg (by decide) (Ev.is (Ev.now _) ?_)
      simp
theorem rtrim_left : ∀ (l : List UInt8), l.length ≤ 9223372036854775000 → Ev (fun k => ostiaryref13_Trim.l0 k (mkB l)) (mkB (trimL l))
  | [], h => by
    refine Ev.step (fun k => by rw [ostiaryref13_Trim.l0]) (Ev.ite_neg (by decide) (Ev.step (fun k => by rw [ostiaryref13_Trim.j1]) ?_))
    exact rtrim_right 0 [] rfl (by decide)
  | c :: l, h => by
    have hsz : (mkB (c :: l)).size = l.length + 1 := rfl
    have hb : bt (mkB (c :: l)) 0 = (c.toNat : Int) := bt_nat (mkB (c :: l)) 0 (by simp)
    have hl : l.length + 1 ≤ 9223372036854775000 := h
    refine Ev.step (fun k => by rw [ostiaryref13_Trim.l0]) (Ev.ite_pos (by omega) (Ev.ite_pos (by omega) (Ev.some_bind (rblank_f _) ?_)))
    rw [hb]
    cases hc : bl8 c with
    | true =>
      have hc' : blankC (c.toNat : Int) = true := hc
      rw [hc']
      refine Ev.ite_pos rfl (Ev.ite_pos (by omega) ?_)
      have e : (mkB (c :: l)).extract 1 (mkB (c :: l)).size = mkB l := ba_ext (by simp [hsz])
      rw [e]
      refine Ev.is (rtrim_left l (by omega)) ?_
      unfold trimL
      rw [List.dropWhile_cons, if_pos hc]
    | false =>
      have hc' : blankC (c.toNat : Int) = false := hc
      rw [hc']
      refine Ev.ite_neg (by decide) (Ev.step (fun k => by rw [ostiaryref13_Trim.j1]) (Ev.is (rtrim_right _ _ rfl h) ?_))
      unfold trimL
      rw [List.dropWhile_cons, if_neg (by rw [hc]; decide)]
theorem rtrim_ev (s : ByteArray) (hs : s.size ≤ 9223372036854775000) : Ev (fun k => ostiaryref13_Trim.f k s) (mkB (trimL s.data.toList)) := by
  have := rtrim_left s.data.toList (by rw [← size_D]; exact hs)
  rw [mkB_D] at this
  exact this

def okV (c : Int) : Bool := c == 9 || (!decide (c < 32) && c != 127)
def endsP (s : ByteArray) : Bool := s.size == 0 || (!blankC (bt s 0) && !blankC (bt s ((s.size : Int) - 1)))
def valP (s : ByteArray) : Bool := (bytesOf s).all okV && endsP s
theorem value_loop (s : ByteArray) (hs : s.size ≤ 140737488355328) : ∀ (m i : Nat), i + m = s.size →
    Ev (fun k => head_value.l0 k s (bytesOf s) ((bytesOf s).length : Int) (i : Int)) (((bytesOf s).drop i).all okV && endsP s)
  | 0, i, h => by
    have hl := bytesOf_length s
    refine Ev.step (fun k => by rw [head_value.l0]) ?_
    refine Ev.ite_neg (by omega) ?_
    rw [List.drop_of_length_le (by omega)]
    unfold endsP
    by_cases h1 : s.size = 0
    · refine Ev.ite_pos (nil_size.2 h1) ?_
      simpa [h1] using Ev.now true
    · have h1b : (s.size == 0) = false := by simpa using h1
      refine Ev.ite_neg (fun e => h1 (nil_size.1 e)) (Ev.ite_pos (by omega) (Ev.some_bind (blank_f _) ?_))
      by_cases hb : blankC (bt s 0) = true
      · refine Ev.ite_pos hb ?_
        simpa [hb, h1b] using Ev.now false
      · refine Ev.ite_neg hb ?_
        rw [wrap64_id (by omega) (by omega)]
        refine Ev.ite_pos (by omega) (Ev.ite_pos (by omega) (Ev.some_bind (blank_f _) ?_))
        simpa [hb, h1b] using Ev.now (!blankC (bt s ((s.size : Int) - 1)))
  | m + 1, i, h => by
    have hl := bytesOf_length s
    have ih := value_loop s hs m (i + 1) (by omega)
    refine Ev.step (fun k => by rw [head_value.l0]) ?_
    rw [wrap64_id (n := (i : Int) + 1) (by omega) (by omega), rd_bytesOf, drop_bytes s i (by omega)]
    refine Ev.ite_pos (by omega) (Ev.ite_pos (by omega) (Ev.ite_pos (by omega) ?_))
    simp only [List.all_cons]
    generalize bt s (i : Int) = c
    by_cases h9 : c = 9
    · refine Ev.ite_pos h9 ?_
      simpa [okV, h9] using ih
    · have e9 : (c == 9) = false := beq_eq_false_iff_ne.2 h9
      refine Ev.ite_neg h9 ?_
      by_cases h32 : c < 32
      · refine Ev.ite_pos h32 ?_
        simpa [okV, e9, h32] using Ev.now false
      · refine Ev.ite_neg h32 ?_
        by_cases h127 : c = 127
        · refine Ev.ite_pos h127 ?_
          simpa [okV, e9, h127] using Ev.now false
        · refine Ev.ite_neg h127 ?_
          have e127 : (c != 127) = true := bne_iff_ne.2 h127
          simpa [okV, e9, h32, e127] using ih
theorem hvalue_ev (s : ByteArray) (hs : s.size ≤ 140737488355328) : Ev (fun k => head_value.f k s) (valP s) := by
  have := value_loop s hs s.size 0 (by omega)
  unfold head_value.f
  refine Ev.ite_pos hs (Ev.some_bind rfl ?_)
  simpa [valP] using this
theorem trim_same (s : ByteArray) : (mkB (trimL s.data.toList) = s) ↔ endsP s = true := by
  obtain ⟨a, b, h1, h2, h3, h4, h5⟩ := trim_parts s.data.toList
  have hsz := size_D s
  unfold endsP
  constructor
  · intro h
    have e : trimL s.data.toList = s.data.toList := by conv => rhs; rw [← h]
    by_cases h0 : s.size = 0
    · simp [h0]
    · have hpos : 0 < s.data.toList.length := by omega
      have hh := h4 s.data.toList[0] (by rw [e, List.head?_eq_getElem?, List.getElem?_eq_getElem hpos])
      have hl := h5 (s.data.toList[s.data.toList.length - 1]) (by rw [e, List.getLast?_eq_getElem?, List.getElem?_eq_getElem (by omega)])
      have b0 := bt_nat s 0 hpos
      have b1 := bt_nat s (s.data.toList.length - 1) (by omega)
      have e2 : (s.size : Int) - 1 = ((s.data.toList.length - 1 : Nat) : Int) := by omega
      rw [e2, b1, show (0 : Int) = ((0 : Nat) : Int) from rfl, b0]
      unfold bl8 at hh hl
      rw [hh, hl]; simp
  · intro h
    by_cases h0 : s.size = 0
    · have : s.data.toList = [] := List.length_eq_zero_iff.1 (by omega)
      refine ba_ext ?_
      rw [this]; rfl
    · have hpos : 0 < s.data.toList.length := by omega
      have b0 := bt_nat s 0 hpos
      have b1 := bt_nat s (s.data.toList.length - 1) (by omega)
      have e2 : (s.size : Int) - 1 = ((s.data.toList.length - 1 : Nat) : Int) := by omega
      rw [e2, b1, show (0 : Int) = ((0 : Nat) : Int) from rfl, b0] at h
      have h0b : (s.size == 0) = false := by simpa using h0
      simp only [h0b, Bool.false_or, Bool.and_eq_true, Bool.not_eq_true'] at h
      have ha : a = [] := by
        cases a with
        | nil => rfl
        | cons x a =>
          have := h2 x (by simp)
          have e : s.data.toList[0] = x := by
            have hq : s.data.toList[0]? = some x := by rw [h1]; rfl
            rw [List.getElem?_eq_getElem hpos] at hq
            exact Option.some.inj hq
          rw [e] at h
          unfold bl8 at this
          rw [this] at h
          exact absurd h.1 (by decide)
      have hb : b = [] := by
        rcases List.eq_nil_or_concat b with e | ⟨q, x, e⟩
        · exact e
        · have := h3 x (by rw [e]; simp)
          have e3 : s.data.toList[s.data.toList.length - 1] = x := by
            have hq : s.data.toList.getLast? = some x := by rw [h1, e]; simp
            rw [List.getLast?_eq_getElem?, List.getElem?_eq_getElem (by omega)] at hq
            exact Option.some.inj hq
          rw [e3] at h
          unfold bl8 at this
          rw [this] at h
          exact absurd h.2 (by decide)
      refine ba_ext ?_
      show trimL s.data.toList = s.data.toList
      conv => rhs; rw [h1, ha, hb]
      simp
theorem rvalue_loop (s : ByteArray) (hs : s.size ≤ 140737488355328) : ∀ (m i : Nat), i + m = s.size → Ev (fun k => ostiaryref13_Value.l0 k s (i : Int)) (((bytesOf s).drop i).all okV && endsP s)
  | 0, i, h => by
    have hl := bytesOf_length s
    refine Ev.step (fun k => by rw [ostiaryref13_Value.l0]) (Ev.ite_neg (by omega) (Ev.bind (rtrim_ev s (by omega)) (Ev.is (Ev.now _) ?_)))
    rw [List.drop_of_length_le (by omega)]
    rw [Bool.eq_iff_iff]
    simp only [beq_iff_eq, toList_eq, List.all_nil, Bool.true_and]
    exact trim_same s
  | m + 1, i, h => by
    have ih := rvalue_loop s hs m (i + 1) (by omega)
    refine Ev.step (fun k => by rw [ostiaryref13_Value.l0]) (Ev.ite_pos (by omega) (Ev.ite_pos (by omega) ?_))
    rw [wrap64_id (n := (i : Int) + 1) (by omega) (by omega), drop_bytes s i (by omega), List.all_cons]
    generalize bt s (i : Int) = c
    by_cases h9 : c = 9
    · refine Ev.ite_pos h9 (Ev.ite_neg (by omega) ?_)
      simpa [okV, h9] using ih
    · have e9 : (c == 9) = false := beq_eq_false_iff_ne.2 h9
      refine Ev.ite_neg h9 ?_
      by_cases h32 : c < 32
      · refine Ev.ite_pos h32 ?_
        simpa [okV, e9, h32] using Ev.now false
      · refine Ev.ite_neg h32 ?_
        by_cases h127 : c = 127
        · refine Ev.ite_pos h127 ?_
          simpa [okV, e9, h127] using Ev.now false
        · refine Ev.ite_neg h127 ?_
          have e127 : (c != 127) = true := bne_iff_ne.2 h127
          simpa [okV, e9, h32, e127] using ih
theorem rvalue_ev (s : ByteArray) (hs : s.size ≤ 140737488355328) : Ev (fun k => ostiaryref13_Value.f k s) (valP s) := by
  have := rvalue_loop s hs s.size 0 (by omega)
  unfold ostiaryref13_Value.f
  exact Ev.is this (by rw [List.drop_zero]; rfl)
end Go.Proofs.YtnhpcpmgedjffaaGreatDoor.P
end
section
namespace Go.Proofs.YtnhpcpmgedjffaaGreatDoor.P
open Go.RowKit Go.Proofs.YtnhpcpmgedjffaaGreatDoorW.PrintWords Go.Proofs.YtnhpcpmgedjffaaGreatDoorW.PrintLast Go.Proofs.YtnhpcpmgedjffaaGreatDoorW.PrintMore Go.Proofs.YtnhpcpmgedjffaaGreatDoorX
set_option linter.unusedVariables false
set_option linter.unusedSimpArgs false

def lowL (s : ByteArray) : List Int := (bytesOf s).map lowC
theorem lowC_byte (c : Int) (h0 : 0 ≤ c) (h1 : c ≤ 255) : 0 ≤ lowC c ∧ lowC c < 256 := by
  unfold lowC; split
  · split <;> omega
  · omega
theorem isBytes_lowL (s : ByteArray) : isBytes (lowL s) = true := by
  simp only [isBytes, lowL, bytesOf, List.all_map, List.all_eq_true, Function.comp, Bool.and_eq_true, decide_eq_true_eq]
  intro b _
  have := b.toNat_lt
  exact lowC_byte _ (by omega) (by omega)
theorem lower_iff (a b : ByteArray) : (xLower a).toList = (xLower b).toList ↔ lowL a = lowL b := by
  rw [toList_eq]
  constructor
  · intro h
    have : bytesOf (strOfNums (lowL a)) = bytesOf (strOfNums (lowL b)) := congrArg bytesOf h
    rw [bytesOf_strOf (isBytes_lowL a), bytesOf_strOf (isBytes_lowL b)] at this
    exact this
  · intro h
    unfold xLower
    show strOfNums (lowL a) = strOfNums (lowL b)
    rw [h]
theorem lowL_drop (s : ByteArray) (i : Nat) (h : i < s.size) : (lowL s).drop i = lowC (bt s (i : Int)) :: (lowL s).drop (i + 1) := by
  unfold lowL
  rw [← List.map_drop, ← List.map_drop, drop_bytes s i h, List.map_cons]
theorem lowL_length (s : ByteArray) : (lowL s).length = s.size := by simp [lowL, bytesOf_length]
theorem lowC_up {c : Int} (h : c ≥ 65) (h2 : c ≤ 90) : lowC c = (c + 32) % 256 := by unfold lowC; rw [if_pos h, if_pos h2]; omega
theorem lowC_hi {c : Int} (h2 : ¬ c ≤ 90) : lowC c = c := by unfold lowC; split <;> simp [h2]
theorem lowC_lo {c : Int} (h : ¬ c ≥ 65) : lowC c = c := by unfold lowC; rw [if_neg h]
theorem rsame_loop (a b : ByteArray) (hab : a.size = b.size) (hs : a.size ≤ 9223372036854775000) : ∀ (m i : Nat), i + m = a.size → Ev (fun k => ostiaryref13_Same.l0 k a b (i : Int)) (decide ((lowL a).drop i = (lowL b).drop i))
  | 0, i, h => by
    refine Ev.step (fun k => by rw [ostiaryref13_Same.l0]) (Ev.ite_neg (by omega) (Ev.is (Ev.now true) ?_))
    rw [List.drop_of_length_le (by rw [lowL_length]; omega), List.drop_of_length_le (by rw [lowL_length]; omega)]
    rfl
  | m + 1, i, h => by
    have ih := rsame_loop a b hab hs m (i + 1) (by omega)
    refine Ev.step (fun k => by rw [ostiaryref13_Same.l0]) (Ev.ite_pos (by omega) (Ev.ite_pos (by omega) (Ev.ite_pos (by omega) ?_)))
    rw [lowL_drop a i (by omega), lowL_drop b i (by omega)]
    obtain ⟨x0, x1⟩ := bt_range a (i : Int)
    obtain ⟨y0, y1⟩ := bt_range b (i : Int)
    generalize hx : bt a (i : Int) = x at x0 x1 ⊢
    generalize hy : bt b (i : Int) = y at y0 y1 ⊢
    have fin : ∀ x' : Int, x' = lowC x → Ev (fun k => ostiaryref13_Same.j2 k a b (i : Int) x' y) (decide (lowC x :: (lowL a).drop (i + 1) = lowC y :: (lowL b).drop (i + 1))) := by
      rintro x' rfl
      have last : ∀ y' : Int, y' = lowC y → Ev (fun k => if lowC x = y' then ostiaryref13_Same.l0 k a b (wrap64 ((i : Int) + 1)) else some false) (decide (lowC x :: (lowL a).drop (i + 1) = lowC y :: (lowL b).drop (i + 1))) := by
        rintro y' rfl
        rw [wrap64_id (by omega) (by omega)]
        by_cases e : lowC x = lowC y
        · exact Ev.ite_pos e (Ev.is ih (by rw [e]; simp))
        · exact Ev.ite_neg e (Ev.is (Ev.now false) (by simp [e]))
      refine Ev.step (fun k => by rw [ostiaryref13_Same.j2]) ?_
      by_cases h1 : y ≥ 65
      · refine Ev.ite_pos h1 ?_
        refine Ev.step (fun k => by rw [ostiaryref13_Same.j3]) ?_
        by_cases h2 : y ≤ 90
        · exact Ev.ite_pos (by simpa using h2) (last _ (lowC_up h1 h2).symm)
        · exact Ev.ite_neg (by simpa using h2) (last _ (lowC_hi h2).symm)
      · refine Ev.ite_neg h1 ?_
        refine Ev.step (fun k => by rw [ostiaryref13_Same.j3]) ?_
        exact Ev.ite_neg (by decide) (last _ (lowC_lo h1).symm)
    by_cases h1 : x ≥ 65
    · refine Ev.ite_pos h1 ?_
      refine Ev.step (fun k => by rw [ostiaryref13_Same.j1]) ?_
      by_cases h2 : x ≤ 90
      · exact Ev.ite_pos (by simpa using h2) (fin _ (lowC_up h1 h2).symm)
      · exact Ev.ite_neg (by simpa using h2) (fin _ (lowC_hi h2).symm)
    · refine Ev.ite_neg h1 ?_
      refine Ev.step (fun k => by rw [ostiaryref13_Same.j1]) ?_
      exact Ev.ite_neg (by decide) (fin _ (lowC_lo h1).symm)
theorem rsame_ev (a b : ByteArray) (hs : a.size ≤ 9223372036854775000) : Ev (fun k => ostiaryref13_Same.f k a b) (decide (lowL a = lowL b)) := by
  unfold ostiaryref13_Same.f
  by_cases h : a.size = b.size
  · refine Ev.ite_pos (by omega) ?_
    have := rsame_loop a b h hs a.size 0 (by omega)
    rwa [List.drop_zero, List.drop_zero] at this
  · refine Ev.ite_neg (by omega) (Ev.is (Ev.now false) ?_)
    have : lowL a ≠ lowL b := fun e => h (by have := congrArg List.length e; rwa [lowL_length, lowL_length] at this)
    simp [this]

abbrev SF := S52
def valsF (fs : List SF) (key : ByteArray) : List ByteArray := (fs.filter (fun f => decide (lowL f.f0 = lowL key))).map (·.f1)
theorem valsF_cons (f : SF) (fs : List SF) (key : ByteArray) : valsF (f :: fs) key = (if lowL f.f0 = lowL key then [f.f1] else []) ++ valsF fs key := by
  unfold valsF
  by_cases h : lowL f.f0 = lowL key <;> simp [h]
theorem rdT_nat (fs : List SF) (i : Nat) (h : i < fs.length) : rd_T52 fs (i : Int) = fs[i] := by
  simp [rd_T52, List.getD_eq_getElem?_getD, List.getElem?_eq_getElem h]
def Small (fs : List SF) : Prop := fs.length ≤ 4294967295 ∧ ∀ f ∈ fs, f.f0.size ≤ 140737488355328
theorem all_loop (key : ByteArray) (hk : key.size ≤ 140737488355328) (fs : List SF) (hf : Small fs) : ∀ (m i : Nat) (acc : List ByteArray), i + m = fs.length → acc.length ≤ i → Ev (fun k => head_all.l0 k key acc fs (fs.length : Int) (i : Int)) (acc ++ valsF (fs.drop i) key)
  | 0, i, acc, h, ha => by
    refine Ev.step (fun k => by rw [head_all.l0]) (Ev.ite_neg (by omega) (Ev.is (Ev.now _) ?_))
    rw [List.drop_of_length_le (by omega)]
    simp [valsF]
  | m + 1, i, acc, h, ha => by
    have hl := hf.1
    have hn := hf.2 fs[i] (List.getElem_mem _)
    refine Ev.step (fun k => by rw [head_all.l0]) (Ev.ite_pos (by omega) (Ev.ite_pos (by omega) (Ev.ite_pos (by omega) ?_)))
    rw [rdT_nat fs i (by omega), wrap64_id (n := (i : Int) + 1) (by omega) (by omega), List.drop_eq_getElem_cons (show i < fs.length by omega), valsF_cons]
    refine Ev.some_bind (a := xLower fs[i].f0) (by unfold head_lower.f; exact if_pos hn) (Ev.some_bind (a := xLower key) (by unfold head_lower.f; exact if_pos hk) ?_)
    by_cases hc : lowL fs[i].f0 = lowL key
    · refine Ev.ite_pos ((lower_iff _ _).2 hc) (Ev.ite_pos (by omega) ?_)
      have := all_loop key hk fs hf m (i + 1) (acc ++ [fs[i].f1]) (by omega) (by simp; omega)
      rw [if_pos hc, ← List.append_assoc]
      exact this
    · refine Ev.ite_neg (fun e => hc ((lower_iff _ _).1 e)) ?_
      have := all_loop key hk fs hf m (i + 1) acc (by omega) (by omega)
      rw [if_neg hc, List.nil_append]
      exact this
theorem all_ev (m t : ByteArray) (mi : Int) (fs : List SF) (key : ByteArray) (hf : Small fs) (hk : key.size ≤ 140737488355328) : Ev (fun k => head_all.f k m t mi fs key) (valsF fs key) := by
  unfold head_all.f
  exact all_loop key hk fs hf fs.length 0 [] (by omega) (by simp)
def fieldP (fs : List SF) (key : ByteArray) : ByteArray × Int := ((valsF fs key).headD (⟨#[]⟩ : ByteArray), ((valsF fs key).length : Int))
theorem hfield_ev (m t : ByteArray) (mi : Int) (fs : List SF) (key : ByteArray) (hf : Small fs) (hk : key.size ≤ 140737488355328) : Ev (fun k => head_Field.f k m t mi fs key) (fieldP fs key) := by
  unfold head_Field.f fieldP
  refine Ev.bind (all_ev m t mi fs key hf hk) ?_
  cases hv : valsF fs key with
  | nil => exact Ev.ite_pos (by simp) (Ev.now _)
  | cons v vs => exact Ev.ite_neg (by first | (simp; done) | (simp; omega)) (Ev.ite_pos (by first | (simp; done) | (simp; omega)) (Ev.now _))
theorem rfield_loop (m t : ByteArray) (mi : Int) (key : ByteArray) (fs : List SF) (hf : Small fs) : ∀ (d i : Nat) (v : ByteArray) (n : Nat), i + d = fs.length → n ≤ i →
    Ev (fun k => ostiaryref13_Field.l0 k key v (n : Int) (i : Int) m t mi fs) (if n = 0 then (valsF (fs.drop i) key).headD v else v, ((n + (valsF (fs.drop i) key).length : Nat) : Int))
  | 0, i, v, n, h, hn => by
    refine Ev.step (fun k => by rw [ostiaryref13_Field.l0]) (Ev.ite_neg (by omega) (Ev.is (Ev.now _) ?_))
    rw [List.drop_of_length_le (by omega)]
    simp [valsF]
  | d + 1, i, v, n, h, hn => by
    have hl := hf.1
    have hs := hf.2 fs[i] (List.getElem_mem _)
    refine Ev.step (fun k => by rw [ostiaryref13_Field.l0]) (Ev.ite_pos (by omega) (Ev.ite_pos (by omega) ?_))
    rw [rdT_nat fs i (by omega), wrap64_id (n := (i : Int) + 1) (by omega) (by omega), wrap64_id (n := (n : Int) + 1) (by omega) (by omega), List.drop_eq_getElem_cons (show i < fs.length by omega), valsF_cons]
    refine Ev.bind (rsame_ev _ _ (by omega)) ?_
    by_cases hc : lowL fs[i].f0 = lowL key
    · refine Ev.ite_pos (by simpa using hc) ?_
      rw [if_pos hc]
      by_cases h0 : n = 0
      · subst h0
        refine Ev.ite_pos rfl (Ev.is (rfield_loop m t mi key fs hf d (i + 1) fs[i].f1 1 (by omega) (by omega)) ?_)
        simp; omega
      · refine Ev.ite_neg (by omega) (Ev.is (rfield_loop m t mi key fs hf d (i + 1) v (n + 1) (by omega) (by omega)) ?_)
        simp [h0]; omega
    · refine Ev.ite_neg (by simpa using hc) ?_
      rw [if_neg hc, List.nil_append]
      exact rfield_loop m t mi key fs hf d (i + 1) v n (by omega) (by omega)
theorem rfield_ev (m t : ByteArray) (mi : Int) (fs : List SF) (key : ByteArray) (hf : Small fs) : Ev (fun k => ostiaryref13_Field.f k m t mi fs key) (fieldP fs key) := by
  unfold ostiaryref13_Field.f
  refine Ev.is (rfield_loop m t mi key fs hf fs.length 0 (⟨#[]⟩ : ByteArray) 0 (by omega) (by omega)) ?_
  simp [fieldP]
def HOST : ByteArray := ⟨#[104, 111, 115, 116]⟩
def hostsP (mi : Int) (fs : List SF) : Bool := (valsF fs HOST).length == 1 || ((valsF fs HOST).length == 0 && mi == 0)
theorem hosts_of {mi : Int} {fs : List SF} {f : Nat → Option (ByteArray × Int)} (h : Ev f (fieldP fs HOST)) : Ev (fun k => (f k).bind fun bt149 => (if bt149.2 = 1 then (some true) else (if bt149.2 = 0 then (some (mi == 0)) else (some false)))) (hostsP mi fs) := by
  refine Ev.bind h ?_
  unfold fieldP hostsP
  by_cases h1 : (valsF fs HOST).length = 1
  · exact Ev.ite_pos (by show ((valsF fs HOST).length : Int) = 1; omega) (Ev.is (Ev.now true) (by simp [h1]))
  · refine Ev.ite_neg (by show ¬ ((valsF fs HOST).length : Int) = 1; omega) ?_
    by_cases h0 : (valsF fs HOST).length = 0
    · exact Ev.ite_pos (by show ((valsF fs HOST).length : Int) = 0; omega) (Ev.is (Ev.now _) (by simp [h0]))
    · exact Ev.ite_neg (by show ¬ ((valsF fs HOST).length : Int) = 0; omega) (Ev.is (Ev.now false) (by simp [h1]; intro e; exact absurd (by rw [e]; rfl) h0))
theorem hhosts_ev (m t : ByteArray) (mi : Int) (fs : List SF) (hf : Small fs) : Ev (fun k => head_hosts.f k m t mi fs) (hostsP mi fs) := by
  unfold head_hosts.f
  exact hosts_of (hfield_ev m t mi fs HOST hf (by decide))
theorem rhosts_ev (m t : ByteArray) (mi : Int) (fs : List SF) (hf : Small fs) : Ev (fun k => ostiaryref13_hosts.f k m t mi fs) (hostsP mi fs) := by
  unfold ostiaryref13_hosts.f
  exact hosts_of (rfield_ev m t mi fs HOST hf)

end Go.Proofs.YtnhpcpmgedjffaaGreatDoor.P
end
section
namespace Go.Proofs.YtnhpcpmgedjffaaGreatDoor.P
open Go.RowKit Go.Proofs.YtnhpcpmgedjffaaGreatDoorW.PrintWords Go.Proofs.YtnhpcpmgedjffaaGreatDoorW.PrintLast Go.Proofs.YtnhpcpmgedjffaaGreatDoorW.PrintMore Go.Proofs.YtnhpcpmgedjffaaGreatDoorX
set_option linter.unusedVariables false
set_option linter.unusedSimpArgs false
structure Sml (fs : List SF) : Prop where
  len : fs.length ≤ 100
  sz : ∀ f ∈ fs, f.f0.size ≤ 100000 ∧ f.f1.size ≤ 100000
theorem Sml.small {fs : List SF} (h : Sml fs) : Small fs := ⟨by have := h.len; omega, fun f hf => by have := (h.sz f hf).1; omega⟩
def okF (f : SF) : Bool := wordF (bytesOf f.f0) 64 && valP f.f1
theorem drop_cons (fs : List SF) (i : Nat) (h : i < fs.length) : fs.drop i = fs[i] :: fs.drop (i + 1) := List.drop_eq_getElem_cons h
def totF (fs : List SF) : Nat := (fs.map (fun f => f.f0.size + f.f1.size)).sum
theorem totF_cons (f : SF) (fs : List SF) : totF (f :: fs) = f.f0.size + f.f1.size + totF fs := by simp [totF]
theorem totF_mem {fs : List SF} {f : SF} (h : f ∈ fs) : f.f0.size + f.f1.size ≤ totF fs := by
  induction fs with
  | nil => cases h
  | cons g fs ih =>
    rw [totF_cons]
    rcases List.mem_cons.1 h with rfl | h
    · omega
    · have := ih h; omega
theorem long_loop (fs : List SF) (most : Int) (hs : ∀ f ∈ fs, f.f0.size ≤ 140737488351232 ∧ f.f1.size ≤ 140737488351232) (hl : fs.length ≤ 4611686018427387904) : ∀ (d i n : Nat), i + d = fs.length → n ≤ 300000000000000 →
    ∃ b, Ev (fun k => ostiarykit_LongFields.l0 k fs most (n : Int) (i : Int)) b ∧ (b = false → (fs.length : Int) ≤ most ∧ n + totF (fs.drop i) ≤ 6000)
  | 0, i, n, h, hn => by
    have hd : fs.drop i = [] := List.drop_eq_nil_of_le (by omega)
    rw [hd]
    by_cases h1 : (fs.length : Int) > most
    · exact ⟨true, Ev.step (fun k => by rw [ostiarykit_LongFields.l0]) (Ev.ite_neg (by omega) (Ev.ite_pos h1 (Ev.now _))), by simp⟩
    · refine ⟨decide ((n : Int) > 6000), Ev.step (fun k => by rw [ostiarykit_LongFields.l0]) (Ev.ite_neg (by omega) (Ev.ite_neg h1 (Ev.now _))), fun h2 => ⟨by omega, ?_⟩⟩
      simp at h2
      simp [totF]; omega
  | d + 1, i, n, h, hn => by
    have hi : i < fs.length := by omega
    by_cases h6 : (n : Int) ≤ 6000
    · have hm := hs fs[i] (List.getElem_mem hi)
      obtain ⟨b, hb, hb2⟩ := long_loop fs most hs hl d (i + 1) (n + fs[i].f0.size + fs[i].f1.size) (by omega) (by omega)
      refine ⟨b, Ev.step (fun k => by rw [ostiarykit_LongFields.l0]) (Ev.ite_pos (by omega) (Ev.ite_pos h6 (Ev.ite_pos (by omega) ?_))), fun h2 => ?_⟩
      · rw [rdT_nat fs i hi, wrap64_id (n := (n : Int) + _) (by omega) (by omega), wrap64_id (n := (n : Int) + _ + _) (by omega) (by omega), wrap64_id (n := (i : Int) + 1) (by omega) (by omega)]
        exact_mod_cast hb
      · obtain ⟨h3, h4⟩ := hb2 h2
        refine ⟨h3, ?_⟩
        rw [drop_cons fs i hi, totF_cons]
        omega
    · by_cases h1 : (fs.length : Int) > most
      · exact ⟨true, Ev.step (fun k => by rw [ostiarykit_LongFields.l0]) (Ev.ite_pos (by omega) (Ev.ite_neg h6 (Ev.ite_pos h1 (Ev.now _)))), by simp⟩
      · refine ⟨decide ((n : Int) > 6000), Ev.step (fun k => by rw [ostiarykit_LongFields.l0]) (Ev.ite_pos (by omega) (Ev.ite_neg h6 (Ev.ite_neg h1 (Ev.now _)))), fun h2 => ?_⟩
        simp at h2; omega
theorem long_ev (fs : List SF) (most : Int) (hs : ∀ f ∈ fs, f.f0.size ≤ 140737488351232 ∧ f.f1.size ≤ 140737488351232) (hl : fs.length ≤ 4611686018427387904) :
    ∃ b, Ev (fun k => ostiarykit_LongFields.f k fs most) b ∧ (b = false → (fs.length : Int) ≤ most ∧ totF fs ≤ 6000) := by
  obtain ⟨b, h1, h2⟩ := long_loop fs most hs hl fs.length 0 0 (by omega) (by omega)
  exact ⟨b, h1, fun h => by simpa using h2 h⟩
theorem sml_of {fs : List SF} {most : Int} (hm : most ≤ 100) (h1 : (fs.length : Int) ≤ most) (h2 : totF fs ≤ 6000) : Sml fs :=
  ⟨by omega, fun f hf => by have := totF_mem hf; omega⟩
def fineP (m t : ByteArray) (mi : Int) (fs : List SF) : Bool := wordF (bytesOf m) 16 && (decide (t.size ≤ 2048) && (tgtP t && (decide (0 ≤ mi) && (decide (mi ≤ 1) && (decide (fs.length ≤ 32) && (fs.all okF && hostsP mi fs))))))
theorem hfine_loop (m t : ByteArray) (mi : Int) (fs : List SF) (hf : Sml fs) : ∀ (d i : Nat), i + d = fs.length → Ev (fun k => head_fine.l0 k fs (fs.length : Int) (i : Int) m t mi fs) ((fs.drop i).all okF && hostsP mi fs)
  | 0, i, h => by
    have hd : fs.drop i = [] := List.drop_eq_nil_of_le (by omega)
    refine Ev.step (fun k => by rw [head_fine.l0]) (Ev.ite_neg (by omega) (Ev.bind (hhosts_ev m t mi fs hf.small) (Ev.is (Ev.now _) ?_)))
    rw [hd]; simp
  | d + 1, i, h => by
    have hi : i < fs.length := by omega
    have hl := hf.len
    have hsz := hf.sz fs[i] (List.getElem_mem hi)
    refine Ev.step (fun k => by rw [head_fine.l0]) (Ev.ite_pos (by omega) (Ev.ite_pos (by omega) (Ev.ite_pos (by omega) ?_)))
    rw [rdT_nat fs i hi, drop_cons fs i hi, List.all_cons, wrap64_id (by omega) (by omega)]
    refine Ev.some_bind (hword_eq fs[i].f0 64 (by omega)) ?_
    by_cases h1 : wordF (bytesOf fs[i].f0) 64 = true
    · refine Ev.ite_pos h1 (Ev.bind (hvalue_ev fs[i].f1 (by omega)) ?_)
      by_cases h2 : valP fs[i].f1 = true
      · refine Ev.ite_pos h2 (Ev.is (hfine_loop m t mi fs hf d (i + 1) (by omega)) ?_)
        simp [okF, h1, h2]
      · exact Ev.ite_neg h2 (Ev.is (Ev.now _) (by simp [okF, h2]))
    · exact Ev.ite_neg h1 (Ev.is (Ev.now _) (by simp [okF, h1]))
theorem hfine_j (m t : ByteArray) (mi : Int) (fs : List SF) : Ev (fun k => head_fine.j0 k true m t mi fs) false := Ev.step (fun k => by rw [head_fine.j0]) (Ev.ite_pos rfl (Ev.now _))
theorem hfine_ev (m t : ByteArray) (mi : Int) (fs : List SF) (hm : m.size ≤ 100000) (ht : t.size ≤ 100000) (hf : Sml fs) : Ev (fun k => head_fine.f k m t mi fs) (fineP m t mi fs) := by
  unfold head_fine.f fineP
  refine Ev.some_bind (hword_eq m 16 (by omega)) ?_
  by_cases h1 : wordF (bytesOf m) 16 = true
  · refine Ev.ite_pos h1 ?_
    by_cases h2 : (t.size : Int) > 2048
    · exact Ev.ite_pos h2 (Ev.is (hfine_j m t mi fs) (by simp [show ¬ t.size ≤ 2048 by omega]))
    · refine Ev.ite_neg h2 (Ev.bind (htarget_ev t (by omega)) ?_)
      by_cases h3 : tgtP t = true
      · refine Ev.ite_pos h3 ?_
        by_cases h4 : mi < 0
        · exact Ev.ite_pos h4 (Ev.is (hfine_j m t mi fs) (by simp [show ¬ 0 ≤ mi by omega]))
        · refine Ev.ite_neg h4 ?_
          by_cases h5 : mi > 1
          · exact Ev.ite_pos h5 (Ev.is (hfine_j m t mi fs) (by simp [show ¬ mi ≤ 1 by omega]))
          · refine Ev.ite_neg h5 ?_
            by_cases h6 : (fs.length : Int) > 32
            · rw [decide_eq_true h6]
              exact Ev.is (hfine_j m t mi fs) (by simp [show ¬ fs.length ≤ 32 by omega])
            · rw [decide_eq_false h6]
              refine Ev.step (fun k => by rw [head_fine.j0]) ?_
              refine Ev.ite_neg (by decide) ?_
              refine Ev.is (hfine_loop m t mi fs hf fs.length 0 (by omega)) ?_
              simp [h1, h3, show t.size ≤ 2048 by omega, show 0 ≤ mi by omega, show mi ≤ 1 by omega, show fs.length ≤ 32 by omega]
      · exact Ev.ite_neg h3 (Ev.is (hfine_j m t mi fs) (by simp [h3]))
  · exact Ev.ite_neg h1 (Ev.is (hfine_j m t mi fs) (by simp [h1]))
theorem flat_len (fs : List SF) (hf : ∀ f ∈ fs, f.f0.size ≤ 100000 ∧ f.f1.size ≤ 100000) : (fs.flatMap hfield).length ≤ fs.length * 200004 := by
  induction fs with
  | nil => simp
  | cons f fs ih =>
    have h1 := hf f (by simp)
    have h2 := ih (fun g hg => hf g (by simp [hg]))
    simp only [List.flatMap_cons, List.length_append, hfield, bytesOf_length, List.length_cons, List.length_nil]
    omega
theorem hbytes_len (m t : ByteArray) (mi : Int) (fs : List SF) (hm : m.size ≤ 100000) (ht : t.size ≤ 100000) (hf : Sml fs) : (hbytes m t mi fs).length ≤ 30000000 := by
  have h1 := flat_len fs hf.sz
  have h2 := hf.len
  simp only [hbytes, hhead, List.length_append, bytesOf_length, List.length_cons, List.length_nil]
  omega
def headW (m t : ByteArray) (mi : Int) (fs : List SF) : List Int × Int := if fineP m t mi fs = true then (if (hbytes m t mi fs).length > 4096 then ([], 2) else (hbytes m t mi fs, 0)) else ([], 2)
theorem fineP_mi {m t : ByteArray} {mi : Int} {fs : List SF} (h : fineP m t mi fs = true) : mi = 0 ∨ mi = 1 := by
  simp only [fineP, Bool.and_eq_true, decide_eq_true_eq] at h
  omega
theorem hwrite_ev (m t : ByteArray) (mi : Int) (fs : List SF) (hm : m.size ≤ 100000) (ht : t.size ≤ 100000) (hf : Sml fs) : Ev (fun k => head_Write.f k m t mi fs) (headW m t mi fs) := by
  unfold head_Write.f headW
  refine Ev.bind (hfine_ev m t mi fs hm ht hf) ?_
  by_cases h1 : fineP m t mi fs = true
  · have hb : head_bytes.f m t mi fs = some (hbytes m t mi fs) := by
      unfold head_bytes.f
      rw [if_pos ⟨fineP_mi h1, by have := hbytes_len m t mi fs hm ht hf; omega⟩]
    by_cases h2 : (hbytes m t mi fs).length > 4096
    · exact Ev.is (Ev.ite_pos h1 (Ev.some_bind hb (Ev.ite_pos (by omega) (Ev.now _)))) (by rw [if_pos h1, if_pos h2])
    · exact Ev.is (Ev.ite_pos h1 (Ev.some_bind hb (Ev.ite_neg (by omega) (Ev.now _)))) (by rw [if_pos h1, if_neg h2])
  · exact Ev.is (Ev.ite_neg h1 (Ev.now _)) (by rw [if_neg h1])
theorem hcheck_ev (m t : ByteArray) (mi : Int) (fs : List SF) (hm : m.size ≤ 100000) (ht : t.size ≤ 100000) (hf : Sml fs) : Ev (fun k => head_Check.f k m t mi fs) (headW m t mi fs).2 := by
  unfold head_Check.f
  exact Ev.bind (hwrite_ev m t mi fs hm ht hf) (Ev.now _)
theorem itoa01 {mi : Int} (h : mi = 0 ∨ mi = 1) : strconv_Itoa_77.f mi = some (mkB [UInt8.ofNat (48 + mi.toNat)]) := by
  rcases h with rfl | rfl <;> (unfold strconv_Itoa_77.f; rw [if_pos (by decide)]; kernel_rfl)
theorem rbytes_loop (m t : ByteArray) (mi : Int) (fs : List SF) (hl : fs.length ≤ 100) : ∀ (d i : Nat) (x : ByteArray), i + d = fs.length → x.size + ((fs.drop i).flatMap hfield).length ≤ 60000000 →
    Ev (fun k => ostiaryref13_bytes.l0 k x (i : Int) m t mi fs) (bytesOf x ++ (fs.drop i).flatMap hfield ++ [13, 10])
  | 0, i, x, h, hx => by
    have hd : fs.drop i = [] := List.drop_eq_nil_of_le (by omega)
    rw [hd] at hx ⊢
    refine Ev.step (fun k => by rw [ostiaryref13_bytes.l0]) (Ev.ite_neg (by omega) (Ev.ite_pos (by omega) (Ev.ite_pos (by rw [ByteArray.size_append]; show x.size + 2 ≤ _; omega) (Ev.is (Ev.now _) ?_))))
    rw [bytesOf_append]
    simp; rfl
  | d + 1, i, x, h, hx => by
    have hi : i < fs.length := by omega
    have hx2 := hx
    rw [drop_cons fs i hi, List.flatMap_cons, List.length_append] at hx2
    simp only [hfield, List.length_append, bytesOf_length, List.length_cons, List.length_nil] at hx2
    have e1 : (⟨#[58, 32]⟩ : ByteArray).size = 2 := rfl
    have e2 : (⟨#[13, 10]⟩ : ByteArray).size = 2 := rfl
    refine Ev.step (fun k => by rw [ostiaryref13_bytes.l0]) ?_
    rw [rdT_nat fs i hi, wrap64_id (by omega) (by omega)]
    refine Ev.ite_pos (by omega) (Ev.ite_pos (by omega) (Ev.ite_pos (by omega) (Ev.ite_pos (by simp only [ByteArray.size_append]; omega) (Ev.ite_pos (by simp only [ByteArray.size_append, e1]; omega) (Ev.ite_pos (by simp only [ByteArray.size_append, e1]; omega) ?_)))))
    refine Ev.is (rbytes_loop m t mi fs hl d (i + 1) _ (by omega) (by simp only [ByteArray.size_append, e1, e2]; omega)) ?_
    rw [drop_cons fs i hi, List.flatMap_cons]
    simp only [bytesOf_append, hfield, List.append_assoc]
    rfl
theorem rbytes_ev (m t : ByteArray) (mi : Int) (fs : List SF) (hm : m.size ≤ 100000) (ht : t.size ≤ 100000) (hf : Sml fs) (hmi : mi = 0 ∨ mi = 1) : Ev (fun k => ostiaryref13_bytes.f k m t mi fs) (hbytes m t mi fs) := by
  have h1 := flat_len fs hf.sz
  have h2 := hf.len
  have e1 : (⟨#[32]⟩ : ByteArray).size = 1 := rfl
  have e2 : (⟨#[32, 72, 84, 84, 80, 47, 49, 46]⟩ : ByteArray).size = 8 := rfl
  have e3 : (mkB [UInt8.ofNat (48 + mi.toNat)]).size = 1 := rfl
  have e4 : (⟨#[13, 10]⟩ : ByteArray).size = 2 := rfl
  unfold ostiaryref13_bytes.f
  refine Ev.ite_pos (by omega) (Ev.ite_pos (by simp only [ByteArray.size_append, e1]; omega) (Ev.ite_pos (by simp only [ByteArray.size_append, e1]; omega) (Ev.some_bind (itoa01 hmi) (Ev.ite_pos (by simp only [ByteArray.size_append, e1, e2, e3]; omega) (Ev.ite_pos (by simp only [ByteArray.size_append, e1, e2, e3]; omega) ?_)))))
  refine Ev.is (rbytes_loop m t mi fs h2 fs.length 0 _ (by omega) (by simp only [ByteArray.size_append, e1, e2, e3, e4, List.drop_zero]; omega)) ?_
  rw [List.drop_zero]
  simp only [hbytes, hhead, bytesOf_append, List.append_assoc]
  rcases hmi with rfl | rfl <;> rfl
theorem rcheck_loop (m t : ByteArray) (mi : Int) (fs : List SF) (hm : m.size ≤ 100000) (ht : t.size ≤ 100000) (hf : Sml fs) (hmi : mi = 0 ∨ mi = 1) : ∀ (d i : Nat), i + d = fs.length →
    Ev (fun k => ostiaryref13_Check.l0 k (i : Int) m t mi fs) (if ((fs.drop i).all okF && hostsP mi fs) = true then (if (hbytes m t mi fs).length > 4096 then 2 else 0) else 2)
  | 0, i, h => by
    have hd : fs.drop i = [] := List.drop_eq_nil_of_le (by omega)
    rw [hd]
    refine Ev.step (fun k => by rw [ostiaryref13_Check.l0]) (Ev.ite_neg (by omega) (Ev.bind (rhosts_ev m t mi fs hf.small) ?_))
    by_cases h1 : hostsP mi fs = true
    · rw [if_pos (by simpa using h1)]
      refine Ev.ite_pos h1 (Ev.bind (rbytes_ev m t mi fs hm ht hf hmi) ?_)
      by_cases h2 : (hbytes m t mi fs).length > 4096
      · rw [if_pos h2]; exact Ev.ite_pos (by omega) (Ev.now _)
      · rw [if_neg h2]; exact Ev.ite_neg (by omega) (Ev.now _)
    · rw [if_neg (by simpa using h1)]; exact Ev.ite_neg h1 (Ev.now _)
  | d + 1, i, h => by
    have hi : i < fs.length := by omega
    have hl := hf.len
    have hsz := hf.sz fs[i] (List.getElem_mem hi)
    refine Ev.step (fun k => by rw [ostiaryref13_Check.l0]) (Ev.ite_pos (by omega) (Ev.ite_pos (by omega) ?_))
    rw [rdT_nat fs i hi, drop_cons fs i hi, List.all_cons, wrap64_id (by omega) (by omega)]
    refine Ev.bind (rword_ev fs[i].f0 64 (by omega)) ?_
    by_cases h1 : wordF (bytesOf fs[i].f0) 64 = true
    · refine Ev.ite_pos h1 (Ev.bind (rvalue_ev fs[i].f1 (by omega)) ?_)
      by_cases h2 : valP fs[i].f1 = true
      · refine Ev.ite_pos h2 (Ev.is (rcheck_loop m t mi fs hm ht hf hmi d (i + 1) (by omega)) ?_)
        simp [okF, h1, h2]
      · exact Ev.ite_neg h2 (Ev.is (Ev.now _) (by simp [okF, h2]))
    · exact Ev.ite_neg h1 (Ev.is (Ev.now _) (by simp [okF, h1]))
theorem rcheck_j (m t : ByteArray) (mi : Int) (fs : List SF) : Ev (fun k => ostiaryref13_Check.j0 k true m t mi fs) 2 := Ev.step (fun k => by rw [ostiaryref13_Check.j0]) (Ev.ite_pos rfl (Ev.now _))
theorem headW_bad {m t : ByteArray} {mi : Int} {fs : List SF} (h : fineP m t mi fs = false) : (headW m t mi fs).2 = 2 := by unfold headW; rw [h]; rfl
theorem rcheck_ev (m t : ByteArray) (mi : Int) (fs : List SF) (hm : m.size ≤ 100000) (ht : t.size ≤ 100000) (hf : Sml fs) : Ev (fun k => ostiaryref13_Check.f k m t mi fs) (headW m t mi fs).2 := by
  unfold ostiaryref13_Check.f
  refine Ev.bind (rword_ev m 16 (by omega)) ?_
  by_cases h1 : wordF (bytesOf m) 16 = true
  · refine Ev.ite_pos h1 (Ev.bind (rtarget_ev t (by omega)) ?_)
    by_cases h3 : tgtP t = true
    · refine Ev.ite_pos h3 ?_
      by_cases h2 : (t.size : Int) > 2048
      · exact Ev.ite_pos h2 (Ev.is (rcheck_j m t mi fs) (headW_bad (by simp [fineP, show ¬ t.size ≤ 2048 by omega])).symm)
      · refine Ev.ite_neg h2 ?_
        by_cases h4 : mi < 0
        · exact Ev.ite_pos h4 (Ev.is (rcheck_j m t mi fs) (headW_bad (by simp [fineP, show ¬ 0 ≤ mi by omega])).symm)
        · refine Ev.ite_neg h4 ?_
          by_cases h5 : mi > 1
          · exact Ev.ite_pos h5 (Ev.is (rcheck_j m t mi fs) (headW_bad (by simp [fineP, show ¬ mi ≤ 1 by omega])).symm)
          · refine Ev.ite_neg h5 ?_
            by_cases h6 : (fs.length : Int) > 32
            · rw [decide_eq_true h6]
              exact Ev.is (rcheck_j m t mi fs) (headW_bad (by simp [fineP, show ¬ fs.length ≤ 32 by omega])).symm
            · rw [decide_eq_false h6]
              refine Ev.step (fun k => by rw [ostiaryref13_Check.j0]) ?_
              refine Ev.ite_neg (by decide) ?_
              refine Ev.is (rcheck_loop m t mi fs hm ht hf (by omega) fs.length 0 (by omega)) ?_
              rw [List.drop_zero]
              unfold headW fineP
              simp only [h1, h3, show t.size ≤ 2048 by omega, show 0 ≤ mi by omega, show mi ≤ 1 by omega, show fs.length ≤ 32 by omega, decide_true, Bool.true_and]
              split
              · split <;> rfl
              · rfl
    · exact Ev.ite_neg h3 (Ev.is (rcheck_j m t mi fs) (headW_bad (by simp [fineP, h3])).symm)
  · exact Ev.ite_neg h1 (Ev.is (rcheck_j m t mi fs) (headW_bad (by simp [fineP, h1])).symm)
theorem rwrite_ev (m t : ByteArray) (mi : Int) (fs : List SF) (hm : m.size ≤ 100000) (ht : t.size ≤ 100000) (hf : Sml fs) : Ev (fun k => ostiaryref13_Write.f k m t mi fs) (headW m t mi fs) := by
  unfold ostiaryref13_Write.f
  refine Ev.bind (rcheck_ev m t mi fs hm ht hf) ?_
  by_cases h1 : fineP m t mi fs = true
  · by_cases h2 : (hbytes m t mi fs).length > 4096
    · have e : headW m t mi fs = ([], 2) := by unfold headW; rw [if_pos h1, if_pos h2]
      rw [e]; exact Ev.ite_neg (by decide) (Ev.now _)
    · have e : headW m t mi fs = (hbytes m t mi fs, 0) := by unfold headW; rw [if_pos h1, if_neg h2]
      rw [e]; exact Ev.ite_pos rfl (Ev.bind (rbytes_ev m t mi fs hm ht hf (fineP_mi h1)) (Ev.now _))
  · have e : headW m t mi fs = ([], 2) := by unfold headW; rw [if_neg h1]
    rw [e]; exact Ev.ite_neg (by decide) (Ev.now _)
end Go.Proofs.YtnhpcpmgedjffaaGreatDoor.P
end
section
namespace Go.Proofs.YtnhpcpmgedjffaaGreatDoorX
open Go.RowKit Go.Proofs.YtnhpcpmgedjffaaGreatDoorW.PrintWords Go.Proofs.YtnhpcpmgedjffaaGreatDoorW.PrintLast Go.Proofs.YtnhpcpmgedjffaaGreatDoorW.PrintMore
set_option linter.unusedVariables false
set_option linter.unusedSimpArgs false
theorem MRow.full {w : World} {g cap : Nat} {l : List Int} (h : MRow w g cap l) : ∃ l' : List Int, l'.length = cap ∧ MRow w g cap l' := by
  refine ⟨(List.range cap).map (fun i => if hi : i < cap then (h.ints i hi).choose else 0), by simp, h.lt, by simp, h.capLe, fun i hi => ?_, h.ints, h.free⟩
  have hi' : i < cap := by simpa using hi
  have := (h.ints i hi').choose_spec
  rw [this]
  simp [List.getD_eq_getElem?_getD, hi']
theorem grownBy_set {w W : World} {g : Nat} (h : w.grownBy W (some g)) (k : Nat) (v : Value) : w.grownBy (W.setCell ⟨g, k, none⟩ v) (some g) :=
  ⟨h.os, h.tape, h.output, by simpa using h.size, fun i hi hne => (Below.heap_setCell W _ v i (fun e => hne (by rw [e]))).trans (h.block i hi hne)⟩
set_option maxHeartbeats 1000000 in
set_option maxRecDepth 100000 in
theorem over_row (g n cap : Nat) (l : List Int) (w : World) (hm : MRow w g cap l) (hl : l.length = cap) (hn : n ≤ cap) :
    Calls Tryz.prog 28 #[.slice (some ⟨g, 0, none⟩) n cap] w fun e w' => e = .returned (.tuple #[]) ∧ w.grownBy w' (some g) := by
  have hcap := hm.capLe
  have HM := Aside0.mk hm
  clear hm
  go_enter Tryz.func28, Tryz.ntmps28
  go_wp2
  go_loopw [3] (fun v3 wr => ∃ (k : Nat) (l' : List Int), k ≤ cap ∧ v3 = .int .i64 k ∧ l'.length = cap ∧ Aside0 (MRow wr g cap l') ∧ Aside0 (w.grownBy wr (some g))) (fun v3 _ => cap - (intOf v3).toNat)
  case atStart => exact ⟨0, l, Nat.zero_le _, rfl, hl, HM, ⟨rfl, rfl, rfl, Nat.le_refl _, fun _ _ _ => rfl⟩⟩
  case round =>
    obtain ⟨k, l', hk, rfl, hl', HM, HG⟩ := hrel
    by_cases hlt : k < cap
    · have hx := HM.out.cell k (by omega)
      have hf := HM.out.free k hlt
      obtain ⟨c, hc⟩ : ∃ c, l'.getD k 0 = c := ⟨_, rfl⟩
      rw [hc] at hx
      have Hst := Aside0.mk (HM.out.set k (by omega) (Go.bits .xor .u8 c 90))
      have HG2 := Aside0.mk (grownBy_set HG.out k (.int .u8 (Go.bits .xor .u8 c 90)))
      clear hc HM HG
      have Hl' := Aside0.mk hl'
      clear hl'
      go_wp2
      go_roundw
      case measure => simp [intOf]; omega
      case rel => exact ⟨k + 1, _, by omega, by go_num, by rw [List.length_set]; exact Hl'.out, Hst, HG2⟩
    · go_wp2
      go_end0
      exact ⟨rfl, HG.out⟩
theorem over_calls (g n cap : Nat) (l : List Int) (w : World) (hm : MRow w g cap l) (hn : n ≤ cap) :
    Calls Tryz.prog 28 #[.slice (some ⟨g, 0, none⟩) n cap] w fun e w' => e = .returned (.tuple #[]) ∧ w.grownBy w' (some g) := by
  obtain ⟨l', hl, hm'⟩ := hm.full
  exact over_row g n cap l' w hm' hl hn
set_option maxHeartbeats 1000000 in
theorem over_nil (w : World) :
    Calls Tryz.prog 28 #[.slice none 0 0] w fun e w' => e = .returned (.tuple #[]) ∧ w = w' := by
  go_enter Tryz.func28, Tryz.ntmps28
  go_wp2
  go_loopw [3] (fun v3 wr => v3 = .int .i64 0 ∧ wr = w) (fun _ _ => 0)
  case atStart => exact ⟨rfl, rfl⟩
  case round =>
    obtain ⟨rfl, rfl⟩ := hrel
    go_wp2
    go_end0
    exact ⟨rfl, rfl⟩
end Go.Proofs.YtnhpcpmgedjffaaGreatDoorX
end
section
namespace Go.Proofs.YtnhpcpmgedjffaaGreatDoorX
open Go.RowKit Go.Proofs.YtnhpcpmgedjffaaGreatDoorW.PrintWords Go.Proofs.YtnhpcpmgedjffaaGreatDoorW.PrintLast Go.Proofs.YtnhpcpmgedjffaaGreatDoorW.PrintMore
set_option linter.unusedVariables false
set_option linter.unusedSimpArgs false

attribute [local go_sem ↓] Go.wp_at_zero Go.wp_at_succ
def mark (i : Nat) : Int := 160 + (i : Int) % 90
def marks (n : Nat) : List Int := [mark n, mark (n + 1), mark (n + 2)]
def room (n k : Nat) : List Int := (marks n).take k ++ List.replicate (3 - k) 0
section
variable {P : Program} {ops : Array Oper} {Q : Exit → Act → World → Prop} {o : Oper} {rest : List Oper} {a : Act}
end
set_option maxHeartbeats 1000000 in
theorem sameBytes_calls (A0 A1 : Option Addr) (n0 n1 c0 c1 : Nat) (l0 l1 : List Int) (w : World) (hr0 : Kd.C (Kd.int .u8) w A0 n0 l0) (hr1 : Kd.C (Kd.int .u8) w A1 n1 l1) :
    Calls Tryz.prog 27 #[.slice A0 n0 c0, .slice A1 n1 c1] w fun e w' => e = .returned (.bool ((strOfNums l0).toList == (strOfNums l1).toList)) ∧ w = w' := by
  have hcv0 := Kd.C_string (P := Tryz.prog) (c := c0) Tryz.underlying22 Tryz.underlying5 Tryz.underlying9 hr0
  have hcv1 := Kd.C_string (P := Tryz.prog) (c := c1) Tryz.underlying22 Tryz.underlying5 Tryz.underlying9 hr1
  clear hr0 hr1
  go_enter Tryz.func27, Tryz.ntmps27
  go_wp2
  go_ret
  exact ⟨rfl, rfl⟩
end Go.Proofs.YtnhpcpmgedjffaaGreatDoorX
end
section
namespace Go.Proofs.YtnhpcpmgedjffaaGreatDoor.P
open Go Go.RowKit Go.Deep Go.Joins Go.ChangeShapes Go.WideShapes Go.ChangeAt Go.Proofs.YtnhpcpmgedjffaaGreatDoorW.PrintWords Go.Proofs.YtnhpcpmgedjffaaGreatDoorW.PrintLast Go.Proofs.YtnhpcpmgedjffaaGreatDoorW.PrintMore Go.Proofs.YtnhpcpmgedjffaaGreatDoorX
set_option linter.unusedVariables false
set_option linter.unusedSimpArgs false
def Opens {α : Type} (P : Program) (t : TypeId) (d : Kd α) (Ok : α → Prop) : Prop :=
  ∀ (H : Type) (enc : TypeId × Value → H) (W : World) (base : Nat) (spare : Nat → Bool) (held : Bool) (fuel : Nat) (cs : List Value) (y : DataW H × List MemPlace),
    DataW.trod enc P W base spare held fuel t cs = some y → (∀ n ∈ y.1.weights P t, n ≤ reachBytes) → ∃ x, d.K W x cs ∧ Ok x
theorem opens_string {P : Program} {t : TypeId} (ht : P.underlying t = some .string) : Opens P t Kd.string (fun s => s.size ≤ 140737488351232) := by
  intro H enc W base spare held fuel cs y h hw
  obtain ⟨s, rfl, rfl, _⟩ := DataW.trod_string ht h
  refine ⟨s, rfl, ?_⟩
  have := hw s.data.toList.length (by simp [DataW.weights])
  rw [data_length] at this
  simpa [reachBytes] using this
theorem weights_all {H : Type} {P : Program} {e : TypeId} : ∀ {l : List (DataW H)} {d : DataW H}, d ∈ l → ∀ n ∈ d.weights P e, n ∈ DataW.weightsAll P e l
  | x :: l, d, h, n, hn => by
    unfold DataW.weightsAll
    rcases List.mem_cons.1 h with rfl | h
    · exact List.mem_append.2 (.inl hn)
    · exact List.mem_append.2 (.inr (weights_all h n hn))
theorem add_addn (a : Addr) (i j : Nat) : (a.add i).add j = a.add (i + j) := by
  unfold Addr.add
  rcases i with _ | i <;> rcases j with _ | j <;> simp <;> omega
theorem open_kslice {α : Type} {P : Program} {t e : TypeId} {d : Kd α} {Ok : α → Prop} (ht : P.underlying t = some (.slice e)) (hc : P.cellsOf e = d.sz) (hd : Opens P e d Ok)
    {H : Type} {enc : TypeId × Value → H} {W : World} {base : Nat} {spare : Nat → Bool} {held : Bool} {fuel : Nat} {cs : List Value} {y : DataW H × List MemPlace}
    (h : DataW.trod enc P W base spare held fuel t cs = some y) (hw : ∀ n ∈ y.1.weights P t, n ≤ reachBytes) :
    ∃ A n c xs, cs = [.slice A n c] ∧ n ≤ c ∧ xs.length = n ∧ Kd.C d W A n xs ∧ (∀ x ∈ xs, Ok x) ∧ n * P.bytesOf e ≤ 140737488351232 := by
  rcases open_slice ht h with ⟨rfl, rfl⟩ | ⟨a, len, cap, m, N, D, Pl, rfl, hb, hl, hm, hmm, rfl, hel⟩
  · exact ⟨none, 0, 0, [], rfl, Nat.le_refl _, rfl, Kd.C_nil d W, by simp, by simp⟩
  · have hlm : len ≤ m := by rw [hmm]; split <;> omega
    have hws : ∀ n ∈ (len + (m - len)) * P.bytesOf e :: (DataW.weightsAll P e ((List.range len).map D) ++ DataW.weightsAll P e ((List.range (m - len)).map fun j => D (len + j))), n ≤ reachBytes := by
      intro n hn
      refine hw n ?_
      simp only [DataW.weights, ht, List.length_map, List.length_range]
      exact hn
    have hex : ∀ i : Fin len, ∃ x, Ok x ∧ ∃ c, c.length = d.sz ∧ d.K W x c ∧ ∀ j u, c[j]? = some u → W.cell? (a.add (i.val * d.sz + j)) = some u := by
      intro i
      obtain ⟨c, hcell, htr⟩ := hel i.val (by have := i.isLt; omega)
      obtain ⟨x, hK, hO⟩ := hd H enc W base spare held N c (D i.val, Pl i.val) htr (fun n hn => hws n (List.mem_cons_of_mem _ (List.mem_append.2 (.inl (weights_all (List.mem_map.2 ⟨i.val, by simp, rfl⟩) n hn)))))
      refine ⟨x, hO, c, d.K_len hK, hK, fun j u hu => ?_⟩
      rw [hc] at hcell
      obtain ⟨_, hlen, h2⟩ := World.cells?_some hcell
      have hj := (List.getElem?_eq_some_iff.1 hu).1
      have h3 := h2 j (by omega)
      rw [add_addn] at h3
      rw [h3]; exact hu
    refine ⟨some a, len, cap, List.ofFn (fun i => (hex i).choose), rfl, hl, by simp, ⟨by simp, by unfold maxLen at hm; omega, fun _ => ⟨a, rfl, fun j p hj => ?_⟩⟩, fun x hx => ?_, ?_⟩
    · rw [List.getElem?_ofFn] at hj
      split at hj
      · rename_i hjl
        cases hj
        exact (hex ⟨j, hjl⟩).choose_spec.2
      · cases hj
    · obtain ⟨i, rfl⟩ := List.mem_ofFn.1 hx
      exact (hex i).choose_spec.1
    · have := hws _ (List.mem_cons_self ..)
      have h2 : len * P.bytesOf e ≤ (len + (m - len)) * P.bytesOf e := Nat.mul_le_mul_right _ (by omega)
      have h3 : reachBytes = 140737488351232 := rfl
      omega
set_option maxRecDepth 100000 in
theorem opens_field : Opens Tryz.prog 52 k52 (fun f => f.f0.size ≤ 140737488351232 ∧ f.f1.size ≤ 140737488351232) := by
  intro H enc W base spare held fuel cs y h hw
  obtain ⟨y0, y1, n, rfl, hl, h0, h1⟩ := trod_struct2 Tryz.underlying52 h
  have hl2 : cs.length = 2 := hl.trans (by kernel_rfl)
  match cs, hl2 with
  | [c0, c1], _ =>
    have hc9 : Tryz.prog.cellsOf 9 = 1 := by kernel_rfl
    change DataW.trod enc _ W base spare held n 9 (([c0, c1].drop 0).take (Tryz.prog.cellsOf 9)) = some y0 at h0
    change DataW.trod enc _ W base spare held n 9 (([c0, c1].drop 1).take (Tryz.prog.cellsOf 9)) = some y1 at h1
    rw [hc9] at h0 h1
    simp only [List.drop_zero, List.drop_succ_cons, List.take_succ_cons, List.take_zero] at h0 h1
    obtain ⟨s0, e0, rfl, _⟩ := DataW.trod_string Tryz.underlying9 h0
    obtain ⟨s1, e1, rfl, _⟩ := DataW.trod_string Tryz.underlying9 h1
    simp only [List.cons.injEq, and_true] at e0 e1
    subst e0 e1
    have hw' : ∀ n ∈ [s0.data.toList.length, s1.data.toList.length], n ≤ reachBytes := by
      intro q hq
      refine hw q ?_
      unfold DataW.weights
      rw [Tryz.underlying52]
      show q ∈ DataW.weightsEach Tryz.prog [9, 9] _
      simp only [DataW.weightsEach, DataW.weights]
      simpa using hq
    have a0 := hw' _ (List.mem_cons_self ..)
    have a1 := hw' _ (List.mem_cons_of_mem _ (List.mem_cons_self ..))
    rw [data_length] at a0 a1
    exact ⟨⟨s0, s1⟩, k52_mk W ⟨s0, s1⟩, by simpa [reachBytes] using a0, by simpa [reachBytes] using a1⟩
def FOk (fs : List (S52)) : Prop := fs.length * 32 ≤ 140737488351232 ∧ ∀ f ∈ fs, f.f0.size ≤ 140737488351232 ∧ f.f1.size ≤ 140737488351232
theorem open_fields {H : Type} {enc : TypeId × Value → H} {W : World} {base : Nat} {spare : Nat → Bool} {held : Bool} {fuel : Nat} {v : Value} {y : DataW H × List MemPlace}
    (h : DataW.trod enc Tryz.prog W base spare held fuel 33 [v] = some y) (hw : ∀ n ∈ y.1.weights Tryz.prog 33, n ≤ reachBytes) :
    ∃ A c fs, v = .slice A fs.length c ∧ fs.length ≤ c ∧ Kd.C k52 W A fs.length fs ∧ FOk fs := by
  obtain ⟨A, n, c, xs, hcs, hn, hx, hC, hO, hb⟩ := open_kslice (d := k52) Tryz.underlying33 (by kernel_rfl) opens_field h hw
  subst hx
  simp only [List.cons.injEq, and_true] at hcs
  exact ⟨A, c, xs, hcs, hn, hC, by rw [show Tryz.prog.bytesOf 52 = 32 by kernel_rfl] at hb; exact hb, hO⟩
theorem trod_str {H : Type} {enc : TypeId × Value → H} {W : World} {base : Nat} {spare : Nat → Bool} {held : Bool} {fuel : Nat} {v : Value} {y : DataW H × List MemPlace}
    (h : DataW.trod enc Tryz.prog W base spare held fuel 9 [v] = some y) (hw : ∀ n ∈ y.1.weights Tryz.prog 9, n ≤ reachBytes) : ∃ s : ByteArray, v = .string s ∧ s.size ≤ 140737488351232 := by
  obtain ⟨s, e, hs⟩ := opens_string Tryz.underlying9 H enc W base spare held fuel _ y h hw
  have e' : [v] = [Value.string s] := e
  simp only [List.cons.injEq, and_true] at e'
  exact ⟨s, e', hs⟩
theorem trod_num {H : Type} {enc : TypeId × Value → H} {W : World} {base : Nat} {spare : Nat → Bool} {held : Bool} {fuel : Nat} {v : Value} {y : DataW H × List MemPlace}
    (h : DataW.trod enc Tryz.prog W base spare held fuel 3 [v] = some y) : ∃ n : Int, v = .int .i64 n ∧ -9223372036854775808 ≤ n ∧ n ≤ 9223372036854775807 := by
  obtain ⟨n, e, _, hn⟩ := DataW.trod_int Tryz.underlying3 h
  simp only [List.cons.injEq, and_true] at e
  have h2 : IntKind.i64.min ≤ n ∧ n ≤ IntKind.i64.max := by simpa [Lit.wf] using hn
  exact ⟨n, e, h2.1, h2.2⟩
set_option maxRecDepth 100000 in
theorem open_head {H : Type} {enc : TypeId × Value → H} {W : World} {b0 base : Nat} {spare : Nat → Bool} {held : Bool} {v : Value} {d : DataW H} {p : List MemPlace} {r : Reach}
    (hv : Value.okWide Tryz.prog W r b0 35 v) (h : DataW.Trod enc Tryz.prog W base spare held 35 v d p) (hw : ∀ n ∈ d.weights Tryz.prog 35, n ≤ reachBytes) :
    ∃ (m t : ByteArray) (mi : Int) (A : Option Addr) (c : Nat) (fs : List (S52)), v = .agg #[.string m, .string t, .int .i64 mi, .slice A fs.length c] ∧ fs.length ≤ c ∧ Kd.C k52 W A fs.length fs ∧ FOk fs ∧ m.size ≤ 140737488351232 ∧ t.size ≤ 140737488351232 ∧ -9223372036854775808 ≤ mi ∧ mi ≤ 9223372036854775807 := by
  obtain ⟨v0, v1, v2, v3, y0, y1, y2, y3, n, rfl, rfl, rfl, h0, h1, h2, h3⟩ := open_agg4 Tryz.underlying35 (by kernel_rfl) (by kernel_rfl) hv h
  have hw' : ∀ n ∈ DataW.weightsEach Tryz.prog [9, 9, 3, 33] [y0.1, y1.1, y2.1, y3.1], n ≤ reachBytes := by
    intro q hq
    refine hw q ?_
    unfold DataW.weights
    rw [Tryz.underlying35]
    exact hq
  simp only [DataW.weightsEach, List.mem_append, List.append_nil] at hw'
  obtain ⟨m, rfl, hm⟩ := trod_str h0 (fun q hq => hw' q (.inl hq))
  obtain ⟨t, rfl, ht⟩ := trod_str h1 (fun q hq => hw' q (.inr (.inl hq)))
  obtain ⟨mi, rfl, hmi0, hmi1⟩ := trod_num h2
  obtain ⟨A, c, fs, rfl, hc, hC, hF⟩ := open_fields h3 (fun q hq => hw' q (.inr (.inr (.inr hq))))
  exact ⟨m, t, mi, A, c, fs, rfl, hc, hC, hF, hm, ht, hmi0, hmi1⟩
end Go.Proofs.YtnhpcpmgedjffaaGreatDoor.P
end
section
namespace Go.Proofs.YtnhpcpmgedjffaaGreatDoor.P
open Go.RowKit Go.Proofs.YtnhpcpmgedjffaaGreatDoorW.PrintWords Go.Proofs.YtnhpcpmgedjffaaGreatDoorW.PrintLast Go.Proofs.YtnhpcpmgedjffaaGreatDoorW.PrintMore Go.Proofs.YtnhpcpmgedjffaaGreatDoorX
set_option linter.unusedVariables false
set_option linter.unusedSimpArgs false
def Own8 (W : World) (base : Nat) (v : Value) (l : List Int) : Prop := (v = .slice none 0 0 ∧ l = []) ∨ ∃ g cap, v = .slice (some ⟨g, 0, none⟩) l.length cap ∧ MRow W g cap l ∧ base ≤ g
theorem Own8.reads {W : World} {base : Nat} {v : Value} {l : List Int} (h : Own8 W base v l) : ∃ A c, v = .slice A l.length c ∧ l.length ≤ c ∧ Kd.C (Kd.int .u8) W A l.length l := by
  rcases h with ⟨rfl, rfl⟩ | ⟨g, cap, rfl, hm, _⟩
  · exact ⟨none, 0, rfl, Nat.le_refl _, Kd.C_nil _ W⟩
  · exact ⟨_, cap, rfl, hm.le, hm.C⟩
theorem Own8.below {W W' : World} {base : Nat} {v : Value} {l : List Int} (h : Own8 W base v l) (hb : Below W.heap.size W W') : Own8 W' base v l := by
  rcases h with ⟨rfl, rfl⟩ | ⟨g, cap, rfl, hm, hg⟩
  · exact .inl ⟨rfl, rfl⟩
  · exact .inr ⟨g, cap, rfl, hm.below hb, hg⟩
theorem own8_lt {W : World} {base n cap : Nat} {A : Option Addr} {l : List Int} (h : Own8 W base (.slice A n cap) l) : ∀ a, A = some a → a.block < W.heap.size := by
  rcases h with ⟨e, _⟩ | ⟨g, c, e, hm, _⟩
  · injection e with e1 e2 e3
    subst e1
    intro a h
    cases h
  · injection e with e1 e2 e3
    subst e1
    intro a h
    cases h
    exact hm.lt
theorem blk_lt {W : World} {g : Nat} {o : Obj} (h : W.heap[g]? = some o) : g < W.heap.size := by
  rcases Nat.lt_or_ge g W.heap.size with h1 | h1
  · exact h1
  · rw [Array.getElem?_eq_none h1] at h
    cases h
theorem blk_new_lt (w : World) (o : Obj) : w.heap.size < (w.alloc o).heap.size := by
  show w.heap.size < (w.heap.push _).size
  rw [Array.size_push]
  exact Nat.lt_succ_self _
theorem hfine_calls (m t : ByteArray) (mi : Int) (fs : List SF) (hm : m.size ≤ 100000) (ht : t.size ≤ 100000) (hf : Sml fs) (A : Option Addr) (c : Nat) (w : World) (hr : Kd.C k52 w A fs.length fs) (hc : fs.length ≤ c) :
    Calls Tryz.prog 82 #[.agg #[.string m, .string t, .int .i64 mi, .slice A fs.length c]] w fun e w' => e = .returned (.bool (fineP m t mi fs)) ∧ Below w.heap.size w w' := by
  obtain ⟨k, hk⟩ := (hfine_ev m t mi fs hm ht hf).rounds
  exact head_fine.calls k m t mi A c fs _ w hr hc hk
theorem hbytes_any (m t : ByteArray) (mi : Int) (fs : List SF) (hm : m.size ≤ 100000) (ht : t.size ≤ 100000) (hf : Sml fs) (hmi : mi = 0 ∨ mi = 1) (A : Option Addr) (c : Nat) (w : World) (hr : Kd.C k52 w A fs.length fs) (hc : fs.length ≤ c) :
    Calls Tryz.prog 83 #[.agg #[.string m, .string t, .int .i64 mi, .slice A fs.length c]] w fun e w' => ∃ g cap, e = .returned (.slice (some ⟨g, 0, none⟩) (hbytes m t mi fs).length cap) ∧ MRow w' g cap (hbytes m t mi fs) ∧ w.heap.size ≤ g ∧ Below w.heap.size w w' := by
  have hl := hbytes_len m t mi fs hm ht hf
  rcases hmi with h | h
  · exact hbytes_calls0 m t mi A c fs w hr hc h (by omega)
  · exact hbytes_calls1 m t mi A c fs w hr hc h (by omega)
set_option maxHeartbeats 1000000 in
set_option maxRecDepth 100000 in
theorem hwrite_row (m t : ByteArray) (mi : Int) (fs : List SF) (hm : m.size ≤ 100000) (ht : t.size ≤ 100000) (hf : Sml fs) (A : Option Addr) (c : Nat) (w : World) (hr : Kd.C k52 w A fs.length fs) (hc : fs.length ≤ c) :
    Calls Tryz.prog 33 #[.agg #[.string m, .string t, .int .i64 mi, .slice A fs.length c]] w fun e w' => ∃ v, e = .returned (.tuple #[v, .int .i64 (headW m t mi fs).2]) ∧ Own8 w' w.heap.size v (headW m t mi fs).1 ∧ Below w.heap.size w w' := by
  have HF := Aside0.mk (fun W (hb : Below w.heap.size w W) => hfine_calls m t mi fs hm ht hf A c W (Kd.C_below hr hb) hc)
  have HBY := Aside0.mk (fun W (hb : Below w.heap.size w W) (h : fineP m t mi fs = true) => hbytes_any m t mi fs hm ht hf (fineP_mi h) A c W (Kd.C_below hr hb) hc)
  have HLE := Aside0.mk (hbytes_len m t mi fs hm ht hf)
  clear hm ht hf hr hc
  obtain ⟨n, hn⟩ : ∃ n, n = fs.length := ⟨_, rfl⟩
  rw [← hn] at HF HBY ⊢
  clear hn
  have hu := Tryz.underlying35
  cases hfp : fineP m t mi fs with
  | false =>
    have e : headW m t mi fs = ([], 2) := by unfold headW; rw [hfp]; rfl
    rw [e]
    rw [hfp] at HF
    clear HBY HLE e hfp
    go_enter Tryz.func33, Tryz.ntmps33
    go_wp2_with (first
      | ((with_reducible refine gate_dst (N := 1) rfl ?_); refine box_event ?hg (N := 1) ?hd (cs := #[.string m, .string t, .int .i64 mi, .slice A n c]) (t := 35) ?hr ?_; (case hd => rfl); (case hg => rfl); (case hr => first | (go_simp; done) | (go_simp; rfl)); intro gh hg wb hbox hb; have BK := Aside0.mk hbox; have HB := Aside0.mk hb; clear hbox hb hg; have hx0 := blk_cell BK.out 0; have hx1 := blk_cell BK.out 1; have hx2 := blk_cell BK.out 2; have hx3 := blk_cell BK.out 3; simp at hx0 hx1 hx2 hx3)
      | (go_at_call 82; (with_reducible refine (HF.out _ HB.out).mono ?_); rintro e w1 ⟨rfl, hb⟩; have n0_ := Aside0.mk (blk_below BK.out hb); have n1_ := Aside0.mk (below_step HB.out hb); clear BK HB hb hx0 hx1 hx2 hx3; have BK := n0_; have HB := n1_; clear n0_ n1_; have hx0 := blk_cell BK.out 0; have hx1 := blk_cell BK.out 1; have hx2 := blk_cell BK.out 2; have hx3 := blk_cell BK.out 3; simp at hx0 hx1 hx2 hx3))
    go_ret2
    exact ⟨_, rfl, .inl ⟨rfl, rfl⟩, HB.out⟩
  | true =>
    rw [hfp] at HF
    have HL := Aside0.mk (show headW m t mi fs = if (hbytes m t mi fs).length > 4096 then ([], 2) else (hbytes m t mi fs, 0) by unfold headW; rw [if_pos hfp])
    have HBY2 := Aside0.mk (fun W hb => HBY.out W hb hfp)
    clear HBY hfp
    obtain ⟨L, hL⟩ : ∃ L, L = hbytes m t mi fs := ⟨_, rfl⟩
    rw [← hL] at HL HBY2 HLE
    clear hL
    rw [HL.out]
    have hle := HLE.out
    by_cases h4 : L.length > 4096
    · rw [if_pos h4]
      clear HL
      have h4' : (4096 : Int) < (L.length : Int) := by omega
      go_enter Tryz.func33, Tryz.ntmps33
      go_wp2_with (first
        | ((with_reducible refine gate_dst (N := 1) rfl ?_); refine box_event ?hg (N := 1) ?hd (cs := #[.string m, .string t, .int .i64 mi, .slice A n c]) (t := 35) ?hr ?_; (case hd => rfl); (case hg => rfl); (case hr => first | (go_simp; done) | (go_simp; rfl)); intro gh hg wb hbox hb; have BK := Aside0.mk hbox; have HB := Aside0.mk hb; clear hbox hb hg; have hx0 := blk_cell BK.out 0; have hx1 := blk_cell BK.out 1; have hx2 := blk_cell BK.out 2; have hx3 := blk_cell BK.out 3; simp at hx0 hx1 hx2 hx3)
        | (go_at_call 82; (with_reducible refine (HF.out _ HB.out).mono ?_); rintro e w1 ⟨rfl, hb⟩; have n0_ := Aside0.mk (blk_below BK.out hb); have n1_ := Aside0.mk (below_step HB.out hb); clear BK HB hb hx0 hx1 hx2 hx3; have BK := n0_; have HB := n1_; clear n0_ n1_; have hx0 := blk_cell BK.out 0; have hx1 := blk_cell BK.out 1; have hx2 := blk_cell BK.out 2; have hx3 := blk_cell BK.out 3; simp at hx0 hx1 hx2 hx3)
        | (go_at_call 83; (with_reducible refine (HBY2.out _ HB.out).mono ?_); rintro e w2 ⟨g, cap, rfl, hm2, hg2, hb2⟩; have HM2 := Aside0.mk hm2; have HG2 := Aside0.mk (Nat.le_trans HB.out.size hg2); have HB2 := Aside0.mk (below_step HB.out hb2); clear hm2 hg2 hb2 HB BK hx0 hx1 hx2 hx3))
      go_ret2
      exact ⟨_, rfl, .inl ⟨rfl, rfl⟩, HB2.out⟩
    · rw [if_neg h4]
      clear HL
      have h4' : ¬ (4096 : Int) < (L.length : Int) := by omega
      go_enter Tryz.func33, Tryz.ntmps33
      go_wp2_with (first
        | ((with_reducible refine gate_dst (N := 1) rfl ?_); refine box_event ?hg (N := 1) ?hd (cs := #[.string m, .string t, .int .i64 mi, .slice A n c]) (t := 35) ?hr ?_; (case hd => rfl); (case hg => rfl); (case hr => first | (go_simp; done) | (go_simp; rfl)); intro gh hg wb hbox hb; have BK := Aside0.mk hbox; have HB := Aside0.mk hb; clear hbox hb hg; have hx0 := blk_cell BK.out 0; have hx1 := blk_cell BK.out 1; have hx2 := blk_cell BK.out 2; have hx3 := blk_cell BK.out 3; simp at hx0 hx1 hx2 hx3)
        | (go_at_call 82; (with_reducible refine (HF.out _ HB.out).mono ?_); rintro e w1 ⟨rfl, hb⟩; have n0_ := Aside0.mk (blk_below BK.out hb); have n1_ := Aside0.mk (below_step HB.out hb); clear BK HB hb hx0 hx1 hx2 hx3; have BK := n0_; have HB := n1_; clear n0_ n1_; have hx0 := blk_cell BK.out 0; have hx1 := blk_cell BK.out 1; have hx2 := blk_cell BK.out 2; have hx3 := blk_cell BK.out 3; simp at hx0 hx1 hx2 hx3)
        | (go_at_call 83; (with_reducible refine (HBY2.out _ HB.out).mono ?_); rintro e w2 ⟨g, cap, rfl, hm2, hg2, hb2⟩; have HM2 := Aside0.mk hm2; have HG2 := Aside0.mk (Nat.le_trans HB.out.size hg2); have HB2 := Aside0.mk (below_step HB.out hb2); clear hm2 hg2 hb2 HB BK hx0 hx1 hx2 hx3))
      go_ret2
      exact ⟨_, rfl, .inr ⟨g, cap, rfl, HM2.out, HG2.out⟩, HB2.out⟩
theorem V_move {W W' : World} {e base : Nat} {B : Nat} {v : Value} {l : List Int} (h : Kd.V (Kd.int .u8) e W base (fun k => B ≤ k) v l) (hm : ∀ k, B ≤ k → k < W.heap.size → W'.heap[k]? = W.heap[k]?) : Kd.V (Kd.int .u8) e W' base (fun k => B ≤ k) v l :=
  Kd.V_map h (fun A hf W2 h2 => hf W2 (fun k hk hlt => (h2 k hk (by
    rcases Nat.lt_or_ge k W'.heap.size with h3 | h3
    · exact h3
    · have h4 := hm k hk hlt
      rw [Array.getElem?_eq_none h3] at h4
      rw [Array.getElem?_eq_getElem hlt] at h4
      cases h4)).trans (hm k hk hlt)))
structure QSt (w W : World) (B1 B2 gh gi : Nat) (m t : ByteArray) (mi : Int) (fs : List SF) (A Ai Ay : Option Addr) (c ci cy : Nat) (L : List Int) : Prop where
  hb : Below w.heap.size w W
  bh : W.heap[gh]? = some (.cells #[.string m, .string t, .int .i64 mi, .slice A fs.length c] 35 (0, 0))
  bi : W.heap[gi]? = some (.cells #[.string m, .string t, .int .i64 mi, .slice Ai fs.length ci] 35 (0, 0))
  ri : Kd.R k52 52 W w.heap.size (fun k => k < B1) (.slice Ai fs.length ci) fs
  ry : Kd.V (Kd.int .u8) 5 W w.heap.size (fun k => B2 ≤ k) (.slice Ay L.length cy) L
  lh : gh < B1
  li : gi < B1
  l2 : B1 ≤ B2
  lw : w.heap.size ≤ B1
section
variable {w W W' : World} {B1 B2 gh gi : Nat} {m t : ByteArray} {mi : Int} {fs : List SF} {A Ai Ay : Option Addr} {c ci cy : Nat} {L : List Int}
theorem QSt.step (h : QSt w W B1 B2 gh gi m t mi fs A Ai Ay c ci cy L) (hb : Below W.heap.size W W') : QSt w W' B1 B2 gh gi m t mi fs A Ai Ay c ci cy L :=
  ⟨below_step h.hb hb, blk_below h.bh hb, blk_below h.bi hb, Kd.R_below h.ri hb, Kd.V_below h.ry hb, h.lh, h.li, h.l2, h.lw⟩
theorem QSt.drew (h : QSt w W B1 B2 gh gi m t mi fs A Ai Ay c ci cy L) : QSt w W.drew B1 B2 gh gi m t mi fs A Ai Ay c ci cy L := h.step (below_drew (Below.refl _ _))
theorem QSt.over (h : QSt w W B1 B2 gh gi m t mi fs A Ai Ay c ci cy L) {g : Nat} (hg : W.grownBy W' (some g)) (h1 : B1 ≤ g) (h2 : g < B2) : QSt w W' B1 B2 gh gi m t mi fs A Ai Ay c ci cy L := by
  have := h.lh; have := h.li; have := h.lw
  refine ⟨h.hb.grown hg h.hb.size (fun k e => by cases e; omega), blk_grown h.bh hg (fun e => by cases e; omega), blk_grown h.bi hg (fun e => by cases e; omega), ?_, ?_, h.lh, h.li, h.l2, h.lw⟩
  · exact Kd.R_step h.ri (fun k hk hlt => hg.block k hlt (fun e => by cases e; omega))
  · exact V_move h.ry (fun k hk hlt => hg.block k hlt (fun e => by cases e; omega))
theorem QSt.rdi (h : QSt w W B1 B2 gh gi m t mi fs A Ai Ay c ci cy L) : fs.length ≤ ci ∧ Kd.C k52 W Ai fs.length fs := by
  have := Kd.R_reads' h.ri
  exact ⟨this.2.1, this.2.2⟩
theorem QSt.rdy (h : QSt w W B1 B2 gh gi m t mi fs A Ai Ay c ci cy L) : L.length ≤ cy ∧ Kd.C (Kd.int .u8) W Ay L.length L := by
  have := Kd.V_reads' h.ry
  exact ⟨this.2.1, this.2.2⟩
theorem QSt.cells (h : QSt w W B1 B2 gh gi m t mi fs A Ai Ay c ci cy L) : W.cell? ⟨gh, 0, none⟩ = some (.string m) ∧ W.cell? ⟨gh, 1, none⟩ = some (.string t) ∧ W.cell? ⟨gh, 2, none⟩ = some (.int .i64 mi) ∧ W.cell? ⟨gh, 3, none⟩ = some (.slice A fs.length c) ∧
    W.cell? ⟨gi, 0, none⟩ = some (.string m) ∧ W.cell? ⟨gi, 1, none⟩ = some (.string t) ∧ W.cell? ⟨gi, 2, none⟩ = some (.int .i64 mi) ∧ W.cell? ⟨gi, 3, none⟩ = some (.slice Ai fs.length ci) :=
  ⟨(blk_cell h.bh 0).trans rfl, (blk_cell h.bh 1).trans rfl, (blk_cell h.bh 2).trans rfl, (blk_cell h.bh 3).trans rfl, (blk_cell h.bi 0).trans rfl, (blk_cell h.bi 1).trans rfl, (blk_cell h.bi 2).trans rfl, (blk_cell h.bi 3).trans rfl⟩
end
structure XSt (w W : World) (B1 B2 gh gi : Nat) (m t : ByteArray) (mi : Int) (fs : List SF) (A Ai Ay : Option Addr) (c ci cy : Nat) (L : List Int) (Ax : Option Addr) (cx : Nat) : Prop where
  hq : QSt w W B1 B2 gh gi m t mi fs A Ai Ay c ci cy L
  hx : Own8 W B1 (.slice Ax L.length cx) L
  hlt : ∀ a, Ax = some a → a.block < B2
section
variable {w W W' : World} {B1 B2 gh gi : Nat} {m t : ByteArray} {mi : Int} {fs : List SF} {A Ai Ay Ax : Option Addr} {c ci cy cx : Nat} {L : List Int}
theorem XSt.step (h : XSt w W B1 B2 gh gi m t mi fs A Ai Ay c ci cy L Ax cx) (hb : Below W.heap.size W W') : XSt w W' B1 B2 gh gi m t mi fs A Ai Ay c ci cy L Ax cx := ⟨h.hq.step hb, h.hx.below hb, h.hlt⟩
theorem XSt.drew (h : XSt w W B1 B2 gh gi m t mi fs A Ai Ay c ci cy L Ax cx) : XSt w W.drew B1 B2 gh gi m t mi fs A Ai Ay c ci cy L Ax cx := h.step (below_drew (Below.refl _ _))

theorem XSt.rdx (h : XSt w W B1 B2 gh gi m t mi fs A Ai Ay c ci cy L Ax cx) : Kd.C (Kd.int .u8) W Ax L.length L := by
  obtain ⟨A', c', e, _, hC⟩ := h.hx.reads
  injection e with e1 e2 e3
  rw [e1]
  exact hC
theorem XSt.over (h : XSt w W B1 B2 gh gi m t mi fs A Ai Ay c ci cy L Ax cx) :
    Calls Tryz.prog 28 #[.slice Ax L.length cx] W fun e w' => e = .returned (.tuple #[]) ∧ QSt w w' B1 B2 gh gi m t mi fs A Ai Ay c ci cy L := by
  have hlt := h.hlt
  have hq := h.hq
  rcases h.hx with ⟨e, hL⟩ | ⟨g, cap, e, hm, hg⟩
  · injection e with e1 e2 e3
    rw [e1, e2, e3]
    refine (over_nil W).mono ?_
    rintro e w' ⟨rfl, rfl⟩
    exact ⟨rfl, h.hq⟩
  · injection e with e1 e2 e3
    rw [e1, e3]
    refine (over_calls g L.length cap L W hm hm.le).mono ?_
    rintro e w' ⟨rfl, hgr⟩
    exact ⟨rfl, hq.over hgr hg (hlt _ e1)⟩
end
theorem same_true (A0 A1 : Option Addr) (n c0 c1 : Nat) (l : List Int) (w : World) (hr0 : Kd.C (Kd.int .u8) w A0 n l) (hr1 : Kd.C (Kd.int .u8) w A1 n l) :
    Calls Tryz.prog 27 #[.slice A0 n c0, .slice A1 n c1] w fun e w' => e = .returned (.bool true) ∧ Below w.heap.size w w' := by
  refine (sameBytes_calls A0 A1 n n c0 c1 l l w hr0 hr1).mono ?_
  rintro e w' ⟨rfl, rfl⟩
  exact ⟨by simp, Below.refl _ _⟩
theorem hcheck_calls (m t : ByteArray) (mi : Int) (fs : List SF) (hm : m.size ≤ 100000) (ht : t.size ≤ 100000) (hf : Sml fs) (A : Option Addr) (c : Nat) (w : World) (hr : Kd.C k52 w A fs.length fs) (hc : fs.length ≤ c) :
    Calls Tryz.prog 35 #[.agg #[.string m, .string t, .int .i64 mi, .slice A fs.length c]] w fun e w' => e = .returned (.int .i64 (headW m t mi fs).2) ∧ Below w.heap.size w w' := by
  obtain ⟨k, hk⟩ := (hcheck_ev m t mi fs hm ht hf).rounds
  exact head_Check.calls k m t mi A c fs _ w hr hc hk
theorem rcheck_calls (m t : ByteArray) (mi : Int) (fs : List SF) (hm : m.size ≤ 100000) (ht : t.size ≤ 100000) (hf : Sml fs) (A : Option Addr) (c : Nat) (w : World) (hr : Kd.C k52 w A fs.length fs) (hc : fs.length ≤ c) (hG : GG 2 w) :
    Calls Tryz.prog 36 #[.agg #[.string m, .string t, .int .i64 mi, .slice A fs.length c]] w fun e w' => e = .returned (.int .i64 (headW m t mi fs).2) ∧ Below w.heap.size w w' := by
  obtain ⟨k, hk⟩ := (rcheck_ev m t mi fs hm ht hf).rounds
  exact ostiaryref13_Check.calls k m t mi A c fs _ w hr hc hG hk
theorem rwrite_calls (m t : ByteArray) (mi : Int) (fs : List SF) (hm : m.size ≤ 100000) (ht : t.size ≤ 100000) (hf : Sml fs) (A : Option Addr) (c : Nat) (w : World) (hr : Kd.C k52 w A fs.length fs) (hc : fs.length ≤ c) (hG : GG 2 w) :
    Calls Tryz.prog 34 #[.agg #[.string m, .string t, .int .i64 mi, .slice A fs.length c]] w fun e w' => ∃ Ay cy, e = .returned (.tuple #[.slice Ay (headW m t mi fs).1.length cy, .int .i64 (headW m t mi fs).2]) ∧ Kd.V (Kd.int .u8) 5 w' w.heap.size (fun k_ => (w.heap.size ≤ k_)) (.slice Ay (headW m t mi fs).1.length cy) (headW m t mi fs).1 ∧ Below w.heap.size w w' := by
  obtain ⟨k, hk⟩ := (rwrite_ev m t mi fs hm ht hf).rounds
  refine (ostiaryref13_Write.calls k m t mi A c fs (headW m t mi fs).1 (headW m t mi fs).2 w hr hc hG hk).mono ?_
  rintro e w' ⟨v, rfl, hv, hb⟩
  obtain ⟨Ay, cy, rfl⟩ := Kd.V_slice hv
  exact ⟨Ay, cy, rfl, hv, hb⟩
theorem copy_calls (m t : ByteArray) (mi : Int) (fs : List SF) (hf : fs.length ≤ 1000) (A : Option Addr) (c : Nat) (w : World) (hr : Kd.C k52 w A fs.length fs) (hc : fs.length ≤ c) :
    Calls Tryz.prog 32 #[.agg #[.string m, .string t, .int .i64 mi, .slice A fs.length c]] w fun e w' => ∃ Ai ci, e = .returned (.agg #[.string m, .string t, .int .i64 mi, .slice Ai fs.length ci]) ∧ Kd.R k52 52 w' w.heap.size (fun _ => True) (.slice Ai fs.length ci) fs ∧ Below w.heap.size w w' := by
  refine (ostiarykit_CopyHead.calls m t mi A c fs m t mi fs w hr hc ?_).mono ?_
  · unfold ostiarykit_CopyHead.f
    rw [Option.bind_some, if_pos (by simp; omega)]
    rfl
  · rintro e w' ⟨v, rfl, hv, hb⟩
    obtain ⟨Ai, ci, rfl⟩ := Kd.R_slice hv
    exact ⟨Ai, ci, rfl, hv, hb⟩
theorem longHead (m t : ByteArray) (mi : Int) (fs : List SF) (hF : FOk fs) (A : Option Addr) (c : Nat) :
    ∃ b : Bool, (b = false → m.size ≤ 6000 ∧ t.size ≤ 6000 ∧ (fs.length : Int) ≤ 60 ∧ totF fs ≤ 6000) ∧ ∀ W, Kd.C k52 W A fs.length fs → fs.length ≤ c → Calls Tryz.prog 30 #[.agg #[.string m, .string t, .int .i64 mi, .slice A fs.length c]] W fun e w' => e = .returned (.bool b) ∧ Below W.heap.size W w' := by
  have key : ∃ b : Bool, (b = false → m.size ≤ 6000 ∧ t.size ≤ 6000 ∧ (fs.length : Int) ≤ 60 ∧ totF fs ≤ 6000) ∧ Ev (fun k => ostiarykit_LongHead.f k m t mi fs) b := by
    unfold ostiarykit_LongHead.f
    by_cases h1 : (m.size : Int) > 6000
    · exact ⟨true, by simp, Ev.ite_pos h1 (Ev.now _)⟩
    · by_cases h2 : (t.size : Int) > 6000
      · exact ⟨true, by simp, Ev.ite_neg h1 (Ev.ite_pos h2 (Ev.now _))⟩
      · obtain ⟨b, hb, hb2⟩ := long_ev fs 60 hF.2 (by have := hF.1; omega)
        refine ⟨b, fun h => ?_, Ev.ite_neg h1 (Ev.ite_neg h2 (Ev.bind hb (Ev.now _)))⟩
        obtain ⟨h3, h4⟩ := hb2 h
        exact ⟨by omega, by omega, h3, h4⟩
  obtain ⟨b, h1, h2⟩ := key
  obtain ⟨k, hk⟩ := h2.rounds
  exact ⟨b, h1, fun W hr hc => ostiarykit_LongHead.calls k m t mi A c fs b W hr hc hk⟩
theorem awake13_c (w : World) (hG : GG 5 w) : Calls Tryz.prog 31 #[] w fun e w' => e = .returned (.bool true) ∧ Below w.heap.size w w' := ostiarylaw13_awake.calls true w hG rfl
theorem sameFields_ev2 (fs : List SF) (hf : fs.length ≤ 9223372036854775000) : ∀ (m i : Nat), i + m = fs.length → Ev (fun k => ostiarykit_SameFields.l0 k fs fs (i : Int)) true
  | 0, i, h => Ev.step (fun k => by rw [ostiarykit_SameFields.l0]) (Ev.ite_neg (by omega) (Ev.now _))
  | m + 1, i, h => by
    refine Ev.step (fun k => by rw [ostiarykit_SameFields.l0]) (Ev.ite_pos (by omega) (Ev.ite_pos (by omega) (Ev.ite_pos (by omega) (Ev.ite_neg (by simp) ?_))))
    rw [wrap64_id (by omega) (by omega)]
    exact sameFields_ev2 fs hf m (i + 1) (by omega)
theorem sameHead_c (m t : ByteArray) (mi : Int) (fs : List SF) (hf : fs.length ≤ 1000) (A0 A1 : Option Addr) (c0 c1 : Nat) (w : World) (hr0 : Kd.C k52 w A0 fs.length fs) (hc0 : fs.length ≤ c0) (hr1 : Kd.C k52 w A1 fs.length fs) (hc1 : fs.length ≤ c1) :
    Calls Tryz.prog 37 #[.agg #[.string m, .string t, .int .i64 mi, .slice A0 fs.length c0], .agg #[.string m, .string t, .int .i64 mi, .slice A1 fs.length c1]] w fun e w' => e = .returned (.bool true) ∧ Below w.heap.size w w' := by
  have h : Ev (fun k => ostiarykit_SameHead.f k m t mi fs m t mi fs) true := by
    unfold ostiarykit_SameHead.f ostiarykit_SameFields.f
    exact Ev.ite_pos rfl (Ev.ite_pos rfl (Ev.ite_pos rfl (Ev.bind (Ev.ite_pos rfl (sameFields_ev2 fs (by omega) fs.length 0 (by omega))) (Ev.now _))))
  obtain ⟨k, hk⟩ := h.rounds
  exact ostiarykit_SameHead.calls k m t mi A0 c0 fs m t mi A1 c1 fs true w hr0 hc0 hr1 hc1 hk
set_option maxHeartbeats 4000000 in
set_option maxRecDepth 100000 in
theorem headWrites_walk (m t : ByteArray) (mi : Int) (A : Option Addr) (c : Nat) (fs : List SF) (w : World) (hr : Kd.C k52 w A fs.length fs) (hc : fs.length ≤ c) (hF : FOk fs) (hG : GG 7 w) :
    Calls Tryz.prog 4 #[.agg #[.string m, .string t, .int .i64 mi, .slice A fs.length c]] w fun e w' => e = .returned (.bool true) ∧ Below w.heap.size w w' := by
  have HC := Aside0.mk hr
  have HCC := Aside0.mk hc
  have HGG := Aside0.mk hG
  obtain ⟨b, hb1, hb2⟩ := longHead m t mi fs hF A c
  have HLO := Aside0.mk (fun W (h : Below w.heap.size w W) => hb2 W (Kd.C_below hr h) hc)
  clear hr hc hG hb2
  have hu := Tryz.underlying35
  cases b with
  | true =>
    clear hb1
    go_enter Tryz.func4, Tryz.ntmps4
    go_wp2_with (first
      | ((with_reducible refine gate_dst (N := 1) rfl ?_); refine box_event ?hg (N := 1) ?hd (cs := #[.string m, .string t, .int .i64 mi, .slice A fs.length c]) (t := 35) ?hr ?_; (case hd => rfl); (case hg => rfl); (case hr => first | (go_simp; done) | (go_simp; rfl)); intro gh hg wb hbox hb; have GE := Aside0.mk (show w.heap.size ≤ gh by rw [hg]; exact Nat.le_refl _); have BK := Aside0.mk hbox; have HB := Aside0.mk hb; clear hbox hb hg; have hx0 := blk_cell BK.out 0; have hx1 := blk_cell BK.out 1; have hx2 := blk_cell BK.out 2; have hx3 := blk_cell BK.out 3; simp at hx0 hx1 hx2 hx3)
      | (go_at_call 30; (with_reducible refine (HLO.out _ HB.out).mono ?_); rintro e w1 ⟨rfl, hb⟩; have n1_ := Aside0.mk (below_step HB.out hb); clear BK HB hb hx0 hx1 hx2 hx3; have HB := n1_; clear n1_)
      | (go_at_call 31; (with_reducible refine (awake13_c _ (GG_step HGG.out rfl HB.out)).mono ?_); rintro e w2 ⟨rfl, hb⟩; have n1_ := Aside0.mk (below_step HB.out hb); clear HB hb; have HB := n1_; clear n1_))
    go_ret
    exact ⟨rfl, HB.out⟩
  | false =>
    obtain ⟨hm, ht, hl60, htot⟩ := hb1 rfl
    have hsml : Sml fs := sml_of (by decide) hl60 htot
    obtain ⟨L, e0, hLe⟩ : ∃ L e0, headW m t mi fs = (L, e0) := ⟨_, _, rfl⟩
    have hn : fs.length ≤ 1000 := by omega
    have HHW := Aside0.mk (fun A c w (hr : Kd.C k52 w A fs.length fs) (hc : fs.length ≤ c) => hwrite_row m t mi fs (by omega) (by omega) hsml A c w hr hc)
    have HRW := Aside0.mk (fun A c w (hr : Kd.C k52 w A fs.length fs) (hc : fs.length ≤ c) (hG : GG 2 w) => rwrite_calls m t mi fs (by omega) (by omega) hsml A c w hr hc hG)
    have HHC := Aside0.mk (fun A c w (hr : Kd.C k52 w A fs.length fs) (hc : fs.length ≤ c) => hcheck_calls m t mi fs (by omega) (by omega) hsml A c w hr hc)
    have HRC := Aside0.mk (fun A c w (hr : Kd.C k52 w A fs.length fs) (hc : fs.length ≤ c) (hG : GG 2 w) => rcheck_calls m t mi fs (by omega) (by omega) hsml A c w hr hc hG)
    have HCP := Aside0.mk (fun A c w (hr : Kd.C k52 w A fs.length fs) (hc : fs.length ≤ c) => copy_calls m t mi fs hn A c w hr hc)
    have HSH := Aside0.mk (fun A0 A1 c0 c1 w => sameHead_c m t mi fs hn A0 A1 c0 c1 w)
    simp only [hLe] at HHW HRW HHC HRC
    clear hb1 hm ht hl60 htot hsml hLe hn hF
    go_enter Tryz.func4, Tryz.ntmps4
    go_upto_region 6 with (first
      | ((with_reducible refine gate_dst (N := 1) rfl ?_); refine box_event ?hg (N := 1) ?hd (cs := #[.string m, .string t, .int .i64 mi, .slice A fs.length c]) (t := 35) ?hr ?_; (case hd => rfl); (case hg => rfl); (case hr => first | (go_simp; done) | (go_simp; rfl)); intro gh hg wb hbox hb; have GE := Aside0.mk (show w.heap.size ≤ gh by rw [hg]; exact Nat.le_refl _); have BK := Aside0.mk hbox; have HB := Aside0.mk hb; clear hbox hb hg; have hx0 := blk_cell BK.out 0; have hx1 := blk_cell BK.out 1; have hx2 := blk_cell BK.out 2; have hx3 := blk_cell BK.out 3; simp at hx0 hx1 hx2 hx3)
      | (go_at_call 30; (with_reducible refine (HLO.out _ HB.out).mono ?_); rintro e w1 ⟨rfl, hb⟩; have n0_ := Aside0.mk (blk_below BK.out hb); have n1_ := Aside0.mk (below_step HB.out hb); clear BK HB hb hx0 hx1 hx2 hx3; have BK := n0_; have HB := n1_; clear n0_ n1_; have hx0 := blk_cell BK.out 0; have hx1 := blk_cell BK.out 1; have hx2 := blk_cell BK.out 2; have hx3 := blk_cell BK.out 3; simp at hx0 hx1 hx2 hx3)
      | (go_at_call 32; (with_reducible refine (HCP.out A c _ (Kd.C_below HC.out HB.out) HCC.out).mono ?_); rintro e w2 ⟨Ai, ci, rfl, hri, hb⟩; have n0_ := Aside0.mk (blk_below BK.out hb); have n1_ := Aside0.mk (below_step HB.out hb); have HRI := Aside0.mk (Kd.R_lower hri (below_size HB.out)); clear BK HB hb hri hx0 hx1 hx2 hx3; have BK := n0_; have HB := n1_; clear n0_ n1_))
    (try simp only [Act.put, List.setIfInBounds_toArray, List.set_cons_zero, List.set_cons_succ])
    obtain ⟨gi, hgi⟩ : ∃ gi, gi = w2.heap.size := ⟨_, rfl⟩
    obtain ⟨w3, hw3⟩ : ∃ w3, w3 = w2.alloc (.cells #[.string m, .string t, .int .i64 mi, .slice Ai fs.length ci] 35) := ⟨_, rfl⟩
    have BI := Aside0.mk (show w3.heap[gi]? = some (.cells #[.string m, .string t, .int .i64 mi, .slice Ai fs.length ci] 35 (0, 0)) by rw [hw3, hgi]; exact blk_new w2 _)
    have hb23 : Below w2.heap.size w2 w3 := by rw [hw3]; exact below_alloc (Below.refl _ _) _
    have LI := Aside0.mk (show gi < w3.heap.size by rw [hw3, hgi]; exact blk_new_lt w2 _)
    have LH := Aside0.mk (show gh < w3.heap.size from Nat.lt_of_lt_of_le (blk_lt BK.out) (below_size hb23))
    have n0_ := Aside0.mk (blk_below BK.out hb23)
    have n1_ := Aside0.mk (below_step HB.out hb23)
    have RI := Aside0.mk (show Kd.R k52 52 w3 w.heap.size (fun k => k < w3.heap.size) (.slice Ai fs.length ci) fs from Kd.R_flat (fun h => h) (Kd.R_below HRI.out hb23) (fun k hk _ => own_lt (Kd.R_own (Kd.R_below HRI.out hb23)).choose_spec k hk))
    rw [← hgi, ← hw3]
    clear hgi hw3 hb23 BK HB HRI
    have BK := n0_
    have HB := n1_
    clear n0_ n1_
    have hx0 := blk_cell BK.out 0
    have hx1 := blk_cell BK.out 1
    have hx2 := blk_cell BK.out 2
    have hx3 := blk_cell BK.out 3
    simp at hx0 hx1 hx2 hx3
    go_upto_region 6 with (first
      | (go_at_call 33; (with_reducible refine (HHW.out Ai ci _ (Kd.R_reads' RI.out).2.2 (Kd.R_reads' RI.out).2.1).mono ?_); rintro e w4 ⟨v, rfl, hox, hb⟩; obtain ⟨Ax, cx, rfl, -, -⟩ := hox.reads; have HX4 := Aside0.mk hox; have HB34 := Aside0.mk hb; have HB4 := Aside0.mk (below_step HB.out hb); have BK4 := Aside0.mk (blk_below BK.out hb); clear BK HB hb hox hx0 hx1 hx2 hx3; have hx0 := blk_cell BK4.out 0; have hx1 := blk_cell BK4.out 1; have hx2 := blk_cell BK4.out 2; have hx3 := blk_cell BK4.out 3; simp at hx0 hx1 hx2 hx3)
      | (go_at_call 34; (with_reducible refine (HRW.out A c _ (Kd.C_below HC.out HB4.out) HCC.out (GG_step HGG.out rfl HB4.out)).mono ?_); rintro e w5 ⟨Ay, cy, rfl, hv, hb⟩; have hb35 := below_step HB34.out hb; have ST := Aside0.mk (show XSt w w5 w3.heap.size w4.heap.size gh gi m t mi fs A Ai Ay c ci cy L Ax cx from ⟨⟨below_step HB4.out hb, blk_below BK4.out hb, blk_below BI.out hb35, Kd.R_below RI.out hb35, Kd.V_lower hv (below_size HB4.out), LH.out, LI.out, below_size HB34.out, Nat.le_trans (Nat.le_of_lt (Nat.lt_of_le_of_lt GE.out LH.out)) (Nat.le_refl _)⟩, HX4.out.below hb, own8_lt HX4.out⟩); clear BK4 HB4 HB34 HX4 BI RI LI LH hv hb hb35 hx0 hx1 hx2 hx3))
    go_region_held3 (fun W => W.cell? ⟨gh, 0, none⟩ = some (.string m) ∧ W.cell? ⟨gh, 1, none⟩ = some (.string t) ∧ W.cell? ⟨gh, 2, none⟩ = some (.int .i64 mi) ∧ W.cell? ⟨gh, 3, none⟩ = some (.slice A fs.length c) ∧ W.cell? ⟨gi, 0, none⟩ = some (.string m) ∧ W.cell? ⟨gi, 1, none⟩ = some (.string t) ∧ W.cell? ⟨gi, 2, none⟩ = some (.int .i64 mi) ∧ W.cell? ⟨gi, 3, none⟩ = some (.slice Ai fs.length ci)) (first | assumption | exact S8.hq.cells | exact S7.hq.cells | exact S6.hq.cells | exact ST.out.drew.hq.cells) (first
      | (go_at_call 27; (with_reducible refine (same_true Ax Ay L.length cx cy L _ ST.out.drew.rdx ST.out.drew.hq.rdy.2).mono ?_); rintro e w6 ⟨rfl, hb⟩; have S6 := ST.out.drew.step hb; clear hb)
      | (go_at_call 35; (with_reducible refine (HHC.out Ai ci _ S6.hq.rdi.2 S6.hq.rdi.1).mono ?_); rintro e w7 ⟨rfl, hb⟩; have S7 := S6.step hb; clear S6 hb)
      | (go_at_call 36; (with_reducible refine (HRC.out A c _ (Kd.C_below HC.out S7.hq.hb) HCC.out (GG_step HGG.out rfl S7.hq.hb)).mono ?_); rintro e w8 ⟨rfl, hb⟩; have S8 := S7.step hb; clear S7 hb))
    have P8 := Aside0.mk S8
    clear S8 ST
    go_wp2_with (first
      | (go_at_call 28; (with_reducible refine (P8.out.over).mono ?_); rintro e w9 ⟨rfl, hq⟩; have P9 := Aside0.mk hq; clear P8 hq; obtain ⟨hx0, hx1, hx2, hx3, hz0, hz1, hz2, hz3⟩ := P9.out.cells)
      | (go_at_call 33; (with_reducible refine (HHW.out Ai ci _ P9.out.rdi.2 P9.out.rdi.1).mono ?_); rintro e w10 ⟨v, rfl, hox, hb⟩; obtain ⟨Az, cz, rfl, -, hzc⟩ := hox.reads; have HZ := Aside0.mk hzc; have P10 := Aside0.mk (P9.out.step hb); clear P9 hb hox hzc hx0 hx1 hx2 hx3 hz0 hz1 hz2 hz3)
      | (go_at_call 27; (with_reducible refine (same_true Az Ay L.length cz cy L _ HZ.out P10.out.rdy.2).mono ?_); rintro e w11 ⟨rfl, hb⟩; have S11 := Aside0.mk (P10.out.step hb); clear hb P10; obtain ⟨hx0, hx1, hx2, hx3, hz0, hz1, hz2, hz3⟩ := S11.out.cells)
      | (go_at_call 37; (with_reducible refine (HSH.out Ai A ci c _ S11.out.rdi.2 S11.out.rdi.1 (Kd.C_below HC.out S11.out.hb) HCC.out).mono ?_); rintro e w12 ⟨rfl, hb⟩; have HB12 := Aside0.mk (below_step S11.out.hb hb); clear S11 hb hx0 hx1 hx2 hx3 hz0 hz1 hz2 hz3)
      | (go_at_call 31; (with_reducible refine (awake13_c _ (GG_step HGG.out rfl HB12.out)).mono ?_); rintro e w13 ⟨rfl, hb⟩; have HB13 := Aside0.mk (below_step HB12.out hb); clear HB12 hb))
    go_ret
    exact ⟨rfl, HB13.out⟩
end Go.Proofs.YtnhpcpmgedjffaaGreatDoor.P
end
section
-- PRINTED BY print.sh 35421559b90ae4d0a3588c463048766b98c2df88dd9212a6774a882060cdf62d: not written by this session
-- PRINTED WORDS (module Derived/Print/Sized.lean): go-gate-2's, for the rows of laws over slices: an AI agent of Go's test side, Tue Nov 17 2026; no person has read it. Lean checks it.
namespace Go.Proofs.YtnhpcpmgedjffaaGreatDoorW.PrintWords
open Go.ChangeShapes Go.WideShapes
end Go.Proofs.YtnhpcpmgedjffaaGreatDoorW.PrintWords
end
section
/-! The premise on the variables with strconv's powers of ten. -/
namespace Go.Proofs.YtnhpcpmgedjffaaGreatDoorX
open Go Go.RowKit Go.Lib Go.Proofs Go.Proofs.YtnhpcpmgedjffaaGreatDoor
theorem pow10_of {W : World} (h : VarReads Tryz.prog W "internal/strconv.uint64pow10" Rows.laid_internal_strconv_uint64pow10) : Lib.TabIs Tryz.prog W "internal/strconv.uint64pow10" .u64 Lib.pow10Tab ∧ 3 < W.heap.size := by
  rw [show (Rows.laid_internal_strconv_uint64pow10 : DataW Unit) = tabData .u64 Lib.pow10Tab by kernel_rfl] at h
  obtain ⟨g, t, cs, fuel, p, hg, hty, hvar, hd⟩ := h
  obtain rfl := Option.some.inj ((show Tryz.prog.globalNamed "internal/strconv.uint64pow10" = some 3 by kernel_rfl).symm.trans hg)
  obtain rfl := Option.some.inj ((show (Tryz.prog.globals[3]?).map (·.type) = some 248 by kernel_rfl).symm.trans hty)
  have hcs := cells_of_tab Tryz.underlying248 Tryz.underlying219 (by kernel_rfl) (by kernel_rfl) hd
  have he : cs = (Lib.pow10Tab.map fun z => Value.int .u64 z).toArray := by rw [← hcs]
  subst he
  refine ⟨hvar, ?_⟩
  have h0 := World.var?_cell hg hvar 0
  rcases Nat.lt_or_ge 3 W.heap.size with h1 | h1
  · exact h1
  · exfalso
    have h2 : W.cell? ⟨3, 0, none⟩ = none := by
      unfold World.cell?
      rw [Array.getElem?_eq_none h1]
    rw [h2] at h0
    revert h0
    decide
theorem gg7_of {W : World} (hsh : W.ShapedOpen Tryz.prog) (h3 : VarReads Tryz.prog W "unicode/utf8.first" Rows.laid_unicode_utf8_first) (h4 : VarReads Tryz.prog W "unicode/utf8.acceptRanges" Rows.laid_unicode_utf8_acceptRanges) (h5 : VarReads Tryz.prog W "internal/strconv.uint64pow10" Rows.laid_internal_strconv_uint64pow10) : GG 7 W :=
  ⟨fun _ => maxlen_of hsh, fun _ => pow10_of h5, fun _ => utf8_of h3 h4⟩
end Go.Proofs.YtnhpcpmgedjffaaGreatDoorX
end
section
/-! The row of HeadWrites. -/
namespace Go.Proofs.YtnhpcpmgedjffaaGreatDoor.headWrites
open Go.ChangeShapes Go.WideShapes Go.ChangeAt Go.RowKit Go.Lib Go.Proofs.YtnhpcpmgedjffaaGreatDoorX
open Go.ChangeMaps (open_string shut_string)
set_option linter.unusedVariables false
theorem laidOut : laidOutB Tryz.prog = true := by kernel_rfl
def IsRow (k : IntKind) (w : World) (a : Option Addr) (len cap : Nat) (zs : List Int) : Prop :=
  (a = none ∧ len = 0 ∧ cap = 0 ∧ zs = []) ∨
  ∃ x, a = some x ∧ len ≤ cap ∧ cap ≤ maxLen ∧ zs.length = cap ∧ (∀ i, i < zs.length → w.cell? (x.add i) = some (.int k (zs.getD i 0))) ∧ ∀ n ∈ zs, (Lit.int k n).wf = true
set_option maxRecDepth 100000 in
theorem door_met (os : Os) (args : Array Value) : laidMetH Tryz.prog Rows.headWritesRow.laid ((doorWorld os).forCall (fun _ _ => 0) ⟨#[], args, []⟩).memory :=
  laidMetH_of_parts3 (fuel := 8) (laidMet_of_run' 8 (by kernel_rfl) (by kernel_rfl)) (by kernel_rfl) (by kernel_rfl)
set_option maxRecDepth 100000 in
theorem lifted (os : Os) (started : os.Started) (H : Type) (enc : TypeId × Value → H) :
    ReturnsInHanded {} Tryz.checked os 4 .any (fun w args => (Rows.headWritesSpec.pre enc Tryz.checked.prog Tryz.f4 Rows.headWritesRow.domain false w args ∧ laidMetH Tryz.prog Rows.headWritesRow.laid w) ∧ sizedMet enc Tryz.checked.prog Tryz.f4 (OpenSpec.ofChange Rows.headWritesSpec) false w args) (Rows.headWritesSpec.post enc Tryz.checked.prog Tryz.f4 false true false false) := by
  refine handed_laid (C := Tryz.checked) (X := (fun w _ => laidMetH Tryz.prog Rows.headWritesRow.laid w)) (fun _ _ _ hh h => h.of_heap hh) own started (by kernel_rfl) Tryz.func4
    (ChangeSpec.witness_shaped (enc := enc) (C := Tryz.checked) (os := os) (X := (fun w _ => laidMetH Tryz.prog Rows.headWritesRow.laid w)) false (doorWorld os) #[.agg #[.string ByteArray.empty, .string ByteArray.empty, .int .i64 0, .slice none 0 0]] 8 rfl (World.shaped_of_RefB (by kernel_rfl) (by kernel_rfl)) (by kernel_rfl) (by kernel_rfl) (by kernel_rfl) (door_met os _)) ?_
  intro W base args ds gs before hval0 hW hcnd hsz0 hL hsh
  have hsz : (DataW.weightsEach Tryz.prog (Tryz.f4.params.toList ++ Rows.headWritesSpec.plain.varTypes Tryz.prog) (ds ++ gs)).all (· ≤ reachBytes) = true := hsz0
  have hval : ∀ (j : Nat) t v, Tryz.f4.params[j]? = some t → args[j]? = some v → Value.okWide Tryz.prog W .any base t v := hval0
  have hL' : laidMet Tryz.prog Rows.headWritesRow.laid W := by
    have h := hL
    rw [MakeChecks.laidMetH_plain _ _ _ (by kernel_rfl)] at h
    exact h
  have hG : GG 7 W := gg7_of hsh (Lib.laidMet.reads hL' (.tail _ (.tail _ (.tail _ (.tail _ (.head _)))))) (Lib.laidMet.reads hL' (.tail _ (.tail _ (.tail _ (.head _))))) (Lib.laidMet.reads hL' (.tail _ (.tail _ (.head _))))
  have hW' := hW
  obtain ⟨p, q, hA0, hV, rfl, hfz, hnd⟩ := hW
  have hA : DataW.TrodAll enc Tryz.prog W 0 (fun _ => true) true Tryz.f4.params.toList args.toList ds p := hA0
  rw [Tryz.params4] at hA hval hsz
  obtain ⟨v0, vs0, d0, ds0, p0, q0, hargs, rfl, rfl, h0, r0⟩ := trodAll_cons hA
  obtain ⟨rfl, rfl, rfl⟩ := trodAll_nil r0
  obtain rfl : args = #[v0] := by cases args; simp_all
  obtain ⟨rfl, rfl⟩ := trodVars_none hV
  have k0 := h0
  have lt0 : ∀ x ∈ p0, x.block < W.heap.size := by obtain ⟨m, hm⟩ := k0; exact DataW.trod_lt m _ _ _ hm
  obtain ⟨a0, b0, c0, e0, f0, g0, rfl, x0, y0, z0, -, -, -, -⟩ := P.open_head (hval 0 35 v0 rfl rfl) h0 (fun n hn => of_decide_eq_true (List.all_eq_true.1 hsz n (DataW.weights_mem_each (j := 0) rfl rfl n hn)))
  clear hA0 hval0 hsz0 hsz
  refine (P.headWrites_walk a0 b0 c0 e0 f0 g0 W y0 x0 z0 hG).mono fun e W' ⟨he, bel⟩ => ?_
  subst he
  exact ⟨_, rfl, _, _, _, [], _, [], hW', trodAll_mk1 (shut_bool Tryz.underlying4 _), (trodAll_cons_mk (Below.trod laidOut (by kernel_rfl) (of_decide_eq_true (by kernel_rfl)) k0 bel lt0) trodAll_mk0), rfl, bel.frame _, fun h => by cases h⟩
theorem andT {a b : Bool} (h1 : a = true) (h2 : b = true) : (a && b) = true := Bool.and_eq_true_iff.2 ⟨h1, h2⟩
set_option maxHeartbeats 4000000 in
theorem facts : joinedFacts Tryz.prog 4 Tryz.f4 Rows.headWritesSpec Rows.headWritesRow = true := by
  unfold joinedFacts
  iterate 31 (refine andT ?_ (by as_aux_lemma => kernel_rfl))
  as_aux_lemma => kernel_rfl
theorem over : Rows.headWritesRow.holds Tryz.pinned (OpenSpec.ofChange Rows.headWritesSpec) :=
  OpenClaim.holds_of_wide 4 Tryz.f4 rfl rfl rfl rfl rfl rfl rfl ⟨rfl, rfl, rfl, rfl, rfl⟩ rfl rfl rfl rfl rfl (by kernel_rfl) Tryz.func4 facts
    (of_decide_eq_true (by kernel_rfl)) (by unfold Func.isWrapper; first | (rw [if_pos (by decide +kernel)]; kernel_rfl) | (rw [if_neg (by decide +kernel)]; exact ⟨rfl, rfl⟩))
    (fun os started H enc _ => lifted os started H enc)
theorem proved : Rows.HeadWritesSaid := over
end Go.Proofs.YtnhpcpmgedjffaaGreatDoor.headWrites
end
