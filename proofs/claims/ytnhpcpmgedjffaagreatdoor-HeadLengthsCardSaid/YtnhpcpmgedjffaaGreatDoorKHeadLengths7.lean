import Derived.Test.YtnhpcpmgedjffaaGreatDoorProg
import Derived.Lib.Atoi
import Derived.Test.YtnhpcpmgedjffaaGreatDoorRows
import Derived.WalkKit
import Derived.ProofKit
import Derived.OpenShut
import Derived.ShutString
import Derived.ChangeOld
import Derived.Below
import Derived.SizedLaws
import Derived.Test.YtnhpcpmgedjffaaGreatDoorKHeadLengths6
section
-- Written by the proof's own program out of the translation; Lean checks it.
namespace Go.Proofs.YtnhpcpmgedjffaaGreatDoor.P
open Go.RowKit Go.Proofs.YtnhpcpmgedjffaaGreatDoorW.PrintWords Go.Proofs.YtnhpcpmgedjffaaGreatDoorW.PrintLast Go.Proofs.YtnhpcpmgedjffaaGreatDoorW.PrintMore Go.Proofs.YtnhpcpmgedjffaaGreatDoorX
attribute [local go_sem] max2_int min2_int max_two min_two max_three min_three max_four min_four   -- for this text's walks alone
set_option linter.unusedVariables false
set_option linter.unusedSimpArgs false

end Go.Proofs.YtnhpcpmgedjffaaGreatDoor.P
end
section
namespace Go.Proofs.YtnhpcpmgedjffaaGreatDoorX
open Go.RowKit Go.Proofs.YtnhpcpmgedjffaaGreatDoorW.PrintWords Go.Proofs.YtnhpcpmgedjffaaGreatDoorW.PrintLast Go.Proofs.YtnhpcpmgedjffaaGreatDoorW.PrintMore
set_option linter.unusedVariables false
set_option linter.unusedSimpArgs false

theorem toList_D (s : ByteArray) : s.toList = s.data.toList := by
  obtain ⟨⟨l⟩⟩ := s
  exact ByteArray.toList_mk l
theorem ba_ext {s t : ByteArray} (h : s.data.toList = t.data.toList) : s = t := by
  obtain ⟨⟨l⟩⟩ := s; obtain ⟨⟨m⟩⟩ := t
  simp at h; subst h; rfl
def nums8 (l : List UInt8) : List Int := l.map fun b => (b.toNat : Int)
theorem ofNat_byte (b : UInt8) : UInt8.ofNat ((b.toNat : Int)).toNat = b := by simp
theorem lib_nums8 (l : List UInt8) : Lib.bytesOf (nums8 l) = l := by
  simp only [Lib.bytesOf, nums8, List.map_map]
  conv => rhs; rw [← List.map_id l]
  exact List.map_congr_left fun b _ => ofNat_byte b
theorem strOf_nums8 (l : List UInt8) : strOfNums (nums8 l) = ⟨l.toArray⟩ := by
  have h := lib_nums8 l
  simp only [Lib.bytesOf] at h
  simp only [strOfNums, h]
theorem bytesOf_strOf {l : List Int} (h : isBytes l = true) : bytesOf (strOfNums l) = l := by
  simp only [bytesOf, strOfNums, List.map_map]
  conv => rhs; rw [← List.map_id l]
  refine List.map_congr_left fun c hc => ?_
  have := isBytes_mem h c hc
  simp only [Function.comp, id]
  rw [UInt8.toNat_ofNat_of_lt' (by simp [UInt8.size]; omega)]
  omega
theorem size_D (s : ByteArray) : s.size = s.data.toList.length := (data_length s).symm

end Go.Proofs.YtnhpcpmgedjffaaGreatDoorX
end
section
namespace Go.Proofs.YtnhpcpmgedjffaaGreatDoor.P
open Go.RowKit Go.Proofs.YtnhpcpmgedjffaaGreatDoorW.PrintWords Go.Proofs.YtnhpcpmgedjffaaGreatDoorW.PrintLast Go.Proofs.YtnhpcpmgedjffaaGreatDoorW.PrintMore Go.Proofs.YtnhpcpmgedjffaaGreatDoorX
set_option linter.unusedVariables false
set_option linter.unusedSimpArgs false

theorem Ev.ite_pos {α : Type} {c : Prop} [Decidable c] {f g : Nat → Option α} {r : α} (hc : c) (h : Ev f r) : Ev (fun k => if c then f k else g k) r := by
  simpa [hc] using h
theorem Ev.ite_neg {α : Type} {c : Prop} [Decidable c] {f g : Nat → Option α} {r : α} (hc : ¬ c) (h : Ev g r) : Ev (fun k => if c then f k else g k) r := by
  simpa [hc] using h
theorem Ev.some_bind {α β : Type} {o : Option α} {f : Nat → α → Option β} {a : α} {r : β} (h : o = some a) (k : Ev (fun n => f n a) r) : Ev (fun n => o.bind (f n)) r := by
  subst h; exact k
theorem Ev.is {α : Type} {g : Nat → Option α} {a b : α} (h : Ev g a) (e : a = b) : Ev g b := e ▸ h
theorem wrap64_id {n : Int} (h0 : -9223372036854775808 ≤ n) (h1 : n ≤ 9223372036854775807) : wrap64 n = n := by
  unfold wrap64; omega
abbrev mkB (l : List UInt8) : ByteArray := ⟨l.toArray⟩
theorem nil_size {s : ByteArray} : s.toList = ([] : List UInt8) ↔ s.size = 0 := by
  rw [toList_D, size_D]; exact List.length_eq_zero_iff.symm
theorem toList_eq {s t : ByteArray} : s.toList = t.toList ↔ s = t := ⟨fun h => ba_ext (by rw [toList_D, toList_D] at h; exact h), fun h => by rw [h]⟩

theorem dropWhile_cut {α : Type} (p : α → Bool) (l : List α) : ∃ a, l = a ++ l.dropWhile p ∧ (∀ x ∈ a, p x = true) ∧ ∀ x, (l.dropWhile p).head? = some x → p x = false := by
  induction l with
  | nil => exact ⟨[], rfl, by simp, by simp⟩
  | cons b l ih =>
    rw [List.dropWhile_cons]
    cases hb : p b with
    | true =>
      obtain ⟨a, h1, h2, h3⟩ := ih
      exact ⟨b :: a, by rw [if_pos rfl]; exact congrArg (b :: ·) h1, by simpa [hb] using h2, by rw [if_pos rfl]; exact h3⟩
    | false =>
      rw [if_neg (by simp)]
      exact ⟨[], rfl, by simp, by intro x hx; simp at hx; exact hx ▸ hb⟩
end Go.Proofs.YtnhpcpmgedjffaaGreatDoor.P
end
section
namespace Go.Proofs.YtnhpcpmgedjffaaGreatDoor.P
open Go.RowKit Go.Proofs.YtnhpcpmgedjffaaGreatDoorW.PrintWords Go.Proofs.YtnhpcpmgedjffaaGreatDoorW.PrintLast Go.Proofs.YtnhpcpmgedjffaaGreatDoorW.PrintMore Go.Proofs.YtnhpcpmgedjffaaGreatDoorX
set_option linter.unusedVariables false
set_option linter.unusedSimpArgs false

def lowL (s : ByteArray) : List Int := (bytesOf s).map lowC
theorem lowC_byte (c : Int) (h0 : 0 ≤ c) (h1 : c ≤ 255) : 0 ≤ lowC c ∧ lowC c < 256 := by
  unfold lowC; split
  · split <;> omega
  · omega
theorem isBytes_lowL (s : ByteArray) : isBytes (lowL s) = true := by
  simp only [isBytes, lowL, bytesOf, List.all_map, List.all_eq_true, Function.comp, Bool.and_eq_true, decide_eq_true_eq]
  intro b _
  have := b.toNat_lt
  exact lowC_byte _ (by omega) (by omega)
theorem lower_iff (a b : ByteArray) : (xLower a).toList = (xLower b).toList ↔ lowL a = lowL b := by
  rw [toList_eq]
  constructor
  · intro h
    have : bytesOf (strOfNums (lowL a)) = bytesOf (strOfNums (lowL b)) := congrArg bytesOf h
    rw [bytesOf_strOf (isBytes_lowL a), bytesOf_strOf (isBytes_lowL b)] at this
    exact this
  · intro h
    unfold xLower
    show strOfNums (lowL a) = strOfNums (lowL b)
    rw [h]
abbrev SF := S52
def valsF (fs : List SF) (key : ByteArray) : List ByteArray := (fs.filter (fun f => decide (lowL f.f0 = lowL key))).map (·.f1)
theorem valsF_cons (f : SF) (fs : List SF) (key : ByteArray) : valsF (f :: fs) key = (if lowL f.f0 = lowL key then [f.f1] else []) ++ valsF fs key := by
  unfold valsF
  by_cases h : lowL f.f0 = lowL key <;> simp [h]
theorem rdT_nat (fs : List SF) (i : Nat) (h : i < fs.length) : rd_T52 fs (i : Int) = fs[i] := by
  simp [rd_T52, List.getD_eq_getElem?_getD, List.getElem?_eq_getElem h]
def Small (fs : List SF) : Prop := fs.length ≤ 4294967295 ∧ ∀ f ∈ fs, f.f0.size ≤ 140737488355328
theorem all_loop (key : ByteArray) (hk : key.size ≤ 140737488355328) (fs : List SF) (hf : Small fs) : ∀ (m i : Nat) (acc : List ByteArray), i + m = fs.length → acc.length ≤ i → Ev (fun k => head_all.l0 k key acc fs (fs.length : Int) (i : Int)) (acc ++ valsF (fs.drop i) key)
  | 0, i, acc, h, ha => by
    refine Ev.step (fun k => by rw [head_all.l0]) (Ev.ite_neg (by omega) (Ev.is (Ev.now _) ?_))
    rw [List.drop_of_length_le (by omega)]
    simp [valsF]
  | m + 1, i, acc, h, ha => by
    have hl := hf.1
    have hn := hf.2 fs[i] (List.getElem_mem _)
    refine Ev.step (fun k => by rw [head_all.l0]) (Ev.ite_pos (by omega) (Ev.ite_pos (by omega) (Ev.ite_pos (by omega) ?_)))
    rw [rdT_nat fs i (by omega), wrap64_id (n := (i : Int) + 1) (by omega) (by omega), List.drop_eq_getElem_cons (show i < fs.length by omega), valsF_cons]
    refine Ev.some_bind (a := xLower fs[i].f0) (by unfold head_lower.f; exact if_pos hn) (Ev.some_bind (a := xLower key) (by unfold head_lower.f; exact if_pos hk) ?_)
    by_cases hc : lowL fs[i].f0 = lowL key
    · refine Ev.ite_pos ((lower_iff _ _).2 hc) (Ev.ite_pos (by omega) ?_)
      have := all_loop key hk fs hf m (i + 1) (acc ++ [fs[i].f1]) (by omega) (by simp; omega)
      rw [if_pos hc, ← List.append_assoc]
      exact this
    · refine Ev.ite_neg (fun e => hc ((lower_iff _ _).1 e)) ?_
      have := all_loop key hk fs hf m (i + 1) acc (by omega) (by omega)
      rw [if_neg hc, List.nil_append]
      exact this
theorem all_ev (m t : ByteArray) (mi : Int) (fs : List SF) (key : ByteArray) (hf : Small fs) (hk : key.size ≤ 140737488355328) : Ev (fun k => head_all.f k m t mi fs key) (valsF fs key) := by
  unfold head_all.f
  exact all_loop key hk fs hf fs.length 0 [] (by omega) (by simp)
def fieldP (fs : List SF) (key : ByteArray) : ByteArray × Int := ((valsF fs key).headD (⟨#[]⟩ : ByteArray), ((valsF fs key).length : Int))
theorem hfield_ev (m t : ByteArray) (mi : Int) (fs : List SF) (key : ByteArray) (hf : Small fs) (hk : key.size ≤ 140737488355328) : Ev (fun k => head_Field.f k m t mi fs key) (fieldP fs key) := by
  unfold head_Field.f fieldP
  refine Ev.bind (all_ev m t mi fs key hf hk) ?_
  cases hv : valsF fs key with
  | nil => exact Ev.ite_pos (by simp) (Ev.now _)
  | cons v vs => exact Ev.ite_neg (by first | (simp; done) | (simp; omega)) (Ev.ite_pos (by first | (simp; done) | (simp; omega)) (Ev.now _))
end Go.Proofs.YtnhpcpmgedjffaaGreatDoor.P
end
section
namespace Go.Proofs.YtnhpcpmgedjffaaGreatDoor.P
open Go.RowKit Go.Proofs.YtnhpcpmgedjffaaGreatDoorW.PrintWords Go.Proofs.YtnhpcpmgedjffaaGreatDoorW.PrintLast Go.Proofs.YtnhpcpmgedjffaaGreatDoorW.PrintMore Go.Proofs.YtnhpcpmgedjffaaGreatDoorX
set_option linter.unusedVariables false
set_option linter.unusedSimpArgs false

def TE : ByteArray := ⟨#[116, 114, 97, 110, 115, 102, 101, 114, 45, 101, 110, 99, 111, 100, 105, 110, 103]⟩
def CLN : ByteArray := ⟨#[99, 111, 110, 116, 101, 110, 116, 45, 108, 101, 110, 103, 116, 104]⟩
def DIG : ByteArray := ⟨#[48, 49, 50, 51, 52, 53, 54, 55, 56, 57]⟩
def isD (b : UInt8) : Bool := decide (48 ≤ b.toNat) && decide (b.toNat ≤ 57)
def numOk (s : ByteArray) : Bool := s.size != 0 && (decide (s.size ≤ 10) && s.data.toList.all isD)
def numV (s : ByteArray) : Int := (Lib.atoi s.data.toList).getD 0
def lengthP (fs : List SF) : Int × Int :=
  if (valsF fs TE).length = 0 then
    match valsF fs CLN with
    | [] => (-1, 200)
    | v :: vs => if (v :: vs).all (fun s => numOk s && s.data.toList == v.data.toList) = true then (if numV v > 65535 then (0, 413) else (numV v, 200)) else (0, 400)
  else (0, 501)
theorem dig_cs (x : UInt8) : (DIG.data.toList).contains x = isD x := by
  have : ∀ b : Fin 256, (DIG.data.toList).contains (UInt8.ofNat b.val) = isD (UInt8.ofNat b.val) := by decide +kernel
  have h := this ⟨x.toNat, x.toNat_lt⟩
  simpa using h
theorem dropWhile_none {α : Type} (p : α → Bool) (l : List α) (h : l.dropWhile p = []) : ∀ x ∈ l, p x = true := by
  obtain ⟨a, h1, h2, _⟩ := dropWhile_cut p l
  rw [h, List.append_nil] at h1
  rw [h1]; exact h2
theorem dropWhile_full {α : Type} (p : α → Bool) : ∀ (l : List α), (∀ x ∈ l, p x = true) → l.dropWhile p = []
  | [], _ => rfl
  | b :: l, h => by rw [List.dropWhile_cons, if_pos (h b (by simp))]; exact dropWhile_full p l (fun x hx => h x (by simp [hx]))
theorem trimS_nil (l : List UInt8) : Lib.trimS l DIG.data.toList = [] ↔ l.all isD = true := by
  unfold Lib.trimS Lib.trimLeftS Lib.trimRightS
  rw [List.all_eq_true]
  constructor
  · intro h
    have h1 := dropWhile_none _ _ h
    have hr : l.reverse.dropWhile (DIG.data.toList.contains ·) = [] := by
      obtain ⟨a, g1, g2, g3⟩ := dropWhile_cut (DIG.data.toList.contains ·) l.reverse
      cases hd : l.reverse.dropWhile (DIG.data.toList.contains ·) with
      | nil => rfl
      | cons c q =>
        have e1 := g3 c (by rw [hd]; rfl)
        have e2 := h1 c (by rw [hd]; simp)
        rw [e1] at e2; cases e2
    intro x hx
    have := dropWhile_none _ _ hr x (List.mem_reverse.2 hx)
    rw [← dig_cs]; exact this
  · intro h
    rw [dropWhile_full _ l.reverse (fun x hx => by rw [dig_cs]; exact h x (List.mem_reverse.1 hx))]
    rfl
theorem decFrom_all : ∀ (l : List UInt8) (acc : Nat), l.all isD = true → ∃ n, Lib.decFrom acc l = some n
  | [], acc, _ => ⟨acc, rfl⟩
  | b :: l, acc, h => by
    rw [List.all_cons, Bool.and_eq_true] at h
    have hb := h.1
    simp only [isD, Bool.and_eq_true, decide_eq_true_eq] at hb
    have hd : Lib.digitVal b = some (b.toNat - 48) := by unfold Lib.digitVal; rw [if_pos hb]
    obtain ⟨n, hn⟩ := decFrom_all l (acc * 10 + (b.toNat - 48)) h.2
    exact ⟨n, by unfold Lib.decFrom; rw [hd]; exact hn⟩
theorem atoi_digits {l : List UInt8} (h0 : l ≠ []) (h : l.all isD = true) : Lib.atoi l = (Lib.decFrom 0 l).map fun (m : Nat) => (m : Int) := by
  cases l with
  | nil => exact absurd rfl h0
  | cons b r =>
    have hb := (Bool.and_eq_true_iff.1 (by rw [List.all_cons] at h; exact h)).1
    simp only [isD, Bool.and_eq_true, decide_eq_true_eq] at hb
    have e1 : (b == 45) = false := beq_eq_false_iff_ne.2 (fun e => by rw [e] at hb; exact absurd hb.1 (by decide))
    have e2 : (b == 43) = false := beq_eq_false_iff_ne.2 (fun e => by rw [e] at hb; exact absurd hb.1 (by decide))
    unfold Lib.atoi
    simp only [e1, e2]
    simp [Lib.decNat]
theorem atoi_ok {s : ByteArray} (h : numOk s = true) : strconv_Atoi_94.f s = some (numV s, none) := by
  simp only [numOk, Bool.and_eq_true, decide_eq_true_eq, bne_iff_ne] at h
  have hne : s.data.toList ≠ [] := fun e => h.1 (by rw [size_D, e]; rfl)
  unfold strconv_Atoi_94.f numV
  rw [if_pos (by omega), atoi_digits hne h.2.2]
  obtain ⟨n, hn⟩ := decFrom_all s.data.toList 0 h.2.2
  rw [hn]
  rfl
theorem htrimD_eq (s : ByteArray) (hs : s.size ≤ 10) : strings_Trim.f s (⟨#[48, 49, 50, 51, 52, 53, 54, 55, 56, 57]⟩ : ByteArray) = some (mkB (Lib.trimS s.data.toList DIG.data.toList)) := by
  unfold strings_Trim.f
  rw [if_pos ⟨by omega, by decide, by decide⟩]
  rfl
theorem hlen_loop (v : ByteArray) (vs all : List ByteArray) (hall : all = v :: vs) (hl : all.length ≤ 4294967295) (hv : ∀ i, i < all.length → True) : ∀ (m i : Nat), i + m = all.length →
    Ev (fun k => head_Length.l0 k all all (all.length : Int) (i : Int)) (if ((all.drop i).all (fun s => numOk s && s.data.toList == v.data.toList) = true ∧ numOk v = true) then (if numV v > 65535 then (0, 413) else (numV v, 200)) else (0, 400)) ∨ (numOk v = false ∧ (all.drop i).all (fun s => numOk s && s.data.toList == v.data.toList) = true)
  | 0, i, h => by
    by_cases hn : numOk v = true
    · refine .inl ?_
      refine Ev.step (fun k => by rw [head_Length.l0]) (Ev.ite_neg (by omega) (Ev.ite_pos (by rw [hall]; first | (simp; done) | (simp; omega)) ?_))
      have e0 : rdOf ByteArray.empty all 0 = v := by rw [hall]; rfl
      rw [e0]
      refine Ev.some_bind (atoi_ok hn) ?_
      rw [List.drop_of_length_le (by omega)]
      dsimp only
      by_cases h6 : numV v > 65535
      · exact Ev.is (Ev.ite_pos h6 (Ev.now _)) (by simp [hn, h6])
      · exact Ev.is (Ev.ite_neg h6 (Ev.now _)) (by simp [hn, h6])
    · refine .inr ⟨by simpa using hn, ?_⟩
      rw [List.drop_of_length_le (by omega)]; rfl
  | m + 1, i, h => by
    have hi : i < all.length := by omega
    have hd := List.drop_eq_getElem_cons hi
    have e0 : rdOf ByteArray.empty all 0 = v := by rw [hall]; rfl
    have ei : rdOf ByteArray.empty all (i : Int) = all[i] := by simp [rdOf, List.getD_eq_getElem?_getD, List.getElem?_eq_getElem hi]
    have hw : wrap64 ((i : Int) + 1) = ((i + 1 : Nat) : Int) := by rw [wrap64_id (by omega) (by omega)]; omega
    have no : (numOk all[i] && all[i].data.toList == v.data.toList) = false → ∀ g : Nat → Option (Int × Int), Ev g (0, 400) → Ev g (if ((all.drop i).all (fun s => numOk s && s.data.toList == v.data.toList) = true ∧ numOk v = true) then (if numV v > 65535 then (0, 413) else (numV v, 200)) else (0, 400)) := by
      intro hf g hg
      rw [hd, List.all_cons, hf]
      simpa using hg
    by_cases hok : (numOk all[i] && all[i].data.toList == v.data.toList) = true
    · have hok' := hok
      simp only [numOk, Bool.and_eq_true, decide_eq_true_eq, bne_iff_ne, beq_iff_eq] at hok'
      rcases hlen_loop v vs all hall hl hv m (i + 1) (by omega) with ih | ih
      · refine .inl ?_
        refine Ev.step (fun k => by rw [head_Length.l0]) (Ev.ite_pos (by omega) (Ev.ite_pos (by omega) (Ev.ite_pos (by omega) ?_)))
        rw [ei, hw, e0]
        refine Ev.ite_neg (fun e => hok'.1.1 (nil_size.1 e)) (Ev.ite_neg (by omega) (Ev.some_bind (htrimD_eq _ (by omega)) (Ev.ite_pos ?_ (Ev.ite_pos (by omega) (Ev.ite_pos ?_ ?_)))))
        · rw [toList_D]; exact (trimS_nil _).2 hok'.1.2.2
        · rw [toList_D, toList_D]; exact hok'.2
        · rw [hd, List.all_cons, hok, Bool.true_and]; exact ih
      · refine .inr ⟨ih.1, ?_⟩
        rw [hd, List.all_cons, hok, Bool.true_and]; exact ih.2
    · have hf : (numOk all[i] && all[i].data.toList == v.data.toList) = false := by simpa using hok
      refine .inl (no hf _ ?_)
      refine Ev.step (fun k => by rw [head_Length.l0]) (Ev.ite_pos (by omega) (Ev.ite_pos (by omega) (Ev.ite_pos (by omega) ?_)))
      rw [ei, hw, e0]
      by_cases h0 : all[i].size = 0
      · exact Ev.ite_pos (nil_size.2 h0) (Ev.now _)
      · refine Ev.ite_neg (fun e => h0 (nil_size.1 e)) ?_
        by_cases h10 : (all[i].size : Int) > 10
        · exact Ev.ite_pos h10 (Ev.now _)
        · refine Ev.ite_neg h10 (Ev.some_bind (htrimD_eq _ (by omega)) ?_)
          by_cases hdg : (all[i].data.toList).all isD = true
          · refine Ev.ite_pos (by rw [toList_D]; exact (trimS_nil _).2 hdg) (Ev.ite_pos (by omega) (Ev.ite_neg ?_ (Ev.now _)))
            intro e
            rw [toList_D, toList_D] at e
            have hn : numOk all[i] = true := by
              simp only [numOk, Bool.and_eq_true, decide_eq_true_eq, bne_iff_ne]
              exact ⟨h0, by omega, hdg⟩
            rw [hn, beq_iff_eq.2 e] at hf
            cases hf
          · exact Ev.ite_neg (fun e => hdg ((trimS_nil _).1 (by rw [toList_D] at e; exact e))) (Ev.now _)
theorem hlength_ev (m t : ByteArray) (mi : Int) (fs : List SF) (hf : Small fs) : Ev (fun k => head_Length.f k m t mi fs) (lengthP fs) := by
  unfold head_Length.f
  have hfld : Ev (fun k => head_Field.f k m t mi fs TE) (fieldP fs TE) := hfield_ev m t mi fs TE hf (by decide)
  refine Ev.bind hfld ?_
  unfold lengthP fieldP
  by_cases ht : (valsF fs TE).length = 0
  · rw [if_pos ht]
    refine Ev.ite_neg (by show ¬ ((valsF fs TE).length : Int) > 0; omega) ?_
    have hall : Ev (fun k => head_all.f k m t mi fs CLN) (valsF fs CLN) := all_ev m t mi fs CLN hf (by decide)
    refine Ev.bind hall ?_
    have hle : (valsF fs CLN).length ≤ 4294967295 := by
      have : (valsF fs CLN).length ≤ fs.length := by unfold valsF; rw [List.length_map]; exact List.length_filter_le _ _
      have := hf.1; omega
    cases hv : valsF fs CLN with
    | nil => exact Ev.ite_pos rfl (Ev.now _)
    | cons v vs =>
      rw [hv] at hle
      refine Ev.ite_neg (by simp; omega) ?_
      rcases hlen_loop v vs (v :: vs) rfl hle (fun _ _ => trivial) (v :: vs).length 0 (by omega) with ih | ih
      · refine Ev.is ih ?_
        rw [List.drop_zero]
        by_cases ha : (v :: vs).all (fun s => numOk s && s.data.toList == v.data.toList) = true
        · have hn : numOk v = true := by
            rw [List.all_cons, Bool.and_eq_true, Bool.and_eq_true] at ha
            exact ha.1.1
          rw [if_pos ⟨ha, hn⟩]; exact (if_pos ha).symm
        · rw [if_neg (fun e => ha e.1)]; exact (if_neg ha).symm
      · exfalso
        have := ih.2
        rw [List.drop_zero, List.all_cons, ih.1] at this
        simp at this
  · rw [if_neg ht]
    exact Ev.ite_pos (by show ((valsF fs TE).length : Int) > 0; omega) (Ev.now _)

def decL (n : Nat) : List UInt8 := if n < 10 then [UInt8.ofNat (48 + n)] else decL (n / 10) ++ [UInt8.ofNat (48 + n % 10)]
termination_by n
decreasing_by omega
theorem dig_byte (d : Nat) (h : d < 10) : (UInt8.ofNat (48 + d)).toNat = 48 + d := UInt8.toNat_ofNat_of_lt' (by simp [UInt8.size]; omega)
theorem decL_all (n : Nat) : (decL n).all isD = true := by
  unfold decL
  by_cases h : n < 10
  · rw [if_pos h]
    simp only [List.all_cons, List.all_nil, Bool.and_true, isD, dig_byte n h, Bool.and_eq_true, decide_eq_true_eq]
    omega
  · rw [if_neg h, List.all_append, decL_all (n / 10)]
    simp only [List.all_cons, List.all_nil, Bool.and_true, Bool.true_and, isD, dig_byte (n % 10) (by omega), Bool.and_eq_true, decide_eq_true_eq]
    omega
termination_by n
decreasing_by omega
theorem decL_pos (n : Nat) : 0 < (decL n).length := by
  unfold decL; split <;> simp
theorem decL_len : ∀ (k n : Nat), n < 10 ^ (k + 1) → (decL n).length ≤ k + 1
  | 0, n, h => by
    unfold decL
    rw [if_pos (by simpa using h)]; simp
  | k + 1, n, h => by
    unfold decL
    by_cases h10 : n < 10
    · rw [if_pos h10]; simp
    · rw [if_neg h10, List.length_append]
      have := decL_len k (n / 10) (by rw [Nat.pow_succ] at h; omega)
      simp; omega
theorem decFrom_snoc : ∀ (l : List UInt8) (acc m d : Nat) (b : UInt8), Lib.decFrom acc l = some m → Lib.digitVal b = some d → Lib.decFrom acc (l ++ [b]) = some (m * 10 + d)
  | [], acc, m, d, b, h, hb => by
    simp only [Lib.decFrom, Option.some.injEq] at h
    subst h
    simp [Lib.decFrom, hb]
  | c :: l, acc, m, d, b, h, hb => by
    rw [List.cons_append]
    unfold Lib.decFrom at h ⊢
    cases hc : Lib.digitVal c with
    | none => rw [hc] at h; cases h
    | some e => rw [hc] at h; exact decFrom_snoc l _ m d b h hb
theorem decL_val (n : Nat) : Lib.decFrom 0 (decL n) = some n := by
  unfold decL
  by_cases h : n < 10
  · rw [if_pos h]
    have hd : Lib.digitVal (UInt8.ofNat (48 + n)) = some n := by
      unfold Lib.digitVal; rw [dig_byte n h, if_pos (by omega)]; congr 1; omega
    show (match Lib.digitVal (UInt8.ofNat (48 + n)) with | some d => Lib.decFrom (0 * 10 + d) [] | none => none) = some n
    rw [hd]
    simp [Lib.decFrom]
  · rw [if_neg h]
    have hd : Lib.digitVal (UInt8.ofNat (48 + n % 10)) = some (n % 10) := by
      unfold Lib.digitVal; rw [dig_byte _ (by omega), if_pos (by omega)]; congr 1; omega
    rw [decFrom_snoc _ 0 (n / 10) (n % 10) _ (decL_val (n / 10)) hd]
    congr 1; omega
termination_by n
decreasing_by omega
theorem str_digit (d : Nat) (h : d < 10) : strOfNums ([(wrap64 (48 + (d : Int))) % 256] : List Int) = mkB [UInt8.ofNat (48 + d)] := by
  have e : (wrap64 (48 + (d : Int))) % 256 = ((UInt8.ofNat (48 + d)).toNat : Int) := by
    rw [dig_byte d h, wrap64_id (by omega) (by omega)]; omega
  rw [e]
  exact strOf_nums8 [UInt8.ofNat (48 + d)]
theorem decimal_ev (n : Nat) (hn : n < 10000000000) : Ev (fun k => ostiarylaw13_decimal.f k (n : Int)) (mkB (decL n)) := by
  refine Ev.step (fun k => by rw [ostiarylaw13_decimal.f]) ?_
  unfold decL
  by_cases h : n < 10
  · rw [if_pos h, str_digit n h]
    exact Ev.ite_pos (by omega) (Ev.now _)
  · rw [if_neg h]
    have e1 : wrap64 (Int.tdiv (n : Int) 10) = ((n / 10 : Nat) : Int) := by
      rw [Int.tdiv_eq_ediv_of_nonneg (by omega), wrap64_id (by omega) (by omega)]; omega
    have e2 : Int.tmod (n : Int) 10 = ((n % 10 : Nat) : Int) := by
      rw [Int.tmod_eq_emod_of_nonneg (by omega)]; omega
    rw [e1, e2]
    refine Ev.ite_neg (by omega) (Ev.bind (decimal_ev (n / 10) (by omega)) (Ev.some_bind rfl ?_))
    rw [str_digit _ (by omega)]
    have hl := decL_len 9 (n / 10) (by omega)
    refine Ev.ite_pos (by show (decL (n / 10)).length + 1 ≤ _; omega) (Ev.is (Ev.now _) (ba_ext (by simp)))
termination_by n
decreasing_by omega
theorem dec_num (n : Nat) (hn : n < 10000000000) : numOk (mkB (decL n)) = true ∧ numV (mkB (decL n)) = (n : Int) := by
  have h1 := decL_pos n
  have h2 := decL_len 9 n (by omega)
  have h3 := decL_all n
  refine ⟨?_, ?_⟩
  · simp only [numOk, Bool.and_eq_true, decide_eq_true_eq, bne_iff_ne]
    exact ⟨by show (decL n).length ≠ 0; omega, by show (decL n).length ≤ 10; omega, h3⟩
  · unfold numV
    show (Lib.atoi (decL n)).getD 0 = (n : Int)
    rw [atoi_digits (List.length_pos_iff.1 h1) h3, decL_val]
    rfl
end Go.Proofs.YtnhpcpmgedjffaaGreatDoor.P
end
section
namespace Go.Proofs.YtnhpcpmgedjffaaGreatDoor.P
open Go.RowKit Go.Proofs.YtnhpcpmgedjffaaGreatDoorW.PrintWords Go.Proofs.YtnhpcpmgedjffaaGreatDoorW.PrintLast Go.Proofs.YtnhpcpmgedjffaaGreatDoorW.PrintMore Go.Proofs.YtnhpcpmgedjffaaGreatDoorX
set_option linter.unusedVariables false
set_option linter.unusedSimpArgs false
def CLa : ByteArray := ⟨#[67, 111, 110, 116, 101, 110, 116, 45, 76, 101, 110, 103, 116, 104]⟩
def CLb : ByteArray := ⟨#[67, 79, 78, 84, 69, 78, 84, 45, 108, 101, 110, 103, 116, 104]⟩
def TEa : ByteArray := ⟨#[84, 114, 97, 110, 115, 102, 101, 114, 45, 69, 110, 99, 111, 100, 105, 110, 103]⟩
def IDEN : ByteArray := ⟨#[105, 100, 101, 110, 116, 105, 116, 121]⟩
theorem sa : CLa.size ≤ 140737488355328 := by decide
theorem sb : CLb.size ≤ 140737488355328 := by decide
theorem st_ : TEa.size ≤ 140737488355328 := by decide
theorem n1 : lowL CLa ≠ lowL TE := by decide +kernel
theorem n2 : lowL CLb ≠ lowL TE := by decide +kernel
theorem n3 : lowL TEa = lowL TE := by decide +kernel
theorem n4 : lowL CLa = lowL CLN := by decide +kernel
theorem n5 : lowL CLb = lowL CLN := by decide +kernel
theorem len1 (v : ByteArray) : lengthP [⟨CLa, v⟩] = if numOk v = true then (if numV v > 65535 then (0, 413) else (numV v, 200)) else (0, 400) := by
  have e1 : valsF [⟨CLa, v⟩] TE = [] := by rw [valsF_cons, if_neg n1]; rfl
  have e2 : valsF [⟨CLa, v⟩] CLN = [v] := by rw [valsF_cons, if_pos n4]; rfl
  unfold lengthP
  rw [e1, if_pos (show ([] : List ByteArray).length = 0 from rfl), e2]
  by_cases h : numOk v = true
  · rw [if_pos h]; exact if_pos (by simp [h])
  · rw [if_neg h]; exact if_neg (by simp [h])
theorem len2 (v x : ByteArray) (hv : numOk v = true) : (lengthP [⟨CLa, v⟩, ⟨CLb, x⟩]).2 = if x.toList = v.toList then (if numV v > 65535 then 413 else 200) else 400 := by
  have e1 : valsF [⟨CLa, v⟩, ⟨CLb, x⟩] TE = [] := by rw [valsF_cons, if_neg n1, valsF_cons, if_neg n2]; rfl
  have e2 : valsF [⟨CLa, v⟩, ⟨CLb, x⟩] CLN = [v, x] := by rw [valsF_cons, if_pos n4, valsF_cons, if_pos n5]; rfl
  unfold lengthP
  rw [e1, if_pos (show ([] : List ByteArray).length = 0 from rfl), e2]
  by_cases h : x.toList = v.toList
  · rw [if_pos h]
    obtain rfl := toList_eq.1 h
    refine (congrArg Prod.snd (if_pos (by simp [hv]))).trans ?_
    split <;> rfl
  · rw [if_neg h]
    have hn : ¬ x.data.toList = v.data.toList := fun e => h (by rw [toList_D, toList_D]; exact e)
    exact congrArg Prod.snd (if_neg (by simp; intro _ _ e; exact hn (by rw [e])))
theorem len3_ (v x : ByteArray) : lengthP [⟨CLa, v⟩, ⟨CLb, x⟩, ⟨TEa, IDEN⟩] = (0, 501) := by
  unfold lengthP
  refine if_neg ?_
  rw [valsF_cons, valsF_cons, valsF_cons, if_pos n3]
  simp
theorem hl_j1 (x1 text : ByteArray) (hv : numOk text = true) : Ev (fun k => ostiarylaw13_HeadLengths.j1 k x1 true text false (⟨#[71, 69, 84]⟩ : ByteArray) (⟨#[47, 97]⟩ : ByteArray) 1 [⟨CLa, text⟩]) true := by
  have sm2 : Small [⟨CLa, text⟩, ⟨CLb, x1⟩] := ⟨by simp, by intro f hf; simp at hf; rcases hf with rfl | rfl <;> first | exact sa | exact sb⟩
  have sm3 : Small [⟨CLa, text⟩, ⟨CLb, x1⟩, ⟨TEa, IDEN⟩] := ⟨by simp, by intro f hf; simp at hf; rcases hf with rfl | rfl | rfl <;> first | exact sa | exact sb | exact st_⟩
  have h2 := hlength_ev (⟨#[71, 69, 84]⟩ : ByteArray) (⟨#[47, 97]⟩ : ByteArray) 1 _ sm2
  have h3 := hlength_ev (⟨#[71, 69, 84]⟩ : ByteArray) (⟨#[47, 97]⟩ : ByteArray) 1 _ sm3
  refine Ev.step (fun k => by rw [ostiarylaw13_HeadLengths.j1]) ?_
  refine Ev.ite_neg (by decide) ?_
  refine Ev.ite_pos (by simp) ?_
  refine Ev.some_bind rfl ?_
  refine Ev.bind h2 ?_
  refine Ev.ite_pos (by simp) ?_
  refine Ev.bind h3 ?_
  refine Ev.ite_pos rfl ?_
  refine Ev.ite_pos ?_ (Ev.is (Ev.now _) ?_)
  · rw [len2 text x1 hv]
    by_cases h : x1.toList = text.toList
    · rw [if_pos h, h]
      split <;> simp
    · rw [if_neg h]
      simp [h]
  · rw [len3_]; rfl
theorem headLengths_pure : ostiarylaw13_HeadLengths.Pure := by
  intro a0 a1 h0 h1
  refine Ev.rounds ?_
  unfold ostiarylaw13_HeadLengths.f
  refine Ev.some_bind rfl ?_
  have out : Ev (fun k => ostiarylaw13_HeadLengths.j0 k a0 a1 true true) true := Ev.step (fun k => by rw [ostiarylaw13_HeadLengths.j0]) (Ev.ite_pos rfl (Ev.now _))
  by_cases hn : a0 < 0
  · exact Ev.ite_pos hn out
  · refine Ev.ite_neg hn ?_
    by_cases hg : a0 > 1073741824
    · exact Ev.ite_pos hg out
    · refine Ev.ite_neg hg ?_
      by_cases hl : (a1.size : Int) > 100
      · rw [decide_eq_true hl]; exact out
      · rw [decide_eq_false hl]
        obtain ⟨n, rfl⟩ : ∃ n : Nat, a0 = n := ⟨a0.toNat, by omega⟩
        obtain ⟨d1, d2⟩ := dec_num n (by omega)
        have sm1 : Small [⟨CLa, mkB (decL n)⟩] := ⟨by simp, by intro f hf; simp at hf; rw [hf]; exact sa⟩
        have hl1 := hlength_ev (⟨#[71, 69, 84]⟩ : ByteArray) (⟨#[47, 97]⟩ : ByteArray) 1 _ sm1
        rw [len1, if_pos d1, d2] at hl1
        have j1 := hl_j1 a1 (mkB (decL n)) d1
        refine Ev.step (fun k => by rw [ostiarylaw13_HeadLengths.j0]) ?_
        refine Ev.ite_neg (by decide) ?_
        refine Ev.bind (decimal_ev n (by omega)) ?_
        unfold ostiarylaw13_of.f
        refine Ev.some_bind rfl ?_
        by_cases h6 : (n : Int) > 65535
        · rw [if_pos h6] at hl1
          exact Ev.bind hl1 (Ev.ite_neg (by omega) (Ev.ite_pos h6 j1))
        · rw [if_neg h6] at hl1
          exact Ev.bind hl1 (Ev.ite_pos (by omega) (Ev.ite_pos rfl (Ev.ite_pos rfl (Ev.ite_neg h6 j1))))
end Go.Proofs.YtnhpcpmgedjffaaGreatDoor.P
end
section
/-! The row of HeadLengths. -/
namespace Go.Proofs.YtnhpcpmgedjffaaGreatDoor.headLengths
open Go.ChangeShapes Go.WideShapes Go.ChangeAt Go.RowKit Go.Lib Go.Proofs.YtnhpcpmgedjffaaGreatDoorX
open Go.ChangeMaps (open_string shut_string)
set_option linter.unusedVariables false
set_option maxRecDepth 100000 in
theorem door_met (os : Os) (args : Array Value) : laidMetH Tryz.prog Rows.headLengthsRow.laid ((doorWorld os).forCall (fun _ _ => 0) ⟨#[], args, []⟩).memory :=
  laidMetH_of_parts3 (fuel := 8) (laidMet_of_run' 8 (by kernel_rfl) (by kernel_rfl)) (by kernel_rfl) (by kernel_rfl)
set_option maxRecDepth 100000 in
theorem lifted (os : Os) (started : os.Started) (H : Type) (enc : TypeId × Value → H) :
    ReturnsInHanded {} Tryz.checked os 9 .any (fun w args => (Rows.headLengthsSpec.pre enc Tryz.checked.prog Tryz.f9 Rows.headLengthsRow.domain false w args ∧ laidMetH Tryz.prog Rows.headLengthsRow.laid w) ∧ sizedMet enc Tryz.checked.prog Tryz.f9 (OpenSpec.ofChange Rows.headLengthsSpec) false w args) (Rows.headLengthsSpec.post enc Tryz.checked.prog Tryz.f9 false true false false) := by
  refine handed_laid (C := Tryz.checked) (X := (fun w _ => laidMetH Tryz.prog Rows.headLengthsRow.laid w)) (fun _ _ _ hh h => h.of_heap hh) own started (by kernel_rfl) Tryz.func9
    (ChangeSpec.witness_shaped (enc := enc) (C := Tryz.checked) (os := os) (X := (fun w _ => laidMetH Tryz.prog Rows.headLengthsRow.laid w)) false (doorWorld os) #[.int .i64 0, .string ByteArray.empty] 8 rfl (World.shaped_of_RefB (by kernel_rfl) (by kernel_rfl)) (by kernel_rfl) (by kernel_rfl) (by kernel_rfl) (door_met os _)) ?_
  intro W base args ds gs before hval0 hW hcnd hsz0 hL hsh
  have hsz : (DataW.weightsEach Tryz.prog (Tryz.f9.params.toList ++ Rows.headLengthsSpec.plain.varTypes Tryz.prog) (ds ++ gs)).all (· ≤ reachBytes) = true := hsz0
  have hval : ∀ (j : Nat) t v, Tryz.f9.params[j]? = some t → args[j]? = some v → Value.okWide Tryz.prog W .any base t v := hval0
  have hL' : laidMet Tryz.prog Rows.headLengthsRow.laid W := by
    have h := hL
    rw [MakeChecks.laidMetH_plain _ _ _ (by kernel_rfl)] at h
    exact h
  have hG : GG 5 W := gg5_of hsh (Lib.laidMet.reads hL' (.tail _ (.tail _ (.tail _ (.tail _ (.tail _ (.tail _ (.head _)))))))) (Lib.laidMet.reads hL' (.tail _ (.tail _ (.tail _ (.head _)))))
  have hW' := hW
  obtain ⟨p, q, hA0, hV, rfl, hfz, hnd⟩ := hW
  have hA : DataW.TrodAll enc Tryz.prog W 0 (fun _ => true) true Tryz.f9.params.toList args.toList ds p := hA0
  rw [Tryz.params9] at hA hval hsz
  obtain ⟨v0, vs0, d0, ds0, p0, q0, hargs, rfl, rfl, h0, r0⟩ := trodAll_cons hA
  obtain ⟨v1, vs1, d1, ds1, p1, q1, rfl, rfl, rfl, h1, r1⟩ := trodAll_cons r0
  obtain ⟨rfl, rfl, rfl⟩ := trodAll_nil r1
  obtain rfl : args = #[v0, v1] := by cases args; simp_all
  obtain ⟨rfl, rfl⟩ := trodVars_none hV
  obtain ⟨a0, rfl, rfl, rfl, w0⟩ := open_int Tryz.underlying3 (hval 0 3 v0 rfl rfl) h0
  obtain ⟨a1, rfl, rfl, rfl, y1⟩ := open_string Tryz.underlying9 (hval 1 9 v1 rfl rfl) h1
  have w1 : a1.size ≤ 140737488351232 := by
    have z := sized_string hsz (j := 1) (t := 9) rfl rfl
    rw [Array.length_toList] at z
    exact z
  clear hA0 hval0 hsz0 hsz
  refine (P.ostiarylaw13_HeadLengths.walk P.headLengths_pure a0 a1 W w0 w1 hG).mono fun e W' ⟨he, bel⟩ => ?_
  subst he
  exact ⟨_, rfl, _, _, _, [], _, [], hW', trodAll_mk1 (shut_bool Tryz.underlying4 _), (trodAll_cons_mk (shut_int Tryz.underlying3 w0) (trodAll_cons_mk (shut_string Tryz.underlying9 y1) trodAll_mk0)), rfl, bel.frame _, fun h => by cases h⟩
theorem andT {a b : Bool} (h1 : a = true) (h2 : b = true) : (a && b) = true := Bool.and_eq_true_iff.2 ⟨h1, h2⟩
set_option maxHeartbeats 4000000 in
theorem facts : joinedFacts Tryz.prog 9 Tryz.f9 Rows.headLengthsSpec Rows.headLengthsRow = true := by
  unfold joinedFacts
  iterate 31 (refine andT ?_ (by as_aux_lemma => kernel_rfl))
  as_aux_lemma => kernel_rfl
theorem over : Rows.headLengthsRow.holds Tryz.pinned (OpenSpec.ofChange Rows.headLengthsSpec) :=
  OpenClaim.holds_of_wide 9 Tryz.f9 rfl rfl rfl rfl rfl rfl rfl ⟨rfl, rfl, rfl, rfl, rfl⟩ rfl rfl rfl rfl rfl (by kernel_rfl) Tryz.func9 facts
    (of_decide_eq_true (by kernel_rfl)) (by unfold Func.isWrapper; first | (rw [if_pos (by decide +kernel)]; kernel_rfl) | (rw [if_neg (by decide +kernel)]; exact ⟨rfl, rfl⟩))
    (fun os started H enc _ => lifted os started H enc)
theorem proved : Rows.HeadLengthsSaid := over
end Go.Proofs.YtnhpcpmgedjffaaGreatDoor.headLengths
end
