import Derived.Test.YtnhpcpmgedjffaaDoorProg
import Derived.Test.YtnhpcpmgedjffaaDoorExt
import Derived.Test.YtnhpcpmgedjffaaDoorWord
import Derived.Test.YtnhpcpmgedjffaaDoorLower
import Derived.Test.YtnhpcpmgedjffaaDoorCany
/-! Plain laws on texts and rows of bytes: no program in sight. -/
namespace Go.Proofs.YtnhpcpmgedjffaaDoorX
open Go.RowKit Go.Proofs.YtnhpcpmgedjffaaDoorW.PrintWords Go.Proofs.YtnhpcpmgedjffaaDoorW.PrintLast Go.Proofs.YtnhpcpmgedjffaaDoorW.PrintMore
set_option linter.unusedVariables false
set_option linter.unusedSimpArgs false

theorem toList_D (s : ByteArray) : s.toList = s.data.toList := by
  obtain ⟨⟨l⟩⟩ := s
  exact ByteArray.toList_mk l
theorem ba_ext {s t : ByteArray} (h : s.data.toList = t.data.toList) : s = t := by
  obtain ⟨⟨l⟩⟩ := s; obtain ⟨⟨m⟩⟩ := t
  simp at h; subst h; rfl
def nums8 (l : List UInt8) : List Int := l.map fun b => (b.toNat : Int)
theorem bytesOf_D (s : ByteArray) : bytesOf s = nums8 s.data.toList := rfl
theorem bytesOf_append (a b : ByteArray) : bytesOf (a ++ b) = bytesOf a ++ bytesOf b := by simp [bytesOf]
theorem isBytes_nums8 (l : List UInt8) : isBytes (nums8 l) = true := by
  simp only [isBytes, nums8, List.all_map, List.all_eq_true, Function.comp, Bool.and_eq_true, decide_eq_true_eq]
  intro b _
  have := b.toNat_lt
  omega
theorem isBytes_bytesOf (s : ByteArray) : isBytes (bytesOf s) = true := isBytes_nums8 _
theorem ofNat_byte (b : UInt8) : UInt8.ofNat ((b.toNat : Int)).toNat = b := by simp
theorem lib_nums8 (l : List UInt8) : Lib.bytesOf (nums8 l) = l := by
  simp only [Lib.bytesOf, nums8, List.map_map]
  conv => rhs; rw [← List.map_id l]
  exact List.map_congr_left fun b _ => ofNat_byte b
theorem strOf_nums8 (l : List UInt8) : strOfNums (nums8 l) = ⟨l.toArray⟩ := by
  have h := lib_nums8 l
  simp only [Lib.bytesOf] at h
  simp only [strOfNums, h]
theorem strOf_bytesOf (s : ByteArray) : strOfNums (bytesOf s) = s := by
  rw [bytesOf_D, strOf_nums8]
theorem bytesOf_strOf {l : List Int} (h : isBytes l = true) : bytesOf (strOfNums l) = l := by
  simp only [bytesOf, strOfNums, List.map_map]
  conv => rhs; rw [← List.map_id l]
  refine List.map_congr_left fun c hc => ?_
  have := isBytes_mem h c hc
  simp only [Function.comp, id]
  rw [UInt8.toNat_ofNat_of_lt' (by simp [UInt8.size]; omega)]
  omega
theorem nums8_append (a b : List UInt8) : nums8 (a ++ b) = nums8 a ++ nums8 b := by simp [nums8]
theorem nums8_length (a : List UInt8) : (nums8 a).length = a.length := by simp [nums8]
theorem size_D (s : ByteArray) : s.size = s.data.toList.length := (data_length s).symm

/-! ### cuts -/
theorem index_at (c : UInt8) (t rest : List UInt8) : ∀ p : List UInt8, c ∉ p → Lib.index (p ++ (c :: t) ++ rest) (c :: t) = p.length
  | [], _ => by
    simp only [List.nil_append, List.cons_append, List.length_nil]
    unfold Lib.index
    rw [if_pos (by rw [← List.cons_append, List.isPrefixOf_iff_prefix]; exact List.prefix_append _ _)]
    rfl
  | b :: p, h => by
    have hb : c ≠ b := fun e => h (by rw [e]; exact List.mem_cons_self)
    have ih := index_at c t rest p (fun e => h (List.mem_cons_of_mem _ e))
    simp only [List.cons_append]
    unfold Lib.index
    rw [if_neg (by simp [List.isPrefixOf, hb]), ih]
    have : ((p.length : Int) == -1) = false := by rw [beq_eq_false_iff_ne]; omega
    simp [this]
theorem cutB_at (p rest : List UInt8) (h : (13 : UInt8) ∉ p) : xCutB (nums8 (p ++ 13 :: 10 :: rest)) [13, 10] = (nums8 p, nums8 rest, true) := by
  have e : xIndex (nums8 (p ++ 13 :: 10 :: rest)) [13, 10] = p.length := by
    unfold xIndex
    rw [lib_nums8]
    have := index_at 13 [10] rest p h
    simpa [Lib.bytesOf] using this
  unfold xCutB
  have e1 : nums8 (p ++ 13 :: 10 :: rest) = nums8 p ++ ([13, 10] ++ nums8 rest) := by simp [nums8]
  rw [e, if_pos (by omega), e1]
  have e2 : (nums8 p).length = p.length := nums8_length p
  simp [List.take_append, List.drop_append, e2]
theorem cut_at (s sep : ByteArray) (c : UInt8) (hc : sep.data.toList = [c]) (p rest : List UInt8) (hs : s.data.toList = p ++ c :: rest) (h : c ∉ p) : xCut s sep = (⟨p.toArray⟩, ⟨rest.toArray⟩, true) := by
  have e : Lib.index (p ++ c :: rest) [c] = p.length := by simpa using index_at c [] rest p h
  unfold xCut Lib.cut
  rw [hs, hc, e, if_pos (by omega)]
  simp

/-! ### trims -/
theorem dropWhile_head {α : Type} (f : α → Bool) (l : List α) (h : ∀ x, l.head? = some x → f x = false) : l.dropWhile f = l := by
  cases l with
  | nil => rfl
  | cons a l => rw [List.dropWhile_cons, if_neg (by rw [h a rfl]; decide)]
theorem dropWhile_past {α : Type} (f : α → Bool) (a l : List α) (h : ∀ x ∈ a, f x = true) : (a ++ l).dropWhile f = l.dropWhile f := by
  rw [List.dropWhile_append_of_pos h]
theorem trimS_at (a v b cs : List UInt8) (ha : ∀ x ∈ a, cs.contains x = true) (hb : ∀ x ∈ b, cs.contains x = true)
    (h1 : ∀ x, v.head? = some x → cs.contains x = false) (h2 : ∀ x, v.getLast? = some x → cs.contains x = false) : Lib.trimS (a ++ v ++ b) cs = v := by
  have e1 : Lib.trimRightS (a ++ v ++ b) cs = Lib.trimRightS (a ++ v) cs := by
    unfold Lib.trimRightS
    rw [List.reverse_append, dropWhile_past _ _ _ (fun x hx => hb x (List.mem_reverse.1 hx))]
  unfold Lib.trimS
  rw [e1]
  by_cases hv : v = []
  · subst hv
    have : Lib.trimRightS (a ++ []) cs = [] := by
      unfold Lib.trimRightS
      rw [List.append_nil, ← List.append_nil a.reverse, dropWhile_past _ _ _ (fun x hx => ha x (List.mem_reverse.1 hx))]
      rfl
    rw [this]; rfl
  · have e2 : Lib.trimRightS (a ++ v) cs = a ++ v := by
      unfold Lib.trimRightS
      rw [dropWhile_head, List.reverse_reverse]
      intro x hx
      rw [List.head?_reverse, List.getLast?_append] at hx
      obtain ⟨z, hz⟩ : ∃ z, v.getLast? = some z := by
        cases hq : v.getLast? with
        | none => exact absurd (List.getLast?_eq_none_iff.1 hq) hv
        | some z => exact ⟨z, rfl⟩
      rw [hz] at hx
      simp at hx
      exact hx ▸ h2 z hz
    rw [e2]
    unfold Lib.trimLeftS
    rw [dropWhile_past _ _ _ ha, dropWhile_head _ _ h1]

/-! ### large and small -/
theorem low_turn : ∀ b : Fin 256, lowC (turnC (b.val : Int)) = lowC (b.val : Int) ∧ 0 ≤ turnC (b.val : Int) ∧ turnC (b.val : Int) < 256 := by decide +kernel
theorem lower_turned (s : ByteArray) : xLower (xTurned s) = xLower s := by
  have hb : isBytes ((bytesOf s).map turnC) = true := by
    simp only [isBytes, bytesOf, List.all_map, List.all_eq_true, Function.comp, Bool.and_eq_true, decide_eq_true_eq]
    intro b _
    have := low_turn ⟨b.toNat, b.toNat_lt⟩
    exact ⟨this.2.1, this.2.2⟩
  unfold xLower xTurned
  rw [bytesOf_strOf hb, List.map_map]
  congr 1
  simp only [bytesOf, List.map_map]
  refine List.map_congr_left fun b _ => ?_
  exact (low_turn ⟨b.toNat, b.toNat_lt⟩).1
end Go.Proofs.YtnhpcpmgedjffaaDoorX
