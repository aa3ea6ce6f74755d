import Derived.Test.YtnhpcpmgedjffaaDoorPx
import Derived.Test.YtnhpcpmgedjffaaDoorPlain
/-! The plain law of HeadBlanks. -/
namespace Go.Proofs.YtnhpcpmgedjffaaDoor.P
open Go.RowKit Go.Proofs.YtnhpcpmgedjffaaDoorW.PrintWords Go.Proofs.YtnhpcpmgedjffaaDoorW.PrintLast Go.Proofs.YtnhpcpmgedjffaaDoorW.PrintMore Go.Proofs.YtnhpcpmgedjffaaDoorX
set_option linter.unusedVariables false
set_option linter.unusedSimpArgs false

theorem Ev.ite_pos {α : Type} {c : Prop} [Decidable c] {f g : Nat → Option α} {r : α} (hc : c) (h : Ev f r) : Ev (fun k => if c then f k else g k) r := by
  simpa [hc] using h
theorem Ev.ite_neg {α : Type} {c : Prop} [Decidable c] {f g : Nat → Option α} {r : α} (hc : ¬ c) (h : Ev g r) : Ev (fun k => if c then f k else g k) r := by
  simpa [hc] using h
theorem Ev.some_bind {α β : Type} {o : Option α} {f : Nat → α → Option β} {a : α} {r : β} (h : o = some a) (k : Ev (fun n => f n a) r) : Ev (fun n => o.bind (f n)) r := by
  subst h; exact k
theorem wrap64_id {n : Int} (h0 : 0 ≤ n) (h1 : n ≤ 9223372036854775807) : wrap64 n = n := by
  unfold wrap64; omega

/-! ### value -/
def blankC (c : Int) : Bool := c == 9 || c == 32
def okV (c : Int) : Bool := c == 9 || (!decide (c < 32) && c != 127)
def valP (s : ByteArray) : Bool := (bytesOf s).all okV && (s.size == 0 || (!blankC (bt s 0) && !blankC (bt s ((s.size : Int) - 1))))
theorem blank_f (c : Int) : head_blank.f c = some (blankC c) := by
  unfold head_blank.f blankC
  by_cases h : c = 9
  · simp [h]
  · rw [if_neg h]; simp [h]
theorem value_loop (s : ByteArray) (hs : s.size ≤ 140737488355328) : ∀ (m i : Nat), i + m = s.size →
    Ev (fun k => head_value.l0 k s (bytesOf s) ((bytesOf s).length : Int) (i : Int)) (((bytesOf s).drop i).all okV && (s.size == 0 || (!blankC (bt s 0) && !blankC (bt s ((s.size : Int) - 1)))))
  | 0, i, h => by
    have hl := bytesOf_length s
    refine Ev.step (fun k => by rw [head_value.l0]) ?_
    refine Ev.ite_neg (by omega) ?_
    rw [List.drop_of_length_le (by omega)]
    by_cases h0 : s.toList = ([] : List UInt8)
    · have : s.size = 0 := by rw [size_D, ← toList_D, h0]; rfl
      refine Ev.ite_pos h0 ?_
      simpa [this] using Ev.now true
    · have h1 : s.size ≠ 0 := fun e => h0 (by rw [toList_D]; rw [size_D] at e; exact List.length_eq_zero_iff.1 e)
      have h1b : (s.size == 0) = false := by simpa using h1
      refine Ev.ite_neg h0 (Ev.ite_pos (by omega) (Ev.some_bind (blank_f _) ?_))
      by_cases hb : blankC (bt s 0) = true
      · refine Ev.ite_pos hb ?_
        simpa [hb, h1b] using Ev.now false
      · refine Ev.ite_neg hb ?_
        rw [wrap64_id (by omega) (by omega)]
        refine Ev.ite_pos (by omega) (Ev.ite_pos (by omega) (Ev.some_bind (blank_f _) ?_))
        simpa [hb, h1b] using Ev.now (!blankC (bt s ((s.size : Int) - 1)))
  | m + 1, i, h => by
    have hl := bytesOf_length s
    have hi : i < (bytesOf s).length := by omega
    have ih := value_loop s hs m (i + 1) (by omega)
    refine Ev.step (fun k => by rw [head_value.l0]) ?_
    rw [wrap64_id (n := (i : Int) + 1) (by omega) (by omega)]
    have e : rd (bytesOf s) (i : Int) = (bytesOf s)[i] := rd_at _ _ hi
    rw [List.drop_eq_getElem_cons hi, e]
    refine Ev.ite_pos (by omega) (Ev.ite_pos (by omega) (Ev.ite_pos (by omega) ?_))
    simp only [List.all_cons]
    by_cases h9 : (bytesOf s)[i] = 9
    · refine Ev.ite_pos h9 ?_
      simpa [okV, h9] using ih
    · have e9 : ((bytesOf s)[i] == 9) = false := beq_eq_false_iff_ne.2 h9
      refine Ev.ite_neg h9 ?_
      by_cases h32 : (bytesOf s)[i] < 32
      · refine Ev.ite_pos h32 ?_
        simpa [okV, e9, h32] using Ev.now false
      · refine Ev.ite_neg h32 ?_
        by_cases h127 : (bytesOf s)[i] = 127
        · refine Ev.ite_pos h127 ?_
          simpa [okV, e9, h127] using Ev.now false
        · refine Ev.ite_neg h127 ?_
          have e127 : ((bytesOf s)[i] != 127) = true := bne_iff_ne.2 h127
          simpa [okV, e9, h32, e127] using ih
theorem value_ev (s : ByteArray) (hs : s.size ≤ 140737488355328) : Ev (fun k => head_value.f k s) (valP s) := by
  have := value_loop s hs s.size 0 (by omega)
  unfold head_value.f
  refine Ev.ite_pos hs (Ev.some_bind rfl ?_)
  simpa [valP] using this

/-! ### fields, by name -/
theorem all_one (m t : ByteArray) (mi : Int) (n v key : ByteArray) (hn : n.size ≤ 140737488355328) (hk : key.size ≤ 140737488355328) :
    Ev (fun k => head_all.f k m t mi [(⟨n, v⟩ : S67)] key) (if (xLower n).toList = (xLower key).toList then [v] else []) := by
  unfold head_all.f
  refine Ev.step (fun k => by rw [head_all.l0]) ?_
  refine Ev.ite_pos (by simp) (Ev.ite_pos (by simp) (Ev.ite_pos (by simp) ?_))
  refine Ev.some_bind (a := xLower n) (by unfold head_lower.f; exact if_pos hn) (Ev.some_bind (a := xLower key) (by unfold head_lower.f; exact if_pos hk) ?_)
  have w1 : wrap64 (0 + 1) = 1 := (wrap64_id (by decide) (by decide)).trans (by decide)
  rw [w1]
  by_cases hc : (xLower n).toList = (xLower key).toList
  · rw [if_pos hc]
    refine Ev.ite_pos hc (Ev.ite_pos (by simp) ?_)
    refine Ev.step (fun k => by rw [head_all.l0]) ?_
    exact Ev.ite_neg (by simp) (Ev.now _)
  · rw [if_neg hc]
    refine Ev.ite_neg hc ?_
    refine Ev.step (fun k => by rw [head_all.l0]) ?_
    exact Ev.ite_neg (by simp) (Ev.now _)
theorem field_one (m t : ByteArray) (mi : Int) (n v key : ByteArray) (hn : n.size ≤ 140737488355328) (hk : key.size ≤ 140737488355328) :
    Ev (fun k => head_Field.f k m t mi [(⟨n, v⟩ : S67)] key) (if (xLower n).toList = (xLower key).toList then (v, 1) else (⟨#[]⟩, 0)) := by
  unfold head_Field.f
  refine Ev.bind (all_one m t mi n v key hn hk) ?_
  by_cases hc : (xLower n).toList = (xLower key).toList
  · rw [if_pos hc, if_pos hc]
    exact Ev.ite_neg (by simp) (Ev.ite_pos (by simp) (Ev.now _))
  · rw [if_neg hc, if_neg hc]
    exact Ev.ite_pos (by simp) (Ev.now _)
theorem hosts_one (m t : ByteArray) (n v : ByteArray) (hn : n.size ≤ 140737488355328) : Ev (fun k => head_hosts.f k m t 0 [(⟨n, v⟩ : S67)]) true := by
  unfold head_hosts.f
  refine Ev.bind (field_one m t 0 n v _ hn (by decide)) ?_
  by_cases hc : (xLower n).toList = (xLower (⟨#[104, 111, 115, 116]⟩ : ByteArray)).toList
  · rw [if_pos hc]
    exact Ev.ite_pos rfl (Ev.now _)
  · rw [if_neg hc]
    exact Ev.ite_neg (by decide) (Ev.ite_pos rfl (Ev.now _))

/-! ### closed parts -/
theorem target_a : Ev (fun k => head_target.f k (⟨#[47, 97]⟩ : ByteArray)) true := Ev.of (head_target.mono _) (k := 5) (by decide +kernel)
theorem word_get : head_word.f (⟨#[71, 69, 84]⟩ : ByteArray) 16 = some true := by decide +kernel
theorem awake_ev : Ev ostiarylaw13_awake.f true := Ev.of ostiarylaw13_awake.mono (k := 40) (by decide +kernel)
theorem split_get : strings_Split.f (⟨#[71, 69, 84, 32, 47, 97, 32, 72, 84, 84, 80, 47, 49, 46, 48]⟩ : ByteArray) (⟨#[32]⟩ : ByteArray) = some [(⟨#[71, 69, 84]⟩ : ByteArray), ⟨#[47, 97]⟩, ⟨#[72, 84, 84, 80, 47, 49, 46, 48]⟩] := by decide +kernel
theorem version_10 : head_version.f (⟨#[72, 84, 84, 80, 47, 49, 46, 48]⟩ : ByteArray) = some (1, 0, true) := by decide +kernel

/-! ### lines -/
theorem cutF_at (p rest : List UInt8) (h : (13 : UInt8) ∉ p) (hl : (p ++ 13 :: 10 :: rest).length < 4294967281) : bytes_Cut.f (nums8 (p ++ 13 :: 10 :: rest)) [13, 10] = some (nums8 p, nums8 rest, true) := by
  unfold bytes_Cut.f
  rw [if_pos ⟨by decide, by decide, isBytes_nums8 _, by decide, by rw [nums8_length]; exact hl⟩, cutB_at p rest h]
theorem anyF_at (p : List UInt8) (hl : p.length < 4294967281) : bytes_ContainsAny.f (nums8 p) (⟨#[13, 10]⟩ : ByteArray) = some ((nums8 p).any hitC) := by
  unfold bytes_ContainsAny.f
  rw [if_pos ⟨rfl, isBytes_nums8 _, by rw [nums8_length]; exact hl⟩]
theorem nohit (p : List UInt8) (h13 : (13 : UInt8) ∉ p) (h10 : (10 : UInt8) ∉ p) : (nums8 p).any hitC = false := by
  rw [List.any_eq_false]
  intro x hx
  obtain ⟨b, hb, rfl⟩ := List.mem_map.1 hx
  unfold hitC
  simp only [Bool.or_eq_true, beq_iff_eq]
  rintro (h | h)
  · exact h13 (by have : b = 13 := UInt8.toNat_inj.1 (by simpa using (by omega : b.toNat = 13)); exact this ▸ hb)
  · exact h10 (by have : b = 10 := UInt8.toNat_inj.1 (by simpa using (by omega : b.toNat = 10)); exact this ▸ hb)
theorem lines_step (p rest : List UInt8) (acc : List ByteArray) (hp : p ≠ []) (h13 : (13 : UInt8) ∉ p) (h10 : (10 : UInt8) ∉ p) (hacc : acc.length < 8796093022208) (hl : (p ++ 13 :: 10 :: rest).length < 4294967281) {r : List ByteArray × Bool}
    (h : Ev (fun k => head_lines.l0 k (nums8 rest) (acc ++ [⟨p.toArray⟩])) r) : Ev (fun k => head_lines.l0 k (nums8 (p ++ 13 :: 10 :: rest)) acc) r := by
  have hpl : p.length < 4294967281 := by simp at hl; omega
  refine Ev.step (fun k => by rw [head_lines.l0]) (Ev.some_bind (cutF_at p rest h13 hl) ?_)
  refine Ev.ite_pos rfl (Ev.some_bind (anyF_at p hpl) ?_)
  dsimp only
  rw [nohit p h13 h10]
  refine Ev.step (fun k => by rw [head_lines.j1]) (Ev.ite_neg (by decide) ?_)
  refine Ev.ite_neg (by rw [nums8_length]; have := List.length_pos_iff.2 hp; omega) (Ev.ite_pos hacc ?_)
  rw [strOf_nums8]
  exact h
theorem lines_end (acc : List ByteArray) : Ev (fun k => head_lines.l0 k (nums8 [13, 10]) acc) (acc, true) := by
  show Ev (fun k => head_lines.l0 k (nums8 ([] ++ 13 :: 10 :: [])) acc) (acc, true)
  refine Ev.step (fun k => by rw [head_lines.l0]) (Ev.some_bind (cutF_at [] [] (by decide) (by decide)) ?_)
  refine Ev.ite_pos rfl (Ev.some_bind (anyF_at [] (by decide)) ?_)
  refine Ev.step (fun k => by rw [head_lines.j1]) (Ev.ite_neg (by decide) ?_)
  exact Ev.ite_pos (by decide) (Ev.now _)
theorem lines_bad (p rest : List UInt8) (acc : List ByteArray) (h13 : (13 : UInt8) ∉ p) (h10 : (10 : UInt8) ∈ p) (hl : (p ++ 13 :: 10 :: rest).length < 4294967281) :
    Ev (fun k => head_lines.l0 k (nums8 (p ++ 13 :: 10 :: rest)) acc) ([], false) := by
  have hpl : p.length < 4294967281 := by simp at hl; omega
  refine Ev.step (fun k => by rw [head_lines.l0]) (Ev.some_bind (cutF_at p rest h13 hl) ?_)
  refine Ev.ite_pos rfl (Ev.some_bind (anyF_at p hpl) ?_)
  have : (nums8 p).any hitC = true := List.any_eq_true.2 ⟨10, List.mem_map.2 ⟨10, h10, rfl⟩, by decide⟩
  dsimp only
  rw [this]
  exact Ev.step (fun k => by rw [head_lines.j1]) (Ev.ite_pos rfl (Ev.now _))

/-! ### the head's text -/
def REQ : List UInt8 := [71, 69, 84, 32, 47, 97, 32, 72, 84, 84, 80, 47, 49, 46, 48]
theorem word_mem {s : ByteArray} {most : Int} (h : wordF (bytesOf s) most = true) (c : UInt8) (hc : wordL (c.toNat : Int) = false) : c ∉ s.data.toList := by
  intro hm
  simp only [wordF, Bool.and_eq_true] at h
  have := List.all_eq_true.1 h.1 _ (List.mem_map.2 ⟨c, hm, rfl⟩)
  rw [hc] at this
  exact absurd this (by decide)
theorem word_size {s : ByteArray} {most : Int} (h : wordF (bytesOf s) most = true) : s.size ≠ 0 ∧ (s.size : Int) ≤ most := by
  simp only [wordF, Bool.and_eq_true, bytesOf_length, decide_eq_true_eq, bne_iff_ne] at h
  exact h.2
theorem val_mem {s : ByteArray} (h : valP s = true) (c : UInt8) (hc : okV (c.toNat : Int) = false) : c ∉ s.data.toList := by
  intro hm
  simp only [valP, Bool.and_eq_true] at h
  have := List.all_eq_true.1 h.1 _ (List.mem_map.2 ⟨c, hm, rfl⟩)
  rw [hc] at this
  exact absurd this (by decide)
def BL (l : List UInt8) : Prop := ∀ x ∈ l, x = 9 ∨ x = 32
theorem BL.no {l : List UInt8} (h : BL l) (c : UInt8) (h9 : c ≠ 9) (h32 : c ≠ 32) : c ∉ l := fun hm => by
  rcases h c hm with e | e
  · exact h9 e
  · exact h32 e
theorem bt_getElem (s : ByteArray) (i : Nat) (h : i < s.data.toList.length) : bt s (i : Int) = (s.data.toList[i].toNat : Int) := by
  have e := rd_bytesOf s (i : Int)
  rw [← e, rd_at _ _ (by rw [bytesOf_length, size_D]; exact h)]
  simp [bytesOf]
theorem blank_cs (x : UInt8) : ([9, 32] : List UInt8).contains x = blankC (x.toNat : Int) := by
  have : ∀ b : Fin 256, ([9, 32] : List UInt8).contains (UInt8.ofNat b.val) = blankC (b.val : Int) := by decide +kernel
  have h := this ⟨x.toNat, x.toNat_lt⟩
  simpa using h
theorem trim_ev (b1 b2 : List UInt8) (v : ByteArray) (h1 : BL b1) (h2 : BL b2) (hv : valP v = true) (hl : (b1 ++ v.data.toList ++ b2).length ≤ 9223372036854775807) :
    strings_Trim.f ⟨(b1 ++ v.data.toList ++ b2).toArray⟩ (⟨#[9, 32]⟩ : ByteArray) = some v := by
  unfold strings_Trim.f
  rw [if_pos ⟨by rw [size_D]; exact hl, by decide, by decide⟩]
  congr 1
  refine ba_ext ?_
  have hb : ∀ x : UInt8, x = 9 ∨ x = 32 → ([9, 32] : List UInt8).contains x = true := by rintro x (rfl | rfl) <;> decide
  simp only [valP, Bool.and_eq_true, Bool.or_eq_true, Bool.not_eq_true', beq_iff_eq] at hv
  have hlen := size_D v
  refine trimS_at b1 v.data.toList b2 [9, 32] (fun x hx => hb x (h1 x hx)) (fun x hx => hb x (h2 x hx)) ?_ ?_
  · intro x hx
    rw [blank_cs]
    rw [List.head?_eq_getElem?] at hx
    obtain ⟨hi, rfl⟩ := List.getElem?_eq_some_iff.1 hx
    have h0 : v.size ≠ 0 := by omega
    have := (hv.2.resolve_left h0).1
    rw [show (0 : Int) = ((0 : Nat) : Int) from rfl, bt_getElem v 0 hi] at this
    exact this
  · intro x hx
    rw [blank_cs]
    rw [List.getLast?_eq_getElem?] at hx
    obtain ⟨hi, rfl⟩ := List.getElem?_eq_some_iff.1 hx
    have h0 : v.size ≠ 0 := by omega
    have := (hv.2.resolve_left h0).2
    rw [show (v.size : Int) - 1 = ((v.data.toList.length - 1 : Nat) : Int) by omega, bt_getElem v _ hi] at this
    exact this

theorem ofL_D (s : ByteArray) : (⟨s.data.toList.toArray⟩ : ByteArray) = s := ba_ext rfl
/-- A head of one field is parsed as it says. -/
theorem parse_one (n v : ByteArray) (b1 b2 : List UInt8) (h1 : BL b1) (h2 : BL b2) (hw : wordF (bytesOf n) 64 = true) (hv : valP v = true) (hb1 : b1.length ≤ 100) (hb2 : b2.length ≤ 100) (hvs : v.size ≤ 2000) :
    Ev (fun k => head_Parse.f k (nums8 (REQ ++ 13 :: 10 :: ((n.data.toList ++ 58 :: (b1 ++ v.data.toList ++ b2)) ++ 13 :: 10 :: [13, 10])))) (⟨#[71, 69, 84]⟩, ⟨#[47, 97]⟩, 0, [⟨n, v⟩], 200) := by
  obtain ⟨hn0, hn1⟩ := word_size hw
  have hnl := size_D n
  have hvl := size_D v
  generalize hL : n.data.toList ++ 58 :: (b1 ++ v.data.toList ++ b2) = L
  have hLl : L.length ≤ 2300 := by subst hL; simp; omega
  have hL0 : L ≠ [] := by subst hL; simp
  have h13 : (13 : UInt8) ∉ L := by
    subst hL
    have a1 := word_mem hw 13 (by decide +kernel)
    have a2 := h1.no 13 (by decide) (by decide)
    have a3 := h2.no 13 (by decide) (by decide)
    have a4 := val_mem hv 13 (by decide)
    simp [a1, a2, a3, a4]
  have h10 : (10 : UInt8) ∉ L := by
    subst hL
    have a1 := word_mem hw 10 (by decide +kernel)
    have a2 := h1.no 10 (by decide) (by decide)
    have a3 := h2.no 10 (by decide) (by decide)
    have a4 := val_mem hv 10 (by decide)
    simp [a1, a2, a3, a4]
  have hREQ : REQ.length = 15 := rfl
  unfold head_Parse.f
  refine Ev.ite_neg (by rw [nums8_length]; simp; omega) ?_
  have hlines : Ev (fun k => head_lines.f k (nums8 (REQ ++ 13 :: 10 :: (L ++ 13 :: 10 :: [13, 10])))) ([⟨REQ.toArray⟩, ⟨L.toArray⟩], true) := by
    unfold head_lines.f
    refine lines_step REQ _ [] (by decide) (by decide) (by decide) (by decide) (by simp; omega) ?_
    refine lines_step L _ _ hL0 h13 h10 (by decide) (by simp; omega) ?_
    exact lines_end _
  refine Ev.bind hlines (Ev.ite_pos rfl ?_)
  refine Ev.step (fun k => by rw [head_Parse.j0]) ?_
  try dsimp only
  refine Ev.ite_neg (by simp) (Ev.ite_pos (by simp) (Ev.some_bind split_get ?_))
  refine Ev.ite_pos (by decide +kernel) (Ev.ite_pos (by decide +kernel) (Ev.ite_neg (by decide +kernel) (Ev.ite_pos (by decide +kernel) (Ev.ite_neg (by decide +kernel) (Ev.ite_pos (by decide +kernel) (Ev.ite_neg (by decide +kernel) (Ev.some_bind word_get ?_)))))))
  refine Ev.step (fun k => by rw [head_Parse.j1]) ?_
  try dsimp only
  refine Ev.ite_neg (by decide +kernel) (Ev.ite_pos (by decide +kernel) (Ev.some_bind version_10 (Ev.ite_pos rfl (Ev.ite_pos rfl ?_))))
  refine Ev.step (fun k => by rw [head_Parse.j2]) ?_
  try dsimp only
  refine Ev.ite_neg (by decide +kernel) (Ev.ite_pos (by decide +kernel) (Ev.ite_neg (by decide +kernel) (Ev.bind target_a (Ev.ite_pos rfl (Ev.ite_pos (by decide +kernel) (Ev.ite_pos (by simp) (Ev.some_bind rfl ?_)))))))
  have w0 : wrap64 0 = 0 := wrap64_id (by decide) (by decide)
  have w1 : wrap64 (0 + 1) = 1 := (wrap64_id (by decide) (by decide)).trans (by decide)
  refine Ev.step (fun k => by rw [head_Parse.l0]) ?_
  try dsimp only
  refine Ev.ite_pos (by simp) (Ev.ite_pos (by decide) (Ev.ite_pos (by simp) (Ev.ite_neg (by decide) ?_)))
  have hcut : strings_Cut.f (⟨L.toArray⟩ : ByteArray) (⟨#[58]⟩ : ByteArray) = some (n, ⟨(b1 ++ v.data.toList ++ b2).toArray⟩, true) := by
    unfold strings_Cut.f
    rw [if_pos (by rw [size_D]; show L.length < _; omega), cut_at _ _ 58 rfl n.data.toList _ (by subst hL; rfl) (word_mem hw 58 (by decide +kernel)), ofL_D]
  refine Ev.some_bind hcut (Ev.some_bind (trim_ev b1 b2 v h1 h2 hv (by simp; omega)) (Ev.ite_pos rfl ?_))
  have hword : head_word.f n 64 = some true := by
    unfold head_word.f
    rw [if_pos (by omega), hw]
  refine Ev.some_bind hword (Ev.ite_pos rfl (Ev.bind (value_ev v (by omega)) (Ev.ite_pos hv (Ev.ite_pos (by decide) ?_))))
  rw [w1, w0]
  refine Ev.step (fun k => by rw [head_Parse.l0]) ?_
  try dsimp only
  refine Ev.ite_neg (by simp) (Ev.bind (hosts_one _ _ n v (by omega)) (Ev.ite_pos rfl ?_))
  exact Ev.now _

theorem parse_bad (p : List UInt8) (h13 : (13 : UInt8) ∉ p) (h10 : (10 : UInt8) ∈ p) (hl : p.length ≤ 4000) :
    Ev (fun k => head_Parse.f k (nums8 (REQ ++ 13 :: 10 :: (p ++ 13 :: 10 :: [13, 10])))) (⟨#[]⟩, ⟨#[]⟩, 0, [], 400) := by
  have hREQ : REQ.length = 15 := rfl
  unfold head_Parse.f
  refine Ev.ite_neg (by rw [nums8_length]; simp; omega) ?_
  have hlines : Ev (fun k => head_lines.f k (nums8 (REQ ++ 13 :: 10 :: (p ++ 13 :: 10 :: [13, 10])))) ([], false) := by
    unfold head_lines.f
    refine lines_step REQ _ [] (by decide) (by decide) (by decide) (by decide) (by simp; omega) ?_
    exact lines_bad p _ _ h13 h10 (by simp; omega)
  refine Ev.bind hlines (Ev.ite_neg (by decide) ?_)
  refine Ev.step (fun k => by rw [head_Parse.j0]) ?_
  exact Ev.ite_pos rfl (Ev.now _)
theorem status_bad (s : ByteArray) (p : List UInt8) (hs : s.data.toList = REQ ++ 13 :: 10 :: (p ++ 13 :: 10 :: [13, 10])) (h13 : (13 : UInt8) ∉ p) (h10 : (10 : UInt8) ∈ p) (hl : p.length ≤ 4000) :
    Ev (fun k => ostiarylaw13_status.f k s) 400 := by
  have hREQ : REQ.length = 15 := rfl
  unfold ostiarylaw13_status.f
  refine Ev.ite_pos (by rw [size_D, hs]; simp; omega) (Ev.some_bind rfl ?_)
  rw [bytesOf_D, hs]
  exact Ev.bind (parse_bad p h13 h10 hl) (Ev.now _)

/-! ### what is written -/
theorem fine_one (n v : ByteArray) (hn : n.size ≤ 140737488355328) (hv : v.size ≤ 140737488355328) :
    Ev (fun k => head_fine.f k (⟨#[71, 69, 84]⟩ : ByteArray) (⟨#[47, 97]⟩ : ByteArray) 0 [(⟨n, v⟩ : S67)]) (wordF (bytesOf n) 64 && valP v) := by
  have w1 : wrap64 (0 + 1) = 1 := (wrap64_id (by decide) (by decide)).trans (by decide)
  unfold head_fine.f
  refine Ev.some_bind word_get (Ev.ite_pos rfl (Ev.ite_neg (by decide) (Ev.bind target_a (Ev.ite_pos rfl (Ev.ite_neg (by decide) (Ev.ite_neg (by decide) ?_))))))
  refine Ev.step (fun k => by rw [head_fine.j0]) ?_
  refine Ev.ite_neg (by simp) ?_
  refine Ev.step (fun k => by rw [head_fine.l0]) ?_
  have hword : head_word.f n 64 = some (wordF (bytesOf n) 64) := by
    unfold head_word.f
    rw [if_pos hn]
  refine Ev.ite_pos (by simp) (Ev.ite_pos (by decide) (Ev.ite_pos (by simp) (Ev.some_bind hword ?_)))
  by_cases h1 : wordF (bytesOf n) 64 = true
  · refine Ev.ite_pos h1 (Ev.bind (value_ev v hv) ?_)
    by_cases h2 : valP v = true
    · refine Ev.ite_pos h2 ?_
      rw [w1]
      refine Ev.step (fun k => by rw [head_fine.l0]) ?_
      refine Ev.ite_neg (by simp) (Ev.bind (hosts_one _ _ n v hn) ?_)
      simpa [h1, h2] using Ev.now true
    · refine Ev.ite_neg h2 ?_
      simpa [h2] using Ev.now false
  · refine Ev.ite_neg h1 ?_
    simpa [h1] using Ev.now false
theorem check_one (n v : ByteArray) (hn : n.size ≤ 140737488351232) (hv : v.size ≤ 140737488351232) :
    ∃ c : Int, Ev (fun k => head_Check.f k (⟨#[71, 69, 84]⟩ : ByteArray) (⟨#[47, 97]⟩ : ByteArray) 0 [(⟨n, v⟩ : S67)]) c ∧ (c = 0 → wordF (bytesOf n) 64 = true ∧ valP v = true) := by
  by_cases hf : (wordF (bytesOf n) 64 && valP v) = true
  · have hf' := hf
    rw [Bool.and_eq_true] at hf'
    have hsz := word_size hf'.1
    have hb : head_bytes.f (⟨#[71, 69, 84]⟩ : ByteArray) (⟨#[47, 97]⟩ : ByteArray) 0 [(⟨n, v⟩ : S67)] = some (hbytes (⟨#[71, 69, 84]⟩ : ByteArray) (⟨#[47, 97]⟩ : ByteArray) 0 [(⟨n, v⟩ : S67)]) := by
      unfold head_bytes.f
      rw [if_pos]
      refine ⟨.inl rfl, ?_⟩
      have e1 : (bytesOf (⟨#[71, 69, 84]⟩ : ByteArray)).length = 3 := rfl
      have e2 : (bytesOf (⟨#[47, 97]⟩ : ByteArray)).length = 2 := rfl
      simp only [hbytes, hhead, hfield, List.length_append, List.flatMap_cons, List.flatMap_nil, List.length_cons, List.length_nil, bytesOf_length n, bytesOf_length v, e1, e2]
      omega
    generalize hbytes (⟨#[71, 69, 84]⟩ : ByteArray) (⟨#[47, 97]⟩ : ByteArray) 0 [(⟨n, v⟩ : S67)] = x at hb
    by_cases hg : (x.length : Int) > 4096
    · refine ⟨2, ?_, fun _ => hf'⟩
      unfold head_Check.f head_Write.f
      exact Ev.bind (Ev.bind (fine_one n v (by omega) (by omega)) (Ev.ite_pos hf (Ev.some_bind hb (Ev.ite_pos hg (Ev.now _))))) (Ev.now _)
    · refine ⟨0, ?_, fun _ => hf'⟩
      unfold head_Check.f head_Write.f
      exact Ev.bind (Ev.bind (fine_one n v (by omega) (by omega)) (Ev.ite_pos hf (Ev.some_bind hb (Ev.ite_neg hg (Ev.now _))))) (Ev.now _)
  · refine ⟨2, ?_, fun h => absurd h (by decide)⟩
    unfold head_Check.f head_Write.f
    exact Ev.bind (Ev.bind (fine_one n v (by omega) (by omega)) (Ev.ite_neg hf (Ev.now _))) (Ev.now _)

/-! ### blanks -/
theorem pick_20 (a : Int) : ∃ p : Int, ostiarykit_Pick.f a 20 = some p ∧ 0 ≤ p ∧ p < 20 := by
  have h1 : Int.tmod a 20 < 20 := Int.tmod_lt_of_pos a (by decide)
  have h2 : -20 < Int.tmod a 20 := Int.lt_tmod_of_pos a (by decide)
  unfold ostiarykit_Pick.f
  rw [if_neg (by decide), if_neg (by decide)]
  by_cases h : Int.tmod a 20 < 0
  · rw [if_pos h]
    exact ⟨_, rfl, by rw [wrap64_id (by omega) (by omega)]; omega, by rw [wrap64_id (by omega) (by omega)]; omega⟩
  · rw [if_neg h]
    exact ⟨_, rfl, by omega, h1⟩
theorem blanks_loop (a p : Int) (hp : ostiarykit_Pick.f a 20 = some p) (hp1 : p < 20) : ∀ (m : Nat) (i : Int) (b : List UInt8), 0 ≤ i → i + m = p → BL b → b.length ≤ i.toNat →
    ∃ b' : List UInt8, BL b' ∧ b'.length ≤ p.toNat ∧ Ev (fun k => ostiarylaw13_blanks.l0 k a ⟨b.toArray⟩ i) ⟨b'.toArray⟩
  | 0, i, b, h0, h, hb, hl => by
    refine ⟨b, hb, by omega, ?_⟩
    refine Ev.step (fun k => by rw [ostiarylaw13_blanks.l0]) (Ev.some_bind hp ?_)
    exact Ev.ite_neg (by omega) (Ev.now _)
  | m + 1, i, b, h0, h, hb, hl => by
    have m1 : Int.tmod i 2 = i % 2 := Int.tmod_eq_emod_of_nonneg h0
    have hm : i % 2 = 0 ∨ i % 2 = 1 := by omega
    have key : ∃ c : UInt8, (c = 9 ∨ c = 32) ∧ ((⟨#[32, 9]⟩ : ByteArray).extract ((i % 2 : Int)).toNat ((i % 2 + 1 : Int)).toNat) = ⟨#[c]⟩ := by
      rcases hm with e | e
      · rw [e]; exact ⟨32, .inr rfl, by decide +kernel⟩
      · rw [e]; exact ⟨9, .inl rfl, by decide +kernel⟩
    obtain ⟨c, hc, hx⟩ := key
    obtain ⟨b', h1, h2, h3⟩ := blanks_loop a p hp hp1 m (i + 1) (b ++ [c]) (by omega) (by omega) (by
      intro x hx
      rcases List.mem_append.1 hx with hx | hx
      · exact hb x hx
      · rw [List.mem_singleton.1 hx]; exact hc) (by simp; omega)
    refine ⟨b', h1, h2, ?_⟩
    refine Ev.step (fun k => by rw [ostiarylaw13_blanks.l0]) (Ev.some_bind hp ?_)
    rw [m1, wrap64_id (n := i % 2 + 1) (by omega) (by omega), hx, wrap64_id (n := i + 1) (by omega) (by omega)]
    have e : (⟨b.toArray⟩ : ByteArray) ++ ⟨#[c]⟩ = ⟨(b ++ [c]).toArray⟩ := ba_ext (by simp)
    rw [e]
    exact Ev.ite_pos (by omega) (Ev.ite_pos (by omega) (Ev.ite_pos (by omega) (Ev.ite_pos (by omega) (Ev.ite_pos (by show b.length + 1 ≤ _; omega) h3))))
theorem blanks_ev (a : Int) : ∃ b : List UInt8, BL b ∧ b.length ≤ 20 ∧ Ev (fun k => ostiarylaw13_blanks.f k a) ⟨b.toArray⟩ := by
  obtain ⟨p, hp, h0, h1⟩ := pick_20 a
  obtain ⟨b, hb, hl, he⟩ := blanks_loop a p hp h1 p.toNat 0 [] (by decide) (by omega) (fun x hx => by cases hx) (by decide)
  exact ⟨b, hb, by omega, he⟩

theorem same_one (m g : ByteArray) (mi : Int) (f : S67) : Ev (fun k => ostiarykit_SameHead.f k m g mi [f] m g mi [f]) true := by
  have w1 : wrap64 (0 + 1) = 1 := (wrap64_id (by decide) (by decide)).trans (by decide)
  unfold ostiarykit_SameHead.f ostiarykit_SameFields.f
  refine Ev.ite_pos rfl (Ev.ite_pos rfl (Ev.ite_pos rfl (Ev.bind (Ev.ite_pos rfl ?_) (Ev.now _))))
  refine Ev.step (fun k => by rw [ostiarykit_SameFields.l0]) ?_
  refine Ev.ite_pos (by simp) (Ev.ite_pos (by decide) (Ev.ite_pos (by simp) (Ev.ite_neg (by simp) ?_)))
  rw [w1]
  refine Ev.step (fun k => by rw [ostiarykit_SameFields.l0]) ?_
  exact Ev.ite_neg (by simp) (Ev.now _)
def HEAD : ByteArray := ⟨#[71, 69, 84, 32, 47, 97, 32, 72, 84, 84, 80, 47, 49, 46, 48, 13, 10]⟩
theorem j0_true (a0 a1 : ByteArray) (a2 a3 : Int) (m g : ByteArray) (mi : Int) (l : List S67) : Ev (fun k => ostiarylaw13_HeadBlanks.j0 k a0 a1 a2 a3 true true m g mi l) true := by
  refine Ev.step (fun k => by rw [ostiarylaw13_HeadBlanks.j0]) ?_
  exact Ev.ite_pos rfl (Ev.now _)
theorem j0_ok (n v : ByteArray) (a2 a3 : Int) (hw : wordF (bytesOf n) 64 = true) (hv : valP v = true) (hvs : v.size ≤ 2000) :
    Ev (fun k => ostiarylaw13_HeadBlanks.j0 k n v a2 a3 true false (⟨#[71, 69, 84]⟩ : ByteArray) (⟨#[47, 97]⟩ : ByteArray) 0 [(⟨n, v⟩ : S67)]) true := by
  obtain ⟨hn0, hn1⟩ := word_size hw
  obtain ⟨b1, hb1, hl1, he1⟩ := blanks_ev a2
  obtain ⟨b2, hb2, hl2, he2⟩ := blanks_ev a3
  have s1 : (⟨b1.toArray⟩ : ByteArray).size = b1.length := rfl
  have s2 : (⟨b2.toArray⟩ : ByteArray).size = b2.length := rfl
  have s3 : (⟨#[58]⟩ : ByteArray).size = 1 := rfl
  have s4 : (⟨#[13, 10, 13, 10]⟩ : ByteArray).size = 4 := rfl
  have s5 : (⟨#[71, 69, 84, 32, 47, 97, 32, 72, 84, 84, 80, 47, 49, 46, 48, 13, 10]⟩ : ByteArray).size = 17 := rfl
  have s6 : (⟨#[58, 10]⟩ : ByteArray).size = 2 := rfl
  refine Ev.step (fun k => by rw [ostiarylaw13_HeadBlanks.j0]) ?_
  refine Ev.ite_neg (by decide) (Ev.ite_pos (by omega) (Ev.bind he1 ?_))
  refine Ev.ite_pos (by simp only [ByteArray.size_append, s1, s3]; omega) (Ev.ite_pos (by simp only [ByteArray.size_append, s1, s3]; omega) (Ev.bind he2 ?_))
  refine Ev.ite_pos (by simp only [ByteArray.size_append, s1, s2, s3]; omega) (Ev.ite_pos (by simp only [ByteArray.size_append, s1, s2, s3]; omega) (Ev.ite_pos (by simp only [ByteArray.size_append, s1, s2, s3, s5]; omega) (Ev.ite_pos (by simp only [ByteArray.size_append, s1, s2, s3, s4, s5]; omega) ?_)))
  have htext : ∀ T : ByteArray, T = ((⟨#[71, 69, 84, 32, 47, 97, 32, 72, 84, 84, 80, 47, 49, 46, 48, 13, 10]⟩ : ByteArray) ++ ((((n ++ (⟨#[58]⟩ : ByteArray)) ++ (⟨b1.toArray⟩ : ByteArray)) ++ v) ++ (⟨b2.toArray⟩ : ByteArray))) ++ (⟨#[13, 10, 13, 10]⟩ : ByteArray) →
      bytesOf T = nums8 (REQ ++ 13 :: 10 :: ((n.data.toList ++ 58 :: (b1 ++ v.data.toList ++ b2)) ++ 13 :: 10 :: [13, 10])) := by
    rintro T rfl
    rw [bytesOf_D]
    congr 1
    simp [REQ]
  rw [htext _ rfl]
  refine Ev.bind (parse_one n v b1 b2 hb1 hb2 hw hv (by omega) (by omega) hvs) ?_
  have ht : ostiarylaw13_turned.f n = some (xTurned n) := by
    unfold ostiarylaw13_turned.f
    rw [if_pos (by omega)]
  have hts : (xTurned n).size ≤ 140737488355328 := by
    have : (xTurned n).size = n.size := by
      unfold xTurned strOfNums
      rw [size_D, ← bytesOf_length n]
      simp
    omega
  have hfield := field_one (⟨#[71, 69, 84]⟩ : ByteArray) (⟨#[47, 97]⟩ : ByteArray) 0 n v (xTurned n) (by omega) hts
  rw [if_pos (by rw [lower_turned])] at hfield
  refine Ev.some_bind ht (Ev.bind hfield ?_)
  refine Ev.ite_pos rfl (Ev.ite_pos rfl (Ev.bind (same_one _ _ _ _) (Ev.ite_pos rfl (Ev.ite_pos rfl (Ev.ite_pos rfl ?_)))))
  refine Ev.ite_pos (by omega) (Ev.ite_pos (by simp only [ByteArray.size_append, s5]; omega) (Ev.ite_pos (by simp only [ByteArray.size_append, s5, s6]; omega) (Ev.ite_pos (by simp only [ByteArray.size_append, s5, s6]; omega) ?_)))
  have hnl := size_D n
  have hvl := size_D v
  refine Ev.bind (status_bad _ (n.data.toList ++ 58 :: 10 :: v.data.toList) (by simp [REQ]) ?_ (by simp) (by simp; omega)) (Ev.now _)
  have a1 := word_mem hw 13 (by decide +kernel)
  have a4 := val_mem hv 13 (by decide)
  simp [a1, a4]
theorem headBlanks_pure : ostiarylaw13_HeadBlanks.Pure := by
  intro a0 a1 a2 a3 h0 h1 _ _
  refine Ev.rounds ?_
  obtain ⟨c, hc, hcc⟩ := check_one a0 a1 h0 h1
  unfold ostiarylaw13_HeadBlanks.f
  refine Ev.bind awake_ev (Ev.some_bind rfl (Ev.bind hc ?_))
  by_cases h : c = 0
  · refine Ev.ite_pos h ?_
    by_cases hl : (a1.size : Int) > 2000
    · rw [decide_eq_true hl]
      exact j0_true _ _ _ _ _ _ _ _
    · rw [decide_eq_false hl]
      exact j0_ok a0 a1 a2 a3 (hcc h).1 (hcc h).2 (by omega)
  · exact Ev.ite_neg h (j0_true _ _ _ _ _ _ _ _)
end Go.Proofs.YtnhpcpmgedjffaaDoor.P
