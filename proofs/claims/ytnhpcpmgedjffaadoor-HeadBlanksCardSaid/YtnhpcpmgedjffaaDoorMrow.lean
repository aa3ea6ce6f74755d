import Derived.Test.YtnhpcpmgedjffaaDoorOfstr
import Derived.Deep.AppendSrc
import Derived.Laws.IdiomCopy
/-! Rows of bytes that may be written: of the call's own, whatever mark their block bears ('[]byte(s)'): read, written, appended to. -/
namespace Go.Proofs.YtnhpcpmgedjffaaDoorX
open Go.RowKit Go.Proofs.YtnhpcpmgedjffaaDoorW.PrintWords Go.Proofs.YtnhpcpmgedjffaaDoorW.PrintLast Go.Proofs.YtnhpcpmgedjffaaDoorW.PrintMore
set_option linter.unusedVariables false
set_option linter.unusedSimpArgs false

/-- Block g: 'cap' cells that may be written; the first ones hold l. -/
structure MRow (w : World) (g cap : Nat) (l : List Int) : Prop where
  lt : g < w.heap.size
  le : l.length ≤ cap
  capLe : cap ≤ 9223372036854775807
  cell : ∀ i, i < l.length → w.cell? ⟨g, i, none⟩ = some (.int .u8 (l.getD i 0))
  there : ∀ i, i < cap → (w.cell? ⟨g, i, none⟩).isSome = true
  free : ∀ i, i < cap → w.frozen? ⟨g, i, none⟩ = false

theorem MRow.move {w w' : World} {g cap : Nat} {l : List Int} (h : MRow w g cap l) (hh : w'.heap[g]? = w.heap[g]?) : MRow w' g cap l := by
  have hc : ∀ i, w'.cell? ⟨g, i, none⟩ = w.cell? ⟨g, i, none⟩ := fun i => World.cell?_of_block hh
  have hf : ∀ i, w'.frozen? ⟨g, i, none⟩ = w.frozen? ⟨g, i, none⟩ := fun i => World.frozen?_of_block hh
  exact ⟨heap_lt hh h.lt, h.le, h.capLe, fun i hi => (hc i).trans (h.cell i hi), fun i hi => by rw [hc]; exact h.there i hi, fun i hi => by rw [hf]; exact h.free i hi⟩
theorem MRow.below {w w' : World} {g cap : Nat} {l : List Int} (h : MRow w g cap l) (hb : Below w.heap.size w w') : MRow w' g cap l := h.move (hb.block g h.lt)
theorem MRow.grown {w w' : World} {g cap : Nat} {l : List Int} {row : Option Nat} (h : MRow w g cap l) (hb : w.grownBy w' row) (hne : some g ≠ row) : MRow w' g cap l := h.move (hb.block g h.lt hne)
theorem MRow.drewN {w : World} {g cap : Nat} {l : List Int} (h : MRow w g cap l) (n : Nat) : MRow (w.drewN n) g cap l := h.move rfl
theorem MRow.alloc {w : World} {g cap : Nat} {l : List Int} (h : MRow w g cap l) (o : Obj) : MRow (w.alloc o) g cap l := h.move (Below.heap_alloc w o g h.lt)
theorem MRow.take {w : World} {g cap : Nat} {l : List Int} (h : MRow w g cap l) (n : Nat) : MRow w g cap (l.take n) :=
  ⟨h.lt, by rw [List.length_take]; exact Nat.le_trans (Nat.min_le_right _ _) h.le, h.capLe, fun i hi => by
    rw [List.length_take] at hi
    rw [h.cell i (by omega)]
    simp [List.getD_eq_getElem?_getD, List.getElem?_take, show i < n by omega], h.there, h.free⟩
theorem MRow.C {w : World} {g cap : Nat} {l : List Int} (h : MRow w g cap l) : Kd.C (Kd.int .u8) w (some ⟨g, 0, none⟩) l.length l := by
  refine Kd.C_of_reads (d := 0) ⟨rfl, Nat.le_trans h.le h.capLe, fun hn => ⟨_, rfl, fun j hj => ?_⟩⟩
  rw [Addr.add_lit]
  simpa using h.cell j hj
theorem MRow.V {w : World} {g cap : Nat} {l : List Int} (h : MRow w g cap l) (e base : Nat) {ok : Nat → Prop} (hok : ok g) : Kd.V (Kd.int .u8) e w base ok (.slice (some ⟨g, 0, none⟩) l.length cap) l :=
  Kd.V_mk h.le (fun W' hW => (h.move (hW g hok h.lt)).C)
/-- A row that was written. -/
theorem MRow.set {w : World} {g cap : Nat} {l : List Int} (h : MRow w g cap l) (i : Nat) (hi : i < l.length) (x : Int) : MRow (w.setCell ⟨g, i, none⟩ (.int .u8 x)) g cap (l.set i x) := by
  have hs : w.setCell ⟨g, i, none⟩ (.int .u8 x) = w.setCells g i [.int .u8 x] := rfl
  rw [hs]
  have hin := World.cell?_setCells_in g [.int .u8 x] i w (fun j hj => by simp at hj; subst hj; simpa using h.there i (by have := h.le; omega))
  have hout : ∀ j, j ≠ i → (w.setCells g i [.int .u8 x]).cell? ⟨g, j, none⟩ = w.cell? ⟨g, j, none⟩ := fun j hj => World.cell?_setCells_out g _ i w _ (fun _ _ => by simp; omega)
  have hati : (w.setCells g i [.int .u8 x]).cell? ⟨g, i, none⟩ = some (.int .u8 x) := by simpa using hin 0 (by simp)
  refine ⟨?_, by rw [List.length_set]; exact h.le, h.capLe, fun j hj => ?_, fun j hj => ?_, fun j hj => by rw [World.frozen?_setCells]; exact h.free j hj⟩
  · have := (setCells_same g [.int .u8 x] i w).2.2.2
    rw [this]; exact h.lt
  · rw [List.length_set] at hj
    by_cases e : j = i
    · subst e
      rw [hati]
      simp [List.getD_eq_getElem?_getD, hi]
    · rw [hout j e, h.cell j hj]
      simp [List.getD_eq_getElem?_getD, List.getElem?_set, Ne.symm e]
  · by_cases e : j = i
    · subst e
      rw [hati]; rfl
    · rw [hout j e]; exact h.there j hj
theorem MRow.new (w : World) (cur : Array Value) (e : TypeId) (fr : Nat × Nat) (l : List Int) (hl : l.length ≤ cur.size) (hcap : cur.size ≤ 9223372036854775807) (hfr : ∀ i, i < cur.size → ¬ (fr.1 ≤ i ∧ i < fr.2)) (g : Nat) (hg : w.heap[g]? = some (.cells cur e fr))
    (hc : cur.toList.take l.length = l.map (Value.int .u8)) : MRow w g cur.size l := by
  have hcell : ∀ i, w.cell? ⟨g, i, none⟩ = cur[i]? := fun i => cell_of_row w g i cur e fr hg
  refine ⟨(Array.getElem?_eq_some_iff.1 hg).1, hl, hcap, fun i hi => ?_, fun i hi => ?_, fun i hi => ?_⟩
  · rw [hcell]
    have h1 : (cur.toList.take l.length)[i]? = (l.map (Value.int .u8))[i]? := by rw [hc]
    rw [List.getElem?_take, if_pos hi, List.getElem?_map] at h1
    rw [← Array.getElem?_toList, h1, List.getElem?_eq_getElem hi]
    simp [List.getD_eq_getElem?_getD, hi]
  · rw [hcell]; simp [hi]
  · have := hfr i hi
    simp [World.frozen?, hg]
    intro h1
    omega

section
variable {P : Program} {ops : Array Oper} {Q : Exit → Act → World → Prop} {o : Oper} {rest : List Oper} {a : Act}
/-- '[]byte(s)'. -/
theorem M_ofstr {W : World} (e : Nat) (hgd : o.guard = none) {N : Tmp} (_hd : o.dst = some N) (src t : TypeId) (x : Operand) (ho : o.op = .convert src t x) (s : ByteArray) (hx : a.eval x = .string s)
    {u : TypeDesc} (hsrc : P.underlying src = some u) (ht : P.underlying t = some (.slice e)) (he : P.underlying e = some (.int .u8)) (hs : s.size ≤ 9223372036854775807)
    (h : ∀ g cap w1, W.heap.size ≤ g → MRow w1 g cap (bytesOf s) → Below W.heap.size W w1 → wpList P ops Q rest (a.put o.dst (.slice (some ⟨g, 0, none⟩) (bytesOf s).length cap)) w1) : wpList P ops Q (o :: rest) a W := by
  have hrun : (execOp a.eval o).run P W = .ok (.value (.slice (some ⟨W.heap.size, 0, none⟩) s.size (grownCap W s.size 0 e))) (Lib.bytesWorld W e s) := by
    have := Lib.run_convert_string_bytes W src t e s hsrc ht he
    simp [execOp, ho, hx, this]
  have hsz := Lib.bytesWorld_size W e s
  have hg : W.grownBy (Lib.bytesWorld W e s) none := ⟨rfl, rfl, rfl, by omega, fun i hi _ => Lib.bytesWorld_at_old W e s i hi⟩
  have hl : (bytesOf s).length = s.size := bytesOf_length s
  have hcs : (Lib.bytesCells W e s).size = grownCap W s.size 0 e := by
    have := grownCap_ge W s.size 0 e
    have hd : s.data.size = s.size := rfl
    simp [Lib.bytesCells]
    omega
  have hm : MRow (Lib.bytesWorld W e s) W.heap.size (Lib.bytesCells W e s).size (bytesOf s) := by
    refine MRow.new _ (Lib.bytesCells W e s) e _ (bytesOf s) ?_ ?_ ?_ _ (Lib.bytesWorld_at_new W e s) ?_
    · rw [hl, hcs]; exact grownCap_ge ..
    · rw [hcs]; exact grownCap_le_maxLen W s.size 0 e (by simpa [maxLen] using hs)
    · intro i hi h1; omega
    · rw [hl]
      have hd : s.data.toList.length = s.size := data_length s
      simp only [Lib.bytesCells, Array.toList_append, Array.toList_map]
      rw [List.take_append_of_le_length (by rw [List.length_map, hd]; exact Nat.le_refl _), List.take_of_length_le (by rw [List.length_map, hd]; exact Nat.le_refl _)]
      simp [bytesOf]
  have := h W.heap.size (Lib.bytesCells W e s).size _ (Nat.le_refl _) hm ((Below.refl _ _).grown hg (Nat.le_refl _) (fun k hk => by cases hk))
  rw [hl, hcs] at this
  exact Kd.event_run hgd hrun this
/-- What is appended, as bytes. -/
theorem run_append_M {W : World} {g cap : Nat} {l : List Int} (h : MRow W g cap l) (t tx ty : TypeId) (e : Nat) (ht : P.underlying t = some (.slice e)) {i : TypeInfo} (hi : P.info? e = some i) (hz : i.zero = some (.int .u8 0)) (hs1 : i.size = 1) (hb1 : i.bytes = 1)
    (x : Value) (ys : List Int) (hsrc : Src P 1 tx x ys.length (ys.map (Value.int .u8)) W) (hlim : l.length + ys.length ≤ 140737488355328) :
    ∃ g' cap' w1, (Builtin.append_ #[t, tx] ty #[.slice (some ⟨g, 0, none⟩) l.length cap, x]).run P W = .ok (.slice (some ⟨g', 0, none⟩) (l ++ ys).length cap') w1 ∧ (g' = g ∨ W.heap.size ≤ g') ∧ MRow w1 g' cap' (l ++ ys) ∧ W.grownBy w1 (some g) := by
  have hlen : (ys.map (Value.int .u8)).length = ys.length := List.length_map _
  by_cases hroom : l.length + ys.length ≤ cap
  · have hr := run_append_room_src W t tx ty e i ht hi g 0 l.length cap x ys.length (ys.map (Value.int .u8)) (by rw [hs1]; exact hsrc) hroom
      (fun j hj => by rw [hs1]; rw [hlen] at hj; simpa using h.there (l.length + j) (by omega)) (fun j hj => by rw [hs1]; rw [hlen] at hj; simpa using h.free (l.length + j) (by omega))
    rw [hs1] at hr
    simp only [Nat.zero_add, Nat.mul_one] at hr
    have hsm := setCells_same g (ys.map (Value.int .u8)) l.length W
    have hin := World.cell?_setCells_in g (ys.map (Value.int .u8)) l.length W (fun j hj => by rw [hlen] at hj; exact h.there (l.length + j) (by omega))
    have hout : ∀ k, k < l.length → (W.setCells g l.length (ys.map (Value.int .u8))).cell? ⟨g, k, none⟩ = W.cell? ⟨g, k, none⟩ := fun k hk => World.cell?_setCells_out g _ _ W _ (fun _ _ => .inl hk)
    refine ⟨g, cap, W.setCells g l.length (ys.map (Value.int .u8)), by rw [hr, List.length_append], .inl rfl, ⟨by rw [hsm.2.2.2]; exact h.lt, by rw [List.length_append]; omega, h.capLe, fun k hk => ?_, fun k hk => ?_, fun k hk => by rw [World.frozen?_setCells]; exact h.free k hk⟩, ⟨hsm.1, hsm.2.1, hsm.2.2.1, by rw [hsm.2.2.2]; exact Nat.le_refl _, fun k _ hne => setCells_far _ _ k (fun e => hne (by rw [e]))⟩⟩
    · rw [List.length_append] at hk
      by_cases hkl : k < l.length
      · rw [hout k hkl, h.cell k hkl]
        simp [List.getD_eq_getElem?_getD, List.getElem?_append_left hkl]
      · have h1 := hin (k - l.length) (by rw [hlen]; omega)
        rw [show l.length + (k - l.length) = k from by omega] at h1
        rw [h1]
        simp only [List.getElem_map, Option.some.injEq, Value.int.injEq, true_and, List.getD_eq_getElem?_getD, List.getElem?_append_right (show l.length ≤ k by omega)]
        rw [List.getElem?_eq_getElem (by omega)]
        rfl
    · by_cases hkl : k < l.length
      · rw [hout k hkl]; exact h.there k hk
      · by_cases hk2 : k < l.length + ys.length
        · have h1 := hin (k - l.length) (by rw [hlen]; omega)
          rw [show l.length + (k - l.length) = k from by omega] at h1
          rw [h1]; rfl
        · rw [World.cell?_setCells_out g _ _ W _ (fun _ _ => .inr (by rw [hlen]; show l.length + ys.length ≤ k; omega))]
          exact h.there k hk
  · have hold : (Builtin.firstCells i.size l.length (.slice (some ⟨g, 0, none⟩) l.length cap)).run P W.drew = .ok (l.map (Value.int .u8)).toArray W.drew := by
      rw [hs1]
      refine run_firstCells_some W.drew 1 l.length ⟨g, 0, none⟩ l.length cap (l.map (Value.int .u8)) (by simp) (fun j u hu => ?_)
      rw [List.getElem?_map] at hu
      obtain ⟨y, hy, rfl⟩ := Option.map_eq_some_iff.1 hu
      obtain ⟨hj, hy⟩ := List.getElem?_eq_some_iff.1 hy
      rw [Addr.add_lit, Nat.zero_add]
      have := h.cell j hj
      simp only [List.getD_eq_getElem?_getD, List.getElem?_eq_getElem hj, hy] at this
      exact this
    have hr := run_append_grow_src W t tx ty e i (.int .u8 0) ht hi hz (some ⟨g, 0, none⟩) l.length cap (l.map (Value.int .u8)) hold x ys.length (ys.map (Value.int .u8)) (by rw [hs1]; exact hsrc) (by omega) (by omega) (growslice_fits (by omega) (by rw [hb1]; omega))
    have hge := grownCap_ge W (l.length + ys.length) cap e
    have hmx := grownCap_le_maxLen W (l.length + ys.length) cap e (by unfold maxLen; omega)
    unfold maxLen at hmx
    have hsz : ((((l.map (Value.int .u8)) ++ (ys.map (Value.int .u8))).toArray ++ Builtin.zeroCells (Value.int .u8 0).cells (grownCap W (l.length + ys.length) cap e - (l.length + ys.length)))).size = grownCap W (l.length + ys.length) cap e := by
      have := size_zeroCells (Value.int .u8 0).cells (grownCap W (l.length + ys.length) cap e - (l.length + ys.length))
      have h1 : (Value.int .u8 0).cells.size = 1 := rfl
      rw [Array.size_append, this, h1]
      simp
      omega
    refine ⟨W.heap.size, _, _, by rw [hr, List.length_append], .inr (Nat.le_refl _), ?_, ?_⟩
    · have hm := MRow.new (W.drew.alloc (.cells ((((l.map (Value.int .u8)) ++ (ys.map (Value.int .u8))).toArray ++ Builtin.zeroCells (Value.int .u8 0).cells (grownCap W (l.length + ys.length) cap e - (l.length + ys.length)))) e)) _ e (0, 0) (l ++ ys) (by rw [hsz, List.length_append]; exact hge) (by rw [hsz]; exact hmx) (fun k _ h1 => by simp at h1) W.heap.size (heap_alloc_new W.drew _) (by
        rw [Array.toList_append, List.length_append]
        rw [List.take_append_of_le_length (by simp), List.take_of_length_le (by simp)]
        simp)
      rw [hsz] at hm
      exact hm
    · exact ⟨rfl, rfl, rfl, by simp, fun k hk _ => Below.heap_alloc W.drew _ k hk⟩
theorem M_append {W : World} (hgd : o.guard = none) {N : Tmp} (_hd : o.dst = some N) (sl x : Operand) (t tx : TypeId) (ho : o.op = .call { callee := .builtin .append, args := #[sl, x], argTypes := #[t, tx] })
    (e : Nat) (ht : P.underlying t = some (.slice e)) {i : TypeInfo} (hi : P.info? e = some i) (hz : i.zero = some (.int .u8 0)) (hs1 : i.size = 1) (hb1 : i.bytes = 1)
    {g cap n : Nat} {l : List Int} (h : MRow W g cap l) (hn : n = l.length) (hsl : a.eval sl = .slice (some ⟨g, 0, none⟩) n cap) {xv : Value} (hx : a.eval x = xv)
    (ys : List Int) {m : Nat} (hm : m = ys.length) (hsrc : Src P 1 tx xv m (ys.map (Value.int .u8)) W) (hlim : l.length + ys.length ≤ 140737488355328)
    (hk : ∀ g' cap' w1 l', l' = l ++ ys → (g' = g ∨ W.heap.size ≤ g') → MRow w1 g' cap' l' → W.grownBy w1 (some g) → wpList P ops Q rest (a.put o.dst (.slice (some ⟨g', 0, none⟩) l'.length cap')) w1) : wpList P ops Q (o :: rest) a W := by
  subst hn hm
  obtain ⟨g', cap', w1, hr, hg, hm, hgr⟩ := run_append_M (P := P) h t tx o.type e ht hi hz hs1 hb1 xv ys hsrc hlim
  refine wpList_plain hgd fun K hK => ?_
  unfold Oper.wp execOp
  simp only [ho, resolve, invoke, builtin, Sem.run_bind, Sem.run_pure, Result.andThen_ok, List.map_toArray, List.map_cons, List.map_nil, hsl, hx, hr]
  exact hK _ _ (hk g' cap' w1 _ rfl hg hm hgr)
theorem step_M_append {W : World} {K : Act → World → Prop} {E : Prop} (hgd : o.guard = none) (sl x : Operand) (t tx : TypeId) (ho : o.op = .call { callee := .builtin .append, args := #[sl, x], argTypes := #[t, tx] })
    (e : Nat) (ht : P.underlying t = some (.slice e)) {i : TypeInfo} (hi : P.info? e = some i) (hz : i.zero = some (.int .u8 0)) (hs1 : i.size = 1) (hb1 : i.bytes = 1)
    {g cap n : Nat} {l : List Int} (h : MRow W g cap l) (hn : n = l.length) (hsl : a.eval sl = .slice (some ⟨g, 0, none⟩) n cap) {xv : Value} (hx : a.eval x = xv)
    (ys : List Int) {m : Nat} (hm : m = ys.length) (hsrc : Src P 1 tx xv m (ys.map (Value.int .u8)) W) (hlim : l.length + ys.length ≤ 140737488355328)
    (hk : ∀ g' cap' w1 l', l' = l ++ ys → (g' = g ∨ W.heap.size ≤ g') → MRow w1 g' cap' l' → W.grownBy w1 (some g) → K (a.put o.dst (.slice (some ⟨g', 0, none⟩) l'.length cap')) w1) :
    if Region.wanted o (yielded ops a.tmps) = true then Oper.wp P o a W K Q else E := by
  have hw : Region.wanted o (yielded ops a.tmps) = true := by simp [Region.wanted, hgd]
  rw [if_pos hw]
  subst hn hm
  obtain ⟨g', cap', w1, hr, hg, hm, hgr⟩ := run_append_M (P := P) h t tx o.type e ht hi hz hs1 hb1 xv ys hsrc hlim
  unfold Oper.wp execOp
  simp only [ho, resolve, invoke, builtin, Sem.run_bind, Sem.run_pure, Result.andThen_ok, List.map_toArray, List.map_cons, List.map_nil, hsl, hx, hr]
  exact hk g' cap' w1 _ rfl hg hm hgr
end
/-- A row of bytes under way: where it lies, and what lay there before the call. -/
structure MSt (w W : World) (g cap : Nat) (l : List Int) : Prop where
  hm : MRow W g cap l
  hg : w.heap.size ≤ g
  hb : Below w.heap.size w W
theorem MSt.step {w W w1 : World} {g g' cap cap' : Nat} {l l' : List Int} (h : MSt w W g cap l) (hg : g' = g ∨ W.heap.size ≤ g') (hm : MRow w1 g' cap' l') (hgr : W.grownBy w1 (some g)) : MSt w w1 g' cap' l' :=
  ⟨hm, by have := h.hg; have := h.hb.size; omega, h.hb.grown hgr h.hb.size (fun k hk => by cases hk; exact h.hg)⟩
theorem MSt.alloc {w W : World} {g cap : Nat} {l : List Int} (h : MSt w W g cap l) (o : Obj) : MSt w (W.alloc o) g cap l := ⟨h.hm.alloc o, h.hg, h.hb.alloc h.hb.size o⟩
theorem MSt.below {w W W1 : World} {g cap : Nat} {l : List Int} (h : MSt w W g cap l) (hb : Below W.heap.size W W1) : MSt w W1 g cap l := ⟨h.hm.below hb, h.hg, below_step h.hb hb⟩
theorem MSt.drewN {w W : World} {g cap : Nat} {l : List Int} (h : MSt w W g cap l) (n : Nat) : MSt w (W.drewN n) g cap l := ⟨h.hm.drewN n, h.hg, pw_below_drewN h.hb n⟩
theorem MSt.drew {w W : World} {g cap : Nat} {l : List Int} (h : MSt w W g cap l) : MSt w W.drew g cap l := ⟨h.hm.move rfl, h.hg, below_drew h.hb⟩
/-- Another block stays. -/
theorem MSt.other {w W w1 : World} {g cap b : Nat} {l : List Int} {ob : Obj} (h : MSt w W g cap l) (hgr : W.grownBy w1 (some g)) (hb : W.heap[b]? = some ob) (hne : b ≠ g) : w1.heap[b]? = some ob := (hgr.block b (blk_lt hb) (fun e => hne (by cases e; rfl))).trans hb
theorem MSt.ne {w W : World} {g g' cap b : Nat} {l : List Int} {ob : Obj} (h : MSt w W g cap l) (hg : g' = g ∨ W.heap.size ≤ g') (hb : W.heap[b]? = some ob) (hne : b ≠ g) : b ≠ g' := by have := blk_lt hb; omega
end Go.Proofs.YtnhpcpmgedjffaaDoorX
