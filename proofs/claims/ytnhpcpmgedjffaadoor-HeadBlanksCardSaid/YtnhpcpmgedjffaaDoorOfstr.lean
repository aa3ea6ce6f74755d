import Derived.Test.YtnhpcpmgedjffaaDoorWMore
import Derived.Lib.ConvBytes
import Derived.Lib.SlBytesConst
/-! '[]byte(s)' as a row that is read: its block bears a conversion's mark, so that it is no row of one's own ('R'), but one that may be read ('V'). -/
namespace Go.Proofs.YtnhpcpmgedjffaaDoorX
open Go.RowKit Go.Proofs.YtnhpcpmgedjffaaDoorW.PrintWords Go.Proofs.YtnhpcpmgedjffaaDoorW.PrintLast Go.Proofs.YtnhpcpmgedjffaaDoorW.PrintMore
set_option linter.unusedVariables false
set_option linter.unusedSimpArgs false

theorem ofstr_C (W W' : World) (e : TypeId) (s : ByteArray) (hs : s.size ≤ 9223372036854775807) (h : W'.heap[W.heap.size]? = (Lib.bytesWorld W e s).heap[W.heap.size]?) : Kd.C (Kd.int .u8) W' (some ⟨W.heap.size, 0, none⟩) s.size (bytesOf s) := by
  refine Kd.C_of_reads (d := 0) ?_
  have hr := bytes_reads W e s hs
  refine ⟨hr.1, hr.2.1, fun hn => ?_⟩
  obtain ⟨ad, ha, hc⟩ := hr.2.2 hn
  refine ⟨ad, ha, fun j hj => ?_⟩
  have := hc j hj
  injection ha with ha
  subst ha
  rw [← this]
  show W'.cell? ((⟨W.heap.size, 0, none⟩ : Addr).add j) = (Lib.bytesWorld W e s).cell? ((⟨W.heap.size, 0, none⟩ : Addr).add j)
  have hb : ((⟨W.heap.size, 0, none⟩ : Addr).add j).block = W.heap.size := by unfold Addr.add; split <;> rfl
  exact World.cell?_of_block (by rw [hb]; exact h)

theorem ne_isEmpty (l : List UInt8) (b r : Bool) (h : ((l == ([] : List UInt8)) != b) = r) : (!l.isEmpty == b) = r := by
  cases l <;> cases b <;> simpa using h
theorem V_string {P : Program} {w : World} {base e' : Nat} {ok : Nat → Prop} {src dst e : TypeId} {v : Value} {xs : List Int} (hs : P.underlying src = some (.slice e)) (he : P.underlying e = some (.int .u8)) (hd : P.underlying dst = some .string)
    (h : Kd.V (Kd.int .u8) e' w base ok v xs) : (convert src dst v).run P w = .ok (.string (strOfNums xs)) w := by
  obtain ⟨A, c, rfl⟩ := Kd.V_slice h
  have hr := Kd.V_reads' h
  have := Kd.C_string (P := P) (A := A) (c := c) hs he hd hr.2.2
  rw [← hr.1] at this
  exact this
section
variable {P : Program} {ops : Array Oper} {Q : Exit → Act → World → Prop} {o : Oper} {rest : List Oper} {a : Act}
theorem V_ofstr {w0 W : World} (base e : Nat) (hgd : o.guard = none) {N : Tmp} (_hd : o.dst = some N) (src t : TypeId) (x : Operand) (ho : o.op = .convert src t x) (s : ByteArray) (hx : a.eval x = .string s)
    {u : TypeDesc} (hsrc : P.underlying src = some u) (ht : P.underlying t = some (.slice e)) (he : P.underlying e = some (.int .u8)) {ok : Nat → Prop} (hfresh : ok W.heap.size) (hs : s.size ≤ 9223372036854775807) (HB : Below base w0 W) (hbase : base ≤ W.heap.size)
    (h : ∀ v1 w1, Kd.V (Kd.int .u8) e w1 base ok v1 (bytesOf s) → Below base w0 w1 → W.grownBy w1 none → (∃ b, v1.ownBlock = some b ∧ W.heap.size ≤ b) → wpList P ops Q rest (a.put o.dst v1) w1) : wpList P ops Q (o :: rest) a W := by
  have hrun : (execOp a.eval o).run P W = .ok (.value (.slice (some ⟨W.heap.size, 0, none⟩) s.size (grownCap W s.size 0 e))) (Lib.bytesWorld W e s) := by
    have := Lib.run_convert_string_bytes W src t e s hsrc ht he
    simp [execOp, ho, hx, this]
  have hsz := Lib.bytesWorld_size W e s
  have hg : W.grownBy (Lib.bytesWorld W e s) none := ⟨rfl, rfl, rfl, by omega, fun i hi _ => Lib.bytesWorld_at_old W e s i hi⟩
  refine Kd.event_run hgd hrun (h _ _ ?_ (HB.grown hg hbase (fun k hk => by cases hk)) hg ⟨W.heap.size, by simp [Value.ownBlock], Nat.le_refl _⟩)
  have hl : (bytesOf s).length = s.size := bytesOf_length s
  rw [← hl]
  refine Kd.V_mk (by rw [hl]; exact grownCap_ge ..) ?_
  intro W' hW'
  rw [hl]
  exact ofstr_C W W' e s hs (hW' _ hfresh (by omega))
/-- '[]byte("..")' of a constant: a row is built, and marked: two operations. -/
theorem V_ofconst {w0 W : World} (base e : Nat) (hgd : o.guard = none) {N : Tmp} (_hd : o.dst = some N) {o2 : Oper} (hgd2 : o2.guard = none) (t : TypeId) (x2 : Operand) (ho2 : o2.op = .convert t t x2) (hev : ∀ v, (a.put o.dst v).eval x2 = v) (xs : List Int)
    (hrun : (execOp a.eval o).run P W = .ok (.value (.slice (some ⟨W.heap.size, 0, none⟩) xs.length xs.length)) (W.alloc (.cells (xs.map (Value.int .u8)).toArray e)))
    (ht : P.underlying t = some (.slice e)) (he : P.underlying e = some (.int .u8)) {ok : Nat → Prop} (hfresh : ok W.heap.size) (hm : xs.length ≤ 9223372036854775807) (HB : Below base w0 W) (hbase : base ≤ W.heap.size)
    (h : ∀ v1 w1, Kd.V (Kd.int .u8) e w1 base ok v1 xs → Below base w0 w1 → W.grownBy w1 none → (∃ b, v1.ownBlock = some b ∧ W.heap.size ≤ b) → wpList P ops Q rest ((a.put o.dst v1).put o2.dst v1) w1) : wpList P ops Q (o :: o2 :: rest) a W := by
  refine Kd.event_run hgd hrun ?_
  have hc := Lib.run_convert_bytes_const (P := P) W t e (xs.map (Value.int .u8)).toArray xs.length xs.length ht he
  have hrun2 : (execOp (a.put o.dst (.slice (some ⟨W.heap.size, 0, none⟩) xs.length xs.length)).eval o2).run P (W.alloc (.cells (xs.map (Value.int .u8)).toArray e)) = .ok (.value (.slice (some ⟨W.heap.size, 0, none⟩) xs.length xs.length)) (W.alloc (.cells (xs.map (Value.int .u8)).toArray e ((xs.map (Value.int .u8)).toArray.size, (xs.map (Value.int .u8)).toArray.size + 1))) := by
    simp only [execOp, ho2, hev, Sem.run_bind, hc, Result.andThen_ok, Sem.run_pure]
  refine Kd.event_run hgd2 hrun2 (h _ _ ?_ (HB.alloc hbase _) (World.grownBy_alloc W _ none) ⟨W.heap.size, by simp [Value.ownBlock], Nat.le_refl _⟩)
  refine Kd.V_mk (Nat.le_refl _) ?_
  intro W' hW'
  have hb := hW' _ hfresh (by simp)
  rw [heap_alloc_new] at hb
  refine Kd.C_of_reads (d := 0) ⟨rfl, hm, fun hn => ⟨_, rfl, fun j hj => ?_⟩⟩
  rw [Addr.add_lit, Nat.zero_add]
  have hj' : j < xs.length := hj
  rw [cell_of_row W' W.heap.size j _ e _ hb]
  simp [rdOf, hj', List.getD_eq_getElem?_getD]
end
end Go.Proofs.YtnhpcpmgedjffaaDoorX
