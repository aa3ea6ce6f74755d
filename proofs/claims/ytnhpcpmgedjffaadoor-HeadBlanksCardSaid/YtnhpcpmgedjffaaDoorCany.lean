import Derived.Test.YtnhpcpmgedjffaaDoorExt
import Derived.Test.YtnhpcpmgedjffaaDoorMrow
import Derived.Lib.AsciiSet
import Derived.Lib.Bytealg
import Derived.Lib.IndexEntry
import Derived.Shelf.Spec.DecodeRune
import Derived.Laws.Externs
import Derived.Laws.RangeAny
import Derived.Laws.RangeString
import Derived.Outline
/-! bytes.ContainsAny of any bytes, at the text of 13 and 10. -/
namespace Go.Proofs.YtnhpcpmgedjffaaDoorX
open Go.RowKit Go.Proofs.YtnhpcpmgedjffaaDoorW.PrintWords Go.Proofs.YtnhpcpmgedjffaaDoorW.PrintLast Go.Proofs.YtnhpcpmgedjffaaDoorW.PrintMore
set_option linter.unusedVariables false
set_option linter.unusedSimpArgs false

def hitC (c : Int) : Bool := c == 13 || c == 10
def CRLF : ByteArray := ⟨#[13, 10]⟩
/-- What IndexAny hands back. -/
def AnyRes (l : List Int) (w : World) (e : Ending) (w' : World) : Prop := ∃ n : Int, e = .returned (.int .i64 n) ∧ decide (0 ≤ n) = l.any hitC ∧ Below w.heap.size w w'
theorem AnyRes.mk {l : List Int} {w w' : World} {e : Ending} (n : Int) (h1 : e = .returned (.int .i64 n)) (h2 : decide (0 ≤ n) = l.any hitC) (h3 : Below w.heap.size w w') : AnyRes l w e w' := ⟨n, h1, h2, h3⟩

theorem decode_hi (s : ByteArray) (h0 : 0 < s.size) (h : 128 ≤ (s.get! 0).toNat) :
    1 ≤ (Lib.decodeGo s).2 ∧ (Lib.decodeGo s).2 ≤ s.size ∧ 128 ≤ (Lib.decodeGo s).1 ∧ (Lib.decodeGo s).1 ≤ 1114111 ∧ ((Lib.decodeGo s).2 = 1 → (Lib.decodeGo s).1 = 65533) ∧ (3 ≤ (Lib.decodeGo s).2 → 2048 ≤ (Lib.decodeGo s).1 ∧ ((Lib.decodeGo s).1 < 65536 ∨ (Lib.decodeGo s).2 = 4)) ∧ ∀ j, j < (Lib.decodeGo s).2 → 128 ≤ (s.get! j).toNat := by
  have hb : ∀ k, (s.get! k).toNat < 256 := fun k => (s.get! k).toNat_lt
  have h1 := hb 0
  have hh1 := hb 1
  have hh2 := hb 2
  have hh3 := hb 3
  have hd : Lib.decodeGo s = Utf8.decode s 0 := by unfold Lib.decodeGo; rw [if_neg (by omega)]
  rw [hd]
  unfold Utf8.decode
  simp only [Nat.zero_add, Utf8.runeError]
  have one : ∀ j, j < 1 → 128 ≤ (s.get! j).toNat := fun j hj => (show j = 0 by omega) ▸ h
  have key : ∀ (r : Nat × Nat), r = (65533, 1) → 1 ≤ r.2 ∧ r.2 ≤ s.size ∧ 128 ≤ r.1 ∧ r.1 ≤ 1114111 ∧ (r.2 = 1 → r.1 = 65533) ∧ (3 ≤ r.2 → 2048 ≤ r.1 ∧ (r.1 < 65536 ∨ r.2 = 4)) ∧ ∀ j, j < r.2 → 128 ≤ (s.get! j).toNat := by
    rintro r rfl
    exact ⟨Nat.le_refl _, h0, by decide, by decide, fun _ => rfl, fun h => absurd h (by decide), one⟩
  rw [if_neg (by omega)]
  split
  · rename_i c1
    simp only [Bool.and_eq_true, beq_iff_eq, decide_eq_true_eq] at c1
    split
    · refine ⟨show 1 ≤ 2 by omega, by show 2 ≤ s.size; omega, by show 128 ≤ _; omega, by show _ ≤ 1114111; omega, fun h => (by have h' : 2 = 1 := h; omega), fun h => (by have h' : 3 ≤ 2 := h; omega), fun j hj => ?_⟩
      have : j = 0 ∨ j = 1 := by have : j < 2 := hj; omega
      rcases this with rfl | rfl <;> omega
    · exact key _ rfl
  · split
    · rename_i c1
      simp only [Bool.and_eq_true, beq_iff_eq, decide_eq_true_eq] at c1
      split
      · rename_i c2
        simp only [Bool.and_eq_true, decide_eq_true_eq] at c2
        refine ⟨show 1 ≤ 3 by omega, by show 3 ≤ s.size; omega, by show 128 ≤ _; omega, by show _ ≤ 1114111; omega, fun h => (by have h' : 3 = 1 := h; omega), fun _ => ⟨by show 2048 ≤ _; omega, .inl (by show _ < 65536; omega)⟩, fun j hj => ?_⟩
        have : j = 0 ∨ j = 1 ∨ j = 2 := by have : j < 3 := hj; omega
        rcases this with rfl | rfl | rfl <;> omega
      · exact key _ rfl
    · split
      · rename_i c1
        simp only [Bool.and_eq_true, beq_iff_eq, decide_eq_true_eq] at c1
        split
        · rename_i c2
          simp only [Bool.and_eq_true, decide_eq_true_eq, Utf8.valid, Bool.or_eq_true] at c2
          refine ⟨show 1 ≤ 4 by omega, by show 4 ≤ s.size; omega, by show 128 ≤ _; omega, by show _ ≤ 1114111; omega, fun h => (by have h' : 4 = 1 := h; omega), fun _ => ⟨by show 2048 ≤ _; omega, .inr rfl⟩, fun j hj => ?_⟩
          have : j = 0 ∨ j = 1 ∨ j = 2 ∨ j = 3 := by have : j < 4 := hj; omega
          rcases this with rfl | rfl | rfl | rfl <;> omega
        · exact key _ rfl
      · exact key _ rfl

theorem crlf_has (x : UInt8) : CRLF.data.toList.contains x = hitC (x.toNat : Int) := by
  show ([13, 10] : List UInt8).contains x = hitC (x.toNat : Int)
  unfold hitC
  simp only [List.contains_cons, List.contains_nil, Bool.or_false]
  congr 1
  · rw [Bool.eq_iff_iff]
    simp only [beq_iff_eq, ← UInt8.toNat_inj]
    have : (13 : UInt8).toNat = 13 := rfl
    omega
  · rw [Bool.eq_iff_iff]
    simp only [beq_iff_eq, ← UInt8.toNat_inj]
    have : (10 : UInt8).toNat = 10 := rfl
    omega
theorem idx_crlf (c : Int) (h0 : 0 ≤ c) (h1 : c < 256) : decide (0 ≤ Lib.indexByte ([13, 10] : List UInt8) c.toNat.toUInt8) = hitC c := by
  obtain ⟨n, rfl⟩ := Int.eq_ofNat_of_zero_le h0
  have h2 : n < 256 := by omega
  have : ∀ k : Fin 256, decide (0 ≤ Lib.indexByte ([13, 10] : List UInt8) ((k.val : Int)).toNat.toUInt8) = hitC (k.val : Int) := by decide +kernel
  exact this ⟨n, h2⟩
theorem next0 (w : World) (ty : TypeId) : (Instr.next (.pointer (some ⟨w.heap.size, 0, none⟩)) true ty).run Tryd.prog (w.iter ⟨#[13, 10]⟩ 0) = .ok (.tuple #[.bool true, .int .i64 0, .int .i32 13]) (w.iter ⟨#[13, 10]⟩ 1) := run_next_ascii w ⟨#[13, 10]⟩ 0 ty (by decide) (by decide)
theorem next1 (w : World) (ty : TypeId) : (Instr.next (.pointer (some ⟨w.heap.size, 0, none⟩)) true ty).run Tryd.prog (w.iter ⟨#[13, 10]⟩ 1) = .ok (.tuple #[.bool true, .int .i64 1, .int .i32 10]) (w.iter ⟨#[13, 10]⟩ 2) := run_next_ascii w ⟨#[13, 10]⟩ 1 ty (by decide) (by decide)
theorem next2 (w : World) (ty : TypeId) : (Instr.next (.pointer (some ⟨w.heap.size, 0, none⟩)) true ty).run Tryd.prog (w.iter ⟨#[13, 10]⟩ 2) = .ok (.tuple #[.bool false]) (w.iter ⟨#[13, 10]⟩ 2) := run_next_end w ⟨#[13, 10]⟩ 2 ty (by decide)
theorem iter_below {w W : World} (h : Below w.heap.size w W) (s : ByteArray) (p : Nat) : Below w.heap.size w (W.iter s p) := h.alloc h.size _
theorem alloc_set (w : World) (ev : Operand → Value) (o : Oper) (ho : o.op = .alloc 182) : (execOp ev o).run Tryd.prog w = .ok (.value (.pointer (some ⟨w.heap.size, 0, none⟩))) (w.alloc (.cells zeroTab 182 (0, 0))) := by
  unfold execOp
  rw [ho]
  kernel_rfl
theorem C_at {w : World} {A : Option Addr} {l : List Int} (h : Kd.C (Kd.int .u8) w A l.length l) (k : Nat) (hk : k < l.length) : ∃ ad, A = some ad ∧ w.cell? (ad.add k) = some (.int .u8 l[k]) := by
  obtain ⟨ad, e, hx⟩ := Kd.at_int h (k : Int) (by omega) (by omega)
  refine ⟨ad, e, ?_⟩
  rw [Int.toNat_natCast] at hx
  rw [hx]
  simp [rd, List.getD_eq_getElem?_getD, hk]

set_option maxHeartbeats 2000000 in
set_option maxRecDepth 100000 in
/-- More than eight bytes: by a set. -/
theorem indexAny_big (A0 : Option Addr) (c0 : Nat) (l : List Int) (w : World) (hr : Kd.C (Kd.int .u8) w A0 l.length l) (hb : isBytes l = true) (hn : 8 < l.length) (hs : l.length < 4294967281) :
    Calls Tryd.prog 132 #[.slice A0 l.length c0, .string CRLF] w (AnyRes l w) := by
  have HC := Aside0.mk hr
  have HI := Aside0.mk (isBytes_mem hb)
  clear hr hb
  have hne : ((l.length : Int) == 1) = false := by rw [beq_eq_false_iff_ne]; omega
  have hbig : decide ((l.length : Int) > 8) = true := by simp; omega
  unfold CRLF
  go_enter Tryd.func132, Tryd.ntmps132
  go_wp2_with (first
    | (go_at_call 163; refine (Any.bytes_makeASCIISet Tryd.laysV11 (fun w => by kernel_rfl) (by kernel_rfl) CRLF _ (by decide) (fun j b hj => ?hasc)).mono ?_; (case hasc => have := (List.all_eq_true.1 (show CRLF.data.toList.all (fun b => decide (b.toNat < 128)) = true from by decide)) b (List.mem_of_getElem? hj); simpa using this); rintro e w1 ⟨rfl, rfl⟩; have HB := Aside0.mk (below_alloc (Below.refl w.heap.size w) (.cells (Lib.setCells CRLF.data.toList) 182 (0, 0))))
    | ((with_reducible refine gate_dst (N := 7) rfl ?_); refine box_event ?hg (N := 7) ?hd (cs := zeroTab) (t := 182) ?hr ?_; (case hd => rfl); (case hg => rfl); (case hr => exact alloc_set _ _ _ rfl); intro g hg w1 hblk hb; have GE := Aside0.mk (show w.heap.size ≤ g by rw [hg]; exact (below_size HB.out)); have BK := Aside0.mk hblk; have n0_ := Aside0.mk (below_step HB.out hb); clear HB; have HB := n0_; clear hblk hb hg n0_)
    | (refine wpList_store_row rfl 182 _ _ rfl g (Lib.setCells CRLF.data.toList) rfl rfl 182 zeroTab BK.out (by rw [Lib.setCells_size]; kernel_rfl) (by rw [Lib.setCells_size]; exact tab_size _) (Lib.setCells_one _) ?_; have n0_ := Aside0.mk (Go.below_setRow HB.out GE.out (Lib.setCells CRLF.data.toList)); have n1_ := Aside0.mk (setRow_heap _ _ _ (Lib.setCells CRLF.data.toList) _ _ BK.out); clear HB BK; have HB := n0_; have BK := n1_; clear n0_ n1_; obtain ⟨w5, hw5⟩ : ∃ w5, w5 = World.setRow w1 g (Lib.setCells CRLF.data.toList) := ⟨_, rfl⟩; rw [← hw5] at HB BK ⊢; clear hw5)
    | go_in)
  have Hu : ∀ k (h : k < l.length), ∃ x : UInt8, l[k] = (x.toNat : Int) := fun k h => by
    have := HI.out l[k] (List.getElem_mem h)
    exact ⟨UInt8.ofNat l[k].toNat, by rw [UInt8.toNat_ofNat']; omega⟩
  have HU := Aside0.mk Hu
  clear Hu
  go_loopw [62] (fun v8 wr => ∃ k : Nat, k ≤ l.length ∧ v8 = .int .i64 k ∧ Aside0 ((l.take k).any hitC = false) ∧ Aside0 (wr.heap[g]? = some (.cells (Lib.setCells CRLF.data.toList) 182 (0, 0))) ∧ Aside0 (Below w.heap.size w wr)) (fun v8 _ => l.length - (intOf v8).toNat)
  case atStart => exact ⟨0, Nat.zero_le _, rfl, ⟨rfl⟩, BK, HB⟩
  case round =>
    obtain ⟨k, hk, rfl, HN, BK, HB⟩ := hrel
    by_cases hlt : k < l.length
    · obtain ⟨ad, e, hx⟩ := C_at (Kd.C_below HC.out HB.out) k hlt
      cases e
      obtain ⟨x, hxe⟩ := HU.out k hlt
      rw [hxe] at hx
      have HX := Aside0.mk hxe
      have e2 : l.take (k + 1) = l.take k ++ [l[k]] := by rw [List.take_succ_eq_append_getElem hlt]
      have HT := Aside0.mk (show (l.take (k + 1)).any hitC = hitC (x.toNat : Int) by rw [e2, List.any_append, HN.out, hxe]; simp)
      clear hxe e2
      have HS := Aside0.mk ((blk_cell BK.out x.toNat).trans (Lib.setCells_at CRLF.data.toList x))
      have hcon := crlf_has x
      rw [hcon] at HS
      clear hcon
      have hlt8 := x.toNat_lt
      cases hh : hitC (x.toNat : Int) with
      | true =>
        rw [hh] at HS HT
        have Hany := Aside0.mk (show l.any hitC = true by
          have := HT.out
          rw [List.any_eq_true] at this ⊢
          obtain ⟨y, hy, hy2⟩ := this
          exact ⟨y, List.mem_of_mem_take hy, hy2⟩)
        clear hh
        go_wp2_with (go_at_call 164; refine (Any.bytes_asciiSet_contains Tryd.laysV16 g x _ _ HS.out).mono ?_; rintro e w' ⟨rfl, rfl⟩)
        go_ret
        exact AnyRes.mk (k : Int) rfl (by rw [Hany.out]; simp) HB.out
      | false =>
        rw [hh] at HS HT
        clear hh
        go_wp2_with (go_at_call 164; refine (Any.bytes_asciiSet_contains Tryd.laysV16 g x _ _ HS.out).mono ?_; rintro e w' ⟨rfl, rfl⟩)
        go_roundw
        case measure => simp [intOf]; omega
        case rel => exact ⟨k + 1, by omega, by go_num, HT, BK, HB⟩
    · have hk' : k = l.length := by omega
      subst hk'
      rw [List.take_length] at HN
      go_wp2
      go_ret
      exact AnyRes.mk (-1) rfl (by rw [HN.out]; rfl) HB.out

set_option maxHeartbeats 2000000 in
set_option maxRecDepth 100000 in
theorem indexAny_one_low (A0 : Option Addr) (c0 : Nat) (c : Int) (w : World) (hr : Kd.C (Kd.int .u8) w A0 1 [c]) (h0 : 0 ≤ c) (h1 : c < 128) :
    Calls Tryd.prog 132 #[.slice A0 1 c0, .string CRLF] w (AnyRes [c] w) := by
  obtain ⟨ad, e, hx⟩ := C_at (l := [c]) hr 0 (by simp)
  cases e
  have hx0 : w.cell? ad = some (.int .u8 c) := by have := hx; simpa [Addr.add] using this
  have hd : decide (c ≥ 128) = false := by simp; omega
  unfold CRLF
  go_enter Tryd.func132, Tryd.ntmps132
  go_wp2
  rw [run_callFunc_extern Tryd.func160 (by kernel_rfl) (by kernel_rfl) (by kernel_rfl) (e := Extern.BytealgIndexByte.indexByte) (by kernel_rfl), Lib.run_indexByteString]
  simp only [Result.andThen]
  rw [Oper.upon_value]
  have hi := idx_crlf c h0 (by omega)
  obtain ⟨n, hn⟩ : ∃ n, Lib.indexByte ([13, 10] : List UInt8) c.toNat.toUInt8 = n := ⟨_, rfl⟩
  rw [show Lib.indexByte (⟨#[13, 10]⟩ : ByteArray).data.toList c.toNat.toUInt8 = n from hn]
  rw [hn] at hi
  clear hn
  have HI := Aside0.mk hi
  clear hi
  by_cases h : 0 ≤ n
  · have HH := Aside0.mk (show hitC c = true by rw [← HI.out]; simp [h])
    go_wp2
    go_ret
    exact AnyRes.mk 0 rfl (by simp [HH.out]) (Below.refl _ _)
  · have HH := Aside0.mk (show hitC c = false by rw [← HI.out]; simp [h])
    go_wp2
    go_ret
    exact AnyRes.mk (-1) rfl (by simp [HH.out]) (Below.refl _ _)
set_option maxHeartbeats 2000000 in
set_option maxRecDepth 100000 in
theorem indexAny_one_high (A0 : Option Addr) (c0 : Nat) (c : Int) (w : World) (hr : Kd.C (Kd.int .u8) w A0 1 [c]) (h0 : 128 ≤ c) (h1 : c < 256) :
    Calls Tryd.prog 132 #[.slice A0 1 c0, .string CRLF] w (AnyRes [c] w) := by
  obtain ⟨ad, e, hx⟩ := C_at (l := [c]) hr 0 (by simp)
  cases e
  have hx0 : w.cell? ad = some (.int .u8 c) := by have := hx; simpa [Addr.add] using this
  have hd : decide (c ≥ 128) = true := by simp; omega
  unfold CRLF
  go_enter Tryd.func132, Tryd.ntmps132
  have HH := Aside0.mk (show hitC c = false by unfold hitC; simp; omega)
  have hc3 : (c == 65533) = false := by rw [beq_eq_false_iff_ne]; omega
  go_wp2
  go_loopw [5] (fun v5 wr => ∃ pos : Nat, pos ≤ 2 ∧ wr = w.iter ⟨#[13, 10]⟩ pos ∧ (∃ z, v5 = .int .i32 z)) (fun _ wr => 2 - wr.iterPos w.heap.size)
  case atStart => exact ⟨0, by omega, rfl, _, rfl⟩
  case round =>
    obtain ⟨pos, hp, rfl, z, rfl⟩ := hrel
    have hcase : pos = 0 ∨ pos = 1 ∨ pos = 2 := by omega
    rcases hcase with rfl | rfl | rfl
    · have hn := next0 w
      go_wp2
      go_roundw
      case measure => rw [World.iterPos_iter, World.iterPos_iter]; omega
      case rel => exact ⟨1, by omega, rfl, _, rfl⟩
    · have hn := next1 w
      go_wp2
      go_roundw
      case measure => rw [World.iterPos_iter, World.iterPos_iter]; omega
      case rel => exact ⟨2, by omega, rfl, _, rfl⟩
    · have hn := next2 w
      go_wp2
      go_ret
      exact AnyRes.mk (-1) rfl (by simp [HH.out]) (iter_below (Below.refl _ _) _ _)

theorem encode_ne (r : Nat) (h : 128 ≤ r) (h2 : r ≤ 1114111) : (Utf8.encode (r : Int)).toList ≠ ([13, 10] : List UInt8) := by
  rw [Lib.toList_data]
  have hc : ∀ c : Nat, 128 ≤ c → c ≤ 1114111 → (if c < 128 then (⟨#[UInt8.ofNat c]⟩ : ByteArray) else if c < 2048 then ⟨#[UInt8.ofNat (192 + c / 64), UInt8.ofNat (128 + c % 64)]⟩ else if c < 65536 then ⟨#[UInt8.ofNat (224 + c / 4096), UInt8.ofNat (128 + c / 64 % 64), UInt8.ofNat (128 + c % 64)]⟩ else ⟨#[UInt8.ofNat (240 + c / 262144), UInt8.ofNat (128 + c / 4096 % 64), UInt8.ofNat (128 + c / 64 % 64), UInt8.ofNat (128 + c % 64)]⟩).data.toList ≠ ([13, 10] : List UInt8) := by
    intro c h1 h2
    rw [if_neg (by omega)]
    split
    · intro e
      injection e with e1 _
      have := congrArg UInt8.toNat e1
      rw [UInt8.toNat_ofNat'] at this
      have h3 : (13 : UInt8).toNat = 13 := rfl
      omega
    · split
      · intro e
        have := congrArg List.length e
        simp at this
      · intro e
        have := congrArg List.length e
        simp at this
  unfold Utf8.encode
  by_cases hv : Utf8.valid (r : Int) = true
  · have := hc r h h2
    simp only [hv, if_true, Int.toNat_natCast]
    exact this
  · have := hc 65533 (by omega) (by omega)
    simp only [hv, if_false, Bool.false_eq_true]
    exact this
theorem encode_size (r : Nat) (h : 2048 ≤ r) (h2 : r ≤ 1114111) : 3 ≤ (Utf8.encode (r : Int)).size ∧ (Utf8.encode (r : Int)).size ≤ 4 ∧ (r < 65536 → (Utf8.encode (r : Int)).size = 3) := by
  have hc : ∀ c : Nat, 2048 ≤ c → c ≤ 1114111 → 3 ≤ (if c < 128 then (⟨#[UInt8.ofNat c]⟩ : ByteArray) else if c < 2048 then ⟨#[UInt8.ofNat (192 + c / 64), UInt8.ofNat (128 + c % 64)]⟩ else if c < 65536 then ⟨#[UInt8.ofNat (224 + c / 4096), UInt8.ofNat (128 + c / 64 % 64), UInt8.ofNat (128 + c % 64)]⟩ else ⟨#[UInt8.ofNat (240 + c / 262144), UInt8.ofNat (128 + c / 4096 % 64), UInt8.ofNat (128 + c / 64 % 64), UInt8.ofNat (128 + c % 64)]⟩ : ByteArray).size ∧
      (if c < 128 then (⟨#[UInt8.ofNat c]⟩ : ByteArray) else if c < 2048 then ⟨#[UInt8.ofNat (192 + c / 64), UInt8.ofNat (128 + c % 64)]⟩ else if c < 65536 then ⟨#[UInt8.ofNat (224 + c / 4096), UInt8.ofNat (128 + c / 64 % 64), UInt8.ofNat (128 + c % 64)]⟩ else ⟨#[UInt8.ofNat (240 + c / 262144), UInt8.ofNat (128 + c / 4096 % 64), UInt8.ofNat (128 + c / 64 % 64), UInt8.ofNat (128 + c % 64)]⟩ : ByteArray).size ≤ 4 ∧
      (c < 65536 → (if c < 128 then (⟨#[UInt8.ofNat c]⟩ : ByteArray) else if c < 2048 then ⟨#[UInt8.ofNat (192 + c / 64), UInt8.ofNat (128 + c % 64)]⟩ else if c < 65536 then ⟨#[UInt8.ofNat (224 + c / 4096), UInt8.ofNat (128 + c / 64 % 64), UInt8.ofNat (128 + c % 64)]⟩ else ⟨#[UInt8.ofNat (240 + c / 262144), UInt8.ofNat (128 + c / 4096 % 64), UInt8.ofNat (128 + c / 64 % 64), UInt8.ofNat (128 + c % 64)]⟩ : ByteArray).size = 3) := by
    intro c h1 h2
    rw [if_neg (by omega), if_neg (by omega)]
    by_cases h3 : c < 65536
    · rw [if_pos h3]
      exact ⟨Nat.le_refl 3, show 3 ≤ 4 by omega, fun _ => rfl⟩
    · rw [if_neg h3]
      exact ⟨show 3 ≤ 4 by omega, Nat.le_refl 4, fun h => absurd h h3⟩
  unfold Utf8.encode
  by_cases hv : Utf8.valid (r : Int) = true
  · have := hc r h h2
    simp only [hv, if_true, Int.toNat_natCast]
    exact this
  · have := hc 65533 (by decide) (by decide)
    simp only [hv, if_false, Bool.false_eq_true]
    exact ⟨this.1, this.2.1, fun _ => this.2.2 (by decide)⟩
def NoHit (l : List Int) (k : Nat) : Prop := (l.take k).any hitC = false
set_option maxHeartbeats 4000000 in
set_option maxRecDepth 100000 in
theorem indexAny_small (A0 : Option Addr) (c0 : Nat) (l : List Int) (w : World) (hr : Kd.C (Kd.int .u8) w A0 l.length l) (hc0 : l.length ≤ c0) (hb : isBytes l = true) (hn : l.length ≤ 8) (h1 : l.length ≠ 1) (hG : GG 5 w) :
    Calls Tryd.prog 132 #[.slice A0 l.length c0, .string CRLF] w (AnyRes l w) := by
  have HC := Aside0.mk hr
  have HI := Aside0.mk (isBytes_mem hb)
  have HGG := Aside0.mk hG
  have HB := Aside0.mk (Below.refl w.heap.size w)
  clear hr hb hG
  have hne : ((l.length : Int) == 1) = false := by rw [beq_eq_false_iff_ne]; omega
  have hbig : decide ((l.length : Int) > 8) = false := by simp; omega
  have hbig2 : decide (8 < (l.length : Int)) = false := by simp; omega
  unfold CRLF
  go_enter Tryd.func132, Tryd.ntmps132
  go_wp2_with go_in
  have Hu : ∀ k (h : k < l.length), 0 ≤ l[k] ∧ l[k] < 256 := fun k h => HI.out l[k] (List.getElem_mem h)
  have HU := Aside0.mk Hu
  clear Hu
  go_loopw [12] (fun v12 wr => ∃ (k : Nat), k ≤ l.length ∧ v12 = .int .i64 k ∧ Aside0 (NoHit l k) ∧ Aside0 (Below w.heap.size w wr)) (fun v12 _ => l.length - (intOf v12).toNat)
  case atStart => exact ⟨0, Nat.zero_le _, rfl, ⟨(rfl : ([] : List Int).any hitC = false)⟩, HB⟩
  case round =>
    obtain ⟨k, hk, rfl, HN, HB⟩ := hrel
    by_cases hlt : k < l.length
    · obtain ⟨ad, e, hx⟩ := C_at (Kd.C_below HC.out HB.out) k hlt
      cases e
      obtain ⟨hr0, hr1⟩ := HU.out k hlt
      have e2 : l.take (k + 1) = l.take k ++ [l[k]] := by rw [List.take_succ_eq_append_getElem hlt]
      have HT := Aside0.mk (show (l.take (k + 1)).any hitC = hitC l[k] by rw [e2, List.any_append, show (l.take k).any hitC = false from HN.out]; simp)
      clear e2
      obtain ⟨c, hc⟩ : ∃ c, l[k] = c := ⟨_, rfl⟩
      rw [hc] at hx hr0 hr1 HT
      have HCK := Aside0.mk hc
      clear hc
      by_cases hlow : c < 128
      · go_wp2
        rw [run_callFunc_extern Tryd.func160 (by kernel_rfl) (by kernel_rfl) (by kernel_rfl) (e := Extern.BytealgIndexByte.indexByte) (by kernel_rfl), Lib.run_indexByteString]
        simp only [Result.andThen]
        rw [Oper.upon_value]
        have hi := idx_crlf c hr0 hr1
        obtain ⟨n, hn⟩ : ∃ n, Lib.indexByte ([13, 10] : List UInt8) c.toNat.toUInt8 = n := ⟨_, rfl⟩
        rw [show Lib.indexByte (⟨#[13, 10]⟩ : ByteArray).data.toList c.toNat.toUInt8 = n from hn]
        rw [hn] at hi
        clear hn
        have HI2 := Aside0.mk hi
        clear hi
        by_cases h : 0 ≤ n
        · have Hany := Aside0.mk (show l.any hitC = true by
            have := HT.out
            rw [← HI2.out, decide_eq_true h, List.any_eq_true] at this
            rw [List.any_eq_true]
            obtain ⟨y, hy, hy2⟩ := this
            exact ⟨y, List.mem_of_mem_take hy, hy2⟩)
          go_wp2
          go_ret
          exact AnyRes.mk (k : Int) rfl (by rw [Hany.out]; simp) HB.out
        · have HH := Aside0.mk (show NoHit l (k + 1) by unfold NoHit; rw [HT.out, ← HI2.out]; simp [h])
          go_wp2
          go_roundw
          case measure => simp [intOf]; omega
          case rel => first | exact ⟨k + 1, by omega, by go_num, HH, HB⟩ | exact ⟨_, _, .int .i64 ((k : Int) + 1), ⟨k + 1, by omega, by go_num, HH⟩, rfl, rfl, rfl⟩
      · -- the decoder's answer
        obtain ⟨b, off, spot⟩ := ad
        have hspot : spot = none := by
          obtain ⟨a2, ha2, hx2⟩ := C_at (Kd.C_below HC.out HB.out) 0 (by omega)
          injection ha2 with ha2
          subst ha2
          simpa [Addr.add] using World.cell?_spot hx2
        subst hspot
        obtain ⟨s, hse⟩ : ∃ s, s = strOfNums (l.drop k) := ⟨_, rfl⟩
        have hl2 : ∀ j, j < l.length - k → (s.get! j).toNat = (l.getD (k + j) 0).toNat ∧ (0 ≤ l.getD (k + j) 0 ∧ l.getD (k + j) 0 < 256) := by
          intro j hj
          have hkj : k + j < l.length := by omega
          have h3 := HU.out (k + j) hkj
          have h4 : l.getD (k + j) 0 = l[k + j] := by simp [List.getD_eq_getElem?_getD, hkj]
          rw [h4]
          refine ⟨?_, h3⟩
          subst hse
          have h5 : (strOfNums (l.drop k)).get! j = UInt8.ofNat (l[k + j]).toNat := by
            show ((l.drop k).map fun n => UInt8.ofNat n.toNat).toArray[j]! = _
            rw [getElem!_pos _ j (by simp; omega)]
            simp
          rw [h5, UInt8.toNat_ofNat']
          omega
        have hss : s.size = l.length - k := by subst hse; simp [strOfNums, ByteArray.size]
        have HS := Aside0.mk hl2
        have HZ := Aside0.mk hss
        have h0s : 0 < s.size := by omega
        have h0v : 128 ≤ (s.get! 0).toNat := by
          have h3 := (hl2 0 (by omega)).1
          have h4 : l.getD (k + 0) 0 = c := by rw [← HCK.out]; simp [List.getD_eq_getElem?_getD, hlt]
          rw [h4] at h3
          omega
        have HD := Aside0.mk (decode_hi s h0s h0v)
        clear hl2 hss h0v h0s hse
        have hcells : ∀ j, j < s.size → wr.cell? ⟨b, off + k + j, none⟩ = some (.int .u8 (s.get! j).toNat) := by
          intro j hj
          have hj2 : j < l.length - k := by rw [← HZ.out]; exact hj
          obtain ⟨a2, ha2, hx2⟩ := C_cells (Kd.C_below HC.out HB.out) (by omega)
          injection ha2 with ha2
          subst ha2
          have h3 := hx2 (k + j) (by omega)
          rw [Addr.add_lit] at h3
          rw [Nat.add_assoc, h3, (HS.out j hj2).1]
          have := (HS.out j hj2).2
          congr 2
          omega
        have HCE := Aside0.mk hcells
        clear hcells
        rw [show ((⟨b, off, none⟩ : Addr).add k) = ⟨b, off + k, none⟩ from Addr.add_lit ..] at hx
        have HDec := fun W (hW : Below w.heap.size w W) (hc : ∀ j, j < s.size → W.cell? ⟨b, off + k + j, none⟩ = some (.int .u8 (s.get! j).toNat)) => Any7.utf8_DecodeRune Tryd.lays7n32 s b (off + k) (c0 - k) W ((GG_step HGG.out (f' := 4) (by decide) hW).2.2 (by decide)) hc
        obtain ⟨m, hm⟩ := (GG_step HGG.out (f' := 1) (by decide) HB.out).1 (by decide)
        go_wp2_with fail
        have HCA := HDec wr HB.out HCE.out
        rw [HZ.out] at HCA
        clear HDec
        refine HCA.mono ?_
        clear HCA
        obtain ⟨r, hr⟩ : ∃ r, (Lib.decodeGo s).1 = r := ⟨_, rfl⟩
        obtain ⟨wd, hwd⟩ : ∃ wd, (Lib.decodeGo s).2 = wd := ⟨_, rfl⟩
        rw [hr, hwd] at HD
        rw [hr, hwd]
        clear hr hwd
        rintro e w2 ⟨rfl, hb2⟩
        have HB2 := Aside0.mk (below_step HB.out hb2)
        have hm2 := pw_cell_below hb2 hm
        clear hm hb2 hx HCE HB
        obtain ⟨hw1, hw2, hr1, hr2, hw3, hw4, hw5⟩ := HD.out
        have HW1 := Aside0.mk hw3
        have HW3 := Aside0.mk hw4
        have HNX := Aside0.mk (show NoHit l (k + wd) by
          unfold NoHit
          rw [List.any_eq_false]
          intro y hy hy2
          rw [List.mem_take_iff_getElem] at hy
          obtain ⟨q, hq, rfl⟩ := hy
          by_cases hqk : q < k
          · have h7 := HN.out
            unfold NoHit at h7
            rw [List.any_eq_false] at h7
            exact h7 l[q] (by rw [List.mem_take_iff_getElem]; exact ⟨q, by omega, rfl⟩) hy2
          · have h8 := hw5 (q - k) (by omega)
            have h9 := (HS.out (q - k) (by omega))
            rw [show k + (q - k) = q from by omega] at h9
            have h10 : l.getD q 0 = l[q] := by simp [List.getD_eq_getElem?_getD, show q < l.length by omega]
            rw [h10] at h9
            unfold hitC at hy2
            simp only [Bool.or_eq_true, beq_iff_eq] at hy2
            omega)
        have hkw : k + wd ≤ l.length := by have := HZ.out; omega
        clear hw3 hw4 hw5 HD HS HZ
        have hr13 : ((r : Int) == 13) = false := by rw [beq_eq_false_iff_ne]; omega
        have hr10 : ((r : Int) == 10) = false := by rw [beq_eq_false_iff_ne]; omega
        by_cases h65 : r = 65533
        · subst h65
          go_wp2
          go_loopw [15] (fun _ wi => ∃ pos : Nat, pos ≤ 2 ∧ wi = w2.iter ⟨#[13, 10]⟩ pos) (fun _ wi => 2 - wi.iterPos w2.heap.size)
          case atStart => exact ⟨0, by omega, rfl⟩
          case round =>
            obtain ⟨pos, hp, rfl⟩ := hrel
            have hcase : pos = 0 ∨ pos = 1 ∨ pos = 2 := by omega
            rcases hcase with rfl | rfl | rfl
            · have hnx := next0 w2
              go_wp2
              go_roundw
              case measure => rw [World.iterPos_iter, World.iterPos_iter]; omega
              case rel => exact ⟨1, by omega, rfl⟩
            · have hnx := next1 w2
              go_wp2
              go_roundw
              case measure => rw [World.iterPos_iter, World.iterPos_iter]; omega
              case rel => exact ⟨2, by omega, rfl⟩
            · have hnx := next2 w2
              go_wp2
              go_roundw
              case measure => simp [intOf]; omega
              case rel =>
                (repeat apply Exists.intro)
                first
                  | (refine ⟨⟨k + wd, hkw, ?hu, HNX, ⟨iter_below HB2.out _ _⟩⟩, ?hf⟩; (case hf => first | exact rfl | (repeat' (first | exact rfl | refine ⟨rfl, ?_⟩))); (case hu => go_num))
                  | (refine ⟨⟨k + wd, hkw, ?hu, HNX⟩, ?hf⟩; (case hf => first | exact rfl | (repeat' (first | exact rfl | refine ⟨rfl, ?_⟩))); (case hu => go_num))
        · have hne65 : ((r : Int) == 65533) = false := by rw [beq_eq_false_iff_ne]; omega
          have hne65' : ((r : Int) != 65533) = true := by rw [bne_iff_ne]; omega
          have hw2' : 2 ≤ wd := by
            rcases Nat.lt_or_ge wd 2 with h | h
            · exact absurd (HW1.out (by omega)) h65
            · exact h
          by_cases h2w : wd = 2
          · subst h2w
            have hnee : (([13, 10] : List UInt8) == (Utf8.encode (r : Int)).toList) = false := by rw [beq_eq_false_iff_ne]; exact fun e => encode_ne r hr1 hr2 e.symm
            go_wp2
            go_roundw
            case measure => simp [intOf]; omega
            case rel =>
              (repeat apply Exists.intro)
              first
                | (refine ⟨⟨k + 2, hkw, ?hu, HNX, HB2⟩, ?hf⟩; (case hf => first | exact rfl | (repeat' (first | exact rfl | refine ⟨rfl, ?_⟩))); (case hu => go_num))
                | (refine ⟨⟨k + 2, hkw, ?hu, HNX⟩, ?hf⟩; (case hf => first | exact rfl | (repeat' (first | exact rfl | refine ⟨rfl, ?_⟩))); (case hu => go_num))
          · have hw2n : ((2 : Int) == (wd : Int)) = false := by rw [beq_eq_false_iff_ne]; omega
            have HSZ := Aside0.mk (encode_size r (HW3.out (by omega)).1 hr2)
            by_cases hmw : (wd : Int) ≤ m
            · go_wp2
              rw [run_callFunc_extern Tryd.func147 (by kernel_rfl) (by kernel_rfl) (by kernel_rfl) (e := Extern.BytealgIndex.index) (by kernel_rfl)]
              rw [Lib.run_indexString _ _ _ 0 m (by kernel_rfl) hm2 (by have := HSZ.out.1; omega) (by have h1 := (HW3.out (by omega)).2; have h2 := HSZ.out.2.1; have h3 := HSZ.out.2.2; rcases h1 with h1 | h1 <;> omega) (by decide)]
              have hidx : Lib.index (⟨#[13, 10]⟩ : ByteArray).data.toList (Utf8.encode (r : Int)).data.toList = -1 := by
                have h1 := HSZ.out.1
                have h2 : (Utf8.encode (r : Int)).data.toList.length = (Utf8.encode (r : Int)).size := data_length _
                refine Lib.index_long (by rw [h2]; show 2 ≤ _; omega) (fun e => ?_)
                have := congrArg List.length e
                rw [h2] at this
                have h4 : (⟨#[13, 10]⟩ : ByteArray).data.toList.length = 2 := rfl
                omega
              rw [hidx]
              clear hidx
              simp only [Result.andThen]
              rw [Oper.upon_value]
              go_wp2
              go_roundw
              case measure => simp [intOf]; omega
              case rel =>
                (repeat apply Exists.intro)
                first
                  | (refine ⟨⟨k + wd, hkw, ?hu, HNX, HB2⟩, ?hf⟩; (case hf => first | exact rfl | (repeat' (first | exact rfl | refine ⟨rfl, ?_⟩))); (case hu => go_num))
                  | (refine ⟨⟨k + wd, hkw, ?hu, HNX⟩, ?hf⟩; (case hf => first | exact rfl | (repeat' (first | exact rfl | refine ⟨rfl, ?_⟩))); (case hu => go_num))
            · have hmw' : m < (wd : Int) := by omega
              go_wp2
              go_loopw [15] (fun _ wi => ∃ pos : Nat, pos ≤ 2 ∧ wi = w2.iter ⟨#[13, 10]⟩ pos) (fun _ wi => 2 - wi.iterPos w2.heap.size)
              case atStart => exact ⟨0, by omega, rfl⟩
              case round =>
                obtain ⟨pos, hp, rfl⟩ := hrel
                have hcase : pos = 0 ∨ pos = 1 ∨ pos = 2 := by omega
                rcases hcase with rfl | rfl | rfl
                · have hnx := next0 w2
                  go_wp2
                  go_roundw
                  case measure => rw [World.iterPos_iter, World.iterPos_iter]; omega
                  case rel => exact ⟨1, by omega, rfl⟩
                · have hnx := next1 w2
                  go_wp2
                  go_roundw
                  case measure => rw [World.iterPos_iter, World.iterPos_iter]; omega
                  case rel => exact ⟨2, by omega, rfl⟩
                · have hnx := next2 w2
                  go_wp2
                  go_roundw
                  case measure => simp [intOf]; omega
                  case rel =>
                    (repeat apply Exists.intro)
                    first
                      | (refine ⟨⟨k + wd, hkw, ?hu, HNX, ⟨iter_below HB2.out _ _⟩⟩, ?hf⟩; (case hf => first | exact rfl | (repeat' (first | exact rfl | refine ⟨rfl, ?_⟩))); (case hu => go_num))
                      | (refine ⟨⟨k + wd, hkw, ?hu, HNX⟩, ?hf⟩; (case hf => first | exact rfl | (repeat' (first | exact rfl | refine ⟨rfl, ?_⟩))); (case hu => go_num))
    · have hk' : k = l.length := by omega
      subst hk'
      have HN2 := Aside0.mk (show l.any hitC = false by have := HN.out; unfold NoHit at this; rwa [List.take_length] at this)
      go_wp2
      go_ret
      exact AnyRes.mk (-1) rfl (by rw [HN2.out]; rfl) HB.out
theorem indexAny_x (A0 : Option Addr) (c0 : Nat) (l : List Int) (w : World) (hr : Kd.C (Kd.int .u8) w A0 l.length l) (hc0 : l.length ≤ c0) (hb : isBytes l = true) (hs : l.length < 4294967281) (hG : GG 5 w) :
    Calls Tryd.prog 132 #[.slice A0 l.length c0, .string CRLF] w (AnyRes l w) := by
  by_cases h8 : 8 < l.length
  · exact indexAny_big A0 c0 l w hr hb h8 hs
  · by_cases h1 : l.length = 1
    · obtain ⟨c, rfl⟩ := List.length_eq_one_iff.1 h1
      have hc := isBytes_mem hb c (by simp)
      by_cases hl : c < 128
      · exact indexAny_one_low A0 c0 c w hr hc.1 hl
      · exact indexAny_one_high A0 c0 c w hr (by omega) hc.2
    · exact indexAny_small A0 c0 l w hr hc0 hb (by omega) h1 hG
set_option maxHeartbeats 1000000 in
set_option maxRecDepth 100000 in
theorem containsAny_x (A0 : Option Addr) (c0 : Nat) (l : List Int) (w : World) (hr : Kd.C (Kd.int .u8) w A0 l.length l) (hc0 : l.length ≤ c0) (hb : isBytes l = true) (hs : l.length < 4294967281) (hG : GG 5 w) :
    Calls Tryd.prog 104 #[.slice A0 l.length c0, .string CRLF] w fun e w' => e = .returned (.bool (l.any hitC)) ∧ Below w.heap.size w w' := by
  have HX := Aside0.mk (indexAny_x A0 c0 l w hr hc0 hb hs hG)
  clear hr hb hG
  go_enter Tryd.func104, Tryd.ntmps104
  go_wp2_with (go_at_call 132; refine HX.out.mono ?_; rintro e w' ⟨n, rfl, hn, hb2⟩; have HN := Aside0.mk hn; have HB := Aside0.mk hb2; clear hn hb2)
  go_ret
  exact ⟨by rw [← HN.out]; rfl, HB.out⟩
end Go.Proofs.YtnhpcpmgedjffaaDoorX
