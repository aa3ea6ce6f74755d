import Derived.Test.YtnhpcpmgedjffaaDoorProg
import Derived.Lib.FrozenHead2
import Derived.Lib.OthersKept
import Derived.Lib.UnsafeStr
import Derived.Lib.Builder
import Derived.Laws.Externs
import Derived.RegionTactic
import Derived.Lib.AppendIntMem
import Derived.Outline
import Derived.Below
import Derived.Deep.Draws
import Derived.Deep.AppendLies
import Derived.Maps.AppendAt
import Derived.OwnWalk
import Derived.Laws.BytesArg
import Derived.Laws.MakeOwn
import Derived.Laws.OwnMore
import Derived.Deep.OwnRows
import Derived.Tactics
import Derived.Lib.ConvBytes
import Derived.Laws.Slices
import Derived.WalkKit
import Derived.KernelRfl
import Derived.RowKit3
import Derived.Deep.LoopGhost
import Derived.Deep.QuietTactic
import Derived.BigQuiet
import Derived.WideLaws
import Derived.Deep.DeepCutAuto
import Derived.Deep.CutBlock
import Derived.Deep.RegionHeld3
import Derived.Laws.Rows
import Derived.Lib.AppendStr
import Derived.ArgAppend
import Derived.Laws.IdiomCopy
import Derived.OrdersHeld
import Derived.Laws.BitsLemmas
import Derived.RowKit
import Derived.Test.YtnhpcpmgedjffaaDoorKRespSplits0
section
namespace Go.Proofs.YtnhpcpmgedjffaaDoorX
open Go.RowKit Go.Proofs.YtnhpcpmgedjffaaDoorW.PrintWords Go.Proofs.YtnhpcpmgedjffaaDoorW.PrintLast Go.Proofs.YtnhpcpmgedjffaaDoorW.PrintMore Go.MapKept
set_option linter.unusedVariables false
set_option linter.unusedSimpArgs false
def RT : List (Int × ByteArray) := [(200, ⟨#[79, 75]⟩),
  (400, ⟨#[66, 97, 100, 32, 82, 101, 113, 117, 101, 115, 116]⟩),
  (404, ⟨#[78, 111, 116, 32, 70, 111, 117, 110, 100]⟩),
  (405, ⟨#[77, 101, 116, 104, 111, 100, 32, 78, 111, 116, 32, 65, 108, 108, 111, 119, 101, 100]⟩),
  (411, ⟨#[76, 101, 110, 103, 116, 104, 32, 82, 101, 113, 117, 105, 114, 101, 100]⟩),
  (413, ⟨#[67, 111, 110, 116, 101, 110, 116, 32, 84, 111, 111, 32, 76, 97, 114, 103, 101]⟩),
  (414, ⟨#[85, 82, 73, 32, 84, 111, 111, 32, 76, 111, 110, 103]⟩),
  (415, ⟨#[85, 110, 115, 117, 112, 112, 111, 114, 116, 101, 100, 32, 77, 101, 100, 105, 97, 32, 84, 121, 112, 101]⟩),
  (417, ⟨#[69, 120, 112, 101, 99, 116, 97, 116, 105, 111, 110, 32, 70, 97, 105, 108, 101, 100]⟩),
  (429, ⟨#[84, 111, 111, 32, 77, 97, 110, 121, 32, 82, 101, 113, 117, 101, 115, 116, 115]⟩),
  (431, ⟨#[82, 101, 113, 117, 101, 115, 116, 32, 72, 101, 97, 100, 101, 114, 32, 70, 105, 101, 108, 100, 115, 32, 84, 111, 111, 32, 76, 97, 114, 103, 101]⟩),
  (501, ⟨#[78, 111, 116, 32, 73, 109, 112, 108, 101, 109, 101, 110, 116, 101, 100]⟩),
  (503, ⟨#[83, 101, 114, 118, 105, 99, 101, 32, 85, 110, 97, 118, 97, 105, 108, 97, 98, 108, 101]⟩),
  (505, ⟨#[72, 84, 84, 80, 32, 86, 101, 114, 115, 105, 111, 110, 32, 78, 111, 116, 32, 83, 117, 112, 112, 111, 114, 116, 101, 100]⟩)]
def reasonS (n : Int) : ByteArray := ((RT.find? (fun p => n == p.1)).map (·.2)).getD ⟨#[]⟩
def rtv (p : Int × ByteArray) : Value × Value := (.int .i64 p.1, .agg #[.string p.2])
theorem find_ents (n : Int) : ∀ (l : List (Int × ByteArray)) (b i : Nat), ∃ j, Instr.findNow (.int .i64) (.int .i64 n) (ents b (l.map rtv)) i = some ((l.find? (fun p => n == p.1)).map fun p => (j, (rtv p).2))
  | [], b, i => ⟨0, rfl⟩
  | p :: l, b, i => by
    obtain ⟨j, hj⟩ := find_ents n l (b + 1) (i + 1)
    cases h : n == p.1 with
    | true => exact ⟨i, by simp [ents, rtv, Instr.findNow, Instr.sameNow, h]⟩
    | false => exact ⟨j, by simp [ents, rtv, Instr.findNow, Instr.sameNow, h]; simpa [rtv] using hj⟩
theorem reason_zero (w : World) : (zeroValue 108).run Tryd.prog w = .ok (.agg #[.string ⟨#[]⟩]) w := by kernel_rfl
theorem reason_val {n : Int} {rs : ByteArray} {j : Nat} (h : reasonS n = rs) : (if false = true then Value.tuple #[((((RT.find? (fun p => n == p.1)).map fun p => (j, (rtv p).2)).map (·.2)).getD (.agg #[.string ⟨#[]⟩])), .bool ((RT.find? (fun p => n == p.1)).map fun p => (j, (rtv p).2)).isSome] else (((RT.find? (fun p => n == p.1)).map fun p => (j, (rtv p).2)).map (·.2)).getD (.agg #[.string ⟨#[]⟩])) = .agg #[.string rs] := by
  rw [← h]
  unfold reasonS
  cases RT.find? (fun p => n == p.1) <;> rfl
theorem gate_ins {P : Program} {ops : Array Oper} {Q : Exit → Act → World → Prop} {o : Oper} {rest : List Oper} {a : Act} {W : World} {t : TypeId} {m k : Operand} {x : Nat} (_ho : o.op = .insert t m k (.tmp x)) (h : wpList P ops Q (o :: rest) a W) : wpList P ops Q (o :: rest) a W := h
set_option maxHeartbeats 2000000 in
set_option maxRecDepth 100000 in
theorem reason_calls (n : Int) (w : World) :
    Calls Tryd.prog 36 #[.int .i64 n] w fun e w' => e = .returned (.string (reasonS n)) ∧ Below w.heap.size w w' := by
  obtain ⟨j, hj⟩ := find_ents n RT 0 0
  have HJ := Aside0.mk hj
  clear hj
  obtain ⟨rs, hrs⟩ : ∃ rs, reasonS n = rs := ⟨_, rfl⟩
  have HRS := Aside0.mk hrs
  rw [hrs]
  clear hrs
  have hfd : ∀ (s : ByteArray) (w : World), (Instr.field 108 (.agg #[.string s]) 0).run Tryd.prog w = .ok (.string s) w := fun _ _ => by kernel_rfl
  go_enter Tryd.func36, Tryd.ntmps36
  go_wp2_with (first
    | ((with_reducible refine gate_dst (N := 3) rfl ?_); refine ML_make rfl (N := 3) rfl _ rfl ?_; intro g w1 hg hm hb; have GE := Aside0.mk (show w.heap.size ≤ g by rw [hg]; exact Nat.le_refl _); have HM := Aside0.mk (show MLit w1 g ((RT.take 0).map rtv) from hm); have HB := Aside0.mk hb; clear hg hm hb)
    | ((with_reducible refine gate_ins (x := 4) rfl ?_); refine ML_insert rfl rfl _ _ _ _ rfl (d := .int .i64) Tryd.underlying109 Tryd.underlying3 (l := (RT.take 0).map rtv) HM.out rfl (kv := .int .i64 200) (xv := .agg #[.string ⟨#[79, 75]⟩]) rfl rfl rfl rfl HB.out GE.out ?_; intro w1 hm hb; clear HM HB; have HM := Aside0.mk (show MLit w1 g ((RT.take 1).map rtv) from hm); have HB := Aside0.mk hb; clear hm hb)
    | ((with_reducible refine gate_ins (x := 5) rfl ?_); refine ML_insert rfl rfl _ _ _ _ rfl (d := .int .i64) Tryd.underlying109 Tryd.underlying3 (l := (RT.take 1).map rtv) HM.out rfl (kv := .int .i64 400) (xv := .agg #[.string ⟨#[66, 97, 100, 32, 82, 101, 113, 117, 101, 115, 116]⟩]) rfl rfl rfl rfl HB.out GE.out ?_; intro w1 hm hb; clear HM HB; have HM := Aside0.mk (show MLit w1 g ((RT.take 2).map rtv) from hm); have HB := Aside0.mk hb; clear hm hb)
    | ((with_reducible refine gate_ins (x := 6) rfl ?_); refine ML_insert rfl rfl _ _ _ _ rfl (d := .int .i64) Tryd.underlying109 Tryd.underlying3 (l := (RT.take 2).map rtv) HM.out rfl (kv := .int .i64 404) (xv := .agg #[.string ⟨#[78, 111, 116, 32, 70, 111, 117, 110, 100]⟩]) rfl rfl rfl rfl HB.out GE.out ?_; intro w1 hm hb; clear HM HB; have HM := Aside0.mk (show MLit w1 g ((RT.take 3).map rtv) from hm); have HB := Aside0.mk hb; clear hm hb)
    | ((with_reducible refine gate_ins (x := 7) rfl ?_); refine ML_insert rfl rfl _ _ _ _ rfl (d := .int .i64) Tryd.underlying109 Tryd.underlying3 (l := (RT.take 3).map rtv) HM.out rfl (kv := .int .i64 405) (xv := .agg #[.string ⟨#[77, 101, 116, 104, 111, 100, 32, 78, 111, 116, 32, 65, 108, 108, 111, 119, 101, 100]⟩]) rfl rfl rfl rfl HB.out GE.out ?_; intro w1 hm hb; clear HM HB; have HM := Aside0.mk (show MLit w1 g ((RT.take 4).map rtv) from hm); have HB := Aside0.mk hb; clear hm hb)
    | ((with_reducible refine gate_ins (x := 8) rfl ?_); refine ML_insert rfl rfl _ _ _ _ rfl (d := .int .i64) Tryd.underlying109 Tryd.underlying3 (l := (RT.take 4).map rtv) HM.out rfl (kv := .int .i64 411) (xv := .agg #[.string ⟨#[76, 101, 110, 103, 116, 104, 32, 82, 101, 113, 117, 105, 114, 101, 100]⟩]) rfl rfl rfl rfl HB.out GE.out ?_; intro w1 hm hb; clear HM HB; have HM := Aside0.mk (show MLit w1 g ((RT.take 5).map rtv) from hm); have HB := Aside0.mk hb; clear hm hb)
    | ((with_reducible refine gate_ins (x := 9) rfl ?_); refine ML_insert rfl rfl _ _ _ _ rfl (d := .int .i64) Tryd.underlying109 Tryd.underlying3 (l := (RT.take 5).map rtv) HM.out rfl (kv := .int .i64 413) (xv := .agg #[.string ⟨#[67, 111, 110, 116, 101, 110, 116, 32, 84, 111, 111, 32, 76, 97, 114, 103, 101]⟩]) rfl rfl rfl rfl HB.out GE.out ?_; intro w1 hm hb; clear HM HB; have HM := Aside0.mk (show MLit w1 g ((RT.take 6).map rtv) from hm); have HB := Aside0.mk hb; clear hm hb)
    | ((with_reducible refine gate_ins (x := 10) rfl ?_); refine ML_insert rfl rfl _ _ _ _ rfl (d := .int .i64) Tryd.underlying109 Tryd.underlying3 (l := (RT.take 6).map rtv) HM.out rfl (kv := .int .i64 414) (xv := .agg #[.string ⟨#[85, 82, 73, 32, 84, 111, 111, 32, 76, 111, 110, 103]⟩]) rfl rfl rfl rfl HB.out GE.out ?_; intro w1 hm hb; clear HM HB; have HM := Aside0.mk (show MLit w1 g ((RT.take 7).map rtv) from hm); have HB := Aside0.mk hb; clear hm hb)
    | ((with_reducible refine gate_ins (x := 11) rfl ?_); refine ML_insert rfl rfl _ _ _ _ rfl (d := .int .i64) Tryd.underlying109 Tryd.underlying3 (l := (RT.take 7).map rtv) HM.out rfl (kv := .int .i64 415) (xv := .agg #[.string ⟨#[85, 110, 115, 117, 112, 112, 111, 114, 116, 101, 100, 32, 77, 101, 100, 105, 97, 32, 84, 121, 112, 101]⟩]) rfl rfl rfl rfl HB.out GE.out ?_; intro w1 hm hb; clear HM HB; have HM := Aside0.mk (show MLit w1 g ((RT.take 8).map rtv) from hm); have HB := Aside0.mk hb; clear hm hb)
    | ((with_reducible refine gate_ins (x := 12) rfl ?_); refine ML_insert rfl rfl _ _ _ _ rfl (d := .int .i64) Tryd.underlying109 Tryd.underlying3 (l := (RT.take 8).map rtv) HM.out rfl (kv := .int .i64 417) (xv := .agg #[.string ⟨#[69, 120, 112, 101, 99, 116, 97, 116, 105, 111, 110, 32, 70, 97, 105, 108, 101, 100]⟩]) rfl rfl rfl rfl HB.out GE.out ?_; intro w1 hm hb; clear HM HB; have HM := Aside0.mk (show MLit w1 g ((RT.take 9).map rtv) from hm); have HB := Aside0.mk hb; clear hm hb)
    | ((with_reducible refine gate_ins (x := 13) rfl ?_); refine ML_insert rfl rfl _ _ _ _ rfl (d := .int .i64) Tryd.underlying109 Tryd.underlying3 (l := (RT.take 9).map rtv) HM.out rfl (kv := .int .i64 429) (xv := .agg #[.string ⟨#[84, 111, 111, 32, 77, 97, 110, 121, 32, 82, 101, 113, 117, 101, 115, 116, 115]⟩]) rfl rfl rfl rfl HB.out GE.out ?_; intro w1 hm hb; clear HM HB; have HM := Aside0.mk (show MLit w1 g ((RT.take 10).map rtv) from hm); have HB := Aside0.mk hb; clear hm hb)
    | ((with_reducible refine gate_ins (x := 14) rfl ?_); refine ML_insert rfl rfl _ _ _ _ rfl (d := .int .i64) Tryd.underlying109 Tryd.underlying3 (l := (RT.take 10).map rtv) HM.out rfl (kv := .int .i64 431) (xv := .agg #[.string ⟨#[82, 101, 113, 117, 101, 115, 116, 32, 72, 101, 97, 100, 101, 114, 32, 70, 105, 101, 108, 100, 115, 32, 84, 111, 111, 32, 76, 97, 114, 103, 101]⟩]) rfl rfl rfl rfl HB.out GE.out ?_; intro w1 hm hb; clear HM HB; have HM := Aside0.mk (show MLit w1 g ((RT.take 11).map rtv) from hm); have HB := Aside0.mk hb; clear hm hb)
    | ((with_reducible refine gate_ins (x := 15) rfl ?_); refine ML_insert rfl rfl _ _ _ _ rfl (d := .int .i64) Tryd.underlying109 Tryd.underlying3 (l := (RT.take 11).map rtv) HM.out rfl (kv := .int .i64 501) (xv := .agg #[.string ⟨#[78, 111, 116, 32, 73, 109, 112, 108, 101, 109, 101, 110, 116, 101, 100]⟩]) rfl rfl rfl rfl HB.out GE.out ?_; intro w1 hm hb; clear HM HB; have HM := Aside0.mk (show MLit w1 g ((RT.take 12).map rtv) from hm); have HB := Aside0.mk hb; clear hm hb)
    | ((with_reducible refine gate_ins (x := 16) rfl ?_); refine ML_insert rfl rfl _ _ _ _ rfl (d := .int .i64) Tryd.underlying109 Tryd.underlying3 (l := (RT.take 12).map rtv) HM.out rfl (kv := .int .i64 503) (xv := .agg #[.string ⟨#[83, 101, 114, 118, 105, 99, 101, 32, 85, 110, 97, 118, 97, 105, 108, 97, 98, 108, 101]⟩]) rfl rfl rfl rfl HB.out GE.out ?_; intro w1 hm hb; clear HM HB; have HM := Aside0.mk (show MLit w1 g ((RT.take 13).map rtv) from hm); have HB := Aside0.mk hb; clear hm hb)
    | ((with_reducible refine gate_ins (x := 17) rfl ?_); refine ML_insert rfl rfl _ _ _ _ rfl (d := .int .i64) Tryd.underlying109 Tryd.underlying3 (l := (RT.take 13).map rtv) HM.out rfl (kv := .int .i64 505) (xv := .agg #[.string ⟨#[72, 84, 84, 80, 32, 86, 101, 114, 115, 105, 111, 110, 32, 78, 111, 116, 32, 83, 117, 112, 112, 111, 114, 116, 101, 100]⟩]) rfl rfl rfl rfl HB.out GE.out ?_; intro w1 hm hb; clear HM HB; have HM := Aside0.mk (show MLit w1 g ((RT.take 14).map rtv) from hm); have HB := Aside0.mk hb; clear hm hb)
    | ((with_reducible refine gate_dst (N := 20) rfl ?_); refine ML_lookup rfl (N := 20) rfl 109 _ _ false rfl (d := .int .i64) Tryd.underlying109 Tryd.underlying3 (l := RT.map rtv) HM.out rfl (kv := .int .i64 n) rfl rfl HJ.out (reason_zero _) ?_; rw [reason_val HRS.out]))
  go_ret
  exact ⟨rfl, HB.out⟩
end Go.Proofs.YtnhpcpmgedjffaaDoorX
end
section
namespace Go.Proofs.YtnhpcpmgedjffaaDoorX
open Go.RowKit Go.Proofs.YtnhpcpmgedjffaaDoorW.PrintWords Go.Proofs.YtnhpcpmgedjffaaDoorW.PrintLast Go.Proofs.YtnhpcpmgedjffaaDoorW.PrintMore
set_option linter.unusedVariables false
set_option linter.unusedSimpArgs false
theorem sizeBuilder : (Tryd.prog.info? 98).map (·.size) = some 2 := by kernel_rfl
theorem liesBuilder : liesAt Tryd.prog Tryd.prog.depth 98 (2 / Tryd.prog.cellsOf 98) 0 98 1 = true := by kernel_rfl
theorem sb_info8 : (Tryd.prog.info? 5).map (fun i => (i.zero, i.size, i.bytes)) = some (some (.int .u8 0), 1, 1) := by kernel_rfl
theorem sb_cells8 : Tryd.prog.cellsOf 5 = 1 := by kernel_rfl
abbrev SBF (b : Nat) (bs : List Value) (w : World) : Prop := Lib.IsBuilderF 98 5 b b bs w
abbrev SBA (b : Nat) (bs : List Value) (w : World) : Prop := Lib.BuilderAtF 98 5 b b (.pointer (some ⟨b, 0, none⟩)) bs w
abbrev SBK (b : Nat) (w w' : World) : Prop := Lib.OthersKept 5 (some b) w w'

set_option maxHeartbeats 1000000 in
set_option maxRecDepth 100000 in
theorem sb_copy_used (b : Nat) (w : World) (h0 : w.cell? ⟨b, 0, none⟩ = some (.pointer (some ⟨b, 0, none⟩))) :
    Calls Tryd.prog 100 #[.pointer (some ⟨b, 0, none⟩)] w fun e w' => e = .returned (.tuple #[]) ∧ w' = w := by
  obtain ⟨j, hj, _⟩ := Option.map_eq_some_iff.1 sizeBuilder
  go_enter Tryd.func100, Tryd.ntmps100
  go_wp2
  rw [Lib.run_neq_ptr_same w _ Tryd.underlying96 hj]
  go_wp2
  go_end0
  exact ⟨rfl, rfl⟩

set_option maxHeartbeats 1000000 in
set_option maxRecDepth 100000 in
theorem sb_copy_fresh (b : Nat) (w : World) (h0 : w.cell? ⟨b, 0, none⟩ = some (.pointer none)) (hsh : w.shape? b = some (98, 2)) (hfz : w.frozen? ⟨b, 0, none⟩ = false) :
    Calls Tryd.prog 100 #[.pointer (some ⟨b, 0, none⟩)] w fun e w' => e = .returned (.tuple #[]) ∧ w' = w.setCell ⟨b, 0, none⟩ (.pointer (some ⟨b, 0, none⟩)) := by
  obtain ⟨j, hj, hjs⟩ := Option.map_eq_some_iff.1 sizeBuilder
  go_enter Tryd.func100, Tryd.ntmps100
  go_wp2
  rw [Lib.run_to_unsafe w ⟨b, 0, none⟩ Tryd.underlying96 Tryd.underlying153 hj (by rw [hjs]; decide) hsh (Nat.zero_lt_succ 1)]
  simp only [Result.andThen]
  rw [Oper.upon_value]
  go_wp2
  rw [run_callFunc_extern Tryd.func129 (by kernel_rfl) (by kernel_rfl) (by kernel_rfl) (e := Extern.AbiNoEscape.same) (by kernel_rfl)]
  rw [Lib.run_noEscape]
  simp only [Result.andThen]
  rw [Oper.upon_value]
  go_wp2
  rw [Lib.run_from_unsafe w ⟨b, 0, none⟩ Tryd.underlying153 Tryd.underlying96 hj hsh liesBuilder]
  simp only [Result.andThen]
  rw [Oper.upon_value]
  go_wp2
  go_end0
  exact ⟨rfl, rfl⟩

theorem sb_copy (b : Nat) (bs : List Value) (w : World) (h : SBF b bs w) :
    Calls Tryd.prog 100 #[.pointer (some ⟨b, 0, none⟩)] w fun e w' => e = .returned (.tuple #[]) ∧ (SBA b bs w' ∧ Below b w w' ∧ SBK b w w') := by
  rcases h with h | h
  · refine (sb_copy_fresh b w h.cell0 h.shape h.frozen0).mono ?_
    rintro e w' ⟨rfl, rfl⟩
    exact ⟨rfl, h.used _, (Below.refl b w).setCell (p := ⟨b, 0, none⟩) h.1 _, (Lib.OthersKept.refl _ _ w).setCell ⟨b, 0, none⟩ rfl _⟩
  · refine (sb_copy_used b w h.cell0).mono ?_
    rintro e w' ⟨rfl, rfl⟩
    exact ⟨rfl, h, Below.refl b _, Lib.OthersKept.refl _ _ _⟩

set_option maxHeartbeats 2000000 in
set_option maxRecDepth 100000 in
theorem sb_writeString (b : Nat) (bs : List Value) (s : ByteArray) (w : World) (h : SBF b bs w) (hlen : bs.length + s.size ≤ 140737488355328) (hBw : b < w.heap.size) :
    Calls Tryd.prog 65 #[.pointer (some ⟨b, 0, none⟩), .string s] w fun e w' => e = .returned (.tuple #[.int .i64 s.size, .nilIface]) ∧ (SBA b (bs ++ Lib.strCells s) w' ∧ Below b w w' ∧ SBK b w w') := by
  obtain ⟨i0, hi, hz0, hz1, hz2⟩ := info_parts sb_info8
  go_enter Tryd.func65, Tryd.ntmps65
  go_wp2_with (go_at_call 100; refine (sb_copy b bs _ h).mono ?_)
  rintro e w1 ⟨rfl, h1, hb1, hk1⟩
  obtain ⟨hB, v, hbk, hown, hne⟩ := h1
  have c0 : w1.cell? ⟨b, 0, none⟩ = some (.pointer (some ⟨b, 0, none⟩)) := by rw [Lib.cell_of_heap hbk]; rfl
  have c1 : w1.cell? ⟨b, 1, none⟩ = some v := by rw [Lib.cell_of_heap hbk]; rfl
  go_wp2_with (at_builtin; refine Lib.wpList_append_own_stringF _ rfl _ _ 25 9 rfl b 5 i0 Tryd.underlying25 Tryd.underlying9 hi hz0 hz1 hz2 _ _ _ rfl hown s rfl ?c3 ?c4 ?c5 ?_)
  case c3 => unfold maxLen; omega
  case c4 => omega
  case c5 => have := hb1.size; omega
  intro v' w2 hown' hgrow _
  have hlt : b < w1.heap.size := by
    rcases Nat.lt_or_ge b w1.heap.size with h' | h'
    · exact h'
    · simp [Array.getElem?_eq_none h'] at hbk
  have hb2 : w2.heap[b]? = some (.cells #[.pointer (some ⟨b, 0, none⟩), v] 98 (0, 0)) := by
    rw [hgrow.block b hlt (fun e => hne e.symm)]
    exact hbk
  have d0 : w2.cell? ⟨b, 0, none⟩ = some (.pointer (some ⟨b, 0, none⟩)) := by rw [Lib.cell_of_heap hb2]; rfl
  have d1 : w2.cell? ⟨b, 1, none⟩ = some v := by rw [Lib.cell_of_heap hb2]; rfl
  have f1 : w2.frozen? ⟨b, 1, none⟩ = false := Lib.frozen_of_heap hb2 1
  obtain ⟨ao, n', cap, rfl⟩ : ∃ ao n' cap, v' = .slice ao n' cap := by
    rcases hown'.2 with ⟨hv, _⟩ | ⟨g, cap, cur, fz, hv, _⟩
    · exact ⟨_, _, _, hv⟩
    · exact ⟨_, _, _, hv⟩
  go_wp2
  go_ret2
  refine ⟨rfl, ?_, ?_, (hk1.grown hgrow (Lib.ownsRowF_kind hown)).setCell ⟨b, 1, none⟩ rfl _⟩
  · exact Lib.BuilderAtF.put (T := 98) (e := 5) hB hb2 (bs' := bs ++ Lib.strCells s) (by simpa [Lib.strCells_length] using hown') (by decide)
  · exact (hb1.grown hgrow (by have := hb1.size; omega) (fun k hk => (hown.lt k hk).1)).setCell (p := ⟨b, 1, none⟩) hB _

set_option maxHeartbeats 1000000 in
set_option maxRecDepth 100000 in
theorem sb_String (b : Nat) (l : List UInt8) (w : World) (h : SBF b (Lib.byteCells l) w) (h0 : l ≠ []) :
    Calls Tryd.prog 67 #[.pointer (some ⟨b, 0, none⟩)] w fun e w' => e = .returned (.string ⟨l.toArray⟩) ∧ (Below b w w' ∧ SBK b w w') := by
  obtain ⟨p, hp, hAt⟩ : ∃ p, (p = .pointer none ∨ p = .pointer (some ⟨b, 0, none⟩)) ∧ Lib.BuilderAtF 98 5 b b p (Lib.byteCells l) w := by
    rcases h with h | h
    · exact ⟨_, .inl rfl, h⟩
    · exact ⟨_, .inr rfl, h⟩
  obtain ⟨hB, v, hbk, hown, hne⟩ := hAt
  have hl0 : l.length ≠ 0 := by simpa using h0
  rw [Lib.byteCells_length] at hown
  obtain ⟨g, cap, cur, fz, rfl, hbg, hg, hfz, hnc, hcm, hcs, htake⟩ : ∃ g cap cur fz, v = .slice (some ⟨g, 0, none⟩) l.length cap ∧ b ≤ g ∧ w.heap[g]? = some (.cells cur 5 fz) ∧ fz.2 ≤ l.length * 1 ∧ l.length ≤ cap ∧ cap ≤ maxLen ∧ cur.size = cap * 1 ∧ cur.toList.take (l.length * 1) = Lib.byteCells l := by
    rcases hown.2 with ⟨_, hz⟩ | ⟨g, cap, cur, fz, hv, r⟩
    · exact absurd hz hl0
    · exact ⟨g, cap, cur, fz, hv, r⟩
  have c1 : w.drew.cell? ⟨b, 1, none⟩ = some (.slice (some ⟨g, 0, none⟩) l.length cap) := by
    have : w.drew.heap[b]? = some (.cells #[p, .slice (some ⟨g, 0, none⟩) l.length cap] 98 (0, 0)) := hbk
    rw [Lib.cell_of_heap this]; rfl
  have hSD : (Builtin.unsafeSliceData_ #[25] 130 #[.slice (some ⟨g, 0, none⟩) l.length cap]).run Tryd.prog w.drew = .ok (.pointer (some ⟨g, 0, none⟩)) w.drew :=
    Lib.run_unsafeSliceData_row _ _ _ _ _ _ (by omega)
  have hUS : (Builtin.unsafeString_ #[130, 3] 9 #[.pointer (some ⟨g, 0, none⟩), .int .i64 l.length]).run Tryd.prog w.drew = .ok (.string ⟨l.toArray⟩) (w.drew.freeze ⟨g, 0, none⟩ l.length) := by
    refine Lib.run_unsafeString_row w.drew 130 3 9 5 Tryd.underlying130 sb_cells8 g cur.size (by have hg' : w.drew.heap[g]? = some (.cells cur 5 fz) := hg; simp [World.shape?, hg']) l h0 (by omega) (by unfold maxLen at hcm; omega) ?_
    intro j x hx
    have := hown.cells (g := g) rfl j (.int .u8 x.toNat) (by simp [Lib.byteCells, hx])
    exact this
  go_enter Tryd.func67, Tryd.ntmps67
  go_wp2
  go_region
  all_goals (go_wp2; go_ret; exact ⟨rfl, Lib.below_freeze (Below.drew (Below.refl b w)) (p := ⟨g, 0, none⟩) hbg _, ((Lib.OthersKept.refl _ _ w).drew).freeze ⟨g, 0, none⟩ _ ⟨cur, fz, hg⟩⟩)
end Go.Proofs.YtnhpcpmgedjffaaDoorX
end
section
namespace Go.Proofs.YtnhpcpmgedjffaaDoorX
open Go.RowKit Go.Proofs.YtnhpcpmgedjffaaDoorW.PrintWords Go.Proofs.YtnhpcpmgedjffaaDoorW.PrintLast Go.Proofs.YtnhpcpmgedjffaaDoorW.PrintMore
set_option linter.unusedVariables false
set_option linter.unusedSimpArgs false
def ba8 (s : ByteArray) : List UInt8 := s.data.toList
def cat8 (xs : List ByteArray) : List UInt8 := xs.flatMap ba8
def line8 (xs : List ByteArray) : List UInt8 := cat8 xs ++ [13, 10]
abbrev c8 (l : List UInt8) : List Value := Lib.byteCells l
theorem c8_app (a b : List UInt8) : c8 a ++ c8 b = c8 (a ++ b) := (Lib.byteCells_append a b).symm
theorem c8_str (l : List UInt8) (s : ByteArray) : c8 l ++ Lib.strCells s = c8 (l ++ ba8 s) := by rw [Lib.strCells_eq, c8_app]; rfl
theorem cat8_take (xs : List ByteArray) (k : Nat) (h : k < xs.length) : cat8 (xs.take (k + 1)) = cat8 (xs.take k) ++ ba8 xs[k] := by
  unfold cat8
  rw [List.take_succ_eq_append_getElem h, List.flatMap_append]
  simp
theorem ba8_size (s : ByteArray) : (ba8 s).length = s.size := data_length s
theorem cat8_le (xs : List ByteArray) (k : Nat) : (cat8 (xs.take k)).length ≤ (cat8 xs).length := by
  have : cat8 xs = cat8 (xs.take k) ++ cat8 (xs.drop k) := by unfold cat8; rw [← List.flatMap_append, List.take_append_drop]
  rw [this, List.length_append]; omega
theorem kept_cells {w w' : World} {b g : Nat} {cs : Array Value} {t : TypeId} {fz : Nat × Nat} (hk : SBK b w w') (hg : w.heap[g]? = some (.cells cs t fz)) (hne : g ≠ b) (ht : t ≠ 5) : w'.heap[g]? = some (.cells cs t fz) :=
  hk g _ hg (fun e => hne (Option.some.inj e)) (fun c f e => by simp only [Obj.cells.injEq] at e; exact ht e.2.1)
def TxtRow (w : World) (b : Nat) (A : Option Addr) (xs : List ByteArray) : Prop :=
  xs = [] ∨ ∃ g, A = some ⟨g, 0, none⟩ ∧ g ≠ b ∧ w.heap[g]? = some (.cells (xs.map Value.string).toArray 9 (0, 0))
theorem TxtRow.kept {w w' : World} {b : Nat} {A : Option Addr} {xs : List ByteArray} (h : TxtRow w b A xs) (hk : SBK b w w') : TxtRow w' b A xs := by
  rcases h with h | ⟨g, hA, hne, hg⟩
  · exact .inl h
  · exact .inr ⟨g, hA, hne, kept_cells hk hg hne (by decide)⟩
set_option maxHeartbeats 1000000 in
set_option maxRecDepth 100000 in
theorem line_calls (b : Nat) (l : List UInt8) (A : Option Addr) (n c : Nat) (xs : List ByteArray) (w : World) (h : SBF b (c8 l) w) (hR : TxtRow w b A xs) (hn : xs.length = n) (hn2 : n ≤ 1000) (hlen : l.length + (line8 xs).length ≤ 140737488355328) (hBw : b < w.heap.size) :
    Calls Tryd.prog 64 #[.slice A n c, .pointer (some ⟨b, 0, none⟩)] w fun e w' => e = .returned (.tuple #[]) ∧ (SBF b (c8 (l ++ line8 xs)) w' ∧ Below b w w' ∧ SBK b w w') := by
  have HS := Aside0.mk h
  have HR := Aside0.mk hR
  have HL := Aside0.mk hlen
  have HN := Aside0.mk hn
  clear h hR hlen hn
  go_enter Tryd.func64, Tryd.ntmps64
  go_wp2
  go_loopw [7] (fun v7 wr => ∃ k : Nat, k ≤ n ∧ v7 = .int .i64 k ∧ Aside0 (SBF b (c8 (l ++ cat8 (xs.take k))) wr) ∧ Aside0 (Below b w wr) ∧ Aside0 (SBK b w wr)) (fun v7 _ => n - (intOf v7).toNat)
  case atStart => exact ⟨0, Nat.zero_le _, rfl, ⟨by simpa [cat8] using HS.out⟩, ⟨Below.refl _ _⟩, ⟨Lib.OthersKept.refl _ _ _⟩⟩
  case round =>
    obtain ⟨k, hk, rfl, HS, HB, HK⟩ := hrel
    by_cases hlt : k < n
    · have hlt' : k < xs.length := by rw [HN.out]; exact hlt
      obtain ⟨g, rfl, hne, hg⟩ : ∃ g, A = some ⟨g, 0, none⟩ ∧ g ≠ b ∧ wr.heap[g]? = some (.cells (xs.map Value.string).toArray 9 (0, 0)) := by
        rcases HR.out.kept HK.out with h0 | h0
        · rw [h0] at hlt'; simp at hlt'
        · exact h0
      have hx : wr.cell? ⟨g, k, none⟩ = some (.string xs[k]) := by rw [blk_cell hg]; simp [hlt']
      have HE := Aside0.mk (cat8_take xs k hlt')
      have HLE := Aside0.mk (cat8_le xs (k + 1))
      obtain ⟨x, hxx⟩ : ∃ x, xs[k] = x := ⟨_, rfl⟩
      rw [hxx] at hx HE
      clear hxx hg hne
      have HLK := Aside0.mk (show (c8 (l ++ cat8 (xs.take k))).length + x.size ≤ 140737488355328 by
        have h1 := HL.out
        have h2 := HLE.out
        rw [HE.out, List.length_append, ba8_size] at h2
        rw [Lib.byteCells_length, List.length_append]
        unfold line8 at h1
        rw [List.length_append] at h1
        simp at h1
        omega)
      have HBS := Aside0.mk (Nat.lt_of_lt_of_le hBw HB.out.size)
      go_wp2_with (go_at_call 65; (with_reducible refine (sb_writeString b _ x wr HS.out HLK.out HBS.out).mono ?_); rintro e w1 ⟨rfl, h1, hb1, hk1⟩; have n0_ := Aside0.mk h1; have n1_ := Aside0.mk (HB.out.trans hb1); have n2_ := Aside0.mk (HK.out.trans hk1); clear HS HB HK h1 hb1 hk1; have HS := n0_; have HB := n1_; have HK := n2_; clear n0_ n1_ n2_)
      go_roundw
      case measure => simp [intOf]; omega
      case rel => exact ⟨k + 1, by omega, by go_num, ⟨by have h := HS.out; rw [c8_str, List.append_assoc, ← HE.out] at h; exact .inr h⟩, HB, HK⟩
    · obtain rfl : k = n := by omega
      have HLK := Aside0.mk (show (c8 (l ++ cat8 (xs.take xs.length))).length + (⟨#[13, 10]⟩ : ByteArray).size ≤ 140737488355328 by
        have h1 := HL.out
        rw [Lib.byteCells_length, List.length_append, List.take_length]
        unfold line8 at h1
        rw [List.length_append] at h1
        simp at h1
        show _ + 2 ≤ _
        omega)
      have HBS := Aside0.mk (Nat.lt_of_lt_of_le hBw HB.out.size)
      rw [← HN.out] at HS
      go_wp2_with (go_at_call 65; (with_reducible refine (sb_writeString b _ (⟨#[13, 10]⟩ : ByteArray) wr HS.out HLK.out HBS.out).mono ?_); rintro e w1 ⟨rfl, h1, hb1, hk1⟩; have n0_ := Aside0.mk h1; have n1_ := Aside0.mk (HB.out.trans hb1); have n2_ := Aside0.mk (HK.out.trans hk1); clear HS HB HK h1 hb1 hk1; have HS := n0_; have HB := n1_; have HK := n2_; clear n0_ n1_ n2_)
      go_end0
      refine ⟨rfl, ?_, HB.out, HK.out⟩
      have h := HS.out
      rw [c8_str, List.take_length, List.append_assoc] at h
      exact .inr h
end Go.Proofs.YtnhpcpmgedjffaaDoorX
end
section
-- Written by the proof's own program out of the translation; Lean checks it.
namespace Go.Proofs.YtnhpcpmgedjffaaDoor.P
open Go.RowKit Go.Proofs.YtnhpcpmgedjffaaDoorW.PrintWords Go.Proofs.YtnhpcpmgedjffaaDoorW.PrintLast Go.Proofs.YtnhpcpmgedjffaaDoorW.PrintMore Go.Proofs.YtnhpcpmgedjffaaDoorX
attribute [local go_sem] max2_int min2_int max_two min_two max_three min_three max_four min_four   -- for this text's walks alone
set_option linter.unusedVariables false
set_option linter.unusedSimpArgs false



def errW : Option Int → Value
 | none => .nilIface
 | some c => .iface 0 (.int .i64 c)
theorem errW_none : errW none = .nilIface := rfl
theorem errW_some (c : Int) : errW (some c) = .iface 0 (.int .i64 c) := rfl

theorem info5 : (Tryd.prog.info? 5).map (fun i => (i.zero, i.size, i.bytes)) = some (some (.int .u8 0), 1, 1) := by kernel_rfl
theorem info9 : (Tryd.prog.info? 9).map (fun i => (i.zero, i.size, i.bytes)) = some (some (.string ⟨#[]⟩), 1, 16) := by kernel_rfl
theorem info67 : (Tryd.prog.info? 67).map (fun i => (i.zero, i.size, i.bytes)) = some (some (.agg #[(.string ⟨#[]⟩), (.string ⟨#[]⟩)]), 2, 32) := by kernel_rfl
-- the values' own types
/-! #### struct type 67 -/
structure S67 where
 f0 : ByteArray
 f1 : ByteArray
def z67 : S67 := ⟨(⟨#[]⟩ : ByteArray), (⟨#[]⟩ : ByteArray)⟩
def k67 : Kd S67 := Kd.iso (Kd.pair Kd.string Kd.string) (fun x : S67 => (x.f0, x.f1))
theorem k67_heap : Kd.Heap k67 := Kd.heap_iso _ (Kd.heap_pair Kd.heap_string Kd.heap_string)
theorem k67_open {w : World} {x : S67} {cs : List Value} (h : k67.K w x cs) : cs = [.string x.f0, .string x.f1] := by
 obtain ⟨_, _, rfl, rfl, rfl⟩ := h
 exact rfl
theorem k67_openM {w : World} {base : Nat} {ok : Nat → Prop} {x : S67} {cs : List Value} (h : k67.M w base ok x cs) : cs = [.string x.f0, .string x.f1] := by
 obtain ⟨_, _, rfl, rfl, rfl⟩ := h
 exact rfl
theorem k67_mk (w : World) (x : S67)  : k67.K w x [.string x.f0, .string x.f1] := ⟨[.string x.f0], [.string x.f1], rfl, rfl, rfl⟩
theorem k67_mkM (w : World) (base : Nat) (ok : Nat → Prop) (x : S67)  : k67.M w base ok x [.string x.f0, .string x.f1] := ⟨[.string x.f0], [.string x.f1], rfl, rfl, rfl⟩
theorem k67_mkF (W : World) (ok : Nat → Prop) (x : S67) : Kd.FK k67 W ok x [.string x.f0, .string x.f1] := fun W2 _ => k67_mk W2 x
def rd_T67 (xs : List S67) (i : Int) : S67 := xs.getD i.toNat z67
theorem at_T67 {w : World} {A : Option Addr} {n : Nat} {xs : List S67} (h : Kd.C k67 w A n xs) (i : Int) (h0 : 0 ≤ i) (h1 : i < n) : ∃ ad , A = some ad ∧ w.cell? (ad.add (i.toNat * 2)) = some (.string (rd_T67 xs i).f0) ∧ w.cell? ⟨(ad.add (i.toNat * 2)).block, (ad.add (i.toNat * 2)).off + 1, none⟩ = some (.string (rd_T67 xs i).f1) := by
 obtain ⟨ad, c, e, _, hK, hc0⟩ := Kd.C_get h z67 i h0 h1
 have hc : ∀ j u, c[j]? = some u → w.cell? (ad.add (i.toNat * 2 + j)) = some u := hc0
 obtain rfl := k67_open hK
 exact ⟨ad, e, hc 0 _ rfl, by rw [← add_field _ _ 1 (by omega)]; exact hc 1 _ rfl⟩

end Go.Proofs.YtnhpcpmgedjffaaDoor.P
end
section
-- Written by the proof's own program out of the translation; Lean checks it.
namespace Go.Proofs.YtnhpcpmgedjffaaDoor.P
open Go.RowKit Go.Proofs.YtnhpcpmgedjffaaDoorW.PrintWords Go.Proofs.YtnhpcpmgedjffaaDoorW.PrintLast Go.Proofs.YtnhpcpmgedjffaaDoorW.PrintMore Go.Proofs.YtnhpcpmgedjffaaDoorX
attribute [local go_sem] max2_int min2_int max_two min_two max_three min_three max_four min_four   -- for this text's walks alone
set_option linter.unusedVariables false
set_option linter.unusedSimpArgs false

theorem eqA67 (d : Nat) (w : World) (x0 y0 : ByteArray) (x1 y1 : ByteArray) :
  (Op.equalIn (d + 2) 67 (.agg #[.string x0, .string x1]) (.agg #[.string y0, .string y1])).run Tryd.prog w = .ok (x0.toList == y0.toList && (x1.toList == y1.toList)) w := by
 refine eqA_of Tryd.underlying67 (by kernel_rfl) ?_
 refine eqf_cons (by rfl) (by go_simp; rfl) (by go_simp; rfl) (by go_simp) ?_
 exact eqf_last (by rfl) (by go_simp; rfl) (by go_simp; rfl) (by go_simp)
end Go.Proofs.YtnhpcpmgedjffaaDoor.P
end
