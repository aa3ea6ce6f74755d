import Derived.Test.YtnhpcpmgedjffaaDoorProg
import Derived.Test.YtnhpcpmgedjffaaDoorMrow
import Derived.Outline
/-! strconv.AppendInt of 0 or 1, onto a row of bytes that may be written. -/
namespace Go.Proofs.YtnhpcpmgedjffaaDoorX
open Go.RowKit Go.Proofs.YtnhpcpmgedjffaaDoorW.PrintWords Go.Proofs.YtnhpcpmgedjffaaDoorW.PrintLast Go.Proofs.YtnhpcpmgedjffaaDoorW.PrintMore
set_option linter.unusedVariables false
set_option linter.unusedSimpArgs false

theorem bytesOf_one (c : UInt8) : bytesOf ⟨#[c]⟩ = [(c.toNat : Int)] := rfl
theorem src_str {W : World} (s : ByteArray) : Src Tryd.prog 1 9 (.string s) (bytesOf s).length ((bytesOf s).map (Value.int .u8)) W := by
  have := Src.ofString (P := Tryd.prog) W (tx := 9) Tryd.underlying9 s
  have e : byteCells s = (bytesOf s).map (Value.int .u8) := by simp [byteCells, bytesOf, List.map_map]
  rw [e, ← bytesOf_length s] at this
  exact this
theorem info_u8 : (Tryd.prog.info? 5).map (fun i => (i.zero, i.size, i.bytes)) = some (some (.int .u8 0), 1, 1) := by kernel_rfl

set_option maxHeartbeats 1000000 in
set_option maxRecDepth 100000 in
theorem appendInt0 (g cap : Nat) (l : List Int) (w : World) (hm : MRow w g cap l) (hlim : l.length + 1 ≤ 140737488355328) :
    Calls Tryd.prog 140 #[.slice (some ⟨g, 0, none⟩) l.length cap, .int .i64 0, .int .i64 10] w fun e w' => ∃ g' cap' l', e = .returned (.slice (some ⟨g', 0, none⟩) l'.length cap') ∧ l' = l ++ [48] ∧ (g' = g ∨ w.heap.size ≤ g') ∧ MRow w' g' cap' l' ∧ w.grownBy w' (some g) := by
  have HM := Aside0.mk hm
  clear hm
  obtain ⟨i0, hi0, hz0, hs0, hb0⟩ := info_parts info_u8
  have HI := Aside0.mk hi0
  clear hi0
  go_enter Tryd.func140, Tryd.ntmps140
  go_wp2_with (first | (at_builtin; refine M_append rfl (N := 17) rfl _ _ 25 9 rfl 5 Tryd.underlying25 HI.out hz0 hs0 hb0 HM.out rfl rfl rfl (bytesOf ⟨#[48]⟩) rfl (src_str _) hlim ?_; intro g' cap' w1 l' hl hg hm1 hgr; have HL := Aside0.mk hl; have HG := Aside0.mk hg; have HM1 := Aside0.mk hm1; have HR := Aside0.mk hgr; clear hl hg hm1 hgr) | go_in)
  go_ret
  exact ⟨g', cap', l', rfl, HL.out, HG.out, HM1.out, HR.out⟩
set_option maxHeartbeats 1000000 in
set_option maxRecDepth 100000 in
theorem appendInt1 (g cap : Nat) (l : List Int) (w : World) (hm : MRow w g cap l) (hlim : l.length + 1 ≤ 140737488355328) :
    Calls Tryd.prog 140 #[.slice (some ⟨g, 0, none⟩) l.length cap, .int .i64 1, .int .i64 10] w fun e w' => ∃ g' cap' l', e = .returned (.slice (some ⟨g', 0, none⟩) l'.length cap') ∧ l' = l ++ [49] ∧ (g' = g ∨ w.heap.size ≤ g') ∧ MRow w' g' cap' l' ∧ w.grownBy w' (some g) := by
  have HM := Aside0.mk hm
  clear hm
  obtain ⟨i0, hi0, hz0, hs0, hb0⟩ := info_parts info_u8
  have HI := Aside0.mk hi0
  clear hi0
  go_enter Tryd.func140, Tryd.ntmps140
  go_wp2_with (first | (at_builtin; refine M_append rfl (N := 17) rfl _ _ 25 9 rfl 5 Tryd.underlying25 HI.out hz0 hs0 hb0 HM.out rfl rfl rfl (bytesOf ⟨#[49]⟩) rfl (src_str _) hlim ?_; intro g' cap' w1 l' hl hg hm1 hgr; have HL := Aside0.mk hl; have HG := Aside0.mk hg; have HM1 := Aside0.mk hm1; have HR := Aside0.mk hgr; clear hl hg hm1 hgr) | go_in)
  go_ret
  exact ⟨g', cap', l', rfl, HL.out, HG.out, HM1.out, HR.out⟩
end Go.Proofs.YtnhpcpmgedjffaaDoorX
