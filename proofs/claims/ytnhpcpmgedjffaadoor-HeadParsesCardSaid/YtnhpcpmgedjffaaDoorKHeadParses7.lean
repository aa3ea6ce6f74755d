import Derived.Test.YtnhpcpmgedjffaaDoorKHeadParses6
-- Written by the proof's own program out of the translation; Lean checks it.
namespace Go.Proofs.YtnhpcpmgedjffaaDoor.P
open Go.RowKit Go.Proofs.YtnhpcpmgedjffaaDoorW.PrintWords Go.Proofs.YtnhpcpmgedjffaaDoorW.PrintLast Go.Proofs.YtnhpcpmgedjffaaDoorW.PrintMore Go.Proofs.YtnhpcpmgedjffaaDoorX
attribute [local go_sem] max2_int min2_int max_two min_two max_three min_three max_four min_four   -- for this text's walks alone
set_option linter.unusedVariables false
set_option linter.unusedSimpArgs false

/-! ### ostiaryref13_Parse: function 42 -/
mutual
def ostiaryref13_Parse.j0 : Nat → List ByteArray → Bool → Option (ByteArray × ByteArray × Int × (List (S67)) × Int)
 | 0, _, _ => none
 | k + 1, x4, x26 => if x26 = true then (some ((⟨#[]⟩ : ByteArray), (⟨#[]⟩ : ByteArray), 0, ([] : List (S67)), 400)) else (if 0 < (x4.length : Int) then ((ostiaryref13_split.f k (rdOf ByteArray.empty x4 0) 32).bind fun t238 => (if (t238.length : Int) = 3 then (if 0 < (t238.length : Int) then (if (rdOf ByteArray.empty t238 0).toList = ([] : List UInt8) then (ostiaryref13_Parse.j1 k x4 t238 true) else (if 1 < (t238.length : Int) then (if (rdOf ByteArray.empty t238 1).toList = ([] : List UInt8) then (ostiaryref13_Parse.j1 k x4 t238 true) else (if 2 < (t238.length : Int) then (if (rdOf ByteArray.empty t238 2).toList = ([] : List UInt8) then (ostiaryref13_Parse.j1 k x4 t238 true) else ((ostiaryref13_Word.f k (rdOf ByteArray.empty t238 0) 16).bind fun t245 => (ostiaryref13_Parse.j1 k x4 t238 (!t245)))) else (none))) else (none))) else (none)) else (ostiaryref13_Parse.j1 k x4 t238 true))) else (none))
def ostiaryref13_Parse.j1 : Nat → List ByteArray → List ByteArray → Bool → Option (ByteArray × ByteArray × Int × (List (S67)) × Int)
 | 0, _, _, _ => none
 | k + 1, x4, x6, x59 => if x59 = true then (some ((⟨#[]⟩ : ByteArray), (⟨#[]⟩ : ByteArray), 0, ([] : List (S67)), 400)) else (if 2 < (x6.length : Int) then (if ((rdOf ByteArray.empty x6 2).size : Int) = 8 then (if 0 ≤ 5 then (if 5 ≤ ((rdOf ByteArray.empty x6 2).size : Int) then (if ((rdOf ByteArray.empty x6 2).extract 0 5).toList = ([72, 84, 84, 80, 47] : List UInt8) then (if 5 < ((rdOf ByteArray.empty x6 2).size : Int) then ((ostiaryref13_digit.f (bt (rdOf ByteArray.empty x6 2) 5)).bind fun t247 => (if t247 = true then (if 6 < ((rdOf ByteArray.empty x6 2).size : Int) then (if (bt (rdOf ByteArray.empty x6 2) 6) = 46 then (if 7 < ((rdOf ByteArray.empty x6 2).size : Int) then ((ostiaryref13_digit.f (bt (rdOf ByteArray.empty x6 2) 7)).bind fun t248 => (ostiaryref13_Parse.j2 k x4 x6 (rdOf ByteArray.empty x6 2) (!t248))) else (none)) else (ostiaryref13_Parse.j2 k x4 x6 (rdOf ByteArray.empty x6 2) true)) else (none)) else (ostiaryref13_Parse.j2 k x4 x6 (rdOf ByteArray.empty x6 2) true))) else (none)) else (ostiaryref13_Parse.j2 k x4 x6 (rdOf ByteArray.empty x6 2) true)) else (none)) else (none)) else (ostiaryref13_Parse.j2 k x4 x6 (rdOf ByteArray.empty x6 2) true)) else (none))
def ostiaryref13_Parse.j2 : Nat → List ByteArray → List ByteArray → ByteArray → Bool → Option (ByteArray × ByteArray × Int × (List (S67)) × Int)
 | 0, _, _, _, _ => none
 | k + 1, x4, x6, x7, x88 => if x88 = true then (some ((⟨#[]⟩ : ByteArray), (⟨#[]⟩ : ByteArray), 0, ([] : List (S67)), 400)) else (if x7.toList = ([72, 84, 84, 80, 47, 49, 46, 48] : List UInt8) then (ostiaryref13_Parse.j3 k x4 x6 x7 false) else (ostiaryref13_Parse.j3 k x4 x6 x7 (x7.toList != ([72, 84, 84, 80, 47, 49, 46, 49] : List UInt8))))
def ostiaryref13_Parse.j3 : Nat → List ByteArray → List ByteArray → ByteArray → Bool → Option (ByteArray × ByteArray × Int × (List (S67)) × Int)
 | 0, _, _, _, _ => none
 | k + 1, x4, x6, x7, x95 => if x95 = true then (some ((⟨#[]⟩ : ByteArray), (⟨#[]⟩ : ByteArray), 0, ([] : List (S67)), 505)) else (if 1 < (x6.length : Int) then (if ((rdOf ByteArray.empty x6 1).size : Int) > 2048 then (some ((⟨#[]⟩ : ByteArray), (⟨#[]⟩ : ByteArray), 0, ([] : List (S67)), 414)) else ((ostiaryref13_target.f k (rdOf ByteArray.empty x6 1)).bind fun t251 => (if t251 = true then (if 0 < (x6.length : Int) then (if 7 < (x7.size : Int) then (ostiaryref13_Parse.l0 k x4 1 (rdOf ByteArray.empty x6 0) (rdOf ByteArray.empty x6 1) (wrap64 (((bt x7 7) - 48) % 256)) ([] : List (S67))) else (none)) else (none)) else (some ((⟨#[]⟩ : ByteArray), (⟨#[]⟩ : ByteArray), 0, ([] : List (S67)), 400))))) else (none))
def ostiaryref13_Parse.l0 : Nat → List ByteArray → Int → ByteArray → ByteArray → Int → List (S67) → Option (ByteArray × ByteArray × Int × (List (S67)) × Int)
 | 0, _, _, _, _, _, _ => none
 | k + 1, x4, x9, x255000, x255001, x255002, x255003 => if x9 < (wrap64 ((x4.length : Int) - 1)) then (if x9 > 32 then (some ((⟨#[]⟩ : ByteArray), (⟨#[]⟩ : ByteArray), 0, ([] : List (S67)), 431)) else (ostiaryref13_Parse.l1 k x4 x9 0 x255000 x255001 x255002 x255003)) else ((ostiaryref13_hosts.f k x255000 x255001 x255002 x255003).bind fun t255 => (if t255 = true then (some (x255000, x255001, x255002, x255003, 200)) else (some ((⟨#[]⟩ : ByteArray), (⟨#[]⟩ : ByteArray), 0, ([] : List (S67)), 400))))
def ostiaryref13_Parse.j6 : Nat → List ByteArray → Int → Int → ByteArray → ByteArray → Int → List (S67) → Option (ByteArray × ByteArray × Int × (List (S67)) × Int)
 | 0, _, _, _, _, _, _, _ => none
 | k + 1, x4, x9, x10, x255000, x255001, x255002, x255003 => if 0 ≤ x9 then (if x9 < (x4.length : Int) then (if x10 = ((rdOf ByteArray.empty x4 x9).size : Int) then (some ((⟨#[]⟩ : ByteArray), (⟨#[]⟩ : ByteArray), 0, ([] : List (S67)), 400)) else (if 0 ≤ x10 then (if x10 ≤ ((rdOf ByteArray.empty x4 x9).size : Int) then ((ostiaryref13_Word.f k ((rdOf ByteArray.empty x4 x9).extract 0 (x10 : Int).toNat) 64).bind fun t260 => (if t260 = true then (if 0 ≤ (wrap64 (x10 + 1)) then (if (wrap64 (x10 + 1)) ≤ ((rdOf ByteArray.empty x4 x9).size : Int) then ((ostiaryref13_Trim.f k ((rdOf ByteArray.empty x4 x9).extract ((wrap64 (x10 + 1)) : Int).toNat (rdOf ByteArray.empty x4 x9).size)).bind fun t262 => ((ostiaryref13_Value.f k t262).bind fun t263 => (if t263 = true then ((ostiaryref13_Trim.f k ((rdOf ByteArray.empty x4 x9).extract ((wrap64 (x10 + 1)) : Int).toNat (rdOf ByteArray.empty x4 x9).size)).bind fun t266 => (if x255003.length < 4398046511104 then (ostiaryref13_Parse.l0 k x4 (wrap64 (x9 + 1)) x255000 x255001 x255002 (x255003 ++ [(⟨(rdOf ByteArray.empty x4 x9).extract 0 (x10 : Int).toNat, t266⟩ : S67)])) else (none))) else (some ((⟨#[]⟩ : ByteArray), (⟨#[]⟩ : ByteArray), 0, ([] : List (S67)), 400))))) else (none)) else (none)) else (some ((⟨#[]⟩ : ByteArray), (⟨#[]⟩ : ByteArray), 0, ([] : List (S67)), 400)))) else (none)) else (none))) else (none)) else (none)
def ostiaryref13_Parse.l1 : Nat → List ByteArray → Int → Int → ByteArray → ByteArray → Int → List (S67) → Option (ByteArray × ByteArray × Int × (List (S67)) × Int)
 | 0, _, _, _, _, _, _, _ => none
 | k + 1, x4, x9, x10, x255000, x255001, x255002, x255003 => if 0 ≤ x9 then (if x9 < (x4.length : Int) then (if x10 < ((rdOf ByteArray.empty x4 x9).size : Int) then (if 0 ≤ x10 then (if (bt (rdOf ByteArray.empty x4 x9) x10) = 58 then (ostiaryref13_Parse.j6 k x4 x9 x10 x255000 x255001 x255002 x255003) else (ostiaryref13_Parse.l1 k x4 x9 (wrap64 (x10 + 1)) x255000 x255001 x255002 x255003)) else (none)) else (ostiaryref13_Parse.j6 k x4 x9 x10 x255000 x255001 x255002 x255003)) else (none)) else (none)
end
def ostiaryref13_Parse.f (k : Nat) (l0 : List Int) : Option (ByteArray × ByteArray × Int × (List (S67)) × Int) := if (l0.length : Int) > 4096 then (some ((⟨#[]⟩ : ByteArray), (⟨#[]⟩ : ByteArray), 0, ([] : List (S67)), 431)) else ((ostiaryref13_lines.f k l0).bind fun bt233 => (if bt233.2 = true then (ostiaryref13_Parse.j0 k bt233.1 (decide ((bt233.1.length : Int) < 2))) else (ostiaryref13_Parse.j0 k bt233.1 true)))
theorem ostiaryref13_Parse.mono_l : ∀ k, (∀ y0 y1, LeO (ostiaryref13_Parse.j0 k y0 y1) (ostiaryref13_Parse.j0 (k + 1) y0 y1)) ∧ (∀ y0 y1 y2, LeO (ostiaryref13_Parse.j1 k y0 y1 y2) (ostiaryref13_Parse.j1 (k + 1) y0 y1 y2)) ∧ (∀ y0 y1 y2 y3, LeO (ostiaryref13_Parse.j2 k y0 y1 y2 y3) (ostiaryref13_Parse.j2 (k + 1) y0 y1 y2 y3)) ∧ (∀ y0 y1 y2 y3, LeO (ostiaryref13_Parse.j3 k y0 y1 y2 y3) (ostiaryref13_Parse.j3 (k + 1) y0 y1 y2 y3)) ∧ (∀ y0 y1 y2 y3 y4 y5, LeO (ostiaryref13_Parse.l0 k y0 y1 y2 y3 y4 y5) (ostiaryref13_Parse.l0 (k + 1) y0 y1 y2 y3 y4 y5)) ∧ (∀ y0 y1 y2 y3 y4 y5 y6, LeO (ostiaryref13_Parse.j6 k y0 y1 y2 y3 y4 y5 y6) (ostiaryref13_Parse.j6 (k + 1) y0 y1 y2 y3 y4 y5 y6)) ∧ (∀ y0 y1 y2 y3 y4 y5 y6, LeO (ostiaryref13_Parse.l1 k y0 y1 y2 y3 y4 y5 y6) (ostiaryref13_Parse.l1 (k + 1) y0 y1 y2 y3 y4 y5 y6))
 | 0 => ⟨fun _ _ r h => by simp [ostiaryref13_Parse.j0] at h, fun _ _ _ r h => by simp [ostiaryref13_Parse.j1] at h, fun _ _ _ _ r h => by simp [ostiaryref13_Parse.j2] at h, fun _ _ _ _ r h => by simp [ostiaryref13_Parse.j3] at h, fun _ _ _ _ _ _ r h => by simp [ostiaryref13_Parse.l0] at h, fun _ _ _ _ _ _ _ r h => by simp [ostiaryref13_Parse.j6] at h, fun _ _ _ _ _ _ _ r h => by simp [ostiaryref13_Parse.l1] at h⟩
 | k + 1 => by
  obtain ⟨ih0, ih1, ih2, ih3, ih4, ih5, ih6⟩ := ostiaryref13_Parse.mono_l k
  refine ⟨?_, ?_, ?_, ?_, ?_, ?_, ?_⟩
  ·intro y0 y1
   unfold ostiaryref13_Parse.j0
   repeat' first
   | (with_reducible exact ih0 _ _)
   | (with_reducible exact ih1 _ _ _)
   | (with_reducible exact ih2 _ _ _ _)
   | (with_reducible exact ih3 _ _ _ _)
   | (with_reducible exact ih4 _ _ _ _ _ _)
   | (with_reducible exact ih5 _ _ _ _ _ _ _)
   | (with_reducible exact ih6 _ _ _ _ _ _ _)
   | (with_reducible exact ostiaryref13_Trim.mono _ _)
   | (with_reducible exact ostiaryref13_Value.mono _ _)
   | (with_reducible exact ostiaryref13_Word.mono _ _ _)
   | (with_reducible exact ostiaryref13_hosts.mono _ _ _ _ _)
   | (with_reducible exact ostiaryref13_lines.mono _ _)
   | (with_reducible exact ostiaryref13_split.mono _ _ _)
   | (with_reducible exact ostiaryref13_target.mono _ _)
   | (with_reducible exact LeO.refl _)
   | (with_reducible exact LeO.none _)
   | (with_reducible refine LeO.ite ?_ ?_)
   | (with_reducible refine LeO.bind ?_ (fun _ => ?_))
   | exact ih0 _ _
   | exact ih1 _ _ _
   | exact ih2 _ _ _ _
   | exact ih3 _ _ _ _
   | exact ih4 _ _ _ _ _ _
   | exact ih5 _ _ _ _ _ _ _
   | exact ih6 _ _ _ _ _ _ _
   | exact ostiaryref13_Trim.mono _ _
   | exact ostiaryref13_Value.mono _ _
   | exact ostiaryref13_Word.mono _ _ _
   | exact ostiaryref13_hosts.mono _ _ _ _ _
   | exact ostiaryref13_lines.mono _ _
   | exact ostiaryref13_split.mono _ _ _
   | exact ostiaryref13_target.mono _ _
   | exact LeO.none _
   | refine LeO.ite ?_ ?_
   | refine LeO.bind ?_ (fun _ => ?_)
  ·intro y0 y1 y2
   unfold ostiaryref13_Parse.j1
   repeat' first
   | (with_reducible exact ih0 _ _)
   | (with_reducible exact ih1 _ _ _)
   | (with_reducible exact ih2 _ _ _ _)
   | (with_reducible exact ih3 _ _ _ _)
   | (with_reducible exact ih4 _ _ _ _ _ _)
   | (with_reducible exact ih5 _ _ _ _ _ _ _)
   | (with_reducible exact ih6 _ _ _ _ _ _ _)
   | (with_reducible exact ostiaryref13_Trim.mono _ _)
   | (with_reducible exact ostiaryref13_Value.mono _ _)
   | (with_reducible exact ostiaryref13_Word.mono _ _ _)
   | (with_reducible exact ostiaryref13_hosts.mono _ _ _ _ _)
   | (with_reducible exact ostiaryref13_lines.mono _ _)
   | (with_reducible exact ostiaryref13_split.mono _ _ _)
   | (with_reducible exact ostiaryref13_target.mono _ _)
   | (with_reducible exact LeO.refl _)
   | (with_reducible exact LeO.none _)
   | (with_reducible refine LeO.ite ?_ ?_)
   | (with_reducible refine LeO.bind ?_ (fun _ => ?_))
   | exact ih0 _ _
   | exact ih1 _ _ _
   | exact ih2 _ _ _ _
   | exact ih3 _ _ _ _
   | exact ih4 _ _ _ _ _ _
   | exact ih5 _ _ _ _ _ _ _
   | exact ih6 _ _ _ _ _ _ _
   | exact ostiaryref13_Trim.mono _ _
   | exact ostiaryref13_Value.mono _ _
   | exact ostiaryref13_Word.mono _ _ _
   | exact ostiaryref13_hosts.mono _ _ _ _ _
   | exact ostiaryref13_lines.mono _ _
   | exact ostiaryref13_split.mono _ _ _
   | exact ostiaryref13_target.mono _ _
   | exact LeO.none _
   | refine LeO.ite ?_ ?_
   | refine LeO.bind ?_ (fun _ => ?_)
  ·intro y0 y1 y2 y3
   unfold ostiaryref13_Parse.j2
   repeat' first
   | (with_reducible exact ih0 _ _)
   | (with_reducible exact ih1 _ _ _)
   | (with_reducible exact ih2 _ _ _ _)
   | (with_reducible exact ih3 _ _ _ _)
   | (with_reducible exact ih4 _ _ _ _ _ _)
   | (with_reducible exact ih5 _ _ _ _ _ _ _)
   | (with_reducible exact ih6 _ _ _ _ _ _ _)
   | (with_reducible exact ostiaryref13_Trim.mono _ _)
   | (with_reducible exact ostiaryref13_Value.mono _ _)
   | (with_reducible exact ostiaryref13_Word.mono _ _ _)
   | (with_reducible exact ostiaryref13_hosts.mono _ _ _ _ _)
   | (with_reducible exact ostiaryref13_lines.mono _ _)
   | (with_reducible exact ostiaryref13_split.mono _ _ _)
   | (with_reducible exact ostiaryref13_target.mono _ _)
   | (with_reducible exact LeO.refl _)
   | (with_reducible exact LeO.none _)
   | (with_reducible refine LeO.ite ?_ ?_)
   | (with_reducible refine LeO.bind ?_ (fun _ => ?_))
   | exact ih0 _ _
   | exact ih1 _ _ _
   | exact ih2 _ _ _ _
   | exact ih3 _ _ _ _
   | exact ih4 _ _ _ _ _ _
   | exact ih5 _ _ _ _ _ _ _
   | exact ih6 _ _ _ _ _ _ _
   | exact ostiaryref13_Trim.mono _ _
   | exact ostiaryref13_Value.mono _ _
   | exact ostiaryref13_Word.mono _ _ _
   | exact ostiaryref13_hosts.mono _ _ _ _ _
   | exact ostiaryref13_lines.mono _ _
   | exact ostiaryref13_split.mono _ _ _
   | exact ostiaryref13_target.mono _ _
   | exact LeO.none _
   | refine LeO.ite ?_ ?_
   | refine LeO.bind ?_ (fun _ => ?_)
  ·intro y0 y1 y2 y3
   unfold ostiaryref13_Parse.j3
   repeat' first
   | (with_reducible exact ih0 _ _)
   | (with_reducible exact ih1 _ _ _)
   | (with_reducible exact ih2 _ _ _ _)
   | (with_reducible exact ih3 _ _ _ _)
   | (with_reducible exact ih4 _ _ _ _ _ _)
   | (with_reducible exact ih5 _ _ _ _ _ _ _)
   | (with_reducible exact ih6 _ _ _ _ _ _ _)
   | (with_reducible exact ostiaryref13_Trim.mono _ _)
   | (with_reducible exact ostiaryref13_Value.mono _ _)
   | (with_reducible exact ostiaryref13_Word.mono _ _ _)
   | (with_reducible exact ostiaryref13_hosts.mono _ _ _ _ _)
   | (with_reducible exact ostiaryref13_lines.mono _ _)
   | (with_reducible exact ostiaryref13_split.mono _ _ _)
   | (with_reducible exact ostiaryref13_target.mono _ _)
   | (with_reducible exact LeO.refl _)
   | (with_reducible exact LeO.none _)
   | (with_reducible refine LeO.ite ?_ ?_)
   | (with_reducible refine LeO.bind ?_ (fun _ => ?_))
   | exact ih0 _ _
   | exact ih1 _ _ _
   | exact ih2 _ _ _ _
   | exact ih3 _ _ _ _
   | exact ih4 _ _ _ _ _ _
   | exact ih5 _ _ _ _ _ _ _
   | exact ih6 _ _ _ _ _ _ _
   | exact ostiaryref13_Trim.mono _ _
   | exact ostiaryref13_Value.mono _ _
   | exact ostiaryref13_Word.mono _ _ _
   | exact ostiaryref13_hosts.mono _ _ _ _ _
   | exact ostiaryref13_lines.mono _ _
   | exact ostiaryref13_split.mono _ _ _
   | exact ostiaryref13_target.mono _ _
   | exact LeO.none _
   | refine LeO.ite ?_ ?_
   | refine LeO.bind ?_ (fun _ => ?_)
  ·intro y0 y1 y2 y3 y4 y5
   unfold ostiaryref13_Parse.l0
   repeat' first
   | (with_reducible exact ih0 _ _)
   | (with_reducible exact ih1 _ _ _)
   | (with_reducible exact ih2 _ _ _ _)
   | (with_reducible exact ih3 _ _ _ _)
   | (with_reducible exact ih4 _ _ _ _ _ _)
   | (with_reducible exact ih5 _ _ _ _ _ _ _)
   | (with_reducible exact ih6 _ _ _ _ _ _ _)
   | (with_reducible exact ostiaryref13_Trim.mono _ _)
   | (with_reducible exact ostiaryref13_Value.mono _ _)
   | (with_reducible exact ostiaryref13_Word.mono _ _ _)
   | (with_reducible exact ostiaryref13_hosts.mono _ _ _ _ _)
   | (with_reducible exact ostiaryref13_lines.mono _ _)
   | (with_reducible exact ostiaryref13_split.mono _ _ _)
   | (with_reducible exact ostiaryref13_target.mono _ _)
   | (with_reducible exact LeO.refl _)
   | (with_reducible exact LeO.none _)
   | (with_reducible refine LeO.ite ?_ ?_)
   | (with_reducible refine LeO.bind ?_ (fun _ => ?_))
   | exact ih0 _ _
   | exact ih1 _ _ _
   | exact ih2 _ _ _ _
   | exact ih3 _ _ _ _
   | exact ih4 _ _ _ _ _ _
   | exact ih5 _ _ _ _ _ _ _
   | exact ih6 _ _ _ _ _ _ _
   | exact ostiaryref13_Trim.mono _ _
   | exact ostiaryref13_Value.mono _ _
   | exact ostiaryref13_Word.mono _ _ _
   | exact ostiaryref13_hosts.mono _ _ _ _ _
   | exact ostiaryref13_lines.mono _ _
   | exact ostiaryref13_split.mono _ _ _
   | exact ostiaryref13_target.mono _ _
   | exact LeO.none _
   | refine LeO.ite ?_ ?_
   | refine LeO.bind ?_ (fun _ => ?_)
  ·intro y0 y1 y2 y3 y4 y5 y6
   unfold ostiaryref13_Parse.j6
   repeat' first
   | (with_reducible exact ih0 _ _)
   | (with_reducible exact ih1 _ _ _)
   | (with_reducible exact ih2 _ _ _ _)
   | (with_reducible exact ih3 _ _ _ _)
   | (with_reducible exact ih4 _ _ _ _ _ _)
   | (with_reducible exact ih5 _ _ _ _ _ _ _)
   | (with_reducible exact ih6 _ _ _ _ _ _ _)
   | (with_reducible exact ostiaryref13_Trim.mono _ _)
   | (with_reducible exact ostiaryref13_Value.mono _ _)
   | (with_reducible exact ostiaryref13_Word.mono _ _ _)
   | (with_reducible exact ostiaryref13_hosts.mono _ _ _ _ _)
   | (with_reducible exact ostiaryref13_lines.mono _ _)
   | (with_reducible exact ostiaryref13_split.mono _ _ _)
   | (with_reducible exact ostiaryref13_target.mono _ _)
   | (with_reducible exact LeO.refl _)
   | (with_reducible exact LeO.none _)
   | (with_reducible refine LeO.ite ?_ ?_)
   | (with_reducible refine LeO.bind ?_ (fun _ => ?_))
   | exact ih0 _ _
   | exact ih1 _ _ _
   | exact ih2 _ _ _ _
   | exact ih3 _ _ _ _
   | exact ih4 _ _ _ _ _ _
   | exact ih5 _ _ _ _ _ _ _
   | exact ih6 _ _ _ _ _ _ _
   | exact ostiaryref13_Trim.mono _ _
   | exact ostiaryref13_Value.mono _ _
   | exact ostiaryref13_Word.mono _ _ _
   | exact ostiaryref13_hosts.mono _ _ _ _ _
   | exact ostiaryref13_lines.mono _ _
   | exact ostiaryref13_split.mono _ _ _
   | exact ostiaryref13_target.mono _ _
   | exact LeO.none _
   | refine LeO.ite ?_ ?_
   | refine LeO.bind ?_ (fun _ => ?_)
  ·intro y0 y1 y2 y3 y4 y5 y6
   unfold ostiaryref13_Parse.l1
   repeat' first
   | (with_reducible exact ih0 _ _)
   | (with_reducible exact ih1 _ _ _)
   | (with_reducible exact ih2 _ _ _ _)
   | (with_reducible exact ih3 _ _ _ _)
   | (with_reducible exact ih4 _ _ _ _ _ _)
   | (with_reducible exact ih5 _ _ _ _ _ _ _)
   | (with_reducible exact ih6 _ _ _ _ _ _ _)
   | (with_reducible exact ostiaryref13_Trim.mono _ _)
   | (with_reducible exact ostiaryref13_Value.mono _ _)
   | (with_reducible exact ostiaryref13_Word.mono _ _ _)
   | (with_reducible exact ostiaryref13_hosts.mono _ _ _ _ _)
   | (with_reducible exact ostiaryref13_lines.mono _ _)
   | (with_reducible exact ostiaryref13_split.mono _ _ _)
   | (with_reducible exact ostiaryref13_target.mono _ _)
   | (with_reducible exact LeO.refl _)
   | (with_reducible exact LeO.none _)
   | (with_reducible refine LeO.ite ?_ ?_)
   | (with_reducible refine LeO.bind ?_ (fun _ => ?_))
   | exact ih0 _ _
   | exact ih1 _ _ _
   | exact ih2 _ _ _ _
   | exact ih3 _ _ _ _
   | exact ih4 _ _ _ _ _ _
   | exact ih5 _ _ _ _ _ _ _
   | exact ih6 _ _ _ _ _ _ _
   | exact ostiaryref13_Trim.mono _ _
   | exact ostiaryref13_Value.mono _ _
   | exact ostiaryref13_Word.mono _ _ _
   | exact ostiaryref13_hosts.mono _ _ _ _ _
   | exact ostiaryref13_lines.mono _ _
   | exact ostiaryref13_split.mono _ _ _
   | exact ostiaryref13_target.mono _ _
   | exact LeO.none _
   | refine LeO.ite ?_ ?_
   | refine LeO.bind ?_ (fun _ => ?_)
theorem ostiaryref13_Parse.mono : ∀ a0 k, LeO (ostiaryref13_Parse.f k a0) (ostiaryref13_Parse.f (k + 1) a0) := by
 intro a0 k
 obtain ⟨ih0, ih1, ih2, ih3, ih4, ih5, ih6⟩ := ostiaryref13_Parse.mono_l k
 unfold ostiaryref13_Parse.f
 repeat' first
   | (with_reducible exact ih0 _ _)
   | (with_reducible exact ih1 _ _ _)
   | (with_reducible exact ih2 _ _ _ _)
   | (with_reducible exact ih3 _ _ _ _)
   | (with_reducible exact ih4 _ _ _ _ _ _)
   | (with_reducible exact ih5 _ _ _ _ _ _ _)
   | (with_reducible exact ih6 _ _ _ _ _ _ _)
   | (with_reducible exact ostiaryref13_Trim.mono _ _)
   | (with_reducible exact ostiaryref13_Value.mono _ _)
   | (with_reducible exact ostiaryref13_Word.mono _ _ _)
   | (with_reducible exact ostiaryref13_hosts.mono _ _ _ _ _)
   | (with_reducible exact ostiaryref13_lines.mono _ _)
   | (with_reducible exact ostiaryref13_split.mono _ _ _)
   | (with_reducible exact ostiaryref13_target.mono _ _)
   | (with_reducible exact LeO.refl _)
   | (with_reducible exact LeO.none _)
   | (with_reducible refine LeO.ite ?_ ?_)
   | (with_reducible refine LeO.bind ?_ (fun _ => ?_))
   | exact ih0 _ _
   | exact ih1 _ _ _
   | exact ih2 _ _ _ _
   | exact ih3 _ _ _ _
   | exact ih4 _ _ _ _ _ _
   | exact ih5 _ _ _ _ _ _ _
   | exact ih6 _ _ _ _ _ _ _
   | exact ostiaryref13_Trim.mono _ _
   | exact ostiaryref13_Value.mono _ _
   | exact ostiaryref13_Word.mono _ _ _
   | exact ostiaryref13_hosts.mono _ _ _ _ _
   | exact ostiaryref13_lines.mono _ _
   | exact ostiaryref13_split.mono _ _ _
   | exact ostiaryref13_target.mono _ _
   | exact LeO.none _
   | refine LeO.ite ?_ ?_
   | refine LeO.bind ?_ (fun _ => ?_)
def ostiaryref13_Parse.T18 : Bool × List (List Nat × List Nat) := (true, [([], []), ([0], [0]), ([1], [1]), ([], []), ([3], [3]), ([4], [4]), ([], []), ([6], [6]), ([7], [7]), ([8], [8]), ([2, 5, 9], [2, 5, 9]), ([], []), ([11, 10, 0, 1, 2, 3, 4, 5, 6, 7, 8, 9, 10, 11], [10, 11])])
def ostiaryref13_Parse.B18 : List Nat := [0, 1, 3, 0, 8, 24, 0, 64, 192, 448, 1023, 0, 4095]
theorem ostiaryref13_Parse.tab18 : rtab .any (opsOf Tryd.f42 18) = ostiaryref13_Parse.T18 := by kernel_rfl
theorem ostiaryref13_Parse.bits18 : waitsOk ostiaryref13_Parse.T18.2 ostiaryref13_Parse.B18 = true := by kernel_rfl
def ostiaryref13_Parse.T29 : Bool × List (List Nat × List Nat) := (true, [([], []), ([0], [0]), ([], []), ([], []), ([2, 3], [2, 3]), ([4], [4]), ([], []), ([5, 6], [5, 6]), ([], []), ([], []), ([8, 9], [8, 9]), ([10], [10]), ([], []), ([12], [12]), ([11, 13], [11, 13]), ([14], [14]), ([7, 15], [7, 15]), ([16], [16]), ([1, 17, 15], [1, 17]), ([0, 1, 2, 3, 4, 5, 6, 7, 8, 9, 10, 11, 12, 13, 14, 15, 16, 17, 18], []), ([19, 18, 18, 0, 1, 2, 3, 4, 5, 6, 7, 8, 9, 10, 11, 12, 13, 14, 15, 16, 17, 18], [18, 19])])
def ostiaryref13_Parse.B29 : List Nat := [0, 1, 0, 0, 12, 28, 0, 124, 0, 0, 768, 1792, 0, 4096, 16128, 32512, 65532, 131068, 262143, 524287, 1048575]
theorem ostiaryref13_Parse.tab29 : rtab .any (opsOf Tryd.f42 29) = ostiaryref13_Parse.T29 := by kernel_rfl
theorem ostiaryref13_Parse.bits29 : waitsOk ostiaryref13_Parse.T29.2 ostiaryref13_Parse.B29 = true := by kernel_rfl
set_option maxHeartbeats 8000000 in
set_option maxRecDepth 100000 in
theorem ostiaryref13_Parse.calls (k : Nat) (A0 : Option Addr) (c0 : Nat) (l0 : List Int) (r1 : ByteArray) (r2 : ByteArray) (r3 : Int) (r4 : List (S67)) (r5 : Int) (w : World) (hr0 : Kd.C (Kd.int .u8) w A0 l0.length l0) (hc0 : l0.length ≤ c0) (h : ostiaryref13_Parse.f k l0 = some (r1, r2, r3, r4, r5)) :
  Calls Tryd.prog 42 #[.slice A0 l0.length c0] w fun e w' => ∃ v3_ : Value, e = .returned (.tuple #[.agg #[.string r1, .string r2, .int .i64 r3, v3_], .int .i64 r5]) ∧ Kd.R k67 67 w' w.heap.size (fun _ => True) v3_ r4 ∧ Below w.heap.size w w' := by
 have hu24 := Tryd.underlying24
 have hu67 := Tryd.underlying67
 have HR0 := Aside0.mk hr0
 have HC0 := Aside0.mk hc0
 clear hr0 hc0
 have HB := Aside0.mk (Below.refl w.heap.size w)
 have H : (if (l0.length : Int) > 4096 then (some ((⟨#[]⟩ : ByteArray), (⟨#[]⟩ : ByteArray), 0, ([] : List (S67)), 431)) else ((ostiaryref13_lines.f k l0).bind fun bt233 => (if bt233.2 = true then (ostiaryref13_Parse.j0 k bt233.1 (decide ((bt233.1.length : Int) < 2))) else (ostiaryref13_Parse.j0 k bt233.1 true)))) = some (r1, r2, r3, r4, r5) := h
 clear h
 by_cases c2 : (l0.length : Int) > 4096
 ·rw [if_pos c2] at H
  have c2b0 : decide (4096 < (l0.length : Int)) = true := decide_eq_true c2
  have c2b1 : decide (4096 < l0.length) = true := decide_eq_true (by omega)
  clear c2
  simp only [Option.some.injEq, Prod.mk.injEq] at H
  obtain ⟨rfl, rfl, rfl, rfl, rfl⟩ := H
  go_enter Tryd.func42, Tryd.ntmps42
  go_wp2_with (first | ((with_reducible refine gate_dst (N := 2) rfl ?_); (try (refine gate_guard (by rfl) ?_; dsimp only)); refine box_event ?hg (N := 2) ?hd (cs := #[.string (⟨#[]⟩ : ByteArray), .string (⟨#[]⟩ : ByteArray), .int .i64 0, .slice none 0 0]) (t := 24) ?hr ?_; (case hd => rfl); (case hg => rfl); (case hr => first | (go_simp; done) | (go_simp; rfl)); intro gb232 hg w3 hbox hb; have n0_ := Aside0.mk (below_step (by repeat (first | (with_reducible first | exact HB.out | apply below_alloc | apply pw_below_drewN | apply below_drew1) | exact HB.out)) hb); have n1_ := Aside0.mk (hbox); have n2_ := Aside0.mk ((by rw [hg]; exact (below_size (by repeat (first | (with_reducible first | exact HB.out | apply below_alloc | apply pw_below_drewN | apply below_drew1) | exact HB.out))) : w.heap.size ≤ gb232)); have n3_ := Aside0.mk ((by rw [hg]; exact (below_size (by repeat (first | (with_reducible first | exact HB.out | apply below_alloc | apply pw_below_drewN | apply below_drew1) | exact HB.out))) : w.heap.size ≤ gb232)); clear HB; have HB := n0_; have BK232 := n1_; have GW232 := n2_; have GE232 := n3_; clear n0_ n1_ n2_ n3_; clear hb hbox hg; have hcz4_0 : w3.cell? ⟨gb232, 0, none⟩ = some (.string (⟨#[]⟩ : ByteArray)) := (blk_cell BK232.out 0).trans rfl; have hcz4_1 : w3.cell? ⟨gb232, 1, none⟩ = some (.string (⟨#[]⟩ : ByteArray)) := (blk_cell BK232.out 1).trans rfl; have hcz4_2 : w3.cell? ⟨gb232, 2, none⟩ = some (.int .i64 0) := (blk_cell BK232.out 2).trans rfl; have hcz4_3 : w3.cell? ⟨gb232, 3, none⟩ = some (.slice none 0 0) := (blk_cell BK232.out 3).trans rfl; have hfz4_0 := blk_frozen BK232.out 0; have hfz4_1 := blk_frozen BK232.out 1; have hfz4_2 := blk_frozen BK232.out 2; have hfz4_3 := blk_frozen BK232.out 3))
  refine bodyPost_ret (results_ct rfl _ _ gb232 24 #[.string (⟨#[]⟩ : ByteArray), .string (⟨#[]⟩ : ByteArray), .int .i64 0, .slice none 0 0] (0, 0) _ rfl (by (with_reducible repeat (first | refine blk_drewN ?_ _ | refine blk_drew ?_ | refine blk_alloc ?_ _)); refine blk_put (cs := #[.string (⟨#[]⟩ : ByteArray), .string (⟨#[]⟩ : ByteArray), .int .i64 0, .slice none 0 0]) ?_ 3 _ rfl; (with_reducible repeat (first | refine blk_drewN ?_ _ | refine blk_drew ?_ | refine blk_alloc ?_ _)); refine blk_put (cs := #[.string (⟨#[]⟩ : ByteArray), .string (⟨#[]⟩ : ByteArray), .int .i64 0, .slice none 0 0]) ?_ 2 _ rfl; (with_reducible repeat (first | refine blk_drewN ?_ _ | refine blk_drew ?_ | refine blk_alloc ?_ _)); refine blk_put (cs := #[.string (⟨#[]⟩ : ByteArray), .string (⟨#[]⟩ : ByteArray), .int .i64 0, .slice none 0 0]) ?_ 1 _ rfl; (with_reducible repeat (first | refine blk_drewN ?_ _ | refine blk_drew ?_ | refine blk_alloc ?_ _)); refine blk_put (cs := #[.string (⟨#[]⟩ : ByteArray), .string (⟨#[]⟩ : ByteArray), .int .i64 0, .slice none 0 0]) ?_ 0 _ rfl; (with_reducible repeat (first | refine blk_drewN ?_ _ | refine blk_drew ?_ | refine blk_alloc ?_ _)); exact BK232.out) Tryd.underlying24 rfl (by kernel_rfl)) rfl ?_
  exact ⟨_, by first | rfl | (simp [errW_none, errW_some] <;> rfl) | (simp [*, errW_none, errW_some] <;> rfl), by first | exact Kd.R_nil _ _ _ _ _ | exact Kd.N_nil _ _ _ _ _ | exact Kd.V_nil _ _ _ _ _ | exact Kd.Q_nil _ _ _ _ _ | exact Kd.S_nil _ _ _ _ _, by repeat (first | (with_reducible first | exact HB.out | apply below_alloc | apply pw_below_drewN | apply below_drew1 | refine below_set ?_ GE232.out) | exact HB.out)⟩
 ·rw [if_neg c2] at H
  have c2b0 : decide (4096 < (l0.length : Int)) = false := decide_eq_false c2
  have c2b1 : decide (4096 < l0.length) = false := decide_eq_false (by omega)
  clear c2
  replace H := Option.bind_eq_some_iff.mp H
  obtain ⟨⟨t233, t234⟩, A50, H⟩ := H
  replace H : (if t234 = true then (ostiaryref13_Parse.j0 k t233 (decide ((t233.length : Int) < 2))) else (ostiaryref13_Parse.j0 k t233 true)) = some (r1, r2, r3, r4, r5) := H
  have A5 := Aside0.mk A50
  clear A50
  have HC6 := Aside0.mk H
  clear H
  go_enter Tryd.func42, Tryd.ntmps42
  go_upto_region 4 with (first | ((with_reducible refine gate_dst (N := 2) rfl ?_); (try (refine gate_guard (by rfl) ?_; dsimp only)); refine box_event ?hg (N := 2) ?hd (cs := #[.string (⟨#[]⟩ : ByteArray), .string (⟨#[]⟩ : ByteArray), .int .i64 0, .slice none 0 0]) (t := 24) ?hr ?_; (case hd => rfl); (case hg => rfl); (case hr => first | (go_simp; done) | (go_simp; rfl)); intro gb232 hg w7 hbox hb; have n0_ := Aside0.mk (below_step (by repeat (first | (with_reducible first | exact HB.out | apply below_alloc | apply pw_below_drewN | apply below_drew1) | exact HB.out)) hb); have n1_ := Aside0.mk (hbox); have n2_ := Aside0.mk ((by rw [hg]; exact (below_size (by repeat (first | (with_reducible first | exact HB.out | apply below_alloc | apply pw_below_drewN | apply below_drew1) | exact HB.out))) : w.heap.size ≤ gb232)); have n3_ := Aside0.mk ((by rw [hg]; exact (below_size (by repeat (first | (with_reducible first | exact HB.out | apply below_alloc | apply pw_below_drewN | apply below_drew1) | exact HB.out))) : w.heap.size ≤ gb232)); clear HB; have HB := n0_; have BK232 := n1_; have GW232 := n2_; have GE232 := n3_; clear n0_ n1_ n2_ n3_; clear hb hbox hg) | ((with_reducible refine gate_callee (f := 81) rfl ?_); refine goesL_ (some 17) rfl rfl Tryd.func81 (by kernel_rfl) rfl #[.slice A0 l0.length c0] rfl (by (try simp only [List.map_toArray, List.map_cons, List.map_nil]); first | done | rfl | (simp only [List.length_drop, List.length_take]; rfl)) ?_; (with_reducible refine (ostiaryref13_lines.calls k _ _ l0 t233 t234 _ ?side1 ?side2 A5.out).mono ?_); (case side1 => repeat (first | exact (Kd.C_below HR0.out HB.out) | (with_reducible refine Kd.C_alloc ?_ _) | (with_reducible refine Kd.C_drewN ?_ _) | (with_reducible refine Kd.C_drew ?_))); (case side2 => exact HC0.out); rintro e w8 ⟨v235, rfl, ho0, hb⟩; refine ⟨_, rfl, ?_⟩; have n0_ := Aside0.mk (Kd.R_lower ho0 (below_size (by repeat (first | (with_reducible first | exact HB.out | apply below_alloc | apply pw_below_drewN | apply below_drew1 | refine below_set ?_ GE232.out) | exact HB.out)))); have n1_ := Aside0.mk (blk_below (g := gb232) (o := .cells #[.string (⟨#[]⟩ : ByteArray), .string (⟨#[]⟩ : ByteArray), .int .i64 0, .slice none 0 0] 24 (0, 0)) (by (with_reducible repeat (first | refine blk_drewN ?_ _ | refine blk_drew ?_ | refine blk_alloc ?_ _)); exact BK232.out) hb); have n2_ := Aside0.mk (below_step (by repeat (first | (with_reducible first | exact HB.out | apply below_alloc | apply pw_below_drewN | apply below_drew1 | refine below_set ?_ GE232.out) | exact HB.out)) hb); clear BK232; clear HB; have HO236 := n0_; have BK232 := n1_; have HB := n2_; clear n0_ n1_ n2_; (try clear hb); (try clear hb2); (try clear hk); (try clear hi); (try clear ho0)))
  (try simp only [Act.put, List.setIfInBounds_toArray, List.set_cons_zero, List.set_cons_succ])
  go_cut [26] (fun v26 wc => ∃ (kq : Nat) (x26_5 : Bool), v26 = .bool x26_5 ∧ Aside0 (ostiaryref13_Parse.j0 kq t233 x26_5 = some (r1, r2, r3, r4, r5)) ∧ Aside0 (kq ≤ k) ∧ Aside0 (Kd.R Kd.string 9 wc w.heap.size (fun _ => True) v235 t233) ∧ Aside0 (wc.heap[gb232]? = some (.cells #[.string (⟨#[]⟩ : ByteArray), .string (⟨#[]⟩ : ByteArray), .int .i64 0, (.slice none 0 0)] 24 (0, 0))) ∧ Aside0 (Below w.heap.size w wc))
  case first => as_aux_lemma =>
   have H := HC6.out
   clear HC6
   by_cases c9 : t234 = true
   ·subst c9
    have H1 : (ostiaryref13_Parse.j0 k t233 (decide ((t233.length : Int) < 2))) = some (r1, r2, r3, r4, r5) := by rw [if_pos rfl] at H; exact H
    clear H
    have H := H1
    clear H1
    have H' := Aside0.mk H
    clear H
    obtain ⟨Ao10, co10, eo10⟩ := Kd.R_slice HO236.out
    subst eo10
    go_wp2
    go_meet
    case rel => exact ⟨_, (decide ((t233.length : Int) < 2)), (by first | rfl | (simp; done) | (simp [*]; done)), H', ⟨by first | omega | exact Nat.le_refl _⟩, ⟨by (with_reducible repeat (first | apply Kd.R_alloc | apply Kd.R_drewN | apply Kd.R_drew)); exact HO236.out⟩, ⟨by (with_reducible repeat (first | refine blk_drewN ?_ _ | refine blk_drew ?_ | refine blk_alloc ?_ _)); exact BK232.out⟩, ⟨by repeat (first | (with_reducible first | exact HB.out | apply below_alloc | apply pw_below_drewN | apply below_drew1 | refine below_set ?_ GE232.out) | exact HB.out)⟩⟩
   ·replace c9 := Bool.eq_false_iff.mpr c9
    subst c9
    have H1 : (ostiaryref13_Parse.j0 k t233 true) = some (r1, r2, r3, r4, r5) := by rw [if_neg (show ¬ (false = true) by decide)] at H; exact H
    clear H
    have H := H1
    clear H1
    have H' := Aside0.mk H
    clear H
    go_wp2
    go_meet
    case rel => exact ⟨_, (true), (by first | rfl | (simp; done) | (simp [*]; done)), H', ⟨by first | omega | exact Nat.le_refl _⟩, ⟨by (with_reducible repeat (first | apply Kd.R_alloc | apply Kd.R_drewN | apply Kd.R_drew)); exact HO236.out⟩, ⟨by (with_reducible repeat (first | refine blk_drewN ?_ _ | refine blk_drew ?_ | refine blk_alloc ?_ _)); exact BK232.out⟩, ⟨by repeat (first | (with_reducible first | exact HB.out | apply below_alloc | apply pw_below_drewN | apply below_drew1 | refine below_set ?_ GE232.out) | exact HB.out)⟩⟩
  case rest => as_aux_lemma =>
   clear HC6
   try clear c2
   try clear c2b0
   try clear c2b1
   try clear p2
   try clear c4
   try clear c8
   try clear c9
   try clear hcz4_0
   try clear hcz4_1
   try clear hcz4_2
   try clear hcz4_3
   try clear hfz4_0
   try clear hfz4_1
   try clear hfz4_2
   try clear hfz4_3
   obtain ⟨kq, x26_5, rfl, HA, HJ5, HO_4, BK232, HB⟩ := hcut
   cases kq with
   | zero => exact absurd HA.out (by simp [ostiaryref13_Parse.j0])
   | succ kj5 =>
    have H := HA.out
    clear HA
    simp only [ostiaryref13_Parse.j0] at H
    by_cases c11 : x26_5 = true
    ·subst c11
     have H1 : (some ((⟨#[]⟩ : ByteArray), (⟨#[]⟩ : ByteArray), 0, ([] : List (S67)), 400)) = some (r1, r2, r3, r4, r5) := by rw [if_pos rfl] at H; exact H
     clear H
     have H := H1
     clear H1
     simp only [Option.some.injEq, Prod.mk.injEq] at H
     obtain ⟨rfl, rfl, rfl, rfl, rfl⟩ := H
     have hcz12_0 : wc.cell? ⟨gb232, 0, none⟩ = some (.string (⟨#[]⟩ : ByteArray)) := (blk_cell BK232.out 0).trans rfl
     have hcz12_1 : wc.cell? ⟨gb232, 1, none⟩ = some (.string (⟨#[]⟩ : ByteArray)) := (blk_cell BK232.out 1).trans rfl
     have hcz12_2 : wc.cell? ⟨gb232, 2, none⟩ = some (.int .i64 0) := (blk_cell BK232.out 2).trans rfl
     have hcz12_3 : wc.cell? ⟨gb232, 3, none⟩ = some (.slice none 0 0) := (blk_cell BK232.out 3).trans rfl
     have hfz12_0 := blk_frozen BK232.out 0
     have hfz12_1 := blk_frozen BK232.out 1
     have hfz12_2 := blk_frozen BK232.out 2
     have hfz12_3 := blk_frozen BK232.out 3
     go_wp2
     refine bodyPost_ret (results_ct rfl _ _ gb232 24 #[.string (⟨#[]⟩ : ByteArray), .string (⟨#[]⟩ : ByteArray), .int .i64 0, .slice none 0 0] (0, 0) _ rfl (by (with_reducible repeat (first | refine blk_drewN ?_ _ | refine blk_drew ?_ | refine blk_alloc ?_ _)); refine blk_put (cs := #[.string (⟨#[]⟩ : ByteArray), .string (⟨#[]⟩ : ByteArray), .int .i64 0, .slice none 0 0]) ?_ 3 _ rfl; (with_reducible repeat (first | refine blk_drewN ?_ _ | refine blk_drew ?_ | refine blk_alloc ?_ _)); refine blk_put (cs := #[.string (⟨#[]⟩ : ByteArray), .string (⟨#[]⟩ : ByteArray), .int .i64 0, .slice none 0 0]) ?_ 2 _ rfl; (with_reducible repeat (first | refine blk_drewN ?_ _ | refine blk_drew ?_ | refine blk_alloc ?_ _)); refine blk_put (cs := #[.string (⟨#[]⟩ : ByteArray), .string (⟨#[]⟩ : ByteArray), .int .i64 0, .slice none 0 0]) ?_ 1 _ rfl; (with_reducible repeat (first | refine blk_drewN ?_ _ | refine blk_drew ?_ | refine blk_alloc ?_ _)); refine blk_put (cs := #[.string (⟨#[]⟩ : ByteArray), .string (⟨#[]⟩ : ByteArray), .int .i64 0, .slice none 0 0]) ?_ 0 _ rfl; (with_reducible repeat (first | refine blk_drewN ?_ _ | refine blk_drew ?_ | refine blk_alloc ?_ _)); exact BK232.out) Tryd.underlying24 rfl (by kernel_rfl)) rfl ?_
     exact ⟨_, by first | rfl | (simp [errW_none, errW_some] <;> rfl) | (simp [*, errW_none, errW_some] <;> rfl), by first | exact Kd.R_nil _ _ _ _ _ | exact Kd.N_nil _ _ _ _ _ | exact Kd.V_nil _ _ _ _ _ | exact Kd.Q_nil _ _ _ _ _ | exact Kd.S_nil _ _ _ _ _, by repeat (first | (with_reducible first | exact HB.out | apply below_alloc | apply pw_below_drewN | apply below_drew1 | refine below_set ?_ GE232.out) | exact HB.out)⟩
    ·replace c11 := Bool.eq_false_iff.mpr c11
     subst c11
     have H1 : (if 0 < (t233.length : Int) then ((ostiaryref13_split.f kj5 (rdOf ByteArray.empty t233 0) 32).bind fun t238 => (if (t238.length : Int) = 3 then (if 0 < (t238.length : Int) then (if (rdOf ByteArray.empty t238 0).toList = ([] : List UInt8) then (ostiaryref13_Parse.j1 kj5 t233 t238 true) else (if 1 < (t238.length : Int) then (if (rdOf ByteArray.empty t238 1).toList = ([] : List UInt8) then (ostiaryref13_Parse.j1 kj5 t233 t238 true) else (if 2 < (t238.length : Int) then (if (rdOf ByteArray.empty t238 2).toList = ([] : List UInt8) then (ostiaryref13_Parse.j1 kj5 t233 t238 true) else ((ostiaryref13_Word.f kj5 (rdOf ByteArray.empty t238 0) 16).bind fun t245 => (ostiaryref13_Parse.j1 kj5 t233 t238 (!t245)))) else (none))) else (none))) else (none)) else (ostiaryref13_Parse.j1 kj5 t233 t238 true))) else (none)) = some (r1, r2, r3, r4, r5) := by rw [if_neg (show ¬ (false = true) by decide)] at H; exact H
     clear H
     have H := H1
     clear H1
     by_cases c13 : 0 < (t233.length : Int)
     ·rw [if_pos c13] at H
      have c13b0 : decide (0 < (t233.length : Int)) = true := decide_eq_true c13
      have c13b1 : decide (0 < t233.length) = true := decide_eq_true (by omega)
      clear c13
      replace H := Option.bind_eq_some_iff.mp H
      obtain ⟨t238, A140, H⟩ := H
      replace H : (if (t238.length : Int) = 3 then (if 0 < (t238.length : Int) then (if (rdOf ByteArray.empty t238 0).toList = ([] : List UInt8) then (ostiaryref13_Parse.j1 kj5 t233 t238 true) else (if 1 < (t238.length : Int) then (if (rdOf ByteArray.empty t238 1).toList = ([] : List UInt8) then (ostiaryref13_Parse.j1 kj5 t233 t238 true) else (if 2 < (t238.length : Int) then (if (rdOf ByteArray.empty t238 2).toList = ([] : List UInt8) then (ostiaryref13_Parse.j1 kj5 t233 t238 true) else ((ostiaryref13_Word.f kj5 (rdOf ByteArray.empty t238 0) 16).bind fun t245 => (ostiaryref13_Parse.j1 kj5 t233 t238 (!t245)))) else (none))) else (none))) else (none)) else (ostiaryref13_Parse.j1 kj5 t233 t238 true)) = some (r1, r2, r3, r4, r5) := H
      have A14 := Aside0.mk A140
      clear A140
      have HC15 := Aside0.mk H
      clear H
      obtain ⟨Ao16, co16, eo16⟩ := Kd.R_slice HO_4.out
      subst eo16
      have p237 : 0 ≤ (0 : Int) := (by omega)
      have q237 : 0 < (t233.length : Int) := of_decide_eq_true (by first | (with_reducible assumption) | assumption)
      obtain ⟨ad237, e237, hx237_0⟩ := Kd.at_string (Kd.R_reads' HO_4.out).2.2 0 p237 q237
      cases e237
      have qi237 : (0 < t233.length) = True := eq_true (by omega)
      (try rw [show ((0 : Int)).toNat = 0 from rfl] at hx237_0)
      (try rw [Addr.add_zero'] at hx237_0)
      replace p237 := eq_true p237
      replace q237 := eq_true q237
      go_upto_region 7 with (first | ((with_reducible refine gate_callee (f := 82) rfl ?_); refine goesL_ (some 31) rfl rfl Tryd.func82 (by kernel_rfl) rfl #[.string (rdOf ByteArray.empty t233 0), .int .u8 32] rfl (by (try simp only [List.map_toArray, List.map_cons, List.map_nil]); first | done | rfl | (simp only [List.length_drop, List.length_take]; rfl)) ?_; (with_reducible refine (ostiaryref13_split.calls kj5 (rdOf ByteArray.empty t233 0) 32 t238 _ A14.out).mono ?_); rintro e w17 ⟨v239, rfl, ho0, hb⟩; refine ⟨_, rfl, ?_⟩; have n0_ := Aside0.mk (Kd.R_elder' (by (with_reducible repeat (first | apply Kd.R_alloc | apply Kd.R_drewN | apply Kd.R_drew)); exact HO_4.out) (Kd.R_base ho0) hb); have n1_ := Aside0.mk (Kd.R_lower (Kd.R_new' ho0 (Kd.R_lt (by (with_reducible repeat (first | apply Kd.R_alloc | apply Kd.R_drewN | apply Kd.R_drew)); exact HO_4.out))) (below_size (by repeat (first | (with_reducible first | exact HB.out | apply below_alloc | apply pw_below_drewN | apply below_drew1 | refine below_set ?_ GE232.out) | exact HB.out)))); have n2_ := Aside0.mk (blk_below (g := gb232) (o := .cells #[.string (⟨#[]⟩ : ByteArray), .string (⟨#[]⟩ : ByteArray), .int .i64 0, .slice none 0 0] 24 (0, 0)) (by (with_reducible repeat (first | refine blk_drewN ?_ _ | refine blk_drew ?_ | refine blk_alloc ?_ _)); exact BK232.out) hb); have n3_ := Aside0.mk (below_step (by repeat (first | (with_reducible first | exact HB.out | apply below_alloc | apply pw_below_drewN | apply below_drew1 | refine below_set ?_ GE232.out) | exact HB.out)) hb); clear HO_4; clear BK232; clear HB; have HO_4 := n0_; have HO240 := n1_; have BK232 := n2_; have HB := n3_; clear n0_ n1_ n2_ n3_; (try clear hb); (try clear hb2); (try clear hk); (try clear hi); (try clear ho0)))
      (try simp only [Act.put, List.setIfInBounds_toArray, List.set_cons_zero, List.set_cons_succ])
      go_cut [59] (fun v59 wc => ∃ (kq : Nat) (x59_14 : Bool), v59 = .bool x59_14 ∧ Aside0 (ostiaryref13_Parse.j1 kq t233 t238 x59_14 = some (r1, r2, r3, r4, r5)) ∧ Aside0 (kq ≤ kj5) ∧ Aside0 (Kd.R Kd.string 9 wc w.heap.size (fun k_ => some k_ ≠ (v239 : Value).ownBlock) (.slice (some ad237) t233.length co16) t233) ∧ Aside0 (Kd.R Kd.string 9 wc w.heap.size (fun k_ => some k_ ≠ ((.slice (some ad237) t233.length co16) : Value).ownBlock) v239 t238) ∧ Aside0 (wc.heap[gb232]? = some (.cells #[.string (⟨#[]⟩ : ByteArray), .string (⟨#[]⟩ : ByteArray), .int .i64 0, (.slice none 0 0)] 24 (0, 0))) ∧ Aside0 (Below w.heap.size w wc))
      case first => as_aux_lemma =>
       have H := HC15.out
       clear HC15
       by_cases c18 : (t238.length : Int) = 3
       ·rw [if_pos c18] at H
        have c18b0 : ((t238.length : Int) == 3) = true := beq_iff_eq.mpr c18
        have c18b1 : ((t238.length : Int) != 3) = false := bne_eq_false_iff_eq.mpr c18
        clear c18
        (first | rw [c18b0] | (simp only [i64_w, i32_w]; rw [c18b0]) | skip)
        by_cases c19 : 0 < (t238.length : Int)
        ·rw [if_pos c19] at H
         have c19b0 : decide (0 < (t238.length : Int)) = true := decide_eq_true c19
         have c19b1 : decide (0 < t238.length) = true := decide_eq_true (by omega)
         clear c19
         by_cases c20 : (rdOf ByteArray.empty t238 0).toList = ([] : List UInt8)
         ·rw [if_pos c20] at H
          have c20b0 : ((rdOf ByteArray.empty t238 0).toList == ([] : List UInt8)) = true := beq_iff_eq.mpr c20
          have c20b1 : ((rdOf ByteArray.empty t238 0).toList != ([] : List UInt8)) = false := bne_eq_false_iff_eq.mpr c20
          clear c20
          have H' := Aside0.mk H
          clear H
          obtain ⟨Ao21, co21, eo21⟩ := Kd.R_slice HO240.out
          subst eo21
          have p241 : 0 ≤ (0 : Int) := (by omega)
          have q241 : 0 < (t238.length : Int) := of_decide_eq_true (by first | (with_reducible assumption) | assumption)
          obtain ⟨ad241, e241, hx241_0⟩ := Kd.at_string (Kd.R_reads' HO240.out).2.2 0 p241 q241
          cases e241
          have qi241 : (0 < t238.length) = True := eq_true (by omega)
          (try rw [show ((0 : Int)).toNat = 0 from rfl] at hx241_0)
          (try rw [Addr.add_zero'] at hx241_0)
          replace p241 := eq_true p241
          replace q241 := eq_true q241
          go_wp2
          go_meet
          case rel => exact ⟨_, (true), (by first | rfl | (simp; done) | (simp [*]; done)), H', ⟨by have := HJ5.out; first | omega | exact Nat.le_refl _⟩, ⟨by (with_reducible repeat (first | apply Kd.R_alloc | apply Kd.R_drewN | apply Kd.R_drew)); exact Kd.R_mono HO_4.out (fun _ hk => hk.2)⟩, ⟨by (with_reducible repeat (first | apply Kd.R_alloc | apply Kd.R_drewN | apply Kd.R_drew)); exact Kd.R_mono HO240.out (fun _ hk => hk.2)⟩, ⟨by (with_reducible repeat (first | refine blk_drewN ?_ _ | refine blk_drew ?_ | refine blk_alloc ?_ _)); exact BK232.out⟩, ⟨by repeat (first | (with_reducible first | exact HB.out | apply below_alloc | apply pw_below_drewN | apply below_drew1 | refine below_set ?_ GE232.out) | exact HB.out)⟩⟩
         ·rw [if_neg c20] at H
          have c20b0 : ((rdOf ByteArray.empty t238 0).toList == ([] : List UInt8)) = false := beq_eq_false_iff_ne.mpr c20
          have c20b1 : ((rdOf ByteArray.empty t238 0).toList != ([] : List UInt8)) = true := bne_iff_ne.mpr c20
          by_cases c22 : 1 < (t238.length : Int)
          ·rw [if_pos c22] at H
           have c22b0 : decide (1 < (t238.length : Int)) = true := decide_eq_true c22
           have c22b1 : decide (1 < t238.length) = true := decide_eq_true (by omega)
           clear c22
           by_cases c23 : (rdOf ByteArray.empty t238 1).toList = ([] : List UInt8)
           ·rw [if_pos c23] at H
            have c23b0 : ((rdOf ByteArray.empty t238 1).toList == ([] : List UInt8)) = true := beq_iff_eq.mpr c23
            have c23b1 : ((rdOf ByteArray.empty t238 1).toList != ([] : List UInt8)) = false := bne_eq_false_iff_eq.mpr c23
            clear c23
            have H' := Aside0.mk H
            clear H
            obtain ⟨Ao24, co24, eo24⟩ := Kd.R_slice HO240.out
            subst eo24
            have p241 : 0 ≤ (0 : Int) := (by omega)
            have q241 : 0 < (t238.length : Int) := of_decide_eq_true (by first | (with_reducible assumption) | assumption)
            obtain ⟨ad241, e241, hx241_0⟩ := Kd.at_string (Kd.R_reads' HO240.out).2.2 0 p241 q241
            cases e241
            have qi241 : (0 < t238.length) = True := eq_true (by omega)
            (try rw [show ((0 : Int)).toNat = 0 from rfl] at hx241_0)
            (try rw [Addr.add_zero'] at hx241_0)
            replace p241 := eq_true p241
            replace q241 := eq_true q241
            have p242 : 0 ≤ (1 : Int) := (by omega)
            have q242 : 1 < (t238.length : Int) := of_decide_eq_true (by first | (with_reducible assumption) | assumption)
            obtain ⟨ad242, e242, hx242_0⟩ := Kd.at_string (Kd.R_reads' HO240.out).2.2 1 p242 q242
            obtain rfl : ad241 = ad242 := (by injection e242)
            (try simp only [show (1 : Int).toNat = 1 from rfl, Nat.reduceMul, Nat.reduceEqDiff, Go.Addr.add, ↓reduceIte] at hx242_0)
            have qi242 : (1 < t238.length) = True := eq_true (by omega)
            (try rw [show ((1 : Int)).toNat = 1 from rfl] at hx242_0)
            replace p242 := eq_true p242
            replace q242 := eq_true q242
            go_wp2
            go_meet
            case rel => exact ⟨_, (true), (by first | rfl | (simp; done) | (simp [*]; done)), H', ⟨by have := HJ5.out; first | omega | exact Nat.le_refl _⟩, ⟨by (with_reducible repeat (first | apply Kd.R_alloc | apply Kd.R_drewN | apply Kd.R_drew)); exact Kd.R_mono HO_4.out (fun _ hk => hk.2)⟩, ⟨by (with_reducible repeat (first | apply Kd.R_alloc | apply Kd.R_drewN | apply Kd.R_drew)); exact Kd.R_mono HO240.out (fun _ hk => hk.2)⟩, ⟨by (with_reducible repeat (first | refine blk_drewN ?_ _ | refine blk_drew ?_ | refine blk_alloc ?_ _)); exact BK232.out⟩, ⟨by repeat (first | (with_reducible first | exact HB.out | apply below_alloc | apply pw_below_drewN | apply below_drew1 | refine below_set ?_ GE232.out) | exact HB.out)⟩⟩
           ·rw [if_neg c23] at H
            have c23b0 : ((rdOf ByteArray.empty t238 1).toList == ([] : List UInt8)) = false := beq_eq_false_iff_ne.mpr c23
            have c23b1 : ((rdOf ByteArray.empty t238 1).toList != ([] : List UInt8)) = true := bne_iff_ne.mpr c23
            by_cases c25 : 2 < (t238.length : Int)
            ·rw [if_pos c25] at H
             have c25b0 : decide (2 < (t238.length : Int)) = true := decide_eq_true c25
             have c25b1 : decide (2 < t238.length) = true := decide_eq_true (by omega)
             clear c25
             by_cases c26 : (rdOf ByteArray.empty t238 2).toList = ([] : List UInt8)
             ·rw [if_pos c26] at H
              have c26b0 : ((rdOf ByteArray.empty t238 2).toList == ([] : List UInt8)) = true := beq_iff_eq.mpr c26
              have c26b1 : ((rdOf ByteArray.empty t238 2).toList != ([] : List UInt8)) = false := bne_eq_false_iff_eq.mpr c26
              clear c26
              have H' := Aside0.mk H
              clear H
              obtain ⟨Ao27, co27, eo27⟩ := Kd.R_slice HO240.out
              subst eo27
              have p241 : 0 ≤ (0 : Int) := (by omega)
              have q241 : 0 < (t238.length : Int) := of_decide_eq_true (by first | (with_reducible assumption) | assumption)
              obtain ⟨ad241, e241, hx241_0⟩ := Kd.at_string (Kd.R_reads' HO240.out).2.2 0 p241 q241
              cases e241
              have qi241 : (0 < t238.length) = True := eq_true (by omega)
              (try rw [show ((0 : Int)).toNat = 0 from rfl] at hx241_0)
              (try rw [Addr.add_zero'] at hx241_0)
              replace p241 := eq_true p241
              replace q241 := eq_true q241
              have p242 : 0 ≤ (1 : Int) := (by omega)
              have q242 : 1 < (t238.length : Int) := of_decide_eq_true (by first | (with_reducible assumption) | assumption)
              obtain ⟨ad242, e242, hx242_0⟩ := Kd.at_string (Kd.R_reads' HO240.out).2.2 1 p242 q242
              obtain rfl : ad241 = ad242 := (by injection e242)
              (try simp only [show (1 : Int).toNat = 1 from rfl, Nat.reduceMul, Nat.reduceEqDiff, Go.Addr.add, ↓reduceIte] at hx242_0)
              have qi242 : (1 < t238.length) = True := eq_true (by omega)
              (try rw [show ((1 : Int)).toNat = 1 from rfl] at hx242_0)
              replace p242 := eq_true p242
              replace q242 := eq_true q242
              have p243 : 0 ≤ (2 : Int) := (by omega)
              have q243 : 2 < (t238.length : Int) := of_decide_eq_true (by first | (with_reducible assumption) | assumption)
              obtain ⟨ad243, e243, hx243_0⟩ := Kd.at_string (Kd.R_reads' HO240.out).2.2 2 p243 q243
              obtain rfl : ad241 = ad243 := (by injection e243)
              (try simp only [show (2 : Int).toNat = 2 from rfl, Nat.reduceMul, Nat.reduceEqDiff, Go.Addr.add, ↓reduceIte] at hx243_0)
              have qi243 : (2 < t238.length) = True := eq_true (by omega)
              (try rw [show ((2 : Int)).toNat = 2 from rfl] at hx243_0)
              replace p243 := eq_true p243
              replace q243 := eq_true q243
              go_wp2
              go_meet
              case rel => exact ⟨_, (true), (by first | rfl | (simp; done) | (simp [*]; done)), H', ⟨by have := HJ5.out; first | omega | exact Nat.le_refl _⟩, ⟨by (with_reducible repeat (first | apply Kd.R_alloc | apply Kd.R_drewN | apply Kd.R_drew)); exact Kd.R_mono HO_4.out (fun _ hk => hk.2)⟩, ⟨by (with_reducible repeat (first | apply Kd.R_alloc | apply Kd.R_drewN | apply Kd.R_drew)); exact Kd.R_mono HO240.out (fun _ hk => hk.2)⟩, ⟨by (with_reducible repeat (first | refine blk_drewN ?_ _ | refine blk_drew ?_ | refine blk_alloc ?_ _)); exact BK232.out⟩, ⟨by repeat (first | (with_reducible first | exact HB.out | apply below_alloc | apply pw_below_drewN | apply below_drew1 | refine below_set ?_ GE232.out) | exact HB.out)⟩⟩
             ·rw [if_neg c26] at H
              have c26b0 : ((rdOf ByteArray.empty t238 2).toList == ([] : List UInt8)) = false := beq_eq_false_iff_ne.mpr c26
              have c26b1 : ((rdOf ByteArray.empty t238 2).toList != ([] : List UInt8)) = true := bne_iff_ne.mpr c26
              replace H := Option.bind_eq_some_iff.mp H
              obtain ⟨t245, A280, H⟩ := H
              replace H : (ostiaryref13_Parse.j1 kj5 t233 t238 (!t245)) = some (r1, r2, r3, r4, r5) := H
              have A28 := Aside0.mk A280
              clear A280
              have H' := Aside0.mk H
              clear H
              obtain ⟨Ao29, co29, eo29⟩ := Kd.R_slice HO240.out
              subst eo29
              have p241 : 0 ≤ (0 : Int) := (by omega)
              have q241 : 0 < (t238.length : Int) := of_decide_eq_true (by first | (with_reducible assumption) | assumption)
              obtain ⟨ad241, e241, hx241_0⟩ := Kd.at_string (Kd.R_reads' HO240.out).2.2 0 p241 q241
              cases e241
              have qi241 : (0 < t238.length) = True := eq_true (by omega)
              (try rw [show ((0 : Int)).toNat = 0 from rfl] at hx241_0)
              (try rw [Addr.add_zero'] at hx241_0)
              replace p241 := eq_true p241
              replace q241 := eq_true q241
              have p242 : 0 ≤ (1 : Int) := (by omega)
              have q242 : 1 < (t238.length : Int) := of_decide_eq_true (by first | (with_reducible assumption) | assumption)
              obtain ⟨ad242, e242, hx242_0⟩ := Kd.at_string (Kd.R_reads' HO240.out).2.2 1 p242 q242
              obtain rfl : ad241 = ad242 := (by injection e242)
              (try simp only [show (1 : Int).toNat = 1 from rfl, Nat.reduceMul, Nat.reduceEqDiff, Go.Addr.add, ↓reduceIte] at hx242_0)
              have qi242 : (1 < t238.length) = True := eq_true (by omega)
              (try rw [show ((1 : Int)).toNat = 1 from rfl] at hx242_0)
              replace p242 := eq_true p242
              replace q242 := eq_true q242
              have p243 : 0 ≤ (2 : Int) := (by omega)
              have q243 : 2 < (t238.length : Int) := of_decide_eq_true (by first | (with_reducible assumption) | assumption)
              obtain ⟨ad243, e243, hx243_0⟩ := Kd.at_string (Kd.R_reads' HO240.out).2.2 2 p243 q243
              obtain rfl : ad241 = ad243 := (by injection e243)
              (try simp only [show (2 : Int).toNat = 2 from rfl, Nat.reduceMul, Nat.reduceEqDiff, Go.Addr.add, ↓reduceIte] at hx243_0)
              have qi243 : (2 < t238.length) = True := eq_true (by omega)
              (try rw [show ((2 : Int)).toNat = 2 from rfl] at hx243_0)
              replace p243 := eq_true p243
              replace q243 := eq_true q243
              have p244 : 0 ≤ (0 : Int) := (by omega)
              have q244 : 0 < (t238.length : Int) := of_decide_eq_true (by first | (with_reducible assumption) | assumption)
              obtain ⟨ad244, e244, hx244_0⟩ := Kd.at_string (Kd.R_reads' HO240.out).2.2 0 p244 q244
              obtain rfl : ad241 = ad244 := (by injection e244)
              have qi244 : (0 < t238.length) = True := eq_true (by omega)
              (try rw [show ((0 : Int)).toNat = 0 from rfl] at hx244_0)
              (try rw [Addr.add_zero'] at hx244_0)
              replace p244 := eq_true p244
              replace q244 := eq_true q244
              go_wp2_with (first | (go_at_call 70; (with_reducible refine (ostiaryref13_Word.calls kj5 (rdOf ByteArray.empty t238 0) 16 t245 _ A28.out).mono ?_); rintro e w' ⟨rfl, ⟨nd, rfl⟩⟩))
              go_meet
              case rel => exact ⟨_, (!t245), (by first | rfl | (simp; done) | (simp [*]; done)), H', ⟨by have := HJ5.out; first | omega | exact Nat.le_refl _⟩, ⟨by (with_reducible repeat (first | apply Kd.R_alloc | apply Kd.R_drewN | apply Kd.R_drew)); exact Kd.R_mono HO_4.out (fun _ hk => hk.2)⟩, ⟨by (with_reducible repeat (first | apply Kd.R_alloc | apply Kd.R_drewN | apply Kd.R_drew)); exact Kd.R_mono HO240.out (fun _ hk => hk.2)⟩, ⟨by (with_reducible repeat (first | refine blk_drewN ?_ _ | refine blk_drew ?_ | refine blk_alloc ?_ _)); exact BK232.out⟩, ⟨by repeat (first | (with_reducible first | exact HB.out | apply below_alloc | apply pw_below_drewN | apply below_drew1 | refine below_set ?_ GE232.out) | exact HB.out)⟩⟩
            ·rw [if_neg c25] at H
             exact absurd H (by simp)
          ·rw [if_neg c22] at H
           exact absurd H (by simp)
        ·rw [if_neg c19] at H
         exact absurd H (by simp)
       ·rw [if_neg c18] at H
        have c18b0 : ((t238.length : Int) == 3) = false := beq_eq_false_iff_ne.mpr c18
        have c18b1 : ((t238.length : Int) != 3) = true := bne_iff_ne.mpr c18
        (first | rw [c18b0] | (simp only [i64_w, i32_w]; rw [c18b0]) | skip)
        have H' := Aside0.mk H
        clear H
        obtain ⟨Ao30, co30, eo30⟩ := Kd.R_slice HO240.out
        subst eo30
        go_wp2
        go_meet
        case rel => exact ⟨_, (true), (by first | rfl | (simp; done) | (simp [*]; done)), H', ⟨by have := HJ5.out; first | omega | exact Nat.le_refl _⟩, ⟨by (with_reducible repeat (first | apply Kd.R_alloc | apply Kd.R_drewN | apply Kd.R_drew)); exact Kd.R_mono HO_4.out (fun _ hk => hk.2)⟩, ⟨by (with_reducible repeat (first | apply Kd.R_alloc | apply Kd.R_drewN | apply Kd.R_drew)); exact Kd.R_mono HO240.out (fun _ hk => hk.2)⟩, ⟨by (with_reducible repeat (first | refine blk_drewN ?_ _ | refine blk_drew ?_ | refine blk_alloc ?_ _)); exact BK232.out⟩, ⟨by repeat (first | (with_reducible first | exact HB.out | apply below_alloc | apply pw_below_drewN | apply below_drew1 | refine below_set ?_ GE232.out) | exact HB.out)⟩⟩
      case rest => as_aux_lemma =>
       clear HC15
       try clear c1
       try clear c2
       try clear c2b0
       try clear c2b1
       try clear p2
       try clear q2
       try clear hx2
       try clear qi2
       try clear c4
       try clear c8
       try clear c9
       try clear c11
       try clear c13
       try clear c13b0
       try clear c13b1
       try clear c18
       try clear c18b0
       try clear c18b1
       try clear c19
       try clear c19b0
       try clear c19b1
       try clear c20
       try clear c20b0
       try clear c20b1
       try clear c22
       try clear c22b0
       try clear c22b1
       try clear c23
       try clear c23b0
       try clear c23b1
       try clear p23
       try clear q23
       try clear hx23
       try clear qi23
       try clear p24
       try clear q24
       try clear hx24
       try clear qi24
       try clear c25
       try clear c25b0
       try clear c25b1
       try clear c26
       try clear c26b0
       try clear c26b1
       try clear hcz12_0
       try clear hcz12_1
       try clear hcz12_2
       try clear hcz12_3
       try clear hcz4_0
       try clear hcz4_1
       try clear hcz4_2
       try clear hcz4_3
       try clear hfz12_0
       try clear hfz12_1
       try clear hfz12_2
       try clear hfz12_3
       try clear hfz4_0
       try clear hfz4_1
       try clear hfz4_2
       try clear hfz4_3
       try clear hx237_0
       try clear hx241_0
       try clear hx242_0
       try clear hx243_0
       try clear hx244_0
       try clear p2
       try clear p237
       try clear p241
       try clear p242
       try clear p243
       try clear p244
       try clear q237
       try clear q241
       try clear q242
       try clear q243
       try clear q244
       obtain ⟨kq, x59_14, rfl, HA, HJ14, HO_4, HO_6, BK232, HB⟩ := hcut
       cases kq with
       | zero => exact absurd HA.out (by simp [ostiaryref13_Parse.j1])
       | succ kj14 =>
        have H := HA.out
        clear HA
        simp only [ostiaryref13_Parse.j1] at H
        by_cases c31 : x59_14 = true
        ·subst c31
         have H1 : (some ((⟨#[]⟩ : ByteArray), (⟨#[]⟩ : ByteArray), 0, ([] : List (S67)), 400)) = some (r1, r2, r3, r4, r5) := by rw [if_pos rfl] at H; exact H
         clear H
         have H := H1
         clear H1
         simp only [Option.some.injEq, Prod.mk.injEq] at H
         obtain ⟨rfl, rfl, rfl, rfl, rfl⟩ := H
         have hcz32_0 : wc.cell? ⟨gb232, 0, none⟩ = some (.string (⟨#[]⟩ : ByteArray)) := (blk_cell BK232.out 0).trans rfl
         have hcz32_1 : wc.cell? ⟨gb232, 1, none⟩ = some (.string (⟨#[]⟩ : ByteArray)) := (blk_cell BK232.out 1).trans rfl
         have hcz32_2 : wc.cell? ⟨gb232, 2, none⟩ = some (.int .i64 0) := (blk_cell BK232.out 2).trans rfl
         have hcz32_3 : wc.cell? ⟨gb232, 3, none⟩ = some (.slice none 0 0) := (blk_cell BK232.out 3).trans rfl
         have hfz32_0 := blk_frozen BK232.out 0
         have hfz32_1 := blk_frozen BK232.out 1
         have hfz32_2 := blk_frozen BK232.out 2
         have hfz32_3 := blk_frozen BK232.out 3
         go_wp2
         refine bodyPost_ret (results_ct rfl _ _ gb232 24 #[.string (⟨#[]⟩ : ByteArray), .string (⟨#[]⟩ : ByteArray), .int .i64 0, .slice none 0 0] (0, 0) _ rfl (by (with_reducible repeat (first | refine blk_drewN ?_ _ | refine blk_drew ?_ | refine blk_alloc ?_ _)); refine blk_put (cs := #[.string (⟨#[]⟩ : ByteArray), .string (⟨#[]⟩ : ByteArray), .int .i64 0, .slice none 0 0]) ?_ 3 _ rfl; (with_reducible repeat (first | refine blk_drewN ?_ _ | refine blk_drew ?_ | refine blk_alloc ?_ _)); refine blk_put (cs := #[.string (⟨#[]⟩ : ByteArray), .string (⟨#[]⟩ : ByteArray), .int .i64 0, .slice none 0 0]) ?_ 2 _ rfl; (with_reducible repeat (first | refine blk_drewN ?_ _ | refine blk_drew ?_ | refine blk_alloc ?_ _)); refine blk_put (cs := #[.string (⟨#[]⟩ : ByteArray), .string (⟨#[]⟩ : ByteArray), .int .i64 0, .slice none 0 0]) ?_ 1 _ rfl; (with_reducible repeat (first | refine blk_drewN ?_ _ | refine blk_drew ?_ | refine blk_alloc ?_ _)); refine blk_put (cs := #[.string (⟨#[]⟩ : ByteArray), .string (⟨#[]⟩ : ByteArray), .int .i64 0, .slice none 0 0]) ?_ 0 _ rfl; (with_reducible repeat (first | refine blk_drewN ?_ _ | refine blk_drew ?_ | refine blk_alloc ?_ _)); exact BK232.out) Tryd.underlying24 rfl (by kernel_rfl)) rfl ?_
         exact ⟨_, by first | rfl | (simp [errW_none, errW_some] <;> rfl) | (simp [*, errW_none, errW_some] <;> rfl), by first | exact Kd.R_nil _ _ _ _ _ | exact Kd.N_nil _ _ _ _ _ | exact Kd.V_nil _ _ _ _ _ | exact Kd.Q_nil _ _ _ _ _ | exact Kd.S_nil _ _ _ _ _, by repeat (first | (with_reducible first | exact HB.out | apply below_alloc | apply pw_below_drewN | apply below_drew1 | refine below_set ?_ GE232.out) | exact HB.out)⟩
        ·replace c31 := Bool.eq_false_iff.mpr c31
         subst c31
         have H1 : (if 2 < (t238.length : Int) then (if ((rdOf ByteArray.empty t238 2).size : Int) = 8 then (if 0 ≤ 5 then (if 5 ≤ ((rdOf ByteArray.empty t238 2).size : Int) then (if ((rdOf ByteArray.empty t238 2).extract 0 5).toList = ([72, 84, 84, 80, 47] : List UInt8) then (if 5 < ((rdOf ByteArray.empty t238 2).size : Int) then ((ostiaryref13_digit.f (bt (rdOf ByteArray.empty t238 2) 5)).bind fun t247 => (if t247 = true then (if 6 < ((rdOf ByteArray.empty t238 2).size : Int) then (if (bt (rdOf ByteArray.empty t238 2) 6) = 46 then (if 7 < ((rdOf ByteArray.empty t238 2).size : Int) then ((ostiaryref13_digit.f (bt (rdOf ByteArray.empty t238 2) 7)).bind fun t248 => (ostiaryref13_Parse.j2 kj14 t233 t238 (rdOf ByteArray.empty t238 2) (!t248))) else (none)) else (ostiaryref13_Parse.j2 kj14 t233 t238 (rdOf ByteArray.empty t238 2) true)) else (none)) else (ostiaryref13_Parse.j2 kj14 t233 t238 (rdOf ByteArray.empty t238 2) true))) else (none)) else (ostiaryref13_Parse.j2 kj14 t233 t238 (rdOf ByteArray.empty t238 2) true)) else (none)) else (none)) else (ostiaryref13_Parse.j2 kj14 t233 t238 (rdOf ByteArray.empty t238 2) true)) else (none)) = some (r1, r2, r3, r4, r5) := by rw [if_neg (show ¬ (false = true) by decide)] at H; exact H
         clear H
         have H := H1
         clear H1
         by_cases c33 : 2 < (t238.length : Int)
         ·rw [if_pos c33] at H
          have c33b0 : decide (2 < (t238.length : Int)) = true := decide_eq_true c33
          have c33b1 : decide (2 < t238.length) = true := decide_eq_true (by omega)
          clear c33
          have HC34 := Aside0.mk H
          clear H
          obtain ⟨Ao35, co35, eo35⟩ := Kd.R_slice HO_6.out
          subst eo35
          have p246 : 0 ≤ (2 : Int) := (by omega)
          have q246 : 2 < (t238.length : Int) := of_decide_eq_true (by first | (with_reducible assumption) | assumption)
          obtain ⟨ad246, e246, hx246_0⟩ := Kd.at_string (Kd.R_reads' HO_6.out).2.2 2 p246 q246
          cases e246
          (try simp only [show (2 : Int).toNat = 2 from rfl, Nat.reduceMul, Nat.reduceEqDiff, Go.Addr.add, ↓reduceIte] at hx246_0)
          have qi246 : (2 < t238.length) = True := eq_true (by omega)
          (try rw [show ((2 : Int)).toNat = 2 from rfl] at hx246_0)
          replace p246 := eq_true p246
          replace q246 := eq_true q246
          go_upto_region 10 with (fail)
          go_cut [88] (fun v88 wc => ∃ (kq : Nat) (x88_33 : Bool), v88 = .bool x88_33 ∧ Aside0 (ostiaryref13_Parse.j2 kq t233 t238 (rdOf ByteArray.empty t238 2) x88_33 = some (r1, r2, r3, r4, r5)) ∧ Aside0 (kq ≤ kj14) ∧ Aside0 (Kd.R Kd.string 9 wc w.heap.size (fun k_ => some k_ ≠ ((.slice (some ad246) t238.length co35) : Value).ownBlock) (.slice (some ad237) t233.length co16) t233) ∧ Aside0 (Kd.R Kd.string 9 wc w.heap.size (fun k_ => some k_ ≠ ((.slice (some ad237) t233.length co16) : Value).ownBlock) (.slice (some ad246) t238.length co35) t238) ∧ Aside0 (wc.heap[gb232]? = some (.cells #[.string (⟨#[]⟩ : ByteArray), .string (⟨#[]⟩ : ByteArray), .int .i64 0, (.slice none 0 0)] 24 (0, 0))) ∧ Aside0 (Below w.heap.size w wc))
          case first => as_aux_lemma =>
           have H := HC34.out
           clear HC34
           by_cases c36 : ((rdOf ByteArray.empty t238 2).size : Int) = 8
           ·rw [if_pos c36] at H
            have c36b0 : (((rdOf ByteArray.empty t238 2).size : Int) == 8) = true := beq_iff_eq.mpr c36
            have c36b1 : (((rdOf ByteArray.empty t238 2).size : Int) != 8) = false := bne_eq_false_iff_eq.mpr c36
            clear c36
            (first | rw [c36b0] | (simp only [i64_w, i32_w]; rw [c36b0]) | skip)
            by_cases c37 : 0 ≤ 5
            ·rw [if_pos c37] at H
             have c37b0 := eq_true c37
             have c37b1 : decide (0 ≤ 5) = true := decide_eq_true c37
             clear c37
             by_cases c38 : 5 ≤ ((rdOf ByteArray.empty t238 2).size : Int)
             ·rw [if_pos c38] at H
              have c38b0 := eq_true c38
              have c38b1 : decide (5 ≤ ((rdOf ByteArray.empty t238 2).size : Int)) = true := decide_eq_true c38
              clear c38
              by_cases c39 : ((rdOf ByteArray.empty t238 2).extract 0 5).toList = ([72, 84, 84, 80, 47] : List UInt8)
              ·rw [if_pos c39] at H
               have c39b0 : (((rdOf ByteArray.empty t238 2).extract 0 5).toList == ([72, 84, 84, 80, 47] : List UInt8)) = true := beq_iff_eq.mpr c39
               have c39b1 : (((rdOf ByteArray.empty t238 2).extract 0 5).toList != ([72, 84, 84, 80, 47] : List UInt8)) = false := bne_eq_false_iff_eq.mpr c39
               clear c39
               by_cases c40 : 5 < ((rdOf ByteArray.empty t238 2).size : Int)
               ·rw [if_pos c40] at H
                have c40b0 : decide (5 < ((rdOf ByteArray.empty t238 2).size : Int)) = true := decide_eq_true c40
                have c40b1 : decide (5 < (rdOf ByteArray.empty t238 2).size) = true := decide_eq_true (by omega)
                clear c40
                replace H := Option.bind_eq_some_iff.mp H
                obtain ⟨t247, A420, H⟩ := H
                replace H : (if t247 = true then (if 6 < ((rdOf ByteArray.empty t238 2).size : Int) then (if (bt (rdOf ByteArray.empty t238 2) 6) = 46 then (if 7 < ((rdOf ByteArray.empty t238 2).size : Int) then ((ostiaryref13_digit.f (bt (rdOf ByteArray.empty t238 2) 7)).bind fun t248 => (ostiaryref13_Parse.j2 kj14 t233 t238 (rdOf ByteArray.empty t238 2) (!t248))) else (none)) else (ostiaryref13_Parse.j2 kj14 t233 t238 (rdOf ByteArray.empty t238 2) true)) else (none)) else (ostiaryref13_Parse.j2 kj14 t233 t238 (rdOf ByteArray.empty t238 2) true)) = some (r1, r2, r3, r4, r5) := H
                have A42 := Aside0.mk A420
                clear A420
                by_cases c43 : t247 = true
                ·subst c43
                 have H1 : (if 6 < ((rdOf ByteArray.empty t238 2).size : Int) then (if (bt (rdOf ByteArray.empty t238 2) 6) = 46 then (if 7 < ((rdOf ByteArray.empty t238 2).size : Int) then ((ostiaryref13_digit.f (bt (rdOf ByteArray.empty t238 2) 7)).bind fun t248 => (ostiaryref13_Parse.j2 kj14 t233 t238 (rdOf ByteArray.empty t238 2) (!t248))) else (none)) else (ostiaryref13_Parse.j2 kj14 t233 t238 (rdOf ByteArray.empty t238 2) true)) else (none)) = some (r1, r2, r3, r4, r5) := by rw [if_pos rfl] at H; exact H
                 clear H
                 have H := H1
                 clear H1
                 by_cases c44 : 6 < ((rdOf ByteArray.empty t238 2).size : Int)
                 ·rw [if_pos c44] at H
                  have c44b0 : decide (6 < ((rdOf ByteArray.empty t238 2).size : Int)) = true := decide_eq_true c44
                  have c44b1 : decide (6 < (rdOf ByteArray.empty t238 2).size) = true := decide_eq_true (by omega)
                  clear c44
                  by_cases c46 : (bt (rdOf ByteArray.empty t238 2) 6) = 46
                  ·rw [if_pos c46] at H
                   have c46b0 : ((bt (rdOf ByteArray.empty t238 2) 6) == 46) = true := beq_iff_eq.mpr c46
                   have c46b1 : ((bt (rdOf ByteArray.empty t238 2) 6) != 46) = false := bne_eq_false_iff_eq.mpr c46
                   clear c46
                   by_cases c47 : 7 < ((rdOf ByteArray.empty t238 2).size : Int)
                   ·rw [if_pos c47] at H
                    have c47b0 : decide (7 < ((rdOf ByteArray.empty t238 2).size : Int)) = true := decide_eq_true c47
                    have c47b1 : decide (7 < (rdOf ByteArray.empty t238 2).size) = true := decide_eq_true (by omega)
                    clear c47
                    replace H := Option.bind_eq_some_iff.mp H
                    obtain ⟨t248, A490, H⟩ := H
                    replace H : (ostiaryref13_Parse.j2 kj14 t233 t238 (rdOf ByteArray.empty t238 2) (!t248)) = some (r1, r2, r3, r4, r5) := H
                    have A49 := Aside0.mk A490
                    clear A490
                    have H' := Aside0.mk H
                    clear H
                    have p41 : 0 ≤ (5 : Int) := (by omega)
                    have q41 : 5 < (rdOf ByteArray.empty t238 2).size := (by have : (5 : Int) < ((rdOf ByteArray.empty t238 2).size : Int) := of_decide_eq_true (by first | (with_reducible assumption) | assumption); omega)
                    have hx41 : ∀ h : 5 < (rdOf ByteArray.empty t238 2).size, (((rdOf ByteArray.empty t238 2)[5]'h).toNat : Int) = bt (rdOf ByteArray.empty t238 2) 5 := bt_at (rdOf ByteArray.empty t238 2) 5
                    clear p41
                    have qi41 : (5 < ((rdOf ByteArray.empty t238 2).size : Int)) = True := eq_true (of_decide_eq_true (by first | (with_reducible assumption) | assumption))
                    replace q41 := eq_true q41
                    go_wp2_with (first | (go_at_call 83; (with_reducible refine (ostiaryref13_digit.calls (bt (rdOf ByteArray.empty t238 2) 5) true _ A42.out).mono ?_); rintro e w' ⟨rfl, ⟨nd, rfl⟩⟩; have p45 : 0 ≤ (6 : Int) := (by omega); have q45 : 6 < (rdOf ByteArray.empty t238 2).size := (by have : (6 : Int) < ((rdOf ByteArray.empty t238 2).size : Int) := of_decide_eq_true (by first | (with_reducible assumption) | assumption); omega); have hx45 : ∀ h : 6 < (rdOf ByteArray.empty t238 2).size, (((rdOf ByteArray.empty t238 2)[6]'h).toNat : Int) = bt (rdOf ByteArray.empty t238 2) 6 := bt_at (rdOf ByteArray.empty t238 2) 6; clear p45; have qi45 : (6 < ((rdOf ByteArray.empty t238 2).size : Int)) = True := eq_true (of_decide_eq_true (by first | (with_reducible assumption) | assumption)); replace q45 := eq_true q45; have p48 : 0 ≤ (7 : Int) := (by omega); have q48 : 7 < (rdOf ByteArray.empty t238 2).size := (by have : (7 : Int) < ((rdOf ByteArray.empty t238 2).size : Int) := of_decide_eq_true (by first | (with_reducible assumption) | assumption); omega); have hx48 : ∀ h : 7 < (rdOf ByteArray.empty t238 2).size, (((rdOf ByteArray.empty t238 2)[7]'h).toNat : Int) = bt (rdOf ByteArray.empty t238 2) 7 := bt_at (rdOf ByteArray.empty t238 2) 7; clear p48; have qi48 : (7 < ((rdOf ByteArray.empty t238 2).size : Int)) = True := eq_true (of_decide_eq_true (by first | (with_reducible assumption) | assumption)); replace q48 := eq_true q48) | (go_at_call 83; (with_reducible refine (ostiaryref13_digit.calls (bt (rdOf ByteArray.empty t238 2) 7) t248 _ A49.out).mono ?_); rintro e w' ⟨rfl, ⟨nd, rfl⟩⟩))
                    go_meet
                    case rel => exact ⟨_, (!t248), (by first | rfl | (simp; done) | (simp [*]; done)), H', ⟨by have := HJ5.out; have := HJ14.out; first | omega | exact Nat.le_refl _⟩, ⟨by (with_reducible repeat (first | apply Kd.R_alloc | apply Kd.R_drewN | apply Kd.R_drew)); exact HO_4.out⟩, ⟨by (with_reducible repeat (first | apply Kd.R_alloc | apply Kd.R_drewN | apply Kd.R_drew)); exact HO_6.out⟩, ⟨by (with_reducible repeat (first | refine blk_drewN ?_ _ | refine blk_drew ?_ | refine blk_alloc ?_ _)); exact BK232.out⟩, ⟨by repeat (first | (with_reducible first | exact HB.out | apply below_alloc | apply pw_below_drewN | apply below_drew1 | refine below_set ?_ GE232.out) | exact HB.out)⟩⟩
                   ·rw [if_neg c47] at H
                    exact absurd H (by simp)
                  ·rw [if_neg c46] at H
                   have c46b0 : ((bt (rdOf ByteArray.empty t238 2) 6) == 46) = false := beq_eq_false_iff_ne.mpr c46
                   have c46b1 : ((bt (rdOf ByteArray.empty t238 2) 6) != 46) = true := bne_iff_ne.mpr c46
                   have H' := Aside0.mk H
                   clear H
                   have p41 : 0 ≤ (5 : Int) := (by omega)
                   have q41 : 5 < (rdOf ByteArray.empty t238 2).size := (by have : (5 : Int) < ((rdOf ByteArray.empty t238 2).size : Int) := of_decide_eq_true (by first | (with_reducible assumption) | assumption); omega)
                   have hx41 : ∀ h : 5 < (rdOf ByteArray.empty t238 2).size, (((rdOf ByteArray.empty t238 2)[5]'h).toNat : Int) = bt (rdOf ByteArray.empty t238 2) 5 := bt_at (rdOf ByteArray.empty t238 2) 5
                   clear p41
                   have qi41 : (5 < ((rdOf ByteArray.empty t238 2).size : Int)) = True := eq_true (of_decide_eq_true (by first | (with_reducible assumption) | assumption))
                   replace q41 := eq_true q41
                   go_wp2_with (first | (go_at_call 83; (with_reducible refine (ostiaryref13_digit.calls (bt (rdOf ByteArray.empty t238 2) 5) true _ A42.out).mono ?_); rintro e w' ⟨rfl, ⟨nd, rfl⟩⟩; have p45 : 0 ≤ (6 : Int) := (by omega); have q45 : 6 < (rdOf ByteArray.empty t238 2).size := (by have : (6 : Int) < ((rdOf ByteArray.empty t238 2).size : Int) := of_decide_eq_true (by first | (with_reducible assumption) | assumption); omega); have hx45 : ∀ h : 6 < (rdOf ByteArray.empty t238 2).size, (((rdOf ByteArray.empty t238 2)[6]'h).toNat : Int) = bt (rdOf ByteArray.empty t238 2) 6 := bt_at (rdOf ByteArray.empty t238 2) 6; clear p45; have qi45 : (6 < ((rdOf ByteArray.empty t238 2).size : Int)) = True := eq_true (of_decide_eq_true (by first | (with_reducible assumption) | assumption)); replace q45 := eq_true q45))
                   go_meet
                   case rel => exact ⟨_, (true), (by first | rfl | (simp; done) | (simp [*]; done)), H', ⟨by have := HJ5.out; have := HJ14.out; first | omega | exact Nat.le_refl _⟩, ⟨by (with_reducible repeat (first | apply Kd.R_alloc | apply Kd.R_drewN | apply Kd.R_drew)); exact HO_4.out⟩, ⟨by (with_reducible repeat (first | apply Kd.R_alloc | apply Kd.R_drewN | apply Kd.R_drew)); exact HO_6.out⟩, ⟨by (with_reducible repeat (first | refine blk_drewN ?_ _ | refine blk_drew ?_ | refine blk_alloc ?_ _)); exact BK232.out⟩, ⟨by repeat (first | (with_reducible first | exact HB.out | apply below_alloc | apply pw_below_drewN | apply below_drew1 | refine below_set ?_ GE232.out) | exact HB.out)⟩⟩
                 ·rw [if_neg c44] at H
                  exact absurd H (by simp)
                ·replace c43 := Bool.eq_false_iff.mpr c43
                 subst c43
                 have H1 : (ostiaryref13_Parse.j2 kj14 t233 t238 (rdOf ByteArray.empty t238 2) true) = some (r1, r2, r3, r4, r5) := by rw [if_neg (show ¬ (false = true) by decide)] at H; exact H
                 clear H
                 have H := H1
                 clear H1
                 have H' := Aside0.mk H
                 clear H
                 have p41 : 0 ≤ (5 : Int) := (by omega)
                 have q41 : 5 < (rdOf ByteArray.empty t238 2).size := (by have : (5 : Int) < ((rdOf ByteArray.empty t238 2).size : Int) := of_decide_eq_true (by first | (with_reducible assumption) | assumption); omega)
                 have hx41 : ∀ h : 5 < (rdOf ByteArray.empty t238 2).size, (((rdOf ByteArray.empty t238 2)[5]'h).toNat : Int) = bt (rdOf ByteArray.empty t238 2) 5 := bt_at (rdOf ByteArray.empty t238 2) 5
                 clear p41
                 have qi41 : (5 < ((rdOf ByteArray.empty t238 2).size : Int)) = True := eq_true (of_decide_eq_true (by first | (with_reducible assumption) | assumption))
                 replace q41 := eq_true q41
                 go_wp2_with (first | (go_at_call 83; (with_reducible refine (ostiaryref13_digit.calls (bt (rdOf ByteArray.empty t238 2) 5) false _ A42.out).mono ?_); rintro e w' ⟨rfl, ⟨nd, rfl⟩⟩))
                 go_meet
                 case rel => exact ⟨_, (true), (by first | rfl | (simp; done) | (simp [*]; done)), H', ⟨by have := HJ5.out; have := HJ14.out; first | omega | exact Nat.le_refl _⟩, ⟨by (with_reducible repeat (first | apply Kd.R_alloc | apply Kd.R_drewN | apply Kd.R_drew)); exact HO_4.out⟩, ⟨by (with_reducible repeat (first | apply Kd.R_alloc | apply Kd.R_drewN | apply Kd.R_drew)); exact HO_6.out⟩, ⟨by (with_reducible repeat (first | refine blk_drewN ?_ _ | refine blk_drew ?_ | refine blk_alloc ?_ _)); exact BK232.out⟩, ⟨by repeat (first | (with_reducible first | exact HB.out | apply below_alloc | apply pw_below_drewN | apply below_drew1 | refine below_set ?_ GE232.out) | exact HB.out)⟩⟩
               ·rw [if_neg c40] at H
                exact absurd H (by simp)
              ·rw [if_neg c39] at H
               have c39b0 : (((rdOf ByteArray.empty t238 2).extract 0 5).toList == ([72, 84, 84, 80, 47] : List UInt8)) = false := beq_eq_false_iff_ne.mpr c39
               have c39b1 : (((rdOf ByteArray.empty t238 2).extract 0 5).toList != ([72, 84, 84, 80, 47] : List UInt8)) = true := bne_iff_ne.mpr c39
               have H' := Aside0.mk H
               clear H
               go_wp2
               go_meet
               case rel => exact ⟨_, (true), (by first | rfl | (simp; done) | (simp [*]; done)), H', ⟨by have := HJ5.out; have := HJ14.out; first | omega | exact Nat.le_refl _⟩, ⟨by (with_reducible repeat (first | apply Kd.R_alloc | apply Kd.R_drewN | apply Kd.R_drew)); exact HO_4.out⟩, ⟨by (with_reducible repeat (first | apply Kd.R_alloc | apply Kd.R_drewN | apply Kd.R_drew)); exact HO_6.out⟩, ⟨by (with_reducible repeat (first | refine blk_drewN ?_ _ | refine blk_drew ?_ | refine blk_alloc ?_ _)); exact BK232.out⟩, ⟨by repeat (first | (with_reducible first | exact HB.out | apply below_alloc | apply pw_below_drewN | apply below_drew1 | refine below_set ?_ GE232.out) | exact HB.out)⟩⟩
             ·rw [if_neg c38] at H
              exact absurd H (by simp)
            ·rw [if_neg c37] at H
             exact absurd H (by simp)
           ·rw [if_neg c36] at H
            have c36b0 : (((rdOf ByteArray.empty t238 2).size : Int) == 8) = false := beq_eq_false_iff_ne.mpr c36
            have c36b1 : (((rdOf ByteArray.empty t238 2).size : Int) != 8) = true := bne_iff_ne.mpr c36
            (first | rw [c36b0] | (simp only [i64_w, i32_w]; rw [c36b0]) | skip)
            have H' := Aside0.mk H
            clear H
            go_wp2
            go_meet
            case rel => exact ⟨_, (true), (by first | rfl | (simp; done) | (simp [*]; done)), H', ⟨by have := HJ5.out; have := HJ14.out; first | omega | exact Nat.le_refl _⟩, ⟨by (with_reducible repeat (first | apply Kd.R_alloc | apply Kd.R_drewN | apply Kd.R_drew)); exact HO_4.out⟩, ⟨by (with_reducible repeat (first | apply Kd.R_alloc | apply Kd.R_drewN | apply Kd.R_drew)); exact HO_6.out⟩, ⟨by (with_reducible repeat (first | refine blk_drewN ?_ _ | refine blk_drew ?_ | refine blk_alloc ?_ _)); exact BK232.out⟩, ⟨by repeat (first | (with_reducible first | exact HB.out | apply below_alloc | apply pw_below_drewN | apply below_drew1 | refine below_set ?_ GE232.out) | exact HB.out)⟩⟩
          case rest => as_aux_lemma =>
           clear HC34
           try clear c1
           try clear c2
           try clear c2b0
           try clear c2b1
           try clear p2
           try clear q2
           try clear hx2
           try clear qi2
           try clear c3
           try clear c4
           try clear p4
           try clear q4
           try clear hx4
           try clear qi4
           try clear c8
           try clear c9
           try clear c11
           try clear c13
           try clear c13b0
           try clear c13b1
           try clear c18
           try clear c18b0
           try clear c18b1
           try clear c19
           try clear c19b0
           try clear c19b1
           try clear c20
           try clear c20b0
           try clear c20b1
           try clear c22
           try clear c22b0
           try clear c22b1
           try clear c23
           try clear c23b0
           try clear c23b1
           try clear p23
           try clear q23
           try clear hx23
           try clear qi23
           try clear p24
           try clear q24
           try clear hx24
           try clear qi24
           try clear c25
           try clear c25b0
           try clear c25b1
           try clear c26
           try clear c26b0
           try clear c26b1
           try clear c31
           try clear c33
           try clear c33b0
           try clear c33b1
           try clear c36
           try clear c36b0
           try clear c36b1
           try clear c37
           try clear c37b0
           try clear c37b1
           try clear c38
           try clear c38b0
           try clear c38b1
           try clear c39
           try clear c39b0
           try clear c39b1
           try clear c40
           try clear c40b0
           try clear c40b1
           try clear p41
           try clear q41
           try clear hx41
           try clear qi41
           try clear c42
           try clear c43
           try clear c44
           try clear c44b0
           try clear c44b1
           try clear p45
           try clear q45
           try clear hx45
           try clear qi45
           try clear c46
           try clear c46b0
           try clear c46b1
           try clear c47
           try clear c47b0
           try clear c47b1
           try clear p48
           try clear q48
           try clear hx48
           try clear qi48
           try clear hcz12_0
           try clear hcz12_1
           try clear hcz12_2
           try clear hcz12_3
           try clear hcz32_0
           try clear hcz32_1
           try clear hcz32_2
           try clear hcz32_3
           try clear hcz4_0
           try clear hcz4_1
           try clear hcz4_2
           try clear hcz4_3
           try clear hfz12_0
           try clear hfz12_1
           try clear hfz12_2
           try clear hfz12_3
           try clear hfz32_0
           try clear hfz32_1
           try clear hfz32_2
           try clear hfz32_3
           try clear hfz4_0
           try clear hfz4_1
           try clear hfz4_2
           try clear hfz4_3
           try clear hx237_0
           try clear hx241_0
           try clear hx242_0
           try clear hx243_0
           try clear hx244_0
           try clear hx246_0
           try clear p2
           try clear p23
           try clear p237
           try clear p24
           try clear p241
           try clear p242
           try clear p243
           try clear p244
           try clear p246
           try clear p41
           try clear p45
           try clear p48
           try clear q2
           try clear q23
           try clear q237
           try clear q24
           try clear q241
           try clear q242
           try clear q243
           try clear q244
           try clear q246
           try clear q41
           try clear q45
           try clear q48
           obtain ⟨kq, x88_33, rfl, HA, HJ33, HO_4, HO_6, BK232, HB⟩ := hcut
           cases kq with
           | zero => exact absurd HA.out (by simp [ostiaryref13_Parse.j2])
           | succ kj33 =>
            have H := HA.out
            clear HA
            simp only [ostiaryref13_Parse.j2] at H
            by_cases c50 : x88_33 = true
            ·subst c50
             have H1 : (some ((⟨#[]⟩ : ByteArray), (⟨#[]⟩ : ByteArray), 0, ([] : List (S67)), 400)) = some (r1, r2, r3, r4, r5) := by rw [if_pos rfl] at H; exact H
             clear H
             have H := H1
             clear H1
             simp only [Option.some.injEq, Prod.mk.injEq] at H
             obtain ⟨rfl, rfl, rfl, rfl, rfl⟩ := H
             have hcz51_0 : wc.cell? ⟨gb232, 0, none⟩ = some (.string (⟨#[]⟩ : ByteArray)) := (blk_cell BK232.out 0).trans rfl
             have hcz51_1 : wc.cell? ⟨gb232, 1, none⟩ = some (.string (⟨#[]⟩ : ByteArray)) := (blk_cell BK232.out 1).trans rfl
             have hcz51_2 : wc.cell? ⟨gb232, 2, none⟩ = some (.int .i64 0) := (blk_cell BK232.out 2).trans rfl
             have hcz51_3 : wc.cell? ⟨gb232, 3, none⟩ = some (.slice none 0 0) := (blk_cell BK232.out 3).trans rfl
             have hfz51_0 := blk_frozen BK232.out 0
             have hfz51_1 := blk_frozen BK232.out 1
             have hfz51_2 := blk_frozen BK232.out 2
             have hfz51_3 := blk_frozen BK232.out 3
             go_wp2
             refine bodyPost_ret (results_ct rfl _ _ gb232 24 #[.string (⟨#[]⟩ : ByteArray), .string (⟨#[]⟩ : ByteArray), .int .i64 0, .slice none 0 0] (0, 0) _ rfl (by (with_reducible repeat (first | refine blk_drewN ?_ _ | refine blk_drew ?_ | refine blk_alloc ?_ _)); refine blk_put (cs := #[.string (⟨#[]⟩ : ByteArray), .string (⟨#[]⟩ : ByteArray), .int .i64 0, .slice none 0 0]) ?_ 3 _ rfl; (with_reducible repeat (first | refine blk_drewN ?_ _ | refine blk_drew ?_ | refine blk_alloc ?_ _)); refine blk_put (cs := #[.string (⟨#[]⟩ : ByteArray), .string (⟨#[]⟩ : ByteArray), .int .i64 0, .slice none 0 0]) ?_ 2 _ rfl; (with_reducible repeat (first | refine blk_drewN ?_ _ | refine blk_drew ?_ | refine blk_alloc ?_ _)); refine blk_put (cs := #[.string (⟨#[]⟩ : ByteArray), .string (⟨#[]⟩ : ByteArray), .int .i64 0, .slice none 0 0]) ?_ 1 _ rfl; (with_reducible repeat (first | refine blk_drewN ?_ _ | refine blk_drew ?_ | refine blk_alloc ?_ _)); refine blk_put (cs := #[.string (⟨#[]⟩ : ByteArray), .string (⟨#[]⟩ : ByteArray), .int .i64 0, .slice none 0 0]) ?_ 0 _ rfl; (with_reducible repeat (first | refine blk_drewN ?_ _ | refine blk_drew ?_ | refine blk_alloc ?_ _)); exact BK232.out) Tryd.underlying24 rfl (by kernel_rfl)) rfl ?_
             exact ⟨_, by first | rfl | (simp [errW_none, errW_some] <;> rfl) | (simp [*, errW_none, errW_some] <;> rfl), by first | exact Kd.R_nil _ _ _ _ _ | exact Kd.N_nil _ _ _ _ _ | exact Kd.V_nil _ _ _ _ _ | exact Kd.Q_nil _ _ _ _ _ | exact Kd.S_nil _ _ _ _ _, by repeat (first | (with_reducible first | exact HB.out | apply below_alloc | apply pw_below_drewN | apply below_drew1 | refine below_set ?_ GE232.out) | exact HB.out)⟩
            ·replace c50 := Bool.eq_false_iff.mpr c50
             subst c50
             have H1 : (if (rdOf ByteArray.empty t238 2).toList = ([72, 84, 84, 80, 47, 49, 46, 48] : List UInt8) then (ostiaryref13_Parse.j3 kj33 t233 t238 (rdOf ByteArray.empty t238 2) false) else (ostiaryref13_Parse.j3 kj33 t233 t238 (rdOf ByteArray.empty t238 2) ((rdOf ByteArray.empty t238 2).toList != ([72, 84, 84, 80, 47, 49, 46, 49] : List UInt8)))) = some (r1, r2, r3, r4, r5) := by rw [if_neg (show ¬ (false = true) by decide)] at H; exact H
             clear H
             have H := H1
             clear H1
             have HC52 := Aside0.mk H
             clear H
             go_upto_region 12 with (fail)
             go_cut [95] (fun v95 wc => ∃ (kq : Nat) (x95_51 : Bool), v95 = .bool x95_51 ∧ Aside0 (ostiaryref13_Parse.j3 kq t233 t238 (rdOf ByteArray.empty t238 2) x95_51 = some (r1, r2, r3, r4, r5)) ∧ Aside0 (kq ≤ kj33) ∧ Aside0 (Kd.R Kd.string 9 wc w.heap.size (fun k_ => some k_ ≠ ((.slice (some ad246) t238.length co35) : Value).ownBlock) (.slice (some ad237) t233.length co16) t233) ∧ Aside0 (Kd.R Kd.string 9 wc w.heap.size (fun k_ => some k_ ≠ ((.slice (some ad237) t233.length co16) : Value).ownBlock) (.slice (some ad246) t238.length co35) t238) ∧ Aside0 (wc.heap[gb232]? = some (.cells #[.string (⟨#[]⟩ : ByteArray), .string (⟨#[]⟩ : ByteArray), .int .i64 0, (.slice none 0 0)] 24 (0, 0))) ∧ Aside0 (Below w.heap.size w wc))
             case first => as_aux_lemma =>
              have H := HC52.out
              clear HC52
              by_cases c53 : (rdOf ByteArray.empty t238 2).toList = ([72, 84, 84, 80, 47, 49, 46, 48] : List UInt8)
              ·rw [if_pos c53] at H
               have c53b0 : ((rdOf ByteArray.empty t238 2).toList == ([72, 84, 84, 80, 47, 49, 46, 48] : List UInt8)) = true := beq_iff_eq.mpr c53
               have c53b1 : ((rdOf ByteArray.empty t238 2).toList != ([72, 84, 84, 80, 47, 49, 46, 48] : List UInt8)) = false := bne_eq_false_iff_eq.mpr c53
               clear c53
               (first | rw [c53b0] | (simp only [i64_w, i32_w]; rw [c53b0]) | skip)
               have H' := Aside0.mk H
               clear H
               go_wp2
               go_meet
               case rel => exact ⟨_, (false), (by first | rfl | (simp; done) | (simp [*]; done)), H', ⟨by have := HJ5.out; have := HJ14.out; have := HJ33.out; first | omega | exact Nat.le_refl _⟩, ⟨by (with_reducible repeat (first | apply Kd.R_alloc | apply Kd.R_drewN | apply Kd.R_drew)); exact HO_4.out⟩, ⟨by (with_reducible repeat (first | apply Kd.R_alloc | apply Kd.R_drewN | apply Kd.R_drew)); exact HO_6.out⟩, ⟨by (with_reducible repeat (first | refine blk_drewN ?_ _ | refine blk_drew ?_ | refine blk_alloc ?_ _)); exact BK232.out⟩, ⟨by repeat (first | (with_reducible first | exact HB.out | apply below_alloc | apply pw_below_drewN | apply below_drew1 | refine below_set ?_ GE232.out) | exact HB.out)⟩⟩
              ·rw [if_neg c53] at H
               have c53b0 : ((rdOf ByteArray.empty t238 2).toList == ([72, 84, 84, 80, 47, 49, 46, 48] : List UInt8)) = false := beq_eq_false_iff_ne.mpr c53
               have c53b1 : ((rdOf ByteArray.empty t238 2).toList != ([72, 84, 84, 80, 47, 49, 46, 48] : List UInt8)) = true := bne_iff_ne.mpr c53
               (first | rw [c53b0] | (simp only [i64_w, i32_w]; rw [c53b0]) | skip)
               have H' := Aside0.mk H
               clear H
               go_wp2
               go_meet
               case rel => exact ⟨_, (((rdOf ByteArray.empty t238 2).toList != ([72, 84, 84, 80, 47, 49, 46, 49] : List UInt8))), (by first | rfl | (simp; done) | (simp [*]; done)), H', ⟨by have := HJ5.out; have := HJ14.out; have := HJ33.out; first | omega | exact Nat.le_refl _⟩, ⟨by (with_reducible repeat (first | apply Kd.R_alloc | apply Kd.R_drewN | apply Kd.R_drew)); exact HO_4.out⟩, ⟨by (with_reducible repeat (first | apply Kd.R_alloc | apply Kd.R_drewN | apply Kd.R_drew)); exact HO_6.out⟩, ⟨by (with_reducible repeat (first | refine blk_drewN ?_ _ | refine blk_drew ?_ | refine blk_alloc ?_ _)); exact BK232.out⟩, ⟨by repeat (first | (with_reducible first | exact HB.out | apply below_alloc | apply pw_below_drewN | apply below_drew1 | refine below_set ?_ GE232.out) | exact HB.out)⟩⟩
             case rest => as_aux_lemma =>
              clear HC52
              try clear c1
              try clear c2
              try clear c2b0
              try clear c2b1
              try clear p2
              try clear q2
              try clear hx2
              try clear qi2
              try clear c3
              try clear c4
              try clear p4
              try clear q4
              try clear hx4
              try clear qi4
              try clear c5
              try clear c8
              try clear c9
              try clear c11
              try clear c13
              try clear c13b0
              try clear c13b1
              try clear c18
              try clear c18b0
              try clear c18b1
              try clear c19
              try clear c19b0
              try clear c19b1
              try clear c20
              try clear c20b0
              try clear c20b1
              try clear c22
              try clear c22b0
              try clear c22b1
              try clear c23
              try clear c23b0
              try clear c23b1
              try clear p23
              try clear q23
              try clear hx23
              try clear qi23
              try clear p24
              try clear q24
              try clear hx24
              try clear qi24
              try clear c25
              try clear c25b0
              try clear c25b1
              try clear c26
              try clear c26b0
              try clear c26b1
              try clear c31
              try clear c33
              try clear c33b0
              try clear c33b1
              try clear c36
              try clear c36b0
              try clear c36b1
              try clear c37
              try clear c37b0
              try clear c37b1
              try clear c38
              try clear c38b0
              try clear c38b1
              try clear c39
              try clear c39b0
              try clear c39b1
              try clear c40
              try clear c40b0
              try clear c40b1
              try clear p41
              try clear q41
              try clear hx41
              try clear qi41
              try clear c42
              try clear c43
              try clear c44
              try clear c44b0
              try clear c44b1
              try clear p45
              try clear q45
              try clear hx45
              try clear qi45
              try clear c46
              try clear c46b0
              try clear c46b1
              try clear c47
              try clear c47b0
              try clear c47b1
              try clear p48
              try clear q48
              try clear hx48
              try clear qi48
              try clear c50
              try clear c53
              try clear c53b0
              try clear c53b1
              try clear hcz12_0
              try clear hcz12_1
              try clear hcz12_2
              try clear hcz12_3
              try clear hcz32_0
              try clear hcz32_1
              try clear hcz32_2
              try clear hcz32_3
              try clear hcz4_0
              try clear hcz4_1
              try clear hcz4_2
              try clear hcz4_3
              try clear hcz51_0
              try clear hcz51_1
              try clear hcz51_2
              try clear hcz51_3
              try clear hfz12_0
              try clear hfz12_1
              try clear hfz12_2
              try clear hfz12_3
              try clear hfz32_0
              try clear hfz32_1
              try clear hfz32_2
              try clear hfz32_3
              try clear hfz4_0
              try clear hfz4_1
              try clear hfz4_2
              try clear hfz4_3
              try clear hfz51_0
              try clear hfz51_1
              try clear hfz51_2
              try clear hfz51_3
              try clear hx237_0
              try clear hx241_0
              try clear hx242_0
              try clear hx243_0
              try clear hx244_0
              try clear hx246_0
              try clear p2
              try clear p23
              try clear p237
              try clear p24
              try clear p241
              try clear p242
              try clear p243
              try clear p244
              try clear p246
              try clear p4
              try clear p41
              try clear p45
              try clear p48
              try clear q2
              try clear q23
              try clear q237
              try clear q24
              try clear q241
              try clear q242
              try clear q243
              try clear q244
              try clear q246
              try clear q4
              try clear q41
              try clear q45
              try clear q48
              obtain ⟨kq, x95_51, rfl, HA, HJ51, HO_4, HO_6, BK232, HB⟩ := hcut
              cases kq with
              | zero => exact absurd HA.out (by simp [ostiaryref13_Parse.j3])
              | succ kj51 =>
               have H := HA.out
               clear HA
               simp only [ostiaryref13_Parse.j3] at H
               by_cases c54 : x95_51 = true
               ·subst c54
                have H1 : (some ((⟨#[]⟩ : ByteArray), (⟨#[]⟩ : ByteArray), 0, ([] : List (S67)), 505)) = some (r1, r2, r3, r4, r5) := by rw [if_pos rfl] at H; exact H
                clear H
                have H := H1
                clear H1
                simp only [Option.some.injEq, Prod.mk.injEq] at H
                obtain ⟨rfl, rfl, rfl, rfl, rfl⟩ := H
                have hcz55_0 : wc.cell? ⟨gb232, 0, none⟩ = some (.string (⟨#[]⟩ : ByteArray)) := (blk_cell BK232.out 0).trans rfl
                have hcz55_1 : wc.cell? ⟨gb232, 1, none⟩ = some (.string (⟨#[]⟩ : ByteArray)) := (blk_cell BK232.out 1).trans rfl
                have hcz55_2 : wc.cell? ⟨gb232, 2, none⟩ = some (.int .i64 0) := (blk_cell BK232.out 2).trans rfl
                have hcz55_3 : wc.cell? ⟨gb232, 3, none⟩ = some (.slice none 0 0) := (blk_cell BK232.out 3).trans rfl
                have hfz55_0 := blk_frozen BK232.out 0
                have hfz55_1 := blk_frozen BK232.out 1
                have hfz55_2 := blk_frozen BK232.out 2
                have hfz55_3 := blk_frozen BK232.out 3
                go_wp2
                refine bodyPost_ret (results_ct rfl _ _ gb232 24 #[.string (⟨#[]⟩ : ByteArray), .string (⟨#[]⟩ : ByteArray), .int .i64 0, .slice none 0 0] (0, 0) _ rfl (by (with_reducible repeat (first | refine blk_drewN ?_ _ | refine blk_drew ?_ | refine blk_alloc ?_ _)); refine blk_put (cs := #[.string (⟨#[]⟩ : ByteArray), .string (⟨#[]⟩ : ByteArray), .int .i64 0, .slice none 0 0]) ?_ 3 _ rfl; (with_reducible repeat (first | refine blk_drewN ?_ _ | refine blk_drew ?_ | refine blk_alloc ?_ _)); refine blk_put (cs := #[.string (⟨#[]⟩ : ByteArray), .string (⟨#[]⟩ : ByteArray), .int .i64 0, .slice none 0 0]) ?_ 2 _ rfl; (with_reducible repeat (first | refine blk_drewN ?_ _ | refine blk_drew ?_ | refine blk_alloc ?_ _)); refine blk_put (cs := #[.string (⟨#[]⟩ : ByteArray), .string (⟨#[]⟩ : ByteArray), .int .i64 0, .slice none 0 0]) ?_ 1 _ rfl; (with_reducible repeat (first | refine blk_drewN ?_ _ | refine blk_drew ?_ | refine blk_alloc ?_ _)); refine blk_put (cs := #[.string (⟨#[]⟩ : ByteArray), .string (⟨#[]⟩ : ByteArray), .int .i64 0, .slice none 0 0]) ?_ 0 _ rfl; (with_reducible repeat (first | refine blk_drewN ?_ _ | refine blk_drew ?_ | refine blk_alloc ?_ _)); exact BK232.out) Tryd.underlying24 rfl (by kernel_rfl)) rfl ?_
                exact ⟨_, by first | rfl | (simp [errW_none, errW_some] <;> rfl) | (simp [*, errW_none, errW_some] <;> rfl), by first | exact Kd.R_nil _ _ _ _ _ | exact Kd.N_nil _ _ _ _ _ | exact Kd.V_nil _ _ _ _ _ | exact Kd.Q_nil _ _ _ _ _ | exact Kd.S_nil _ _ _ _ _, by repeat (first | (with_reducible first | exact HB.out | apply below_alloc | apply pw_below_drewN | apply below_drew1 | refine below_set ?_ GE232.out) | exact HB.out)⟩
               ·replace c54 := Bool.eq_false_iff.mpr c54
                subst c54
                have H1 : (if 1 < (t238.length : Int) then (if ((rdOf ByteArray.empty t238 1).size : Int) > 2048 then (some ((⟨#[]⟩ : ByteArray), (⟨#[]⟩ : ByteArray), 0, ([] : List (S67)), 414)) else ((ostiaryref13_target.f kj51 (rdOf ByteArray.empty t238 1)).bind fun t251 => (if t251 = true then (if 0 < (t238.length : Int) then (if 7 < ((rdOf ByteArray.empty t238 2).size : Int) then (ostiaryref13_Parse.l0 kj51 t233 1 (rdOf ByteArray.empty t238 0) (rdOf ByteArray.empty t238 1) (wrap64 (((bt (rdOf ByteArray.empty t238 2) 7) - 48) % 256)) ([] : List (S67))) else (none)) else (none)) else (some ((⟨#[]⟩ : ByteArray), (⟨#[]⟩ : ByteArray), 0, ([] : List (S67)), 400))))) else (none)) = some (r1, r2, r3, r4, r5) := by rw [if_neg (show ¬ (false = true) by decide)] at H; exact H
                clear H
                have H := H1
                clear H1
                by_cases c56 : 1 < (t238.length : Int)
                ·rw [if_pos c56] at H
                 have c56b0 : decide (1 < (t238.length : Int)) = true := decide_eq_true c56
                 have c56b1 : decide (1 < t238.length) = true := decide_eq_true (by omega)
                 clear c56
                 by_cases c57 : ((rdOf ByteArray.empty t238 1).size : Int) > 2048
                 ·rw [if_pos c57] at H
                  have c57b0 : decide (2048 < ((rdOf ByteArray.empty t238 1).size : Int)) = true := decide_eq_true c57
                  have c57b1 : decide (2048 < (rdOf ByteArray.empty t238 1).size) = true := decide_eq_true (by omega)
                  clear c57
                  simp only [Option.some.injEq, Prod.mk.injEq] at H
                  obtain ⟨rfl, rfl, rfl, rfl, rfl⟩ := H
                  have p249 : 0 ≤ (1 : Int) := (by omega)
                  have q249 : 1 < (t238.length : Int) := of_decide_eq_true (by first | (with_reducible assumption) | assumption)
                  obtain ⟨ad249, e249, hx249_0⟩ := Kd.at_string (Kd.R_reads' HO_6.out).2.2 1 p249 q249
                  obtain rfl : ad246 = ad249 := (by injection e249)
                  (try simp only [show (1 : Int).toNat = 1 from rfl, Nat.reduceMul, Nat.reduceEqDiff, Go.Addr.add, ↓reduceIte] at hx249_0)
                  have qi249 : (1 < t238.length) = True := eq_true (by omega)
                  (try rw [show ((1 : Int)).toNat = 1 from rfl] at hx249_0)
                  replace p249 := eq_true p249
                  replace q249 := eq_true q249
                  have hcz58_0 : wc.cell? ⟨gb232, 0, none⟩ = some (.string (⟨#[]⟩ : ByteArray)) := (blk_cell BK232.out 0).trans rfl
                  have hcz58_1 : wc.cell? ⟨gb232, 1, none⟩ = some (.string (⟨#[]⟩ : ByteArray)) := (blk_cell BK232.out 1).trans rfl
                  have hcz58_2 : wc.cell? ⟨gb232, 2, none⟩ = some (.int .i64 0) := (blk_cell BK232.out 2).trans rfl
                  have hcz58_3 : wc.cell? ⟨gb232, 3, none⟩ = some (.slice none 0 0) := (blk_cell BK232.out 3).trans rfl
                  have hfz58_0 := blk_frozen BK232.out 0
                  have hfz58_1 := blk_frozen BK232.out 1
                  have hfz58_2 := blk_frozen BK232.out 2
                  have hfz58_3 := blk_frozen BK232.out 3
                  go_wp2
                  refine bodyPost_ret (results_ct rfl _ _ gb232 24 #[.string (⟨#[]⟩ : ByteArray), .string (⟨#[]⟩ : ByteArray), .int .i64 0, .slice none 0 0] (0, 0) _ rfl (by (with_reducible repeat (first | refine blk_drewN ?_ _ | refine blk_drew ?_ | refine blk_alloc ?_ _)); refine blk_put (cs := #[.string (⟨#[]⟩ : ByteArray), .string (⟨#[]⟩ : ByteArray), .int .i64 0, .slice none 0 0]) ?_ 3 _ rfl; (with_reducible repeat (first | refine blk_drewN ?_ _ | refine blk_drew ?_ | refine blk_alloc ?_ _)); refine blk_put (cs := #[.string (⟨#[]⟩ : ByteArray), .string (⟨#[]⟩ : ByteArray), .int .i64 0, .slice none 0 0]) ?_ 2 _ rfl; (with_reducible repeat (first | refine blk_drewN ?_ _ | refine blk_drew ?_ | refine blk_alloc ?_ _)); refine blk_put (cs := #[.string (⟨#[]⟩ : ByteArray), .string (⟨#[]⟩ : ByteArray), .int .i64 0, .slice none 0 0]) ?_ 1 _ rfl; (with_reducible repeat (first | refine blk_drewN ?_ _ | refine blk_drew ?_ | refine blk_alloc ?_ _)); refine blk_put (cs := #[.string (⟨#[]⟩ : ByteArray), .string (⟨#[]⟩ : ByteArray), .int .i64 0, .slice none 0 0]) ?_ 0 _ rfl; (with_reducible repeat (first | refine blk_drewN ?_ _ | refine blk_drew ?_ | refine blk_alloc ?_ _)); exact BK232.out) Tryd.underlying24 rfl (by kernel_rfl)) rfl ?_
                  exact ⟨_, by first | rfl | (simp [errW_none, errW_some] <;> rfl) | (simp [*, errW_none, errW_some] <;> rfl), by first | exact Kd.R_nil _ _ _ _ _ | exact Kd.N_nil _ _ _ _ _ | exact Kd.V_nil _ _ _ _ _ | exact Kd.Q_nil _ _ _ _ _ | exact Kd.S_nil _ _ _ _ _, by repeat (first | (with_reducible first | exact HB.out | apply below_alloc | apply pw_below_drewN | apply below_drew1 | refine below_set ?_ GE232.out) | exact HB.out)⟩
                 ·rw [if_neg c57] at H
                  have c57b0 : decide (2048 < ((rdOf ByteArray.empty t238 1).size : Int)) = false := decide_eq_false c57
                  have c57b1 : decide (2048 < (rdOf ByteArray.empty t238 1).size) = false := decide_eq_false (by omega)
                  clear c57
                  replace H := Option.bind_eq_some_iff.mp H
                  obtain ⟨t251, A590, H⟩ := H
                  replace H : (if t251 = true then (if 0 < (t238.length : Int) then (if 7 < ((rdOf ByteArray.empty t238 2).size : Int) then (ostiaryref13_Parse.l0 kj51 t233 1 (rdOf ByteArray.empty t238 0) (rdOf ByteArray.empty t238 1) (wrap64 (((bt (rdOf ByteArray.empty t238 2) 7) - 48) % 256)) ([] : List (S67))) else (none)) else (none)) else (some ((⟨#[]⟩ : ByteArray), (⟨#[]⟩ : ByteArray), 0, ([] : List (S67)), 400))) = some (r1, r2, r3, r4, r5) := H
                  have A59 := Aside0.mk A590
                  clear A590
                  by_cases c60 : t251 = true
                  ·subst c60
                   have H1 : (if 0 < (t238.length : Int) then (if 7 < ((rdOf ByteArray.empty t238 2).size : Int) then (ostiaryref13_Parse.l0 kj51 t233 1 (rdOf ByteArray.empty t238 0) (rdOf ByteArray.empty t238 1) (wrap64 (((bt (rdOf ByteArray.empty t238 2) 7) - 48) % 256)) ([] : List (S67))) else (none)) else (none)) = some (r1, r2, r3, r4, r5) := by rw [if_pos rfl] at H; exact H
                   clear H
                   have H := H1
                   clear H1
                   by_cases c61 : 0 < (t238.length : Int)
                   ·rw [if_pos c61] at H
                    have c61b0 : decide (0 < (t238.length : Int)) = true := decide_eq_true c61
                    have c61b1 : decide (0 < t238.length) = true := decide_eq_true (by omega)
                    clear c61
                    by_cases c62 : 7 < ((rdOf ByteArray.empty t238 2).size : Int)
                    ·rw [if_pos c62] at H
                     have c62b0 : decide (7 < ((rdOf ByteArray.empty t238 2).size : Int)) = true := decide_eq_true c62
                     have c62b1 : decide (7 < (rdOf ByteArray.empty t238 2).size) = true := decide_eq_true (by omega)
                     clear c62
                     have H' := Aside0.mk H
                     clear H
                     have p249 : 0 ≤ (1 : Int) := (by omega)
                     have q249 : 1 < (t238.length : Int) := of_decide_eq_true (by first | (with_reducible assumption) | assumption)
                     obtain ⟨ad249, e249, hx249_0⟩ := Kd.at_string (Kd.R_reads' HO_6.out).2.2 1 p249 q249
                     obtain rfl : ad246 = ad249 := (by injection e249)
                     (try simp only [show (1 : Int).toNat = 1 from rfl, Nat.reduceMul, Nat.reduceEqDiff, Go.Addr.add, ↓reduceIte] at hx249_0)
                     have qi249 : (1 < t238.length) = True := eq_true (by omega)
                     (try rw [show ((1 : Int)).toNat = 1 from rfl] at hx249_0)
                     replace p249 := eq_true p249
                     replace q249 := eq_true q249
                     have p250 : 0 ≤ (1 : Int) := (by omega)
                     have q250 : 1 < (t238.length : Int) := of_decide_eq_true (by first | (with_reducible assumption) | assumption)
                     obtain ⟨ad250, e250, hx250_0⟩ := Kd.at_string (Kd.R_reads' HO_6.out).2.2 1 p250 q250
                     obtain rfl : ad246 = ad250 := (by injection e250)
                     (try simp only [show (1 : Int).toNat = 1 from rfl, Nat.reduceMul, Nat.reduceEqDiff, Go.Addr.add, ↓reduceIte] at hx250_0)
                     have qi250 : (1 < t238.length) = True := eq_true (by omega)
                     (try rw [show ((1 : Int)).toNat = 1 from rfl] at hx250_0)
                     replace p250 := eq_true p250
                     replace q250 := eq_true q250
                     try go_wp2_with (first | ((with_reducible refine gate_callee (f := 84) rfl ?_); refine goesL_ (some 106) rfl rfl Tryd.func84 (by kernel_rfl) rfl #[.string (rdOf ByteArray.empty t238 1)] rfl (by (try simp only [List.map_toArray, List.map_cons, List.map_nil]); first | done | rfl | (simp only [List.length_drop, List.length_take]; rfl)) ?_; (with_reducible refine (ostiaryref13_target.calls kj51 (rdOf ByteArray.empty t238 1) true _ A59.out).mono ?_); rintro e w' ⟨rfl, ⟨nd, rfl⟩⟩; refine ⟨_, rfl, ?_⟩; (try (rw [drewN_self wc]; generalize hq_ : World.drewN wc _ = wc; have n0_ : Aside0 (Kd.R Kd.string 9 wc w.heap.size (fun k_ => some k_ ≠ (.slice (some ad246) t238.length co35 : Value).ownBlock) (.slice (some ad237) t233.length co16) t233) := ⟨by rw [← hq_]; exact (by (with_reducible repeat (first | apply Kd.R_alloc | apply Kd.R_drewN | apply Kd.R_drew)); exact HO_4.out)⟩; have n1_ : Aside0 (Kd.R Kd.string 9 wc w.heap.size (fun k_ => some k_ ≠ (.slice (some ad237) t233.length co16 : Value).ownBlock) (.slice (some ad246) t238.length co35) t238) := ⟨by rw [← hq_]; exact (by (with_reducible repeat (first | apply Kd.R_alloc | apply Kd.R_drewN | apply Kd.R_drew)); exact HO_6.out)⟩; have n2_ : Aside0 (wc.heap[gb232]? = some (.cells #[.string (⟨#[]⟩ : ByteArray), .string (⟨#[]⟩ : ByteArray), .int .i64 0, .slice none 0 0] 24 (0, 0))) := ⟨by rw [← hq_]; exact (by (with_reducible repeat (first | refine blk_drewN ?_ _ | refine blk_drew ?_ | refine blk_alloc ?_ _)); exact BK232.out)⟩; have n3_ : Aside0 (Below w.heap.size w wc) := ⟨by rw [← hq_]; exact (by repeat (first | (with_reducible first | exact HB.out | apply below_alloc | apply pw_below_drewN | apply below_drew1 | refine below_set ?_ GE232.out) | exact HB.out))⟩; clear HO_4 HO_6 BK232 HB hq_; have HO_4 := n0_; have HO_6 := n1_; have BK232 := n2_; have HB := n3_; clear n0_ n1_ n2_ n3_))))
                     have n0_ := Aside0.mk (Kd.R_drew HO_4.out)
                     have n1_ := Aside0.mk (Kd.R_drew HO_6.out)
                     have n2_ := Aside0.mk (blk_drew BK232.out)
                     have n3_ := Aside0.mk (below_drew1 HB.out)
                     clear HO_4
                     clear HO_6
                     clear BK232
                     clear HB
                     have HO_4 := n0_
                     have HO_6 := n1_
                     have BK232 := n2_
                     have HB := n3_
                     clear n0_ n1_ n2_ n3_
                     have p252 : 0 ≤ (0 : Int) := (by omega)
                     have q252 : 0 < (t238.length : Int) := of_decide_eq_true (by first | (with_reducible assumption) | assumption)
                     obtain ⟨ad252, e252, hx252_0⟩ := Kd.at_string (Kd.R_reads' HO_6.out).2.2 0 p252 q252
                     obtain rfl : ad246 = ad252 := (by injection e252)
                     have qi252 : (0 < t238.length) = True := eq_true (by omega)
                     (try rw [show ((0 : Int)).toNat = 0 from rfl] at hx252_0)
                     (try rw [Addr.add_zero'] at hx252_0)
                     replace p252 := eq_true p252
                     replace q252 := eq_true q252
                     have p253 : 0 ≤ (1 : Int) := (by omega)
                     have q253 : 1 < (t238.length : Int) := of_decide_eq_true (by first | (with_reducible assumption) | assumption)
                     obtain ⟨ad253, e253, hx253_0⟩ := Kd.at_string (Kd.R_reads' HO_6.out).2.2 1 p253 q253
                     obtain rfl : ad246 = ad253 := (by injection e253)
                     (try simp only [show (1 : Int).toNat = 1 from rfl, Nat.reduceMul, Nat.reduceEqDiff, Go.Addr.add, ↓reduceIte] at hx253_0)
                     have qi253 : (1 < t238.length) = True := eq_true (by omega)
                     (try rw [show ((1 : Int)).toNat = 1 from rfl] at hx253_0)
                     replace p253 := eq_true p253
                     replace q253 := eq_true q253
                     have p63 : 0 ≤ (7 : Int) := (by omega)
                     have q63 : 7 < (rdOf ByteArray.empty t238 2).size := (by have : (7 : Int) < ((rdOf ByteArray.empty t238 2).size : Int) := of_decide_eq_true (by first | (with_reducible assumption) | assumption); omega)
                     have hx63 : ∀ h : 7 < (rdOf ByteArray.empty t238 2).size, (((rdOf ByteArray.empty t238 2)[7]'h).toNat : Int) = bt (rdOf ByteArray.empty t238 2) 7 := bt_at (rdOf ByteArray.empty t238 2) 7
                     clear p63
                     have qi63 : (7 < ((rdOf ByteArray.empty t238 2).size : Int)) = True := eq_true (of_decide_eq_true (by first | (with_reducible assumption) | assumption))
                     replace q63 := eq_true q63
                     refine start_ (n := 13) (S := fun w' => w'.cell? ad246 = some (.string (rdOf ByteArray.empty t238 0)) ∧ w'.cell? ⟨ad246.block, ad246.off + 1, none⟩ = some (.string (rdOf ByteArray.empty t238 1))) (ds := []) #[false, false, false, false, false, false, false, false, false, false, false, false, false] (by kernel_rfl) rfl rfl ⟨hx252_0, hx253_0⟩ (fun hHeld => ?_); refine with_tabW ostiaryref13_Parse.tab18 ostiaryref13_Parse.bits18 (fun HT_ HW_ => ?_)
                     generalize wc.drew = w64 at HO_4 HO_6 BK232 HB hx252_0 hx253_0 hHeld ⊢
                     refine pure_ (i := 0) (N := some 109) (v := ?_) (a' := ?_) #[true, false, false, false, false, false, false, false, false, false, false, false, false] rfl rfl (any_of HT_.out (by kernel_rfl)) (fun _ _ _ h => h) (Or.inl ⟨by rfl, ?_⟩) ?_ ?_
                     rotate_left
                     ·intro w'
                      go_simp
                      with_reducible rfl
                     rotate_left
                     ·simp only [Act.put, List.setIfInBounds_toArray, List.set_cons_zero, List.set_cons_succ, i64_w, i32_w]
                      rfl
                     refine pure_ (i := 1) (N := some 110) (v := ?_) (a' := ?_) #[true, true, false, false, false, false, false, false, false, false, false, false, false] rfl rfl (any_of HT_.out (by kernel_rfl)) (fun _ _ _ h => h) (Or.inl ⟨by rfl, ?_⟩) ?_ ?_
                     rotate_left
                     ·intro w'
                      go_simp
                      with_reducible rfl
                     rotate_left
                     ·simp only [Act.put, List.setIfInBounds_toArray, List.set_cons_zero, List.set_cons_succ, i64_w, i32_w]
                      rfl
                     refine pure_ (i := 3) (N := some 112) (v := ?_) (a' := ?_) #[true, true, false, true, false, false, false, false, false, false, false, false, false] rfl rfl (any_of HT_.out (by kernel_rfl)) (fun _ _ _ h => h) (Or.inl ⟨by rfl, ?_⟩) ?_ ?_
                     rotate_left
                     ·intro w'
                      go_simp
                      with_reducible rfl
                     rotate_left
                     ·simp only [Act.put, List.setIfInBounds_toArray, List.set_cons_zero, List.set_cons_succ, i64_w, i32_w]
                      rfl
                     refine pure_ (i := 4) (N := some 113) (v := ?_) (a' := ?_) #[true, true, false, true, true, false, false, false, false, false, false, false, false] rfl rfl (any_of HT_.out (by kernel_rfl)) (fun _ _ _ h => h) (Or.inl ⟨by rfl, ?_⟩) ?_ ?_
                     rotate_left
                     ·intro w'
                      go_simp
                      with_reducible rfl
                     rotate_left
                     ·simp only [Act.put, List.setIfInBounds_toArray, List.set_cons_zero, List.set_cons_succ, i64_w, i32_w]
                      rfl
                     refine pure_ (i := 6) (N := some 115) (v := ?_) (a' := ?_) #[true, true, false, true, true, false, true, false, false, false, false, false, false] rfl rfl (any_of HT_.out (by kernel_rfl)) (fun _ _ _ h => h) (Or.inl ⟨by rfl, ?_⟩) ?_ ?_
                     rotate_left
                     ·intro w'
                      go_simp
                      with_reducible rfl
                     rotate_left
                     ·simp only [Act.put, List.setIfInBounds_toArray, List.set_cons_zero, List.set_cons_succ, i64_w, i32_w]
                      rfl
                     refine take_ (i := 2) (N := some 111) (v := ?_) (a' := ?_) #[true, true, true, true, true, false, true, false, false, false, false, false, false] rfl rfl (take_ofW HT_.out HW_.out (by kernel_rfl)) (fun _ _ _ h => h) (Or.inl ⟨by rfl, ?_⟩) hHeld ?_ ?_
                     rotate_left
                     ·rintro w' ⟨s0, s1⟩
                      go_simp
                      with_reducible rfl
                     rotate_left
                     ·simp only [Act.put, List.setIfInBounds_toArray, List.set_cons_zero, List.set_cons_succ, i64_w, i32_w]
                      rfl
                     refine take_ (i := 5) (N := some 114) (v := ?_) (a' := ?_) #[true, true, true, true, true, true, true, false, false, false, false, false, false] rfl rfl (take_ofW HT_.out HW_.out (by kernel_rfl)) (fun _ _ _ h => h) (Or.inl ⟨by rfl, ?_⟩) hHeld ?_ ?_
                     rotate_left
                     ·rintro w' ⟨s0, s1⟩
                      go_simp
                      with_reducible rfl
                     rotate_left
                     ·simp only [Act.put, List.setIfInBounds_toArray, List.set_cons_zero, List.set_cons_succ, i64_w, i32_w]
                      rfl
                     refine take_ (i := 7) (N := some 116) (v := ?_) (a' := ?_) #[true, true, true, true, true, true, true, true, false, false, false, false, false] rfl rfl (take_ofW HT_.out HW_.out (by kernel_rfl)) (fun _ _ _ h => h) (Or.inl ⟨by rfl, ?_⟩) hHeld ?_ ?_
                     rotate_left
                     ·rintro w' ⟨s0, s1⟩
                      go_simp
                      with_reducible rfl
                     rotate_left
                     ·simp only [Act.put, List.setIfInBounds_toArray, List.set_cons_zero, List.set_cons_succ, i64_w, i32_w]
                      rfl
                     refine pure_ (i := 8) (N := some 117) (v := ?_) (a' := ?_) #[true, true, true, true, true, true, true, true, true, false, false, false, false] rfl rfl (any_of HT_.out (by kernel_rfl)) (fun _ _ _ h => h) (Or.inl ⟨by rfl, ?_⟩) ?_ ?_
                     rotate_left
                     ·intro w'
                      go_simp
                      with_reducible rfl
                     rotate_left
                     ·simp only [Act.put, List.setIfInBounds_toArray, List.set_cons_zero, List.set_cons_succ, i64_w, i32_w]
                      rfl
                     refine pure_ (i := 9) (N := some 118) (v := ?_) (a' := ?_) #[true, true, true, true, true, true, true, true, true, true, false, false, false] rfl rfl (any_of HT_.out (by kernel_rfl)) (fun _ _ _ h => h) (Or.inl ⟨by rfl, ?_⟩) ?_ ?_
                     rotate_left
                     ·intro w'
                      go_simp
                      with_reducible rfl
                     rotate_left
                     ·simp only [Act.put, List.setIfInBounds_toArray, List.set_cons_zero, List.set_cons_succ, i64_w, i32_w]
                      rfl
                     refine pure_ (i := 10) (N := some 119) (v := ?_) (a' := ?_) #[true, true, true, true, true, true, true, true, true, true, true, false, false] rfl rfl (any_of HT_.out (by kernel_rfl)) (fun _ _ _ h => h) (Or.inl ⟨by rfl, ?_⟩) ?_ ?_
                     rotate_left
                     ·intro w'
                      go_simp
                      with_reducible rfl
                     rotate_left
                     ·simp only [Act.put, List.setIfInBounds_toArray, List.set_cons_zero, List.set_cons_succ, i64_w, i32_w]
                      rfl
                     refine one_ (i := 11) (N := some 8) #[true, true, true, true, true, true, true, true, true, true, true, true, false] rfl rfl (one_of HT_.out (by kernel_rfl)) (by decide) (fun K hK => ?_)
                     refine box_step ?hg (N := 8) ?hd (cs := #[.string (⟨#[]⟩ : ByteArray), .string (⟨#[]⟩ : ByteArray), .int .i64 0, .slice none 0 0]) (t := 24) ?hr ?_; (case hd => rfl); (case hg => rfl); (case hr => first | (go_simp; done) | (go_simp; rfl))
                     intro gb254 hg w65 hbox hb
                     have HS0_ := (hb.cell (World.block_lt_of_cell? _ _ (hHeld.1))).trans (hHeld.1)
                     have HS1_ := (hb.cell (World.block_lt_of_cell? _ _ (hHeld.2))).trans (hHeld.2)
                     have n0_ := Aside0.mk (Kd.R_below (by (with_reducible repeat (first | apply Kd.R_alloc | apply Kd.R_drewN | apply Kd.R_drew)); exact HO_4.out) hb)
                     have n1_ := Aside0.mk (Kd.R_below (by (with_reducible repeat (first | apply Kd.R_alloc | apply Kd.R_drewN | apply Kd.R_drew)); exact HO_6.out) hb)
                     have n2_ := Aside0.mk (blk_below (g := gb232) (o := .cells #[.string (⟨#[]⟩ : ByteArray), .string (⟨#[]⟩ : ByteArray), .int .i64 0, .slice none 0 0] 24 (0, 0)) (by (with_reducible repeat (first | refine blk_drewN ?_ _ | refine blk_drew ?_ | refine blk_alloc ?_ _)); exact BK232.out) hb)
                     have n3_ := Aside0.mk (below_step (by repeat (first | (with_reducible first | exact HB.out | apply below_alloc | apply pw_below_drewN | apply below_drew1 | refine below_set ?_ GE232.out) | exact HB.out)) hb)
                     have n4_ := Aside0.mk (hbox)
                     have n5_ := Aside0.mk ((by rw [hg]; exact (below_size (by repeat (first | (with_reducible first | exact HB.out | apply below_alloc | apply pw_below_drewN | apply below_drew1 | refine below_set ?_ GE232.out) | exact HB.out))) : w.heap.size ≤ gb254))
                     have n6_ := Aside0.mk ((by rw [hg]; exact (below_size (by repeat (first | (with_reducible first | exact HB.out | apply below_alloc | apply pw_below_drewN | apply below_drew1 | refine below_set ?_ GE232.out) | exact HB.out))) : w.heap.size ≤ gb254))
                     have n7_ := Aside0.mk ((by rw [hg]; exact Nat.ne_of_lt (blk_lt (g := gb232) (o := .cells #[.string (⟨#[]⟩ : ByteArray), .string (⟨#[]⟩ : ByteArray), .int .i64 0, .slice none 0 0] 24 (0, 0)) (by (with_reducible repeat (first | refine blk_drewN ?_ _ | refine blk_drew ?_ | refine blk_alloc ?_ _)); exact BK232.out)) : gb232 ≠ gb254))
                     have n8_ := Aside0.mk ((by rw [hg]; exact Nat.ne_of_gt (blk_lt (g := gb232) (o := .cells #[.string (⟨#[]⟩ : ByteArray), .string (⟨#[]⟩ : ByteArray), .int .i64 0, .slice none 0 0] 24 (0, 0)) (by (with_reducible repeat (first | refine blk_drewN ?_ _ | refine blk_drew ?_ | refine blk_alloc ?_ _)); exact BK232.out)) : gb254 ≠ gb232))
                     clear HO_4
                     clear HO_6
                     clear BK232
                     clear HB
                     have HO_4 := n0_
                     have HO_6 := n1_
                     have BK232 := n2_
                     have HB := n3_
                     have BK254 := n4_
                     have GW254 := n5_
                     have GE254 := n6_
                     have NB232_254 := n7_
                     have NB254_232 := n8_
                     clear n0_ n1_ n2_ n3_ n4_ n5_ n6_ n7_ n8_
                     clear hb hbox hg
                     refine hK.out _ _ ⟨HS0_, HS1_⟩ (fun hHeld => ?_)
                     clear hK K
                     refine norm_ (a' := ?_) ?_ ?_
                     rotate_left
                     ·show Act.put _ (some 8) _ = _
                      simp only [Act.put, List.setIfInBounds_toArray, List.set_cons_zero, List.set_cons_succ, i64_w, i32_w]
                      rfl
                     refine one_ (i := 12) (N := none) #[true, true, true, true, true, true, true, true, true, true, true, true, true] rfl rfl (one_of HT_.out (by kernel_rfl)) (by decide) (fun K hK => ?_)
                     have hs66 : w65.cell? ⟨gb254, 0, none⟩ = some (.string (⟨#[]⟩ : ByteArray)) := (blk_cell BK254.out 0).trans rfl
                     have hfs66 := blk_frozen BK254.out 0
                     have hns66_0 := NB232_254.out
                     have hms66_0 := NB254_232.out
                     have hs67 : w65.cell? ⟨gb254, 1, none⟩ = some (.string (⟨#[]⟩ : ByteArray)) := (blk_cell BK254.out 1).trans rfl
                     have hfs67 := blk_frozen BK254.out 1
                     have hns67_0 := NB232_254.out
                     have hms67_0 := NB254_232.out
                     have hs68 : w65.cell? ⟨gb254, 2, none⟩ = some (.int .i64 0) := (blk_cell BK254.out 2).trans rfl
                     have hfs68 := blk_frozen BK254.out 2
                     have hns68_0 := NB232_254.out
                     have hms68_0 := NB254_232.out
                     have hs69 : w65.cell? ⟨gb254, 3, none⟩ = some (.slice none 0 0) := (blk_cell BK254.out 3).trans rfl
                     have hfs69 := blk_frozen BK254.out 3
                     have hns69_0 := NB232_254.out
                     have hms69_0 := NB254_232.out
                     refine skip_ (w1 := ?_) (by rfl) rfl ?_ ?_
                     rotate_left
                     ·go_simp
                      rfl
                     refine hK.out _ _ ⟨(by have hne_ := Kd.own_blk (Kd.R_ne HO_6.out BK254.out (by decide)); exact ((cell_far (by exact hne_) _).trans (((cell_far (by exact hne_) _).trans (((cell_far (by exact hne_) _).trans (((cell_far (by exact hne_) _).trans (hHeld.1))))))))), (by have hne_ := Kd.own_blk (Kd.R_ne HO_6.out BK254.out (by decide)); exact ((cell_far (by exact hne_) _).trans (((cell_far (by exact hne_) _).trans (((cell_far (by exact hne_) _).trans (((cell_far (by exact hne_) _).trans (hHeld.2)))))))))⟩ (fun hHeld => ?_)
                     clear hK K
                     refine done_ (done_of HT_.out (by kernel_rfl)) ?_
                     try go_wp2
                     go_loopg [9] kj51 (fun kq v9 w' => ∃ (x9_5 : Int) (x233000_5 : ByteArray) (x233001_5 : ByteArray) (x233002_5 : Int) (x255003_5 : List (S67)) (u255003 : Value), v9 = .int .i64 x9_5 ∧ Aside0 (ostiaryref13_Parse.l0 kq t233 x9_5 (rdOf ByteArray.empty t238 0) (rdOf ByteArray.empty t238 1) (wrap64 (((bt (rdOf ByteArray.empty t238 2) 7) - 48) % 256)) x255003_5 = some (r1, r2, r3, r4, r5)) ∧ Aside0 (kq ≤ kj51) ∧ Aside0 (Kd.R Kd.string 9 w' w.heap.size (fun _ => True) (.slice (some ad237) t233.length co16) t233) ∧ Aside0 (Kd.R k67 67 w' w.heap.size (fun _ => True) u255003 x255003_5) ∧ Aside0 (w'.heap[gb232]? = some (.cells #[.string x233000_5, .string x233001_5, .int .i64 x233002_5, (.slice none 0 0)] 24 (0, 0))) ∧ Aside0 (w'.heap[gb254]? = some (.cells #[.string (rdOf ByteArray.empty t238 0), .string (rdOf ByteArray.empty t238 1), .int .i64 (wrap64 (((bt (rdOf ByteArray.empty t238 2) 7) - 48) % 256)), u255003] 24 (0, 0))) ∧ Aside0 (Below w.heap.size w w'))
                     case atStart => exact ⟨(1), ((⟨#[]⟩ : ByteArray)), ((⟨#[]⟩ : ByteArray)), (0), (([] : List (S67))), (.slice none 0 0), (by first | rfl | (simp; done) | (simp [*]; done)), H', ⟨Nat.le_refl _⟩, ⟨by (with_reducible repeat (first | apply Kd.R_alloc | apply Kd.R_drewN | apply Kd.R_drew)); exact Kd.R_mono (Kd.R_far (p := ⟨gb254, 3, none⟩) (Kd.R_far (p := ⟨gb254, 2, none⟩) (Kd.R_far (p := ⟨gb254, 1, none⟩) (Kd.R_far (p := ⟨gb254, 0, none⟩) (Kd.R_types HO_4.out BK254.out (by decide)) (fun _ hk => hk.2) (.string (rdOf ByteArray.empty t238 0))) (fun _ hk => hk.2) (.string (rdOf ByteArray.empty t238 1))) (fun _ hk => hk.2) (.int .i64 (wrap64 (((bt (rdOf ByteArray.empty t238 2) 7) - 48) % 256)))) (fun _ hk => hk.2) (.slice none 0 0)) (fun _ hk => trivial)⟩, ⟨by first | exact Kd.R_nil _ _ _ _ _ | exact Kd.N_nil _ _ _ _ _ | exact Kd.V_nil _ _ _ _ _ | exact Kd.Q_nil _ _ _ _ _ | exact Kd.S_nil _ _ _ _ _⟩, ⟨by (with_reducible repeat (first | refine blk_drewN ?_ _ | refine blk_drew ?_ | refine blk_alloc ?_ _)); refine blk_far ?_ NB232_254.out _; (with_reducible repeat (first | refine blk_drewN ?_ _ | refine blk_drew ?_ | refine blk_alloc ?_ _)); refine blk_far ?_ NB232_254.out _; (with_reducible repeat (first | refine blk_drewN ?_ _ | refine blk_drew ?_ | refine blk_alloc ?_ _)); refine blk_far ?_ NB232_254.out _; (with_reducible repeat (first | refine blk_drewN ?_ _ | refine blk_drew ?_ | refine blk_alloc ?_ _)); refine blk_far ?_ NB232_254.out _; (with_reducible repeat (first | refine blk_drewN ?_ _ | refine blk_drew ?_ | refine blk_alloc ?_ _)); exact BK232.out⟩, ⟨by (with_reducible repeat (first | refine blk_drewN ?_ _ | refine blk_drew ?_ | refine blk_alloc ?_ _)); refine blk_put (cs := #[.string (rdOf ByteArray.empty t238 0), .string (rdOf ByteArray.empty t238 1), .int .i64 (wrap64 (((bt (rdOf ByteArray.empty t238 2) 7) - 48) % 256)), .slice none 0 0]) ?_ 3 _ rfl; (with_reducible repeat (first | refine blk_drewN ?_ _ | refine blk_drew ?_ | refine blk_alloc ?_ _)); refine blk_put (cs := #[.string (rdOf ByteArray.empty t238 0), .string (rdOf ByteArray.empty t238 1), .int .i64 0, .slice none 0 0]) ?_ 2 _ rfl; (with_reducible repeat (first | refine blk_drewN ?_ _ | refine blk_drew ?_ | refine blk_alloc ?_ _)); refine blk_put (cs := #[.string (rdOf ByteArray.empty t238 0), .string (⟨#[]⟩ : ByteArray), .int .i64 0, .slice none 0 0]) ?_ 1 _ rfl; (with_reducible repeat (first | refine blk_drewN ?_ _ | refine blk_drew ?_ | refine blk_alloc ?_ _)); refine blk_put (cs := #[.string (⟨#[]⟩ : ByteArray), .string (⟨#[]⟩ : ByteArray), .int .i64 0, .slice none 0 0]) ?_ 0 _ rfl; (with_reducible repeat (first | refine blk_drewN ?_ _ | refine blk_drew ?_ | refine blk_alloc ?_ _)); exact BK254.out⟩, ⟨by repeat (first | (with_reducible first | exact HB.out | apply below_alloc | apply pw_below_drewN | apply below_drew1 | refine below_set ?_ GE232.out | refine below_set ?_ GE254.out) | exact HB.out)⟩⟩
                     case round => as_aux_lemma =>
                      clear H'
                      try clear c1
                      try clear c2
                      try clear c2b0
                      try clear c2b1
                      try clear p2
                      try clear q2
                      try clear hx2
                      try clear qi2
                      try clear c3
                      try clear c4
                      try clear p4
                      try clear q4
                      try clear hx4
                      try clear qi4
                      try clear c5
                      try clear c6
                      try clear p6
                      try clear q6
                      try clear hx6
                      try clear qi6
                      try clear c8
                      try clear c9
                      try clear c11
                      try clear c13
                      try clear c13b0
                      try clear c13b1
                      try clear c18
                      try clear c18b0
                      try clear c18b1
                      try clear c19
                      try clear c19b0
                      try clear c19b1
                      try clear c20
                      try clear c20b0
                      try clear c20b1
                      try clear c22
                      try clear c22b0
                      try clear c22b1
                      try clear c23
                      try clear c23b0
                      try clear c23b1
                      try clear p23
                      try clear q23
                      try clear hx23
                      try clear qi23
                      try clear p24
                      try clear q24
                      try clear hx24
                      try clear qi24
                      try clear c25
                      try clear c25b0
                      try clear c25b1
                      try clear p25
                      try clear q25
                      try clear hx25
                      try clear qi25
                      try clear c26
                      try clear c26b0
                      try clear c26b1
                      try clear c31
                      try clear c33
                      try clear c33b0
                      try clear c33b1
                      try clear c36
                      try clear c36b0
                      try clear c36b1
                      try clear c37
                      try clear c37b0
                      try clear c37b1
                      try clear c38
                      try clear c38b0
                      try clear c38b1
                      try clear c39
                      try clear c39b0
                      try clear c39b1
                      try clear c40
                      try clear c40b0
                      try clear c40b1
                      try clear p41
                      try clear q41
                      try clear hx41
                      try clear qi41
                      try clear c42
                      try clear c43
                      try clear c44
                      try clear c44b0
                      try clear c44b1
                      try clear p45
                      try clear q45
                      try clear hx45
                      try clear qi45
                      try clear c46
                      try clear c46b0
                      try clear c46b1
                      try clear c47
                      try clear c47b0
                      try clear c47b1
                      try clear p48
                      try clear q48
                      try clear hx48
                      try clear qi48
                      try clear c50
                      try clear c53
                      try clear c53b0
                      try clear c53b1
                      try clear c54
                      try clear c56
                      try clear c56b0
                      try clear c56b1
                      try clear c57
                      try clear c57b0
                      try clear c57b1
                      try clear c60
                      try clear c61
                      try clear c61b0
                      try clear c61b1
                      try clear c62
                      try clear c62b0
                      try clear c62b1
                      try clear p63
                      try clear q63
                      try clear hx63
                      try clear qi63
                      try clear p64
                      try clear hcz12_0
                      try clear hcz12_1
                      try clear hcz12_2
                      try clear hcz12_3
                      try clear hcz32_0
                      try clear hcz32_1
                      try clear hcz32_2
                      try clear hcz32_3
                      try clear hcz4_0
                      try clear hcz4_1
                      try clear hcz4_2
                      try clear hcz4_3
                      try clear hcz51_0
                      try clear hcz51_1
                      try clear hcz51_2
                      try clear hcz51_3
                      try clear hcz55_0
                      try clear hcz55_1
                      try clear hcz55_2
                      try clear hcz55_3
                      try clear hcz58_0
                      try clear hcz58_1
                      try clear hcz58_2
                      try clear hcz58_3
                      try clear hfz12_0
                      try clear hfz12_1
                      try clear hfz12_2
                      try clear hfz12_3
                      try clear hfz32_0
                      try clear hfz32_1
                      try clear hfz32_2
                      try clear hfz32_3
                      try clear hfz4_0
                      try clear hfz4_1
                      try clear hfz4_2
                      try clear hfz4_3
                      try clear hfz51_0
                      try clear hfz51_1
                      try clear hfz51_2
                      try clear hfz51_3
                      try clear hfz55_0
                      try clear hfz55_1
                      try clear hfz55_2
                      try clear hfz55_3
                      try clear hfz58_0
                      try clear hfz58_1
                      try clear hfz58_2
                      try clear hfz58_3
                      try clear hx237_0
                      try clear hx241_0
                      try clear hx242_0
                      try clear hx243_0
                      try clear hx244_0
                      try clear hx246_0
                      try clear hx249_0
                      try clear hx250_0
                      try clear hx252_0
                      try clear hx253_0
                      try clear p2
                      try clear p23
                      try clear p237
                      try clear p24
                      try clear p241
                      try clear p242
                      try clear p243
                      try clear p244
                      try clear p246
                      try clear p249
                      try clear p250
                      try clear p252
                      try clear p253
                      try clear p4
                      try clear p41
                      try clear p45
                      try clear p48
                      try clear p63
                      try clear q2
                      try clear q23
                      try clear q237
                      try clear q24
                      try clear q241
                      try clear q242
                      try clear q243
                      try clear q244
                      try clear q246
                      try clear q249
                      try clear q250
                      try clear q252
                      try clear q253
                      try clear q4
                      try clear q41
                      try clear q45
                      try clear q48
                      try clear q63
                      obtain ⟨x9_5, x233000_5, x233001_5, x233002_5, x255003_5, u255003, rfl, HA, HK5, HO_4, HO_255003, BK232, BK254, HB⟩ := hrel
                      cases gk with
                      | zero => exact absurd HA.out (by simp [ostiaryref13_Parse.l0])
                      | succ k5 =>
                       have H := HA.out
                       clear HA
                       simp only [ostiaryref13_Parse.l0] at H
                       by_cases c70 : x9_5 < (wrap64 ((t233.length : Int) - 1))
                       ·rw [if_pos c70] at H
                        have c70b0 : decide (x9_5 < (wrap64 ((t233.length : Int) - 1))) = true := decide_eq_true c70
                        clear c70
                        by_cases c71 : x9_5 > 32
                        ·rw [if_pos c71] at H
                         have c71b0 : decide (32 < x9_5) = true := decide_eq_true c71
                         clear c71
                         simp only [Option.some.injEq, Prod.mk.injEq] at H
                         obtain ⟨rfl, rfl, rfl, rfl, rfl⟩ := H
                         have hnb72 := NB232_254.out
                         have hnc72 := NB254_232.out
                         have hcz73_0 : wr.cell? ⟨gb232, 0, none⟩ = some (.string x233000_5) := (blk_cell BK232.out 0).trans rfl
                         have hcz73_1 : wr.cell? ⟨gb232, 1, none⟩ = some (.string x233001_5) := (blk_cell BK232.out 1).trans rfl
                         have hcz73_2 : wr.cell? ⟨gb232, 2, none⟩ = some (.int .i64 x233002_5) := (blk_cell BK232.out 2).trans rfl
                         have hcz73_3 : wr.cell? ⟨gb232, 3, none⟩ = some (.slice none 0 0) := (blk_cell BK232.out 3).trans rfl
                         have hfz73_0 := blk_frozen BK232.out 0
                         have hfz73_1 := blk_frozen BK232.out 1
                         have hfz73_2 := blk_frozen BK232.out 2
                         have hfz73_3 := blk_frozen BK232.out 3
                         go_wp2
                         refine bodyPost_ret (results_ct rfl _ _ gb232 24 #[.string (⟨#[]⟩ : ByteArray), .string (⟨#[]⟩ : ByteArray), .int .i64 0, .slice none 0 0] (0, 0) _ rfl (by (with_reducible repeat (first | refine blk_drewN ?_ _ | refine blk_drew ?_ | refine blk_alloc ?_ _)); refine blk_put (cs := #[.string (⟨#[]⟩ : ByteArray), .string (⟨#[]⟩ : ByteArray), .int .i64 0, .slice none 0 0]) ?_ 3 _ rfl; (with_reducible repeat (first | refine blk_drewN ?_ _ | refine blk_drew ?_ | refine blk_alloc ?_ _)); refine blk_put (cs := #[.string (⟨#[]⟩ : ByteArray), .string (⟨#[]⟩ : ByteArray), .int .i64 x233002_5, .slice none 0 0]) ?_ 2 _ rfl; (with_reducible repeat (first | refine blk_drewN ?_ _ | refine blk_drew ?_ | refine blk_alloc ?_ _)); refine blk_put (cs := #[.string (⟨#[]⟩ : ByteArray), .string x233001_5, .int .i64 x233002_5, .slice none 0 0]) ?_ 1 _ rfl; (with_reducible repeat (first | refine blk_drewN ?_ _ | refine blk_drew ?_ | refine blk_alloc ?_ _)); refine blk_put (cs := #[.string x233000_5, .string x233001_5, .int .i64 x233002_5, .slice none 0 0]) ?_ 0 _ rfl; (with_reducible repeat (first | refine blk_drewN ?_ _ | refine blk_drew ?_ | refine blk_alloc ?_ _)); exact BK232.out) Tryd.underlying24 rfl (by kernel_rfl)) rfl ?_
                         exact ⟨_, by first | rfl | (simp [errW_none, errW_some] <;> rfl) | (simp [*, errW_none, errW_some] <;> rfl), by first | exact Kd.R_nil _ _ _ _ _ | exact Kd.N_nil _ _ _ _ _ | exact Kd.V_nil _ _ _ _ _ | exact Kd.Q_nil _ _ _ _ _ | exact Kd.S_nil _ _ _ _ _, by repeat (first | (with_reducible first | exact HB.out | apply below_alloc | apply pw_below_drewN | apply below_drew1 | refine below_set ?_ GE232.out | refine below_set ?_ GE254.out) | exact HB.out)⟩
                        ·rw [if_neg c71] at H
                         have c71b0 : decide (32 < x9_5) = false := decide_eq_false c71
                         clear c71
                         have HC74 := Aside0.mk H
                         clear H
                         go_upto_block 2 with (fail)
                         go_cut [10] (fun v10 wc => ∃ (kq : Nat) (x10_73 : Int), v10 = .int .i64 x10_73 ∧ Aside0 (ostiaryref13_Parse.j6 kq t233 x9_5 x10_73 (rdOf ByteArray.empty t238 0) (rdOf ByteArray.empty t238 1) (wrap64 (((bt (rdOf ByteArray.empty t238 2) 7) - 48) % 256)) x255003_5 = some (r1, r2, r3, r4, r5)) ∧ Aside0 (kq ≤ k5) ∧ Aside0 (Kd.R Kd.string 9 wc w.heap.size (fun _ => True) (.slice (some ad237) t233.length co16) t233) ∧ Aside0 (Kd.R k67 67 wc w.heap.size (fun _ => True) u255003 x255003_5) ∧ Aside0 (wc.heap[gb232]? = some (.cells #[.string x233000_5, .string x233001_5, .int .i64 x233002_5, (.slice none 0 0)] 24 (0, 0))) ∧ Aside0 (wc.heap[gb254]? = some (.cells #[.string (rdOf ByteArray.empty t238 0), .string (rdOf ByteArray.empty t238 1), .int .i64 (wrap64 (((bt (rdOf ByteArray.empty t238 2) 7) - 48) % 256)), u255003] 24 (0, 0))) ∧ Aside0 (Below w.heap.size w wc))
                         case first => as_aux_lemma =>
                          have H := HC74.out
                          clear HC74
                          have H' := Aside0.mk H
                          clear H
                          go_wp2
                          go_loopg [10] k5 (fun kq v10 w' => ∃ (x10_6 : Int), v10 = .int .i64 x10_6 ∧ Aside0 (ostiaryref13_Parse.l1 kq t233 x9_5 x10_6 (rdOf ByteArray.empty t238 0) (rdOf ByteArray.empty t238 1) (wrap64 (((bt (rdOf ByteArray.empty t238 2) 7) - 48) % 256)) x255003_5 = some (r1, r2, r3, r4, r5)) ∧ Aside0 (kq ≤ k5) ∧ Aside0 (Kd.R Kd.string 9 w' w.heap.size (fun _ => True) (.slice (some ad237) t233.length co16) t233) ∧ Aside0 (Kd.R k67 67 w' w.heap.size (fun _ => True) u255003 x255003_5) ∧ Aside0 (w'.heap[gb232]? = some (.cells #[.string x233000_5, .string x233001_5, .int .i64 x233002_5, (.slice none 0 0)] 24 (0, 0))) ∧ Aside0 (w'.heap[gb254]? = some (.cells #[.string (rdOf ByteArray.empty t238 0), .string (rdOf ByteArray.empty t238 1), .int .i64 (wrap64 (((bt (rdOf ByteArray.empty t238 2) 7) - 48) % 256)), u255003] 24 (0, 0))) ∧ Aside0 (Below w.heap.size w w'))
                          case atStart => exact ⟨(0), (by first | rfl | (simp; done) | (simp [*]; done)), H', ⟨Nat.le_refl _⟩, ⟨by (with_reducible repeat (first | apply Kd.R_alloc | apply Kd.R_drewN | apply Kd.R_drew)); exact HO_4.out⟩, ⟨by (with_reducible repeat (first | apply Kd.R_alloc | apply Kd.R_drewN | apply Kd.R_drew)); exact HO_255003.out⟩, ⟨by (with_reducible repeat (first | refine blk_drewN ?_ _ | refine blk_drew ?_ | refine blk_alloc ?_ _)); exact BK232.out⟩, ⟨by (with_reducible repeat (first | refine blk_drewN ?_ _ | refine blk_drew ?_ | refine blk_alloc ?_ _)); exact BK254.out⟩, ⟨by repeat (first | (with_reducible first | exact HB.out | apply below_alloc | apply pw_below_drewN | apply below_drew1 | refine below_set ?_ GE232.out | refine below_set ?_ GE254.out) | exact HB.out)⟩⟩
                          case round => as_aux_lemma =>
                           clear H'
                           try clear c1
                           try clear c2
                           try clear c2b0
                           try clear c2b1
                           try clear p2
                           try clear q2
                           try clear hx2
                           try clear qi2
                           try clear c3
                           try clear c4
                           try clear p4
                           try clear q4
                           try clear hx4
                           try clear qi4
                           try clear c5
                           try clear c6
                           try clear p6
                           try clear q6
                           try clear hx6
                           try clear qi6
                           try clear c7
                           try clear c8
                           try clear c9
                           try clear c11
                           try clear c13
                           try clear c13b0
                           try clear c13b1
                           try clear c18
                           try clear c18b0
                           try clear c18b1
                           try clear c19
                           try clear c19b0
                           try clear c19b1
                           try clear c20
                           try clear c20b0
                           try clear c20b1
                           try clear c22
                           try clear c22b0
                           try clear c22b1
                           try clear c23
                           try clear c23b0
                           try clear c23b1
                           try clear p23
                           try clear q23
                           try clear hx23
                           try clear qi23
                           try clear p24
                           try clear q24
                           try clear hx24
                           try clear qi24
                           try clear c25
                           try clear c25b0
                           try clear c25b1
                           try clear p25
                           try clear q25
                           try clear hx25
                           try clear qi25
                           try clear c26
                           try clear c26b0
                           try clear c26b1
                           try clear c31
                           try clear c33
                           try clear c33b0
                           try clear c33b1
                           try clear c36
                           try clear c36b0
                           try clear c36b1
                           try clear c37
                           try clear c37b0
                           try clear c37b1
                           try clear c38
                           try clear c38b0
                           try clear c38b1
                           try clear c39
                           try clear c39b0
                           try clear c39b1
                           try clear c40
                           try clear c40b0
                           try clear c40b1
                           try clear p41
                           try clear q41
                           try clear hx41
                           try clear qi41
                           try clear c42
                           try clear c43
                           try clear c44
                           try clear c44b0
                           try clear c44b1
                           try clear p45
                           try clear q45
                           try clear hx45
                           try clear qi45
                           try clear c46
                           try clear c46b0
                           try clear c46b1
                           try clear c47
                           try clear c47b0
                           try clear c47b1
                           try clear p48
                           try clear q48
                           try clear hx48
                           try clear qi48
                           try clear c50
                           try clear c53
                           try clear c53b0
                           try clear c53b1
                           try clear c54
                           try clear c56
                           try clear c56b0
                           try clear c56b1
                           try clear c57
                           try clear c57b0
                           try clear c57b1
                           try clear c60
                           try clear c61
                           try clear c61b0
                           try clear c61b1
                           try clear c62
                           try clear c62b0
                           try clear c62b1
                           try clear p63
                           try clear q63
                           try clear hx63
                           try clear qi63
                           try clear p64
                           try clear c70
                           try clear c70b0
                           try clear c71
                           try clear c71b0
                           try clear c72
                           try clear hcz12_0
                           try clear hcz12_1
                           try clear hcz12_2
                           try clear hcz12_3
                           try clear hcz32_0
                           try clear hcz32_1
                           try clear hcz32_2
                           try clear hcz32_3
                           try clear hcz4_0
                           try clear hcz4_1
                           try clear hcz4_2
                           try clear hcz4_3
                           try clear hcz51_0
                           try clear hcz51_1
                           try clear hcz51_2
                           try clear hcz51_3
                           try clear hcz55_0
                           try clear hcz55_1
                           try clear hcz55_2
                           try clear hcz55_3
                           try clear hcz58_0
                           try clear hcz58_1
                           try clear hcz58_2
                           try clear hcz58_3
                           try clear hcz73_0
                           try clear hcz73_1
                           try clear hcz73_2
                           try clear hcz73_3
                           try clear hfz12_0
                           try clear hfz12_1
                           try clear hfz12_2
                           try clear hfz12_3
                           try clear hfz32_0
                           try clear hfz32_1
                           try clear hfz32_2
                           try clear hfz32_3
                           try clear hfz4_0
                           try clear hfz4_1
                           try clear hfz4_2
                           try clear hfz4_3
                           try clear hfz51_0
                           try clear hfz51_1
                           try clear hfz51_2
                           try clear hfz51_3
                           try clear hfz55_0
                           try clear hfz55_1
                           try clear hfz55_2
                           try clear hfz55_3
                           try clear hfz58_0
                           try clear hfz58_1
                           try clear hfz58_2
                           try clear hfz58_3
                           try clear hfz73_0
                           try clear hfz73_1
                           try clear hfz73_2
                           try clear hfz73_3
                           try clear hx237_0
                           try clear hx241_0
                           try clear hx242_0
                           try clear hx243_0
                           try clear hx244_0
                           try clear hx246_0
                           try clear hx249_0
                           try clear hx250_0
                           try clear hx252_0
                           try clear hx253_0
                           try clear p2
                           try clear p23
                           try clear p237
                           try clear p24
                           try clear p241
                           try clear p242
                           try clear p243
                           try clear p244
                           try clear p246
                           try clear p249
                           try clear p25
                           try clear p250
                           try clear p252
                           try clear p253
                           try clear p4
                           try clear p41
                           try clear p45
                           try clear p48
                           try clear p6
                           try clear p63
                           try clear p64
                           try clear q2
                           try clear q23
                           try clear q237
                           try clear q24
                           try clear q241
                           try clear q242
                           try clear q243
                           try clear q244
                           try clear q246
                           try clear q249
                           try clear q25
                           try clear q250
                           try clear q252
                           try clear q253
                           try clear q4
                           try clear q41
                           try clear q45
                           try clear q48
                           try clear q6
                           try clear q63
                           obtain ⟨x10_6, rfl, HA, HK6, HO_4, HO_255003, BK232, BK254, HB⟩ := hrel
                           cases gk with
                           | zero => exact absurd HA.out (by simp [ostiaryref13_Parse.l1])
                           | succ k6 =>
                            have H := HA.out
                            clear HA
                            simp only [ostiaryref13_Parse.l1] at H
                            by_cases c75 : 0 ≤ x9_5
                            ·rw [if_pos c75] at H
                             have c75b0 : decide (0 ≤ x9_5) = true := decide_eq_true c75
                             clear c75
                             (first | rw [c75b0] | (simp only [i64_w, i32_w]; rw [c75b0]) | skip)
                             by_cases c76 : x9_5 < (t233.length : Int)
                             ·rw [if_pos c76] at H
                              have c76b0 : decide (x9_5 < (t233.length : Int)) = true := decide_eq_true c76
                              clear c76
                              by_cases c77 : x10_6 < ((rdOf ByteArray.empty t233 x9_5).size : Int)
                              ·rw [if_pos c77] at H
                               have c77b0 : decide (x10_6 < ((rdOf ByteArray.empty t233 x9_5).size : Int)) = true := decide_eq_true c77
                               clear c77
                               by_cases c78 : 0 ≤ x10_6
                               ·rw [if_pos c78] at H
                                have c78b0 : decide (0 ≤ x10_6) = true := decide_eq_true c78
                                clear c78
                                by_cases c80 : (bt (rdOf ByteArray.empty t233 x9_5) x10_6) = 58
                                ·rw [if_pos c80] at H
                                 have c80b0 : ((bt (rdOf ByteArray.empty t233 x9_5) x10_6) == 58) = true := beq_iff_eq.mpr c80
                                 have c80b1 : ((bt (rdOf ByteArray.empty t233 x9_5) x10_6) != 58) = false := bne_eq_false_iff_eq.mpr c80
                                 clear c80
                                 have H' := Aside0.mk H
                                 clear H
                                 have p256 : 0 ≤ (x9_5 : Int) := of_decide_eq_true (by first | (with_reducible assumption) | assumption)
                                 have q256 : x9_5 < (t233.length : Int) := of_decide_eq_true (by first | (with_reducible assumption) | assumption)
                                 obtain ⟨ad256, e256, hx256_0⟩ := Kd.at_string (Kd.R_reads' HO_4.out).2.2 x9_5 p256 q256
                                 obtain rfl : ad237 = ad256 := (by injection e256)
                                 replace p256 := eq_true p256
                                 replace q256 := eq_true q256
                                 have p257 : 0 ≤ (x9_5 : Int) := of_decide_eq_true (by first | (with_reducible assumption) | assumption)
                                 have q257 : x9_5 < (t233.length : Int) := of_decide_eq_true (by first | (with_reducible assumption) | assumption)
                                 obtain ⟨ad257, e257, hx257_0⟩ := Kd.at_string (Kd.R_reads' HO_4.out).2.2 x9_5 p257 q257
                                 obtain rfl : ad237 = ad257 := (by injection e257)
                                 replace p257 := eq_true p257
                                 replace q257 := eq_true q257
                                 have p79 : 0 ≤ (x10_6 : Int) := of_decide_eq_true (by first | (with_reducible assumption) | assumption)
                                 have q79 : x10_6 < ((rdOf ByteArray.empty t233 x9_5).size : Int) := of_decide_eq_true (by first | (with_reducible assumption) | assumption)
                                 have hx79 := bt_at (rdOf ByteArray.empty t233 x9_5) x10_6
                                 replace p79 := eq_true p79
                                 replace q79 := eq_true q79
                                 go_wp2
                                 go_meet
                                 case rel => exact ⟨_, (x10_6), (by first | rfl | (simp; done) | (simp [*]; done)), H', ⟨by have := HJ5.out; have := HJ14.out; have := HJ33.out; have := HJ51.out; have := HK5.out; have := HK6.out; first | omega | exact Nat.le_refl _⟩, ⟨by (with_reducible repeat (first | apply Kd.R_alloc | apply Kd.R_drewN | apply Kd.R_drew)); exact HO_4.out⟩, ⟨by (with_reducible repeat (first | apply Kd.R_alloc | apply Kd.R_drewN | apply Kd.R_drew)); exact HO_255003.out⟩, ⟨by (with_reducible repeat (first | refine blk_drewN ?_ _ | refine blk_drew ?_ | refine blk_alloc ?_ _)); exact BK232.out⟩, ⟨by (with_reducible repeat (first | refine blk_drewN ?_ _ | refine blk_drew ?_ | refine blk_alloc ?_ _)); exact BK254.out⟩, ⟨by repeat (first | (with_reducible first | exact HB.out | apply below_alloc | apply pw_below_drewN | apply below_drew1 | refine below_set ?_ GE232.out | refine below_set ?_ GE254.out) | exact HB.out)⟩⟩
                                ·rw [if_neg c80] at H
                                 have c80b0 : ((bt (rdOf ByteArray.empty t233 x9_5) x10_6) == 58) = false := beq_eq_false_iff_ne.mpr c80
                                 have c80b1 : ((bt (rdOf ByteArray.empty t233 x9_5) x10_6) != 58) = true := bne_iff_ne.mpr c80
                                 have H' := Aside0.mk H
                                 clear H
                                 have p256 : 0 ≤ (x9_5 : Int) := of_decide_eq_true (by first | (with_reducible assumption) | assumption)
                                 have q256 : x9_5 < (t233.length : Int) := of_decide_eq_true (by first | (with_reducible assumption) | assumption)
                                 obtain ⟨ad256, e256, hx256_0⟩ := Kd.at_string (Kd.R_reads' HO_4.out).2.2 x9_5 p256 q256
                                 obtain rfl : ad237 = ad256 := (by injection e256)
                                 replace p256 := eq_true p256
                                 replace q256 := eq_true q256
                                 have p257 : 0 ≤ (x9_5 : Int) := of_decide_eq_true (by first | (with_reducible assumption) | assumption)
                                 have q257 : x9_5 < (t233.length : Int) := of_decide_eq_true (by first | (with_reducible assumption) | assumption)
                                 obtain ⟨ad257, e257, hx257_0⟩ := Kd.at_string (Kd.R_reads' HO_4.out).2.2 x9_5 p257 q257
                                 obtain rfl : ad237 = ad257 := (by injection e257)
                                 replace p257 := eq_true p257
                                 replace q257 := eq_true q257
                                 have p79 : 0 ≤ (x10_6 : Int) := of_decide_eq_true (by first | (with_reducible assumption) | assumption)
                                 have q79 : x10_6 < ((rdOf ByteArray.empty t233 x9_5).size : Int) := of_decide_eq_true (by first | (with_reducible assumption) | assumption)
                                 have hx79 := bt_at (rdOf ByteArray.empty t233 x9_5) x10_6
                                 replace p79 := eq_true p79
                                 replace q79 := eq_true q79
                                 go_wp2
                                 go_roundg k6
                                 case measure => have := HJ5.out; have := HJ14.out; have := HJ33.out; have := HJ51.out; have := HK5.out; have := HK6.out; omega
                                 case rel => exact ⟨(wrap64 (x10_6 + 1)), (by first | rfl | (simp; done) | (simp [*]; done)), H', ⟨by have := HJ5.out; have := HJ14.out; have := HJ33.out; have := HJ51.out; have := HK5.out; have := HK6.out; omega⟩, ⟨by (with_reducible repeat (first | apply Kd.R_alloc | apply Kd.R_drewN | apply Kd.R_drew)); exact HO_4.out⟩, ⟨by (with_reducible repeat (first | apply Kd.R_alloc | apply Kd.R_drewN | apply Kd.R_drew)); exact HO_255003.out⟩, ⟨by (with_reducible repeat (first | refine blk_drewN ?_ _ | refine blk_drew ?_ | refine blk_alloc ?_ _)); exact BK232.out⟩, ⟨by (with_reducible repeat (first | refine blk_drewN ?_ _ | refine blk_drew ?_ | refine blk_alloc ?_ _)); exact BK254.out⟩, ⟨by repeat (first | (with_reducible first | exact HB.out | apply below_alloc | apply pw_below_drewN | apply below_drew1 | refine below_set ?_ GE232.out | refine below_set ?_ GE254.out) | exact HB.out)⟩⟩
                               ·rw [if_neg c78] at H
                                exact absurd H (by simp)
                              ·rw [if_neg c77] at H
                               have c77b0 : decide (x10_6 < ((rdOf ByteArray.empty t233 x9_5).size : Int)) = false := decide_eq_false c77
                               clear c77
                               have H' := Aside0.mk H
                               clear H
                               have p256 : 0 ≤ (x9_5 : Int) := of_decide_eq_true (by first | (with_reducible assumption) | assumption)
                               have q256 : x9_5 < (t233.length : Int) := of_decide_eq_true (by first | (with_reducible assumption) | assumption)
                               obtain ⟨ad256, e256, hx256_0⟩ := Kd.at_string (Kd.R_reads' HO_4.out).2.2 x9_5 p256 q256
                               obtain rfl : ad237 = ad256 := (by injection e256)
                               replace p256 := eq_true p256
                               replace q256 := eq_true q256
                               go_wp2
                               go_meet
                               case rel => exact ⟨_, (x10_6), (by first | rfl | (simp; done) | (simp [*]; done)), H', ⟨by have := HJ5.out; have := HJ14.out; have := HJ33.out; have := HJ51.out; have := HK5.out; have := HK6.out; first | omega | exact Nat.le_refl _⟩, ⟨by (with_reducible repeat (first | apply Kd.R_alloc | apply Kd.R_drewN | apply Kd.R_drew)); exact HO_4.out⟩, ⟨by (with_reducible repeat (first | apply Kd.R_alloc | apply Kd.R_drewN | apply Kd.R_drew)); exact HO_255003.out⟩, ⟨by (with_reducible repeat (first | refine blk_drewN ?_ _ | refine blk_drew ?_ | refine blk_alloc ?_ _)); exact BK232.out⟩, ⟨by (with_reducible repeat (first | refine blk_drewN ?_ _ | refine blk_drew ?_ | refine blk_alloc ?_ _)); exact BK254.out⟩, ⟨by repeat (first | (with_reducible first | exact HB.out | apply below_alloc | apply pw_below_drewN | apply below_drew1 | refine below_set ?_ GE232.out | refine below_set ?_ GE254.out) | exact HB.out)⟩⟩
                             ·rw [if_neg c76] at H
                              exact absurd H (by simp)
                            ·rw [if_neg c75] at H
                             exact absurd H (by simp)
                         case rest => as_aux_lemma =>
                          clear HC74
                          try clear c1
                          try clear c2
                          try clear c2b0
                          try clear c2b1
                          try clear p2
                          try clear q2
                          try clear hx2
                          try clear qi2
                          try clear c3
                          try clear c4
                          try clear p4
                          try clear q4
                          try clear hx4
                          try clear qi4
                          try clear c5
                          try clear c6
                          try clear p6
                          try clear q6
                          try clear hx6
                          try clear qi6
                          try clear c7
                          try clear p7
                          try clear q7
                          try clear hx7
                          try clear c8
                          try clear c9
                          try clear c11
                          try clear c13
                          try clear c13b0
                          try clear c13b1
                          try clear c18
                          try clear c18b0
                          try clear c18b1
                          try clear c19
                          try clear c19b0
                          try clear c19b1
                          try clear c20
                          try clear c20b0
                          try clear c20b1
                          try clear c22
                          try clear c22b0
                          try clear c22b1
                          try clear c23
                          try clear c23b0
                          try clear c23b1
                          try clear p23
                          try clear q23
                          try clear hx23
                          try clear qi23
                          try clear p24
                          try clear q24
                          try clear hx24
                          try clear qi24
                          try clear c25
                          try clear c25b0
                          try clear c25b1
                          try clear p25
                          try clear q25
                          try clear hx25
                          try clear qi25
                          try clear c26
                          try clear c26b0
                          try clear c26b1
                          try clear c31
                          try clear c33
                          try clear c33b0
                          try clear c33b1
                          try clear c36
                          try clear c36b0
                          try clear c36b1
                          try clear c37
                          try clear c37b0
                          try clear c37b1
                          try clear c38
                          try clear c38b0
                          try clear c38b1
                          try clear c39
                          try clear c39b0
                          try clear c39b1
                          try clear c40
                          try clear c40b0
                          try clear c40b1
                          try clear p41
                          try clear q41
                          try clear hx41
                          try clear qi41
                          try clear c42
                          try clear c43
                          try clear c44
                          try clear c44b0
                          try clear c44b1
                          try clear p45
                          try clear q45
                          try clear hx45
                          try clear qi45
                          try clear c46
                          try clear c46b0
                          try clear c46b1
                          try clear c47
                          try clear c47b0
                          try clear c47b1
                          try clear p48
                          try clear q48
                          try clear hx48
                          try clear qi48
                          try clear c50
                          try clear c53
                          try clear c53b0
                          try clear c53b1
                          try clear c54
                          try clear c56
                          try clear c56b0
                          try clear c56b1
                          try clear c57
                          try clear c57b0
                          try clear c57b1
                          try clear c60
                          try clear c61
                          try clear c61b0
                          try clear c61b1
                          try clear c62
                          try clear c62b0
                          try clear c62b1
                          try clear p63
                          try clear q63
                          try clear hx63
                          try clear qi63
                          try clear p64
                          try clear c70
                          try clear c70b0
                          try clear c71
                          try clear c71b0
                          try clear c72
                          try clear c75
                          try clear c75b0
                          try clear c76
                          try clear c76b0
                          try clear c77
                          try clear c77b0
                          try clear c78
                          try clear c78b0
                          try clear p79
                          try clear q79
                          try clear hx79
                          try clear c80
                          try clear c80b0
                          try clear c80b1
                          try clear hcz12_0
                          try clear hcz12_1
                          try clear hcz12_2
                          try clear hcz12_3
                          try clear hcz32_0
                          try clear hcz32_1
                          try clear hcz32_2
                          try clear hcz32_3
                          try clear hcz4_0
                          try clear hcz4_1
                          try clear hcz4_2
                          try clear hcz4_3
                          try clear hcz51_0
                          try clear hcz51_1
                          try clear hcz51_2
                          try clear hcz51_3
                          try clear hcz55_0
                          try clear hcz55_1
                          try clear hcz55_2
                          try clear hcz55_3
                          try clear hcz58_0
                          try clear hcz58_1
                          try clear hcz58_2
                          try clear hcz58_3
                          try clear hcz73_0
                          try clear hcz73_1
                          try clear hcz73_2
                          try clear hcz73_3
                          try clear hfz12_0
                          try clear hfz12_1
                          try clear hfz12_2
                          try clear hfz12_3
                          try clear hfz32_0
                          try clear hfz32_1
                          try clear hfz32_2
                          try clear hfz32_3
                          try clear hfz4_0
                          try clear hfz4_1
                          try clear hfz4_2
                          try clear hfz4_3
                          try clear hfz51_0
                          try clear hfz51_1
                          try clear hfz51_2
                          try clear hfz51_3
                          try clear hfz55_0
                          try clear hfz55_1
                          try clear hfz55_2
                          try clear hfz55_3
                          try clear hfz58_0
                          try clear hfz58_1
                          try clear hfz58_2
                          try clear hfz58_3
                          try clear hfz73_0
                          try clear hfz73_1
                          try clear hfz73_2
                          try clear hfz73_3
                          try clear hx237_0
                          try clear hx241_0
                          try clear hx242_0
                          try clear hx243_0
                          try clear hx244_0
                          try clear hx246_0
                          try clear hx249_0
                          try clear hx250_0
                          try clear hx252_0
                          try clear hx253_0
                          try clear hx256_0
                          try clear hx257_0
                          try clear p2
                          try clear p23
                          try clear p237
                          try clear p24
                          try clear p241
                          try clear p242
                          try clear p243
                          try clear p244
                          try clear p246
                          try clear p249
                          try clear p25
                          try clear p250
                          try clear p252
                          try clear p253
                          try clear p256
                          try clear p257
                          try clear p4
                          try clear p41
                          try clear p45
                          try clear p48
                          try clear p6
                          try clear p63
                          try clear p64
                          try clear p79
                          try clear q2
                          try clear q23
                          try clear q237
                          try clear q24
                          try clear q241
                          try clear q242
                          try clear q243
                          try clear q244
                          try clear q246
                          try clear q249
                          try clear q25
                          try clear q250
                          try clear q252
                          try clear q253
                          try clear q256
                          try clear q257
                          try clear q4
                          try clear q41
                          try clear q45
                          try clear q48
                          try clear q6
                          try clear q63
                          try clear q79
                          obtain ⟨kq, x10_73, rfl, HA, HJ73, HO_4, HO_255003, BK232, BK254, HB⟩ := hcut
                          cases kq with
                          | zero => exact absurd HA.out (by simp [ostiaryref13_Parse.j6])
                          | succ kj73 =>
                           have H := HA.out
                           clear HA
                           simp only [ostiaryref13_Parse.j6] at H
                           by_cases c81 : 0 ≤ x9_5
                           ·rw [if_pos c81] at H
                            have c81b0 : decide (0 ≤ x9_5) = true := decide_eq_true c81
                            clear c81
                            by_cases c82 : x9_5 < (t233.length : Int)
                            ·rw [if_pos c82] at H
                             have c82b0 : decide (x9_5 < (t233.length : Int)) = true := decide_eq_true c82
                             clear c82
                             by_cases c83 : x10_73 = ((rdOf ByteArray.empty t233 x9_5).size : Int)
                             ·rw [if_pos c83] at H
                              have c83b0 : (x10_73 == ((rdOf ByteArray.empty t233 x9_5).size : Int)) = true := beq_iff_eq.mpr c83
                              have c83b1 : (x10_73 != ((rdOf ByteArray.empty t233 x9_5).size : Int)) = false := bne_eq_false_iff_eq.mpr c83
                              clear c83
                              simp only [Option.some.injEq, Prod.mk.injEq] at H
                              obtain ⟨rfl, rfl, rfl, rfl, rfl⟩ := H
                              have p258 : 0 ≤ (x9_5 : Int) := of_decide_eq_true (by first | (with_reducible assumption) | assumption)
                              have q258 : x9_5 < (t233.length : Int) := of_decide_eq_true (by first | (with_reducible assumption) | assumption)
                              obtain ⟨ad258, e258, hx258_0⟩ := Kd.at_string (Kd.R_reads' HO_4.out).2.2 x9_5 p258 q258
                              obtain rfl : ad237 = ad258 := (by injection e258)
                              replace p258 := eq_true p258
                              replace q258 := eq_true q258
                              have hnb84 := NB232_254.out
                              have hnc84 := NB254_232.out
                              have hcz85_0 : wc.cell? ⟨gb232, 0, none⟩ = some (.string x233000_5) := (blk_cell BK232.out 0).trans rfl
                              have hcz85_1 : wc.cell? ⟨gb232, 1, none⟩ = some (.string x233001_5) := (blk_cell BK232.out 1).trans rfl
                              have hcz85_2 : wc.cell? ⟨gb232, 2, none⟩ = some (.int .i64 x233002_5) := (blk_cell BK232.out 2).trans rfl
                              have hcz85_3 : wc.cell? ⟨gb232, 3, none⟩ = some (.slice none 0 0) := (blk_cell BK232.out 3).trans rfl
                              have hfz85_0 := blk_frozen BK232.out 0
                              have hfz85_1 := blk_frozen BK232.out 1
                              have hfz85_2 := blk_frozen BK232.out 2
                              have hfz85_3 := blk_frozen BK232.out 3
                              go_wp2
                              refine bodyPost_ret (results_ct rfl _ _ gb232 24 #[.string (⟨#[]⟩ : ByteArray), .string (⟨#[]⟩ : ByteArray), .int .i64 0, .slice none 0 0] (0, 0) _ rfl (by (with_reducible repeat (first | refine blk_drewN ?_ _ | refine blk_drew ?_ | refine blk_alloc ?_ _)); refine blk_put (cs := #[.string (⟨#[]⟩ : ByteArray), .string (⟨#[]⟩ : ByteArray), .int .i64 0, .slice none 0 0]) ?_ 3 _ rfl; (with_reducible repeat (first | refine blk_drewN ?_ _ | refine blk_drew ?_ | refine blk_alloc ?_ _)); refine blk_put (cs := #[.string (⟨#[]⟩ : ByteArray), .string (⟨#[]⟩ : ByteArray), .int .i64 x233002_5, .slice none 0 0]) ?_ 2 _ rfl; (with_reducible repeat (first | refine blk_drewN ?_ _ | refine blk_drew ?_ | refine blk_alloc ?_ _)); refine blk_put (cs := #[.string (⟨#[]⟩ : ByteArray), .string x233001_5, .int .i64 x233002_5, .slice none 0 0]) ?_ 1 _ rfl; (with_reducible repeat (first | refine blk_drewN ?_ _ | refine blk_drew ?_ | refine blk_alloc ?_ _)); refine blk_put (cs := #[.string x233000_5, .string x233001_5, .int .i64 x233002_5, .slice none 0 0]) ?_ 0 _ rfl; (with_reducible repeat (first | refine blk_drewN ?_ _ | refine blk_drew ?_ | refine blk_alloc ?_ _)); exact BK232.out) Tryd.underlying24 rfl (by kernel_rfl)) rfl ?_
                              exact ⟨_, by first | rfl | (simp [errW_none, errW_some] <;> rfl) | (simp [*, errW_none, errW_some] <;> rfl), by first | exact Kd.R_nil _ _ _ _ _ | exact Kd.N_nil _ _ _ _ _ | exact Kd.V_nil _ _ _ _ _ | exact Kd.Q_nil _ _ _ _ _ | exact Kd.S_nil _ _ _ _ _, by repeat (first | (with_reducible first | exact HB.out | apply below_alloc | apply pw_below_drewN | apply below_drew1 | refine below_set ?_ GE232.out | refine below_set ?_ GE254.out) | exact HB.out)⟩
                             ·rw [if_neg c83] at H
                              have c83b0 : (x10_73 == ((rdOf ByteArray.empty t233 x9_5).size : Int)) = false := beq_eq_false_iff_ne.mpr c83
                              have c83b1 : (x10_73 != ((rdOf ByteArray.empty t233 x9_5).size : Int)) = true := bne_iff_ne.mpr c83
                              by_cases c86 : 0 ≤ x10_73
                              ·rw [if_pos c86] at H
                               have c86b0 := eq_true c86
                               have c86b1 : decide (0 ≤ x10_73) = true := decide_eq_true c86
                               clear c86
                               by_cases c87 : x10_73 ≤ ((rdOf ByteArray.empty t233 x9_5).size : Int)
                               ·rw [if_pos c87] at H
                                have c87b0 := eq_true c87
                                have c87b1 : decide (x10_73 ≤ ((rdOf ByteArray.empty t233 x9_5).size : Int)) = true := decide_eq_true c87
                                clear c87
                                replace H := Option.bind_eq_some_iff.mp H
                                obtain ⟨t260, A880, H⟩ := H
                                replace H : (if t260 = true then (if 0 ≤ (wrap64 (x10_73 + 1)) then (if (wrap64 (x10_73 + 1)) ≤ ((rdOf ByteArray.empty t233 x9_5).size : Int) then ((ostiaryref13_Trim.f kj73 ((rdOf ByteArray.empty t233 x9_5).extract ((wrap64 (x10_73 + 1)) : Int).toNat (rdOf ByteArray.empty t233 x9_5).size)).bind fun t262 => ((ostiaryref13_Value.f kj73 t262).bind fun t263 => (if t263 = true then ((ostiaryref13_Trim.f kj73 ((rdOf ByteArray.empty t233 x9_5).extract ((wrap64 (x10_73 + 1)) : Int).toNat (rdOf ByteArray.empty t233 x9_5).size)).bind fun t266 => (if x255003_5.length < 4398046511104 then (ostiaryref13_Parse.l0 kj73 t233 (wrap64 (x9_5 + 1)) (rdOf ByteArray.empty t238 0) (rdOf ByteArray.empty t238 1) (wrap64 (((bt (rdOf ByteArray.empty t238 2) 7) - 48) % 256)) (x255003_5 ++ [(⟨(rdOf ByteArray.empty t233 x9_5).extract 0 (x10_73 : Int).toNat, t266⟩ : S67)])) else (none))) else (some ((⟨#[]⟩ : ByteArray), (⟨#[]⟩ : ByteArray), 0, ([] : List (S67)), 400))))) else (none)) else (none)) else (some ((⟨#[]⟩ : ByteArray), (⟨#[]⟩ : ByteArray), 0, ([] : List (S67)), 400))) = some (r1, r2, r3, r4, r5) := H
                                have A88 := Aside0.mk A880
                                clear A880
                                by_cases c89 : t260 = true
                                ·subst c89
                                 have H1 : (if 0 ≤ (wrap64 (x10_73 + 1)) then (if (wrap64 (x10_73 + 1)) ≤ ((rdOf ByteArray.empty t233 x9_5).size : Int) then ((ostiaryref13_Trim.f kj73 ((rdOf ByteArray.empty t233 x9_5).extract ((wrap64 (x10_73 + 1)) : Int).toNat (rdOf ByteArray.empty t233 x9_5).size)).bind fun t262 => ((ostiaryref13_Value.f kj73 t262).bind fun t263 => (if t263 = true then ((ostiaryref13_Trim.f kj73 ((rdOf ByteArray.empty t233 x9_5).extract ((wrap64 (x10_73 + 1)) : Int).toNat (rdOf ByteArray.empty t233 x9_5).size)).bind fun t266 => (if x255003_5.length < 4398046511104 then (ostiaryref13_Parse.l0 kj73 t233 (wrap64 (x9_5 + 1)) (rdOf ByteArray.empty t238 0) (rdOf ByteArray.empty t238 1) (wrap64 (((bt (rdOf ByteArray.empty t238 2) 7) - 48) % 256)) (x255003_5 ++ [(⟨(rdOf ByteArray.empty t233 x9_5).extract 0 (x10_73 : Int).toNat, t266⟩ : S67)])) else (none))) else (some ((⟨#[]⟩ : ByteArray), (⟨#[]⟩ : ByteArray), 0, ([] : List (S67)), 400))))) else (none)) else (none)) = some (r1, r2, r3, r4, r5) := by rw [if_pos rfl] at H; exact H
                                 clear H
                                 have H := H1
                                 clear H1
                                 obtain ⟨ji90, hji90⟩ : ∃ j_ : Int, (wrap64 (x10_73 + 1)) = j_ := ⟨_, rfl⟩
                                 replace H : (if 0 ≤ (ji90) then (if (ji90) ≤ ((rdOf ByteArray.empty t233 x9_5).size : Int) then ((ostiaryref13_Trim.f kj73 ((rdOf ByteArray.empty t233 x9_5).extract ((ji90) : Int).toNat (rdOf ByteArray.empty t233 x9_5).size)).bind fun t262 => ((ostiaryref13_Value.f kj73 t262).bind fun t263 => (if t263 = true then ((ostiaryref13_Trim.f kj73 ((rdOf ByteArray.empty t233 x9_5).extract ((ji90) : Int).toNat (rdOf ByteArray.empty t233 x9_5).size)).bind fun t266 => (if x255003_5.length < 4398046511104 then (ostiaryref13_Parse.l0 kj73 t233 (wrap64 (x9_5 + 1)) (rdOf ByteArray.empty t238 0) (rdOf ByteArray.empty t238 1) (wrap64 (((bt (rdOf ByteArray.empty t238 2) 7) - 48) % 256)) (x255003_5 ++ [(⟨(rdOf ByteArray.empty t233 x9_5).extract 0 (x10_73 : Int).toNat, t266⟩ : S67)])) else (none))) else (some ((⟨#[]⟩ : ByteArray), (⟨#[]⟩ : ByteArray), 0, ([] : List (S67)), 400))))) else (none)) else (none)) = some (r1, r2, r3, r4, r5) := by first | (rw [hji90] at H; exact H) | (simp only [hji90] at H ⊢; exact H)
                                 (try rw [hji90] at A88)
                                 have hji90w : (IntKind.i64.wrap (x10_73 + 1)) = ji90 := (i64_w _).trans hji90
                                 by_cases c91 : 0 ≤ (ji90)
                                 ·rw [if_pos c91] at H
                                  have c91b0 := eq_true c91
                                  have c91b1 : decide (0 ≤ (ji90)) = true := decide_eq_true c91
                                  clear c91
                                  by_cases c92 : (ji90) ≤ ((rdOf ByteArray.empty t233 x9_5).size : Int)
                                  ·rw [if_pos c92] at H
                                   have c92b0 := eq_true c92
                                   have c92b1 : decide ((ji90) ≤ ((rdOf ByteArray.empty t233 x9_5).size : Int)) = true := decide_eq_true c92
                                   clear c92
                                   replace H := Option.bind_eq_some_iff.mp H
                                   obtain ⟨t262, A930, H⟩ := H
                                   replace H : ((ostiaryref13_Value.f kj73 t262).bind fun t263 => (if t263 = true then ((ostiaryref13_Trim.f kj73 ((rdOf ByteArray.empty t233 x9_5).extract ((ji90) : Int).toNat (rdOf ByteArray.empty t233 x9_5).size)).bind fun t266 => (if x255003_5.length < 4398046511104 then (ostiaryref13_Parse.l0 kj73 t233 (wrap64 (x9_5 + 1)) (rdOf ByteArray.empty t238 0) (rdOf ByteArray.empty t238 1) (wrap64 (((bt (rdOf ByteArray.empty t238 2) 7) - 48) % 256)) (x255003_5 ++ [(⟨(rdOf ByteArray.empty t233 x9_5).extract 0 (x10_73 : Int).toNat, t266⟩ : S67)])) else (none))) else (some ((⟨#[]⟩ : ByteArray), (⟨#[]⟩ : ByteArray), 0, ([] : List (S67)), 400)))) = some (r1, r2, r3, r4, r5) := H
                                   have A93 := Aside0.mk A930
                                   clear A930
                                   replace H := Option.bind_eq_some_iff.mp H
                                   obtain ⟨t263, A940, H⟩ := H
                                   replace H : (if t263 = true then ((ostiaryref13_Trim.f kj73 ((rdOf ByteArray.empty t233 x9_5).extract ((ji90) : Int).toNat (rdOf ByteArray.empty t233 x9_5).size)).bind fun t266 => (if x255003_5.length < 4398046511104 then (ostiaryref13_Parse.l0 kj73 t233 (wrap64 (x9_5 + 1)) (rdOf ByteArray.empty t238 0) (rdOf ByteArray.empty t238 1) (wrap64 (((bt (rdOf ByteArray.empty t238 2) 7) - 48) % 256)) (x255003_5 ++ [(⟨(rdOf ByteArray.empty t233 x9_5).extract 0 (x10_73 : Int).toNat, t266⟩ : S67)])) else (none))) else (some ((⟨#[]⟩ : ByteArray), (⟨#[]⟩ : ByteArray), 0, ([] : List (S67)), 400))) = some (r1, r2, r3, r4, r5) := H
                                   have A94 := Aside0.mk A940
                                   clear A940
                                   by_cases c95 : t263 = true
                                   ·subst c95
                                    have H1 : ((ostiaryref13_Trim.f kj73 ((rdOf ByteArray.empty t233 x9_5).extract ((ji90) : Int).toNat (rdOf ByteArray.empty t233 x9_5).size)).bind fun t266 => (if x255003_5.length < 4398046511104 then (ostiaryref13_Parse.l0 kj73 t233 (wrap64 (x9_5 + 1)) (rdOf ByteArray.empty t238 0) (rdOf ByteArray.empty t238 1) (wrap64 (((bt (rdOf ByteArray.empty t238 2) 7) - 48) % 256)) (x255003_5 ++ [(⟨(rdOf ByteArray.empty t233 x9_5).extract 0 (x10_73 : Int).toNat, t266⟩ : S67)])) else (none))) = some (r1, r2, r3, r4, r5) := by rw [if_pos rfl] at H; exact H
                                    clear H
                                    have H := H1
                                    clear H1
                                    have c96b0 := eq_true (of_decide_eq_true (by first | (with_reducible assumption) | assumption) : 0 ≤ x10_73)
                                    have c97b0 := eq_true (of_decide_eq_true (by first | (with_reducible assumption) | assumption) : x10_73 ≤ ((rdOf ByteArray.empty t233 x9_5).size : Int))
                                    have c98b0 := eq_true (of_decide_eq_true (by first | (with_reducible assumption) | assumption) : 0 ≤ (ji90))
                                    have c99b0 := eq_true (of_decide_eq_true (by first | (with_reducible assumption) | assumption) : (ji90) ≤ ((rdOf ByteArray.empty t233 x9_5).size : Int))
                                    replace H := Option.bind_eq_some_iff.mp H
                                    obtain ⟨t266, A1000, H⟩ := H
                                    replace H : (if x255003_5.length < 4398046511104 then (ostiaryref13_Parse.l0 kj73 t233 (wrap64 (x9_5 + 1)) (rdOf ByteArray.empty t238 0) (rdOf ByteArray.empty t238 1) (wrap64 (((bt (rdOf ByteArray.empty t238 2) 7) - 48) % 256)) (x255003_5 ++ [(⟨(rdOf ByteArray.empty t233 x9_5).extract 0 (x10_73 : Int).toNat, t266⟩ : S67)])) else (none)) = some (r1, r2, r3, r4, r5) := H
                                    have A100 := Aside0.mk A1000
                                    clear A1000
                                    by_cases c101 : x255003_5.length < 4398046511104
                                    ·rw [if_pos c101] at H
                                     have LMc101 := Aside0.mk c101
                                     clear c101
                                     obtain ⟨y267, hy267⟩ : ∃ y_ : List (S67), y_ = (x255003_5 ++ [(⟨(rdOf ByteArray.empty t233 x9_5).extract 0 (x10_73 : Int).toNat, t266⟩ : S67)]) := ⟨_, rfl⟩
                                     replace H : (ostiaryref13_Parse.l0 kj73 t233 (wrap64 (x9_5 + 1)) (rdOf ByteArray.empty t238 0) (rdOf ByteArray.empty t238 1) (wrap64 (((bt (rdOf ByteArray.empty t238 2) 7) - 48) % 256)) y267) = some (r1, r2, r3, r4, r5) := by first | (rw [hy267]; with_reducible exact H) | (have H2_ := (Option.bind_some _ _).symm.trans H; rw [hy267]; with_reducible exact H2_) | (have H2_ := (Option.bind_some _ _).symm.trans H; with_reducible exact H2_) | with_reducible exact H | (rw [hy267]; exact H) | exact H
                                     have Ny267 := Aside0.mk hy267
                                     clear hy267
                                     have H' := Aside0.mk H
                                     clear H
                                     have p258 : 0 ≤ (x9_5 : Int) := of_decide_eq_true (by first | (with_reducible assumption) | assumption)
                                     have q258 : x9_5 < (t233.length : Int) := of_decide_eq_true (by first | (with_reducible assumption) | assumption)
                                     obtain ⟨ad258, e258, hx258_0⟩ := Kd.at_string (Kd.R_reads' HO_4.out).2.2 x9_5 p258 q258
                                     obtain rfl : ad237 = ad258 := (by injection e258)
                                     replace p258 := eq_true p258
                                     replace q258 := eq_true q258
                                     have p259 : 0 ≤ (x9_5 : Int) := of_decide_eq_true (by first | (with_reducible assumption) | assumption)
                                     have q259 : x9_5 < (t233.length : Int) := of_decide_eq_true (by first | (with_reducible assumption) | assumption)
                                     obtain ⟨ad259, e259, hx259_0⟩ := Kd.at_string (Kd.R_reads' HO_4.out).2.2 x9_5 p259 q259
                                     obtain rfl : ad237 = ad259 := (by injection e259)
                                     replace p259 := eq_true p259
                                     replace q259 := eq_true q259
                                     try go_wp2_with (first | (go_at_call 70; (with_reducible refine (ostiaryref13_Word.calls kj73 ((rdOf ByteArray.empty t233 x9_5).extract 0 (x10_73 : Int).toNat) 64 true _ A88.out).mono ?_); rintro e w' ⟨rfl, ⟨nd, rfl⟩⟩; (try (rw [drewN_self wc]; generalize hq_ : World.drewN wc _ = wc; have n0_ : Aside0 (Kd.R k67 67 wc w.heap.size (fun _ => True) u255003 x255003_5) := ⟨by rw [← hq_]; exact (by (with_reducible repeat (first | apply Kd.R_alloc | apply Kd.R_drewN | apply Kd.R_drew)); exact HO_255003.out)⟩; have n1_ : Aside0 (Kd.R Kd.string 9 wc w.heap.size (fun _ => True) (.slice (some ad237) t233.length co16) t233) := ⟨by rw [← hq_]; exact (by (with_reducible repeat (first | apply Kd.R_alloc | apply Kd.R_drewN | apply Kd.R_drew)); exact HO_4.out)⟩; have n2_ : Aside0 (wc.heap[gb232]? = some (.cells #[.string x233000_5, .string x233001_5, .int .i64 x233002_5, .slice none 0 0] 24 (0, 0))) := ⟨by rw [← hq_]; exact (by (with_reducible repeat (first | refine blk_drewN ?_ _ | refine blk_drew ?_ | refine blk_alloc ?_ _)); exact BK232.out)⟩; have n3_ : Aside0 (wc.heap[gb254]? = some (.cells #[.string (rdOf ByteArray.empty t238 0), .string (rdOf ByteArray.empty t238 1), .int .i64 (wrap64 (((bt (rdOf ByteArray.empty t238 2) 7) - 48) % 256)), u255003] 24 (0, 0))) := ⟨by rw [← hq_]; exact (by (with_reducible repeat (first | refine blk_drewN ?_ _ | refine blk_drew ?_ | refine blk_alloc ?_ _)); exact BK254.out)⟩; have n4_ : Aside0 (Below w.heap.size w wc) := ⟨by rw [← hq_]; exact (by repeat (first | (with_reducible first | exact HB.out | apply below_alloc | apply pw_below_drewN | apply below_drew1 | refine below_set ?_ GE232.out | refine below_set ?_ GE254.out) | exact HB.out))⟩; clear HO_255003 HO_4 BK232 BK254 HB hq_; have HO_255003 := n0_; have HO_4 := n1_; have BK232 := n2_; have BK254 := n3_; have HB := n4_; clear n0_ n1_ n2_ n3_ n4_)); have p261 : 0 ≤ (x9_5 : Int) := of_decide_eq_true (by first | (with_reducible assumption) | assumption); have q261 : x9_5 < (t233.length : Int) := of_decide_eq_true (by first | (with_reducible assumption) | assumption); obtain ⟨ad261, e261, hx261_0⟩ := Kd.at_string (Kd.R_reads' HO_4.out).2.2 x9_5 p261 q261; obtain rfl : ad237 = ad261 := (by injection e261); replace p261 := eq_true p261; replace q261 := eq_true q261) | (go_at_call 85; (with_reducible refine (ostiaryref13_Trim.calls kj73 ((rdOf ByteArray.empty t233 x9_5).extract ((ji90) : Int).toNat (rdOf ByteArray.empty t233 x9_5).size) t262 _ A93.out).mono ?_); rintro e w' ⟨rfl, ⟨nd, rfl⟩⟩; (try (rw [drewN_self wc]; generalize hq_ : World.drewN wc _ = wc; have n0_ : Aside0 (Kd.R k67 67 wc w.heap.size (fun _ => True) u255003 x255003_5) := ⟨by rw [← hq_]; exact (by (with_reducible repeat (first | apply Kd.R_alloc | apply Kd.R_drewN | apply Kd.R_drew)); exact HO_255003.out)⟩; have n1_ : Aside0 (Kd.R Kd.string 9 wc w.heap.size (fun _ => True) (.slice (some ad237) t233.length co16) t233) := ⟨by rw [← hq_]; exact (by (with_reducible repeat (first | apply Kd.R_alloc | apply Kd.R_drewN | apply Kd.R_drew)); exact HO_4.out)⟩; have n2_ : Aside0 (wc.heap[gb232]? = some (.cells #[.string x233000_5, .string x233001_5, .int .i64 x233002_5, .slice none 0 0] 24 (0, 0))) := ⟨by rw [← hq_]; exact (by (with_reducible repeat (first | refine blk_drewN ?_ _ | refine blk_drew ?_ | refine blk_alloc ?_ _)); exact BK232.out)⟩; have n3_ : Aside0 (wc.heap[gb254]? = some (.cells #[.string (rdOf ByteArray.empty t238 0), .string (rdOf ByteArray.empty t238 1), .int .i64 (wrap64 (((bt (rdOf ByteArray.empty t238 2) 7) - 48) % 256)), u255003] 24 (0, 0))) := ⟨by rw [← hq_]; exact (by (with_reducible repeat (first | refine blk_drewN ?_ _ | refine blk_drew ?_ | refine blk_alloc ?_ _)); exact BK254.out)⟩; have n4_ : Aside0 (Below w.heap.size w wc) := ⟨by rw [← hq_]; exact (by repeat (first | (with_reducible first | exact HB.out | apply below_alloc | apply pw_below_drewN | apply below_drew1 | refine below_set ?_ GE232.out | refine below_set ?_ GE254.out) | exact HB.out))⟩; clear HO_255003 HO_4 BK232 BK254 HB hq_; have HO_255003 := n0_; have HO_4 := n1_; have BK232 := n2_; have BK254 := n3_; have HB := n4_; clear n0_ n1_ n2_ n3_ n4_))) | (go_at_call 71; (with_reducible refine (ostiaryref13_Value.calls kj73 t262 true _ A94.out).mono ?_); rintro e w' ⟨rfl, ⟨nd, rfl⟩⟩; (try (rw [drewN_self wc]; generalize hq_ : World.drewN wc _ = wc; have n0_ : Aside0 (Kd.R k67 67 wc w.heap.size (fun _ => True) u255003 x255003_5) := ⟨by rw [← hq_]; exact (by (with_reducible repeat (first | apply Kd.R_alloc | apply Kd.R_drewN | apply Kd.R_drew)); exact HO_255003.out)⟩; have n1_ : Aside0 (Kd.R Kd.string 9 wc w.heap.size (fun _ => True) (.slice (some ad237) t233.length co16) t233) := ⟨by rw [← hq_]; exact (by (with_reducible repeat (first | apply Kd.R_alloc | apply Kd.R_drewN | apply Kd.R_drew)); exact HO_4.out)⟩; have n2_ : Aside0 (wc.heap[gb232]? = some (.cells #[.string x233000_5, .string x233001_5, .int .i64 x233002_5, .slice none 0 0] 24 (0, 0))) := ⟨by rw [← hq_]; exact (by (with_reducible repeat (first | refine blk_drewN ?_ _ | refine blk_drew ?_ | refine blk_alloc ?_ _)); exact BK232.out)⟩; have n3_ : Aside0 (wc.heap[gb254]? = some (.cells #[.string (rdOf ByteArray.empty t238 0), .string (rdOf ByteArray.empty t238 1), .int .i64 (wrap64 (((bt (rdOf ByteArray.empty t238 2) 7) - 48) % 256)), u255003] 24 (0, 0))) := ⟨by rw [← hq_]; exact (by (with_reducible repeat (first | refine blk_drewN ?_ _ | refine blk_drew ?_ | refine blk_alloc ?_ _)); exact BK254.out)⟩; have n4_ : Aside0 (Below w.heap.size w wc) := ⟨by rw [← hq_]; exact (by repeat (first | (with_reducible first | exact HB.out | apply below_alloc | apply pw_below_drewN | apply below_drew1 | refine below_set ?_ GE232.out | refine below_set ?_ GE254.out) | exact HB.out))⟩; clear HO_255003 HO_4 BK232 BK254 HB hq_; have HO_255003 := n0_; have HO_4 := n1_; have BK232 := n2_; have BK254 := n3_; have HB := n4_; clear n0_ n1_ n2_ n3_ n4_))))
                                     have n0_ := Aside0.mk (Kd.R_drew HO_4.out)
                                     have n1_ := Aside0.mk (Kd.R_drew HO_255003.out)
                                     have n2_ := Aside0.mk (blk_drew BK232.out)
                                     have n3_ := Aside0.mk (blk_drew BK254.out)
                                     have n4_ := Aside0.mk (below_drew1 HB.out)
                                     clear HO_4
                                     clear HO_255003
                                     clear BK232
                                     clear BK254
                                     clear HB
                                     have HO_4 := n0_
                                     have HO_255003 := n1_
                                     have BK232 := n2_
                                     have BK254 := n3_
                                     have HB := n4_
                                     clear n0_ n1_ n2_ n3_ n4_
                                     have p264 : 0 ≤ (x9_5 : Int) := of_decide_eq_true (by first | (with_reducible assumption) | assumption)
                                     have q264 : x9_5 < (t233.length : Int) := of_decide_eq_true (by first | (with_reducible assumption) | assumption)
                                     obtain ⟨ad264, e264, hx264_0⟩ := Kd.at_string (Kd.R_reads' HO_4.out).2.2 x9_5 p264 q264
                                     obtain rfl : ad237 = ad264 := (by injection e264)
                                     replace p264 := eq_true p264
                                     replace q264 := eq_true q264
                                     have p265 : 0 ≤ (x9_5 : Int) := of_decide_eq_true (by first | (with_reducible assumption) | assumption)
                                     have q265 : x9_5 < (t233.length : Int) := of_decide_eq_true (by first | (with_reducible assumption) | assumption)
                                     obtain ⟨ad265, e265, hx265_0⟩ := Kd.at_string (Kd.R_reads' HO_4.out).2.2 x9_5 p265 q265
                                     obtain rfl : ad237 = ad265 := (by injection e265)
                                     replace p265 := eq_true p265
                                     replace q265 := eq_true q265
                                     refine start_ (n := 21) (S := fun w' => w'.cell? ⟨gb254, 0, none⟩ = some (.string (rdOf ByteArray.empty t238 0)) ∧ w'.cell? ⟨gb254, 1, none⟩ = some (.string (rdOf ByteArray.empty t238 1)) ∧ w'.cell? ⟨gb254, 2, none⟩ = some (.int .i64 (wrap64 (((bt (rdOf ByteArray.empty t238 2) 7) - 48) % 256))) ∧ w'.cell? ⟨gb254, 3, none⟩ = some (u255003) ∧ w'.cell? (ad237.add (x9_5).toNat) = some (.string (rdOf ByteArray.empty t233 x9_5)) ∧ w'.cell? (ad237.add (x9_5).toNat) = some (.string (rdOf ByteArray.empty t233 x9_5))) (ds := [18, 20]) #[false, false, false, false, false, false, false, false, false, false, false, false, false, false, false, false, false, false, false, false, false] (by kernel_rfl) rfl rfl ⟨(blk_cell BK254.out 0).trans rfl, (blk_cell BK254.out 1).trans rfl, (blk_cell BK254.out 2).trans rfl, (blk_cell BK254.out 3).trans rfl, hx264_0, hx265_0⟩ (fun hHeld => ?_); refine with_tabW ostiaryref13_Parse.tab29 ostiaryref13_Parse.bits29 (fun HT_ HW_ => ?_)
                                     generalize wc.drew = w102 at HO_4 HO_255003 BK232 BK254 HB hx264_0 hx265_0 hHeld ⊢
                                     refine pure_ (i := 0) (N := some 178) (v := ?_) (a' := ?_) #[true, false, false, false, false, false, false, false, false, false, false, false, false, false, false, false, false, false, false, false, false] rfl rfl (any_of HT_.out (by kernel_rfl)) (fun _ _ _ h => h) (Or.inl ⟨by rfl, ?_⟩) ?_ ?_
                                     rotate_left
                                     ·intro w'
                                      go_simp
                                      with_reducible rfl
                                     rotate_left
                                     ·simp only [Act.put, List.setIfInBounds_toArray, List.set_cons_zero, List.set_cons_succ, i64_w, i32_w]
                                      rfl
                                     refine pure_ (i := 2) (N := some 180) (v := ?_) (a' := ?_) #[true, false, true, false, false, false, false, false, false, false, false, false, false, false, false, false, false, false, false, false, false] rfl rfl (any_of HT_.out (by kernel_rfl)) (fun _ _ _ h => h) (Or.inl ⟨by rfl, ?_⟩) ?_ ?_
                                     rotate_left
                                     ·intro w'
                                      go_simp
                                      with_reducible rfl
                                     rotate_left
                                     ·simp only [Act.put, List.setIfInBounds_toArray, List.set_cons_zero, List.set_cons_succ, i64_w, i32_w]
                                      rfl
                                     refine pure_ (i := 3) (N := some 181) (v := ?_) (a' := ?_) #[true, false, true, true, false, false, false, false, false, false, false, false, false, false, false, false, false, false, false, false, false] rfl rfl (any_of HT_.out (by kernel_rfl)) (fun _ _ _ h => h) (Or.inl ⟨by rfl, ?_⟩) ?_ ?_
                                     rotate_left
                                     ·intro w'
                                      go_simp
                                      with_reducible rfl
                                     rotate_left
                                     ·simp only [Act.put, List.setIfInBounds_toArray, List.set_cons_zero, List.set_cons_succ, i64_w, i32_w]
                                      rfl
                                     refine pure_ (i := 4) (N := some 182) (v := ?_) (a' := ?_) #[true, false, true, true, true, false, false, false, false, false, false, false, false, false, false, false, false, false, false, false, false] rfl rfl (any_of HT_.out (by kernel_rfl)) (fun _ _ _ h => h) (Or.inl ⟨by rfl, ?_⟩) ?_ ?_
                                     rotate_left
                                     ·intro w'
                                      go_simp
                                      with_reducible rfl
                                     rotate_left
                                     ·simp only [Act.put, List.setIfInBounds_toArray, List.set_cons_zero, List.set_cons_succ, i64_w, i32_w]
                                      rfl
                                     refine pure_ (i := 6) (N := some 184) (v := ?_) (a' := ?_) #[true, false, true, true, true, false, true, false, false, false, false, false, false, false, false, false, false, false, false, false, false] rfl rfl (any_of HT_.out (by kernel_rfl)) (fun _ _ _ h => h) (Or.inl ⟨by rfl, ?_⟩) ?_ ?_
                                     rotate_left
                                     ·intro w'
                                      go_simp
                                      with_reducible rfl
                                     rotate_left
                                     ·simp only [Act.put, List.setIfInBounds_toArray, List.set_cons_zero, List.set_cons_succ, i64_w, i32_w]
                                      rfl
                                     refine pure_ (i := 8) (N := some 186) (v := ?_) (a' := ?_) #[true, false, true, true, true, false, true, false, true, false, false, false, false, false, false, false, false, false, false, false, false] rfl rfl (any_of HT_.out (by kernel_rfl)) (fun _ _ _ h => h) (Or.inl ⟨by rfl, ?_⟩) ?_ ?_
                                     rotate_left
                                     ·intro w'
                                      go_simp
                                      with_reducible rfl
                                     rotate_left
                                     ·simp only [Act.put, List.setIfInBounds_toArray, List.set_cons_zero, List.set_cons_succ, i64_w, i32_w]
                                      rfl
                                     refine pure_ (i := 9) (N := some 187) (v := ?_) (a' := ?_) #[true, false, true, true, true, false, true, false, true, true, false, false, false, false, false, false, false, false, false, false, false] rfl rfl (any_of HT_.out (by kernel_rfl)) (fun _ _ _ h => h) (Or.inl ⟨by rfl, ?_⟩) ?_ ?_
                                     rotate_left
                                     ·intro w'
                                      go_simp
                                      with_reducible rfl
                                     rotate_left
                                     ·simp only [Act.put, List.setIfInBounds_toArray, List.set_cons_zero, List.set_cons_succ, i64_w, i32_w]
                                      rfl
                                     refine pure_ (i := 10) (N := some 188) (v := ?_) (a' := ?_) #[true, false, true, true, true, false, true, false, true, true, true, false, false, false, false, false, false, false, false, false, false] rfl rfl (any_of HT_.out (by kernel_rfl)) (fun _ _ _ h => h) (Or.inl ⟨by rfl, ?_⟩) ?_ ?_
                                     rotate_left
                                     ·intro w'
                                      go_simp
                                      with_reducible rfl
                                     rotate_left
                                     ·simp only [Act.put, List.setIfInBounds_toArray, List.set_cons_zero, List.set_cons_succ, i64_w, i32_w]
                                      rfl
                                     refine pure_ (i := 12) (N := some 190) (v := ?_) (a' := ?_) #[true, false, true, true, true, false, true, false, true, true, true, false, true, false, false, false, false, false, false, false, false] rfl rfl (any_of HT_.out (by kernel_rfl)) (fun _ _ _ h => h) (Or.inl ⟨by rfl, ?_⟩) ?_ ?_
                                     rotate_left
                                     ·intro w'
                                      go_simp
                                      with_reducible rfl
                                     rotate_left
                                     ·simp only [Act.put, List.setIfInBounds_toArray, List.set_cons_zero, List.set_cons_succ, i64_w, i32_w]
                                      rfl
                                     refine pure_ (i := 13) (N := some 191) (v := ?_) (a' := ?_) #[true, false, true, true, true, false, true, false, true, true, true, false, true, true, false, false, false, false, false, false, false] rfl rfl (any_of HT_.out (by kernel_rfl)) (fun _ _ _ h => h) (Or.inl ⟨by rfl, ?_⟩) ?_ ?_
                                     rotate_left
                                     ·intro w'
                                      go_simp
                                      with_reducible rfl
                                     rotate_left
                                     ·simp only [Act.put, List.setIfInBounds_toArray, List.set_cons_zero, List.set_cons_succ, i64_w, i32_w]
                                      rfl
                                     refine take_ (i := 1) (N := some 179) (v := ?_) (a' := ?_) #[true, true, true, true, true, false, true, false, true, true, true, false, true, true, false, false, false, false, false, false, false] rfl rfl (take_ofW HT_.out HW_.out (by kernel_rfl)) (fun _ _ _ h => h) (Or.inl ⟨by rfl, ?_⟩) hHeld ?_ ?_
                                     rotate_left
                                     ·rintro w' ⟨s0, s1, s2, s3, s4, s5⟩
                                      go_simp
                                      with_reducible rfl
                                     rotate_left
                                     ·simp only [Act.put, List.setIfInBounds_toArray, List.set_cons_zero, List.set_cons_succ, i64_w, i32_w]
                                      rfl
                                     refine take_ (i := 5) (N := some 183) (v := ?_) (a' := ?_) #[true, true, true, true, true, true, true, false, true, true, true, false, true, true, false, false, false, false, false, false, false] rfl rfl (take_ofW HT_.out HW_.out (by kernel_rfl)) (fun _ _ _ h => h) (Or.inl ⟨by rfl, ?_⟩) hHeld ?_ ?_
                                     rotate_left
                                     ·rintro w' ⟨s0, s1, s2, s3, s4, s5⟩
                                      go_simp
                                      with_reducible rfl
                                     rotate_left
                                     ·simp only [Act.put, List.setIfInBounds_toArray, List.set_cons_zero, List.set_cons_succ, i64_w, i32_w]
                                      rfl
                                     refine pure_ (i := 7) (N := some 185) (v := ?_) (a' := ?_) #[true, true, true, true, true, true, true, true, true, true, true, false, true, true, false, false, false, false, false, false, false] rfl rfl (any_of HT_.out (by kernel_rfl)) (fun _ _ _ h => h) (Or.inl ⟨by rfl, ?_⟩) ?_ ?_
                                     rotate_left
                                     ·intro w'
                                      go_simp
                                      with_reducible rfl
                                     rotate_left
                                     ·simp only [Act.put, List.setIfInBounds_toArray, List.set_cons_zero, List.set_cons_succ, i64_w, i32_w]
                                      rfl
                                     refine take_ (i := 11) (N := some 189) (v := ?_) (a' := ?_) #[true, true, true, true, true, true, true, true, true, true, true, true, true, true, false, false, false, false, false, false, false] rfl rfl (take_ofW HT_.out HW_.out (by kernel_rfl)) (fun _ _ _ h => h) (Or.inl ⟨by rfl, ?_⟩) hHeld ?_ ?_
                                     rotate_left
                                     ·rintro w' ⟨s0, s1, s2, s3, s4, s5⟩
                                      go_simp
                                      with_reducible rfl
                                     rotate_left
                                     ·simp only [Act.put, List.setIfInBounds_toArray, List.set_cons_zero, List.set_cons_succ, i64_w, i32_w]
                                      rfl
                                     refine pure_ (i := 14) (N := some 192) (v := ?_) (a' := ?_) #[true, true, true, true, true, true, true, true, true, true, true, true, true, true, true, false, false, false, false, false, false] rfl rfl (any_of HT_.out (by kernel_rfl)) (fun _ _ _ h => h) (Or.inl ⟨by rfl, ?_⟩) ?_ ?_
                                     rotate_left
                                     ·intro w'
                                      go_simp
                                      with_reducible rfl
                                     rotate_left
                                     ·simp only [Act.put, List.setIfInBounds_toArray, List.set_cons_zero, List.set_cons_succ, i64_w, i32_w]
                                      rfl
                                     refine one_ (i := 15) (N := some 193) #[true, true, true, true, true, true, true, true, true, true, true, true, true, true, true, true, false, false, false, false, false] rfl rfl (one_of HT_.out (by kernel_rfl)) (by decide) (fun K hK => ?_)
                                     refine goes_ Tryd.func85 (by kernel_rfl) rfl #[.string ((rdOf ByteArray.empty t233 x9_5).extract ((ji90) : Int).toNat (rdOf ByteArray.empty t233 x9_5).size)] (by rfl) rfl rfl (by (try simp only [List.map_toArray, List.map_cons, List.map_nil]); first | done | (simp only [hji90]; rfl) | rfl | (simp only [List.length_drop, List.length_take]; rfl)) ?_
                                     with_reducible refine (ostiaryref13_Trim.calls kj73 ((rdOf ByteArray.empty t233 x9_5).extract ((ji90) : Int).toNat (rdOf ByteArray.empty t233 x9_5).size) t266 _ A100.out).mono ?_
                                     rintro e w' ⟨rfl, ⟨nd, rfl⟩⟩
                                     refine ⟨_, rfl, ?_⟩
                                     refine hK.out _ _ ⟨(blk_cell BK254.out 0).trans rfl, (blk_cell BK254.out 1).trans rfl, (blk_cell BK254.out 2).trans rfl, (blk_cell BK254.out 3).trans rfl, hHeld.2.2.2.2.1, hHeld.2.2.2.2.2⟩ (fun hHeld => ?_)
                                     clear hK K
                                     refine norm_ (a' := ?_) ?_ ?_
                                     rotate_left
                                     ·show Act.put _ (some 193) _ = _
                                      simp only [Act.put, List.setIfInBounds_toArray, List.set_cons_zero, List.set_cons_succ, i64_w, i32_w]
                                      rfl
                                     refine pure_ (i := 16) (N := some 194) (v := ?_) (a' := ?_) #[true, true, true, true, true, true, true, true, true, true, true, true, true, true, true, true, true, false, false, false, false] rfl rfl (any_of HT_.out (by kernel_rfl)) (fun _ _ _ h => h) (Or.inl ⟨by rfl, ?_⟩) ?_ ?_
                                     rotate_left
                                     ·intro w'
                                      go_simp
                                      with_reducible rfl
                                     rotate_left
                                     ·simp only [Act.put, List.setIfInBounds_toArray, List.set_cons_zero, List.set_cons_succ, i64_w, i32_w]
                                      rfl
                                     refine one_ (i := 17) (N := some 195) #[true, true, true, true, true, true, true, true, true, true, true, true, true, true, true, true, true, true, false, false, false] rfl rfl (one_of HT_.out (by kernel_rfl)) (by decide) (fun K hK => ?_)
                                     refine value_ (w1 := ?_) (v := ?_) (by rfl) rfl ?_ ?_
                                     rotate_left 2
                                     ·go_simp
                                      constructor
                                      ·rfl
                                      ·rfl
                                     refine hK.out _ _ ⟨(blk_cell (blk_alloc BK254.out _) 0).trans rfl, (blk_cell (blk_alloc BK254.out _) 1).trans rfl, (blk_cell (blk_alloc BK254.out _) 2).trans rfl, (blk_cell (blk_alloc BK254.out _) 3).trans rfl, (World.cell?_alloc_lt _ _ _ (World.block_lt_of_cell? _ _ (hHeld.2.2.2.2.1))).trans (hHeld.2.2.2.2.1), (World.cell?_alloc_lt _ _ _ (World.block_lt_of_cell? _ _ (hHeld.2.2.2.2.2))).trans (hHeld.2.2.2.2.2)⟩ (fun hHeld => ?_)
                                     clear hK K
                                     refine norm_ (a' := ?_) ?_ ?_
                                     rotate_left
                                     ·show Act.put _ (some 195) _ = _
                                      simp only [Act.put, List.setIfInBounds_toArray, List.set_cons_zero, List.set_cons_succ, i64_w, i32_w]
                                      rfl
                                     refine last_ (i := 18) (N := some 196) #[true, true, true, true, true, true, true, true, true, true, true, true, true, true, true, true, true, true, true, false, false] rfl rfl (one_of HT_.out (by kernel_rfl)) (by decide) (fun K hK => ?_)
                                     refine Kd.R_append_step k67 (w0 := w) w.heap.size (by rfl) (.tmp 179) (.tmp 195) 22 67 (.agg #[(.string ⟨#[]⟩), (.string ⟨#[]⟩)]) 32 rfl Tryd.underlying22 info67 rfl (by decide) (by omega) u255003 x255003_5 (⟨(rdOf ByteArray.empty t233 x9_5).extract 0 (x10_73 : Int).toNat, t266⟩ : S67) [.string ((rdOf ByteArray.empty t233 x9_5).extract 0 (x10_73 : Int).toNat), .string t266] (fun _ => True) (fun _ => False) rfl rfl ?aP (fun _ hk => hk.elim) ?aF ?aO ?aB ?aS ?aL ?_
                                     (case aP => exact k67_mkM _ _ _ (⟨(rdOf ByteArray.empty t233 x9_5).extract 0 (x10_73 : Int).toNat, t266⟩ : S67))
                                     (case aB => exact (by repeat (first | (with_reducible first | exact HB.out | apply below_alloc | apply pw_below_drewN | apply below_drew1 | refine below_set ?_ GE232.out | refine below_set ?_ GE254.out) | exact HB.out)))
                                     (case aF => exact (fun _ _ => trivial))
                                     (case aO => exact (by (with_reducible repeat (first | apply Kd.R_alloc | apply Kd.R_drewN | apply Kd.R_drew)); exact HO_255003.out))
                                     (case aS => exact (below_size (by repeat (first | (with_reducible first | exact HB.out | apply below_alloc | apply pw_below_drewN | apply below_drew1 | refine below_set ?_ GE232.out | refine below_set ?_ GE254.out) | exact HB.out))))
                                     (case aL => have := LMc101.out; omega)
                                     intro v268 w103 ho hb hg hat
                                     rw [← Ny267.out] at ho
                                     have n0_ := Aside0.mk (Kd.R_over' (by (with_reducible repeat (first | apply Kd.R_alloc | apply Kd.R_drewN | apply Kd.R_drew)); exact HO_4.out) (Kd.R_typed (by (with_reducible repeat (first | apply Kd.R_alloc | apply Kd.R_drewN | apply Kd.R_drew)); exact HO_255003.out)) (by decide) hg)
                                     have n1_ := Aside0.mk (blk_grown (g := gb232) (o := .cells #[.string x233000_5, .string x233001_5, .int .i64 x233002_5, .slice none 0 0] 24 (0, 0)) (by (with_reducible repeat (first | refine blk_drewN ?_ _ | refine blk_drew ?_ | refine blk_alloc ?_ _)); exact BK232.out) hg (Kd.R_ne HO_255003.out BK232.out (by decide)))
                                     have n2_ := Aside0.mk (blk_grown (g := gb254) (o := .cells #[.string (rdOf ByteArray.empty t238 0), .string (rdOf ByteArray.empty t238 1), .int .i64 (wrap64 (((bt (rdOf ByteArray.empty t238 2) 7) - 48) % 256)), u255003] 24 (0, 0)) (by (with_reducible repeat (first | refine blk_drewN ?_ _ | refine blk_drew ?_ | refine blk_alloc ?_ _)); exact BK254.out) hg (Kd.R_ne HO_255003.out BK254.out (by decide)))
                                     have n3_ := Aside0.mk (hb)
                                     have n4_ := Aside0.mk (ho)
                                     clear HO_4
                                     clear BK232
                                     clear BK254
                                     clear HB
                                     clear HO_255003
                                     have HO_4 := n0_
                                     have BK232 := n1_
                                     have BK254 := n2_
                                     have HB := n3_
                                     have HO269 := n4_
                                     clear n0_ n1_ n2_ n3_ n4_
                                     clear ho hb hg hat
                                     obtain ⟨Ao104, co104, eo104⟩ := Kd.R_slice HO269.out
                                     (first | subst eo104 | (injection eo104 with f1_ f2_ f3_; have f4_ := f1_.symm; have f5_ := f3_.symm; clear f1_ f2_ f3_; subst f4_; subst f5_))
                                     refine hK.out _ _ ?_
                                     clear hK K
                                     refine norm_ (a' := ?_) ?_ ?_
                                     rotate_left
                                     ·show Act.put _ (some 196) _ = _
                                      simp only [Act.put, List.setIfInBounds_toArray, List.set_cons_zero, List.set_cons_succ, i64_w, i32_w]
                                      rfl
                                     refine pure_ (i := 19) (N := some 197) (v := ?_) (a' := ?_) #[true, true, true, true, true, true, true, true, true, true, true, true, true, true, true, true, true, true, true, true, false] rfl rfl (any_of HT_.out (by kernel_rfl)) (fun _ _ _ h => h) (Or.inl ⟨by rfl, ?_⟩) ?_ ?_
                                     rotate_left
                                     ·intro w'
                                      go_simp
                                      with_reducible rfl
                                     rotate_left
                                     ·simp only [Act.put, List.setIfInBounds_toArray, List.set_cons_zero, List.set_cons_succ, i64_w, i32_w]
                                      rfl
                                     refine last_ (i := 20) (N := none) #[true, true, true, true, true, true, true, true, true, true, true, true, true, true, true, true, true, true, true, true, true] rfl rfl (one_of HT_.out (by kernel_rfl)) (by decide) (fun K hK => ?_)
                                     have hs105 : w103.cell? ⟨gb254, 3, none⟩ = some (u255003) := (blk_cell BK254.out 3).trans rfl
                                     have hfs105 := blk_frozen BK254.out 3
                                     have hns105_0 := NB232_254.out
                                     have hms105_0 := NB254_232.out
                                     refine skip_ (w1 := ?_) (by rfl) rfl ?_ ?_
                                     rotate_left
                                     ·go_simp
                                      rfl
                                     refine hK.out _ _ ?_
                                     clear hK K
                                     refine done_ (done_of HT_.out (by kernel_rfl)) ?_
                                     try go_wp2
                                     go_roundg kj73
                                     case measure => have := HJ5.out; have := HJ14.out; have := HJ33.out; have := HJ51.out; have := HK5.out; have := HJ73.out; omega
                                     case rel => exact ⟨(wrap64 (x9_5 + 1)), (x233000_5), (x233001_5), (x233002_5), (y267), (.slice Ao104 y267.length co104), (by first | rfl | (simp; done) | (simp [*]; done)), H', ⟨by have := HJ5.out; have := HJ14.out; have := HJ33.out; have := HJ51.out; have := HK5.out; have := HJ73.out; omega⟩, ⟨by (with_reducible repeat (first | apply Kd.R_alloc | apply Kd.R_drewN | apply Kd.R_drew)); exact Kd.R_mono (Kd.R_far (p := ⟨gb254, 3, none⟩) (Kd.R_types HO_4.out BK254.out (by decide)) (fun _ hk => hk.2) (.slice Ao104 y267.length co104)) (fun _ hk => trivial)⟩, ⟨by (with_reducible repeat (first | apply Kd.R_alloc | apply Kd.R_drewN | apply Kd.R_drew)); exact Kd.R_mono (Kd.R_far (p := ⟨gb254, 3, none⟩) (Kd.R_types HO269.out BK254.out (by decide)) (fun _ hk => hk.2) (.slice Ao104 y267.length co104)) (fun _ hk => trivial)⟩, ⟨by (with_reducible repeat (first | refine blk_drewN ?_ _ | refine blk_drew ?_ | refine blk_alloc ?_ _)); refine blk_far ?_ NB232_254.out _; (with_reducible repeat (first | refine blk_drewN ?_ _ | refine blk_drew ?_ | refine blk_alloc ?_ _)); exact BK232.out⟩, ⟨by (with_reducible repeat (first | refine blk_drewN ?_ _ | refine blk_drew ?_ | refine blk_alloc ?_ _)); refine blk_put (cs := #[.string (rdOf ByteArray.empty t238 0), .string (rdOf ByteArray.empty t238 1), .int .i64 (wrap64 (((bt (rdOf ByteArray.empty t238 2) 7) - 48) % 256)), u255003]) ?_ 3 _ rfl; (with_reducible repeat (first | refine blk_drewN ?_ _ | refine blk_drew ?_ | refine blk_alloc ?_ _)); exact BK254.out⟩, ⟨by repeat (first | (with_reducible first | exact HB.out | apply below_alloc | apply pw_below_drewN | apply below_drew1 | refine below_set ?_ GE232.out | refine below_set ?_ GE254.out) | exact HB.out)⟩⟩
                                    ·rw [if_neg c101] at H
                                     exact absurd H (by simp)
                                   ·replace c95 := Bool.eq_false_iff.mpr c95
                                    subst c95
                                    have H1 : (some ((⟨#[]⟩ : ByteArray), (⟨#[]⟩ : ByteArray), 0, ([] : List (S67)), 400)) = some (r1, r2, r3, r4, r5) := by rw [if_neg (show ¬ (false = true) by decide)] at H; exact H
                                    clear H
                                    have H := H1
                                    clear H1
                                    simp only [Option.some.injEq, Prod.mk.injEq] at H
                                    obtain ⟨rfl, rfl, rfl, rfl, rfl⟩ := H
                                    have p258 : 0 ≤ (x9_5 : Int) := of_decide_eq_true (by first | (with_reducible assumption) | assumption)
                                    have q258 : x9_5 < (t233.length : Int) := of_decide_eq_true (by first | (with_reducible assumption) | assumption)
                                    obtain ⟨ad258, e258, hx258_0⟩ := Kd.at_string (Kd.R_reads' HO_4.out).2.2 x9_5 p258 q258
                                    obtain rfl : ad237 = ad258 := (by injection e258)
                                    replace p258 := eq_true p258
                                    replace q258 := eq_true q258
                                    have p259 : 0 ≤ (x9_5 : Int) := of_decide_eq_true (by first | (with_reducible assumption) | assumption)
                                    have q259 : x9_5 < (t233.length : Int) := of_decide_eq_true (by first | (with_reducible assumption) | assumption)
                                    obtain ⟨ad259, e259, hx259_0⟩ := Kd.at_string (Kd.R_reads' HO_4.out).2.2 x9_5 p259 q259
                                    obtain rfl : ad237 = ad259 := (by injection e259)
                                    replace p259 := eq_true p259
                                    replace q259 := eq_true q259
                                    go_wp2_with (first | (go_at_call 70; (with_reducible refine (ostiaryref13_Word.calls kj73 ((rdOf ByteArray.empty t233 x9_5).extract 0 (x10_73 : Int).toNat) 64 true _ A88.out).mono ?_); rintro e w' ⟨rfl, ⟨nd, rfl⟩⟩; (try (rw [drewN_self wc]; generalize hq_ : World.drewN wc _ = wc; have n0_ : Aside0 (Kd.R k67 67 wc w.heap.size (fun _ => True) u255003 x255003_5) := ⟨by rw [← hq_]; exact (by (with_reducible repeat (first | apply Kd.R_alloc | apply Kd.R_drewN | apply Kd.R_drew)); exact HO_255003.out)⟩; have n1_ : Aside0 (Kd.R Kd.string 9 wc w.heap.size (fun _ => True) (.slice (some ad237) t233.length co16) t233) := ⟨by rw [← hq_]; exact (by (with_reducible repeat (first | apply Kd.R_alloc | apply Kd.R_drewN | apply Kd.R_drew)); exact HO_4.out)⟩; have n2_ : Aside0 (wc.heap[gb232]? = some (.cells #[.string x233000_5, .string x233001_5, .int .i64 x233002_5, .slice none 0 0] 24 (0, 0))) := ⟨by rw [← hq_]; exact (by (with_reducible repeat (first | refine blk_drewN ?_ _ | refine blk_drew ?_ | refine blk_alloc ?_ _)); exact BK232.out)⟩; have n3_ : Aside0 (wc.heap[gb254]? = some (.cells #[.string (rdOf ByteArray.empty t238 0), .string (rdOf ByteArray.empty t238 1), .int .i64 (wrap64 (((bt (rdOf ByteArray.empty t238 2) 7) - 48) % 256)), u255003] 24 (0, 0))) := ⟨by rw [← hq_]; exact (by (with_reducible repeat (first | refine blk_drewN ?_ _ | refine blk_drew ?_ | refine blk_alloc ?_ _)); exact BK254.out)⟩; have n4_ : Aside0 (Below w.heap.size w wc) := ⟨by rw [← hq_]; exact (by repeat (first | (with_reducible first | exact HB.out | apply below_alloc | apply pw_below_drewN | apply below_drew1 | refine below_set ?_ GE232.out | refine below_set ?_ GE254.out) | exact HB.out))⟩; clear HO_255003 HO_4 BK232 BK254 HB hq_; have HO_255003 := n0_; have HO_4 := n1_; have BK232 := n2_; have BK254 := n3_; have HB := n4_; clear n0_ n1_ n2_ n3_ n4_)); have p261 : 0 ≤ (x9_5 : Int) := of_decide_eq_true (by first | (with_reducible assumption) | assumption); have q261 : x9_5 < (t233.length : Int) := of_decide_eq_true (by first | (with_reducible assumption) | assumption); obtain ⟨ad261, e261, hx261_0⟩ := Kd.at_string (Kd.R_reads' HO_4.out).2.2 x9_5 p261 q261; obtain rfl : ad237 = ad261 := (by injection e261); replace p261 := eq_true p261; replace q261 := eq_true q261) | (go_at_call 85; (with_reducible refine (ostiaryref13_Trim.calls kj73 ((rdOf ByteArray.empty t233 x9_5).extract ((ji90) : Int).toNat (rdOf ByteArray.empty t233 x9_5).size) t262 _ A93.out).mono ?_); rintro e w' ⟨rfl, ⟨nd, rfl⟩⟩; (try (rw [drewN_self wc]; generalize hq_ : World.drewN wc _ = wc; have n0_ : Aside0 (Kd.R k67 67 wc w.heap.size (fun _ => True) u255003 x255003_5) := ⟨by rw [← hq_]; exact (by (with_reducible repeat (first | apply Kd.R_alloc | apply Kd.R_drewN | apply Kd.R_drew)); exact HO_255003.out)⟩; have n1_ : Aside0 (Kd.R Kd.string 9 wc w.heap.size (fun _ => True) (.slice (some ad237) t233.length co16) t233) := ⟨by rw [← hq_]; exact (by (with_reducible repeat (first | apply Kd.R_alloc | apply Kd.R_drewN | apply Kd.R_drew)); exact HO_4.out)⟩; have n2_ : Aside0 (wc.heap[gb232]? = some (.cells #[.string x233000_5, .string x233001_5, .int .i64 x233002_5, .slice none 0 0] 24 (0, 0))) := ⟨by rw [← hq_]; exact (by (with_reducible repeat (first | refine blk_drewN ?_ _ | refine blk_drew ?_ | refine blk_alloc ?_ _)); exact BK232.out)⟩; have n3_ : Aside0 (wc.heap[gb254]? = some (.cells #[.string (rdOf ByteArray.empty t238 0), .string (rdOf ByteArray.empty t238 1), .int .i64 (wrap64 (((bt (rdOf ByteArray.empty t238 2) 7) - 48) % 256)), u255003] 24 (0, 0))) := ⟨by rw [← hq_]; exact (by (with_reducible repeat (first | refine blk_drewN ?_ _ | refine blk_drew ?_ | refine blk_alloc ?_ _)); exact BK254.out)⟩; have n4_ : Aside0 (Below w.heap.size w wc) := ⟨by rw [← hq_]; exact (by repeat (first | (with_reducible first | exact HB.out | apply below_alloc | apply pw_below_drewN | apply below_drew1 | refine below_set ?_ GE232.out | refine below_set ?_ GE254.out) | exact HB.out))⟩; clear HO_255003 HO_4 BK232 BK254 HB hq_; have HO_255003 := n0_; have HO_4 := n1_; have BK232 := n2_; have BK254 := n3_; have HB := n4_; clear n0_ n1_ n2_ n3_ n4_))) | (go_at_call 71; (with_reducible refine (ostiaryref13_Value.calls kj73 t262 false _ A94.out).mono ?_); rintro e w' ⟨rfl, ⟨nd, rfl⟩⟩; (try (rw [drewN_self wc]; generalize hq_ : World.drewN wc _ = wc; have n0_ : Aside0 (Kd.R k67 67 wc w.heap.size (fun _ => True) u255003 x255003_5) := ⟨by rw [← hq_]; exact (by (with_reducible repeat (first | apply Kd.R_alloc | apply Kd.R_drewN | apply Kd.R_drew)); exact HO_255003.out)⟩; have n1_ : Aside0 (Kd.R Kd.string 9 wc w.heap.size (fun _ => True) (.slice (some ad237) t233.length co16) t233) := ⟨by rw [← hq_]; exact (by (with_reducible repeat (first | apply Kd.R_alloc | apply Kd.R_drewN | apply Kd.R_drew)); exact HO_4.out)⟩; have n2_ : Aside0 (wc.heap[gb232]? = some (.cells #[.string x233000_5, .string x233001_5, .int .i64 x233002_5, .slice none 0 0] 24 (0, 0))) := ⟨by rw [← hq_]; exact (by (with_reducible repeat (first | refine blk_drewN ?_ _ | refine blk_drew ?_ | refine blk_alloc ?_ _)); exact BK232.out)⟩; have n3_ : Aside0 (wc.heap[gb254]? = some (.cells #[.string (rdOf ByteArray.empty t238 0), .string (rdOf ByteArray.empty t238 1), .int .i64 (wrap64 (((bt (rdOf ByteArray.empty t238 2) 7) - 48) % 256)), u255003] 24 (0, 0))) := ⟨by rw [← hq_]; exact (by (with_reducible repeat (first | refine blk_drewN ?_ _ | refine blk_drew ?_ | refine blk_alloc ?_ _)); exact BK254.out)⟩; have n4_ : Aside0 (Below w.heap.size w wc) := ⟨by rw [← hq_]; exact (by repeat (first | (with_reducible first | exact HB.out | apply below_alloc | apply pw_below_drewN | apply below_drew1 | refine below_set ?_ GE232.out | refine below_set ?_ GE254.out) | exact HB.out))⟩; clear HO_255003 HO_4 BK232 BK254 HB hq_; have HO_255003 := n0_; have HO_4 := n1_; have BK232 := n2_; have BK254 := n3_; have HB := n4_; clear n0_ n1_ n2_ n3_ n4_)); have hnb106 := NB232_254.out; have hnc106 := NB254_232.out; have hcz107_0 : wc.cell? ⟨gb232, 0, none⟩ = some (.string x233000_5) := (blk_cell BK232.out 0).trans rfl; have hcz107_1 : wc.cell? ⟨gb232, 1, none⟩ = some (.string x233001_5) := (blk_cell BK232.out 1).trans rfl; have hcz107_2 : wc.cell? ⟨gb232, 2, none⟩ = some (.int .i64 x233002_5) := (blk_cell BK232.out 2).trans rfl; have hcz107_3 : wc.cell? ⟨gb232, 3, none⟩ = some (.slice none 0 0) := (blk_cell BK232.out 3).trans rfl; have hfz107_0 := blk_frozen BK232.out 0; have hfz107_1 := blk_frozen BK232.out 1; have hfz107_2 := blk_frozen BK232.out 2; have hfz107_3 := blk_frozen BK232.out 3))
                                    refine bodyPost_ret (results_ct rfl _ _ gb232 24 #[.string (⟨#[]⟩ : ByteArray), .string (⟨#[]⟩ : ByteArray), .int .i64 0, .slice none 0 0] (0, 0) _ rfl (by (with_reducible repeat (first | refine blk_drewN ?_ _ | refine blk_drew ?_ | refine blk_alloc ?_ _)); refine blk_put (cs := #[.string (⟨#[]⟩ : ByteArray), .string (⟨#[]⟩ : ByteArray), .int .i64 0, .slice none 0 0]) ?_ 3 _ rfl; (with_reducible repeat (first | refine blk_drewN ?_ _ | refine blk_drew ?_ | refine blk_alloc ?_ _)); refine blk_put (cs := #[.string (⟨#[]⟩ : ByteArray), .string (⟨#[]⟩ : ByteArray), .int .i64 x233002_5, .slice none 0 0]) ?_ 2 _ rfl; (with_reducible repeat (first | refine blk_drewN ?_ _ | refine blk_drew ?_ | refine blk_alloc ?_ _)); refine blk_put (cs := #[.string (⟨#[]⟩ : ByteArray), .string x233001_5, .int .i64 x233002_5, .slice none 0 0]) ?_ 1 _ rfl; (with_reducible repeat (first | refine blk_drewN ?_ _ | refine blk_drew ?_ | refine blk_alloc ?_ _)); refine blk_put (cs := #[.string x233000_5, .string x233001_5, .int .i64 x233002_5, .slice none 0 0]) ?_ 0 _ rfl; (with_reducible repeat (first | refine blk_drewN ?_ _ | refine blk_drew ?_ | refine blk_alloc ?_ _)); exact BK232.out) Tryd.underlying24 rfl (by kernel_rfl)) rfl ?_
                                    exact ⟨_, by first | rfl | (simp [errW_none, errW_some] <;> rfl) | (simp only [← hji90]; first | rfl | (simp [errW_none, errW_some] <;> rfl)) | (simp [*, errW_none, errW_some] <;> rfl), by first | exact Kd.R_nil _ _ _ _ _ | exact Kd.N_nil _ _ _ _ _ | exact Kd.V_nil _ _ _ _ _ | exact Kd.Q_nil _ _ _ _ _ | exact Kd.S_nil _ _ _ _ _, by repeat (first | (with_reducible first | exact HB.out | apply below_alloc | apply pw_below_drewN | apply below_drew1 | refine below_set ?_ GE232.out | refine below_set ?_ GE254.out) | exact HB.out)⟩
                                  ·rw [if_neg c92] at H
                                   exact absurd H (by simp)
                                 ·rw [if_neg c91] at H
                                  exact absurd H (by simp)
                                ·replace c89 := Bool.eq_false_iff.mpr c89
                                 subst c89
                                 have H1 : (some ((⟨#[]⟩ : ByteArray), (⟨#[]⟩ : ByteArray), 0, ([] : List (S67)), 400)) = some (r1, r2, r3, r4, r5) := by rw [if_neg (show ¬ (false = true) by decide)] at H; exact H
                                 clear H
                                 have H := H1
                                 clear H1
                                 simp only [Option.some.injEq, Prod.mk.injEq] at H
                                 obtain ⟨rfl, rfl, rfl, rfl, rfl⟩ := H
                                 have p258 : 0 ≤ (x9_5 : Int) := of_decide_eq_true (by first | (with_reducible assumption) | assumption)
                                 have q258 : x9_5 < (t233.length : Int) := of_decide_eq_true (by first | (with_reducible assumption) | assumption)
                                 obtain ⟨ad258, e258, hx258_0⟩ := Kd.at_string (Kd.R_reads' HO_4.out).2.2 x9_5 p258 q258
                                 obtain rfl : ad237 = ad258 := (by injection e258)
                                 replace p258 := eq_true p258
                                 replace q258 := eq_true q258
                                 have p259 : 0 ≤ (x9_5 : Int) := of_decide_eq_true (by first | (with_reducible assumption) | assumption)
                                 have q259 : x9_5 < (t233.length : Int) := of_decide_eq_true (by first | (with_reducible assumption) | assumption)
                                 obtain ⟨ad259, e259, hx259_0⟩ := Kd.at_string (Kd.R_reads' HO_4.out).2.2 x9_5 p259 q259
                                 obtain rfl : ad237 = ad259 := (by injection e259)
                                 replace p259 := eq_true p259
                                 replace q259 := eq_true q259
                                 go_wp2_with (first | (go_at_call 70; (with_reducible refine (ostiaryref13_Word.calls kj73 ((rdOf ByteArray.empty t233 x9_5).extract 0 (x10_73 : Int).toNat) 64 false _ A88.out).mono ?_); rintro e w' ⟨rfl, ⟨nd, rfl⟩⟩; (try (rw [drewN_self wc]; generalize hq_ : World.drewN wc _ = wc; have n0_ : Aside0 (Kd.R k67 67 wc w.heap.size (fun _ => True) u255003 x255003_5) := ⟨by rw [← hq_]; exact (by (with_reducible repeat (first | apply Kd.R_alloc | apply Kd.R_drewN | apply Kd.R_drew)); exact HO_255003.out)⟩; have n1_ : Aside0 (Kd.R Kd.string 9 wc w.heap.size (fun _ => True) (.slice (some ad237) t233.length co16) t233) := ⟨by rw [← hq_]; exact (by (with_reducible repeat (first | apply Kd.R_alloc | apply Kd.R_drewN | apply Kd.R_drew)); exact HO_4.out)⟩; have n2_ : Aside0 (wc.heap[gb232]? = some (.cells #[.string x233000_5, .string x233001_5, .int .i64 x233002_5, .slice none 0 0] 24 (0, 0))) := ⟨by rw [← hq_]; exact (by (with_reducible repeat (first | refine blk_drewN ?_ _ | refine blk_drew ?_ | refine blk_alloc ?_ _)); exact BK232.out)⟩; have n3_ : Aside0 (wc.heap[gb254]? = some (.cells #[.string (rdOf ByteArray.empty t238 0), .string (rdOf ByteArray.empty t238 1), .int .i64 (wrap64 (((bt (rdOf ByteArray.empty t238 2) 7) - 48) % 256)), u255003] 24 (0, 0))) := ⟨by rw [← hq_]; exact (by (with_reducible repeat (first | refine blk_drewN ?_ _ | refine blk_drew ?_ | refine blk_alloc ?_ _)); exact BK254.out)⟩; have n4_ : Aside0 (Below w.heap.size w wc) := ⟨by rw [← hq_]; exact (by repeat (first | (with_reducible first | exact HB.out | apply below_alloc | apply pw_below_drewN | apply below_drew1 | refine below_set ?_ GE232.out | refine below_set ?_ GE254.out) | exact HB.out))⟩; clear HO_255003 HO_4 BK232 BK254 HB hq_; have HO_255003 := n0_; have HO_4 := n1_; have BK232 := n2_; have BK254 := n3_; have HB := n4_; clear n0_ n1_ n2_ n3_ n4_)); have hnb108 := NB232_254.out; have hnc108 := NB254_232.out; have hcz109_0 : wc.cell? ⟨gb232, 0, none⟩ = some (.string x233000_5) := (blk_cell BK232.out 0).trans rfl; have hcz109_1 : wc.cell? ⟨gb232, 1, none⟩ = some (.string x233001_5) := (blk_cell BK232.out 1).trans rfl; have hcz109_2 : wc.cell? ⟨gb232, 2, none⟩ = some (.int .i64 x233002_5) := (blk_cell BK232.out 2).trans rfl; have hcz109_3 : wc.cell? ⟨gb232, 3, none⟩ = some (.slice none 0 0) := (blk_cell BK232.out 3).trans rfl; have hfz109_0 := blk_frozen BK232.out 0; have hfz109_1 := blk_frozen BK232.out 1; have hfz109_2 := blk_frozen BK232.out 2; have hfz109_3 := blk_frozen BK232.out 3))
                                 refine bodyPost_ret (results_ct rfl _ _ gb232 24 #[.string (⟨#[]⟩ : ByteArray), .string (⟨#[]⟩ : ByteArray), .int .i64 0, .slice none 0 0] (0, 0) _ rfl (by (with_reducible repeat (first | refine blk_drewN ?_ _ | refine blk_drew ?_ | refine blk_alloc ?_ _)); refine blk_put (cs := #[.string (⟨#[]⟩ : ByteArray), .string (⟨#[]⟩ : ByteArray), .int .i64 0, .slice none 0 0]) ?_ 3 _ rfl; (with_reducible repeat (first | refine blk_drewN ?_ _ | refine blk_drew ?_ | refine blk_alloc ?_ _)); refine blk_put (cs := #[.string (⟨#[]⟩ : ByteArray), .string (⟨#[]⟩ : ByteArray), .int .i64 x233002_5, .slice none 0 0]) ?_ 2 _ rfl; (with_reducible repeat (first | refine blk_drewN ?_ _ | refine blk_drew ?_ | refine blk_alloc ?_ _)); refine blk_put (cs := #[.string (⟨#[]⟩ : ByteArray), .string x233001_5, .int .i64 x233002_5, .slice none 0 0]) ?_ 1 _ rfl; (with_reducible repeat (first | refine blk_drewN ?_ _ | refine blk_drew ?_ | refine blk_alloc ?_ _)); refine blk_put (cs := #[.string x233000_5, .string x233001_5, .int .i64 x233002_5, .slice none 0 0]) ?_ 0 _ rfl; (with_reducible repeat (first | refine blk_drewN ?_ _ | refine blk_drew ?_ | refine blk_alloc ?_ _)); exact BK232.out) Tryd.underlying24 rfl (by kernel_rfl)) rfl ?_
                                 exact ⟨_, by first | rfl | (simp [errW_none, errW_some] <;> rfl) | (simp [*, errW_none, errW_some] <;> rfl), by first | exact Kd.R_nil _ _ _ _ _ | exact Kd.N_nil _ _ _ _ _ | exact Kd.V_nil _ _ _ _ _ | exact Kd.Q_nil _ _ _ _ _ | exact Kd.S_nil _ _ _ _ _, by repeat (first | (with_reducible first | exact HB.out | apply below_alloc | apply pw_below_drewN | apply below_drew1 | refine below_set ?_ GE232.out | refine below_set ?_ GE254.out) | exact HB.out)⟩
                               ·rw [if_neg c87] at H
                                exact absurd H (by simp)
                              ·rw [if_neg c86] at H
                               exact absurd H (by simp)
                            ·rw [if_neg c82] at H
                             exact absurd H (by simp)
                           ·rw [if_neg c81] at H
                            exact absurd H (by simp)
                       ·rw [if_neg c70] at H
                        have c70b0 : decide (x9_5 < (wrap64 ((t233.length : Int) - 1))) = false := decide_eq_false c70
                        clear c70
                        replace H := Option.bind_eq_some_iff.mp H
                        obtain ⟨t255, A1100, H⟩ := H
                        replace H : (if t255 = true then (some ((rdOf ByteArray.empty t238 0), (rdOf ByteArray.empty t238 1), (wrap64 (((bt (rdOf ByteArray.empty t238 2) 7) - 48) % 256)), x255003_5, 200)) else (some ((⟨#[]⟩ : ByteArray), (⟨#[]⟩ : ByteArray), 0, ([] : List (S67)), 400))) = some (r1, r2, r3, r4, r5) := H
                        have A110 := Aside0.mk A1100
                        clear A1100
                        by_cases c111 : t255 = true
                        ·subst c111
                         have H1 : (some ((rdOf ByteArray.empty t238 0), (rdOf ByteArray.empty t238 1), (wrap64 (((bt (rdOf ByteArray.empty t238 2) 7) - 48) % 256)), x255003_5, 200)) = some (r1, r2, r3, r4, r5) := by rw [if_pos rfl] at H; exact H
                         clear H
                         have H := H1
                         clear H1
                         simp only [Option.some.injEq, Prod.mk.injEq] at H
                         obtain ⟨rfl, rfl, rfl, rfl, rfl⟩ := H
                         have hnb112 := NB254_232.out
                         have hnc112 := NB232_254.out
                         have hcz113_0 : wr.cell? ⟨gb254, 0, none⟩ = some (.string (rdOf ByteArray.empty t238 0)) := (blk_cell BK254.out 0).trans rfl
                         have hcz113_1 : wr.cell? ⟨gb254, 1, none⟩ = some (.string (rdOf ByteArray.empty t238 1)) := (blk_cell BK254.out 1).trans rfl
                         have hcz113_2 : wr.cell? ⟨gb254, 2, none⟩ = some (.int .i64 (wrap64 (((bt (rdOf ByteArray.empty t238 2) 7) - 48) % 256))) := (blk_cell BK254.out 2).trans rfl
                         have hcz113_3 : wr.cell? ⟨gb254, 3, none⟩ = some (u255003) := (blk_cell BK254.out 3).trans rfl
                         have hfz113_0 := blk_frozen BK254.out 0
                         have hfz113_1 := blk_frozen BK254.out 1
                         have hfz113_2 := blk_frozen BK254.out 2
                         have hfz113_3 := blk_frozen BK254.out 3
                         obtain ⟨Ao114, co114, eo114⟩ := Kd.R_slice HO_255003.out
                         subst eo114
                         go_wp2_with (first | ((with_reducible refine gate_callee (f := 86) rfl ?_); refine goesL_ (some 199) rfl rfl Tryd.func86 (by kernel_rfl) rfl #[.agg #[.string (rdOf ByteArray.empty t238 0), .string (rdOf ByteArray.empty t238 1), .int .i64 (wrap64 (((bt (rdOf ByteArray.empty t238 2) 7) - 48) % 256)), .slice Ao114 x255003_5.length co114]] rfl (by (try simp only [List.map_toArray, List.map_cons, List.map_nil]); first | done | rfl | (simp only [List.length_drop, List.length_take]; rfl)) ?_; (with_reducible refine (ostiaryref13_hosts.calls k5 (rdOf ByteArray.empty t238 0) (rdOf ByteArray.empty t238 1) (wrap64 (((bt (rdOf ByteArray.empty t238 2) 7) - 48) % 256)) _ _ x255003_5 true _ ?side1 ?side2 A110.out).mono ?_); (case side1 => repeat (first | exact (Kd.R_reads' HO_255003.out).2.2 | (with_reducible refine Kd.C_alloc ?_ _) | (with_reducible refine Kd.C_drewN ?_ _) | (with_reducible refine Kd.C_drew ?_))); (case side2 => exact (Kd.R_reads' HO_255003.out).2.1); rintro e w115 ⟨rfl, hb⟩; refine ⟨_, rfl, ?_⟩; have n0_ := Aside0.mk (Kd.R_below (by (with_reducible repeat (first | apply Kd.R_alloc | apply Kd.R_drewN | apply Kd.R_drew)); exact HO_4.out) hb); have n1_ := Aside0.mk (Kd.R_below (by (with_reducible repeat (first | apply Kd.R_alloc | apply Kd.R_drewN | apply Kd.R_drew)); exact HO_255003.out) hb); have n2_ := Aside0.mk (blk_below (g := gb232) (o := .cells #[.string x233000_5, .string x233001_5, .int .i64 x233002_5, .slice none 0 0] 24 (0, 0)) (by (with_reducible repeat (first | refine blk_drewN ?_ _ | refine blk_drew ?_ | refine blk_alloc ?_ _)); exact BK232.out) hb); have n3_ := Aside0.mk (blk_below (g := gb254) (o := .cells #[.string (rdOf ByteArray.empty t238 0), .string (rdOf ByteArray.empty t238 1), .int .i64 (wrap64 (((bt (rdOf ByteArray.empty t238 2) 7) - 48) % 256)), .slice Ao114 x255003_5.length co114] 24 (0, 0)) (by (with_reducible repeat (first | refine blk_drewN ?_ _ | refine blk_drew ?_ | refine blk_alloc ?_ _)); exact BK254.out) hb); have n4_ := Aside0.mk (below_step (by repeat (first | (with_reducible first | exact HB.out | apply below_alloc | apply pw_below_drewN | apply below_drew1 | refine below_set ?_ GE232.out | refine below_set ?_ GE254.out) | exact HB.out)) hb); clear HO_4; clear HO_255003; clear BK232; clear BK254; clear HB; have HO_4 := n0_; have HO_255003 := n1_; have BK232 := n2_; have BK254 := n3_; have HB := n4_; clear n0_ n1_ n2_ n3_ n4_; (try clear hb); (try clear hb2); (try clear hk); (try clear hi); have hcz116_0 : w115.cell? ⟨gb254, 0, none⟩ = some (.string (rdOf ByteArray.empty t238 0)) := (blk_cell BK254.out 0).trans rfl; have hcz116_1 : w115.cell? ⟨gb254, 1, none⟩ = some (.string (rdOf ByteArray.empty t238 1)) := (blk_cell BK254.out 1).trans rfl; have hcz116_2 : w115.cell? ⟨gb254, 2, none⟩ = some (.int .i64 (wrap64 (((bt (rdOf ByteArray.empty t238 2) 7) - 48) % 256))) := (blk_cell BK254.out 2).trans rfl; have hcz116_3 : w115.cell? ⟨gb254, 3, none⟩ = some (.slice Ao114 x255003_5.length co114) := (blk_cell BK254.out 3).trans rfl; have hfz116_0 := blk_frozen BK254.out 0; have hfz116_1 := blk_frozen BK254.out 1; have hfz116_2 := blk_frozen BK254.out 2; have hfz116_3 := blk_frozen BK254.out 3; have hcz117_0 : w115.cell? ⟨gb232, 0, none⟩ = some (.string x233000_5) := (blk_cell BK232.out 0).trans rfl; have hcz117_1 : w115.cell? ⟨gb232, 1, none⟩ = some (.string x233001_5) := (blk_cell BK232.out 1).trans rfl; have hcz117_2 : w115.cell? ⟨gb232, 2, none⟩ = some (.int .i64 x233002_5) := (blk_cell BK232.out 2).trans rfl; have hcz117_3 : w115.cell? ⟨gb232, 3, none⟩ = some (.slice none 0 0) := (blk_cell BK232.out 3).trans rfl; have hfz117_0 := blk_frozen BK232.out 0; have hfz117_1 := blk_frozen BK232.out 1; have hfz117_2 := blk_frozen BK232.out 2; have hfz117_3 := blk_frozen BK232.out 3))
                         refine bodyPost_ret (results_ct rfl _ _ gb232 24 #[.string (rdOf ByteArray.empty t238 0), .string (rdOf ByteArray.empty t238 1), .int .i64 (wrap64 (((bt (rdOf ByteArray.empty t238 2) 7) - 48) % 256)), .slice Ao114 x255003_5.length co114] (0, 0) _ rfl (by (with_reducible repeat (first | refine blk_drewN ?_ _ | refine blk_drew ?_ | refine blk_alloc ?_ _)); refine blk_put (cs := #[.string (rdOf ByteArray.empty t238 0), .string (rdOf ByteArray.empty t238 1), .int .i64 (wrap64 (((bt (rdOf ByteArray.empty t238 2) 7) - 48) % 256)), .slice none 0 0]) ?_ 3 _ rfl; (with_reducible repeat (first | refine blk_drewN ?_ _ | refine blk_drew ?_ | refine blk_alloc ?_ _)); refine blk_put (cs := #[.string (rdOf ByteArray.empty t238 0), .string (rdOf ByteArray.empty t238 1), .int .i64 x233002_5, .slice none 0 0]) ?_ 2 _ rfl; (with_reducible repeat (first | refine blk_drewN ?_ _ | refine blk_drew ?_ | refine blk_alloc ?_ _)); refine blk_put (cs := #[.string (rdOf ByteArray.empty t238 0), .string x233001_5, .int .i64 x233002_5, .slice none 0 0]) ?_ 1 _ rfl; (with_reducible repeat (first | refine blk_drewN ?_ _ | refine blk_drew ?_ | refine blk_alloc ?_ _)); refine blk_put (cs := #[.string x233000_5, .string x233001_5, .int .i64 x233002_5, .slice none 0 0]) ?_ 0 _ rfl; (with_reducible repeat (first | refine blk_drewN ?_ _ | refine blk_drew ?_ | refine blk_alloc ?_ _)); exact BK232.out) Tryd.underlying24 rfl (by kernel_rfl)) rfl ?_
                         exact ⟨_, by first | rfl | (simp [errW_none, errW_some] <;> rfl) | (simp [*, errW_none, errW_some] <;> rfl), by (with_reducible repeat (first | apply Kd.R_alloc | apply Kd.R_drewN | apply Kd.R_drew)); exact Kd.R_mono (Kd.R_far (p := ⟨gb232, 3, none⟩) (Kd.R_far (p := ⟨gb232, 2, none⟩) (Kd.R_far (p := ⟨gb232, 1, none⟩) (Kd.R_far (p := ⟨gb232, 0, none⟩) (Kd.R_types HO_255003.out BK232.out (by decide)) (fun _ hk => hk.2) (.string (rdOf ByteArray.empty t238 0))) (fun _ hk => hk.2) (.string (rdOf ByteArray.empty t238 1))) (fun _ hk => hk.2) (.int .i64 (wrap64 (((bt (rdOf ByteArray.empty t238 2) 7) - 48) % 256)))) (fun _ hk => hk.2) (.slice Ao114 x255003_5.length co114)) (fun _ hk => trivial), by repeat (first | (with_reducible first | exact HB.out | apply below_alloc | apply pw_below_drewN | apply below_drew1 | refine below_set ?_ GE232.out | refine below_set ?_ GE254.out) | exact HB.out)⟩
                        ·replace c111 := Bool.eq_false_iff.mpr c111
                         subst c111
                         have H1 : (some ((⟨#[]⟩ : ByteArray), (⟨#[]⟩ : ByteArray), 0, ([] : List (S67)), 400)) = some (r1, r2, r3, r4, r5) := by rw [if_neg (show ¬ (false = true) by decide)] at H; exact H
                         clear H
                         have H := H1
                         clear H1
                         simp only [Option.some.injEq, Prod.mk.injEq] at H
                         obtain ⟨rfl, rfl, rfl, rfl, rfl⟩ := H
                         have hnb118 := NB254_232.out
                         have hnc118 := NB232_254.out
                         have hcz119_0 : wr.cell? ⟨gb254, 0, none⟩ = some (.string (rdOf ByteArray.empty t238 0)) := (blk_cell BK254.out 0).trans rfl
                         have hcz119_1 : wr.cell? ⟨gb254, 1, none⟩ = some (.string (rdOf ByteArray.empty t238 1)) := (blk_cell BK254.out 1).trans rfl
                         have hcz119_2 : wr.cell? ⟨gb254, 2, none⟩ = some (.int .i64 (wrap64 (((bt (rdOf ByteArray.empty t238 2) 7) - 48) % 256))) := (blk_cell BK254.out 2).trans rfl
                         have hcz119_3 : wr.cell? ⟨gb254, 3, none⟩ = some (u255003) := (blk_cell BK254.out 3).trans rfl
                         have hfz119_0 := blk_frozen BK254.out 0
                         have hfz119_1 := blk_frozen BK254.out 1
                         have hfz119_2 := blk_frozen BK254.out 2
                         have hfz119_3 := blk_frozen BK254.out 3
                         obtain ⟨Ao120, co120, eo120⟩ := Kd.R_slice HO_255003.out
                         subst eo120
                         go_wp2_with (first | ((with_reducible refine gate_callee (f := 86) rfl ?_); refine goesL_ (some 199) rfl rfl Tryd.func86 (by kernel_rfl) rfl #[.agg #[.string (rdOf ByteArray.empty t238 0), .string (rdOf ByteArray.empty t238 1), .int .i64 (wrap64 (((bt (rdOf ByteArray.empty t238 2) 7) - 48) % 256)), .slice Ao120 x255003_5.length co120]] rfl (by (try simp only [List.map_toArray, List.map_cons, List.map_nil]); first | done | rfl | (simp only [List.length_drop, List.length_take]; rfl)) ?_; (with_reducible refine (ostiaryref13_hosts.calls k5 (rdOf ByteArray.empty t238 0) (rdOf ByteArray.empty t238 1) (wrap64 (((bt (rdOf ByteArray.empty t238 2) 7) - 48) % 256)) _ _ x255003_5 false _ ?side1 ?side2 A110.out).mono ?_); (case side1 => repeat (first | exact (Kd.R_reads' HO_255003.out).2.2 | (with_reducible refine Kd.C_alloc ?_ _) | (with_reducible refine Kd.C_drewN ?_ _) | (with_reducible refine Kd.C_drew ?_))); (case side2 => exact (Kd.R_reads' HO_255003.out).2.1); rintro e w121 ⟨rfl, hb⟩; refine ⟨_, rfl, ?_⟩; have n0_ := Aside0.mk (Kd.R_below (by (with_reducible repeat (first | apply Kd.R_alloc | apply Kd.R_drewN | apply Kd.R_drew)); exact HO_4.out) hb); have n1_ := Aside0.mk (Kd.R_below (by (with_reducible repeat (first | apply Kd.R_alloc | apply Kd.R_drewN | apply Kd.R_drew)); exact HO_255003.out) hb); have n2_ := Aside0.mk (blk_below (g := gb232) (o := .cells #[.string x233000_5, .string x233001_5, .int .i64 x233002_5, .slice none 0 0] 24 (0, 0)) (by (with_reducible repeat (first | refine blk_drewN ?_ _ | refine blk_drew ?_ | refine blk_alloc ?_ _)); exact BK232.out) hb); have n3_ := Aside0.mk (blk_below (g := gb254) (o := .cells #[.string (rdOf ByteArray.empty t238 0), .string (rdOf ByteArray.empty t238 1), .int .i64 (wrap64 (((bt (rdOf ByteArray.empty t238 2) 7) - 48) % 256)), .slice Ao120 x255003_5.length co120] 24 (0, 0)) (by (with_reducible repeat (first | refine blk_drewN ?_ _ | refine blk_drew ?_ | refine blk_alloc ?_ _)); exact BK254.out) hb); have n4_ := Aside0.mk (below_step (by repeat (first | (with_reducible first | exact HB.out | apply below_alloc | apply pw_below_drewN | apply below_drew1 | refine below_set ?_ GE232.out | refine below_set ?_ GE254.out) | exact HB.out)) hb); clear HO_4; clear HO_255003; clear BK232; clear BK254; clear HB; have HO_4 := n0_; have HO_255003 := n1_; have BK232 := n2_; have BK254 := n3_; have HB := n4_; clear n0_ n1_ n2_ n3_ n4_; (try clear hb); (try clear hb2); (try clear hk); (try clear hi); have hcz122_0 : w121.cell? ⟨gb232, 0, none⟩ = some (.string x233000_5) := (blk_cell BK232.out 0).trans rfl; have hcz122_1 : w121.cell? ⟨gb232, 1, none⟩ = some (.string x233001_5) := (blk_cell BK232.out 1).trans rfl; have hcz122_2 : w121.cell? ⟨gb232, 2, none⟩ = some (.int .i64 x233002_5) := (blk_cell BK232.out 2).trans rfl; have hcz122_3 : w121.cell? ⟨gb232, 3, none⟩ = some (.slice none 0 0) := (blk_cell BK232.out 3).trans rfl; have hfz122_0 := blk_frozen BK232.out 0; have hfz122_1 := blk_frozen BK232.out 1; have hfz122_2 := blk_frozen BK232.out 2; have hfz122_3 := blk_frozen BK232.out 3))
                         refine bodyPost_ret (results_ct rfl _ _ gb232 24 #[.string (⟨#[]⟩ : ByteArray), .string (⟨#[]⟩ : ByteArray), .int .i64 0, .slice none 0 0] (0, 0) _ rfl (by (with_reducible repeat (first | refine blk_drewN ?_ _ | refine blk_drew ?_ | refine blk_alloc ?_ _)); refine blk_put (cs := #[.string (⟨#[]⟩ : ByteArray), .string (⟨#[]⟩ : ByteArray), .int .i64 0, .slice none 0 0]) ?_ 3 _ rfl; (with_reducible repeat (first | refine blk_drewN ?_ _ | refine blk_drew ?_ | refine blk_alloc ?_ _)); refine blk_put (cs := #[.string (⟨#[]⟩ : ByteArray), .string (⟨#[]⟩ : ByteArray), .int .i64 x233002_5, .slice none 0 0]) ?_ 2 _ rfl; (with_reducible repeat (first | refine blk_drewN ?_ _ | refine blk_drew ?_ | refine blk_alloc ?_ _)); refine blk_put (cs := #[.string (⟨#[]⟩ : ByteArray), .string x233001_5, .int .i64 x233002_5, .slice none 0 0]) ?_ 1 _ rfl; (with_reducible repeat (first | refine blk_drewN ?_ _ | refine blk_drew ?_ | refine blk_alloc ?_ _)); refine blk_put (cs := #[.string x233000_5, .string x233001_5, .int .i64 x233002_5, .slice none 0 0]) ?_ 0 _ rfl; (with_reducible repeat (first | refine blk_drewN ?_ _ | refine blk_drew ?_ | refine blk_alloc ?_ _)); exact BK232.out) Tryd.underlying24 rfl (by kernel_rfl)) rfl ?_
                         exact ⟨_, by first | rfl | (simp [errW_none, errW_some] <;> rfl) | (simp [*, errW_none, errW_some] <;> rfl), by first | exact Kd.R_nil _ _ _ _ _ | exact Kd.N_nil _ _ _ _ _ | exact Kd.V_nil _ _ _ _ _ | exact Kd.Q_nil _ _ _ _ _ | exact Kd.S_nil _ _ _ _ _, by repeat (first | (with_reducible first | exact HB.out | apply below_alloc | apply pw_below_drewN | apply below_drew1 | refine below_set ?_ GE232.out | refine below_set ?_ GE254.out) | exact HB.out)⟩
                    ·rw [if_neg c62] at H
                     exact absurd H (by simp)
                   ·rw [if_neg c61] at H
                    exact absurd H (by simp)
                  ·replace c60 := Bool.eq_false_iff.mpr c60
                   subst c60
                   have H1 : (some ((⟨#[]⟩ : ByteArray), (⟨#[]⟩ : ByteArray), 0, ([] : List (S67)), 400)) = some (r1, r2, r3, r4, r5) := by rw [if_neg (show ¬ (false = true) by decide)] at H; exact H
                   clear H
                   have H := H1
                   clear H1
                   simp only [Option.some.injEq, Prod.mk.injEq] at H
                   obtain ⟨rfl, rfl, rfl, rfl, rfl⟩ := H
                   have p249 : 0 ≤ (1 : Int) := (by omega)
                   have q249 : 1 < (t238.length : Int) := of_decide_eq_true (by first | (with_reducible assumption) | assumption)
                   obtain ⟨ad249, e249, hx249_0⟩ := Kd.at_string (Kd.R_reads' HO_6.out).2.2 1 p249 q249
                   obtain rfl : ad246 = ad249 := (by injection e249)
                   (try simp only [show (1 : Int).toNat = 1 from rfl, Nat.reduceMul, Nat.reduceEqDiff, Go.Addr.add, ↓reduceIte] at hx249_0)
                   have qi249 : (1 < t238.length) = True := eq_true (by omega)
                   (try rw [show ((1 : Int)).toNat = 1 from rfl] at hx249_0)
                   replace p249 := eq_true p249
                   replace q249 := eq_true q249
                   have p250 : 0 ≤ (1 : Int) := (by omega)
                   have q250 : 1 < (t238.length : Int) := of_decide_eq_true (by first | (with_reducible assumption) | assumption)
                   obtain ⟨ad250, e250, hx250_0⟩ := Kd.at_string (Kd.R_reads' HO_6.out).2.2 1 p250 q250
                   obtain rfl : ad246 = ad250 := (by injection e250)
                   (try simp only [show (1 : Int).toNat = 1 from rfl, Nat.reduceMul, Nat.reduceEqDiff, Go.Addr.add, ↓reduceIte] at hx250_0)
                   have qi250 : (1 < t238.length) = True := eq_true (by omega)
                   (try rw [show ((1 : Int)).toNat = 1 from rfl] at hx250_0)
                   replace p250 := eq_true p250
                   replace q250 := eq_true q250
                   go_wp2_with (first | ((with_reducible refine gate_callee (f := 84) rfl ?_); refine goesL_ (some 106) rfl rfl Tryd.func84 (by kernel_rfl) rfl #[.string (rdOf ByteArray.empty t238 1)] rfl (by (try simp only [List.map_toArray, List.map_cons, List.map_nil]); first | done | rfl | (simp only [List.length_drop, List.length_take]; rfl)) ?_; (with_reducible refine (ostiaryref13_target.calls kj51 (rdOf ByteArray.empty t238 1) false _ A59.out).mono ?_); rintro e w' ⟨rfl, ⟨nd, rfl⟩⟩; refine ⟨_, rfl, ?_⟩; (try (rw [drewN_self wc]; generalize hq_ : World.drewN wc _ = wc; have n0_ : Aside0 (Kd.R Kd.string 9 wc w.heap.size (fun k_ => some k_ ≠ (.slice (some ad246) t238.length co35 : Value).ownBlock) (.slice (some ad237) t233.length co16) t233) := ⟨by rw [← hq_]; exact (by (with_reducible repeat (first | apply Kd.R_alloc | apply Kd.R_drewN | apply Kd.R_drew)); exact HO_4.out)⟩; have n1_ : Aside0 (Kd.R Kd.string 9 wc w.heap.size (fun k_ => some k_ ≠ (.slice (some ad237) t233.length co16 : Value).ownBlock) (.slice (some ad246) t238.length co35) t238) := ⟨by rw [← hq_]; exact (by (with_reducible repeat (first | apply Kd.R_alloc | apply Kd.R_drewN | apply Kd.R_drew)); exact HO_6.out)⟩; have n2_ : Aside0 (wc.heap[gb232]? = some (.cells #[.string (⟨#[]⟩ : ByteArray), .string (⟨#[]⟩ : ByteArray), .int .i64 0, .slice none 0 0] 24 (0, 0))) := ⟨by rw [← hq_]; exact (by (with_reducible repeat (first | refine blk_drewN ?_ _ | refine blk_drew ?_ | refine blk_alloc ?_ _)); exact BK232.out)⟩; have n3_ : Aside0 (Below w.heap.size w wc) := ⟨by rw [← hq_]; exact (by repeat (first | (with_reducible first | exact HB.out | apply below_alloc | apply pw_below_drewN | apply below_drew1 | refine below_set ?_ GE232.out) | exact HB.out))⟩; clear HO_4 HO_6 BK232 HB hq_; have HO_4 := n0_; have HO_6 := n1_; have BK232 := n2_; have HB := n3_; clear n0_ n1_ n2_ n3_)); have hcz123_0 : wc.cell? ⟨gb232, 0, none⟩ = some (.string (⟨#[]⟩ : ByteArray)) := (blk_cell BK232.out 0).trans rfl; have hcz123_1 : wc.cell? ⟨gb232, 1, none⟩ = some (.string (⟨#[]⟩ : ByteArray)) := (blk_cell BK232.out 1).trans rfl; have hcz123_2 : wc.cell? ⟨gb232, 2, none⟩ = some (.int .i64 0) := (blk_cell BK232.out 2).trans rfl; have hcz123_3 : wc.cell? ⟨gb232, 3, none⟩ = some (.slice none 0 0) := (blk_cell BK232.out 3).trans rfl; have hfz123_0 := blk_frozen BK232.out 0; have hfz123_1 := blk_frozen BK232.out 1; have hfz123_2 := blk_frozen BK232.out 2; have hfz123_3 := blk_frozen BK232.out 3))
                   refine bodyPost_ret (results_ct rfl _ _ gb232 24 #[.string (⟨#[]⟩ : ByteArray), .string (⟨#[]⟩ : ByteArray), .int .i64 0, .slice none 0 0] (0, 0) _ rfl (by (with_reducible repeat (first | refine blk_drewN ?_ _ | refine blk_drew ?_ | refine blk_alloc ?_ _)); refine blk_put (cs := #[.string (⟨#[]⟩ : ByteArray), .string (⟨#[]⟩ : ByteArray), .int .i64 0, .slice none 0 0]) ?_ 3 _ rfl; (with_reducible repeat (first | refine blk_drewN ?_ _ | refine blk_drew ?_ | refine blk_alloc ?_ _)); refine blk_put (cs := #[.string (⟨#[]⟩ : ByteArray), .string (⟨#[]⟩ : ByteArray), .int .i64 0, .slice none 0 0]) ?_ 2 _ rfl; (with_reducible repeat (first | refine blk_drewN ?_ _ | refine blk_drew ?_ | refine blk_alloc ?_ _)); refine blk_put (cs := #[.string (⟨#[]⟩ : ByteArray), .string (⟨#[]⟩ : ByteArray), .int .i64 0, .slice none 0 0]) ?_ 1 _ rfl; (with_reducible repeat (first | refine blk_drewN ?_ _ | refine blk_drew ?_ | refine blk_alloc ?_ _)); refine blk_put (cs := #[.string (⟨#[]⟩ : ByteArray), .string (⟨#[]⟩ : ByteArray), .int .i64 0, .slice none 0 0]) ?_ 0 _ rfl; (with_reducible repeat (first | refine blk_drewN ?_ _ | refine blk_drew ?_ | refine blk_alloc ?_ _)); exact BK232.out) Tryd.underlying24 rfl (by kernel_rfl)) rfl ?_
                   exact ⟨_, by first | rfl | (simp [errW_none, errW_some] <;> rfl) | (simp [*, errW_none, errW_some] <;> rfl), by first | exact Kd.R_nil _ _ _ _ _ | exact Kd.N_nil _ _ _ _ _ | exact Kd.V_nil _ _ _ _ _ | exact Kd.Q_nil _ _ _ _ _ | exact Kd.S_nil _ _ _ _ _, by repeat (first | (with_reducible first | exact HB.out | apply below_alloc | apply pw_below_drewN | apply below_drew1 | refine below_set ?_ GE232.out) | exact HB.out)⟩
                ·rw [if_neg c56] at H
                 exact absurd H (by simp)
         ·rw [if_neg c33] at H
          exact absurd H (by simp)
     ·rw [if_neg c13] at H
      exact absurd H (by simp)

end Go.Proofs.YtnhpcpmgedjffaaDoor.P
