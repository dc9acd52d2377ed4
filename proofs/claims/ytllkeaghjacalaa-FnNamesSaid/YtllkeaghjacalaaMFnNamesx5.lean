-- Laid by a program of this session (the kit's print, turned where it falls short; the texts of functions that it does not take are proved by hand).
import Derived.Test.YtllkeaghjacalaaMFnNamesx0
import Derived.Test.YtllkeaghjacalaaMFnNamesx1
import Derived.Test.YtllkeaghjacalaaMFnNamesx2
import Derived.Test.YtllkeaghjacalaaMFnNamesx3
import Derived.Test.YtllkeaghjacalaaMFnNamesx4
namespace Go.Proofs.Ytllkeaghjacalaa.MFnNames
open Go.RowKit Go.Proofs.YtllkeaghjacalaaW.PrintWords Go.Proofs.YtllkeaghjacalaaW.PrintLast Go.Proofs.YtllkeaghjacalaaW.PrintMore
attribute [local go_sem] max2_int min2_int max_two min_two max_three min_three max_four min_four   -- for this text's walks alone
set_option linter.unusedVariables false
set_option linter.unusedSimpArgs false

attribute [local go_sem] isSome_setCell run_field26_0
/-! ### laws_FnNames: function 5 -/
mutual
def laws_FnNames.j0 : Nat → List ByteArray → Bool → Int → List Int → Int → List ByteArray → Int → Int → List ByteArray → Int → Option (Bool)
 | 0, _, _, _, _, _, _, _, _, _, _ => none
 | k + 1, x3, x62, x324000, x324001, x334000, x334001, x334002, x340000, x340001, x340002 => if x62 = true then (none) else (laws_FnNames.l0 k x3 0 x324000 x324001 x334000 x334001 x334002 x340000 x340001 x340002)
def laws_FnNames.l0 : Nat → List ByteArray → Int → Int → List Int → Int → List ByteArray → Int → Int → List ByteArray → Int → Option (Bool)
 | 0, _, _, _, _, _, _, _, _, _, _ => none
 | k + 1, x3, x9, x324000, x324001, x334000, x334001, x334002, x340000, x340001, x340002 => if x9 < (x334001.length : Int) then (if 0 ≤ x9 then (if x9 < (x340001.length : Int) then (if (rdOf ByteArray.empty x334001 x9).toList = (rdOf ByteArray.empty x340001 x9).toList then (laws_FnNames.l0 k x3 (wrap64 (x9 + 1)) x324000 x324001 x334000 x334001 x334002 x340000 x340001 x340002) else (none)) else (none)) else (none)) else (if x334000 = 0 then ((impl_EncodeName.f k x334001).bind fun bt346 => (laws_FnNames.j2 k x3 (bt346.1 != 0) x324000 x324001)) else (laws_FnNames.j2 k x3 false x324000 x324001))
def laws_FnNames.j2 : Nat → List ByteArray → Bool → Int → List Int → Option (Bool)
 | 0, _, _, _, _ => none
 | k + 1, x3, x94, x324000, x324001 => if x94 = true then (none) else (if x324000 = 0 then ((impl_ReadName.f k x324001 0).bind fun bt350 => ((some (([] : List Int) : List Int)).bind fun y356 => (if y356.length + x324001.length < 140737488355328 then ((some (y356 ++ x324001 : List Int)).bind fun y359 => ((some (([192, 0] : List Int) : List Int)).bind fun y362 => (if y359.length + y362.length < 140737488355328 then ((impl_ReadName.f k (y359 ++ y362) (x324001.length : Int)).bind fun bt368 => (if bt350.1 = 0 then (if bt350.2.2 = (x324001.length : Int) then (if (bt350.2.1.length : Int) = (x3.length : Int) then (if bt368.1 = 0 then (if bt368.2.2 = (wrap64 ((x324001.length : Int) + 2)) then (laws_FnNames.j3 k x3 ((bt368.2.1.length : Int) != (x3.length : Int)) bt350.1 bt350.2.1 bt350.2.2 bt368.1 bt368.2.1 bt368.2.2) else (none)) else (none)) else (none)) else (none)) else (none))) else (none)))) else (none)))) else (some true))
def laws_FnNames.j3 : Nat → List ByteArray → Bool → Int → List ByteArray → Int → Int → List ByteArray → Int → Option (Bool)
 | 0, _, _, _, _, _, _, _, _ => none
 | k + 1, x3, x155, x356000, x356001, x356002, x374000, x374001, x374002 => if x155 = true then (none) else (laws_FnNames.l1 k x3 0 x356000 x356001 x356002 x374000 x374001 x374002)
def laws_FnNames.l1 : Nat → List ByteArray → Int → Int → List ByteArray → Int → Int → List ByteArray → Int → Option (Bool)
 | 0, _, _, _, _, _, _, _, _ => none
 | k + 1, x3, x12, x356000, x356001, x356002, x374000, x374001, x374002 => if x12 < (x3.length : Int) then (if 0 ≤ x12 then (if x12 < (x356001.length : Int) then (if (rdOf ByteArray.empty x356001 x12).toList = (rdOf ByteArray.empty x3 x12).toList then (if x12 < (x374001.length : Int) then (if (rdOf ByteArray.empty x374001 x12).toList = (rdOf ByteArray.empty x3 x12).toList then (laws_FnNames.l1 k x3 (wrap64 (x12 + 1)) x356000 x356001 x356002 x374000 x374001 x374002) else (none)) else (none)) else (none)) else (none)) else (none)) else (some true)
end
def laws_FnNames.f (k : Nat) (l0 : List Int) : Option (Bool) := (laws_lwBig.f l0).bind fun t315 => (if t315 = true then (some true) else ((spec_DrawEncodeName.f k l0).bind fun t316 => ((impl_EncodeName.f k t316).bind fun bt319 => ((spec_DrawReadName.f k l0).bind fun bt324 => ((impl_ReadName.f k bt324.1 bt324.2).bind fun bt328 => ((spec_ReadName.f k bt324.1 bt324.2).bind fun bt334 => ((spec_EncodeName.f k t316).bind fun bt340 => (if bt319.1 = bt340.1 then (if bt328.1 = bt334.1 then (if bt328.2.2 = bt334.2.2 then (laws_FnNames.j0 k t316 ((bt328.2.1.length : Int) != (bt334.2.1.length : Int)) bt319.1 bt319.2 bt328.1 bt328.2.1 bt328.2.2 bt334.1 bt334.2.1 bt334.2.2) else (none)) else (none)) else (none)))))))))
theorem laws_FnNames.mono_l : ∀ k, (∀ y0 y1 y2 y3 y4 y5 y6 y7 y8 y9, LeO (laws_FnNames.j0 k y0 y1 y2 y3 y4 y5 y6 y7 y8 y9) (laws_FnNames.j0 (k + 1) y0 y1 y2 y3 y4 y5 y6 y7 y8 y9)) ∧ (∀ y0 y1 y2 y3 y4 y5 y6 y7 y8 y9, LeO (laws_FnNames.l0 k y0 y1 y2 y3 y4 y5 y6 y7 y8 y9) (laws_FnNames.l0 (k + 1) y0 y1 y2 y3 y4 y5 y6 y7 y8 y9)) ∧ (∀ y0 y1 y2 y3, LeO (laws_FnNames.j2 k y0 y1 y2 y3) (laws_FnNames.j2 (k + 1) y0 y1 y2 y3)) ∧ (∀ y0 y1 y2 y3 y4 y5 y6 y7, LeO (laws_FnNames.j3 k y0 y1 y2 y3 y4 y5 y6 y7) (laws_FnNames.j3 (k + 1) y0 y1 y2 y3 y4 y5 y6 y7)) ∧ (∀ y0 y1 y2 y3 y4 y5 y6 y7, LeO (laws_FnNames.l1 k y0 y1 y2 y3 y4 y5 y6 y7) (laws_FnNames.l1 (k + 1) y0 y1 y2 y3 y4 y5 y6 y7))
 | 0 => ⟨fun _ _ _ _ _ _ _ _ _ _ r h => by simp [laws_FnNames.j0] at h, fun _ _ _ _ _ _ _ _ _ _ r h => by simp [laws_FnNames.l0] at h, fun _ _ _ _ r h => by simp [laws_FnNames.j2] at h, fun _ _ _ _ _ _ _ _ r h => by simp [laws_FnNames.j3] at h, fun _ _ _ _ _ _ _ _ r h => by simp [laws_FnNames.l1] at h⟩
 | k + 1 => by
  obtain ⟨ih0, ih1, ih2, ih3, ih4⟩ := laws_FnNames.mono_l k; refine ⟨?_, ?_, ?_, ?_, ?_⟩
  ·
   intro y0 y1 y2 y3 y4 y5 y6 y7 y8 y9
   unfold laws_FnNames.j0
   repeat' first
   | (with_reducible exact ih0 _ _ _ _ _ _ _ _ _ _)
   | (with_reducible exact ih1 _ _ _ _ _ _ _ _ _ _)
   | (with_reducible exact ih2 _ _ _ _)
   | (with_reducible exact ih3 _ _ _ _ _ _ _ _)
   | (with_reducible exact ih4 _ _ _ _ _ _ _ _)
   | (with_reducible exact impl_EncodeName.mono _ _)
   | (with_reducible exact impl_ReadName.mono _ _ _)
   | (with_reducible exact spec_DrawEncodeName.mono _ _)
   | (with_reducible exact spec_DrawReadName.mono _ _)
   | (with_reducible exact spec_EncodeName.mono _ _)
   | (with_reducible exact spec_ReadName.mono _ _ _)
   | (with_reducible exact LeO.refl _)
   | (with_reducible exact LeO.none _)
   | (with_reducible refine LeO.ite ?_ ?_)
   | (with_reducible refine LeO.bind ?_ (fun _ => ?_))
   | exact ih0 _ _ _ _ _ _ _ _ _ _
   | exact ih1 _ _ _ _ _ _ _ _ _ _
   | exact ih2 _ _ _ _
   | exact ih3 _ _ _ _ _ _ _ _
   | exact ih4 _ _ _ _ _ _ _ _
   | exact impl_EncodeName.mono _ _
   | exact impl_ReadName.mono _ _ _
   | exact spec_DrawEncodeName.mono _ _
   | exact spec_DrawReadName.mono _ _
   | exact spec_EncodeName.mono _ _
   | exact spec_ReadName.mono _ _ _
   | exact LeO.none _
   | refine LeO.ite ?_ ?_
   | refine LeO.bind ?_ (fun _ => ?_)
  ·
   intro y0 y1 y2 y3 y4 y5 y6 y7 y8 y9
   unfold laws_FnNames.l0
   repeat' first
   | (with_reducible exact ih0 _ _ _ _ _ _ _ _ _ _)
   | (with_reducible exact ih1 _ _ _ _ _ _ _ _ _ _)
   | (with_reducible exact ih2 _ _ _ _)
   | (with_reducible exact ih3 _ _ _ _ _ _ _ _)
   | (with_reducible exact ih4 _ _ _ _ _ _ _ _)
   | (with_reducible exact impl_EncodeName.mono _ _)
   | (with_reducible exact impl_ReadName.mono _ _ _)
   | (with_reducible exact spec_DrawEncodeName.mono _ _)
   | (with_reducible exact spec_DrawReadName.mono _ _)
   | (with_reducible exact spec_EncodeName.mono _ _)
   | (with_reducible exact spec_ReadName.mono _ _ _)
   | (with_reducible exact LeO.refl _)
   | (with_reducible exact LeO.none _)
   | (with_reducible refine LeO.ite ?_ ?_)
   | (with_reducible refine LeO.bind ?_ (fun _ => ?_))
   | exact ih0 _ _ _ _ _ _ _ _ _ _
   | exact ih1 _ _ _ _ _ _ _ _ _ _
   | exact ih2 _ _ _ _
   | exact ih3 _ _ _ _ _ _ _ _
   | exact ih4 _ _ _ _ _ _ _ _
   | exact impl_EncodeName.mono _ _
   | exact impl_ReadName.mono _ _ _
   | exact spec_DrawEncodeName.mono _ _
   | exact spec_DrawReadName.mono _ _
   | exact spec_EncodeName.mono _ _
   | exact spec_ReadName.mono _ _ _
   | exact LeO.none _
   | refine LeO.ite ?_ ?_
   | refine LeO.bind ?_ (fun _ => ?_)
  ·
   intro y0 y1 y2 y3
   unfold laws_FnNames.j2
   repeat' first
   | (with_reducible exact ih0 _ _ _ _ _ _ _ _ _ _)
   | (with_reducible exact ih1 _ _ _ _ _ _ _ _ _ _)
   | (with_reducible exact ih2 _ _ _ _)
   | (with_reducible exact ih3 _ _ _ _ _ _ _ _)
   | (with_reducible exact ih4 _ _ _ _ _ _ _ _)
   | (with_reducible exact impl_EncodeName.mono _ _)
   | (with_reducible exact impl_ReadName.mono _ _ _)
   | (with_reducible exact spec_DrawEncodeName.mono _ _)
   | (with_reducible exact spec_DrawReadName.mono _ _)
   | (with_reducible exact spec_EncodeName.mono _ _)
   | (with_reducible exact spec_ReadName.mono _ _ _)
   | (with_reducible exact LeO.refl _)
   | (with_reducible exact LeO.none _)
   | (with_reducible refine LeO.ite ?_ ?_)
   | (with_reducible refine LeO.bind ?_ (fun _ => ?_))
   | exact ih0 _ _ _ _ _ _ _ _ _ _
   | exact ih1 _ _ _ _ _ _ _ _ _ _
   | exact ih2 _ _ _ _
   | exact ih3 _ _ _ _ _ _ _ _
   | exact ih4 _ _ _ _ _ _ _ _
   | exact impl_EncodeName.mono _ _
   | exact impl_ReadName.mono _ _ _
   | exact spec_DrawEncodeName.mono _ _
   | exact spec_DrawReadName.mono _ _
   | exact spec_EncodeName.mono _ _
   | exact spec_ReadName.mono _ _ _
   | exact LeO.none _
   | refine LeO.ite ?_ ?_
   | refine LeO.bind ?_ (fun _ => ?_)
  ·
   intro y0 y1 y2 y3 y4 y5 y6 y7
   unfold laws_FnNames.j3
   repeat' first
   | (with_reducible exact ih0 _ _ _ _ _ _ _ _ _ _)
   | (with_reducible exact ih1 _ _ _ _ _ _ _ _ _ _)
   | (with_reducible exact ih2 _ _ _ _)
   | (with_reducible exact ih3 _ _ _ _ _ _ _ _)
   | (with_reducible exact ih4 _ _ _ _ _ _ _ _)
   | (with_reducible exact impl_EncodeName.mono _ _)
   | (with_reducible exact impl_ReadName.mono _ _ _)
   | (with_reducible exact spec_DrawEncodeName.mono _ _)
   | (with_reducible exact spec_DrawReadName.mono _ _)
   | (with_reducible exact spec_EncodeName.mono _ _)
   | (with_reducible exact spec_ReadName.mono _ _ _)
   | (with_reducible exact LeO.refl _)
   | (with_reducible exact LeO.none _)
   | (with_reducible refine LeO.ite ?_ ?_)
   | (with_reducible refine LeO.bind ?_ (fun _ => ?_))
   | exact ih0 _ _ _ _ _ _ _ _ _ _
   | exact ih1 _ _ _ _ _ _ _ _ _ _
   | exact ih2 _ _ _ _
   | exact ih3 _ _ _ _ _ _ _ _
   | exact ih4 _ _ _ _ _ _ _ _
   | exact impl_EncodeName.mono _ _
   | exact impl_ReadName.mono _ _ _
   | exact spec_DrawEncodeName.mono _ _
   | exact spec_DrawReadName.mono _ _
   | exact spec_EncodeName.mono _ _
   | exact spec_ReadName.mono _ _ _
   | exact LeO.none _
   | refine LeO.ite ?_ ?_
   | refine LeO.bind ?_ (fun _ => ?_)
  ·
   intro y0 y1 y2 y3 y4 y5 y6 y7
   unfold laws_FnNames.l1
   repeat' first
   | (with_reducible exact ih0 _ _ _ _ _ _ _ _ _ _)
   | (with_reducible exact ih1 _ _ _ _ _ _ _ _ _ _)
   | (with_reducible exact ih2 _ _ _ _)
   | (with_reducible exact ih3 _ _ _ _ _ _ _ _)
   | (with_reducible exact ih4 _ _ _ _ _ _ _ _)
   | (with_reducible exact impl_EncodeName.mono _ _)
   | (with_reducible exact impl_ReadName.mono _ _ _)
   | (with_reducible exact spec_DrawEncodeName.mono _ _)
   | (with_reducible exact spec_DrawReadName.mono _ _)
   | (with_reducible exact spec_EncodeName.mono _ _)
   | (with_reducible exact spec_ReadName.mono _ _ _)
   | (with_reducible exact LeO.refl _)
   | (with_reducible exact LeO.none _)
   | (with_reducible refine LeO.ite ?_ ?_)
   | (with_reducible refine LeO.bind ?_ (fun _ => ?_))
   | exact ih0 _ _ _ _ _ _ _ _ _ _
   | exact ih1 _ _ _ _ _ _ _ _ _ _
   | exact ih2 _ _ _ _
   | exact ih3 _ _ _ _ _ _ _ _
   | exact ih4 _ _ _ _ _ _ _ _
   | exact impl_EncodeName.mono _ _
   | exact impl_ReadName.mono _ _ _
   | exact spec_DrawEncodeName.mono _ _
   | exact spec_DrawReadName.mono _ _
   | exact spec_EncodeName.mono _ _
   | exact spec_ReadName.mono _ _ _
   | exact LeO.none _
   | refine LeO.ite ?_ ?_
   | refine LeO.bind ?_ (fun _ => ?_)
theorem laws_FnNames.mono : ∀ a0 k, LeO (laws_FnNames.f k a0) (laws_FnNames.f (k + 1) a0) := by
 intro a0 k
 obtain ⟨ih0, ih1, ih2, ih3, ih4⟩ := laws_FnNames.mono_l k
 unfold laws_FnNames.f
 repeat' first
   | (with_reducible exact ih0 _ _ _ _ _ _ _ _ _ _)
   | (with_reducible exact ih1 _ _ _ _ _ _ _ _ _ _)
   | (with_reducible exact ih2 _ _ _ _)
   | (with_reducible exact ih3 _ _ _ _ _ _ _ _)
   | (with_reducible exact ih4 _ _ _ _ _ _ _ _)
   | (with_reducible exact impl_EncodeName.mono _ _)
   | (with_reducible exact impl_ReadName.mono _ _ _)
   | (with_reducible exact spec_DrawEncodeName.mono _ _)
   | (with_reducible exact spec_DrawReadName.mono _ _)
   | (with_reducible exact spec_EncodeName.mono _ _)
   | (with_reducible exact spec_ReadName.mono _ _ _)
   | (with_reducible exact LeO.refl _)
   | (with_reducible exact LeO.none _)
   | (with_reducible refine LeO.ite ?_ ?_)
   | (with_reducible refine LeO.bind ?_ (fun _ => ?_))
   | exact ih0 _ _ _ _ _ _ _ _ _ _
   | exact ih1 _ _ _ _ _ _ _ _ _ _
   | exact ih2 _ _ _ _
   | exact ih3 _ _ _ _ _ _ _ _
   | exact ih4 _ _ _ _ _ _ _ _
   | exact impl_EncodeName.mono _ _
   | exact impl_ReadName.mono _ _ _
   | exact spec_DrawEncodeName.mono _ _
   | exact spec_DrawReadName.mono _ _
   | exact spec_EncodeName.mono _ _
   | exact spec_ReadName.mono _ _ _
   | exact LeO.none _
   | refine LeO.ite ?_ ?_
   | refine LeO.bind ?_ (fun _ => ?_)
def laws_FnNames.T8 : Bool × List (List Nat × List Nat) := (true, [([], []), ([0], [0]), ([], []), ([2], [2]), ([3], [3]), ([1, 4], [1, 4]), ([5, 3], [5]), ([6], [6]), ([7, 6], [6, 7]), ([6], [6]), ([9, 6], [6, 9]), ([8, 10, 6], [6, 8, 10]), ([6, 11], [6, 11]), ([12, 6], [12]), ([13], [13]), ([14, 13], [13, 14]), ([15, 13], [13, 15]), ([13], [13]), ([17, 13], [13, 17]), ([18, 13], [13, 18]), ([16, 19, 13], [13, 16, 19]), ([13, 20], [13, 20]), ([21, 13], [21]), ([22], [22]), ([23, 22], [22, 23]), ([24, 22], [22, 24]), ([25, 22], [22, 25]), ([22], [22]), ([27, 22], [22, 27]), ([28, 22], [22, 28]), ([29, 22], [22, 29]), ([26, 30, 22], [22, 26, 30]), ([22, 31], [22, 31])])
def laws_FnNames.B8 : List Nat := [0, 1, 0, 4, 12, 31, 63, 127, 255, 127, 639, 2047, 4095, 8191, 16383, 32767, 65535, 16383, 147455, 409599, 1048575, 2097151, 4194303, 8388607, 16777215, 33554431, 67108863, 8388607, 142606335, 411041791, 947912703, 2147483647, 4294967295]
theorem laws_FnNames.tab8 : rtab .any (opsOf Try.f5 8) = laws_FnNames.T8 := by kernel_rfl
theorem laws_FnNames.bits8 : waitsOk laws_FnNames.T8.2 laws_FnNames.B8 = true := by kernel_rfl
def laws_FnNames.T13 : Bool × List (List Nat × List Nat) := (true, [([], []), ([0], [0]), ([1], [1]), ([], []), ([2, 3], [2, 3]), ([4], [4]), ([], []), ([6], [6]), ([7], [7]), ([], []), ([8, 9], [8, 9]), ([10], [10]), ([5, 11], [5, 11])])
def laws_FnNames.B13 : List Nat := [0, 1, 3, 0, 15, 31, 0, 64, 192, 0, 960, 1984, 4095]
theorem laws_FnNames.tab13 : rtab .any (opsOf Try.f5 13) = laws_FnNames.T13 := by kernel_rfl
theorem laws_FnNames.bits13 : waitsOk laws_FnNames.T13.2 laws_FnNames.B13 = true := by kernel_rfl
def laws_FnNames.T20 : Bool × List (List Nat × List Nat) := (true, [([], []), ([], []), ([1], [1]), ([0, 2], [0, 2]), ([], []), ([3, 4, 3], [3, 4]), ([], []), ([6], [6]), ([7], [7]), ([5, 8, 5], [5, 8]), ([], []), ([10, 9, 9, 0, 1, 2, 3, 4, 5, 6, 7, 8, 9, 10], [9, 10])])
def laws_FnNames.B20 : List Nat := [0, 0, 2, 7, 0, 31, 0, 64, 192, 511, 0, 2047]
theorem laws_FnNames.tab20 : rtab .any (opsOf Try.f5 20) = laws_FnNames.T20 := by kernel_rfl
theorem laws_FnNames.bits20 : waitsOk laws_FnNames.T20.2 laws_FnNames.B20 = true := by kernel_rfl
def laws_FnNames.T26 : Bool × List (List Nat × List Nat) := (true, [([], []), ([0], [0]), ([1], [1]), ([], []), ([2, 3], [2, 3]), ([4], [4]), ([], []), ([], []), ([6, 7], [6, 7]), ([8], [8]), ([5, 9], [5, 9]), ([10], [10]), ([11], [11]), ([12, 11], [11, 12]), ([13, 11], [11, 13]), ([11], [11]), ([14, 15, 11], [11, 14, 15]), ([16, 11], [11, 16]), ([11], [11]), ([11], [11]), ([18, 19, 11], [11, 18, 19]), ([20, 11], [11, 20]), ([17, 21, 11], [11, 17, 21]), ([11, 22], [11, 22])])
def laws_FnNames.B26 : List Nat := [0, 1, 3, 0, 15, 31, 0, 0, 192, 448, 1023, 2047, 4095, 8191, 16383, 4095, 65535, 131071, 4095, 4095, 790527, 1839103, 4194303, 8388607]
theorem laws_FnNames.tab26 : rtab .any (opsOf Try.f5 26) = laws_FnNames.T26 := by kernel_rfl
theorem laws_FnNames.bits26 : waitsOk laws_FnNames.T26.2 laws_FnNames.B26 = true := by kernel_rfl
set_option maxHeartbeats 8000000 in
set_option maxRecDepth 100000 in
theorem laws_FnNames.calls (k : Nat) (A0 : Option Addr) (c0 : Nat) (l0 : List Int) (r : Bool) (w : World) (hr0 : Kd.C (Kd.int .u8) w A0 l0.length l0) (hc0 : l0.length ≤ c0) (h : laws_FnNames.f k l0 = some r) :
  Calls Try.prog 5 #[.slice A0 l0.length c0] w fun e w' => e = .returned (.bool r) ∧ Below w.heap.size w w' := by
 have hu26 := Try.underlying26
 have hu36 := Try.underlying36
 have HR0 := Aside0.mk hr0
 have HC0 := Aside0.mk hc0
 clear hr0 hc0
 have HB := Aside0.mk (Below.refl w.heap.size w)
 have H : ((laws_lwBig.f l0).bind fun t315 => (if t315 = true then (some true) else ((spec_DrawEncodeName.f k l0).bind fun t316 => ((impl_EncodeName.f k t316).bind fun bt319 => ((spec_DrawReadName.f k l0).bind fun bt324 => ((impl_ReadName.f k bt324.1 bt324.2).bind fun bt328 => ((spec_ReadName.f k bt324.1 bt324.2).bind fun bt334 => ((spec_EncodeName.f k t316).bind fun bt340 => (if bt319.1 = bt340.1 then (if bt328.1 = bt334.1 then (if bt328.2.2 = bt334.2.2 then (laws_FnNames.j0 k t316 ((bt328.2.1.length : Int) != (bt334.2.1.length : Int)) bt319.1 bt319.2 bt328.1 bt328.2.1 bt328.2.2 bt334.1 bt334.2.1 bt334.2.2) else (none)) else (none)) else (none)))))))))) = some r := h
 clear h
 replace H := Option.bind_eq_some_iff.mp H
 obtain ⟨t315, A20, H⟩ := H
 replace H : (if t315 = true then (some true) else ((spec_DrawEncodeName.f k l0).bind fun t316 => ((impl_EncodeName.f k t316).bind fun bt319 => ((spec_DrawReadName.f k l0).bind fun bt324 => ((impl_ReadName.f k bt324.1 bt324.2).bind fun bt328 => ((spec_ReadName.f k bt324.1 bt324.2).bind fun bt334 => ((spec_EncodeName.f k t316).bind fun bt340 => (if bt319.1 = bt340.1 then (if bt328.1 = bt334.1 then (if bt328.2.2 = bt334.2.2 then (laws_FnNames.j0 k t316 ((bt328.2.1.length : Int) != (bt334.2.1.length : Int)) bt319.1 bt319.2 bt328.1 bt328.2.1 bt328.2.2 bt334.1 bt334.2.1 bt334.2.2) else (none)) else (none)) else (none))))))))) = some r := H
 have A2 := Aside0.mk A20
 clear A20
 by_cases c3 : t315 = true
 ·
  subst c3; have H1 : (some true) = some r := by rw [if_pos rfl] at H; exact H
  clear H; have H := H1; clear H1; obtain rfl := Option.some.inj H
  go_enter Try.func5, Try.ntmps5
  go_wp2_with (first | ((with_reducible refine gate_callee (f := 25) rfl ?_); refine goesL_ (some 14) rfl rfl Try.func25 (by kernel_rfl) rfl #[.slice A0 l0.length c0] rfl args_a ?_; (with_reducible refine (laws_lwBig.calls _ _ l0 true _ ?side1 ?side2 A2.out).mono ?_); (case side1 => repeat (first | exact HR0.out | (with_reducible refine Kd.C_alloc ?_ _) | (with_reducible refine Kd.C_drewN ?_ _) | (with_reducible refine Kd.C_drew ?_))); (case side2 => exact HC0.out); rintro e w' ⟨rfl, ⟨nd, rfl⟩⟩; refine ⟨_, rfl, ?_⟩))
  go_ret
  exact ⟨eq_a, below_a⟩
 ·
  replace c3 := Bool.eq_false_iff.mpr c3; subst c3; have H1 : ((spec_DrawEncodeName.f k l0).bind fun t316 => ((impl_EncodeName.f k t316).bind fun bt319 => ((spec_DrawReadName.f k l0).bind fun bt324 => ((impl_ReadName.f k bt324.1 bt324.2).bind fun bt328 => ((spec_ReadName.f k bt324.1 bt324.2).bind fun bt334 => ((spec_EncodeName.f k t316).bind fun bt340 => (if bt319.1 = bt340.1 then (if bt328.1 = bt334.1 then (if bt328.2.2 = bt334.2.2 then (laws_FnNames.j0 k t316 ((bt328.2.1.length : Int) != (bt334.2.1.length : Int)) bt319.1 bt319.2 bt328.1 bt328.2.1 bt328.2.2 bt334.1 bt334.2.1 bt334.2.2) else (none)) else (none)) else (none)))))))) = some r := by rw [if_neg (show ¬ (false = true) by decide)] at H; exact H
  clear H; have H := H1; clear H1; replace H := Option.bind_eq_some_iff.mp H; obtain ⟨t316, A40, H⟩ := H; replace H : ((impl_EncodeName.f k t316).bind fun bt319 => ((spec_DrawReadName.f k l0).bind fun bt324 => ((impl_ReadName.f k bt324.1 bt324.2).bind fun bt328 => ((spec_ReadName.f k bt324.1 bt324.2).bind fun bt334 => ((spec_EncodeName.f k t316).bind fun bt340 => (if bt319.1 = bt340.1 then (if bt328.1 = bt334.1 then (if bt328.2.2 = bt334.2.2 then (laws_FnNames.j0 k t316 ((bt328.2.1.length : Int) != (bt334.2.1.length : Int)) bt319.1 bt319.2 bt328.1 bt328.2.1 bt328.2.2 bt334.1 bt334.2.1 bt334.2.2) else (none)) else (none)) else (none))))))) = some r := H; have A4 := Aside0.mk A40; clear A40; replace H := Option.bind_eq_some_iff.mp H; obtain ⟨⟨t319, t320⟩, A50, H⟩ := H; replace H : ((spec_DrawReadName.f k l0).bind fun bt324 => ((impl_ReadName.f k bt324.1 bt324.2).bind fun bt328 => ((spec_ReadName.f k bt324.1 bt324.2).bind fun bt334 => ((spec_EncodeName.f k t316).bind fun bt340 => (if t319 = bt340.1 then (if bt328.1 = bt334.1 then (if bt328.2.2 = bt334.2.2 then (laws_FnNames.j0 k t316 ((bt328.2.1.length : Int) != (bt334.2.1.length : Int)) t319 t320 bt328.1 bt328.2.1 bt328.2.2 bt334.1 bt334.2.1 bt334.2.2) else (none)) else (none)) else (none)))))) = some r := H; have A5 := Aside0.mk A50; clear A50; replace H := Option.bind_eq_some_iff.mp H; obtain ⟨⟨t324, t325⟩, A60, H⟩ := H; replace H : ((impl_ReadName.f k t324 t325).bind fun bt328 => ((spec_ReadName.f k t324 t325).bind fun bt334 => ((spec_EncodeName.f k t316).bind fun bt340 => (if t319 = bt340.1 then (if bt328.1 = bt334.1 then (if bt328.2.2 = bt334.2.2 then (laws_FnNames.j0 k t316 ((bt328.2.1.length : Int) != (bt334.2.1.length : Int)) t319 t320 bt328.1 bt328.2.1 bt328.2.2 bt334.1 bt334.2.1 bt334.2.2) else (none)) else (none)) else (none))))) = some r := H; have A6 := Aside0.mk A60; clear A60; replace H := Option.bind_eq_some_iff.mp H; obtain ⟨⟨t328, t329, t332⟩, A70, H⟩ := H; replace H : ((spec_ReadName.f k t324 t325).bind fun bt334 => ((spec_EncodeName.f k t316).bind fun bt340 => (if t319 = bt340.1 then (if t328 = bt334.1 then (if t332 = bt334.2.2 then (laws_FnNames.j0 k t316 ((t329.length : Int) != (bt334.2.1.length : Int)) t319 t320 t328 t329 t332 bt334.1 bt334.2.1 bt334.2.2) else (none)) else (none)) else (none)))) = some r := H; have A7 := Aside0.mk A70; clear A70; replace H := Option.bind_eq_some_iff.mp H; obtain ⟨⟨t334, t335, t338⟩, A80, H⟩ := H; replace H : ((spec_EncodeName.f k t316).bind fun bt340 => (if t319 = bt340.1 then (if t328 = t334 then (if t332 = t338 then (laws_FnNames.j0 k t316 ((t329.length : Int) != (t335.length : Int)) t319 t320 t328 t329 t332 t334 t335 t338) else (none)) else (none)) else (none))) = some r := H; have A8 := Aside0.mk A80; clear A80; have HC9 := Aside0.mk H; clear H
  go_enter Try.func5, Try.ntmps5
  go_upto_region 8 with (first | ((with_reducible refine gate_callee (f := 25) rfl ?_); refine goesL_ (some 14) rfl rfl Try.func25 (by kernel_rfl) rfl #[.slice A0 l0.length c0] rfl args_a ?_; (with_reducible refine (laws_lwBig.calls _ _ l0 false _ ?side1 ?side2 A2.out).mono ?_); (case side1 => repeat (first | exact HR0.out | (with_reducible refine Kd.C_alloc ?_ _) | (with_reducible refine Kd.C_drewN ?_ _) | (with_reducible refine Kd.C_drew ?_))); (case side2 => exact HC0.out); rintro e w' ⟨rfl, ⟨nd, rfl⟩⟩; refine ⟨_, rfl, ?_⟩) | ((with_reducible refine gate_callee (f := 26) rfl ?_); refine goesL_ (some 16) rfl rfl Try.func26 (by kernel_rfl) rfl #[.slice A0 l0.length c0] rfl args_a ?_; (with_reducible refine (spec_DrawEncodeName.calls k _ _ l0 t316 _ ?side1 ?side2 A4.out).mono ?_); (case side1 => repeat (first | exact HR0.out | (with_reducible refine Kd.C_alloc ?_ _) | (with_reducible refine Kd.C_drewN ?_ _) | (with_reducible refine Kd.C_drew ?_))); (case side2 => exact HC0.out); rintro e w10 ⟨v317, rfl, ho0, hb⟩; refine ⟨_, rfl, ?_⟩; have HO318 := Aside0.mk (Kd.R_lower ho0 (below_size below_a)); replace HB := Aside0.mk (below_step below_a hb); (try clear hb); (try clear hb2); (try clear hk); (try clear hi); (try clear ho0); obtain ⟨Ao11, co11, eo11⟩ := Kd.R_slice HO318.out; subst eo11) | ((with_reducible refine gate_callee (f := 11) rfl ?_); refine goesL_ (some 18) rfl rfl Try.func11 (by kernel_rfl) rfl #[.slice Ao11 t316.length co11] rfl args_a ?_; (with_reducible refine (impl_EncodeName.calls k _ _ t316 t319 t320 _ ?side1 ?side2 A5.out).mono ?_); (case side1 => repeat (first | exact (Kd.R_reads' HO318.out).2.2 | (with_reducible refine Kd.C_alloc ?_ _) | (with_reducible refine Kd.C_drewN ?_ _) | (with_reducible refine Kd.C_drew ?_))); (case side2 => exact (Kd.R_reads' HO318.out).2.1); rintro e w12 ⟨v321, rfl, ho0, hb⟩; refine ⟨_, rfl, ?_⟩; replace HO318 := Aside0.mk (Kd.R_below (R_a HO318.out) hb); have HO322 := Aside0.mk (Kd.R_lower ho0 (below_size below_a)); replace HB := Aside0.mk (below_step below_a hb); (try clear hb); (try clear hb2); (try clear hk); (try clear hi); (try clear ho0)) | ((with_reducible refine gate_dst (N := 4) rfl ?_); (try (refine gate_guard (by rfl) ?_; dsimp only)); refine box_event ?hg (N := 4) ?hd (cs := #[.int .i64 0, .slice none 0 0]) (t := 26) ?hr ?_; (case hd => rfl); (case hg => rfl); (case hr => first | (go_simp; done) | (go_simp; rfl)); intro gb323 hg w13 hbox hb; replace HO318 := Aside0.mk (Kd.R_below (R_a HO318.out) hb); replace HO322 := Aside0.mk (Kd.R_below (R_a HO322.out) hb); have n2_ := Aside0.mk (below_step below_a hb); have BK323 := Aside0.mk (hbox); have GW323 := Aside0.mk (bsz_ (w := w) hg); have GE323 := Aside0.mk (bsz_ (w := w) hg); replace HB := n2_; clear n2_; clear hb hbox hg; obtain ⟨hcz14_0, hcz14_1, hfz14_0, hfz14_1⟩ := bc2_ BK323.out; obtain ⟨Ao15, co15, eo15⟩ := Kd.R_slice HO322.out; subst eo15) | ((with_reducible refine gate_callee (f := 27) rfl ?_); refine goesL_ (some 21) rfl rfl Try.func27 (by kernel_rfl) rfl #[.slice A0 l0.length c0] rfl args_a ?_; (with_reducible refine (spec_DrawReadName.calls k _ _ l0 t324 t325 _ ?side1 ?side2 A6.out).mono ?_); (case side1 => exact Kd.C_below HR0.out below_a); (case side2 => exact HC0.out); rintro e w16 ⟨v326, rfl, ho0, hb⟩; refine ⟨_, rfl, ?_⟩; replace HO318 := Aside0.mk (Kd.R_below (by (with_reducible repeat (first | apply Kd.R_alloc | apply Kd.R_drewN | apply Kd.R_drew)); exact (Kd.R_mono (Kd.R_far (p := ⟨gb323, 1, none⟩) (Kd.R_far (p := ⟨gb323, 0, none⟩) (Kd.R_types HO318.out BK323.out (by decide)) (fun _ hk => hk.2) (.int .i64 t319)) (fun _ hk => hk.2) (.slice Ao15 t320.length co15)) (fun _ h_ => h_.1))) hb); have n1_ := Aside0.mk (Kd.R_elder' (by (with_reducible repeat (first | apply Kd.R_alloc | apply Kd.R_drewN | apply Kd.R_drew)); exact (Kd.R_mono (Kd.R_far (p := ⟨gb323, 1, none⟩) (Kd.R_far (p := ⟨gb323, 0, none⟩) (Kd.R_types HO322.out BK323.out (by decide)) (fun _ hk => hk.2) (.int .i64 t319)) (fun _ hk => hk.2) (.slice Ao15 t320.length co15)) (fun _ h_ => h_.1))) (Kd.R_base ho0) hb); have HO327 := Aside0.mk (Kd.R_lower (Kd.R_new' ho0 (Kd.R_lt (by (with_reducible repeat (first | apply Kd.R_alloc | apply Kd.R_drewN | apply Kd.R_drew)); exact (Kd.R_mono (Kd.R_far (p := ⟨gb323, 1, none⟩) (Kd.R_far (p := ⟨gb323, 0, none⟩) (Kd.R_types HO322.out BK323.out (by decide)) (fun _ hk => hk.2) (.int .i64 t319)) (fun _ hk => hk.2) (.slice Ao15 t320.length co15)) (fun _ h_ => h_.1))))) (below_size below_a)); replace BK323 := Aside0.mk (blk_below (g := gb323) (o := .cells #[.int .i64 t319, .slice Ao15 t320.length co15] 26 (0, 0)) blk_a hb); replace HB := Aside0.mk (below_step below_a hb); replace HO322 := n1_; clear n1_; (try clear hb); (try clear hb2); (try clear hk); (try clear hi); (try clear ho0); obtain ⟨Ao17, co17, eo17⟩ := Kd.R_slice HO327.out; subst eo17) | ((with_reducible refine gate_callee (f := 19) rfl ?_); refine goesL_ (some 26) rfl rfl Try.func19 (by kernel_rfl) rfl #[.slice Ao17 t324.length co17, .int .i64 t325] rfl args_a ?_; (with_reducible refine (impl_ReadName.calls k _ _ t324 t325 t328 t329 t332 _ ?side1 ?side2 A7.out).mono ?_); (case side1 => repeat (first | exact (Kd.R_reads' HO327.out).2.2 | (with_reducible refine Kd.C_alloc ?_ _) | (with_reducible refine Kd.C_drewN ?_ _) | (with_reducible refine Kd.C_drew ?_))); (case side2 => exact (Kd.R_reads' HO327.out).2.1); rintro e w18 ⟨v330, rfl, ho0, hb⟩; refine ⟨_, rfl, ?_⟩; have n0_ := Aside0.mk (Kd.R_elder' (R_a HO318.out) (Kd.R_base ho0) hb); replace HO322 := Aside0.mk (Kd.R_below (R_a HO322.out) hb); replace HO327 := Aside0.mk (Kd.R_below (R_a HO327.out) hb); have HO331 := Aside0.mk (Kd.R_lower (Kd.R_new' ho0 (Kd.R_lt (R_a HO318.out))) (below_size below_a)); replace BK323 := Aside0.mk (blk_below (g := gb323) blk_c hb); replace HB := Aside0.mk (below_step below_a hb); replace HO318 := n0_; clear n0_; (try clear hb); (try clear hb2); (try clear hk); (try clear hi); (try clear ho0)) | ((with_reducible refine gate_dst (N := 7) rfl ?_); (try (refine gate_guard (by rfl) ?_; dsimp only)); refine box_event ?hg (N := 7) ?hd (cs := #[.int .i64 0, .slice none 0 0, .int .i64 0]) (t := 36) ?hr ?_; (case hd => rfl); (case hg => rfl); (case hr => first | (go_simp; done) | (go_simp; rfl)); intro gb333 hg w19 hbox hb; replace HO318 := Aside0.mk (Kd.R_below (R_a HO318.out) hb); replace HO322 := Aside0.mk (Kd.R_below (R_a HO322.out) hb); replace HO327 := Aside0.mk (Kd.R_below (R_a HO327.out) hb); replace HO331 := Aside0.mk (Kd.R_below (R_a HO331.out) hb); have n4_ := Aside0.mk (blk_below (g := gb323) blk_c hb); have n5_ := Aside0.mk (below_step below_a hb); have BK333 := Aside0.mk (hbox); have GW333 := Aside0.mk (bsz_ (w := w) hg); have GE333 := Aside0.mk (bsz_ (w := w) hg); have NB323_333 := Aside0.mk (bne_ (g := gb323) hg); have NB333_323 := Aside0.mk (bne_ (g := gb323) hg).symm; replace BK323 := n4_; replace HB := n5_; clear n4_ n5_; clear hb hbox hg; have hnb20 := NB333_323.out; have hnc20 := NB323_333.out; obtain ⟨hcz21_0, hcz21_1, hcz21_2, hfz21_0, hfz21_1, hfz21_2⟩ := bc3_ BK333.out; obtain ⟨Ao22, co22, eo22⟩ := Kd.R_slice HO331.out; subst eo22) | ((with_reducible refine gate_callee (f := 17) rfl ?_); refine goesL_ (some 29) rfl rfl Try.func17 (by kernel_rfl) rfl #[.slice Ao17 t324.length co17, .int .i64 t325] rfl args_a ?_; (with_reducible refine (spec_ReadName.calls k _ _ t324 t325 t334 t335 t338 _ ?side1 ?side2 A8.out).mono ?_); (case side1 => refine (Kd.R_reads' (e := 5) (base := w.heap.size) (ok := fun k_ => (True ∧ some k_ ≠ (.slice Ao15 t320.length co15 : Value).ownBlock)) (n := t324.length) (c := co17) ?_).2.2; exact (by (with_reducible repeat (first | apply Kd.R_alloc | apply Kd.R_drewN | apply Kd.R_drew)); exact (Kd.R_mono (Kd.R_far (p := ⟨gb333, 2, none⟩) (Kd.R_far (p := ⟨gb333, 1, none⟩) (Kd.R_far (p := ⟨gb333, 0, none⟩) (Kd.R_types HO327.out BK333.out (by decide)) (fun _ hk => hk.2) (.int .i64 t328)) (fun _ hk => hk.2) (.slice Ao22 t329.length co22)) (fun _ hk => hk.2) (.int .i64 t332)) (fun _ h_ => h_.1)))); (case side2 => exact (Kd.R_reads' HO327.out).2.1); rintro e w23 ⟨v336, rfl, ho0, hb⟩; refine ⟨_, rfl, ?_⟩; have n0_ := Aside0.mk (Kd.R_elder' (by (with_reducible repeat (first | apply Kd.R_alloc | apply Kd.R_drewN | apply Kd.R_drew)); exact (Kd.R_mono (Kd.R_far (p := ⟨gb333, 2, none⟩) (Kd.R_far (p := ⟨gb333, 1, none⟩) (Kd.R_far (p := ⟨gb333, 0, none⟩) (Kd.R_types HO318.out BK333.out (by decide)) (fun _ hk => hk.2) (.int .i64 t328)) (fun _ hk => hk.2) (.slice Ao22 t329.length co22)) (fun _ hk => hk.2) (.int .i64 t332)) (fun _ h_ => h_.1))) (Kd.R_base ho0) hb); replace HO322 := Aside0.mk (Kd.R_below (by (with_reducible repeat (first | apply Kd.R_alloc | apply Kd.R_drewN | apply Kd.R_drew)); exact (Kd.R_mono (Kd.R_far (p := ⟨gb333, 2, none⟩) (Kd.R_far (p := ⟨gb333, 1, none⟩) (Kd.R_far (p := ⟨gb333, 0, none⟩) (Kd.R_types HO322.out BK333.out (by decide)) (fun _ hk => hk.2) (.int .i64 t328)) (fun _ hk => hk.2) (.slice Ao22 t329.length co22)) (fun _ hk => hk.2) (.int .i64 t332)) (fun _ h_ => h_.1))) hb); replace HO327 := Aside0.mk (Kd.R_below (by (with_reducible repeat (first | apply Kd.R_alloc | apply Kd.R_drewN | apply Kd.R_drew)); exact (Kd.R_mono (Kd.R_far (p := ⟨gb333, 2, none⟩) (Kd.R_far (p := ⟨gb333, 1, none⟩) (Kd.R_far (p := ⟨gb333, 0, none⟩) (Kd.R_types HO327.out BK333.out (by decide)) (fun _ hk => hk.2) (.int .i64 t328)) (fun _ hk => hk.2) (.slice Ao22 t329.length co22)) (fun _ hk => hk.2) (.int .i64 t332)) (fun _ h_ => h_.1))) hb); have n3_ := Aside0.mk (Kd.R_elder' (by (with_reducible repeat (first | apply Kd.R_alloc | apply Kd.R_drewN | apply Kd.R_drew)); exact (Kd.R_mono (Kd.R_far (p := ⟨gb333, 2, none⟩) (Kd.R_far (p := ⟨gb333, 1, none⟩) (Kd.R_far (p := ⟨gb333, 0, none⟩) (Kd.R_types HO331.out BK333.out (by decide)) (fun _ hk => hk.2) (.int .i64 t328)) (fun _ hk => hk.2) (.slice Ao22 t329.length co22)) (fun _ hk => hk.2) (.int .i64 t332)) (fun _ h_ => h_.1))) (Kd.R_base ho0) hb); have HO337 := Aside0.mk (Kd.R_lower (Kd.R_new' (Kd.R_new' ho0 (Kd.R_lt (by (with_reducible repeat (first | apply Kd.R_alloc | apply Kd.R_drewN | apply Kd.R_drew)); exact (Kd.R_mono (Kd.R_far (p := ⟨gb333, 2, none⟩) (Kd.R_far (p := ⟨gb333, 1, none⟩) (Kd.R_far (p := ⟨gb333, 0, none⟩) (Kd.R_types HO318.out BK333.out (by decide)) (fun _ hk => hk.2) (.int .i64 t328)) (fun _ hk => hk.2) (.slice Ao22 t329.length co22)) (fun _ hk => hk.2) (.int .i64 t332)) (fun _ h_ => h_.1))))) (Kd.R_lt (by (with_reducible repeat (first | apply Kd.R_alloc | apply Kd.R_drewN | apply Kd.R_drew)); exact (Kd.R_mono (Kd.R_far (p := ⟨gb333, 2, none⟩) (Kd.R_far (p := ⟨gb333, 1, none⟩) (Kd.R_far (p := ⟨gb333, 0, none⟩) (Kd.R_types HO331.out BK333.out (by decide)) (fun _ hk => hk.2) (.int .i64 t328)) (fun _ hk => hk.2) (.slice Ao22 t329.length co22)) (fun _ hk => hk.2) (.int .i64 t332)) (fun _ h_ => h_.1))))) (below_size below_a)); replace BK323 := Aside0.mk (blk_below (g := gb323) blk_c hb); replace BK333 := Aside0.mk (blk_below (g := gb333) (o := .cells #[.int .i64 t328, .slice Ao22 t329.length co22, .int .i64 t332] 36 (0, 0)) blk_a hb); replace HB := Aside0.mk (below_step below_a hb); replace HO318 := n0_; replace HO331 := n3_; clear n0_ n3_; (try clear hb); (try clear hb2); (try clear hk); (try clear hi); (try clear ho0)) | ((with_reducible refine gate_dst (N := 8) rfl ?_); (try (refine gate_guard (by rfl) ?_; dsimp only)); refine box_event ?hg (N := 8) ?hd (cs := #[.int .i64 0, .slice none 0 0, .int .i64 0]) (t := 36) ?hr ?_; (case hd => rfl); (case hg => rfl); (case hr => first | (go_simp; done) | (go_simp; rfl)); intro gb339 hg w24 hbox hb; replace HO318 := Aside0.mk (Kd.R_below (R_a HO318.out) hb); replace HO322 := Aside0.mk (Kd.R_below (R_a HO322.out) hb); replace HO327 := Aside0.mk (Kd.R_below (R_a HO327.out) hb); replace HO331 := Aside0.mk (Kd.R_below (R_a HO331.out) hb); replace HO337 := Aside0.mk (Kd.R_below (R_a HO337.out) hb); have n5_ := Aside0.mk (blk_below (g := gb323) blk_c hb); have n6_ := Aside0.mk (blk_below (g := gb333) blk_c hb); have n7_ := Aside0.mk (below_step below_a hb); have BK339 := Aside0.mk (hbox); have GW339 := Aside0.mk (bsz_ (w := w) hg); have GE339 := Aside0.mk (bsz_ (w := w) hg); have NB323_339 := Aside0.mk (bne_ (g := gb323) hg); have NB339_323 := Aside0.mk (bne_ (g := gb323) hg).symm; have NB333_339 := Aside0.mk (bne_ (g := gb333) hg); have NB339_333 := Aside0.mk (bne_ (g := gb333) hg).symm; replace BK323 := n5_; replace BK333 := n6_; replace HB := n7_; clear n5_ n6_ n7_; clear hb hbox hg; have hnb25 := NB339_323.out; have hnc25 := NB323_339.out; have hnb26 := NB339_333.out; have hnc26 := NB333_339.out; obtain ⟨hcz27_0, hcz27_1, hcz27_2, hfz27_0, hfz27_1, hfz27_2⟩ := bc3_ BK339.out; obtain ⟨Ao28, co28, eo28⟩ := Kd.R_slice HO337.out; subst eo28))
  (try simp only [Act.put, List.setIfInBounds_toArray, List.set_cons_zero, List.set_cons_succ])
  go_cut [62] (fun v62 wc => ∃ (kq : Nat) (x62_8 : Bool), v62 = .bool x62_8 ∧ Aside0 (laws_FnNames.j0 kq t316 x62_8 t319 t320 t328 t329 t332 t334 t335 t338 = some r) ∧ Aside0 (kq ≤ k) ∧ Aside0 (Kd.R Kd.string 9 wc w.heap.size (fun k_ => some k_ ≠ ((.slice Ao22 t329.length co22) : Value).ownBlock ∧ some k_ ≠ ((.slice Ao28 t335.length co28) : Value).ownBlock) (.slice Ao11 t316.length co11) t316) ∧ Aside0 (Kd.R (Kd.int .u8) 5 wc w.heap.size (fun _ => True) (.slice Ao15 t320.length co15) t320) ∧ Aside0 (Kd.R Kd.string 9 wc w.heap.size (fun k_ => some k_ ≠ ((.slice Ao11 t316.length co11) : Value).ownBlock ∧ some k_ ≠ ((.slice Ao28 t335.length co28) : Value).ownBlock) (.slice Ao22 t329.length co22) t329) ∧ Aside0 (Kd.R Kd.string 9 wc w.heap.size (fun k_ => some k_ ≠ ((.slice Ao11 t316.length co11) : Value).ownBlock ∧ some k_ ≠ ((.slice Ao22 t329.length co22) : Value).ownBlock) (.slice Ao28 t335.length co28) t335) ∧ Aside0 (wc.heap[gb323]? = some (.cells #[.int .i64 t319, (.slice Ao15 t320.length co15)] 26 (0, 0))) ∧ Aside0 (wc.heap[gb333]? = some (.cells #[.int .i64 t328, (.slice Ao22 t329.length co22), .int .i64 t332] 36 (0, 0))) ∧ Aside0 (wc.heap[gb339]? = some (.cells #[.int .i64 t334, (.slice Ao28 t335.length co28), .int .i64 t338] 36 (0, 0))) ∧ Aside0 (Below w.heap.size w wc))
  case first =>
   have H := HC9.out; clear HC9; replace H := Option.bind_eq_some_iff.mp H; obtain ⟨⟨t340, t341⟩, A290, H⟩ := H; replace H : (if t319 = t340 then (if t328 = t334 then (if t332 = t338 then (laws_FnNames.j0 k t316 ((t329.length : Int) != (t335.length : Int)) t319 t320 t328 t329 t332 t334 t335 t338) else (none)) else (none)) else (none)) = some r := H; have A29 := Aside0.mk A290; clear A290
   by_cases c30 : t319 = t340
   ·
    rw [if_pos c30] at H; have c30b0 : (t319 == t340) = true := beq_iff_eq.mpr c30; have c30b1 : (t319 != t340) = false := bne_eq_false_iff_eq.mpr c30; clear c30; (first | rw [c30b0] | (simp only [i64_w, i32_w]; rw [c30b0]) | skip)
    by_cases c31 : t328 = t334
    ·
     rw [if_pos c31] at H; have c31b0 : (t328 == t334) = true := beq_iff_eq.mpr c31; have c31b1 : (t328 != t334) = false := bne_eq_false_iff_eq.mpr c31; clear c31
     by_cases c32 : t332 = t338
     ·
      rw [if_pos c32] at H; have c32b0 : (t332 == t338) = true := beq_iff_eq.mpr c32; have c32b1 : (t332 != t338) = false := bne_eq_false_iff_eq.mpr c32; clear c32; have H' := Aside0.mk H; clear H
      try go_wp2
      generalize hW_ : (((w24.setCell ⟨gb339, 0, none⟩ (.int .i64 t334)).setCell ⟨gb339, 1, none⟩ (.slice Ao28 t335.length co28)).setCell ⟨gb339, 2, none⟩ (.int .i64 t338)) = w33 at ⊢; have n0_ : Aside0 (Kd.R Kd.string 9 w33 w.heap.size (fun k_ => some k_ ≠ (.slice Ao22 t329.length co22 : Value).ownBlock ∧ some k_ ≠ (.slice Ao28 t335.length co28 : Value).ownBlock) (.slice Ao11 t316.length co11) t316) := hW_ ▸ ⟨by (with_reducible repeat (first | apply Kd.R_alloc | apply Kd.R_drewN | apply Kd.R_drew)); exact Kd.R_mono (Kd.R_far (p := ⟨gb339, 2, none⟩) (Kd.R_far (p := ⟨gb339, 1, none⟩) (Kd.R_far (p := ⟨gb339, 0, none⟩) (Kd.R_types HO318.out BK339.out (by decide)) (fun _ hk => hk.2) (.int .i64 t334)) (fun _ hk => hk.2) (.slice Ao28 t335.length co28)) (fun _ hk => hk.2) (.int .i64 t338)) (fun _ hk => ⟨hk.1.1.2, hk.1.2⟩)⟩; have n1_ : Aside0 (Kd.R (Kd.int .u8) 5 w33 w.heap.size (fun k_ => some k_ ≠ (.slice Ao17 t324.length co17 : Value).ownBlock) (.slice Ao15 t320.length co15) t320) := hW_ ▸ ⟨by (with_reducible repeat (first | apply Kd.R_alloc | apply Kd.R_drewN | apply Kd.R_drew)); exact Kd.R_mono (Kd.R_far (p := ⟨gb339, 2, none⟩) (Kd.R_far (p := ⟨gb339, 1, none⟩) (Kd.R_far (p := ⟨gb339, 0, none⟩) (Kd.R_types HO322.out BK339.out (by decide)) (fun _ hk => hk.2) (.int .i64 t334)) (fun _ hk => hk.2) (.slice Ao28 t335.length co28)) (fun _ hk => hk.2) (.int .i64 t338)) (fun _ hk => hk.1.2)⟩; have n2_ : Aside0 (Kd.R (Kd.int .u8) 5 w33 w.heap.size (fun k_ => some k_ ≠ (.slice Ao15 t320.length co15 : Value).ownBlock) (.slice Ao17 t324.length co17) t324) := hW_ ▸ ⟨by (with_reducible repeat (first | apply Kd.R_alloc | apply Kd.R_drewN | apply Kd.R_drew)); exact Kd.R_mono (Kd.R_far (p := ⟨gb339, 2, none⟩) (Kd.R_far (p := ⟨gb339, 1, none⟩) (Kd.R_far (p := ⟨gb339, 0, none⟩) (Kd.R_types HO327.out BK339.out (by decide)) (fun _ hk => hk.2) (.int .i64 t334)) (fun _ hk => hk.2) (.slice Ao28 t335.length co28)) (fun _ hk => hk.2) (.int .i64 t338)) (fun _ hk => hk.1.2)⟩; have n3_ : Aside0 (Kd.R Kd.string 9 w33 w.heap.size (fun k_ => some k_ ≠ (.slice Ao11 t316.length co11 : Value).ownBlock ∧ some k_ ≠ (.slice Ao28 t335.length co28 : Value).ownBlock) (.slice Ao22 t329.length co22) t329) := hW_ ▸ ⟨by (with_reducible repeat (first | apply Kd.R_alloc | apply Kd.R_drewN | apply Kd.R_drew)); exact Kd.R_mono (Kd.R_far (p := ⟨gb339, 2, none⟩) (Kd.R_far (p := ⟨gb339, 1, none⟩) (Kd.R_far (p := ⟨gb339, 0, none⟩) (Kd.R_types HO331.out BK339.out (by decide)) (fun _ hk => hk.2) (.int .i64 t334)) (fun _ hk => hk.2) (.slice Ao28 t335.length co28)) (fun _ hk => hk.2) (.int .i64 t338)) (fun _ hk => ⟨hk.1.1.2, hk.1.2⟩)⟩; have n4_ : Aside0 (Kd.R Kd.string 9 w33 w.heap.size (fun k_ => some k_ ≠ (.slice Ao11 t316.length co11 : Value).ownBlock ∧ some k_ ≠ (.slice Ao22 t329.length co22 : Value).ownBlock) (.slice Ao28 t335.length co28) t335) := hW_ ▸ ⟨by (with_reducible repeat (first | apply Kd.R_alloc | apply Kd.R_drewN | apply Kd.R_drew)); exact Kd.R_mono (Kd.R_far (p := ⟨gb339, 2, none⟩) (Kd.R_far (p := ⟨gb339, 1, none⟩) (Kd.R_far (p := ⟨gb339, 0, none⟩) (Kd.R_types HO337.out BK339.out (by decide)) (fun _ hk => hk.2) (.int .i64 t334)) (fun _ hk => hk.2) (.slice Ao28 t335.length co28)) (fun _ hk => hk.2) (.int .i64 t338)) (fun _ hk => ⟨hk.1.1.2, hk.1.2⟩)⟩; have n5_ : Aside0 (w33.heap[gb323]? = some (.cells #[.int .i64 t319, .slice Ao15 t320.length co15] 26 (0, 0))) := hW_ ▸ ⟨blk_a⟩; have n6_ : Aside0 (w33.heap[gb333]? = some (.cells #[.int .i64 t328, .slice Ao22 t329.length co22, .int .i64 t332] 36 (0, 0))) := hW_ ▸ ⟨blk_a⟩; have n7_ : Aside0 (w33.heap[gb339]? = some (.cells #[.int .i64 t334, .slice Ao28 t335.length co28, .int .i64 t338] 36 (0, 0))) := hW_ ▸ ⟨blk_a⟩; have n8_ : Aside0 (Below w.heap.size w w33) := hW_ ▸ ⟨below_a⟩; (try clear HO318); (try clear HO322); (try clear HO327); (try clear HO331); (try clear HO337); (try clear BK323); (try clear BK333); (try clear BK339); (try clear HB); clear hW_; have HO318 := n0_; have HO322 := n1_; have HO327 := n2_; have HO331 := n3_; have HO337 := n4_; have BK323 := n5_; have BK333 := n6_; have BK339 := n7_; have HB := n8_; clear n0_ n1_ n2_ n3_ n4_ n5_ n6_ n7_ n8_; replace HO318 := Aside0.mk (Kd.R_drew HO318.out); replace HO322 := Aside0.mk (Kd.R_drew HO322.out); replace HO327 := Aside0.mk (Kd.R_drew HO327.out); replace HO331 := Aside0.mk (Kd.R_drew HO331.out); replace HO337 := Aside0.mk (Kd.R_drew HO337.out); replace BK323 := Aside0.mk (blk_drew BK323.out); replace BK333 := Aside0.mk (blk_drew BK333.out); replace BK339 := Aside0.mk (blk_drew BK339.out); replace HB := Aside0.mk (below_drew1 HB.out); refine start_ (n := 33) (S := fun w' => w'.cell? ⟨gb323, 0, none⟩ = some (.int .i64 t319) ∧ w'.cell? ⟨gb323, 1, none⟩ = some (.slice Ao15 t320.length co15) ∧ w'.cell? ⟨gb333, 0, none⟩ = some (.int .i64 t328) ∧ w'.cell? ⟨gb333, 1, none⟩ = some (.slice Ao22 t329.length co22) ∧ w'.cell? ⟨gb333, 2, none⟩ = some (.int .i64 t332) ∧ w'.cell? ⟨gb339, 0, none⟩ = some (.int .i64 t334) ∧ w'.cell? ⟨gb339, 1, none⟩ = some (.slice Ao28 t335.length co28) ∧ w'.cell? ⟨gb339, 2, none⟩ = some (.int .i64 t338)) (ds := []) #[Z',Z',Z',Z',Z',Z',Z',Z',Z',Z',Z',Z',Z',Z',Z',Z',Z',Z',Z',Z',Z',Z',Z',Z',Z',Z',Z',Z',Z',Z',Z',Z',Z'] (by kernel_rfl) rfl rfl ⟨(blk_cell BK323.out 0).trans rfl, (blk_cell BK323.out 1).trans rfl, (blk_cell BK333.out 0).trans rfl, (blk_cell BK333.out 1).trans rfl, (blk_cell BK333.out 2).trans rfl, (blk_cell BK339.out 0).trans rfl, (blk_cell BK339.out 1).trans rfl, (blk_cell BK339.out 2).trans rfl⟩ (fun hHeld => ?_); refine with_tabW laws_FnNames.tab8 laws_FnNames.bits8 (fun HT_ HW_ => ?_); generalize w33.drew = w34 at HO318 HO322 HO327 HO331 HO337 BK323 BK333 BK339 HB hHeld ⊢; refine pure_ (i := 0) (N := some 30) (v := ?_) (a' := ?_) #[Y',Z',Z',Z',Z',Z',Z',Z',Z',Z',Z',Z',Z',Z',Z',Z',Z',Z',Z',Z',Z',Z',Z',Z',Z',Z',Z',Z',Z',Z',Z',Z',Z'] rfl rfl (any_of HT_.out (by kernel_rfl)) (fun _ _ _ h => h) (Or.inl ⟨by rfl, ?_⟩) ?_ ?_; rotate_left
      ·
       intro w'
       go_simp
       with_reducible rfl
      rotate_left
      ·
       simp only [Act.put, List.setIfInBounds_toArray, List.set_cons_zero, List.set_cons_succ, i64_w, i32_w]; rfl
      refine pure_ (i := 2) (N := some 32) (v := ?_) (a' := ?_) #[Y',Z',Y',Z',Z',Z',Z',Z',Z',Z',Z',Z',Z',Z',Z',Z',Z',Z',Z',Z',Z',Z',Z',Z',Z',Z',Z',Z',Z',Z',Z',Z',Z'] rfl rfl (any_of HT_.out (by kernel_rfl)) (fun _ _ _ h => h) (Or.inl ⟨by rfl, ?_⟩) ?_ ?_; rotate_left
      ·
       intro w'
       go_simp
       with_reducible rfl
      rotate_left
      ·
       simp only [Act.put, List.setIfInBounds_toArray, List.set_cons_zero, List.set_cons_succ, i64_w, i32_w]; rfl
      refine take_ (i := 1) (N := some 31) (v := ?_) (a' := ?_) #[Y',Y',Y',Z',Z',Z',Z',Z',Z',Z',Z',Z',Z',Z',Z',Z',Z',Z',Z',Z',Z',Z',Z',Z',Z',Z',Z',Z',Z',Z',Z',Z',Z'] rfl rfl (take_ofW HT_.out HW_.out (by kernel_rfl)) (fun _ _ _ h => h) (Or.inl ⟨by rfl, ?_⟩) hHeld ?_ ?_; rotate_left
      ·
       rintro w' ⟨s0, s1, s2, s3, s4, s5, s6, s7⟩
       go_simp
       with_reducible rfl
      rotate_left
      ·
       simp only [Act.put, List.setIfInBounds_toArray, List.set_cons_zero, List.set_cons_succ, i64_w, i32_w]; rfl
      refine one_ (i := 3) (N := some 33) #[Y',Y',Y',Y',Z',Z',Z',Z',Z',Z',Z',Z',Z',Z',Z',Z',Z',Z',Z',Z',Z',Z',Z',Z',Z',Z',Z',Z',Z',Z',Z',Z',Z'] rfl rfl (one_of HT_.out (by kernel_rfl)) (by decide) (fun K hK => ?_); refine goes_ Try.func9 (by kernel_rfl) rfl #[.slice Ao11 t316.length co11] (by rfl) rfl rfl args_a ?_
      with_reducible refine (spec_EncodeName.calls k _ _ t316 t340 t341 _ ?side1 ?side2 A29.out).mono ?_
      (case side1 => repeat (first | exact (Kd.R_reads' HO318.out).2.2 | (with_reducible refine Kd.C_alloc ?_ _) | (with_reducible refine Kd.C_drewN ?_ _) | (with_reducible refine Kd.C_drew ?_))); (case side2 => exact (Kd.R_reads' HO318.out).2.1); rintro e w35 ⟨v342, rfl, ho0, hb⟩; refine ⟨_, rfl, ?_⟩; replace HO318 := Aside0.mk (Kd.R_below (R_a HO318.out) hb); have n1_ := Aside0.mk (Kd.R_elder' (R_a HO322.out) (Kd.R_base ho0) hb); have n2_ := Aside0.mk (Kd.R_elder' (R_a HO327.out) (Kd.R_base ho0) hb); replace HO331 := Aside0.mk (Kd.R_below (R_a HO331.out) hb); replace HO337 := Aside0.mk (Kd.R_below (R_a HO337.out) hb); have HO343 := Aside0.mk (Kd.R_lower (Kd.R_new' (Kd.R_new' ho0 (Kd.R_lt (R_a HO322.out))) (Kd.R_lt (R_a HO327.out))) (below_size below_a)); replace BK323 := Aside0.mk (blk_below (g := gb323) blk_c hb); replace BK333 := Aside0.mk (blk_below (g := gb333) blk_c hb); replace BK339 := Aside0.mk (blk_below (g := gb339) blk_c hb); replace HB := Aside0.mk (below_step below_a hb); replace HO322 := n1_; replace HO327 := n2_; clear n1_ n2_; (try clear hb); (try clear hb2); (try clear hk); (try clear hi); (try clear ho0); refine hK.out _ _ ⟨(blk_cell BK323.out 0).trans rfl, (blk_cell BK323.out 1).trans rfl, (blk_cell BK333.out 0).trans rfl, (blk_cell BK333.out 1).trans rfl, (blk_cell BK333.out 2).trans rfl, (blk_cell BK339.out 0).trans rfl, (blk_cell BK339.out 1).trans rfl, (blk_cell BK339.out 2).trans rfl⟩ (fun hHeld => ?_); clear hK K; refine norm_ (a' := ?_) ?_ ?_; rotate_left
      ·
       show Act.put _ (some 33) _ = _; simp only [Act.put, List.setIfInBounds_toArray, List.set_cons_zero, List.set_cons_succ, i64_w, i32_w]; rfl
      refine pure_ (i := 4) (N := some 34) (v := ?_) (a' := ?_) #[Y',Y',Y',Y',Y',Z',Z',Z',Z',Z',Z',Z',Z',Z',Z',Z',Z',Z',Z',Z',Z',Z',Z',Z',Z',Z',Z',Z',Z',Z',Z',Z',Z'] rfl rfl (any_of HT_.out (by kernel_rfl)) (fun _ _ _ h => h) (Or.inl ⟨by rfl, ?_⟩) ?_ ?_; rotate_left
      ·
       intro w'
       go_simp
       with_reducible rfl
      rotate_left
      ·
       simp only [Act.put, List.setIfInBounds_toArray, List.set_cons_zero, List.set_cons_succ, i64_w, i32_w]; rfl
      refine pure_ (i := 5) (N := some 35) (v := ?_) (a' := ?_) #[Y',Y',Y',Y',Y',Y',Z',Z',Z',Z',Z',Z',Z',Z',Z',Z',Z',Z',Z',Z',Z',Z',Z',Z',Z',Z',Z',Z',Z',Z',Z',Z',Z'] rfl rfl (any_of HT_.out (by kernel_rfl)) (fun _ _ _ h => h) (Or.inl ⟨by rfl, ?_⟩) ?_ ?_; rotate_left
      ·
       intro w'
       go_simp
       with_reducible rfl
      rotate_left
      ·
       simp only [Act.put, List.setIfInBounds_toArray, List.set_cons_zero, List.set_cons_succ, i64_w, i32_w]; rfl
      refine pure_ (i := 6) (N := some 36) (v := ?_) (a' := ?_) #[Y',Y',Y',Y',Y',Y',Y',Z',Z',Z',Z',Z',Z',Z',Z',Z',Z',Z',Z',Z',Z',Z',Z',Z',Z',Z',Z',Z',Z',Z',Z',Z',Z'] rfl rfl (any_of HT_.out (by kernel_rfl)) (fun _ _ _ h => h) (Or.inl ⟨by rfl, ?_⟩) ?_ ?_; rotate_left
      ·
       intro w'
       go_simp
       with_reducible rfl
      rotate_left
      ·
       simp only [Act.put, List.setIfInBounds_toArray, List.set_cons_zero, List.set_cons_succ, i64_w, i32_w]; rfl
      refine pure_ (i := 7) (N := some 37) (v := ?_) (a' := ?_) #[Y',Y',Y',Y',Y',Y',Y',Y',Z',Z',Z',Z',Z',Z',Z',Z',Z',Z',Z',Z',Z',Z',Z',Z',Z',Z',Z',Z',Z',Z',Z',Z',Z'] rfl rfl (any_of HT_.out (by kernel_rfl)) (fun _ _ _ h => h) (Or.inl ⟨by rfl, ?_⟩) ?_ ?_; rotate_left
      ·
       intro w'
       go_simp
       with_reducible rfl
      rotate_left
      ·
       simp only [Act.put, List.setIfInBounds_toArray, List.set_cons_zero, List.set_cons_succ, i64_w, i32_w]; rfl
      refine pure_ (i := 9) (N := some 39) (v := ?_) (a' := ?_) #[Y',Y',Y',Y',Y',Y',Y',Y',Z',Y',Z',Z',Z',Z',Z',Z',Z',Z',Z',Z',Z',Z',Z',Z',Z',Z',Z',Z',Z',Z',Z',Z',Z'] rfl rfl (any_of HT_.out (by kernel_rfl)) (fun _ _ _ h => h) (Or.inl ⟨by rfl, ?_⟩) ?_ ?_; rotate_left
      ·
       intro w'
       go_simp
       with_reducible rfl
      rotate_left
      ·
       simp only [Act.put, List.setIfInBounds_toArray, List.set_cons_zero, List.set_cons_succ, i64_w, i32_w]; rfl
      refine take_ (i := 8) (N := some 38) (v := ?_) (a' := ?_) #[Y',Y',Y',Y',Y',Y',Y',Y',Y',Y',Z',Z',Z',Z',Z',Z',Z',Z',Z',Z',Z',Z',Z',Z',Z',Z',Z',Z',Z',Z',Z',Z',Z'] rfl rfl (take_ofW HT_.out HW_.out (by kernel_rfl)) (fun _ _ _ h => h) (Or.inl ⟨by rfl, ?_⟩) hHeld ?_ ?_; rotate_left
      ·
       rintro w' ⟨s0, s1, s2, s3, s4, s5, s6, s7⟩
       go_simp
       with_reducible rfl
      rotate_left
      ·
       simp only [Act.put, List.setIfInBounds_toArray, List.set_cons_zero, List.set_cons_succ, i64_w, i32_w]; rfl
      refine take_ (i := 10) (N := some 40) (v := ?_) (a' := ?_) #[Y',Y',Y',Y',Y',Y',Y',Y',Y',Y',Y',Z',Z',Z',Z',Z',Z',Z',Z',Z',Z',Z',Z',Z',Z',Z',Z',Z',Z',Z',Z',Z',Z'] rfl rfl (take_ofW HT_.out HW_.out (by kernel_rfl)) (fun _ _ _ h => h) (Or.inl ⟨by rfl, ?_⟩) hHeld ?_ ?_; rotate_left
      ·
       rintro w' ⟨s0, s1, s2, s3, s4, s5, s6, s7⟩
       go_simp
       with_reducible rfl
      rotate_left
      ·
       simp only [Act.put, List.setIfInBounds_toArray, List.set_cons_zero, List.set_cons_succ, i64_w, i32_w]; rfl
      refine pure_ (i := 11) (N := some 41) (v := ?_) (a' := ?_) #[Y',Y',Y',Y',Y',Y',Y',Y',Y',Y',Y',Y',Z',Z',Z',Z',Z',Z',Z',Z',Z',Z',Z',Z',Z',Z',Z',Z',Z',Z',Z',Z',Z'] rfl rfl (any_of HT_.out (by kernel_rfl)) (fun _ _ _ h => h) (Or.inl ⟨by rfl, ?_⟩) ?_ ?_; rotate_left
      ·
       intro w'
       go_simp
       with_reducible rfl
      rotate_left
      ·
       simp only [Act.put, List.setIfInBounds_toArray, List.set_cons_zero, List.set_cons_succ, i64_w, i32_w]; rfl
      refine pure_ (i := 12) (N := some 42) (v := ?_) (a' := ?_) #[Y',Y',Y',Y',Y',Y',Y',Y',Y',Y',Y',Y',Y',Z',Z',Z',Z',Z',Z',Z',Z',Z',Z',Z',Z',Z',Z',Z',Z',Z',Z',Z',Z'] rfl rfl (any_of HT_.out (by kernel_rfl)) (fun _ _ _ h => h) (Or.inl ⟨by rfl, ?_⟩) ?_ ?_; rotate_left
      ·
       intro w'
       go_simp
       with_reducible rfl
      rotate_left
      ·
       simp only [Act.put, List.setIfInBounds_toArray, List.set_cons_zero, List.set_cons_succ, i64_w, i32_w]; rfl
      refine pure_ (i := 13) (N := some 43) (v := ?_) (a' := ?_) #[Y',Y',Y',Y',Y',Y',Y',Y',Y',Y',Y',Y',Y',Y',Z',Z',Z',Z',Z',Z',Z',Z',Z',Z',Z',Z',Z',Z',Z',Z',Z',Z',Z'] rfl rfl (any_of HT_.out (by kernel_rfl)) (fun _ _ _ h => h) (Or.inl ⟨by rfl, ?_⟩) ?_ ?_; rotate_left
      ·
       intro w'
       go_simp
       with_reducible rfl
      rotate_left
      ·
       simp only [Act.put, List.setIfInBounds_toArray, List.set_cons_zero, List.set_cons_succ, i64_w, i32_w]; rfl
      refine pure_ (i := 14) (N := some 44) (v := ?_) (a' := ?_) #[Y',Y',Y',Y',Y',Y',Y',Y',Y',Y',Y',Y',Y',Y',Y',Z',Z',Z',Z',Z',Z',Z',Z',Z',Z',Z',Z',Z',Z',Z',Z',Z',Z'] rfl rfl (any_of HT_.out (by kernel_rfl)) (fun _ _ _ h => h) (Or.inl ⟨by rfl, ?_⟩) ?_ ?_; rotate_left
      ·
       intro w'
       go_simp
       with_reducible rfl
      rotate_left
      ·
       simp only [Act.put, List.setIfInBounds_toArray, List.set_cons_zero, List.set_cons_succ, i64_w, i32_w]; rfl
      refine pure_ (i := 15) (N := some 45) (v := ?_) (a' := ?_) #[Y',Y',Y',Y',Y',Y',Y',Y',Y',Y',Y',Y',Y',Y',Y',Y',Z',Z',Z',Z',Z',Z',Z',Z',Z',Z',Z',Z',Z',Z',Z',Z',Z'] rfl rfl (any_of HT_.out (by kernel_rfl)) (fun _ _ _ h => h) (Or.inl ⟨by rfl, ?_⟩) ?_ ?_; rotate_left
      ·
       intro w'
       go_simp
       with_reducible rfl
      rotate_left
      ·
       simp only [Act.put, List.setIfInBounds_toArray, List.set_cons_zero, List.set_cons_succ, i64_w, i32_w]; rfl
      refine pure_ (i := 17) (N := some 47) (v := ?_) (a' := ?_) #[Y',Y',Y',Y',Y',Y',Y',Y',Y',Y',Y',Y',Y',Y',Y',Y',Z',Y',Z',Z',Z',Z',Z',Z',Z',Z',Z',Z',Z',Z',Z',Z',Z'] rfl rfl (any_of HT_.out (by kernel_rfl)) (fun _ _ _ h => h) (Or.inl ⟨by rfl, ?_⟩) ?_ ?_; rotate_left
      ·
       intro w'
       go_simp
       with_reducible rfl
      rotate_left
      ·
       simp only [Act.put, List.setIfInBounds_toArray, List.set_cons_zero, List.set_cons_succ, i64_w, i32_w]; rfl
      refine pure_ (i := 18) (N := some 48) (v := ?_) (a' := ?_) #[Y',Y',Y',Y',Y',Y',Y',Y',Y',Y',Y',Y',Y',Y',Y',Y',Z',Y',Y',Z',Z',Z',Z',Z',Z',Z',Z',Z',Z',Z',Z',Z',Z'] rfl rfl (any_of HT_.out (by kernel_rfl)) (fun _ _ _ h => h) (Or.inl ⟨by rfl, ?_⟩) ?_ ?_; rotate_left
      ·
       intro w'
       go_simp
       with_reducible rfl
      rotate_left
      ·
       simp only [Act.put, List.setIfInBounds_toArray, List.set_cons_zero, List.set_cons_succ, i64_w, i32_w]; rfl
      refine take_ (i := 16) (N := some 46) (v := ?_) (a' := ?_) #[Y',Y',Y',Y',Y',Y',Y',Y',Y',Y',Y',Y',Y',Y',Y',Y',Y',Y',Y',Z',Z',Z',Z',Z',Z',Z',Z',Z',Z',Z',Z',Z',Z'] rfl rfl (take_ofW HT_.out HW_.out (by kernel_rfl)) (fun _ _ _ h => h) (Or.inl ⟨by rfl, ?_⟩) hHeld ?_ ?_; rotate_left
      ·
       rintro w' ⟨s0, s1, s2, s3, s4, s5, s6, s7⟩
       go_simp
       with_reducible rfl
      rotate_left
      ·
       simp only [Act.put, List.setIfInBounds_toArray, List.set_cons_zero, List.set_cons_succ, i64_w, i32_w]; rfl
      refine take_ (i := 19) (N := some 49) (v := ?_) (a' := ?_) #[Y',Y',Y',Y',Y',Y',Y',Y',Y',Y',Y',Y',Y',Y',Y',Y',Y',Y',Y',Y',Z',Z',Z',Z',Z',Z',Z',Z',Z',Z',Z',Z',Z'] rfl rfl (take_ofW HT_.out HW_.out (by kernel_rfl)) (fun _ _ _ h => h) (Or.inl ⟨by rfl, ?_⟩) hHeld ?_ ?_; rotate_left
      ·
       rintro w' ⟨s0, s1, s2, s3, s4, s5, s6, s7⟩
       go_simp
       with_reducible rfl
      rotate_left
      ·
       simp only [Act.put, List.setIfInBounds_toArray, List.set_cons_zero, List.set_cons_succ, i64_w, i32_w]; rfl
      refine pure_ (i := 20) (N := some 50) (v := ?_) (a' := ?_) #[Y',Y',Y',Y',Y',Y',Y',Y',Y',Y',Y',Y',Y',Y',Y',Y',Y',Y',Y',Y',Y',Z',Z',Z',Z',Z',Z',Z',Z',Z',Z',Z',Z'] rfl rfl (any_of HT_.out (by kernel_rfl)) (fun _ _ _ h => h) (Or.inl ⟨by rfl, ?_⟩) ?_ ?_; rotate_left
      ·
       intro w'
       go_simp
       with_reducible rfl
      rotate_left
      ·
       simp only [Act.put, List.setIfInBounds_toArray, List.set_cons_zero, List.set_cons_succ, i64_w, i32_w]; rfl
      refine pure_ (i := 21) (N := some 51) (v := ?_) (a' := ?_) #[Y',Y',Y',Y',Y',Y',Y',Y',Y',Y',Y',Y',Y',Y',Y',Y',Y',Y',Y',Y',Y',Y',Z',Z',Z',Z',Z',Z',Z',Z',Z',Z',Z'] rfl rfl (any_of HT_.out (by kernel_rfl)) (fun _ _ _ h => h) (Or.inl ⟨by rfl, ?_⟩) ?_ ?_; rotate_left
      ·
       intro w'
       go_simp
       with_reducible rfl
      rotate_left
      ·
       simp only [Act.put, List.setIfInBounds_toArray, List.set_cons_zero, List.set_cons_succ, i64_w, i32_w]; rfl
      refine pure_ (i := 22) (N := some 52) (v := ?_) (a' := ?_) #[Y',Y',Y',Y',Y',Y',Y',Y',Y',Y',Y',Y',Y',Y',Y',Y',Y',Y',Y',Y',Y',Y',Y',Z',Z',Z',Z',Z',Z',Z',Z',Z',Z'] rfl rfl (any_of HT_.out (by kernel_rfl)) (fun _ _ _ h => h) (Or.inl ⟨by rfl, ?_⟩) ?_ ?_; rotate_left
      ·
       intro w'
       go_simp
       with_reducible rfl
      rotate_left
      ·
       simp only [Act.put, List.setIfInBounds_toArray, List.set_cons_zero, List.set_cons_succ, i64_w, i32_w]; rfl
      refine pure_ (i := 23) (N := some 53) (v := ?_) (a' := ?_) #[Y',Y',Y',Y',Y',Y',Y',Y',Y',Y',Y',Y',Y',Y',Y',Y',Y',Y',Y',Y',Y',Y',Y',Y',Z',Z',Z',Z',Z',Z',Z',Z',Z'] rfl rfl (any_of HT_.out (by kernel_rfl)) (fun _ _ _ h => h) (Or.inl ⟨by rfl, ?_⟩) ?_ ?_; rotate_left
      ·
       intro w'
       go_simp
       with_reducible rfl
      rotate_left
      ·
       simp only [Act.put, List.setIfInBounds_toArray, List.set_cons_zero, List.set_cons_succ, i64_w, i32_w]; rfl
      refine pure_ (i := 24) (N := some 54) (v := ?_) (a' := ?_) #[Y',Y',Y',Y',Y',Y',Y',Y',Y',Y',Y',Y',Y',Y',Y',Y',Y',Y',Y',Y',Y',Y',Y',Y',Y',Z',Z',Z',Z',Z',Z',Z',Z'] rfl rfl (any_of HT_.out (by kernel_rfl)) (fun _ _ _ h => h) (Or.inl ⟨by rfl, ?_⟩) ?_ ?_; rotate_left
      ·
       intro w'
       go_simp
       with_reducible rfl
      rotate_left
      ·
       simp only [Act.put, List.setIfInBounds_toArray, List.set_cons_zero, List.set_cons_succ, i64_w, i32_w]; rfl
      refine pure_ (i := 27) (N := some 57) (v := ?_) (a' := ?_) #[Y',Y',Y',Y',Y',Y',Y',Y',Y',Y',Y',Y',Y',Y',Y',Y',Y',Y',Y',Y',Y',Y',Y',Y',Y',Z',Z',Y',Z',Z',Z',Z',Z'] rfl rfl (any_of HT_.out (by kernel_rfl)) (fun _ _ _ h => h) (Or.inl ⟨by rfl, ?_⟩) ?_ ?_; rotate_left
      ·
       intro w'
       go_simp
       with_reducible rfl
      rotate_left
      ·
       simp only [Act.put, List.setIfInBounds_toArray, List.set_cons_zero, List.set_cons_succ, i64_w, i32_w]; rfl
      refine pure_ (i := 28) (N := some 58) (v := ?_) (a' := ?_) #[Y',Y',Y',Y',Y',Y',Y',Y',Y',Y',Y',Y',Y',Y',Y',Y',Y',Y',Y',Y',Y',Y',Y',Y',Y',Z',Z',Y',Y',Z',Z',Z',Z'] rfl rfl (any_of HT_.out (by kernel_rfl)) (fun _ _ _ h => h) (Or.inl ⟨by rfl, ?_⟩) ?_ ?_; rotate_left
      ·
       intro w'
       go_simp
       with_reducible rfl
      rotate_left
      ·
       simp only [Act.put, List.setIfInBounds_toArray, List.set_cons_zero, List.set_cons_succ, i64_w, i32_w]; rfl
      refine take_ (i := 25) (N := some 55) (v := ?_) (a' := ?_) #[Y',Y',Y',Y',Y',Y',Y',Y',Y',Y',Y',Y',Y',Y',Y',Y',Y',Y',Y',Y',Y',Y',Y',Y',Y',Y',Z',Y',Y',Z',Z',Z',Z'] rfl rfl (take_ofW HT_.out HW_.out (by kernel_rfl)) (fun _ _ _ h => h) (Or.inl ⟨by rfl, ?_⟩) hHeld ?_ ?_; rotate_left
      ·
       rintro w' ⟨s0, s1, s2, s3, s4, s5, s6, s7⟩
       go_simp
       with_reducible rfl
      rotate_left
      ·
       simp only [Act.put, List.setIfInBounds_toArray, List.set_cons_zero, List.set_cons_succ, i64_w, i32_w]; rfl
      refine pure_ (i := 26) (N := some 56) (v := ?_) (a' := ?_) #[Y',Y',Y',Y',Y',Y',Y',Y',Y',Y',Y',Y',Y',Y',Y',Y',Y',Y',Y',Y',Y',Y',Y',Y',Y',Y',Y',Y',Y',Z',Z',Z',Z'] rfl rfl (any_of HT_.out (by kernel_rfl)) (fun _ _ _ h => h) (Or.inl ⟨by rfl, ?_⟩) ?_ ?_; rotate_left
      ·
       intro w'
       go_simp
       with_reducible rfl
      rotate_left
      ·
       simp only [Act.put, List.setIfInBounds_toArray, List.set_cons_zero, List.set_cons_succ, i64_w, i32_w]; rfl
      refine take_ (i := 29) (N := some 59) (v := ?_) (a' := ?_) #[Y',Y',Y',Y',Y',Y',Y',Y',Y',Y',Y',Y',Y',Y',Y',Y',Y',Y',Y',Y',Y',Y',Y',Y',Y',Y',Y',Y',Y',Y',Z',Z',Z'] rfl rfl (take_ofW HT_.out HW_.out (by kernel_rfl)) (fun _ _ _ h => h) (Or.inl ⟨by rfl, ?_⟩) hHeld ?_ ?_; rotate_left
      ·
       rintro w' ⟨s0, s1, s2, s3, s4, s5, s6, s7⟩
       go_simp
       with_reducible rfl
      rotate_left
      ·
       simp only [Act.put, List.setIfInBounds_toArray, List.set_cons_zero, List.set_cons_succ, i64_w, i32_w]; rfl
      refine pure_ (i := 30) (N := some 60) (v := ?_) (a' := ?_) #[Y',Y',Y',Y',Y',Y',Y',Y',Y',Y',Y',Y',Y',Y',Y',Y',Y',Y',Y',Y',Y',Y',Y',Y',Y',Y',Y',Y',Y',Y',Y',Z',Z'] rfl rfl (any_of HT_.out (by kernel_rfl)) (fun _ _ _ h => h) (Or.inl ⟨by rfl, ?_⟩) ?_ ?_; rotate_left
      ·
       intro w'
       go_simp
       with_reducible rfl
      rotate_left
      ·
       simp only [Act.put, List.setIfInBounds_toArray, List.set_cons_zero, List.set_cons_succ, i64_w, i32_w]; rfl
      refine pure_ (i := 31) (N := some 61) (v := ?_) (a' := ?_) #[Y',Y',Y',Y',Y',Y',Y',Y',Y',Y',Y',Y',Y',Y',Y',Y',Y',Y',Y',Y',Y',Y',Y',Y',Y',Y',Y',Y',Y',Y',Y',Y',Z'] rfl rfl (any_of HT_.out (by kernel_rfl)) (fun _ _ _ h => h) (Or.inl ⟨by rfl, ?_⟩) ?_ ?_; rotate_left
      ·
       intro w'
       go_simp
       with_reducible rfl
      rotate_left
      ·
       simp only [Act.put, List.setIfInBounds_toArray, List.set_cons_zero, List.set_cons_succ, i64_w, i32_w]; rfl
      refine pure_ (i := 32) (N := some 62) (v := ?_) (a' := ?_) #[Y',Y',Y',Y',Y',Y',Y',Y',Y',Y',Y',Y',Y',Y',Y',Y',Y',Y',Y',Y',Y',Y',Y',Y',Y',Y',Y',Y',Y',Y',Y',Y',Y'] rfl rfl (any_of HT_.out (by kernel_rfl)) (fun _ _ _ h => h) (Or.inl ⟨by rfl, ?_⟩) ?_ ?_; rotate_left
      ·
       intro w'
       go_simp
       with_reducible rfl
      rotate_left
      ·
       simp only [Act.put, List.setIfInBounds_toArray, List.set_cons_zero, List.set_cons_succ, i64_w, i32_w]; rfl
      refine done_ (done_of HT_.out (by kernel_rfl)) ?_
      try go_wp2
      go_meet
      case rel => exact ⟨_, (((t329.length : Int) != (t335.length : Int))), eq_b, H', ⟨by first | omega | exact Nat.le_refl _⟩, ⟨R_a HO318.out⟩, ⟨by (with_reducible repeat (first | apply Kd.R_alloc | apply Kd.R_drewN | apply Kd.R_drew)); exact Kd.R_mono HO322.out (fun _ hk => trivial)⟩, ⟨R_a HO331.out⟩, ⟨R_a HO337.out⟩, ⟨blk_a⟩, ⟨blk_a⟩, ⟨blk_a⟩, ⟨below_a⟩⟩
     ·
      rw [if_neg c32] at H; exact absurd H (by simp)
    ·
     rw [if_neg c31] at H; exact absurd H (by simp)
   ·
    rw [if_neg c30] at H; exact absurd H (by simp)
  case rest =>
   clear HC9
   try clear c1
   try clear c2
   try clear p2
   try clear c3
   try clear c5
   try clear c9
   try clear c11
   try clear c17
   try clear c19
   try clear c20
   try clear c25
   try clear c26
   try clear c27
   try clear c30 c30b0 c30b1
   try clear c31 c31b0 c31b1
   try clear c32 c32b0 c32b1
   try clear hcz14_0 hcz14_1
   try clear hcz21_0 hcz21_1 hcz21_2
   try clear hcz27_0 hcz27_1 hcz27_2
   try clear hfz14_0 hfz14_1
   try clear hfz21_0 hfz21_1 hfz21_2
   try clear hfz27_0 hfz27_1 hfz27_2
   obtain ⟨kq, x62_8, rfl, HA, HJ8, HO_3, HO_324001, HO_334001, HO_340001, BK323, BK333, BK339, HB⟩ := hcut
   cases kq with
   | zero => exact absurd HA.out (by simp [laws_FnNames.j0])
   | succ kj8 =>
    have H := HA.out; clear HA; simp only [laws_FnNames.j0] at H
    by_cases c36 : x62_8 = true
    ·
     subst c36; have H1 : (none) = some r := by rw [if_pos rfl] at H; exact H
     clear H; have H := H1; clear H1; exact absurd H (by simp)
    ·
     replace c36 := Bool.eq_false_iff.mpr c36; subst c36; have H1 : (laws_FnNames.l0 kj8 t316 0 t319 t320 t328 t329 t332 t334 t335 t338) = some r := by rw [if_neg (show ¬ (false = true) by decide)] at H; exact H
     clear H; have H := H1; clear H1; have H' := Aside0.mk H; clear H
     go_wp2
     go_loopg [9] kj8 (fun kq v9 w' => ∃ (x9_2 : Int), v9 = .int .i64 x9_2 ∧ Aside0 (laws_FnNames.l0 kq t316 x9_2 t319 t320 t328 t329 t332 t334 t335 t338 = some r) ∧ Aside0 (kq ≤ kj8) ∧ Aside0 (Kd.R Kd.string 9 w' w.heap.size (fun k_ => some k_ ≠ ((.slice Ao22 t329.length co22) : Value).ownBlock ∧ some k_ ≠ ((.slice Ao28 t335.length co28) : Value).ownBlock) (.slice Ao11 t316.length co11) t316) ∧ Aside0 (Kd.R (Kd.int .u8) 5 w' w.heap.size (fun _ => True) (.slice Ao15 t320.length co15) t320) ∧ Aside0 (Kd.R Kd.string 9 w' w.heap.size (fun k_ => some k_ ≠ ((.slice Ao11 t316.length co11) : Value).ownBlock ∧ some k_ ≠ ((.slice Ao28 t335.length co28) : Value).ownBlock) (.slice Ao22 t329.length co22) t329) ∧ Aside0 (Kd.R Kd.string 9 w' w.heap.size (fun k_ => some k_ ≠ ((.slice Ao11 t316.length co11) : Value).ownBlock ∧ some k_ ≠ ((.slice Ao22 t329.length co22) : Value).ownBlock) (.slice Ao28 t335.length co28) t335) ∧ Aside0 (w'.heap[gb323]? = some (.cells #[.int .i64 t319, (.slice Ao15 t320.length co15)] 26 (0, 0))) ∧ Aside0 (w'.heap[gb333]? = some (.cells #[.int .i64 t328, (.slice Ao22 t329.length co22), .int .i64 t332] 36 (0, 0))) ∧ Aside0 (w'.heap[gb339]? = some (.cells #[.int .i64 t334, (.slice Ao28 t335.length co28), .int .i64 t338] 36 (0, 0))) ∧ Aside0 (Below w.heap.size w w'))
     case atStart => exact ⟨(0), eq_b, H', ⟨Nat.le_refl _⟩, ⟨R_a HO_3.out⟩, ⟨R_a HO_324001.out⟩, ⟨R_a HO_334001.out⟩, ⟨R_a HO_340001.out⟩, ⟨blk_a⟩, ⟨blk_a⟩, ⟨blk_a⟩, ⟨below_a⟩⟩
     case round =>
      clear H'
      try clear c1
      try clear c2
      try clear p2 p2
      try clear c3
      try clear c5
      try clear c9
      try clear c11
      try clear c17
      try clear c19
      try clear c20
      try clear c25
      try clear c26
      try clear c27
      try clear c30 c30b0 c30b1
      try clear c31 c31b0 c31b1
      try clear c32 c32b0 c32b1
      try clear c36
      try clear hcz14_0 hcz14_1
      try clear hcz21_0 hcz21_1 hcz21_2
      try clear hcz27_0 hcz27_1 hcz27_2
      try clear hfz14_0 hfz14_1
      try clear hfz21_0 hfz21_1 hfz21_2
      try clear hfz27_0 hfz27_1 hfz27_2
      obtain ⟨x9_2, rfl, HA, HK2, HO_3, HO_324001, HO_334001, HO_340001, BK323, BK333, BK339, HB⟩ := hrel
      cases gk with
      | zero => exact absurd HA.out (by simp [laws_FnNames.l0])
      | succ k2 =>
       have H := HA.out; clear HA; simp only [laws_FnNames.l0] at H
       by_cases c37 : x9_2 < (t329.length : Int)
       ·
        rw [if_pos c37] at H; have c37b0 : decide (x9_2 < (t329.length : Int)) = true := decide_eq_true c37; clear c37
        by_cases c38 : 0 ≤ x9_2
        ·
         rw [if_pos c38] at H; have c38b0 : decide (0 ≤ x9_2) = true := decide_eq_true c38; clear c38
         by_cases c39 : x9_2 < (t335.length : Int)
         ·
          rw [if_pos c39] at H; have c39b0 : decide (x9_2 < (t335.length : Int)) = true := decide_eq_true c39; clear c39
          by_cases c40 : (rdOf ByteArray.empty t329 x9_2).toList = (rdOf ByteArray.empty t335 x9_2).toList
          ·
           rw [if_pos c40] at H; have c40b0 : ((rdOf ByteArray.empty t329 x9_2).toList == (rdOf ByteArray.empty t335 x9_2).toList) = true := beq_iff_eq.mpr c40; have c40b1 : ((rdOf ByteArray.empty t329 x9_2).toList != (rdOf ByteArray.empty t335 x9_2).toList) = false := bne_eq_false_iff_eq.mpr c40; clear c40; have H' := Aside0.mk H; clear H; have hnb41 := NB333_323.out; have hnc41 := NB323_333.out; have hnb42 := NB333_339.out; have hnc42 := NB339_333.out; obtain ⟨hcz43_0, hcz43_1, hcz43_2, hfz43_0, hfz43_1, hfz43_2⟩ := bc3_ BK333.out
           try go_wp2
           replace HO_3 := Aside0.mk (Kd.R_drew HO_3.out); replace HO_324001 := Aside0.mk (Kd.R_drew HO_324001.out); replace HO_334001 := Aside0.mk (Kd.R_drew HO_334001.out); replace HO_340001 := Aside0.mk (Kd.R_drew HO_340001.out); replace BK323 := Aside0.mk (blk_drew BK323.out); replace BK333 := Aside0.mk (blk_drew BK333.out); replace BK339 := Aside0.mk (blk_drew BK339.out); replace HB := Aside0.mk (below_drew1 HB.out); have p344 : 0 ≤ (x9_2 : Int) := of_decide_eq_true (by first | (with_reducible assumption) | assumption); have q344 : x9_2 < (t329.length : Int) := of_decide_eq_true (by first | (with_reducible assumption) | assumption); obtain ⟨ad344, e344, hx344_0⟩ := Kd.at_string (Kd.R_reads' HO_334001.out).2.2 x9_2 p344 q344
           cases e344
           replace p344 := eq_true p344; replace q344 := eq_true q344; have p345 : 0 ≤ (x9_2 : Int) := of_decide_eq_true (by first | (with_reducible assumption) | assumption); have q345 : x9_2 < (t335.length : Int) := of_decide_eq_true (by first | (with_reducible assumption) | assumption); obtain ⟨ad345, e345, hx345_0⟩ := Kd.at_string (Kd.R_reads' HO_340001.out).2.2 x9_2 p345 q345
           cases e345
           replace p345 := eq_true p345; replace q345 := eq_true q345; refine start_ (n := 13) (S := fun w' => w'.cell? ⟨gb333, 0, none⟩ = some (.int .i64 t328) ∧ w'.cell? ⟨gb333, 1, none⟩ = some (.slice (some ad344) t329.length co22) ∧ w'.cell? ⟨gb333, 2, none⟩ = some (.int .i64 t332) ∧ w'.cell? ⟨gb339, 0, none⟩ = some (.int .i64 t334) ∧ w'.cell? ⟨gb339, 1, none⟩ = some (.slice (some ad345) t335.length co28) ∧ w'.cell? ⟨gb339, 2, none⟩ = some (.int .i64 t338) ∧ w'.cell? (ad344.add (x9_2).toNat) = some (.string (rdOf ByteArray.empty t329 x9_2)) ∧ w'.cell? (ad345.add (x9_2).toNat) = some (.string (rdOf ByteArray.empty t335 x9_2))) (ds := []) #[Z',Z',Z',Z',Z',Z',Z',Z',Z',Z',Z',Z',Z'] (by kernel_rfl) rfl rfl ⟨(blk_cell BK333.out 0).trans rfl, (blk_cell BK333.out 1).trans rfl, (blk_cell BK333.out 2).trans rfl, (blk_cell BK339.out 0).trans rfl, (blk_cell BK339.out 1).trans rfl, (blk_cell BK339.out 2).trans rfl, hx344_0, hx345_0⟩ (fun hHeld => ?_); refine with_tabW laws_FnNames.tab13 laws_FnNames.bits13 (fun HT_ HW_ => ?_); generalize wr.drew = w44 at HO_3 HO_324001 HO_334001 HO_340001 BK323 BK333 BK339 HB hx344_0 hx345_0 hHeld ⊢; refine pure_ (i := 0) (N := some 71) (v := ?_) (a' := ?_) #[Y',Z',Z',Z',Z',Z',Z',Z',Z',Z',Z',Z',Z'] rfl rfl (any_of HT_.out (by kernel_rfl)) (fun _ _ _ h => h) (Or.inl ⟨by rfl, ?_⟩) ?_ ?_; rotate_left
           ·
            intro w'
            go_simp
            with_reducible rfl
           rotate_left
           ·
            simp only [Act.put, List.setIfInBounds_toArray, List.set_cons_zero, List.set_cons_succ, i64_w, i32_w]; rfl
           refine pure_ (i := 1) (N := some 72) (v := ?_) (a' := ?_) #[Y',Y',Z',Z',Z',Z',Z',Z',Z',Z',Z',Z',Z'] rfl rfl (any_of HT_.out (by kernel_rfl)) (fun _ _ _ h => h) (Or.inl ⟨by rfl, ?_⟩) ?_ ?_; rotate_left
           ·
            intro w'
            go_simp
            with_reducible rfl
           rotate_left
           ·
            simp only [Act.put, List.setIfInBounds_toArray, List.set_cons_zero, List.set_cons_succ, i64_w, i32_w]; rfl
           refine pure_ (i := 3) (N := some 74) (v := ?_) (a' := ?_) #[Y',Y',Z',Y',Z',Z',Z',Z',Z',Z',Z',Z',Z'] rfl rfl (any_of HT_.out (by kernel_rfl)) (fun _ _ _ h => h) (Or.inl ⟨by rfl, ?_⟩) ?_ ?_; rotate_left
           ·
            intro w'
            go_simp
            with_reducible rfl
           rotate_left
           ·
            simp only [Act.put, List.setIfInBounds_toArray, List.set_cons_zero, List.set_cons_succ, i64_w, i32_w]; rfl
           refine pure_ (i := 6) (N := some 77) (v := ?_) (a' := ?_) #[Y',Y',Z',Y',Z',Z',Y',Z',Z',Z',Z',Z',Z'] rfl rfl (any_of HT_.out (by kernel_rfl)) (fun _ _ _ h => h) (Or.inl ⟨by rfl, ?_⟩) ?_ ?_; rotate_left
           ·
            intro w'
            go_simp
            with_reducible rfl
           rotate_left
           ·
            simp only [Act.put, List.setIfInBounds_toArray, List.set_cons_zero, List.set_cons_succ, i64_w, i32_w]; rfl
           refine pure_ (i := 7) (N := some 78) (v := ?_) (a' := ?_) #[Y',Y',Z',Y',Z',Z',Y',Y',Z',Z',Z',Z',Z'] rfl rfl (any_of HT_.out (by kernel_rfl)) (fun _ _ _ h => h) (Or.inl ⟨by rfl, ?_⟩) ?_ ?_; rotate_left
           ·
            intro w'
            go_simp
            with_reducible rfl
           rotate_left
           ·
            simp only [Act.put, List.setIfInBounds_toArray, List.set_cons_zero, List.set_cons_succ, i64_w, i32_w]; rfl
           refine pure_ (i := 9) (N := some 80) (v := ?_) (a' := ?_) #[Y',Y',Z',Y',Z',Z',Y',Y',Z',Y',Z',Z',Z'] rfl rfl (any_of HT_.out (by kernel_rfl)) (fun _ _ _ h => h) (Or.inl ⟨by rfl, ?_⟩) ?_ ?_; rotate_left
           ·
            intro w'
            go_simp
            with_reducible rfl
           rotate_left
           ·
            simp only [Act.put, List.setIfInBounds_toArray, List.set_cons_zero, List.set_cons_succ, i64_w, i32_w]; rfl
           refine take_ (i := 2) (N := some 73) (v := ?_) (a' := ?_) #[Y',Y',Y',Y',Z',Z',Y',Y',Z',Y',Z',Z',Z'] rfl rfl (take_ofW HT_.out HW_.out (by kernel_rfl)) (fun _ _ _ h => h) (Or.inl ⟨by rfl, ?_⟩) hHeld ?_ ?_; rotate_left
           ·
            rintro w' ⟨s0, s1, s2, s3, s4, s5, s6, s7⟩
            go_simp
            with_reducible rfl
           rotate_left
           ·
            simp only [Act.put, List.setIfInBounds_toArray, List.set_cons_zero, List.set_cons_succ, i64_w, i32_w]; rfl
           refine pure_ (i := 4) (N := some 75) (v := ?_) (a' := ?_) #[Y',Y',Y',Y',Y',Z',Y',Y',Z',Y',Z',Z',Z'] rfl rfl (any_of HT_.out (by kernel_rfl)) (fun _ _ _ h => h) (Or.inl ⟨by rfl, ?_⟩) ?_ ?_; rotate_left
           ·
            intro w'
            go_simp
            with_reducible rfl
           rotate_left
           ·
            simp only [Act.put, List.setIfInBounds_toArray, List.set_cons_zero, List.set_cons_succ, i64_w, i32_w]; rfl
           refine take_ (i := 5) (N := some 76) (v := ?_) (a' := ?_) #[Y',Y',Y',Y',Y',Y',Y',Y',Z',Y',Z',Z',Z'] rfl rfl (take_ofW HT_.out HW_.out (by kernel_rfl)) (fun _ _ _ h => h) (Or.inl ⟨by rfl, ?_⟩) hHeld ?_ ?_; rotate_left
           ·
            rintro w' ⟨s0, s1, s2, s3, s4, s5, s6, s7⟩
            go_simp
            with_reducible rfl
           rotate_left
           ·
            simp only [Act.put, List.setIfInBounds_toArray, List.set_cons_zero, List.set_cons_succ, i64_w, i32_w]; rfl
           refine take_ (i := 8) (N := some 79) (v := ?_) (a' := ?_) #[Y',Y',Y',Y',Y',Y',Y',Y',Y',Y',Z',Z',Z'] rfl rfl (take_ofW HT_.out HW_.out (by kernel_rfl)) (fun _ _ _ h => h) (Or.inl ⟨by rfl, ?_⟩) hHeld ?_ ?_; rotate_left
           ·
            rintro w' ⟨s0, s1, s2, s3, s4, s5, s6, s7⟩
            go_simp
            with_reducible rfl
           rotate_left
           ·
            simp only [Act.put, List.setIfInBounds_toArray, List.set_cons_zero, List.set_cons_succ, i64_w, i32_w]; rfl
           refine pure_ (i := 10) (N := some 81) (v := ?_) (a' := ?_) #[Y',Y',Y',Y',Y',Y',Y',Y',Y',Y',Y',Z',Z'] rfl rfl (any_of HT_.out (by kernel_rfl)) (fun _ _ _ h => h) (Or.inl ⟨by rfl, ?_⟩) ?_ ?_; rotate_left
           ·
            intro w'
            go_simp
            with_reducible rfl
           rotate_left
           ·
            simp only [Act.put, List.setIfInBounds_toArray, List.set_cons_zero, List.set_cons_succ, i64_w, i32_w]; rfl
           refine take_ (i := 11) (N := some 82) (v := ?_) (a' := ?_) #[Y',Y',Y',Y',Y',Y',Y',Y',Y',Y',Y',Y',Z'] rfl rfl (take_ofW HT_.out HW_.out (by kernel_rfl)) (fun _ _ _ h => h) (Or.inl ⟨by rfl, ?_⟩) hHeld ?_ ?_; rotate_left
           ·
            rintro w' ⟨s0, s1, s2, s3, s4, s5, s6, s7⟩
            go_simp
            with_reducible rfl
           rotate_left
           ·
            simp only [Act.put, List.setIfInBounds_toArray, List.set_cons_zero, List.set_cons_succ, i64_w, i32_w]; rfl
           refine pure_ (i := 12) (N := some 83) (v := ?_) (a' := ?_) #[Y',Y',Y',Y',Y',Y',Y',Y',Y',Y',Y',Y',Y'] rfl rfl (any_of HT_.out (by kernel_rfl)) (fun _ _ _ h => h) (Or.inl ⟨by rfl, ?_⟩) ?_ ?_; rotate_left
           ·
            intro w'
            go_simp
            with_reducible rfl
           rotate_left
           ·
            simp only [Act.put, List.setIfInBounds_toArray, List.set_cons_zero, List.set_cons_succ, i64_w, i32_w]; rfl
           refine done_ (done_of HT_.out (by kernel_rfl)) ?_
           try go_wp2
           go_roundg k2
           case measure => have := HJ8.out; have := HK2.out; omega
           case rel => exact ⟨(wrap64 (x9_2 + 1)), eq_b, H', ⟨by have := HJ8.out; have := HK2.out; omega⟩, ⟨R_a HO_3.out⟩, ⟨R_a HO_324001.out⟩, ⟨R_a HO_334001.out⟩, ⟨R_a HO_340001.out⟩, ⟨blk_a⟩, ⟨blk_a⟩, ⟨blk_a⟩, ⟨below_a⟩⟩
          ·
           rw [if_neg c40] at H; exact absurd H (by simp)
         ·
          rw [if_neg c39] at H; exact absurd H (by simp)
        ·
         rw [if_neg c38] at H; exact absurd H (by simp)
       ·
        rw [if_neg c37] at H; have c37b0 : decide (x9_2 < (t329.length : Int)) = false := decide_eq_false c37; clear c37; have HC45 := Aside0.mk H; clear H; have hnb46 := NB333_323.out; have hnc46 := NB323_333.out; have hnb47 := NB333_339.out; have hnc47 := NB339_333.out; obtain ⟨hcz48_0, hcz48_1, hcz48_2, hfz48_0, hfz48_1, hfz48_2⟩ := bc3_ BK333.out
        go_upto_region 15 with (fail)
        go_cut [94] (fun v94 wc => ∃ (kq : Nat) (x94_44 : Bool), v94 = .bool x94_44 ∧ Aside0 (laws_FnNames.j2 kq t316 x94_44 t319 t320 = some r) ∧ Aside0 (kq ≤ k2) ∧ Aside0 (Kd.R Kd.string 9 wc w.heap.size (fun k_ => some k_ ≠ ((.slice Ao22 t329.length co22) : Value).ownBlock ∧ some k_ ≠ ((.slice Ao28 t335.length co28) : Value).ownBlock) (.slice Ao11 t316.length co11) t316) ∧ Aside0 (Kd.R (Kd.int .u8) 5 wc w.heap.size (fun _ => True) (.slice Ao15 t320.length co15) t320) ∧ Aside0 (Kd.R Kd.string 9 wc w.heap.size (fun k_ => some k_ ≠ ((.slice Ao11 t316.length co11) : Value).ownBlock ∧ some k_ ≠ ((.slice Ao28 t335.length co28) : Value).ownBlock) (.slice Ao22 t329.length co22) t329) ∧ Aside0 (Kd.R Kd.string 9 wc w.heap.size (fun k_ => some k_ ≠ ((.slice Ao11 t316.length co11) : Value).ownBlock ∧ some k_ ≠ ((.slice Ao22 t329.length co22) : Value).ownBlock) (.slice Ao28 t335.length co28) t335) ∧ Aside0 (wc.heap[gb323]? = some (.cells #[.int .i64 t319, (.slice Ao15 t320.length co15)] 26 (0, 0))) ∧ Aside0 (wc.heap[gb333]? = some (.cells #[.int .i64 t328, (.slice Ao22 t329.length co22), .int .i64 t332] 36 (0, 0))) ∧ Aside0 (wc.heap[gb339]? = some (.cells #[.int .i64 t334, (.slice Ao28 t335.length co28), .int .i64 t338] 36 (0, 0))) ∧ Aside0 (Below w.heap.size w wc))
        case first =>
         have H := HC45.out; clear HC45
         by_cases c49 : t328 = 0
         ·
          rw [if_pos c49] at H; have c49b0 : (t328 == 0) = true := beq_iff_eq.mpr c49; have c49b1 : (t328 != 0) = false := bne_eq_false_iff_eq.mpr c49; clear c49; (first | rw [c49b0] | (simp only [i64_w, i32_w]; rw [c49b0]) | skip); replace H := Option.bind_eq_some_iff.mp H; obtain ⟨⟨t346, t347⟩, A500, H⟩ := H; replace H : (laws_FnNames.j2 k2 t316 (t346 != 0) t319 t320) = some r := H; have A50 := Aside0.mk A500; clear A500; have H' := Aside0.mk H; clear H; have hnb51 := NB333_323.out; have hnc51 := NB323_333.out; have hnb52 := NB333_339.out; have hnc52 := NB339_333.out; obtain ⟨hcz53_0, hcz53_1, hcz53_2, hfz53_0, hfz53_1, hfz53_2⟩ := bc3_ BK333.out
          go_wp2_with (first | (go_at_call 11; (with_reducible refine (impl_EncodeName.calls k2 _ _ t329 t346 t347 _ ?side1 ?side2 A50.out).mono ?_); (case side1 => repeat (first | exact (Kd.R_reads' HO_334001.out).2.2 | (with_reducible refine Kd.C_alloc ?_ _) | (with_reducible refine Kd.C_drewN ?_ _) | (with_reducible refine Kd.C_drew ?_))); (case side2 => exact (Kd.R_reads' HO_334001.out).2.1); rintro e w54 ⟨v348, rfl, ho0, hb⟩; replace HO_3 := Aside0.mk (Kd.R_below (R_a HO_3.out) hb); have n1_ := Aside0.mk (Kd.R_elder' (R_a HO_324001.out) (Kd.R_base ho0) hb); replace HO_334001 := Aside0.mk (Kd.R_below (R_a HO_334001.out) hb); replace HO_340001 := Aside0.mk (Kd.R_below (R_a HO_340001.out) hb); have HO349 := Aside0.mk (Kd.R_lower (Kd.R_new' ho0 (Kd.R_lt (R_a HO_324001.out))) (below_size below_a)); replace BK323 := Aside0.mk (blk_below (g := gb323) blk_c hb); replace BK333 := Aside0.mk (blk_below (g := gb333) blk_c hb); replace BK339 := Aside0.mk (blk_below (g := gb339) blk_c hb); replace HB := Aside0.mk (below_step below_a hb); replace HO_324001 := n1_; clear n1_; (try clear hb); (try clear hb2); (try clear hk); (try clear hi); (try clear ho0)))
          go_meet
          case rel => exact ⟨_, ((t346 != 0)), eq_b, H', ⟨by have := HJ8.out; have := HK2.out; first | omega | exact Nat.le_refl _⟩, ⟨R_a HO_3.out⟩, ⟨by (with_reducible repeat (first | apply Kd.R_alloc | apply Kd.R_drewN | apply Kd.R_drew)); exact Kd.R_mono HO_324001.out (fun _ hk => trivial)⟩, ⟨R_a HO_334001.out⟩, ⟨R_a HO_340001.out⟩, ⟨blk_a⟩, ⟨blk_a⟩, ⟨blk_a⟩, ⟨below_a⟩⟩
         ·
          rw [if_neg c49] at H; have c49b0 : (t328 == 0) = false := beq_eq_false_iff_ne.mpr c49; have c49b1 : (t328 != 0) = true := bne_iff_ne.mpr c49; (first | rw [c49b0] | (simp only [i64_w, i32_w]; rw [c49b0]) | skip); have H' := Aside0.mk H; clear H; have hnb55 := NB333_323.out; have hnc55 := NB323_333.out; have hnb56 := NB333_339.out; have hnc56 := NB339_333.out; obtain ⟨hcz57_0, hcz57_1, hcz57_2, hfz57_0, hfz57_1, hfz57_2⟩ := bc3_ BK333.out
          go_wp2
          go_meet
          case rel => exact ⟨_, (false), eq_b, H', ⟨by have := HJ8.out; have := HK2.out; first | omega | exact Nat.le_refl _⟩, ⟨R_a HO_3.out⟩, ⟨R_a HO_324001.out⟩, ⟨R_a HO_334001.out⟩, ⟨R_a HO_340001.out⟩, ⟨blk_a⟩, ⟨blk_a⟩, ⟨blk_a⟩, ⟨below_a⟩⟩
        case rest =>
         clear HC45
         try clear c1
         try clear c2
         try clear p2 p2
         try clear c3
         try clear p3
         try clear q3
         try clear hx3
         try clear c4
         try clear c5
         try clear p6
         try clear c9
         try clear c11
         try clear c17
         try clear c19
         try clear c20
         try clear c25
         try clear c26
         try clear c27
         try clear c30 c30b0 c30b1
         try clear c31 c31b0 c31b1
         try clear c32 c32b0 c32b1
         try clear p34
         try clear q34
         try clear hx34
         try clear c36
         try clear c37 c37b0
         try clear c38 c38b0
         try clear c39 c39b0
         try clear c40 c40b0 c40b1
         try clear c41
         try clear c42
         try clear c46
         try clear c47
         try clear c49 c49b0 c49b1
         try clear c51
         try clear c52
         try clear c55
         try clear c56
         try clear hcz14_0 hcz14_1
         try clear hcz21_0 hcz21_1 hcz21_2
         try clear hcz27_0 hcz27_1 hcz27_2
         try clear hcz43_0 hcz43_1 hcz43_2
         try clear hcz48_0 hcz48_1 hcz48_2
         try clear hcz53_0 hcz53_1 hcz53_2
         try clear hcz57_0 hcz57_1 hcz57_2
         try clear hfz14_0 hfz14_1
         try clear hfz21_0 hfz21_1 hfz21_2
         try clear hfz27_0 hfz27_1 hfz27_2
         try clear hfz43_0 hfz43_1 hfz43_2
         try clear hfz48_0 hfz48_1 hfz48_2
         try clear hfz53_0 hfz53_1 hfz53_2
         try clear hfz57_0 hfz57_1 hfz57_2
         try clear hx344_0
         try clear hx345_0
         try clear p344
         try clear p345
         try clear q344
         try clear q345
         obtain ⟨kq, x94_44, rfl, HA, HJ44, HO_3, HO_324001, HO_334001, HO_340001, BK323, BK333, BK339, HB⟩ := hcut
         cases kq with
         | zero => exact absurd HA.out (by simp [laws_FnNames.j2])
         | succ kj44 =>
          have H := HA.out; clear HA; simp only [laws_FnNames.j2] at H
          by_cases c58 : x94_44 = true
          ·
           subst c58; have H1 : (none) = some r := by rw [if_pos rfl] at H; exact H
           clear H; have H := H1; clear H1; exact absurd H (by simp)
          ·
           replace c58 := Bool.eq_false_iff.mpr c58; subst c58; have H1 : (if t319 = 0 then ((impl_ReadName.f kj44 t320 0).bind fun bt350 => ((some (([] : List Int) : List Int)).bind fun y356 => (if y356.length + t320.length < 140737488355328 then ((some (y356 ++ t320 : List Int)).bind fun y359 => ((some (([192, 0] : List Int) : List Int)).bind fun y362 => (if y359.length + y362.length < 140737488355328 then ((impl_ReadName.f kj44 (y359 ++ y362) (t320.length : Int)).bind fun bt368 => (if bt350.1 = 0 then (if bt350.2.2 = (t320.length : Int) then (if (bt350.2.1.length : Int) = (t316.length : Int) then (if bt368.1 = 0 then (if bt368.2.2 = (wrap64 ((t320.length : Int) + 2)) then (laws_FnNames.j3 kj44 t316 ((bt368.2.1.length : Int) != (t316.length : Int)) bt350.1 bt350.2.1 bt350.2.2 bt368.1 bt368.2.1 bt368.2.2) else (none)) else (none)) else (none)) else (none)) else (none))) else (none)))) else (none)))) else (some true)) = some r := by rw [if_neg (show ¬ (false = true) by decide)] at H; exact H
           clear H; have H := H1; clear H1
           by_cases c59 : t319 = 0
           ·
            rw [if_pos c59] at H; have c59b0 : (t319 == 0) = true := beq_iff_eq.mpr c59; have c59b1 : (t319 != 0) = false := bne_eq_false_iff_eq.mpr c59; clear c59; replace H := Option.bind_eq_some_iff.mp H; obtain ⟨⟨t350, t351, t354⟩, A600, H⟩ := H; replace H : ((some (([] : List Int) : List Int)).bind fun y356 => (if y356.length + t320.length < 140737488355328 then ((some (y356 ++ t320 : List Int)).bind fun y359 => ((some (([192, 0] : List Int) : List Int)).bind fun y362 => (if y359.length + y362.length < 140737488355328 then ((impl_ReadName.f kj44 (y359 ++ y362) (t320.length : Int)).bind fun bt368 => (if t350 = 0 then (if t354 = (t320.length : Int) then (if (t351.length : Int) = (t316.length : Int) then (if bt368.1 = 0 then (if bt368.2.2 = (wrap64 ((t320.length : Int) + 2)) then (laws_FnNames.j3 kj44 t316 ((bt368.2.1.length : Int) != (t316.length : Int)) t350 t351 t354 bt368.1 bt368.2.1 bt368.2.2) else (none)) else (none)) else (none)) else (none)) else (none))) else (none)))) else (none))) = some r := H; have A60 := Aside0.mk A600; clear A600; obtain ⟨y356, hy356⟩ : ∃ y_ : List Int, y_ = (([] : List Int)) := ⟨_, rfl⟩; replace H : (if y356.length + t320.length < 140737488355328 then ((some (y356 ++ t320 : List Int)).bind fun y359 => ((some (([192, 0] : List Int) : List Int)).bind fun y362 => (if y359.length + y362.length < 140737488355328 then ((impl_ReadName.f kj44 (y359 ++ y362) (t320.length : Int)).bind fun bt368 => (if t350 = 0 then (if t354 = (t320.length : Int) then (if (t351.length : Int) = (t316.length : Int) then (if bt368.1 = 0 then (if bt368.2.2 = (wrap64 ((t320.length : Int) + 2)) then (laws_FnNames.j3 kj44 t316 ((bt368.2.1.length : Int) != (t316.length : Int)) t350 t351 t354 bt368.1 bt368.2.1 bt368.2.2) else (none)) else (none)) else (none)) else (none)) else (none))) else (none)))) else (none)) = some r := by first | (rw [hy356]; with_reducible exact H) | (have H2_ := (Option.bind_some _ _).symm.trans H; rw [hy356]; with_reducible exact H2_) | (have H2_ := (Option.bind_some _ _).symm.trans H; with_reducible exact H2_) | with_reducible exact H | (rw [hy356]; exact H) | exact H
            have Ny356 := Aside0.mk hy356; clear hy356
            by_cases c61 : y356.length + t320.length < 140737488355328
            ·
             rw [if_pos c61] at H; have LMc61 := Aside0.mk c61; clear c61; obtain ⟨y359, hy359⟩ : ∃ y_ : List Int, y_ = (y356 ++ t320) := ⟨_, rfl⟩; replace H : ((some (([192, 0] : List Int) : List Int)).bind fun y362 => (if y359.length + y362.length < 140737488355328 then ((impl_ReadName.f kj44 (y359 ++ y362) (t320.length : Int)).bind fun bt368 => (if t350 = 0 then (if t354 = (t320.length : Int) then (if (t351.length : Int) = (t316.length : Int) then (if bt368.1 = 0 then (if bt368.2.2 = (wrap64 ((t320.length : Int) + 2)) then (laws_FnNames.j3 kj44 t316 ((bt368.2.1.length : Int) != (t316.length : Int)) t350 t351 t354 bt368.1 bt368.2.1 bt368.2.2) else (none)) else (none)) else (none)) else (none)) else (none))) else (none))) = some r := by first | (rw [hy359]; with_reducible exact H) | (have H2_ := (Option.bind_some _ _).symm.trans H; rw [hy359]; with_reducible exact H2_) | (have H2_ := (Option.bind_some _ _).symm.trans H; with_reducible exact H2_) | with_reducible exact H | (rw [hy359]; exact H) | exact H
             have Ny359 := Aside0.mk hy359; clear hy359; obtain ⟨y362, hy362⟩ : ∃ y_ : List Int, y_ = (([192, 0] : List Int)) := ⟨_, rfl⟩; replace H : (if y359.length + y362.length < 140737488355328 then ((impl_ReadName.f kj44 (y359 ++ y362) (t320.length : Int)).bind fun bt368 => (if t350 = 0 then (if t354 = (t320.length : Int) then (if (t351.length : Int) = (t316.length : Int) then (if bt368.1 = 0 then (if bt368.2.2 = (wrap64 ((t320.length : Int) + 2)) then (laws_FnNames.j3 kj44 t316 ((bt368.2.1.length : Int) != (t316.length : Int)) t350 t351 t354 bt368.1 bt368.2.1 bt368.2.2) else (none)) else (none)) else (none)) else (none)) else (none))) else (none)) = some r := by first | (rw [hy362]; with_reducible exact H) | (have H2_ := (Option.bind_some _ _).symm.trans H; rw [hy362]; with_reducible exact H2_) | (have H2_ := (Option.bind_some _ _).symm.trans H; with_reducible exact H2_) | with_reducible exact H | (rw [hy362]; exact H) | exact H
             have Ny362 := Aside0.mk hy362; clear hy362
             by_cases c62 : y359.length + y362.length < 140737488355328
             ·
              rw [if_pos c62] at H; have LMc62 := Aside0.mk c62; clear c62; obtain ⟨y365, hy365⟩ : ∃ y_ : List Int, y_ = (y359 ++ y362) := ⟨_, rfl⟩; replace H : ((impl_ReadName.f kj44 y365 (t320.length : Int)).bind fun bt368 => (if t350 = 0 then (if t354 = (t320.length : Int) then (if (t351.length : Int) = (t316.length : Int) then (if bt368.1 = 0 then (if bt368.2.2 = (wrap64 ((t320.length : Int) + 2)) then (laws_FnNames.j3 kj44 t316 ((bt368.2.1.length : Int) != (t316.length : Int)) t350 t351 t354 bt368.1 bt368.2.1 bt368.2.2) else (none)) else (none)) else (none)) else (none)) else (none))) = some r := by first | (rw [hy365]; with_reducible exact H) | (have H2_ := (Option.bind_some _ _).symm.trans H; rw [hy365]; with_reducible exact H2_) | (have H2_ := (Option.bind_some _ _).symm.trans H; with_reducible exact H2_) | with_reducible exact H | (rw [hy365]; exact H) | exact H
              have Ny365 := Aside0.mk hy365; clear hy365; replace H := Option.bind_eq_some_iff.mp H; obtain ⟨⟨t368, t369, t372⟩, A630, H⟩ := H; replace H : (if t350 = 0 then (if t354 = (t320.length : Int) then (if (t351.length : Int) = (t316.length : Int) then (if t368 = 0 then (if t372 = (wrap64 ((t320.length : Int) + 2)) then (laws_FnNames.j3 kj44 t316 ((t369.length : Int) != (t316.length : Int)) t350 t351 t354 t368 t369 t372) else (none)) else (none)) else (none)) else (none)) else (none)) = some r := H; have A63 := Aside0.mk A630; clear A630; have HC64 := Aside0.mk H; clear H; have hnb65 := NB323_333.out; have hnc65 := NB333_323.out; have hnb66 := NB323_339.out; have hnc66 := NB339_323.out; obtain ⟨hcz67_0, hcz67_1, hfz67_0, hfz67_1⟩ := bc2_ BK323.out
              try go_wp2_with (first | ((with_reducible refine gate_callee (f := 19) rfl ?_); refine goesL_ (some 100) rfl rfl Try.func19 (by kernel_rfl) rfl #[.slice Ao15 t320.length co15, .int .i64 0] rfl args_a ?_; (with_reducible refine (impl_ReadName.calls kj44 _ _ t320 0 t350 t351 t354 _ ?side1 ?side2 A60.out).mono ?_); (case side1 => repeat (first | exact (Kd.R_reads' HO_324001.out).2.2 | (with_reducible refine Kd.C_alloc ?_ _) | (with_reducible refine Kd.C_drewN ?_ _) | (with_reducible refine Kd.C_drew ?_))); (case side2 => exact (Kd.R_reads' HO_324001.out).2.1); rintro e w68 ⟨v352, rfl, ho0, hb⟩; refine ⟨_, rfl, ?_⟩; have n0_ := Aside0.mk (Kd.R_elder' (R_a HO_3.out) (Kd.R_base ho0) hb); replace HO_324001 := Aside0.mk (Kd.R_below (R_a HO_324001.out) hb); have n2_ := Aside0.mk (Kd.R_elder' (R_a HO_334001.out) (Kd.R_base ho0) hb); have n3_ := Aside0.mk (Kd.R_elder' (R_a HO_340001.out) (Kd.R_base ho0) hb); have HO353 := Aside0.mk (Kd.R_lower (Kd.R_new' (Kd.R_new' (Kd.R_new' ho0 (Kd.R_lt (R_a HO_3.out))) (Kd.R_lt (R_a HO_334001.out))) (Kd.R_lt (R_a HO_340001.out))) (below_size below_a)); replace BK323 := Aside0.mk (blk_below (g := gb323) blk_c hb); replace BK333 := Aside0.mk (blk_below (g := gb333) blk_c hb); replace BK339 := Aside0.mk (blk_below (g := gb339) blk_c hb); replace HB := Aside0.mk (below_step below_a hb); replace HO_3 := n0_; replace HO_334001 := n2_; replace HO_340001 := n3_; clear n0_ n2_ n3_; (try clear hb); (try clear hb2); (try clear hk); (try clear hi); (try clear ho0)) | ((with_reducible refine gate_dst (N := 10) rfl ?_); (try (refine gate_guard (by rfl) ?_; dsimp only)); refine box_event ?hg (N := 10) ?hd (cs := #[.int .i64 0, .slice none 0 0, .int .i64 0]) (t := 36) ?hr ?_; (case hd => rfl); (case hg => rfl); (case hr => first | (go_simp; done) | (go_simp; rfl)); intro gb355 hg w69 hbox hb; replace HO_3 := Aside0.mk (Kd.R_below (R_a HO_3.out) hb); replace HO_324001 := Aside0.mk (Kd.R_below (R_a HO_324001.out) hb); replace HO_334001 := Aside0.mk (Kd.R_below (R_a HO_334001.out) hb); replace HO_340001 := Aside0.mk (Kd.R_below (R_a HO_340001.out) hb); replace HO353 := Aside0.mk (Kd.R_below (R_a HO353.out) hb); have n5_ := Aside0.mk (blk_below (g := gb323) blk_c hb); have n6_ := Aside0.mk (blk_below (g := gb333) blk_c hb); have n7_ := Aside0.mk (blk_below (g := gb339) blk_c hb); have n8_ := Aside0.mk (below_step below_a hb); have BK355 := Aside0.mk (hbox); have GW355 := Aside0.mk (bsz_ (w := w) hg); have GE355 := Aside0.mk (bsz_ (w := w) hg); have NB323_355 := Aside0.mk (bne_ (g := gb323) hg); have NB355_323 := Aside0.mk (bne_ (g := gb323) hg).symm; have NB333_355 := Aside0.mk (bne_ (g := gb333) hg); have NB355_333 := Aside0.mk (bne_ (g := gb333) hg).symm; have NB339_355 := Aside0.mk (bne_ (g := gb339) hg); have NB355_339 := Aside0.mk (bne_ (g := gb339) hg).symm; replace BK323 := n5_; replace BK333 := n6_; replace BK339 := n7_; replace HB := n8_; clear n5_ n6_ n7_ n8_; clear hb hbox hg; have hnb70 := NB355_323.out; have hnc70 := NB323_355.out; have hnb71 := NB355_333.out; have hnc71 := NB333_355.out; have hnb72 := NB355_339.out; have hnc72 := NB339_355.out; obtain ⟨hcz73_0, hcz73_1, hcz73_2, hfz73_0, hfz73_1, hfz73_2⟩ := bc3_ BK355.out; obtain ⟨Ao74, co74, eo74⟩ := Kd.R_slice HO353.out; subst eo74))
              generalize hW_ : (((w69.setCell ⟨gb355, 0, none⟩ (.int .i64 t350)).setCell ⟨gb355, 1, none⟩ (.slice Ao74 t351.length co74)).setCell ⟨gb355, 2, none⟩ (.int .i64 t354)) = w75 at ⊢; have n0_ : Aside0 (Kd.R Kd.string 9 w75 w.heap.size (fun k_ => some k_ ≠ (.slice Ao22 t329.length co22 : Value).ownBlock ∧ some k_ ≠ (.slice Ao28 t335.length co28 : Value).ownBlock ∧ some k_ ≠ (.slice Ao74 t351.length co74 : Value).ownBlock) (.slice Ao11 t316.length co11) t316) := hW_ ▸ ⟨by (with_reducible repeat (first | apply Kd.R_alloc | apply Kd.R_drewN | apply Kd.R_drew)); exact Kd.R_mono (Kd.R_far (p := ⟨gb355, 2, none⟩) (Kd.R_far (p := ⟨gb355, 1, none⟩) (Kd.R_far (p := ⟨gb355, 0, none⟩) (Kd.R_types HO_3.out BK355.out (by decide)) (fun _ hk => hk.2) (.int .i64 t350)) (fun _ hk => hk.2) (.slice Ao74 t351.length co74)) (fun _ hk => hk.2) (.int .i64 t354)) (fun _ hk => ⟨hk.1.1.1, ⟨hk.1.1.2, hk.1.2⟩⟩)⟩; have n1_ : Aside0 (Kd.R (Kd.int .u8) 5 w75 w.heap.size (fun _ => True) (.slice Ao15 t320.length co15) t320) := hW_ ▸ ⟨by (with_reducible repeat (first | apply Kd.R_alloc | apply Kd.R_drewN | apply Kd.R_drew)); exact Kd.R_mono (Kd.R_far (p := ⟨gb355, 2, none⟩) (Kd.R_far (p := ⟨gb355, 1, none⟩) (Kd.R_far (p := ⟨gb355, 0, none⟩) (Kd.R_types HO_324001.out BK355.out (by decide)) (fun _ hk => hk.2) (.int .i64 t350)) (fun _ hk => hk.2) (.slice Ao74 t351.length co74)) (fun _ hk => hk.2) (.int .i64 t354)) (fun _ hk => trivial)⟩; have n2_ : Aside0 (Kd.R Kd.string 9 w75 w.heap.size (fun k_ => some k_ ≠ (.slice Ao11 t316.length co11 : Value).ownBlock ∧ some k_ ≠ (.slice Ao28 t335.length co28 : Value).ownBlock ∧ some k_ ≠ (.slice Ao74 t351.length co74 : Value).ownBlock) (.slice Ao22 t329.length co22) t329) := hW_ ▸ ⟨by (with_reducible repeat (first | apply Kd.R_alloc | apply Kd.R_drewN | apply Kd.R_drew)); exact Kd.R_mono (Kd.R_far (p := ⟨gb355, 2, none⟩) (Kd.R_far (p := ⟨gb355, 1, none⟩) (Kd.R_far (p := ⟨gb355, 0, none⟩) (Kd.R_types HO_334001.out BK355.out (by decide)) (fun _ hk => hk.2) (.int .i64 t350)) (fun _ hk => hk.2) (.slice Ao74 t351.length co74)) (fun _ hk => hk.2) (.int .i64 t354)) (fun _ hk => ⟨hk.1.1.1, ⟨hk.1.1.2, hk.1.2⟩⟩)⟩; have n3_ : Aside0 (Kd.R Kd.string 9 w75 w.heap.size (fun k_ => some k_ ≠ (.slice Ao11 t316.length co11 : Value).ownBlock ∧ some k_ ≠ (.slice Ao22 t329.length co22 : Value).ownBlock ∧ some k_ ≠ (.slice Ao74 t351.length co74 : Value).ownBlock) (.slice Ao28 t335.length co28) t335) := hW_ ▸ ⟨by (with_reducible repeat (first | apply Kd.R_alloc | apply Kd.R_drewN | apply Kd.R_drew)); exact Kd.R_mono (Kd.R_far (p := ⟨gb355, 2, none⟩) (Kd.R_far (p := ⟨gb355, 1, none⟩) (Kd.R_far (p := ⟨gb355, 0, none⟩) (Kd.R_types HO_340001.out BK355.out (by decide)) (fun _ hk => hk.2) (.int .i64 t350)) (fun _ hk => hk.2) (.slice Ao74 t351.length co74)) (fun _ hk => hk.2) (.int .i64 t354)) (fun _ hk => ⟨hk.1.1.1, ⟨hk.1.1.2, hk.1.2⟩⟩)⟩; have n4_ : Aside0 (Kd.R Kd.string 9 w75 w.heap.size (fun k_ => some k_ ≠ (.slice Ao11 t316.length co11 : Value).ownBlock ∧ some k_ ≠ (.slice Ao22 t329.length co22 : Value).ownBlock ∧ some k_ ≠ (.slice Ao28 t335.length co28 : Value).ownBlock) (.slice Ao74 t351.length co74) t351) := hW_ ▸ ⟨by (with_reducible repeat (first | apply Kd.R_alloc | apply Kd.R_drewN | apply Kd.R_drew)); exact Kd.R_mono (Kd.R_far (p := ⟨gb355, 2, none⟩) (Kd.R_far (p := ⟨gb355, 1, none⟩) (Kd.R_far (p := ⟨gb355, 0, none⟩) (Kd.R_types HO353.out BK355.out (by decide)) (fun _ hk => hk.2) (.int .i64 t350)) (fun _ hk => hk.2) (.slice Ao74 t351.length co74)) (fun _ hk => hk.2) (.int .i64 t354)) (fun _ hk => ⟨hk.1.1.1.2, ⟨hk.1.1.2, hk.1.2⟩⟩)⟩; have n5_ : Aside0 (w75.heap[gb323]? = some (.cells #[.int .i64 t319, .slice Ao15 t320.length co15] 26 (0, 0))) := hW_ ▸ ⟨blk_a⟩; have n6_ : Aside0 (w75.heap[gb333]? = some (.cells #[.int .i64 t328, .slice Ao22 t329.length co22, .int .i64 t332] 36 (0, 0))) := hW_ ▸ ⟨blk_a⟩; have n7_ : Aside0 (w75.heap[gb339]? = some (.cells #[.int .i64 t334, .slice Ao28 t335.length co28, .int .i64 t338] 36 (0, 0))) := hW_ ▸ ⟨blk_a⟩; have n8_ : Aside0 (w75.heap[gb355]? = some (.cells #[.int .i64 t350, .slice Ao74 t351.length co74, .int .i64 t354] 36 (0, 0))) := hW_ ▸ ⟨blk_a⟩; have n9_ : Aside0 (Below w.heap.size w w75) := hW_ ▸ ⟨below_a⟩; (try clear HO_3); (try clear HO_324001); (try clear HO_334001); (try clear HO_340001); (try clear HO353); (try clear BK323); (try clear BK333); (try clear BK339); (try clear BK355); (try clear HB); clear hW_; have HO_3 := n0_; have HO_324001 := n1_; have HO_334001 := n2_; have HO_340001 := n3_; have HO353 := n4_; have BK323 := n5_; have BK333 := n6_; have BK339 := n7_; have BK355 := n8_; have HB := n9_; clear n0_ n1_ n2_ n3_ n4_ n5_ n6_ n7_ n8_ n9_; replace HO_3 := Aside0.mk (Kd.R_drew HO_3.out); replace HO_324001 := Aside0.mk (Kd.R_drew HO_324001.out); replace HO_334001 := Aside0.mk (Kd.R_drew HO_334001.out); replace HO_340001 := Aside0.mk (Kd.R_drew HO_340001.out); replace HO353 := Aside0.mk (Kd.R_drew HO353.out); replace BK323 := Aside0.mk (blk_drew BK323.out); replace BK333 := Aside0.mk (blk_drew BK333.out); replace BK339 := Aside0.mk (blk_drew BK339.out); replace BK355 := Aside0.mk (blk_drew BK355.out); replace HB := Aside0.mk (below_drew1 HB.out); refine start_ (n := 12) (S := fun w' => w'.cell? ⟨gb323, 0, none⟩ = some (.int .i64 t319) ∧ w'.cell? ⟨gb323, 1, none⟩ = some (.slice Ao15 t320.length co15)) (ds := []) #[Z',Z',Z',Z',Z',Z',Z',Z',Z',Z',Z',Z'] (by kernel_rfl) rfl rfl ⟨(blk_cell BK323.out 0).trans rfl, (blk_cell BK323.out 1).trans rfl⟩ (fun hHeld => ?_); refine with_tabW laws_FnNames.tab20 laws_FnNames.bits20 (fun HT_ HW_ => ?_); generalize w75.drew = w76 at HO_3 HO_324001 HO_334001 HO_340001 HO353 BK323 BK333 BK339 BK355 HB hHeld ⊢; refine pure_ (i := 1) (N := some 102) (v := ?_) (a' := ?_) #[Z',Y',Z',Z',Z',Z',Z',Z',Z',Z',Z',Z'] rfl rfl (any_of HT_.out (by kernel_rfl)) (fun _ _ _ h => h) (Or.inl ⟨by rfl, ?_⟩) ?_ ?_; rotate_left
              ·
               intro w'
               go_simp
               with_reducible rfl
              rotate_left
              ·
               simp only [Act.put, List.setIfInBounds_toArray, List.set_cons_zero, List.set_cons_succ, i64_w, i32_w]; rfl
              refine pure_ (i := 6) (N := some 107) (v := ?_) (a' := ?_) #[Z',Y',Z',Z',Z',Z',Y',Z',Z',Z',Z',Z'] rfl rfl (any_of HT_.out (by kernel_rfl)) (fun _ _ _ h => h) (Or.inl ⟨by rfl, ?_⟩) ?_ ?_; rotate_left
              ·
               intro w'
               go_simp
               with_reducible rfl
              rotate_left
              ·
               simp only [Act.put, List.setIfInBounds_toArray, List.set_cons_zero, List.set_cons_succ, i64_w, i32_w]; rfl
              refine take_ (i := 2) (N := some 103) (v := ?_) (a' := ?_) #[Z',Y',Y',Z',Z',Z',Y',Z',Z',Z',Z',Z'] rfl rfl (take_ofW HT_.out HW_.out (by kernel_rfl)) (fun _ _ _ h => h) (Or.inl ⟨by rfl, ?_⟩) hHeld ?_ ?_; rotate_left
              ·
               rintro w' ⟨s0, s1⟩
               go_simp
               with_reducible rfl
              rotate_left
              ·
               simp only [Act.put, List.setIfInBounds_toArray, List.set_cons_zero, List.set_cons_succ, i64_w, i32_w]; rfl
              refine take_ (i := 7) (N := some 108) (v := ?_) (a' := ?_) #[Z',Y',Y',Z',Z',Z',Y',Y',Z',Z',Z',Z'] rfl rfl (take_ofW HT_.out HW_.out (by kernel_rfl)) (fun _ _ _ h => h) (Or.inl ⟨by rfl, ?_⟩) hHeld ?_ ?_; rotate_left
              ·
               rintro w' ⟨s0, s1⟩
               go_simp
               with_reducible rfl
              rotate_left
              ·
               simp only [Act.put, List.setIfInBounds_toArray, List.set_cons_zero, List.set_cons_succ, i64_w, i32_w]; rfl
              refine pure_ (i := 8) (N := some 109) (v := ?_) (a' := ?_) #[Z',Y',Y',Z',Z',Z',Y',Y',Y',Z',Z',Z'] rfl rfl (any_of HT_.out (by kernel_rfl)) (fun _ _ _ h => h) (Or.inl ⟨by rfl, ?_⟩) ?_ ?_; rotate_left
              ·
               intro w'
               go_simp
               with_reducible rfl
              rotate_left
              ·
               simp only [Act.put, List.setIfInBounds_toArray, List.set_cons_zero, List.set_cons_succ, i64_w, i32_w]; rfl
              refine join_ (σ := Value × Value × Value × Value × Value × Nat) 1 #[Y',Y',Y',Y',Y',Y',Y',Y',Y',Y',Y',Z'] (fun s_ => [(101, s_.1), (104, s_.2.1), (105, s_.2.2.1), (106, s_.2.2.2.1), (110, .agg #[.int .i64 t368, s_.2.2.2.2.1, .int .i64 t372]), (11, .pointer (some ⟨s_.2.2.2.2.2, 0, none⟩))]) (fun s_ w' => (w'.cell? ⟨gb323, 0, none⟩ = some (.int .i64 t319) ∧ w'.cell? ⟨gb323, 1, none⟩ = some (.slice Ao15 t320.length co15)) ∧ (Kd.R Kd.string 9 w' w.heap.size (fun k_ => some k_ ≠ (s_.2.2.2.2.1 : Value).ownBlock ∧ some k_ ≠ (.slice Ao11 t316.length co11 : Value).ownBlock ∧ some k_ ≠ (.slice Ao22 t329.length co22 : Value).ownBlock ∧ some k_ ≠ (.slice Ao28 t335.length co28 : Value).ownBlock) (.slice Ao74 t351.length co74) t351) ∧ (Kd.R (Kd.int .u8) 5 w' w.heap.size (fun k_ => some k_ ≠ (s_.2.2.2.1 : Value).ownBlock ∧ some k_ ≠ (.slice Ao15 t320.length co15 : Value).ownBlock) s_.2.2.1 y362) ∧ (Kd.R (Kd.int .u8) 5 w' w.heap.size (fun k_ => some k_ ≠ (s_.2.2.1 : Value).ownBlock ∧ some k_ ≠ (.slice Ao15 t320.length co15 : Value).ownBlock) s_.2.2.2.1 y365) ∧ (Kd.R Kd.string 9 w' w.heap.size (fun k_ => some k_ ≠ (.slice Ao74 t351.length co74 : Value).ownBlock ∧ some k_ ≠ (.slice Ao11 t316.length co11 : Value).ownBlock ∧ some k_ ≠ (.slice Ao22 t329.length co22 : Value).ownBlock ∧ some k_ ≠ (.slice Ao28 t335.length co28 : Value).ownBlock) s_.2.2.2.2.1 t369) ∧ (Kd.R Kd.string 9 w' w.heap.size (fun k_ => some k_ ≠ (.slice Ao74 t351.length co74 : Value).ownBlock ∧ some k_ ≠ (s_.2.2.2.2.1 : Value).ownBlock ∧ some k_ ≠ (.slice Ao22 t329.length co22 : Value).ownBlock ∧ some k_ ≠ (.slice Ao28 t335.length co28 : Value).ownBlock) (.slice Ao11 t316.length co11) t316) ∧ (Kd.R (Kd.int .u8) 5 w' w.heap.size (fun k_ => some k_ ≠ (s_.2.2.1 : Value).ownBlock ∧ some k_ ≠ (s_.2.2.2.1 : Value).ownBlock) (.slice Ao15 t320.length co15) t320) ∧ (Kd.R Kd.string 9 w' w.heap.size (fun k_ => some k_ ≠ (.slice Ao74 t351.length co74 : Value).ownBlock ∧ some k_ ≠ (s_.2.2.2.2.1 : Value).ownBlock ∧ some k_ ≠ (.slice Ao11 t316.length co11 : Value).ownBlock ∧ some k_ ≠ (.slice Ao28 t335.length co28 : Value).ownBlock) (.slice Ao22 t329.length co22) t329) ∧ (Kd.R Kd.string 9 w' w.heap.size (fun k_ => some k_ ≠ (.slice Ao74 t351.length co74 : Value).ownBlock ∧ some k_ ≠ (s_.2.2.2.2.1 : Value).ownBlock ∧ some k_ ≠ (.slice Ao11 t316.length co11 : Value).ownBlock ∧ some k_ ≠ (.slice Ao22 t329.length co22 : Value).ownBlock) (.slice Ao28 t335.length co28) t335) ∧ (w'.heap[gb323]? = some (.cells #[.int .i64 t319, .slice Ao15 t320.length co15] 26 (0, 0))) ∧ (w'.heap[gb333]? = some (.cells #[.int .i64 t328, .slice Ao22 t329.length co22, .int .i64 t332] 36 (0, 0))) ∧ (w'.heap[gb339]? = some (.cells #[.int .i64 t334, .slice Ao28 t335.length co28, .int .i64 t338] 36 (0, 0))) ∧ (w'.heap[gb355]? = some (.cells #[.int .i64 t350, .slice Ao74 t351.length co74, .int .i64 t354] 36 (0, 0))) ∧ (w'.heap[s_.2.2.2.2.2]? = some (.cells #[.int .i64 0, .slice none 0 0, .int .i64 0] 36 (0, 0))) ∧ (w.heap.size ≤ s_.2.2.2.2.2) ∧ (w.heap.size ≤ s_.2.2.2.2.2) ∧ (gb323 ≠ s_.2.2.2.2.2) ∧ (s_.2.2.2.2.2 ≠ gb323) ∧ (gb333 ≠ s_.2.2.2.2.2) ∧ (s_.2.2.2.2.2 ≠ gb333) ∧ (gb339 ≠ s_.2.2.2.2.2) ∧ (s_.2.2.2.2.2 ≠ gb339) ∧ (gb355 ≠ s_.2.2.2.2.2) ∧ (s_.2.2.2.2.2 ≠ gb355) ∧ (Below w.heap.size w w')) ?_ ?_; rotate_left
              ·
               intro hJ0_3_4_5_9_10; refine join_ (σ := Value × Value × Value × Value × Value) 2 #[Y',Y',Y',Y',Y',Y',Y',Y',Y',Y',Z',Z'] (fun s_ => [(101, s_.1), (104, s_.2.1), (105, s_.2.2.1), (106, s_.2.2.2.1), (110, .agg #[.int .i64 t368, s_.2.2.2.2, .int .i64 t372])]) (fun s_ w' => (w'.cell? ⟨gb323, 0, none⟩ = some (.int .i64 t319) ∧ w'.cell? ⟨gb323, 1, none⟩ = some (.slice Ao15 t320.length co15)) ∧ (Kd.R Kd.string 9 w' w.heap.size (fun k_ => some k_ ≠ (s_.2.2.2.2 : Value).ownBlock ∧ some k_ ≠ (.slice Ao11 t316.length co11 : Value).ownBlock ∧ some k_ ≠ (.slice Ao22 t329.length co22 : Value).ownBlock ∧ some k_ ≠ (.slice Ao28 t335.length co28 : Value).ownBlock) (.slice Ao74 t351.length co74) t351) ∧ (Kd.R (Kd.int .u8) 5 w' w.heap.size (fun k_ => some k_ ≠ (s_.2.2.2.1 : Value).ownBlock ∧ some k_ ≠ (.slice Ao15 t320.length co15 : Value).ownBlock) s_.2.2.1 y362) ∧ (Kd.R (Kd.int .u8) 5 w' w.heap.size (fun k_ => some k_ ≠ (s_.2.2.1 : Value).ownBlock ∧ some k_ ≠ (.slice Ao15 t320.length co15 : Value).ownBlock) s_.2.2.2.1 y365) ∧ (Kd.R Kd.string 9 w' w.heap.size (fun k_ => some k_ ≠ (.slice Ao74 t351.length co74 : Value).ownBlock ∧ some k_ ≠ (.slice Ao11 t316.length co11 : Value).ownBlock ∧ some k_ ≠ (.slice Ao22 t329.length co22 : Value).ownBlock ∧ some k_ ≠ (.slice Ao28 t335.length co28 : Value).ownBlock) s_.2.2.2.2 t369) ∧ (Kd.R Kd.string 9 w' w.heap.size (fun k_ => some k_ ≠ (.slice Ao74 t351.length co74 : Value).ownBlock ∧ some k_ ≠ (s_.2.2.2.2 : Value).ownBlock ∧ some k_ ≠ (.slice Ao22 t329.length co22 : Value).ownBlock ∧ some k_ ≠ (.slice Ao28 t335.length co28 : Value).ownBlock) (.slice Ao11 t316.length co11) t316) ∧ (Kd.R (Kd.int .u8) 5 w' w.heap.size (fun k_ => some k_ ≠ (s_.2.2.1 : Value).ownBlock ∧ some k_ ≠ (s_.2.2.2.1 : Value).ownBlock) (.slice Ao15 t320.length co15) t320) ∧ (Kd.R Kd.string 9 w' w.heap.size (fun k_ => some k_ ≠ (.slice Ao74 t351.length co74 : Value).ownBlock ∧ some k_ ≠ (s_.2.2.2.2 : Value).ownBlock ∧ some k_ ≠ (.slice Ao11 t316.length co11 : Value).ownBlock ∧ some k_ ≠ (.slice Ao28 t335.length co28 : Value).ownBlock) (.slice Ao22 t329.length co22) t329) ∧ (Kd.R Kd.string 9 w' w.heap.size (fun k_ => some k_ ≠ (.slice Ao74 t351.length co74 : Value).ownBlock ∧ some k_ ≠ (s_.2.2.2.2 : Value).ownBlock ∧ some k_ ≠ (.slice Ao11 t316.length co11 : Value).ownBlock ∧ some k_ ≠ (.slice Ao22 t329.length co22 : Value).ownBlock) (.slice Ao28 t335.length co28) t335) ∧ (w'.heap[gb323]? = some (.cells #[.int .i64 t319, .slice Ao15 t320.length co15] 26 (0, 0))) ∧ (w'.heap[gb333]? = some (.cells #[.int .i64 t328, .slice Ao22 t329.length co22, .int .i64 t332] 36 (0, 0))) ∧ (w'.heap[gb339]? = some (.cells #[.int .i64 t334, .slice Ao28 t335.length co28, .int .i64 t338] 36 (0, 0))) ∧ (w'.heap[gb355]? = some (.cells #[.int .i64 t350, .slice Ao74 t351.length co74, .int .i64 t354] 36 (0, 0))) ∧ (Below w.heap.size w w')) ?_ ?_; rotate_left
               ·
                intro hJ0_3_4_5_9; refine join_ (σ := Value × Value × Value × Value × Nat) 2 #[Y',Y',Y',Y',Y',Y',Y',Y',Y',Z',Y',Z'] (fun s_ => [(101, s_.1), (104, s_.2.1), (105, s_.2.2.1), (106, s_.2.2.2.1), (11, .pointer (some ⟨s_.2.2.2.2, 0, none⟩))]) (fun s_ w' => (w'.cell? ⟨gb323, 0, none⟩ = some (.int .i64 t319) ∧ w'.cell? ⟨gb323, 1, none⟩ = some (.slice Ao15 t320.length co15)) ∧ (Kd.R Kd.string 9 w' w.heap.size (fun k_ => some k_ ≠ (.slice Ao11 t316.length co11 : Value).ownBlock ∧ some k_ ≠ (.slice Ao22 t329.length co22 : Value).ownBlock ∧ some k_ ≠ (.slice Ao28 t335.length co28 : Value).ownBlock) (.slice Ao74 t351.length co74) t351) ∧ (Kd.R (Kd.int .u8) 5 w' w.heap.size (fun k_ => some k_ ≠ (s_.2.2.2.1 : Value).ownBlock ∧ some k_ ≠ (.slice Ao15 t320.length co15 : Value).ownBlock) s_.2.2.1 y362) ∧ (Kd.R (Kd.int .u8) 5 w' w.heap.size (fun k_ => some k_ ≠ (s_.2.2.1 : Value).ownBlock ∧ some k_ ≠ (.slice Ao15 t320.length co15 : Value).ownBlock) s_.2.2.2.1 y365) ∧ (Kd.R Kd.string 9 w' w.heap.size (fun k_ => some k_ ≠ (.slice Ao74 t351.length co74 : Value).ownBlock ∧ some k_ ≠ (.slice Ao22 t329.length co22 : Value).ownBlock ∧ some k_ ≠ (.slice Ao28 t335.length co28 : Value).ownBlock) (.slice Ao11 t316.length co11) t316) ∧ (Kd.R (Kd.int .u8) 5 w' w.heap.size (fun k_ => some k_ ≠ (s_.2.2.1 : Value).ownBlock ∧ some k_ ≠ (s_.2.2.2.1 : Value).ownBlock) (.slice Ao15 t320.length co15) t320) ∧ (Kd.R Kd.string 9 w' w.heap.size (fun k_ => some k_ ≠ (.slice Ao74 t351.length co74 : Value).ownBlock ∧ some k_ ≠ (.slice Ao11 t316.length co11 : Value).ownBlock ∧ some k_ ≠ (.slice Ao28 t335.length co28 : Value).ownBlock) (.slice Ao22 t329.length co22) t329) ∧ (Kd.R Kd.string 9 w' w.heap.size (fun k_ => some k_ ≠ (.slice Ao74 t351.length co74 : Value).ownBlock ∧ some k_ ≠ (.slice Ao11 t316.length co11 : Value).ownBlock ∧ some k_ ≠ (.slice Ao22 t329.length co22 : Value).ownBlock) (.slice Ao28 t335.length co28) t335) ∧ (w'.heap[gb323]? = some (.cells #[.int .i64 t319, .slice Ao15 t320.length co15] 26 (0, 0))) ∧ (w'.heap[gb333]? = some (.cells #[.int .i64 t328, .slice Ao22 t329.length co22, .int .i64 t332] 36 (0, 0))) ∧ (w'.heap[gb339]? = some (.cells #[.int .i64 t334, .slice Ao28 t335.length co28, .int .i64 t338] 36 (0, 0))) ∧ (w'.heap[gb355]? = some (.cells #[.int .i64 t350, .slice Ao74 t351.length co74, .int .i64 t354] 36 (0, 0))) ∧ (w'.heap[s_.2.2.2.2]? = some (.cells #[.int .i64 0, .slice none 0 0, .int .i64 0] 36 (0, 0))) ∧ (w.heap.size ≤ s_.2.2.2.2) ∧ (w.heap.size ≤ s_.2.2.2.2) ∧ (gb323 ≠ s_.2.2.2.2) ∧ (s_.2.2.2.2 ≠ gb323) ∧ (gb333 ≠ s_.2.2.2.2) ∧ (s_.2.2.2.2 ≠ gb333) ∧ (gb339 ≠ s_.2.2.2.2) ∧ (s_.2.2.2.2 ≠ gb339) ∧ (gb355 ≠ s_.2.2.2.2) ∧ (s_.2.2.2.2 ≠ gb355) ∧ (Below w.heap.size w w')) ?_ ?_; rotate_left
                ·
                 intro hJ0_3_4_5_10; refine join_ (σ := Value × Value × Value × Value) 3 #[Y',Y',Y',Y',Y',Y',Y',Y',Y',Z',Z',Z'] (fun s_ => [(101, s_.1), (104, s_.2.1), (105, s_.2.2.1), (106, s_.2.2.2)]) (fun s_ w' => (w'.cell? ⟨gb323, 0, none⟩ = some (.int .i64 t319) ∧ w'.cell? ⟨gb323, 1, none⟩ = some (.slice Ao15 t320.length co15)) ∧ (Kd.R Kd.string 9 w' w.heap.size (fun k_ => some k_ ≠ (.slice Ao11 t316.length co11 : Value).ownBlock ∧ some k_ ≠ (.slice Ao22 t329.length co22 : Value).ownBlock ∧ some k_ ≠ (.slice Ao28 t335.length co28 : Value).ownBlock) (.slice Ao74 t351.length co74) t351) ∧ (Kd.R (Kd.int .u8) 5 w' w.heap.size (fun k_ => some k_ ≠ (s_.2.2.2 : Value).ownBlock ∧ some k_ ≠ (.slice Ao15 t320.length co15 : Value).ownBlock) s_.2.2.1 y362) ∧ (Kd.R (Kd.int .u8) 5 w' w.heap.size (fun k_ => some k_ ≠ (s_.2.2.1 : Value).ownBlock ∧ some k_ ≠ (.slice Ao15 t320.length co15 : Value).ownBlock) s_.2.2.2 y365) ∧ (Kd.R Kd.string 9 w' w.heap.size (fun k_ => some k_ ≠ (.slice Ao74 t351.length co74 : Value).ownBlock ∧ some k_ ≠ (.slice Ao22 t329.length co22 : Value).ownBlock ∧ some k_ ≠ (.slice Ao28 t335.length co28 : Value).ownBlock) (.slice Ao11 t316.length co11) t316) ∧ (Kd.R (Kd.int .u8) 5 w' w.heap.size (fun k_ => some k_ ≠ (s_.2.2.1 : Value).ownBlock ∧ some k_ ≠ (s_.2.2.2 : Value).ownBlock) (.slice Ao15 t320.length co15) t320) ∧ (Kd.R Kd.string 9 w' w.heap.size (fun k_ => some k_ ≠ (.slice Ao74 t351.length co74 : Value).ownBlock ∧ some k_ ≠ (.slice Ao11 t316.length co11 : Value).ownBlock ∧ some k_ ≠ (.slice Ao28 t335.length co28 : Value).ownBlock) (.slice Ao22 t329.length co22) t329) ∧ (Kd.R Kd.string 9 w' w.heap.size (fun k_ => some k_ ≠ (.slice Ao74 t351.length co74 : Value).ownBlock ∧ some k_ ≠ (.slice Ao11 t316.length co11 : Value).ownBlock ∧ some k_ ≠ (.slice Ao22 t329.length co22 : Value).ownBlock) (.slice Ao28 t335.length co28) t335) ∧ (w'.heap[gb323]? = some (.cells #[.int .i64 t319, .slice Ao15 t320.length co15] 26 (0, 0))) ∧ (w'.heap[gb333]? = some (.cells #[.int .i64 t328, .slice Ao22 t329.length co22, .int .i64 t332] 36 (0, 0))) ∧ (w'.heap[gb339]? = some (.cells #[.int .i64 t334, .slice Ao28 t335.length co28, .int .i64 t338] 36 (0, 0))) ∧ (w'.heap[gb355]? = some (.cells #[.int .i64 t350, .slice Ao74 t351.length co74, .int .i64 t354] 36 (0, 0))) ∧ (Below w.heap.size w w')) ?_ ?_; rotate_left
                 ·
                  intro hJ0_3_4_5; refine join_ (σ := Value × Value × Value × Nat) 3 #[Y',Y',Y',Y',Y',Z',Y',Y',Y',Z',Y',Z'] (fun s_ => [(101, s_.1), (104, s_.2.1), (105, s_.2.2.1), (11, .pointer (some ⟨s_.2.2.2, 0, none⟩))]) (fun s_ w' => (w'.cell? ⟨gb323, 0, none⟩ = some (.int .i64 t319) ∧ w'.cell? ⟨gb323, 1, none⟩ = some (.slice Ao15 t320.length co15)) ∧ (Kd.R Kd.string 9 w' w.heap.size (fun k_ => some k_ ≠ (.slice Ao11 t316.length co11 : Value).ownBlock ∧ some k_ ≠ (.slice Ao22 t329.length co22 : Value).ownBlock ∧ some k_ ≠ (.slice Ao28 t335.length co28 : Value).ownBlock) (.slice Ao74 t351.length co74) t351) ∧ (Kd.R (Kd.int .u8) 5 w' w.heap.size (fun k_ => some k_ ≠ (s_.2.2.1 : Value).ownBlock ∧ some k_ ≠ (.slice Ao15 t320.length co15 : Value).ownBlock) s_.2.1 y359) ∧ (Kd.R (Kd.int .u8) 5 w' w.heap.size (fun k_ => some k_ ≠ (s_.2.1 : Value).ownBlock ∧ some k_ ≠ (.slice Ao15 t320.length co15 : Value).ownBlock) s_.2.2.1 y362) ∧ (Kd.R Kd.string 9 w' w.heap.size (fun k_ => some k_ ≠ (.slice Ao74 t351.length co74 : Value).ownBlock ∧ some k_ ≠ (.slice Ao22 t329.length co22 : Value).ownBlock ∧ some k_ ≠ (.slice Ao28 t335.length co28 : Value).ownBlock) (.slice Ao11 t316.length co11) t316) ∧ (Kd.R (Kd.int .u8) 5 w' w.heap.size (fun k_ => some k_ ≠ (s_.2.1 : Value).ownBlock ∧ some k_ ≠ (s_.2.2.1 : Value).ownBlock) (.slice Ao15 t320.length co15) t320) ∧ (Kd.R Kd.string 9 w' w.heap.size (fun k_ => some k_ ≠ (.slice Ao74 t351.length co74 : Value).ownBlock ∧ some k_ ≠ (.slice Ao11 t316.length co11 : Value).ownBlock ∧ some k_ ≠ (.slice Ao28 t335.length co28 : Value).ownBlock) (.slice Ao22 t329.length co22) t329) ∧ (Kd.R Kd.string 9 w' w.heap.size (fun k_ => some k_ ≠ (.slice Ao74 t351.length co74 : Value).ownBlock ∧ some k_ ≠ (.slice Ao11 t316.length co11 : Value).ownBlock ∧ some k_ ≠ (.slice Ao22 t329.length co22 : Value).ownBlock) (.slice Ao28 t335.length co28) t335) ∧ (w'.heap[gb323]? = some (.cells #[.int .i64 t319, .slice Ao15 t320.length co15] 26 (0, 0))) ∧ (w'.heap[gb333]? = some (.cells #[.int .i64 t328, .slice Ao22 t329.length co22, .int .i64 t332] 36 (0, 0))) ∧ (w'.heap[gb339]? = some (.cells #[.int .i64 t334, .slice Ao28 t335.length co28, .int .i64 t338] 36 (0, 0))) ∧ (w'.heap[gb355]? = some (.cells #[.int .i64 t350, .slice Ao74 t351.length co74, .int .i64 t354] 36 (0, 0))) ∧ (w'.heap[s_.2.2.2]? = some (.cells #[.int .i64 0, .slice none 0 0, .int .i64 0] 36 (0, 0))) ∧ (w.heap.size ≤ s_.2.2.2) ∧ (w.heap.size ≤ s_.2.2.2) ∧ (gb323 ≠ s_.2.2.2) ∧ (s_.2.2.2 ≠ gb323) ∧ (gb333 ≠ s_.2.2.2) ∧ (s_.2.2.2 ≠ gb333) ∧ (gb339 ≠ s_.2.2.2) ∧ (s_.2.2.2 ≠ gb339) ∧ (gb355 ≠ s_.2.2.2) ∧ (s_.2.2.2 ≠ gb355) ∧ (Below w.heap.size w w')) ?_ ?_; rotate_left
                  ·
                   intro hJ0_3_4_10; refine join_ (σ := Value × Value × Value) 4 #[Y',Y',Y',Y',Y',Z',Y',Y',Y',Z',Z',Z'] (fun s_ => [(101, s_.1), (104, s_.2.1), (105, s_.2.2)]) (fun s_ w' => (w'.cell? ⟨gb323, 0, none⟩ = some (.int .i64 t319) ∧ w'.cell? ⟨gb323, 1, none⟩ = some (.slice Ao15 t320.length co15)) ∧ (Kd.R Kd.string 9 w' w.heap.size (fun k_ => some k_ ≠ (.slice Ao11 t316.length co11 : Value).ownBlock ∧ some k_ ≠ (.slice Ao22 t329.length co22 : Value).ownBlock ∧ some k_ ≠ (.slice Ao28 t335.length co28 : Value).ownBlock) (.slice Ao74 t351.length co74) t351) ∧ (Kd.R (Kd.int .u8) 5 w' w.heap.size (fun k_ => some k_ ≠ (s_.2.2 : Value).ownBlock ∧ some k_ ≠ (.slice Ao15 t320.length co15 : Value).ownBlock) s_.2.1 y359) ∧ (Kd.R (Kd.int .u8) 5 w' w.heap.size (fun k_ => some k_ ≠ (s_.2.1 : Value).ownBlock ∧ some k_ ≠ (.slice Ao15 t320.length co15 : Value).ownBlock) s_.2.2 y362) ∧ (Kd.R Kd.string 9 w' w.heap.size (fun k_ => some k_ ≠ (.slice Ao74 t351.length co74 : Value).ownBlock ∧ some k_ ≠ (.slice Ao22 t329.length co22 : Value).ownBlock ∧ some k_ ≠ (.slice Ao28 t335.length co28 : Value).ownBlock) (.slice Ao11 t316.length co11) t316) ∧ (Kd.R (Kd.int .u8) 5 w' w.heap.size (fun k_ => some k_ ≠ (s_.2.1 : Value).ownBlock ∧ some k_ ≠ (s_.2.2 : Value).ownBlock) (.slice Ao15 t320.length co15) t320) ∧ (Kd.R Kd.string 9 w' w.heap.size (fun k_ => some k_ ≠ (.slice Ao74 t351.length co74 : Value).ownBlock ∧ some k_ ≠ (.slice Ao11 t316.length co11 : Value).ownBlock ∧ some k_ ≠ (.slice Ao28 t335.length co28 : Value).ownBlock) (.slice Ao22 t329.length co22) t329) ∧ (Kd.R Kd.string 9 w' w.heap.size (fun k_ => some k_ ≠ (.slice Ao74 t351.length co74 : Value).ownBlock ∧ some k_ ≠ (.slice Ao11 t316.length co11 : Value).ownBlock ∧ some k_ ≠ (.slice Ao22 t329.length co22 : Value).ownBlock) (.slice Ao28 t335.length co28) t335) ∧ (w'.heap[gb323]? = some (.cells #[.int .i64 t319, .slice Ao15 t320.length co15] 26 (0, 0))) ∧ (w'.heap[gb333]? = some (.cells #[.int .i64 t328, .slice Ao22 t329.length co22, .int .i64 t332] 36 (0, 0))) ∧ (w'.heap[gb339]? = some (.cells #[.int .i64 t334, .slice Ao28 t335.length co28, .int .i64 t338] 36 (0, 0))) ∧ (w'.heap[gb355]? = some (.cells #[.int .i64 t350, .slice Ao74 t351.length co74, .int .i64 t354] 36 (0, 0))) ∧ (Below w.heap.size w w')) ?_ ?_; rotate_left
                   ·
                    intro hJ0_3_4; refine join_ (σ := Value × Value × Nat) 4 #[Y',Y',Y',Y',Z',Z',Y',Y',Y',Z',Y',Z'] (fun s_ => [(101, s_.1), (104, s_.2.1), (11, .pointer (some ⟨s_.2.2, 0, none⟩))]) (fun s_ w' => (w'.cell? ⟨gb323, 0, none⟩ = some (.int .i64 t319) ∧ w'.cell? ⟨gb323, 1, none⟩ = some (.slice Ao15 t320.length co15)) ∧ (Kd.R Kd.string 9 w' w.heap.size (fun k_ => some k_ ≠ (.slice Ao11 t316.length co11 : Value).ownBlock ∧ some k_ ≠ (.slice Ao22 t329.length co22 : Value).ownBlock ∧ some k_ ≠ (.slice Ao28 t335.length co28 : Value).ownBlock) (.slice Ao74 t351.length co74) t351) ∧ (Kd.R (Kd.int .u8) 5 w' w.heap.size (fun k_ => some k_ ≠ (.slice Ao15 t320.length co15 : Value).ownBlock) s_.2.1 y359) ∧ (Kd.R Kd.string 9 w' w.heap.size (fun k_ => some k_ ≠ (.slice Ao74 t351.length co74 : Value).ownBlock ∧ some k_ ≠ (.slice Ao22 t329.length co22 : Value).ownBlock ∧ some k_ ≠ (.slice Ao28 t335.length co28 : Value).ownBlock) (.slice Ao11 t316.length co11) t316) ∧ (Kd.R (Kd.int .u8) 5 w' w.heap.size (fun k_ => some k_ ≠ (s_.2.1 : Value).ownBlock) (.slice Ao15 t320.length co15) t320) ∧ (Kd.R Kd.string 9 w' w.heap.size (fun k_ => some k_ ≠ (.slice Ao74 t351.length co74 : Value).ownBlock ∧ some k_ ≠ (.slice Ao11 t316.length co11 : Value).ownBlock ∧ some k_ ≠ (.slice Ao28 t335.length co28 : Value).ownBlock) (.slice Ao22 t329.length co22) t329) ∧ (Kd.R Kd.string 9 w' w.heap.size (fun k_ => some k_ ≠ (.slice Ao74 t351.length co74 : Value).ownBlock ∧ some k_ ≠ (.slice Ao11 t316.length co11 : Value).ownBlock ∧ some k_ ≠ (.slice Ao22 t329.length co22 : Value).ownBlock) (.slice Ao28 t335.length co28) t335) ∧ (w'.heap[gb323]? = some (.cells #[.int .i64 t319, .slice Ao15 t320.length co15] 26 (0, 0))) ∧ (w'.heap[gb333]? = some (.cells #[.int .i64 t328, .slice Ao22 t329.length co22, .int .i64 t332] 36 (0, 0))) ∧ (w'.heap[gb339]? = some (.cells #[.int .i64 t334, .slice Ao28 t335.length co28, .int .i64 t338] 36 (0, 0))) ∧ (w'.heap[gb355]? = some (.cells #[.int .i64 t350, .slice Ao74 t351.length co74, .int .i64 t354] 36 (0, 0))) ∧ (w'.heap[s_.2.2]? = some (.cells #[.int .i64 0, .slice none 0 0, .int .i64 0] 36 (0, 0))) ∧ (w.heap.size ≤ s_.2.2) ∧ (w.heap.size ≤ s_.2.2) ∧ (gb323 ≠ s_.2.2) ∧ (s_.2.2 ≠ gb323) ∧ (gb333 ≠ s_.2.2) ∧ (s_.2.2 ≠ gb333) ∧ (gb339 ≠ s_.2.2) ∧ (s_.2.2 ≠ gb339) ∧ (gb355 ≠ s_.2.2) ∧ (s_.2.2 ≠ gb355) ∧ (Below w.heap.size w w')) ?_ ?_; rotate_left
                    ·
                     intro hJ0_3_10; refine join_ (σ := Value × Value × Nat) 4 #[Y',Y',Y',Z',Y',Z',Y',Y',Y',Z',Y',Z'] (fun s_ => [(101, s_.1), (105, s_.2.1), (11, .pointer (some ⟨s_.2.2, 0, none⟩))]) (fun s_ w' => (w'.cell? ⟨gb323, 0, none⟩ = some (.int .i64 t319) ∧ w'.cell? ⟨gb323, 1, none⟩ = some (.slice Ao15 t320.length co15)) ∧ (Kd.R Kd.string 9 w' w.heap.size (fun k_ => some k_ ≠ (.slice Ao11 t316.length co11 : Value).ownBlock ∧ some k_ ≠ (.slice Ao22 t329.length co22 : Value).ownBlock ∧ some k_ ≠ (.slice Ao28 t335.length co28 : Value).ownBlock) (.slice Ao74 t351.length co74) t351) ∧ (Kd.R (Kd.int .u8) 5 w' w.heap.size (fun k_ => some k_ ≠ (s_.2.1 : Value).ownBlock ∧ some k_ ≠ (.slice Ao15 t320.length co15 : Value).ownBlock) s_.1 y356) ∧ (Kd.R (Kd.int .u8) 5 w' w.heap.size (fun k_ => some k_ ≠ (s_.1 : Value).ownBlock ∧ some k_ ≠ (.slice Ao15 t320.length co15 : Value).ownBlock) s_.2.1 y362) ∧ (Kd.R Kd.string 9 w' w.heap.size (fun k_ => some k_ ≠ (.slice Ao74 t351.length co74 : Value).ownBlock ∧ some k_ ≠ (.slice Ao22 t329.length co22 : Value).ownBlock ∧ some k_ ≠ (.slice Ao28 t335.length co28 : Value).ownBlock) (.slice Ao11 t316.length co11) t316) ∧ (Kd.R (Kd.int .u8) 5 w' w.heap.size (fun k_ => some k_ ≠ (s_.1 : Value).ownBlock ∧ some k_ ≠ (s_.2.1 : Value).ownBlock) (.slice Ao15 t320.length co15) t320) ∧ (Kd.R Kd.string 9 w' w.heap.size (fun k_ => some k_ ≠ (.slice Ao74 t351.length co74 : Value).ownBlock ∧ some k_ ≠ (.slice Ao11 t316.length co11 : Value).ownBlock ∧ some k_ ≠ (.slice Ao28 t335.length co28 : Value).ownBlock) (.slice Ao22 t329.length co22) t329) ∧ (Kd.R Kd.string 9 w' w.heap.size (fun k_ => some k_ ≠ (.slice Ao74 t351.length co74 : Value).ownBlock ∧ some k_ ≠ (.slice Ao11 t316.length co11 : Value).ownBlock ∧ some k_ ≠ (.slice Ao22 t329.length co22 : Value).ownBlock) (.slice Ao28 t335.length co28) t335) ∧ (w'.heap[gb323]? = some (.cells #[.int .i64 t319, .slice Ao15 t320.length co15] 26 (0, 0))) ∧ (w'.heap[gb333]? = some (.cells #[.int .i64 t328, .slice Ao22 t329.length co22, .int .i64 t332] 36 (0, 0))) ∧ (w'.heap[gb339]? = some (.cells #[.int .i64 t334, .slice Ao28 t335.length co28, .int .i64 t338] 36 (0, 0))) ∧ (w'.heap[gb355]? = some (.cells #[.int .i64 t350, .slice Ao74 t351.length co74, .int .i64 t354] 36 (0, 0))) ∧ (w'.heap[s_.2.2]? = some (.cells #[.int .i64 0, .slice none 0 0, .int .i64 0] 36 (0, 0))) ∧ (w.heap.size ≤ s_.2.2) ∧ (w.heap.size ≤ s_.2.2) ∧ (gb323 ≠ s_.2.2) ∧ (s_.2.2 ≠ gb323) ∧ (gb333 ≠ s_.2.2) ∧ (s_.2.2 ≠ gb333) ∧ (gb339 ≠ s_.2.2) ∧ (s_.2.2 ≠ gb339) ∧ (gb355 ≠ s_.2.2) ∧ (s_.2.2 ≠ gb355) ∧ (Below w.heap.size w w')) ?_ ?_; rotate_left
                     ·
                      intro hJ0_4_10; refine join_ (σ := Value × Value) 5 #[Y',Y',Y',Y',Z',Z',Y',Y',Y',Z',Z',Z'] (fun s_ => [(101, s_.1), (104, s_.2)]) (fun s_ w' => (w'.cell? ⟨gb323, 0, none⟩ = some (.int .i64 t319) ∧ w'.cell? ⟨gb323, 1, none⟩ = some (.slice Ao15 t320.length co15)) ∧ (Kd.R Kd.string 9 w' w.heap.size (fun k_ => some k_ ≠ (.slice Ao11 t316.length co11 : Value).ownBlock ∧ some k_ ≠ (.slice Ao22 t329.length co22 : Value).ownBlock ∧ some k_ ≠ (.slice Ao28 t335.length co28 : Value).ownBlock) (.slice Ao74 t351.length co74) t351) ∧ (Kd.R (Kd.int .u8) 5 w' w.heap.size (fun k_ => some k_ ≠ (.slice Ao15 t320.length co15 : Value).ownBlock) s_.2 y359) ∧ (Kd.R Kd.string 9 w' w.heap.size (fun k_ => some k_ ≠ (.slice Ao74 t351.length co74 : Value).ownBlock ∧ some k_ ≠ (.slice Ao22 t329.length co22 : Value).ownBlock ∧ some k_ ≠ (.slice Ao28 t335.length co28 : Value).ownBlock) (.slice Ao11 t316.length co11) t316) ∧ (Kd.R (Kd.int .u8) 5 w' w.heap.size (fun k_ => some k_ ≠ (s_.2 : Value).ownBlock) (.slice Ao15 t320.length co15) t320) ∧ (Kd.R Kd.string 9 w' w.heap.size (fun k_ => some k_ ≠ (.slice Ao74 t351.length co74 : Value).ownBlock ∧ some k_ ≠ (.slice Ao11 t316.length co11 : Value).ownBlock ∧ some k_ ≠ (.slice Ao28 t335.length co28 : Value).ownBlock) (.slice Ao22 t329.length co22) t329) ∧ (Kd.R Kd.string 9 w' w.heap.size (fun k_ => some k_ ≠ (.slice Ao74 t351.length co74 : Value).ownBlock ∧ some k_ ≠ (.slice Ao11 t316.length co11 : Value).ownBlock ∧ some k_ ≠ (.slice Ao22 t329.length co22 : Value).ownBlock) (.slice Ao28 t335.length co28) t335) ∧ (w'.heap[gb323]? = some (.cells #[.int .i64 t319, .slice Ao15 t320.length co15] 26 (0, 0))) ∧ (w'.heap[gb333]? = some (.cells #[.int .i64 t328, .slice Ao22 t329.length co22, .int .i64 t332] 36 (0, 0))) ∧ (w'.heap[gb339]? = some (.cells #[.int .i64 t334, .slice Ao28 t335.length co28, .int .i64 t338] 36 (0, 0))) ∧ (w'.heap[gb355]? = some (.cells #[.int .i64 t350, .slice Ao74 t351.length co74, .int .i64 t354] 36 (0, 0))) ∧ (Below w.heap.size w w')) ?_ ?_; rotate_left
                      ·
                       intro hJ0_3; refine join_ (σ := Value × Value) 5 #[Y',Y',Y',Z',Y',Z',Y',Y',Y',Z',Z',Z'] (fun s_ => [(101, s_.1), (105, s_.2)]) (fun s_ w' => (w'.cell? ⟨gb323, 0, none⟩ = some (.int .i64 t319) ∧ w'.cell? ⟨gb323, 1, none⟩ = some (.slice Ao15 t320.length co15)) ∧ (Kd.R Kd.string 9 w' w.heap.size (fun k_ => some k_ ≠ (.slice Ao11 t316.length co11 : Value).ownBlock ∧ some k_ ≠ (.slice Ao22 t329.length co22 : Value).ownBlock ∧ some k_ ≠ (.slice Ao28 t335.length co28 : Value).ownBlock) (.slice Ao74 t351.length co74) t351) ∧ (Kd.R (Kd.int .u8) 5 w' w.heap.size (fun k_ => some k_ ≠ (s_.2 : Value).ownBlock ∧ some k_ ≠ (.slice Ao15 t320.length co15 : Value).ownBlock) s_.1 y356) ∧ (Kd.R (Kd.int .u8) 5 w' w.heap.size (fun k_ => some k_ ≠ (s_.1 : Value).ownBlock ∧ some k_ ≠ (.slice Ao15 t320.length co15 : Value).ownBlock) s_.2 y362) ∧ (Kd.R Kd.string 9 w' w.heap.size (fun k_ => some k_ ≠ (.slice Ao74 t351.length co74 : Value).ownBlock ∧ some k_ ≠ (.slice Ao22 t329.length co22 : Value).ownBlock ∧ some k_ ≠ (.slice Ao28 t335.length co28 : Value).ownBlock) (.slice Ao11 t316.length co11) t316) ∧ (Kd.R (Kd.int .u8) 5 w' w.heap.size (fun k_ => some k_ ≠ (s_.1 : Value).ownBlock ∧ some k_ ≠ (s_.2 : Value).ownBlock) (.slice Ao15 t320.length co15) t320) ∧ (Kd.R Kd.string 9 w' w.heap.size (fun k_ => some k_ ≠ (.slice Ao74 t351.length co74 : Value).ownBlock ∧ some k_ ≠ (.slice Ao11 t316.length co11 : Value).ownBlock ∧ some k_ ≠ (.slice Ao28 t335.length co28 : Value).ownBlock) (.slice Ao22 t329.length co22) t329) ∧ (Kd.R Kd.string 9 w' w.heap.size (fun k_ => some k_ ≠ (.slice Ao74 t351.length co74 : Value).ownBlock ∧ some k_ ≠ (.slice Ao11 t316.length co11 : Value).ownBlock ∧ some k_ ≠ (.slice Ao22 t329.length co22 : Value).ownBlock) (.slice Ao28 t335.length co28) t335) ∧ (w'.heap[gb323]? = some (.cells #[.int .i64 t319, .slice Ao15 t320.length co15] 26 (0, 0))) ∧ (w'.heap[gb333]? = some (.cells #[.int .i64 t328, .slice Ao22 t329.length co22, .int .i64 t332] 36 (0, 0))) ∧ (w'.heap[gb339]? = some (.cells #[.int .i64 t334, .slice Ao28 t335.length co28, .int .i64 t338] 36 (0, 0))) ∧ (w'.heap[gb355]? = some (.cells #[.int .i64 t350, .slice Ao74 t351.length co74, .int .i64 t354] 36 (0, 0))) ∧ (Below w.heap.size w w')) ?_ ?_; rotate_left
                       ·
                        intro hJ0_4; refine join_ (σ := Value × Nat) 5 #[Y',Y',Y',Z',Z',Z',Y',Y',Y',Z',Y',Z'] (fun s_ => [(101, s_.1), (11, .pointer (some ⟨s_.2, 0, none⟩))]) (fun s_ w' => (w'.cell? ⟨gb323, 0, none⟩ = some (.int .i64 t319) ∧ w'.cell? ⟨gb323, 1, none⟩ = some (.slice Ao15 t320.length co15)) ∧ (Kd.R Kd.string 9 w' w.heap.size (fun k_ => some k_ ≠ (.slice Ao11 t316.length co11 : Value).ownBlock ∧ some k_ ≠ (.slice Ao22 t329.length co22 : Value).ownBlock ∧ some k_ ≠ (.slice Ao28 t335.length co28 : Value).ownBlock) (.slice Ao74 t351.length co74) t351) ∧ (Kd.R (Kd.int .u8) 5 w' w.heap.size (fun k_ => some k_ ≠ (.slice Ao15 t320.length co15 : Value).ownBlock) s_.1 y356) ∧ (Kd.R Kd.string 9 w' w.heap.size (fun k_ => some k_ ≠ (.slice Ao74 t351.length co74 : Value).ownBlock ∧ some k_ ≠ (.slice Ao22 t329.length co22 : Value).ownBlock ∧ some k_ ≠ (.slice Ao28 t335.length co28 : Value).ownBlock) (.slice Ao11 t316.length co11) t316) ∧ (Kd.R (Kd.int .u8) 5 w' w.heap.size (fun k_ => some k_ ≠ (s_.1 : Value).ownBlock) (.slice Ao15 t320.length co15) t320) ∧ (Kd.R Kd.string 9 w' w.heap.size (fun k_ => some k_ ≠ (.slice Ao74 t351.length co74 : Value).ownBlock ∧ some k_ ≠ (.slice Ao11 t316.length co11 : Value).ownBlock ∧ some k_ ≠ (.slice Ao28 t335.length co28 : Value).ownBlock) (.slice Ao22 t329.length co22) t329) ∧ (Kd.R Kd.string 9 w' w.heap.size (fun k_ => some k_ ≠ (.slice Ao74 t351.length co74 : Value).ownBlock ∧ some k_ ≠ (.slice Ao11 t316.length co11 : Value).ownBlock ∧ some k_ ≠ (.slice Ao22 t329.length co22 : Value).ownBlock) (.slice Ao28 t335.length co28) t335) ∧ (w'.heap[gb323]? = some (.cells #[.int .i64 t319, .slice Ao15 t320.length co15] 26 (0, 0))) ∧ (w'.heap[gb333]? = some (.cells #[.int .i64 t328, .slice Ao22 t329.length co22, .int .i64 t332] 36 (0, 0))) ∧ (w'.heap[gb339]? = some (.cells #[.int .i64 t334, .slice Ao28 t335.length co28, .int .i64 t338] 36 (0, 0))) ∧ (w'.heap[gb355]? = some (.cells #[.int .i64 t350, .slice Ao74 t351.length co74, .int .i64 t354] 36 (0, 0))) ∧ (w'.heap[s_.2]? = some (.cells #[.int .i64 0, .slice none 0 0, .int .i64 0] 36 (0, 0))) ∧ (w.heap.size ≤ s_.2) ∧ (w.heap.size ≤ s_.2) ∧ (gb323 ≠ s_.2) ∧ (s_.2 ≠ gb323) ∧ (gb333 ≠ s_.2) ∧ (s_.2 ≠ gb333) ∧ (gb339 ≠ s_.2) ∧ (s_.2 ≠ gb339) ∧ (gb355 ≠ s_.2) ∧ (s_.2 ≠ gb355) ∧ (Below w.heap.size w w')) ?_ ?_; rotate_left
                        ·
                         intro hJ0_10; refine join_ (σ := Value × Nat) 5 #[Z',Y',Y',Z',Y',Z',Y',Y',Y',Z',Y',Z'] (fun s_ => [(105, s_.1), (11, .pointer (some ⟨s_.2, 0, none⟩))]) (fun s_ w' => (w'.cell? ⟨gb323, 0, none⟩ = some (.int .i64 t319) ∧ w'.cell? ⟨gb323, 1, none⟩ = some (.slice Ao15 t320.length co15)) ∧ (Kd.R Kd.string 9 w' w.heap.size (fun k_ => some k_ ≠ (.slice Ao11 t316.length co11 : Value).ownBlock ∧ some k_ ≠ (.slice Ao22 t329.length co22 : Value).ownBlock ∧ some k_ ≠ (.slice Ao28 t335.length co28 : Value).ownBlock) (.slice Ao74 t351.length co74) t351) ∧ (Kd.R (Kd.int .u8) 5 w' w.heap.size (fun k_ => some k_ ≠ (.slice Ao15 t320.length co15 : Value).ownBlock) s_.1 y362) ∧ (Kd.R Kd.string 9 w' w.heap.size (fun k_ => some k_ ≠ (.slice Ao74 t351.length co74 : Value).ownBlock ∧ some k_ ≠ (.slice Ao22 t329.length co22 : Value).ownBlock ∧ some k_ ≠ (.slice Ao28 t335.length co28 : Value).ownBlock) (.slice Ao11 t316.length co11) t316) ∧ (Kd.R (Kd.int .u8) 5 w' w.heap.size (fun k_ => some k_ ≠ (s_.1 : Value).ownBlock) (.slice Ao15 t320.length co15) t320) ∧ (Kd.R Kd.string 9 w' w.heap.size (fun k_ => some k_ ≠ (.slice Ao74 t351.length co74 : Value).ownBlock ∧ some k_ ≠ (.slice Ao11 t316.length co11 : Value).ownBlock ∧ some k_ ≠ (.slice Ao28 t335.length co28 : Value).ownBlock) (.slice Ao22 t329.length co22) t329) ∧ (Kd.R Kd.string 9 w' w.heap.size (fun k_ => some k_ ≠ (.slice Ao74 t351.length co74 : Value).ownBlock ∧ some k_ ≠ (.slice Ao11 t316.length co11 : Value).ownBlock ∧ some k_ ≠ (.slice Ao22 t329.length co22 : Value).ownBlock) (.slice Ao28 t335.length co28) t335) ∧ (w'.heap[gb323]? = some (.cells #[.int .i64 t319, .slice Ao15 t320.length co15] 26 (0, 0))) ∧ (w'.heap[gb333]? = some (.cells #[.int .i64 t328, .slice Ao22 t329.length co22, .int .i64 t332] 36 (0, 0))) ∧ (w'.heap[gb339]? = some (.cells #[.int .i64 t334, .slice Ao28 t335.length co28, .int .i64 t338] 36 (0, 0))) ∧ (w'.heap[gb355]? = some (.cells #[.int .i64 t350, .slice Ao74 t351.length co74, .int .i64 t354] 36 (0, 0))) ∧ (w'.heap[s_.2]? = some (.cells #[.int .i64 0, .slice none 0 0, .int .i64 0] 36 (0, 0))) ∧ (w.heap.size ≤ s_.2) ∧ (w.heap.size ≤ s_.2) ∧ (gb323 ≠ s_.2) ∧ (s_.2 ≠ gb323) ∧ (gb333 ≠ s_.2) ∧ (s_.2 ≠ gb333) ∧ (gb339 ≠ s_.2) ∧ (s_.2 ≠ gb339) ∧ (gb355 ≠ s_.2) ∧ (s_.2 ≠ gb355) ∧ (Below w.heap.size w w')) ?_ ?_; rotate_left
                         ·
                          intro hJ4_10; refine join_ (σ := Value) 6 #[Y',Y',Y',Z',Z',Z',Y',Y',Y',Z',Z',Z'] (fun s_ => [(101, s_)]) (fun s_ w' => (w'.cell? ⟨gb323, 0, none⟩ = some (.int .i64 t319) ∧ w'.cell? ⟨gb323, 1, none⟩ = some (.slice Ao15 t320.length co15)) ∧ (Kd.R Kd.string 9 w' w.heap.size (fun k_ => some k_ ≠ (.slice Ao11 t316.length co11 : Value).ownBlock ∧ some k_ ≠ (.slice Ao22 t329.length co22 : Value).ownBlock ∧ some k_ ≠ (.slice Ao28 t335.length co28 : Value).ownBlock) (.slice Ao74 t351.length co74) t351) ∧ (Kd.R (Kd.int .u8) 5 w' w.heap.size (fun k_ => some k_ ≠ (.slice Ao15 t320.length co15 : Value).ownBlock) s_ y356) ∧ (Kd.R Kd.string 9 w' w.heap.size (fun k_ => some k_ ≠ (.slice Ao74 t351.length co74 : Value).ownBlock ∧ some k_ ≠ (.slice Ao22 t329.length co22 : Value).ownBlock ∧ some k_ ≠ (.slice Ao28 t335.length co28 : Value).ownBlock) (.slice Ao11 t316.length co11) t316) ∧ (Kd.R (Kd.int .u8) 5 w' w.heap.size (fun k_ => some k_ ≠ (s_ : Value).ownBlock) (.slice Ao15 t320.length co15) t320) ∧ (Kd.R Kd.string 9 w' w.heap.size (fun k_ => some k_ ≠ (.slice Ao74 t351.length co74 : Value).ownBlock ∧ some k_ ≠ (.slice Ao11 t316.length co11 : Value).ownBlock ∧ some k_ ≠ (.slice Ao28 t335.length co28 : Value).ownBlock) (.slice Ao22 t329.length co22) t329) ∧ (Kd.R Kd.string 9 w' w.heap.size (fun k_ => some k_ ≠ (.slice Ao74 t351.length co74 : Value).ownBlock ∧ some k_ ≠ (.slice Ao11 t316.length co11 : Value).ownBlock ∧ some k_ ≠ (.slice Ao22 t329.length co22 : Value).ownBlock) (.slice Ao28 t335.length co28) t335) ∧ (w'.heap[gb323]? = some (.cells #[.int .i64 t319, .slice Ao15 t320.length co15] 26 (0, 0))) ∧ (w'.heap[gb333]? = some (.cells #[.int .i64 t328, .slice Ao22 t329.length co22, .int .i64 t332] 36 (0, 0))) ∧ (w'.heap[gb339]? = some (.cells #[.int .i64 t334, .slice Ao28 t335.length co28, .int .i64 t338] 36 (0, 0))) ∧ (w'.heap[gb355]? = some (.cells #[.int .i64 t350, .slice Ao74 t351.length co74, .int .i64 t354] 36 (0, 0))) ∧ (Below w.heap.size w w')) ?_ ?_; rotate_left
                          ·
                           intro hJ0; refine join_ (σ := Value) 6 #[Z',Y',Y',Z',Y',Z',Y',Y',Y',Z',Z',Z'] (fun s_ => [(105, s_)]) (fun s_ w' => (w'.cell? ⟨gb323, 0, none⟩ = some (.int .i64 t319) ∧ w'.cell? ⟨gb323, 1, none⟩ = some (.slice Ao15 t320.length co15)) ∧ (Kd.R Kd.string 9 w' w.heap.size (fun k_ => some k_ ≠ (.slice Ao11 t316.length co11 : Value).ownBlock ∧ some k_ ≠ (.slice Ao22 t329.length co22 : Value).ownBlock ∧ some k_ ≠ (.slice Ao28 t335.length co28 : Value).ownBlock) (.slice Ao74 t351.length co74) t351) ∧ (Kd.R (Kd.int .u8) 5 w' w.heap.size (fun k_ => some k_ ≠ (.slice Ao15 t320.length co15 : Value).ownBlock) s_ y362) ∧ (Kd.R Kd.string 9 w' w.heap.size (fun k_ => some k_ ≠ (.slice Ao74 t351.length co74 : Value).ownBlock ∧ some k_ ≠ (.slice Ao22 t329.length co22 : Value).ownBlock ∧ some k_ ≠ (.slice Ao28 t335.length co28 : Value).ownBlock) (.slice Ao11 t316.length co11) t316) ∧ (Kd.R (Kd.int .u8) 5 w' w.heap.size (fun k_ => some k_ ≠ (s_ : Value).ownBlock) (.slice Ao15 t320.length co15) t320) ∧ (Kd.R Kd.string 9 w' w.heap.size (fun k_ => some k_ ≠ (.slice Ao74 t351.length co74 : Value).ownBlock ∧ some k_ ≠ (.slice Ao11 t316.length co11 : Value).ownBlock ∧ some k_ ≠ (.slice Ao28 t335.length co28 : Value).ownBlock) (.slice Ao22 t329.length co22) t329) ∧ (Kd.R Kd.string 9 w' w.heap.size (fun k_ => some k_ ≠ (.slice Ao74 t351.length co74 : Value).ownBlock ∧ some k_ ≠ (.slice Ao11 t316.length co11 : Value).ownBlock ∧ some k_ ≠ (.slice Ao22 t329.length co22 : Value).ownBlock) (.slice Ao28 t335.length co28) t335) ∧ (w'.heap[gb323]? = some (.cells #[.int .i64 t319, .slice Ao15 t320.length co15] 26 (0, 0))) ∧ (w'.heap[gb333]? = some (.cells #[.int .i64 t328, .slice Ao22 t329.length co22, .int .i64 t332] 36 (0, 0))) ∧ (w'.heap[gb339]? = some (.cells #[.int .i64 t334, .slice Ao28 t335.length co28, .int .i64 t338] 36 (0, 0))) ∧ (w'.heap[gb355]? = some (.cells #[.int .i64 t350, .slice Ao74 t351.length co74, .int .i64 t354] 36 (0, 0))) ∧ (Below w.heap.size w w')) ?_ ?_; rotate_left
                           ·
                            intro hJ4; refine join_ (σ := Nat) 6 #[Z',Y',Y',Z',Z',Z',Y',Y',Y',Z',Y',Z'] (fun s_ => [(11, .pointer (some ⟨s_, 0, none⟩))]) (fun s_ w' => (w'.cell? ⟨gb323, 0, none⟩ = some (.int .i64 t319) ∧ w'.cell? ⟨gb323, 1, none⟩ = some (.slice Ao15 t320.length co15)) ∧ (Kd.R Kd.string 9 w' w.heap.size (fun k_ => some k_ ≠ (.slice Ao11 t316.length co11 : Value).ownBlock ∧ some k_ ≠ (.slice Ao22 t329.length co22 : Value).ownBlock ∧ some k_ ≠ (.slice Ao28 t335.length co28 : Value).ownBlock) (.slice Ao74 t351.length co74) t351) ∧ (Kd.R Kd.string 9 w' w.heap.size (fun k_ => some k_ ≠ (.slice Ao74 t351.length co74 : Value).ownBlock ∧ some k_ ≠ (.slice Ao22 t329.length co22 : Value).ownBlock ∧ some k_ ≠ (.slice Ao28 t335.length co28 : Value).ownBlock) (.slice Ao11 t316.length co11) t316) ∧ (Kd.R (Kd.int .u8) 5 w' w.heap.size (fun _ => True) (.slice Ao15 t320.length co15) t320) ∧ (Kd.R Kd.string 9 w' w.heap.size (fun k_ => some k_ ≠ (.slice Ao74 t351.length co74 : Value).ownBlock ∧ some k_ ≠ (.slice Ao11 t316.length co11 : Value).ownBlock ∧ some k_ ≠ (.slice Ao28 t335.length co28 : Value).ownBlock) (.slice Ao22 t329.length co22) t329) ∧ (Kd.R Kd.string 9 w' w.heap.size (fun k_ => some k_ ≠ (.slice Ao74 t351.length co74 : Value).ownBlock ∧ some k_ ≠ (.slice Ao11 t316.length co11 : Value).ownBlock ∧ some k_ ≠ (.slice Ao22 t329.length co22 : Value).ownBlock) (.slice Ao28 t335.length co28) t335) ∧ (w'.heap[gb323]? = some (.cells #[.int .i64 t319, .slice Ao15 t320.length co15] 26 (0, 0))) ∧ (w'.heap[gb333]? = some (.cells #[.int .i64 t328, .slice Ao22 t329.length co22, .int .i64 t332] 36 (0, 0))) ∧ (w'.heap[gb339]? = some (.cells #[.int .i64 t334, .slice Ao28 t335.length co28, .int .i64 t338] 36 (0, 0))) ∧ (w'.heap[gb355]? = some (.cells #[.int .i64 t350, .slice Ao74 t351.length co74, .int .i64 t354] 36 (0, 0))) ∧ (w'.heap[s_]? = some (.cells #[.int .i64 0, .slice none 0 0, .int .i64 0] 36 (0, 0))) ∧ (w.heap.size ≤ s_) ∧ (w.heap.size ≤ s_) ∧ (gb323 ≠ s_) ∧ (s_ ≠ gb323) ∧ (gb333 ≠ s_) ∧ (s_ ≠ gb333) ∧ (gb339 ≠ s_) ∧ (s_ ≠ gb339) ∧ (gb355 ≠ s_) ∧ (s_ ≠ gb355) ∧ (Below w.heap.size w w')) ?_ ?_; rotate_left
                            ·
                             intro hJ10; refine three_ (i := 0) (j := 4) (k := 10) (Ni := some 101) (Nj := some 105) (Nk := some 11) #[Y',Y',Y',Z',Z',Z',Y',Y',Y',Z',Z',Z'] #[Z',Y',Y',Z',Y',Z',Y',Y',Y',Z',Z',Z'] #[Z',Y',Y',Z',Z',Z',Y',Y',Y',Z',Y',Z'] rfl rfl rfl rfl rfl rfl (three_of HT_.out (by kernel_rfl)) (by decide) (by decide) (by decide) (fun K hK => ?_) (fun K hK => ?_) (fun K hK => ?_)
                             ·
                              refine Kd.R_lit_step (Kd.int .u8) _ 5 ?hg (N := 101) ?hd (xs := ([] : List Int)) (inner := []) (ok := fun _ => True) (okp := fun _ => True) ?hr ?hp (fun _ hk => hk) trivial (Below.refl _ _) (Nat.le_refl _) (by simp) ?_; (case hd => rfl); (case hg => rfl); (case hr => first | (go_simp; done) | (go_simp; rfl)); (case hp => exact (Reps.none _ _)); intro v357 w77 ho78 hb hg_ hnew_; clear hg_ hnew_; (first | rw [← Ny356.out] at ho78 | (simp only [Int.reduceToNat] at ho78; rw [← Ny356.out] at ho78)); replace HO_3 := Aside0.mk (Kd.R_below (R_a HO_3.out) hb); have n1_ := Aside0.mk (Kd.R_elder' (R_a HO_324001.out) (Kd.R_base ho78) hb); replace HO_334001 := Aside0.mk (Kd.R_below (R_a HO_334001.out) hb); replace HO_340001 := Aside0.mk (Kd.R_below (R_a HO_340001.out) hb); replace HO353 := Aside0.mk (Kd.R_below (R_a HO353.out) hb); have HO358 := Aside0.mk (Kd.R_lower (Kd.R_new' ho78 (Kd.R_lt (R_a HO_324001.out))) (below_size below_a)); replace BK323 := Aside0.mk (blk_below (g := gb323) blk_c hb); replace BK333 := Aside0.mk (blk_below (g := gb333) blk_c hb); replace BK339 := Aside0.mk (blk_below (g := gb339) blk_c hb); replace BK355 := Aside0.mk (blk_below (g := gb355) blk_c hb); replace HB := Aside0.mk (below_step below_a hb); replace HO_324001 := n1_; clear n1_ hb ho78; refine hK.out _ _ ⟨(blk_cell BK323.out 0).trans rfl, (blk_cell BK323.out 1).trans rfl⟩ (fun hHeld => ?_); clear hK K; refine norm_ (a' := ?_) ?_ ?_; rotate_left
                              ·
                               show Act.put _ (some 101) _ = _; simp only [Act.put, List.setIfInBounds_toArray, List.set_cons_zero, List.set_cons_succ, i64_w, i32_w]; rfl
                              exact norm_ (by first | (simp only [putAll, Act.put, List.setIfInBounds_toArray, List.set_cons_zero, List.set_cons_succ]; done) | (simp only [putAll, Act.put, List.setIfInBounds_toArray, List.set_cons_zero, List.set_cons_succ]; rfl)) (hJ0 (v357) _ ⟨hHeld, (R_a HO353.out), (by (with_reducible repeat (first | apply Kd.R_alloc | apply Kd.R_drewN | apply Kd.R_drew)); exact Kd.R_mono HO358.out (fun _ hk => hk.2)), (by (with_reducible repeat (first | apply Kd.R_alloc | apply Kd.R_drewN | apply Kd.R_drew)); exact Kd.R_mono HO_3.out (fun _ hk => ⟨hk.2.2, ⟨hk.1, hk.2.1⟩⟩)), (by (with_reducible repeat (first | apply Kd.R_alloc | apply Kd.R_drewN | apply Kd.R_drew)); exact Kd.R_mono HO_324001.out (fun _ hk => hk.2)), (by (with_reducible repeat (first | apply Kd.R_alloc | apply Kd.R_drewN | apply Kd.R_drew)); exact Kd.R_mono HO_334001.out (fun _ hk => ⟨hk.2.2, ⟨hk.1, hk.2.1⟩⟩)), (by (with_reducible repeat (first | apply Kd.R_alloc | apply Kd.R_drewN | apply Kd.R_drew)); exact Kd.R_mono HO_340001.out (fun _ hk => ⟨hk.2.2, ⟨hk.1, hk.2.1⟩⟩)), blk_a, blk_a, blk_a, blk_a, below_a⟩)
                             ·
                              refine Kd.R_lit_step (Kd.int .u8) _ 5 ?hg (N := 105) ?hd (xs := ([192, 0] : List Int)) (inner := [.int .u8 192, .int .u8 0]) (ok := fun _ => True) (okp := fun _ => True) ?hr ?hp (fun _ hk => hk) trivial (Below.refl _ _) (Nat.le_refl _) (by simp) ?_; (case hd => rfl); (case hg => rfl); (case hr => first | (go_simp; done) | (go_simp; rfl)); (case hp => exact (Reps.one (show Kd.M (Kd.int .u8) _ _ _ 192 [.int .u8 192] from rfl) (Reps.one (show Kd.M (Kd.int .u8) _ _ _ 0 [.int .u8 0] from rfl) (Reps.none _ _)))); intro v363 w77 ho78 hb hg_ hnew_; clear hg_ hnew_; (first | rw [← Ny362.out] at ho78 | (simp only [Int.reduceToNat] at ho78; rw [← Ny362.out] at ho78)); replace HO_3 := Aside0.mk (Kd.R_below (R_a HO_3.out) hb); have n1_ := Aside0.mk (Kd.R_elder' (R_a HO_324001.out) (Kd.R_base ho78) hb); replace HO_334001 := Aside0.mk (Kd.R_below (R_a HO_334001.out) hb); replace HO_340001 := Aside0.mk (Kd.R_below (R_a HO_340001.out) hb); replace HO353 := Aside0.mk (Kd.R_below (R_a HO353.out) hb); have HO364 := Aside0.mk (Kd.R_lower (Kd.R_new' ho78 (Kd.R_lt (R_a HO_324001.out))) (below_size below_a)); replace BK323 := Aside0.mk (blk_below (g := gb323) blk_c hb); replace BK333 := Aside0.mk (blk_below (g := gb333) blk_c hb); replace BK339 := Aside0.mk (blk_below (g := gb339) blk_c hb); replace BK355 := Aside0.mk (blk_below (g := gb355) blk_c hb); replace HB := Aside0.mk (below_step below_a hb); replace HO_324001 := n1_; clear n1_ hb ho78; refine hK.out _ _ ⟨(blk_cell BK323.out 0).trans rfl, (blk_cell BK323.out 1).trans rfl⟩ (fun hHeld => ?_); clear hK K; refine norm_ (a' := ?_) ?_ ?_; rotate_left
                              ·
                               show Act.put _ (some 105) _ = _; simp only [Act.put, List.setIfInBounds_toArray, List.set_cons_zero, List.set_cons_succ, i64_w, i32_w]; rfl
                              exact norm_ (by first | (simp only [putAll, Act.put, List.setIfInBounds_toArray, List.set_cons_zero, List.set_cons_succ]; done) | (simp only [putAll, Act.put, List.setIfInBounds_toArray, List.set_cons_zero, List.set_cons_succ]; rfl)) (hJ4 (v363) _ ⟨hHeld, (R_a HO353.out), (by (with_reducible repeat (first | apply Kd.R_alloc | apply Kd.R_drewN | apply Kd.R_drew)); exact Kd.R_mono HO364.out (fun _ hk => hk.2)), (by (with_reducible repeat (first | apply Kd.R_alloc | apply Kd.R_drewN | apply Kd.R_drew)); exact Kd.R_mono HO_3.out (fun _ hk => ⟨hk.2.2, ⟨hk.1, hk.2.1⟩⟩)), (by (with_reducible repeat (first | apply Kd.R_alloc | apply Kd.R_drewN | apply Kd.R_drew)); exact Kd.R_mono HO_324001.out (fun _ hk => hk.2)), (by (with_reducible repeat (first | apply Kd.R_alloc | apply Kd.R_drewN | apply Kd.R_drew)); exact Kd.R_mono HO_334001.out (fun _ hk => ⟨hk.2.2, ⟨hk.1, hk.2.1⟩⟩)), (by (with_reducible repeat (first | apply Kd.R_alloc | apply Kd.R_drewN | apply Kd.R_drew)); exact Kd.R_mono HO_340001.out (fun _ hk => ⟨hk.2.2, ⟨hk.1, hk.2.1⟩⟩)), blk_a, blk_a, blk_a, blk_a, below_a⟩)
                             ·
                              refine box_step ?hg (N := 11) ?hd (cs := #[.int .i64 0, .slice none 0 0, .int .i64 0]) (t := 36) ?hr ?_; (case hd => rfl); (case hg => rfl); (case hr => first | (go_simp; done) | (go_simp; rfl)); intro gb373 hg w77 hbox hb; replace HO_3 := Aside0.mk (Kd.R_below (R_a HO_3.out) hb); replace HO_324001 := Aside0.mk (Kd.R_below (R_a HO_324001.out) hb); replace HO_334001 := Aside0.mk (Kd.R_below (R_a HO_334001.out) hb); replace HO_340001 := Aside0.mk (Kd.R_below (R_a HO_340001.out) hb); replace HO353 := Aside0.mk (Kd.R_below (R_a HO353.out) hb); have n5_ := Aside0.mk (blk_below (g := gb323) blk_c hb); have n6_ := Aside0.mk (blk_below (g := gb333) blk_c hb); have n7_ := Aside0.mk (blk_below (g := gb339) blk_c hb); have n8_ := Aside0.mk (blk_below (g := gb355) blk_c hb); have n9_ := Aside0.mk (below_step below_a hb); have BK373 := Aside0.mk (hbox); have GW373 := Aside0.mk (bsz_ (w := w) hg); have GE373 := Aside0.mk (bsz_ (w := w) hg); have NB323_373 := Aside0.mk (bne_ (g := gb323) hg); have NB373_323 := Aside0.mk (bne_ (g := gb323) hg).symm; have NB333_373 := Aside0.mk (bne_ (g := gb333) hg); have NB373_333 := Aside0.mk (bne_ (g := gb333) hg).symm; have NB339_373 := Aside0.mk (bne_ (g := gb339) hg); have NB373_339 := Aside0.mk (bne_ (g := gb339) hg).symm; have NB355_373 := Aside0.mk (bne_ (g := gb355) hg); have NB373_355 := Aside0.mk (bne_ (g := gb355) hg).symm; replace BK323 := n5_; replace BK333 := n6_; replace BK339 := n7_; replace BK355 := n8_; replace HB := n9_; clear n5_ n6_ n7_ n8_ n9_ hb hbox hg; refine hK.out _ _ ⟨(blk_cell BK323.out 0).trans rfl, (blk_cell BK323.out 1).trans rfl⟩ (fun hHeld => ?_); clear hK K; refine norm_ (a' := ?_) ?_ ?_; rotate_left
                              ·
                               show Act.put _ (some 11) _ = _; simp only [Act.put, List.setIfInBounds_toArray, List.set_cons_zero, List.set_cons_succ, i64_w, i32_w]; rfl
                              exact norm_ (by first | (simp only [putAll, Act.put, List.setIfInBounds_toArray, List.set_cons_zero, List.set_cons_succ]; done) | (simp only [putAll, Act.put, List.setIfInBounds_toArray, List.set_cons_zero, List.set_cons_succ]; rfl)) (hJ10 (gb373) _ ⟨hHeld, (R_a HO353.out), (by (with_reducible repeat (first | apply Kd.R_alloc | apply Kd.R_drewN | apply Kd.R_drew)); exact Kd.R_mono HO_3.out (fun _ hk => ⟨hk.2.2, ⟨hk.1, hk.2.1⟩⟩)), (R_a HO_324001.out), (by (with_reducible repeat (first | apply Kd.R_alloc | apply Kd.R_drewN | apply Kd.R_drew)); exact Kd.R_mono HO_334001.out (fun _ hk => ⟨hk.2.2, ⟨hk.1, hk.2.1⟩⟩)), (by (with_reducible repeat (first | apply Kd.R_alloc | apply Kd.R_drewN | apply Kd.R_drew)); exact Kd.R_mono HO_340001.out (fun _ hk => ⟨hk.2.2, ⟨hk.1, hk.2.1⟩⟩)), blk_a, blk_a, blk_a, blk_a, blk_a, GW373.out, GE373.out, NB323_373.out, NB373_323.out, NB333_373.out, NB373_333.out, NB339_373.out, NB373_339.out, NB355_373.out, NB373_355.out, below_a⟩)
                            ·
                             rintro gb373 w78 ⟨hS_, h0_, h1_, h2_, h3_, h4_, h5_, h6_, h7_, h8_, h9_, h10_, h11_, h12_, h13_, h14_, h15_, h16_, h17_, h18_, h19_, h20_⟩
                             try dsimp only at hS_ h0_ h1_ h2_ h3_ h4_ h5_ h6_ h7_ h8_ h9_ h10_ h11_ h12_ h13_ h14_ h15_ h16_ h17_ h18_ h19_ h20_
                             clear HO_3 HO_324001 HO_334001 HO_340001 HO353 BK323 BK333 BK339 BK355 HB; have HO353 := Aside0.mk h0_; have HO_3 := Aside0.mk h1_; have HO_324001 := Aside0.mk h2_; have HO_334001 := Aside0.mk h3_; have HO_340001 := Aside0.mk h4_; have BK323 := Aside0.mk h5_; have BK333 := Aside0.mk h6_; have BK339 := Aside0.mk h7_; have BK355 := Aside0.mk h8_; have BK373 := Aside0.mk h9_; have GW373 := Aside0.mk h10_; have GE373 := Aside0.mk h11_; have NB323_373 := Aside0.mk h12_; have NB373_323 := Aside0.mk h13_; have NB333_373 := Aside0.mk h14_; have NB373_333 := Aside0.mk h15_; have NB339_373 := Aside0.mk h16_; have NB373_339 := Aside0.mk h17_; have NB355_373 := Aside0.mk h18_; have NB373_355 := Aside0.mk h19_; have HB := Aside0.mk h20_; clear h0_ h1_ h2_ h3_ h4_ h5_ h6_ h7_ h8_ h9_ h10_ h11_ h12_ h13_ h14_ h15_ h16_ h17_ h18_ h19_ h20_; have hHeld : w78.cell? ⟨gb323, 0, none⟩ = some (.int .i64 t319) ∧ w78.cell? ⟨gb323, 1, none⟩ = some (.slice Ao15 t320.length co15) := hS_; refine norm_ (a' := ?_) ?_ ?_; rotate_left
                             ·
                              simp only [putAll, Act.put, List.setIfInBounds_toArray, List.set_cons_zero, List.set_cons_succ]; rfl
                             refine two_ (i := 0) (j := 4) (Ni := some 101) (Nj := some 105) #[Y',Y',Y',Z',Z',Z',Y',Y',Y',Z',Y',Z'] #[Z',Y',Y',Z',Y',Z',Y',Y',Y',Z',Y',Z'] rfl rfl rfl rfl (two_of HT_.out (by kernel_rfl)) (by decide) (by decide) (fun K hK => ?_) (fun K hK => ?_)
                             ·
                              refine Kd.R_lit_step (Kd.int .u8) _ 5 ?hg (N := 101) ?hd (xs := ([] : List Int)) (inner := []) (ok := fun _ => True) (okp := fun _ => True) ?hr ?hp (fun _ hk => hk) trivial (Below.refl _ _) (Nat.le_refl _) (by simp) ?_; (case hd => rfl); (case hg => rfl); (case hr => first | (go_simp; done) | (go_simp; rfl)); (case hp => exact (Reps.none _ _)); intro v357 w79 ho80 hb hg_ hnew_; clear hg_ hnew_; (first | rw [← Ny356.out] at ho80 | (simp only [Int.reduceToNat] at ho80; rw [← Ny356.out] at ho80)); replace HO_3 := Aside0.mk (Kd.R_below (R_a HO_3.out) hb); have n1_ := Aside0.mk (Kd.R_elder' (R_a HO_324001.out) (Kd.R_base ho80) hb); replace HO_334001 := Aside0.mk (Kd.R_below (R_a HO_334001.out) hb); replace HO_340001 := Aside0.mk (Kd.R_below (R_a HO_340001.out) hb); replace HO353 := Aside0.mk (Kd.R_below (R_a HO353.out) hb); have HO358 := Aside0.mk (Kd.R_lower (Kd.R_new' ho80 (Kd.R_lt (R_a HO_324001.out))) (below_size below_a)); replace BK323 := Aside0.mk (blk_below (g := gb323) blk_c hb); replace BK333 := Aside0.mk (blk_below (g := gb333) blk_c hb); replace BK339 := Aside0.mk (blk_below (g := gb339) blk_c hb); replace BK355 := Aside0.mk (blk_below (g := gb355) blk_c hb); replace BK373 := Aside0.mk (blk_below (g := gb373) blk_c hb); replace HB := Aside0.mk (below_step below_a hb); replace HO_324001 := n1_; clear n1_ hb ho80; refine hK.out _ _ ⟨(blk_cell BK323.out 0).trans rfl, (blk_cell BK323.out 1).trans rfl⟩ (fun hHeld => ?_); clear hK K; refine norm_ (a' := ?_) ?_ ?_; rotate_left
                              ·
                               show Act.put _ (some 101) _ = _; simp only [Act.put, List.setIfInBounds_toArray, List.set_cons_zero, List.set_cons_succ, i64_w, i32_w]; rfl
                              exact norm_ (by first | (simp only [putAll, Act.put, List.setIfInBounds_toArray, List.set_cons_zero, List.set_cons_succ]; done) | (simp only [putAll, Act.put, List.setIfInBounds_toArray, List.set_cons_zero, List.set_cons_succ]; rfl)) (hJ0_10 (v357, gb373) _ ⟨hHeld, (R_a HO353.out), (by (with_reducible repeat (first | apply Kd.R_alloc | apply Kd.R_drewN | apply Kd.R_drew)); exact Kd.R_mono HO358.out (fun _ hk => hk.2)), (R_a HO_3.out), (by (with_reducible repeat (first | apply Kd.R_alloc | apply Kd.R_drewN | apply Kd.R_drew)); exact Kd.R_mono HO_324001.out (fun _ hk => hk.2)), (R_a HO_334001.out), (R_a HO_340001.out), blk_a, blk_a, blk_a, blk_a, blk_a, GW373.out, GE373.out, NB323_373.out, NB373_323.out, NB333_373.out, NB373_333.out, NB339_373.out, NB373_339.out, NB355_373.out, NB373_355.out, below_a⟩)
                             ·
                              refine Kd.R_lit_step (Kd.int .u8) _ 5 ?hg (N := 105) ?hd (xs := ([192, 0] : List Int)) (inner := [.int .u8 192, .int .u8 0]) (ok := fun _ => True) (okp := fun _ => True) ?hr ?hp (fun _ hk => hk) trivial (Below.refl _ _) (Nat.le_refl _) (by simp) ?_; (case hd => rfl); (case hg => rfl); (case hr => first | (go_simp; done) | (go_simp; rfl)); (case hp => exact (Reps.one (show Kd.M (Kd.int .u8) _ _ _ 192 [.int .u8 192] from rfl) (Reps.one (show Kd.M (Kd.int .u8) _ _ _ 0 [.int .u8 0] from rfl) (Reps.none _ _)))); intro v363 w79 ho80 hb hg_ hnew_; clear hg_ hnew_; (first | rw [← Ny362.out] at ho80 | (simp only [Int.reduceToNat] at ho80; rw [← Ny362.out] at ho80)); replace HO_3 := Aside0.mk (Kd.R_below (R_a HO_3.out) hb); have n1_ := Aside0.mk (Kd.R_elder' (R_a HO_324001.out) (Kd.R_base ho80) hb); replace HO_334001 := Aside0.mk (Kd.R_below (R_a HO_334001.out) hb); replace HO_340001 := Aside0.mk (Kd.R_below (R_a HO_340001.out) hb); replace HO353 := Aside0.mk (Kd.R_below (R_a HO353.out) hb); have HO364 := Aside0.mk (Kd.R_lower (Kd.R_new' ho80 (Kd.R_lt (R_a HO_324001.out))) (below_size below_a)); replace BK323 := Aside0.mk (blk_below (g := gb323) blk_c hb); replace BK333 := Aside0.mk (blk_below (g := gb333) blk_c hb); replace BK339 := Aside0.mk (blk_below (g := gb339) blk_c hb); replace BK355 := Aside0.mk (blk_below (g := gb355) blk_c hb); replace BK373 := Aside0.mk (blk_below (g := gb373) blk_c hb); replace HB := Aside0.mk (below_step below_a hb); replace HO_324001 := n1_; clear n1_ hb ho80; refine hK.out _ _ ⟨(blk_cell BK323.out 0).trans rfl, (blk_cell BK323.out 1).trans rfl⟩ (fun hHeld => ?_); clear hK K; refine norm_ (a' := ?_) ?_ ?_; rotate_left
                              ·
                               show Act.put _ (some 105) _ = _; simp only [Act.put, List.setIfInBounds_toArray, List.set_cons_zero, List.set_cons_succ, i64_w, i32_w]; rfl
                              exact norm_ (by first | (simp only [putAll, Act.put, List.setIfInBounds_toArray, List.set_cons_zero, List.set_cons_succ]; done) | (simp only [putAll, Act.put, List.setIfInBounds_toArray, List.set_cons_zero, List.set_cons_succ]; rfl)) (hJ4_10 (v363, gb373) _ ⟨hHeld, (R_a HO353.out), (by (with_reducible repeat (first | apply Kd.R_alloc | apply Kd.R_drewN | apply Kd.R_drew)); exact Kd.R_mono HO364.out (fun _ hk => hk.2)), (R_a HO_3.out), (by (with_reducible repeat (first | apply Kd.R_alloc | apply Kd.R_drewN | apply Kd.R_drew)); exact Kd.R_mono HO_324001.out (fun _ hk => hk.2)), (R_a HO_334001.out), (R_a HO_340001.out), blk_a, blk_a, blk_a, blk_a, blk_a, GW373.out, GE373.out, NB323_373.out, NB373_323.out, NB333_373.out, NB373_333.out, NB339_373.out, NB373_339.out, NB355_373.out, NB373_355.out, below_a⟩)
                           ·
                            rintro v363 w79 ⟨hS_, h0_, h1_, h2_, h3_, h4_, h5_, h6_, h7_, h8_, h9_, h10_⟩
                            try dsimp only at hS_ h0_ h1_ h2_ h3_ h4_ h5_ h6_ h7_ h8_ h9_ h10_
                            clear HO_3 HO_324001 HO_334001 HO_340001 HO353 BK323 BK333 BK339 BK355 HB; have HO353 := Aside0.mk h0_; have HO364 := Aside0.mk h1_; have HO_3 := Aside0.mk h2_; have HO_324001 := Aside0.mk h3_; have HO_334001 := Aside0.mk h4_; have HO_340001 := Aside0.mk h5_; have BK323 := Aside0.mk h6_; have BK333 := Aside0.mk h7_; have BK339 := Aside0.mk h8_; have BK355 := Aside0.mk h9_; have HB := Aside0.mk h10_; clear h0_ h1_ h2_ h3_ h4_ h5_ h6_ h7_ h8_ h9_ h10_; have hHeld : w79.cell? ⟨gb323, 0, none⟩ = some (.int .i64 t319) ∧ w79.cell? ⟨gb323, 1, none⟩ = some (.slice Ao15 t320.length co15) := hS_; refine norm_ (a' := ?_) ?_ ?_; rotate_left
                            ·
                             simp only [putAll, Act.put, List.setIfInBounds_toArray, List.set_cons_zero, List.set_cons_succ]; rfl
                            refine two_ (i := 0) (j := 10) (Ni := some 101) (Nj := some 11) #[Y',Y',Y',Z',Y',Z',Y',Y',Y',Z',Z',Z'] #[Z',Y',Y',Z',Y',Z',Y',Y',Y',Z',Y',Z'] rfl rfl rfl rfl (two_of HT_.out (by kernel_rfl)) (by decide) (by decide) (fun K hK => ?_) (fun K hK => ?_)
                            ·
                             refine Kd.R_lit_step (Kd.int .u8) _ 5 ?hg (N := 101) ?hd (xs := ([] : List Int)) (inner := []) (ok := fun _ => True) (okp := fun _ => True) ?hr ?hp (fun _ hk => hk) trivial (Below.refl _ _) (Nat.le_refl _) (by simp) ?_; (case hd => rfl); (case hg => rfl); (case hr => first | (go_simp; done) | (go_simp; rfl)); (case hp => exact (Reps.none _ _)); intro v357 w80 ho81 hb hg_ hnew_; clear hg_ hnew_; (first | rw [← Ny356.out] at ho81 | (simp only [Int.reduceToNat] at ho81; rw [← Ny356.out] at ho81)); replace HO_3 := Aside0.mk (Kd.R_below (R_a HO_3.out) hb); have n1_ := Aside0.mk (Kd.R_elder' (R_a HO_324001.out) (Kd.R_base ho81) hb); replace HO_334001 := Aside0.mk (Kd.R_below (R_a HO_334001.out) hb); replace HO_340001 := Aside0.mk (Kd.R_below (R_a HO_340001.out) hb); replace HO353 := Aside0.mk (Kd.R_below (R_a HO353.out) hb); have n5_ := Aside0.mk (Kd.R_elder' (R_a HO364.out) (Kd.R_base ho81) hb); have HO358 := Aside0.mk (Kd.R_lower (Kd.R_new' (Kd.R_new' ho81 (Kd.R_lt (R_a HO_324001.out))) (Kd.R_lt (R_a HO364.out))) (below_size below_a)); replace BK323 := Aside0.mk (blk_below (g := gb323) blk_c hb); replace BK333 := Aside0.mk (blk_below (g := gb333) blk_c hb); replace BK339 := Aside0.mk (blk_below (g := gb339) blk_c hb); replace BK355 := Aside0.mk (blk_below (g := gb355) blk_c hb); replace HB := Aside0.mk (below_step below_a hb); replace HO_324001 := n1_; replace HO364 := n5_; clear n1_ n5_ hb ho81; refine hK.out _ _ ⟨(blk_cell BK323.out 0).trans rfl, (blk_cell BK323.out 1).trans rfl⟩ (fun hHeld => ?_); clear hK K; refine norm_ (a' := ?_) ?_ ?_; rotate_left
                             ·
                              show Act.put _ (some 101) _ = _; simp only [Act.put, List.setIfInBounds_toArray, List.set_cons_zero, List.set_cons_succ, i64_w, i32_w]; rfl
                             exact norm_ (by first | (simp only [putAll, Act.put, List.setIfInBounds_toArray, List.set_cons_zero, List.set_cons_succ]; done) | (simp only [putAll, Act.put, List.setIfInBounds_toArray, List.set_cons_zero, List.set_cons_succ]; rfl)) (hJ0_4 (v357, v363) _ ⟨hHeld, (R_a HO353.out), (by (with_reducible repeat (first | apply Kd.R_alloc | apply Kd.R_drewN | apply Kd.R_drew)); exact Kd.R_mono HO358.out (fun _ hk => ⟨hk.2, hk.1.2⟩)), (by (with_reducible repeat (first | apply Kd.R_alloc | apply Kd.R_drewN | apply Kd.R_drew)); exact Kd.R_mono HO364.out (fun _ hk => ⟨hk.2, hk.1⟩)), (R_a HO_3.out), (by (with_reducible repeat (first | apply Kd.R_alloc | apply Kd.R_drewN | apply Kd.R_drew)); exact Kd.R_mono HO_324001.out (fun _ hk => ⟨hk.2, hk.1⟩)), (R_a HO_334001.out), (R_a HO_340001.out), blk_a, blk_a, blk_a, blk_a, below_a⟩)
                            ·
                             refine box_step ?hg (N := 11) ?hd (cs := #[.int .i64 0, .slice none 0 0, .int .i64 0]) (t := 36) ?hr ?_; (case hd => rfl); (case hg => rfl); (case hr => first | (go_simp; done) | (go_simp; rfl)); intro gb373 hg w80 hbox hb; replace HO_3 := Aside0.mk (Kd.R_below (R_a HO_3.out) hb); replace HO_324001 := Aside0.mk (Kd.R_below (R_a HO_324001.out) hb); replace HO_334001 := Aside0.mk (Kd.R_below (R_a HO_334001.out) hb); replace HO_340001 := Aside0.mk (Kd.R_below (R_a HO_340001.out) hb); replace HO353 := Aside0.mk (Kd.R_below (R_a HO353.out) hb); replace HO364 := Aside0.mk (Kd.R_below (R_a HO364.out) hb); have n6_ := Aside0.mk (blk_below (g := gb323) blk_c hb); have n7_ := Aside0.mk (blk_below (g := gb333) blk_c hb); have n8_ := Aside0.mk (blk_below (g := gb339) blk_c hb); have n9_ := Aside0.mk (blk_below (g := gb355) blk_c hb); have n10_ := Aside0.mk (below_step below_a hb); have BK373 := Aside0.mk (hbox); have GW373 := Aside0.mk (bsz_ (w := w) hg); have GE373 := Aside0.mk (bsz_ (w := w) hg); have NB323_373 := Aside0.mk (bne_ (g := gb323) hg); have NB373_323 := Aside0.mk (bne_ (g := gb323) hg).symm; have NB333_373 := Aside0.mk (bne_ (g := gb333) hg); have NB373_333 := Aside0.mk (bne_ (g := gb333) hg).symm; have NB339_373 := Aside0.mk (bne_ (g := gb339) hg); have NB373_339 := Aside0.mk (bne_ (g := gb339) hg).symm; have NB355_373 := Aside0.mk (bne_ (g := gb355) hg); have NB373_355 := Aside0.mk (bne_ (g := gb355) hg).symm; replace BK323 := n6_; replace BK333 := n7_; replace BK339 := n8_; replace BK355 := n9_; replace HB := n10_; clear n6_ n7_ n8_ n9_ n10_ hb hbox hg; refine hK.out _ _ ⟨(blk_cell BK323.out 0).trans rfl, (blk_cell BK323.out 1).trans rfl⟩ (fun hHeld => ?_); clear hK K; refine norm_ (a' := ?_) ?_ ?_; rotate_left
                             ·
                              show Act.put _ (some 11) _ = _; simp only [Act.put, List.setIfInBounds_toArray, List.set_cons_zero, List.set_cons_succ, i64_w, i32_w]; rfl
                             exact norm_ (by first | (simp only [putAll, Act.put, List.setIfInBounds_toArray, List.set_cons_zero, List.set_cons_succ]; done) | (simp only [putAll, Act.put, List.setIfInBounds_toArray, List.set_cons_zero, List.set_cons_succ]; rfl)) (hJ4_10 (v363, gb373) _ ⟨hHeld, (R_a HO353.out), (R_a HO364.out), (R_a HO_3.out), (R_a HO_324001.out), (R_a HO_334001.out), (R_a HO_340001.out), blk_a, blk_a, blk_a, blk_a, blk_a, GW373.out, GE373.out, NB323_373.out, NB373_323.out, NB333_373.out, NB373_333.out, NB339_373.out, NB373_339.out, NB355_373.out, NB373_355.out, below_a⟩)
                          ·
                           rintro v357 w79 ⟨hS_, h0_, h1_, h2_, h3_, h4_, h5_, h6_, h7_, h8_, h9_, h10_⟩
                           try dsimp only at hS_ h0_ h1_ h2_ h3_ h4_ h5_ h6_ h7_ h8_ h9_ h10_
                           clear HO_3 HO_324001 HO_334001 HO_340001 HO353 BK323 BK333 BK339 BK355 HB; have HO353 := Aside0.mk h0_; have HO358 := Aside0.mk h1_; have HO_3 := Aside0.mk h2_; have HO_324001 := Aside0.mk h3_; have HO_334001 := Aside0.mk h4_; have HO_340001 := Aside0.mk h5_; have BK323 := Aside0.mk h6_; have BK333 := Aside0.mk h7_; have BK339 := Aside0.mk h8_; have BK355 := Aside0.mk h9_; have HB := Aside0.mk h10_; clear h0_ h1_ h2_ h3_ h4_ h5_ h6_ h7_ h8_ h9_ h10_; have hHeld : w79.cell? ⟨gb323, 0, none⟩ = some (.int .i64 t319) ∧ w79.cell? ⟨gb323, 1, none⟩ = some (.slice Ao15 t320.length co15) := hS_; refine norm_ (a' := ?_) ?_ ?_; rotate_left
                           ·
                            simp only [putAll, Act.put, List.setIfInBounds_toArray, List.set_cons_zero, List.set_cons_succ]; rfl
                           refine three_ (i := 3) (j := 4) (k := 10) (Ni := some 104) (Nj := some 105) (Nk := some 11) #[Y',Y',Y',Y',Z',Z',Y',Y',Y',Z',Z',Z'] #[Y',Y',Y',Z',Y',Z',Y',Y',Y',Z',Z',Z'] #[Y',Y',Y',Z',Z',Z',Y',Y',Y',Z',Y',Z'] rfl rfl rfl rfl rfl rfl (three_of HT_.out (by kernel_rfl)) (by decide) (by decide) (by decide) (fun K hK => ?_) (fun K hK => ?_) (fun K hK => ?_)
                           ·
                            refine Kd.R_append_rows_step (Kd.int .u8) (w0 := w) w.heap.size (by rfl) (.tmp 101) (.tmp 103) 24 5 (.int .u8 0) 1 rfl Try.underlying24 info5 rfl (by decide) (by omega) v357 y356 t320 _ _ _ (fun k_ => some k_ ≠ (.slice Ao15 t320.length co15 : Value).ownBlock) (fun _ => False) rfl rfl ?aO ?aR (fun _ _ h => h) (fun _ h => h.elim) ?aF ?aB ?aS ?aL ?_; (case aR => repeat (first | exact (Kd.R_reads' HO_324001.out).2.2 | (with_reducible refine Kd.C_alloc ?_ _) | (with_reducible refine Kd.C_drewN ?_ _) | (with_reducible refine Kd.C_drew ?_))); (case aB => exact below_a); (case aF => exact (fun k_ hk => Kd.fresh' (Kd.R_lt (R_a HO_324001.out)) k_ hk)); (case aO => exact (R_a HO358.out)); (case aS => exact (below_size below_a)); (case aL => have := LMc61.out; omega); intro v360 w80 ho hb hg hat; rw [← Ny359.out] at ho; replace HO_3 := Aside0.mk (Kd.R_over' (R_a HO_3.out) (Kd.R_typed (R_a HO358.out)) (by decide) hg); replace HO_324001 := Aside0.mk (Kd.R_after (ok := (fun _ => True)) (by (with_reducible repeat (first | apply Kd.R_alloc | apply Kd.R_drewN | apply Kd.R_drew)); exact Kd.R_mono HO_324001.out (fun _ hk => ⟨trivial, hk⟩)) hg hat); replace HO_334001 := Aside0.mk (Kd.R_over' (R_a HO_334001.out) (Kd.R_typed (R_a HO358.out)) (by decide) hg); replace HO_340001 := Aside0.mk (Kd.R_over' (R_a HO_340001.out) (Kd.R_typed (R_a HO358.out)) (by decide) hg); replace BK323 := Aside0.mk (blk_grown (g := gb323) blk_c hg (Kd.R_ne HO358.out BK323.out (by decide))); replace BK333 := Aside0.mk (blk_grown (g := gb333) blk_c hg (Kd.R_ne HO358.out BK333.out (by decide))); replace BK339 := Aside0.mk (blk_grown (g := gb339) blk_c hg (Kd.R_ne HO358.out BK339.out (by decide))); replace HO353 := Aside0.mk (Kd.R_over' (R_a HO353.out) (Kd.R_typed (R_a HO358.out)) (by decide) hg); replace BK355 := Aside0.mk (blk_grown (g := gb355) blk_c hg (Kd.R_ne HO358.out BK355.out (by decide))); replace HB := Aside0.mk (hb); have HO361 := Aside0.mk (ho); clear HO358 ho hb hg hat; refine hK.out _ _ ⟨(blk_cell BK323.out 0).trans rfl, (blk_cell BK323.out 1).trans rfl⟩ (fun hHeld => ?_); clear hK K; refine norm_ (a' := ?_) ?_ ?_; rotate_left
                            ·
                             show Act.put _ (some 104) _ = _; simp only [Act.put, List.setIfInBounds_toArray, List.set_cons_zero, List.set_cons_succ, i64_w, i32_w]; rfl
                            exact norm_ (by first | (simp only [putAll, Act.put, List.setIfInBounds_toArray, List.set_cons_zero, List.set_cons_succ]; done) | (simp only [putAll, Act.put, List.setIfInBounds_toArray, List.set_cons_zero, List.set_cons_succ]; rfl)) (hJ0_3 (v357, v360) _ ⟨hHeld, (R_a HO353.out), (R_a HO361.out), (R_a HO_3.out), (by (with_reducible repeat (first | apply Kd.R_alloc | apply Kd.R_drewN | apply Kd.R_drew)); exact Kd.R_mono HO_324001.out (fun _ hk => hk.2)), (R_a HO_334001.out), (R_a HO_340001.out), blk_a, blk_a, blk_a, blk_a, below_a⟩)
                           ·
                            refine Kd.R_lit_step (Kd.int .u8) _ 5 ?hg (N := 105) ?hd (xs := ([192, 0] : List Int)) (inner := [.int .u8 192, .int .u8 0]) (ok := fun _ => True) (okp := fun _ => True) ?hr ?hp (fun _ hk => hk) trivial (Below.refl _ _) (Nat.le_refl _) (by simp) ?_; (case hd => rfl); (case hg => rfl); (case hr => first | (go_simp; done) | (go_simp; rfl)); (case hp => exact (Reps.one (show Kd.M (Kd.int .u8) _ _ _ 192 [.int .u8 192] from rfl) (Reps.one (show Kd.M (Kd.int .u8) _ _ _ 0 [.int .u8 0] from rfl) (Reps.none _ _)))); intro v363 w80 ho81 hb hg_ hnew_; clear hg_ hnew_; (first | rw [← Ny362.out] at ho81 | (simp only [Int.reduceToNat] at ho81; rw [← Ny362.out] at ho81)); replace HO_3 := Aside0.mk (Kd.R_below (R_a HO_3.out) hb); have n1_ := Aside0.mk (Kd.R_elder' (R_a HO_324001.out) (Kd.R_base ho81) hb); replace HO_334001 := Aside0.mk (Kd.R_below (R_a HO_334001.out) hb); replace HO_340001 := Aside0.mk (Kd.R_below (R_a HO_340001.out) hb); replace HO353 := Aside0.mk (Kd.R_below (R_a HO353.out) hb); have n5_ := Aside0.mk (Kd.R_elder' (R_a HO358.out) (Kd.R_base ho81) hb); have HO364 := Aside0.mk (Kd.R_lower (Kd.R_new' (Kd.R_new' ho81 (Kd.R_lt (R_a HO_324001.out))) (Kd.R_lt (R_a HO358.out))) (below_size below_a)); replace BK323 := Aside0.mk (blk_below (g := gb323) blk_c hb); replace BK333 := Aside0.mk (blk_below (g := gb333) blk_c hb); replace BK339 := Aside0.mk (blk_below (g := gb339) blk_c hb); replace BK355 := Aside0.mk (blk_below (g := gb355) blk_c hb); replace HB := Aside0.mk (below_step below_a hb); replace HO_324001 := n1_; replace HO358 := n5_; clear n1_ n5_ hb ho81; refine hK.out _ _ ⟨(blk_cell BK323.out 0).trans rfl, (blk_cell BK323.out 1).trans rfl⟩ (fun hHeld => ?_); clear hK K; refine norm_ (a' := ?_) ?_ ?_; rotate_left
                            ·
                             show Act.put _ (some 105) _ = _; simp only [Act.put, List.setIfInBounds_toArray, List.set_cons_zero, List.set_cons_succ, i64_w, i32_w]; rfl
                            exact norm_ (by first | (simp only [putAll, Act.put, List.setIfInBounds_toArray, List.set_cons_zero, List.set_cons_succ]; done) | (simp only [putAll, Act.put, List.setIfInBounds_toArray, List.set_cons_zero, List.set_cons_succ]; rfl)) (hJ0_4 (v357, v363) _ ⟨hHeld, (R_a HO353.out), (by (with_reducible repeat (first | apply Kd.R_alloc | apply Kd.R_drewN | apply Kd.R_drew)); exact Kd.R_mono HO358.out (fun _ hk => ⟨hk.2, hk.1⟩)), (by (with_reducible repeat (first | apply Kd.R_alloc | apply Kd.R_drewN | apply Kd.R_drew)); exact Kd.R_mono HO364.out (fun _ hk => ⟨hk.2, hk.1.2⟩)), (R_a HO_3.out), (R_a HO_324001.out), (R_a HO_334001.out), (R_a HO_340001.out), blk_a, blk_a, blk_a, blk_a, below_a⟩)
                           ·
                            refine box_step ?hg (N := 11) ?hd (cs := #[.int .i64 0, .slice none 0 0, .int .i64 0]) (t := 36) ?hr ?_; (case hd => rfl); (case hg => rfl); (case hr => first | (go_simp; done) | (go_simp; rfl)); intro gb373 hg w80 hbox hb; replace HO_3 := Aside0.mk (Kd.R_below (R_a HO_3.out) hb); replace HO_324001 := Aside0.mk (Kd.R_below (R_a HO_324001.out) hb); replace HO_334001 := Aside0.mk (Kd.R_below (R_a HO_334001.out) hb); replace HO_340001 := Aside0.mk (Kd.R_below (R_a HO_340001.out) hb); replace HO353 := Aside0.mk (Kd.R_below (R_a HO353.out) hb); replace HO358 := Aside0.mk (Kd.R_below (R_a HO358.out) hb); have n6_ := Aside0.mk (blk_below (g := gb323) blk_c hb); have n7_ := Aside0.mk (blk_below (g := gb333) blk_c hb); have n8_ := Aside0.mk (blk_below (g := gb339) blk_c hb); have n9_ := Aside0.mk (blk_below (g := gb355) blk_c hb); have n10_ := Aside0.mk (below_step below_a hb); have BK373 := Aside0.mk (hbox); have GW373 := Aside0.mk (bsz_ (w := w) hg); have GE373 := Aside0.mk (bsz_ (w := w) hg); have NB323_373 := Aside0.mk (bne_ (g := gb323) hg); have NB373_323 := Aside0.mk (bne_ (g := gb323) hg).symm; have NB333_373 := Aside0.mk (bne_ (g := gb333) hg); have NB373_333 := Aside0.mk (bne_ (g := gb333) hg).symm; have NB339_373 := Aside0.mk (bne_ (g := gb339) hg); have NB373_339 := Aside0.mk (bne_ (g := gb339) hg).symm; have NB355_373 := Aside0.mk (bne_ (g := gb355) hg); have NB373_355 := Aside0.mk (bne_ (g := gb355) hg).symm; replace BK323 := n6_; replace BK333 := n7_; replace BK339 := n8_; replace BK355 := n9_; replace HB := n10_; clear n6_ n7_ n8_ n9_ n10_ hb hbox hg; refine hK.out _ _ ⟨(blk_cell BK323.out 0).trans rfl, (blk_cell BK323.out 1).trans rfl⟩ (fun hHeld => ?_); clear hK K; refine norm_ (a' := ?_) ?_ ?_; rotate_left
                            ·
                             show Act.put _ (some 11) _ = _; simp only [Act.put, List.setIfInBounds_toArray, List.set_cons_zero, List.set_cons_succ, i64_w, i32_w]; rfl
                            exact norm_ (by first | (simp only [putAll, Act.put, List.setIfInBounds_toArray, List.set_cons_zero, List.set_cons_succ]; done) | (simp only [putAll, Act.put, List.setIfInBounds_toArray, List.set_cons_zero, List.set_cons_succ]; rfl)) (hJ0_10 (v357, gb373) _ ⟨hHeld, (R_a HO353.out), (R_a HO358.out), (R_a HO_3.out), (R_a HO_324001.out), (R_a HO_334001.out), (R_a HO_340001.out), blk_a, blk_a, blk_a, blk_a, blk_a, GW373.out, GE373.out, NB323_373.out, NB373_323.out, NB333_373.out, NB373_333.out, NB339_373.out, NB373_339.out, NB355_373.out, NB373_355.out, below_a⟩)
                         ·
                          rintro ⟨v363, gb373⟩ w80 ⟨hS_, h0_, h1_, h2_, h3_, h4_, h5_, h6_, h7_, h8_, h9_, h10_, h11_, h12_, h13_, h14_, h15_, h16_, h17_, h18_, h19_, h20_, h21_⟩
                          try dsimp only at hS_ h0_ h1_ h2_ h3_ h4_ h5_ h6_ h7_ h8_ h9_ h10_ h11_ h12_ h13_ h14_ h15_ h16_ h17_ h18_ h19_ h20_ h21_
                          clear HO_3 HO_324001 HO_334001 HO_340001 HO353 BK323 BK333 BK339 BK355 HB; have HO353 := Aside0.mk h0_; have HO364 := Aside0.mk h1_; have HO_3 := Aside0.mk h2_; have HO_324001 := Aside0.mk h3_; have HO_334001 := Aside0.mk h4_; have HO_340001 := Aside0.mk h5_; have BK323 := Aside0.mk h6_; have BK333 := Aside0.mk h7_; have BK339 := Aside0.mk h8_; have BK355 := Aside0.mk h9_; have BK373 := Aside0.mk h10_; have GW373 := Aside0.mk h11_; have GE373 := Aside0.mk h12_; have NB323_373 := Aside0.mk h13_; have NB373_323 := Aside0.mk h14_; have NB333_373 := Aside0.mk h15_; have NB373_333 := Aside0.mk h16_; have NB339_373 := Aside0.mk h17_; have NB373_339 := Aside0.mk h18_; have NB355_373 := Aside0.mk h19_; have NB373_355 := Aside0.mk h20_; have HB := Aside0.mk h21_; clear h0_ h1_ h2_ h3_ h4_ h5_ h6_ h7_ h8_ h9_ h10_ h11_ h12_ h13_ h14_ h15_ h16_ h17_ h18_ h19_ h20_ h21_; have hHeld : w80.cell? ⟨gb323, 0, none⟩ = some (.int .i64 t319) ∧ w80.cell? ⟨gb323, 1, none⟩ = some (.slice Ao15 t320.length co15) := hS_; refine norm_ (a' := ?_) ?_ ?_; rotate_left
                          ·
                           simp only [putAll, Act.put, List.setIfInBounds_toArray, List.set_cons_zero, List.set_cons_succ]; rfl
                          refine one_ (i := 0) (N := some 101) #[Y',Y',Y',Z',Y',Z',Y',Y',Y',Z',Y',Z'] rfl rfl (one_of HT_.out (by kernel_rfl)) (by decide) (fun K hK => ?_); refine Kd.R_lit_step (Kd.int .u8) _ 5 ?hg (N := 101) ?hd (xs := ([] : List Int)) (inner := []) (ok := fun _ => True) (okp := fun _ => True) ?hr ?hp (fun _ hk => hk) trivial (Below.refl _ _) (Nat.le_refl _) (by simp) ?_; (case hd => rfl); (case hg => rfl); (case hr => first | (go_simp; done) | (go_simp; rfl)); (case hp => exact (Reps.none _ _)); intro v357 w81 ho82 hb hg_ hnew_; clear hg_ hnew_; (first | rw [← Ny356.out] at ho82 | (simp only [Int.reduceToNat] at ho82; rw [← Ny356.out] at ho82)); replace HO_3 := Aside0.mk (Kd.R_below (R_a HO_3.out) hb); have n1_ := Aside0.mk (Kd.R_elder' (R_a HO_324001.out) (Kd.R_base ho82) hb); replace HO_334001 := Aside0.mk (Kd.R_below (R_a HO_334001.out) hb); replace HO_340001 := Aside0.mk (Kd.R_below (R_a HO_340001.out) hb); replace HO353 := Aside0.mk (Kd.R_below (R_a HO353.out) hb); have n5_ := Aside0.mk (Kd.R_elder' (R_a HO364.out) (Kd.R_base ho82) hb); have HO358 := Aside0.mk (Kd.R_lower (Kd.R_new' (Kd.R_new' ho82 (Kd.R_lt (R_a HO_324001.out))) (Kd.R_lt (R_a HO364.out))) (below_size below_a)); replace BK323 := Aside0.mk (blk_below (g := gb323) blk_c hb); replace BK333 := Aside0.mk (blk_below (g := gb333) blk_c hb); replace BK339 := Aside0.mk (blk_below (g := gb339) blk_c hb); replace BK355 := Aside0.mk (blk_below (g := gb355) blk_c hb); replace BK373 := Aside0.mk (blk_below (g := gb373) blk_c hb); replace HB := Aside0.mk (below_step below_a hb); replace HO_324001 := n1_; replace HO364 := n5_; clear n1_ n5_ hb ho82; refine hK.out _ _ ⟨(blk_cell BK323.out 0).trans rfl, (blk_cell BK323.out 1).trans rfl⟩ (fun hHeld => ?_); clear hK K; refine norm_ (a' := ?_) ?_ ?_; rotate_left
                          ·
                           show Act.put _ (some 101) _ = _; simp only [Act.put, List.setIfInBounds_toArray, List.set_cons_zero, List.set_cons_succ, i64_w, i32_w]; rfl
                          exact norm_ (by first | (simp only [putAll, Act.put, List.setIfInBounds_toArray, List.set_cons_zero, List.set_cons_succ]; done) | (simp only [putAll, Act.put, List.setIfInBounds_toArray, List.set_cons_zero, List.set_cons_succ]; rfl)) (hJ0_4_10 (v357, v363, gb373) _ ⟨hHeld, (R_a HO353.out), (by (with_reducible repeat (first | apply Kd.R_alloc | apply Kd.R_drewN | apply Kd.R_drew)); exact Kd.R_mono HO358.out (fun _ hk => ⟨hk.2, hk.1.2⟩)), (by (with_reducible repeat (first | apply Kd.R_alloc | apply Kd.R_drewN | apply Kd.R_drew)); exact Kd.R_mono HO364.out (fun _ hk => ⟨hk.2, hk.1⟩)), (R_a HO_3.out), (by (with_reducible repeat (first | apply Kd.R_alloc | apply Kd.R_drewN | apply Kd.R_drew)); exact Kd.R_mono HO_324001.out (fun _ hk => ⟨hk.2, hk.1⟩)), (R_a HO_334001.out), (R_a HO_340001.out), blk_a, blk_a, blk_a, blk_a, blk_a, GW373.out, GE373.out, NB323_373.out, NB373_323.out, NB333_373.out, NB373_333.out, NB339_373.out, NB373_339.out, NB355_373.out, NB373_355.out, below_a⟩)
                        ·
                         rintro ⟨v357, gb373⟩ w80 ⟨hS_, h0_, h1_, h2_, h3_, h4_, h5_, h6_, h7_, h8_, h9_, h10_, h11_, h12_, h13_, h14_, h15_, h16_, h17_, h18_, h19_, h20_, h21_⟩
                         try dsimp only at hS_ h0_ h1_ h2_ h3_ h4_ h5_ h6_ h7_ h8_ h9_ h10_ h11_ h12_ h13_ h14_ h15_ h16_ h17_ h18_ h19_ h20_ h21_
                         clear HO_3 HO_324001 HO_334001 HO_340001 HO353 BK323 BK333 BK339 BK355 HB; have HO353 := Aside0.mk h0_; have HO358 := Aside0.mk h1_; have HO_3 := Aside0.mk h2_; have HO_324001 := Aside0.mk h3_; have HO_334001 := Aside0.mk h4_; have HO_340001 := Aside0.mk h5_; have BK323 := Aside0.mk h6_; have BK333 := Aside0.mk h7_; have BK339 := Aside0.mk h8_; have BK355 := Aside0.mk h9_; have BK373 := Aside0.mk h10_; have GW373 := Aside0.mk h11_; have GE373 := Aside0.mk h12_; have NB323_373 := Aside0.mk h13_; have NB373_323 := Aside0.mk h14_; have NB333_373 := Aside0.mk h15_; have NB373_333 := Aside0.mk h16_; have NB339_373 := Aside0.mk h17_; have NB373_339 := Aside0.mk h18_; have NB355_373 := Aside0.mk h19_; have NB373_355 := Aside0.mk h20_; have HB := Aside0.mk h21_; clear h0_ h1_ h2_ h3_ h4_ h5_ h6_ h7_ h8_ h9_ h10_ h11_ h12_ h13_ h14_ h15_ h16_ h17_ h18_ h19_ h20_ h21_; have hHeld : w80.cell? ⟨gb323, 0, none⟩ = some (.int .i64 t319) ∧ w80.cell? ⟨gb323, 1, none⟩ = some (.slice Ao15 t320.length co15) := hS_; refine norm_ (a' := ?_) ?_ ?_; rotate_left
                         ·
                          simp only [putAll, Act.put, List.setIfInBounds_toArray, List.set_cons_zero, List.set_cons_succ]; rfl
                         refine two_ (i := 3) (j := 4) (Ni := some 104) (Nj := some 105) #[Y',Y',Y',Y',Z',Z',Y',Y',Y',Z',Y',Z'] #[Y',Y',Y',Z',Y',Z',Y',Y',Y',Z',Y',Z'] rfl rfl rfl rfl (two_of HT_.out (by kernel_rfl)) (by decide) (by decide) (fun K hK => ?_) (fun K hK => ?_)
                         ·
                          refine Kd.R_append_rows_step (Kd.int .u8) (w0 := w) w.heap.size (by rfl) (.tmp 101) (.tmp 103) 24 5 (.int .u8 0) 1 rfl Try.underlying24 info5 rfl (by decide) (by omega) v357 y356 t320 _ _ _ (fun k_ => some k_ ≠ (.slice Ao15 t320.length co15 : Value).ownBlock) (fun _ => False) rfl rfl ?aO ?aR (fun _ _ h => h) (fun _ h => h.elim) ?aF ?aB ?aS ?aL ?_; (case aR => repeat (first | exact (Kd.R_reads' HO_324001.out).2.2 | (with_reducible refine Kd.C_alloc ?_ _) | (with_reducible refine Kd.C_drewN ?_ _) | (with_reducible refine Kd.C_drew ?_))); (case aB => exact below_a); (case aF => exact (fun k_ hk => Kd.fresh' (Kd.R_lt (R_a HO_324001.out)) k_ hk)); (case aO => exact (R_a HO358.out)); (case aS => exact (below_size below_a)); (case aL => have := LMc61.out; omega); intro v360 w81 ho hb hg hat; rw [← Ny359.out] at ho; replace HO_3 := Aside0.mk (Kd.R_over' (R_a HO_3.out) (Kd.R_typed (R_a HO358.out)) (by decide) hg); replace HO_324001 := Aside0.mk (Kd.R_after (ok := (fun _ => True)) (by (with_reducible repeat (first | apply Kd.R_alloc | apply Kd.R_drewN | apply Kd.R_drew)); exact Kd.R_mono HO_324001.out (fun _ hk => ⟨trivial, hk⟩)) hg hat); replace HO_334001 := Aside0.mk (Kd.R_over' (R_a HO_334001.out) (Kd.R_typed (R_a HO358.out)) (by decide) hg); replace HO_340001 := Aside0.mk (Kd.R_over' (R_a HO_340001.out) (Kd.R_typed (R_a HO358.out)) (by decide) hg); replace BK323 := Aside0.mk (blk_grown (g := gb323) blk_c hg (Kd.R_ne HO358.out BK323.out (by decide))); replace BK333 := Aside0.mk (blk_grown (g := gb333) blk_c hg (Kd.R_ne HO358.out BK333.out (by decide))); replace BK339 := Aside0.mk (blk_grown (g := gb339) blk_c hg (Kd.R_ne HO358.out BK339.out (by decide))); replace HO353 := Aside0.mk (Kd.R_over' (R_a HO353.out) (Kd.R_typed (R_a HO358.out)) (by decide) hg); replace BK355 := Aside0.mk (blk_grown (g := gb355) blk_c hg (Kd.R_ne HO358.out BK355.out (by decide))); replace BK373 := Aside0.mk (blk_grown (g := gb373) blk_c hg (Kd.R_ne HO358.out BK373.out (by decide))); replace HB := Aside0.mk (hb); have HO361 := Aside0.mk (ho); clear HO358 ho hb hg hat; refine hK.out _ _ ⟨(blk_cell BK323.out 0).trans rfl, (blk_cell BK323.out 1).trans rfl⟩ (fun hHeld => ?_); clear hK K; refine norm_ (a' := ?_) ?_ ?_; rotate_left
                          ·
                           show Act.put _ (some 104) _ = _; simp only [Act.put, List.setIfInBounds_toArray, List.set_cons_zero, List.set_cons_succ, i64_w, i32_w]; rfl
                          exact norm_ (by first | (simp only [putAll, Act.put, List.setIfInBounds_toArray, List.set_cons_zero, List.set_cons_succ]; done) | (simp only [putAll, Act.put, List.setIfInBounds_toArray, List.set_cons_zero, List.set_cons_succ]; rfl)) (hJ0_3_10 (v357, v360, gb373) _ ⟨hHeld, (R_a HO353.out), (R_a HO361.out), (R_a HO_3.out), (by (with_reducible repeat (first | apply Kd.R_alloc | apply Kd.R_drewN | apply Kd.R_drew)); exact Kd.R_mono HO_324001.out (fun _ hk => hk.2)), (R_a HO_334001.out), (R_a HO_340001.out), blk_a, blk_a, blk_a, blk_a, blk_a, GW373.out, GE373.out, NB323_373.out, NB373_323.out, NB333_373.out, NB373_333.out, NB339_373.out, NB373_339.out, NB355_373.out, NB373_355.out, below_a⟩)
                         ·
                          refine Kd.R_lit_step (Kd.int .u8) _ 5 ?hg (N := 105) ?hd (xs := ([192, 0] : List Int)) (inner := [.int .u8 192, .int .u8 0]) (ok := fun _ => True) (okp := fun _ => True) ?hr ?hp (fun _ hk => hk) trivial (Below.refl _ _) (Nat.le_refl _) (by simp) ?_; (case hd => rfl); (case hg => rfl); (case hr => first | (go_simp; done) | (go_simp; rfl)); (case hp => exact (Reps.one (show Kd.M (Kd.int .u8) _ _ _ 192 [.int .u8 192] from rfl) (Reps.one (show Kd.M (Kd.int .u8) _ _ _ 0 [.int .u8 0] from rfl) (Reps.none _ _)))); intro v363 w81 ho82 hb hg_ hnew_; clear hg_ hnew_; (first | rw [← Ny362.out] at ho82 | (simp only [Int.reduceToNat] at ho82; rw [← Ny362.out] at ho82)); replace HO_3 := Aside0.mk (Kd.R_below (R_a HO_3.out) hb); have n1_ := Aside0.mk (Kd.R_elder' (R_a HO_324001.out) (Kd.R_base ho82) hb); replace HO_334001 := Aside0.mk (Kd.R_below (R_a HO_334001.out) hb); replace HO_340001 := Aside0.mk (Kd.R_below (R_a HO_340001.out) hb); replace HO353 := Aside0.mk (Kd.R_below (R_a HO353.out) hb); have n5_ := Aside0.mk (Kd.R_elder' (R_a HO358.out) (Kd.R_base ho82) hb); have HO364 := Aside0.mk (Kd.R_lower (Kd.R_new' (Kd.R_new' ho82 (Kd.R_lt (R_a HO_324001.out))) (Kd.R_lt (R_a HO358.out))) (below_size below_a)); replace BK323 := Aside0.mk (blk_below (g := gb323) blk_c hb); replace BK333 := Aside0.mk (blk_below (g := gb333) blk_c hb); replace BK339 := Aside0.mk (blk_below (g := gb339) blk_c hb); replace BK355 := Aside0.mk (blk_below (g := gb355) blk_c hb); replace BK373 := Aside0.mk (blk_below (g := gb373) blk_c hb); replace HB := Aside0.mk (below_step below_a hb); replace HO_324001 := n1_; replace HO358 := n5_; clear n1_ n5_ hb ho82; refine hK.out _ _ ⟨(blk_cell BK323.out 0).trans rfl, (blk_cell BK323.out 1).trans rfl⟩ (fun hHeld => ?_); clear hK K; refine norm_ (a' := ?_) ?_ ?_; rotate_left
                          ·
                           show Act.put _ (some 105) _ = _; simp only [Act.put, List.setIfInBounds_toArray, List.set_cons_zero, List.set_cons_succ, i64_w, i32_w]; rfl
                          exact norm_ (by first | (simp only [putAll, Act.put, List.setIfInBounds_toArray, List.set_cons_zero, List.set_cons_succ]; done) | (simp only [putAll, Act.put, List.setIfInBounds_toArray, List.set_cons_zero, List.set_cons_succ]; rfl)) (hJ0_4_10 (v357, v363, gb373) _ ⟨hHeld, (R_a HO353.out), (by (with_reducible repeat (first | apply Kd.R_alloc | apply Kd.R_drewN | apply Kd.R_drew)); exact Kd.R_mono HO358.out (fun _ hk => ⟨hk.2, hk.1⟩)), (by (with_reducible repeat (first | apply Kd.R_alloc | apply Kd.R_drewN | apply Kd.R_drew)); exact Kd.R_mono HO364.out (fun _ hk => ⟨hk.2, hk.1.2⟩)), (R_a HO_3.out), (R_a HO_324001.out), (R_a HO_334001.out), (R_a HO_340001.out), blk_a, blk_a, blk_a, blk_a, blk_a, GW373.out, GE373.out, NB323_373.out, NB373_323.out, NB333_373.out, NB373_333.out, NB339_373.out, NB373_339.out, NB355_373.out, NB373_355.out, below_a⟩)
                       ·
                        rintro ⟨v357, v363⟩ w81 ⟨hS_, h0_, h1_, h2_, h3_, h4_, h5_, h6_, h7_, h8_, h9_, h10_, h11_⟩
                        try dsimp only at hS_ h0_ h1_ h2_ h3_ h4_ h5_ h6_ h7_ h8_ h9_ h10_ h11_
                        clear HO_3 HO_324001 HO_334001 HO_340001 HO353 BK323 BK333 BK339 BK355 HB; have HO353 := Aside0.mk h0_; have HO358 := Aside0.mk h1_; have HO364 := Aside0.mk h2_; have HO_3 := Aside0.mk h3_; have HO_324001 := Aside0.mk h4_; have HO_334001 := Aside0.mk h5_; have HO_340001 := Aside0.mk h6_; have BK323 := Aside0.mk h7_; have BK333 := Aside0.mk h8_; have BK339 := Aside0.mk h9_; have BK355 := Aside0.mk h10_; have HB := Aside0.mk h11_; clear h0_ h1_ h2_ h3_ h4_ h5_ h6_ h7_ h8_ h9_ h10_ h11_; have hHeld : w81.cell? ⟨gb323, 0, none⟩ = some (.int .i64 t319) ∧ w81.cell? ⟨gb323, 1, none⟩ = some (.slice Ao15 t320.length co15) := hS_; refine norm_ (a' := ?_) ?_ ?_; rotate_left
                        ·
                         simp only [putAll, Act.put, List.setIfInBounds_toArray, List.set_cons_zero, List.set_cons_succ]; rfl
                        refine two_ (i := 3) (j := 10) (Ni := some 104) (Nj := some 11) #[Y',Y',Y',Y',Y',Z',Y',Y',Y',Z',Z',Z'] #[Y',Y',Y',Z',Y',Z',Y',Y',Y',Z',Y',Z'] rfl rfl rfl rfl (two_of HT_.out (by kernel_rfl)) (by decide) (by decide) (fun K hK => ?_) (fun K hK => ?_)
                        ·
                         refine Kd.R_append_rows_step (Kd.int .u8) (w0 := w) w.heap.size (by rfl) (.tmp 101) (.tmp 103) 24 5 (.int .u8 0) 1 rfl Try.underlying24 info5 rfl (by decide) (by omega) v357 y356 t320 _ _ _ (fun k_ => some k_ ≠ (.slice Ao15 t320.length co15 : Value).ownBlock ∧ some k_ ≠ (v363 : Value).ownBlock) (fun _ => False) rfl rfl ?aO ?aR (fun _ _ h => h) (fun _ h => h.elim) ?aF ?aB ?aS ?aL ?_; (case aR => repeat (first | exact (Kd.R_reads' HO_324001.out).2.2 | (with_reducible refine Kd.C_alloc ?_ _) | (with_reducible refine Kd.C_drewN ?_ _) | (with_reducible refine Kd.C_drew ?_))); (case aB => exact below_a); (case aF => exact (fun k_ hk => ⟨Kd.fresh' (Kd.R_lt (R_a HO_324001.out)) k_ hk, Kd.fresh' (Kd.R_lt (R_a HO364.out)) k_ hk⟩)); (case aO => exact (by (with_reducible repeat (first | apply Kd.R_alloc | apply Kd.R_drewN | apply Kd.R_drew)); exact Kd.R_mono HO358.out (fun _ hk => ⟨hk.2, hk.1⟩))); (case aS => exact (below_size below_a)); (case aL => have := LMc61.out; omega); intro v360 w82 ho hb hg hat; rw [← Ny359.out] at ho; replace HO_3 := Aside0.mk (Kd.R_over' (R_a HO_3.out) (Kd.R_typed (R_a HO358.out)) (by decide) hg); replace HO_324001 := Aside0.mk (Kd.R_after (ok := (fun k_ => some k_ ≠ (v363 : Value).ownBlock)) (by (with_reducible repeat (first | apply Kd.R_alloc | apply Kd.R_drewN | apply Kd.R_drew)); exact Kd.R_mono HO_324001.out (fun _ hk => ⟨hk.2, hk.1⟩)) hg hat); replace HO_334001 := Aside0.mk (Kd.R_over' (R_a HO_334001.out) (Kd.R_typed (R_a HO358.out)) (by decide) hg); replace HO_340001 := Aside0.mk (Kd.R_over' (R_a HO_340001.out) (Kd.R_typed (R_a HO358.out)) (by decide) hg); replace BK323 := Aside0.mk (blk_grown (g := gb323) blk_c hg (Kd.R_ne HO358.out BK323.out (by decide))); replace BK333 := Aside0.mk (blk_grown (g := gb333) blk_c hg (Kd.R_ne HO358.out BK333.out (by decide))); replace BK339 := Aside0.mk (blk_grown (g := gb339) blk_c hg (Kd.R_ne HO358.out BK339.out (by decide))); replace HO353 := Aside0.mk (Kd.R_over' (R_a HO353.out) (Kd.R_typed (R_a HO358.out)) (by decide) hg); replace BK355 := Aside0.mk (blk_grown (g := gb355) blk_c hg (Kd.R_ne HO358.out BK355.out (by decide))); replace HO364 := Aside0.mk (Kd.R_after (ok := (fun k_ => some k_ ≠ (.slice Ao15 t320.length co15 : Value).ownBlock)) (by (with_reducible repeat (first | apply Kd.R_alloc | apply Kd.R_drewN | apply Kd.R_drew)); exact Kd.R_mono HO364.out (fun _ hk => ⟨hk.2, hk.1⟩)) hg hat); replace HB := Aside0.mk (hb); have HO361 := Aside0.mk (ho); clear HO358 ho hb hg hat; refine hK.out _ _ ⟨(blk_cell BK323.out 0).trans rfl, (blk_cell BK323.out 1).trans rfl⟩ (fun hHeld => ?_); clear hK K; refine norm_ (a' := ?_) ?_ ?_; rotate_left
                         ·
                          show Act.put _ (some 104) _ = _; simp only [Act.put, List.setIfInBounds_toArray, List.set_cons_zero, List.set_cons_succ, i64_w, i32_w]; rfl
                         exact norm_ (by first | (simp only [putAll, Act.put, List.setIfInBounds_toArray, List.set_cons_zero, List.set_cons_succ]; done) | (simp only [putAll, Act.put, List.setIfInBounds_toArray, List.set_cons_zero, List.set_cons_succ]; rfl)) (hJ0_3_4 (v357, v360, v363) _ ⟨hHeld, (R_a HO353.out), (by (with_reducible repeat (first | apply Kd.R_alloc | apply Kd.R_drewN | apply Kd.R_drew)); exact Kd.R_mono HO361.out (fun _ hk => ⟨hk.2, hk.1⟩)), (by (with_reducible repeat (first | apply Kd.R_alloc | apply Kd.R_drewN | apply Kd.R_drew)); exact Kd.R_mono HO364.out (fun _ hk => ⟨hk.2, hk.1⟩)), (R_a HO_3.out), (by (with_reducible repeat (first | apply Kd.R_alloc | apply Kd.R_drewN | apply Kd.R_drew)); exact Kd.R_mono HO_324001.out (fun _ hk => ⟨hk.2, hk.1⟩)), (R_a HO_334001.out), (R_a HO_340001.out), blk_a, blk_a, blk_a, blk_a, below_a⟩)
                        ·
                         refine box_step ?hg (N := 11) ?hd (cs := #[.int .i64 0, .slice none 0 0, .int .i64 0]) (t := 36) ?hr ?_; (case hd => rfl); (case hg => rfl); (case hr => first | (go_simp; done) | (go_simp; rfl)); intro gb373 hg w82 hbox hb; replace HO_3 := Aside0.mk (Kd.R_below (R_a HO_3.out) hb); replace HO_324001 := Aside0.mk (Kd.R_below (R_a HO_324001.out) hb); replace HO_334001 := Aside0.mk (Kd.R_below (R_a HO_334001.out) hb); replace HO_340001 := Aside0.mk (Kd.R_below (R_a HO_340001.out) hb); replace HO353 := Aside0.mk (Kd.R_below (R_a HO353.out) hb); replace HO358 := Aside0.mk (Kd.R_below (R_a HO358.out) hb); replace HO364 := Aside0.mk (Kd.R_below (R_a HO364.out) hb); have n7_ := Aside0.mk (blk_below (g := gb323) blk_c hb); have n8_ := Aside0.mk (blk_below (g := gb333) blk_c hb); have n9_ := Aside0.mk (blk_below (g := gb339) blk_c hb); have n10_ := Aside0.mk (blk_below (g := gb355) blk_c hb); have n11_ := Aside0.mk (below_step below_a hb); have BK373 := Aside0.mk (hbox); have GW373 := Aside0.mk (bsz_ (w := w) hg); have GE373 := Aside0.mk (bsz_ (w := w) hg); have NB323_373 := Aside0.mk (bne_ (g := gb323) hg); have NB373_323 := Aside0.mk (bne_ (g := gb323) hg).symm; have NB333_373 := Aside0.mk (bne_ (g := gb333) hg); have NB373_333 := Aside0.mk (bne_ (g := gb333) hg).symm; have NB339_373 := Aside0.mk (bne_ (g := gb339) hg); have NB373_339 := Aside0.mk (bne_ (g := gb339) hg).symm; have NB355_373 := Aside0.mk (bne_ (g := gb355) hg); have NB373_355 := Aside0.mk (bne_ (g := gb355) hg).symm; replace BK323 := n7_; replace BK333 := n8_; replace BK339 := n9_; replace BK355 := n10_; replace HB := n11_; clear n7_ n8_ n9_ n10_ n11_ hb hbox hg; refine hK.out _ _ ⟨(blk_cell BK323.out 0).trans rfl, (blk_cell BK323.out 1).trans rfl⟩ (fun hHeld => ?_); clear hK K; refine norm_ (a' := ?_) ?_ ?_; rotate_left
                         ·
                          show Act.put _ (some 11) _ = _; simp only [Act.put, List.setIfInBounds_toArray, List.set_cons_zero, List.set_cons_succ, i64_w, i32_w]; rfl
                         exact norm_ (by first | (simp only [putAll, Act.put, List.setIfInBounds_toArray, List.set_cons_zero, List.set_cons_succ]; done) | (simp only [putAll, Act.put, List.setIfInBounds_toArray, List.set_cons_zero, List.set_cons_succ]; rfl)) (hJ0_4_10 (v357, v363, gb373) _ ⟨hHeld, (R_a HO353.out), (R_a HO358.out), (R_a HO364.out), (R_a HO_3.out), (R_a HO_324001.out), (R_a HO_334001.out), (R_a HO_340001.out), blk_a, blk_a, blk_a, blk_a, blk_a, GW373.out, GE373.out, NB323_373.out, NB373_323.out, NB333_373.out, NB373_333.out, NB339_373.out, NB373_339.out, NB355_373.out, NB373_355.out, below_a⟩)
                      ·
                       rintro ⟨v357, v360⟩ w80 ⟨hS_, h0_, h1_, h2_, h3_, h4_, h5_, h6_, h7_, h8_, h9_, h10_⟩
                       try dsimp only at hS_ h0_ h1_ h2_ h3_ h4_ h5_ h6_ h7_ h8_ h9_ h10_
                       clear HO_3 HO_324001 HO_334001 HO_340001 HO353 BK323 BK333 BK339 BK355 HB; have HO353 := Aside0.mk h0_; have HO361 := Aside0.mk h1_; have HO_3 := Aside0.mk h2_; have HO_324001 := Aside0.mk h3_; have HO_334001 := Aside0.mk h4_; have HO_340001 := Aside0.mk h5_; have BK323 := Aside0.mk h6_; have BK333 := Aside0.mk h7_; have BK339 := Aside0.mk h8_; have BK355 := Aside0.mk h9_; have HB := Aside0.mk h10_; clear h0_ h1_ h2_ h3_ h4_ h5_ h6_ h7_ h8_ h9_ h10_; have hHeld : w80.cell? ⟨gb323, 0, none⟩ = some (.int .i64 t319) ∧ w80.cell? ⟨gb323, 1, none⟩ = some (.slice Ao15 t320.length co15) := hS_; refine norm_ (a' := ?_) ?_ ?_; rotate_left
                       ·
                        simp only [putAll, Act.put, List.setIfInBounds_toArray, List.set_cons_zero, List.set_cons_succ]; rfl
                       refine two_ (i := 4) (j := 10) (Ni := some 105) (Nj := some 11) #[Y',Y',Y',Y',Y',Z',Y',Y',Y',Z',Z',Z'] #[Y',Y',Y',Y',Z',Z',Y',Y',Y',Z',Y',Z'] rfl rfl rfl rfl (two_of HT_.out (by kernel_rfl)) (by decide) (by decide) (fun K hK => ?_) (fun K hK => ?_)
                       ·
                        refine Kd.R_lit_step (Kd.int .u8) _ 5 ?hg (N := 105) ?hd (xs := ([192, 0] : List Int)) (inner := [.int .u8 192, .int .u8 0]) (ok := fun _ => True) (okp := fun _ => True) ?hr ?hp (fun _ hk => hk) trivial (Below.refl _ _) (Nat.le_refl _) (by simp) ?_; (case hd => rfl); (case hg => rfl); (case hr => first | (go_simp; done) | (go_simp; rfl)); (case hp => exact (Reps.one (show Kd.M (Kd.int .u8) _ _ _ 192 [.int .u8 192] from rfl) (Reps.one (show Kd.M (Kd.int .u8) _ _ _ 0 [.int .u8 0] from rfl) (Reps.none _ _)))); intro v363 w81 ho82 hb hg_ hnew_; clear hg_ hnew_; (first | rw [← Ny362.out] at ho82 | (simp only [Int.reduceToNat] at ho82; rw [← Ny362.out] at ho82)); replace HO_3 := Aside0.mk (Kd.R_below (R_a HO_3.out) hb); have n1_ := Aside0.mk (Kd.R_elder' (R_a HO_324001.out) (Kd.R_base ho82) hb); replace HO_334001 := Aside0.mk (Kd.R_below (R_a HO_334001.out) hb); replace HO_340001 := Aside0.mk (Kd.R_below (R_a HO_340001.out) hb); replace HO353 := Aside0.mk (Kd.R_below (R_a HO353.out) hb); have n5_ := Aside0.mk (Kd.R_elder' (R_a HO361.out) (Kd.R_base ho82) hb); have HO364 := Aside0.mk (Kd.R_lower (Kd.R_new' (Kd.R_new' ho82 (Kd.R_lt (R_a HO_324001.out))) (Kd.R_lt (R_a HO361.out))) (below_size below_a)); replace BK323 := Aside0.mk (blk_below (g := gb323) blk_c hb); replace BK333 := Aside0.mk (blk_below (g := gb333) blk_c hb); replace BK339 := Aside0.mk (blk_below (g := gb339) blk_c hb); replace BK355 := Aside0.mk (blk_below (g := gb355) blk_c hb); replace HB := Aside0.mk (below_step below_a hb); replace HO_324001 := n1_; replace HO361 := n5_; clear n1_ n5_ hb ho82; refine hK.out _ _ ⟨(blk_cell BK323.out 0).trans rfl, (blk_cell BK323.out 1).trans rfl⟩ (fun hHeld => ?_); clear hK K; refine norm_ (a' := ?_) ?_ ?_; rotate_left
                        ·
                         show Act.put _ (some 105) _ = _; simp only [Act.put, List.setIfInBounds_toArray, List.set_cons_zero, List.set_cons_succ, i64_w, i32_w]; rfl
                        exact norm_ (by first | (simp only [putAll, Act.put, List.setIfInBounds_toArray, List.set_cons_zero, List.set_cons_succ]; done) | (simp only [putAll, Act.put, List.setIfInBounds_toArray, List.set_cons_zero, List.set_cons_succ]; rfl)) (hJ0_3_4 (v357, v360, v363) _ ⟨hHeld, (R_a HO353.out), (by (with_reducible repeat (first | apply Kd.R_alloc | apply Kd.R_drewN | apply Kd.R_drew)); exact Kd.R_mono HO361.out (fun _ hk => ⟨hk.2, hk.1⟩)), (by (with_reducible repeat (first | apply Kd.R_alloc | apply Kd.R_drewN | apply Kd.R_drew)); exact Kd.R_mono HO364.out (fun _ hk => ⟨hk.2, hk.1.2⟩)), (R_a HO_3.out), (R_a HO_324001.out), (R_a HO_334001.out), (R_a HO_340001.out), blk_a, blk_a, blk_a, blk_a, below_a⟩)
                       ·
                        refine box_step ?hg (N := 11) ?hd (cs := #[.int .i64 0, .slice none 0 0, .int .i64 0]) (t := 36) ?hr ?_; (case hd => rfl); (case hg => rfl); (case hr => first | (go_simp; done) | (go_simp; rfl)); intro gb373 hg w81 hbox hb; replace HO_3 := Aside0.mk (Kd.R_below (R_a HO_3.out) hb); replace HO_324001 := Aside0.mk (Kd.R_below (R_a HO_324001.out) hb); replace HO_334001 := Aside0.mk (Kd.R_below (R_a HO_334001.out) hb); replace HO_340001 := Aside0.mk (Kd.R_below (R_a HO_340001.out) hb); replace HO353 := Aside0.mk (Kd.R_below (R_a HO353.out) hb); replace HO361 := Aside0.mk (Kd.R_below (R_a HO361.out) hb); have n6_ := Aside0.mk (blk_below (g := gb323) blk_c hb); have n7_ := Aside0.mk (blk_below (g := gb333) blk_c hb); have n8_ := Aside0.mk (blk_below (g := gb339) blk_c hb); have n9_ := Aside0.mk (blk_below (g := gb355) blk_c hb); have n10_ := Aside0.mk (below_step below_a hb); have BK373 := Aside0.mk (hbox); have GW373 := Aside0.mk (bsz_ (w := w) hg); have GE373 := Aside0.mk (bsz_ (w := w) hg); have NB323_373 := Aside0.mk (bne_ (g := gb323) hg); have NB373_323 := Aside0.mk (bne_ (g := gb323) hg).symm; have NB333_373 := Aside0.mk (bne_ (g := gb333) hg); have NB373_333 := Aside0.mk (bne_ (g := gb333) hg).symm; have NB339_373 := Aside0.mk (bne_ (g := gb339) hg); have NB373_339 := Aside0.mk (bne_ (g := gb339) hg).symm; have NB355_373 := Aside0.mk (bne_ (g := gb355) hg); have NB373_355 := Aside0.mk (bne_ (g := gb355) hg).symm; replace BK323 := n6_; replace BK333 := n7_; replace BK339 := n8_; replace BK355 := n9_; replace HB := n10_; clear n6_ n7_ n8_ n9_ n10_ hb hbox hg; refine hK.out _ _ ⟨(blk_cell BK323.out 0).trans rfl, (blk_cell BK323.out 1).trans rfl⟩ (fun hHeld => ?_); clear hK K; refine norm_ (a' := ?_) ?_ ?_; rotate_left
                        ·
                         show Act.put _ (some 11) _ = _; simp only [Act.put, List.setIfInBounds_toArray, List.set_cons_zero, List.set_cons_succ, i64_w, i32_w]; rfl
                        exact norm_ (by first | (simp only [putAll, Act.put, List.setIfInBounds_toArray, List.set_cons_zero, List.set_cons_succ]; done) | (simp only [putAll, Act.put, List.setIfInBounds_toArray, List.set_cons_zero, List.set_cons_succ]; rfl)) (hJ0_3_10 (v357, v360, gb373) _ ⟨hHeld, (R_a HO353.out), (R_a HO361.out), (R_a HO_3.out), (R_a HO_324001.out), (R_a HO_334001.out), (R_a HO_340001.out), blk_a, blk_a, blk_a, blk_a, blk_a, GW373.out, GE373.out, NB323_373.out, NB373_323.out, NB333_373.out, NB373_333.out, NB339_373.out, NB373_339.out, NB355_373.out, NB373_355.out, below_a⟩)
                     ·
                      rintro ⟨v357, v363, gb373⟩ w82 ⟨hS_, h0_, h1_, h2_, h3_, h4_, h5_, h6_, h7_, h8_, h9_, h10_, h11_, h12_, h13_, h14_, h15_, h16_, h17_, h18_, h19_, h20_, h21_, h22_⟩
                      try dsimp only at hS_ h0_ h1_ h2_ h3_ h4_ h5_ h6_ h7_ h8_ h9_ h10_ h11_ h12_ h13_ h14_ h15_ h16_ h17_ h18_ h19_ h20_ h21_ h22_
                      clear HO_3 HO_324001 HO_334001 HO_340001 HO353 BK323 BK333 BK339 BK355 HB; have HO353 := Aside0.mk h0_; have HO358 := Aside0.mk h1_; have HO364 := Aside0.mk h2_; have HO_3 := Aside0.mk h3_; have HO_324001 := Aside0.mk h4_; have HO_334001 := Aside0.mk h5_; have HO_340001 := Aside0.mk h6_; have BK323 := Aside0.mk h7_; have BK333 := Aside0.mk h8_; have BK339 := Aside0.mk h9_; have BK355 := Aside0.mk h10_; have BK373 := Aside0.mk h11_; have GW373 := Aside0.mk h12_; have GE373 := Aside0.mk h13_; have NB323_373 := Aside0.mk h14_; have NB373_323 := Aside0.mk h15_; have NB333_373 := Aside0.mk h16_; have NB373_333 := Aside0.mk h17_; have NB339_373 := Aside0.mk h18_; have NB373_339 := Aside0.mk h19_; have NB355_373 := Aside0.mk h20_; have NB373_355 := Aside0.mk h21_; have HB := Aside0.mk h22_; clear h0_ h1_ h2_ h3_ h4_ h5_ h6_ h7_ h8_ h9_ h10_ h11_ h12_ h13_ h14_ h15_ h16_ h17_ h18_ h19_ h20_ h21_ h22_; have hHeld : w82.cell? ⟨gb323, 0, none⟩ = some (.int .i64 t319) ∧ w82.cell? ⟨gb323, 1, none⟩ = some (.slice Ao15 t320.length co15) := hS_; refine norm_ (a' := ?_) ?_ ?_; rotate_left
                      ·
                       simp only [putAll, Act.put, List.setIfInBounds_toArray, List.set_cons_zero, List.set_cons_succ]; rfl
                      refine one_ (i := 3) (N := some 104) #[Y',Y',Y',Y',Y',Z',Y',Y',Y',Z',Y',Z'] rfl rfl (one_of HT_.out (by kernel_rfl)) (by decide) (fun K hK => ?_); refine Kd.R_append_rows_step (Kd.int .u8) (w0 := w) w.heap.size (by rfl) (.tmp 101) (.tmp 103) 24 5 (.int .u8 0) 1 rfl Try.underlying24 info5 rfl (by decide) (by omega) v357 y356 t320 _ _ _ (fun k_ => some k_ ≠ (.slice Ao15 t320.length co15 : Value).ownBlock ∧ some k_ ≠ (v363 : Value).ownBlock) (fun _ => False) rfl rfl ?aO ?aR (fun _ _ h => h) (fun _ h => h.elim) ?aF ?aB ?aS ?aL ?_; (case aR => repeat (first | exact (Kd.R_reads' HO_324001.out).2.2 | (with_reducible refine Kd.C_alloc ?_ _) | (with_reducible refine Kd.C_drewN ?_ _) | (with_reducible refine Kd.C_drew ?_))); (case aB => exact below_a); (case aF => exact (fun k_ hk => ⟨Kd.fresh' (Kd.R_lt (R_a HO_324001.out)) k_ hk, Kd.fresh' (Kd.R_lt (R_a HO364.out)) k_ hk⟩)); (case aO => exact (by (with_reducible repeat (first | apply Kd.R_alloc | apply Kd.R_drewN | apply Kd.R_drew)); exact Kd.R_mono HO358.out (fun _ hk => ⟨hk.2, hk.1⟩))); (case aS => exact (below_size below_a)); (case aL => have := LMc61.out; omega); intro v360 w83 ho hb hg hat; rw [← Ny359.out] at ho; replace HO_3 := Aside0.mk (Kd.R_over' (R_a HO_3.out) (Kd.R_typed (R_a HO358.out)) (by decide) hg); replace HO_324001 := Aside0.mk (Kd.R_after (ok := (fun k_ => some k_ ≠ (v363 : Value).ownBlock)) (by (with_reducible repeat (first | apply Kd.R_alloc | apply Kd.R_drewN | apply Kd.R_drew)); exact Kd.R_mono HO_324001.out (fun _ hk => ⟨hk.2, hk.1⟩)) hg hat); replace HO_334001 := Aside0.mk (Kd.R_over' (R_a HO_334001.out) (Kd.R_typed (R_a HO358.out)) (by decide) hg); replace HO_340001 := Aside0.mk (Kd.R_over' (R_a HO_340001.out) (Kd.R_typed (R_a HO358.out)) (by decide) hg); replace BK323 := Aside0.mk (blk_grown (g := gb323) blk_c hg (Kd.R_ne HO358.out BK323.out (by decide))); replace BK333 := Aside0.mk (blk_grown (g := gb333) blk_c hg (Kd.R_ne HO358.out BK333.out (by decide))); replace BK339 := Aside0.mk (blk_grown (g := gb339) blk_c hg (Kd.R_ne HO358.out BK339.out (by decide))); replace HO353 := Aside0.mk (Kd.R_over' (R_a HO353.out) (Kd.R_typed (R_a HO358.out)) (by decide) hg); replace BK355 := Aside0.mk (blk_grown (g := gb355) blk_c hg (Kd.R_ne HO358.out BK355.out (by decide))); replace HO364 := Aside0.mk (Kd.R_after (ok := (fun k_ => some k_ ≠ (.slice Ao15 t320.length co15 : Value).ownBlock)) (by (with_reducible repeat (first | apply Kd.R_alloc | apply Kd.R_drewN | apply Kd.R_drew)); exact Kd.R_mono HO364.out (fun _ hk => ⟨hk.2, hk.1⟩)) hg hat); replace BK373 := Aside0.mk (blk_grown (g := gb373) blk_c hg (Kd.R_ne HO358.out BK373.out (by decide))); replace HB := Aside0.mk (hb); have HO361 := Aside0.mk (ho); clear HO358 ho hb hg hat; refine hK.out _ _ ⟨(blk_cell BK323.out 0).trans rfl, (blk_cell BK323.out 1).trans rfl⟩ (fun hHeld => ?_); clear hK K; refine norm_ (a' := ?_) ?_ ?_; rotate_left
                      ·
                       show Act.put _ (some 104) _ = _; simp only [Act.put, List.setIfInBounds_toArray, List.set_cons_zero, List.set_cons_succ, i64_w, i32_w]; rfl
                      exact norm_ (by first | (simp only [putAll, Act.put, List.setIfInBounds_toArray, List.set_cons_zero, List.set_cons_succ]; done) | (simp only [putAll, Act.put, List.setIfInBounds_toArray, List.set_cons_zero, List.set_cons_succ]; rfl)) (hJ0_3_4_10 (v357, v360, v363, gb373) _ ⟨hHeld, (R_a HO353.out), (by (with_reducible repeat (first | apply Kd.R_alloc | apply Kd.R_drewN | apply Kd.R_drew)); exact Kd.R_mono HO361.out (fun _ hk => ⟨hk.2, hk.1⟩)), (by (with_reducible repeat (first | apply Kd.R_alloc | apply Kd.R_drewN | apply Kd.R_drew)); exact Kd.R_mono HO364.out (fun _ hk => ⟨hk.2, hk.1⟩)), (R_a HO_3.out), (by (with_reducible repeat (first | apply Kd.R_alloc | apply Kd.R_drewN | apply Kd.R_drew)); exact Kd.R_mono HO_324001.out (fun _ hk => ⟨hk.2, hk.1⟩)), (R_a HO_334001.out), (R_a HO_340001.out), blk_a, blk_a, blk_a, blk_a, blk_a, GW373.out, GE373.out, NB323_373.out, NB373_323.out, NB333_373.out, NB373_333.out, NB339_373.out, NB373_339.out, NB355_373.out, NB373_355.out, below_a⟩)
                    ·
                     rintro ⟨v357, v360, gb373⟩ w81 ⟨hS_, h0_, h1_, h2_, h3_, h4_, h5_, h6_, h7_, h8_, h9_, h10_, h11_, h12_, h13_, h14_, h15_, h16_, h17_, h18_, h19_, h20_, h21_⟩
                     try dsimp only at hS_ h0_ h1_ h2_ h3_ h4_ h5_ h6_ h7_ h8_ h9_ h10_ h11_ h12_ h13_ h14_ h15_ h16_ h17_ h18_ h19_ h20_ h21_
                     clear HO_3 HO_324001 HO_334001 HO_340001 HO353 BK323 BK333 BK339 BK355 HB; have HO353 := Aside0.mk h0_; have HO361 := Aside0.mk h1_; have HO_3 := Aside0.mk h2_; have HO_324001 := Aside0.mk h3_; have HO_334001 := Aside0.mk h4_; have HO_340001 := Aside0.mk h5_; have BK323 := Aside0.mk h6_; have BK333 := Aside0.mk h7_; have BK339 := Aside0.mk h8_; have BK355 := Aside0.mk h9_; have BK373 := Aside0.mk h10_; have GW373 := Aside0.mk h11_; have GE373 := Aside0.mk h12_; have NB323_373 := Aside0.mk h13_; have NB373_323 := Aside0.mk h14_; have NB333_373 := Aside0.mk h15_; have NB373_333 := Aside0.mk h16_; have NB339_373 := Aside0.mk h17_; have NB373_339 := Aside0.mk h18_; have NB355_373 := Aside0.mk h19_; have NB373_355 := Aside0.mk h20_; have HB := Aside0.mk h21_; clear h0_ h1_ h2_ h3_ h4_ h5_ h6_ h7_ h8_ h9_ h10_ h11_ h12_ h13_ h14_ h15_ h16_ h17_ h18_ h19_ h20_ h21_; have hHeld : w81.cell? ⟨gb323, 0, none⟩ = some (.int .i64 t319) ∧ w81.cell? ⟨gb323, 1, none⟩ = some (.slice Ao15 t320.length co15) := hS_; refine norm_ (a' := ?_) ?_ ?_; rotate_left
                     ·
                      simp only [putAll, Act.put, List.setIfInBounds_toArray, List.set_cons_zero, List.set_cons_succ]; rfl
                     refine one_ (i := 4) (N := some 105) #[Y',Y',Y',Y',Y',Z',Y',Y',Y',Z',Y',Z'] rfl rfl (one_of HT_.out (by kernel_rfl)) (by decide) (fun K hK => ?_); refine Kd.R_lit_step (Kd.int .u8) _ 5 ?hg (N := 105) ?hd (xs := ([192, 0] : List Int)) (inner := [.int .u8 192, .int .u8 0]) (ok := fun _ => True) (okp := fun _ => True) ?hr ?hp (fun _ hk => hk) trivial (Below.refl _ _) (Nat.le_refl _) (by simp) ?_; (case hd => rfl); (case hg => rfl); (case hr => first | (go_simp; done) | (go_simp; rfl)); (case hp => exact (Reps.one (show Kd.M (Kd.int .u8) _ _ _ 192 [.int .u8 192] from rfl) (Reps.one (show Kd.M (Kd.int .u8) _ _ _ 0 [.int .u8 0] from rfl) (Reps.none _ _)))); intro v363 w82 ho83 hb hg_ hnew_; clear hg_ hnew_; (first | rw [← Ny362.out] at ho83 | (simp only [Int.reduceToNat] at ho83; rw [← Ny362.out] at ho83)); replace HO_3 := Aside0.mk (Kd.R_below (R_a HO_3.out) hb); have n1_ := Aside0.mk (Kd.R_elder' (R_a HO_324001.out) (Kd.R_base ho83) hb); replace HO_334001 := Aside0.mk (Kd.R_below (R_a HO_334001.out) hb); replace HO_340001 := Aside0.mk (Kd.R_below (R_a HO_340001.out) hb); replace HO353 := Aside0.mk (Kd.R_below (R_a HO353.out) hb); have n5_ := Aside0.mk (Kd.R_elder' (R_a HO361.out) (Kd.R_base ho83) hb); have HO364 := Aside0.mk (Kd.R_lower (Kd.R_new' (Kd.R_new' ho83 (Kd.R_lt (R_a HO_324001.out))) (Kd.R_lt (R_a HO361.out))) (below_size below_a)); replace BK323 := Aside0.mk (blk_below (g := gb323) blk_c hb); replace BK333 := Aside0.mk (blk_below (g := gb333) blk_c hb); replace BK339 := Aside0.mk (blk_below (g := gb339) blk_c hb); replace BK355 := Aside0.mk (blk_below (g := gb355) blk_c hb); replace BK373 := Aside0.mk (blk_below (g := gb373) blk_c hb); replace HB := Aside0.mk (below_step below_a hb); replace HO_324001 := n1_; replace HO361 := n5_; clear n1_ n5_ hb ho83; refine hK.out _ _ ⟨(blk_cell BK323.out 0).trans rfl, (blk_cell BK323.out 1).trans rfl⟩ (fun hHeld => ?_); clear hK K; refine norm_ (a' := ?_) ?_ ?_; rotate_left
                     ·
                      show Act.put _ (some 105) _ = _; simp only [Act.put, List.setIfInBounds_toArray, List.set_cons_zero, List.set_cons_succ, i64_w, i32_w]; rfl
                     exact norm_ (by first | (simp only [putAll, Act.put, List.setIfInBounds_toArray, List.set_cons_zero, List.set_cons_succ]; done) | (simp only [putAll, Act.put, List.setIfInBounds_toArray, List.set_cons_zero, List.set_cons_succ]; rfl)) (hJ0_3_4_10 (v357, v360, v363, gb373) _ ⟨hHeld, (R_a HO353.out), (by (with_reducible repeat (first | apply Kd.R_alloc | apply Kd.R_drewN | apply Kd.R_drew)); exact Kd.R_mono HO361.out (fun _ hk => ⟨hk.2, hk.1⟩)), (by (with_reducible repeat (first | apply Kd.R_alloc | apply Kd.R_drewN | apply Kd.R_drew)); exact Kd.R_mono HO364.out (fun _ hk => ⟨hk.2, hk.1.2⟩)), (R_a HO_3.out), (R_a HO_324001.out), (R_a HO_334001.out), (R_a HO_340001.out), blk_a, blk_a, blk_a, blk_a, blk_a, GW373.out, GE373.out, NB323_373.out, NB373_323.out, NB333_373.out, NB373_333.out, NB339_373.out, NB373_339.out, NB355_373.out, NB373_355.out, below_a⟩)
                   ·
                    rintro ⟨v357, v360, v363⟩ w82 ⟨hS_, h0_, h1_, h2_, h3_, h4_, h5_, h6_, h7_, h8_, h9_, h10_, h11_⟩
                    try dsimp only at hS_ h0_ h1_ h2_ h3_ h4_ h5_ h6_ h7_ h8_ h9_ h10_ h11_
                    clear HO_3 HO_324001 HO_334001 HO_340001 HO353 BK323 BK333 BK339 BK355 HB; have HO353 := Aside0.mk h0_; have HO361 := Aside0.mk h1_; have HO364 := Aside0.mk h2_; have HO_3 := Aside0.mk h3_; have HO_324001 := Aside0.mk h4_; have HO_334001 := Aside0.mk h5_; have HO_340001 := Aside0.mk h6_; have BK323 := Aside0.mk h7_; have BK333 := Aside0.mk h8_; have BK339 := Aside0.mk h9_; have BK355 := Aside0.mk h10_; have HB := Aside0.mk h11_; clear h0_ h1_ h2_ h3_ h4_ h5_ h6_ h7_ h8_ h9_ h10_ h11_; have hHeld : w82.cell? ⟨gb323, 0, none⟩ = some (.int .i64 t319) ∧ w82.cell? ⟨gb323, 1, none⟩ = some (.slice Ao15 t320.length co15) := hS_; obtain ⟨Ao84, co84, eo84⟩ := Kd.R_slice HO364.out; (first | subst eo84 | (injection eo84 with f1_ f2_ f3_; have f4_ := f1_.symm; have f5_ := f3_.symm; clear f1_ f2_ f3_; subst f4_; subst f5_)); refine norm_ (a' := ?_) ?_ ?_; rotate_left
                    ·
                     simp only [putAll, Act.put, List.setIfInBounds_toArray, List.set_cons_zero, List.set_cons_succ]; rfl
                    refine two_ (i := 5) (j := 10) (Ni := some 106) (Nj := some 11) #[Y',Y',Y',Y',Y',Y',Y',Y',Y',Z',Z',Z'] #[Y',Y',Y',Y',Y',Z',Y',Y',Y',Z',Y',Z'] rfl rfl rfl rfl (two_of HT_.out (by kernel_rfl)) (by decide) (by decide) (fun K hK => ?_) (fun K hK => ?_)
                    ·
                     refine Kd.R_append_rows_step (Kd.int .u8) (w0 := w) w.heap.size (by rfl) (.tmp 104) (.tmp 105) 24 5 (.int .u8 0) 1 rfl Try.underlying24 info5 rfl (by decide) (by omega) v360 y359 y362 _ _ _ (fun k_ => some k_ ≠ (.slice Ao15 t320.length co15 : Value).ownBlock ∧ some k_ ≠ (.slice Ao84 y362.length co84 : Value).ownBlock) (fun _ => False) rfl rfl ?aO ?aR (fun _ _ h => h) (fun _ h => h.elim) ?aF ?aB ?aS ?aL ?_; (case aR => repeat (first | exact (Kd.R_reads' HO364.out).2.2 | (with_reducible refine Kd.C_alloc ?_ _) | (with_reducible refine Kd.C_drewN ?_ _) | (with_reducible refine Kd.C_drew ?_))); (case aB => exact below_a); (case aF => exact (fun k_ hk => ⟨Kd.fresh' (Kd.R_lt (R_a HO_324001.out)) k_ hk, Kd.fresh' (Kd.R_lt (R_a HO364.out)) k_ hk⟩)); (case aO => exact (by (with_reducible repeat (first | apply Kd.R_alloc | apply Kd.R_drewN | apply Kd.R_drew)); exact Kd.R_mono HO361.out (fun _ hk => ⟨hk.2, hk.1⟩))); (case aS => exact (below_size below_a)); (case aL => have := LMc62.out; omega); intro v366 w83 ho hb hg hat; rw [← Ny365.out] at ho; replace HO_3 := Aside0.mk (Kd.R_over' (R_a HO_3.out) (Kd.R_typed (R_a HO361.out)) (by decide) hg); replace HO_324001 := Aside0.mk (Kd.R_after (ok := (fun k_ => some k_ ≠ (.slice Ao84 y362.length co84 : Value).ownBlock)) (by (with_reducible repeat (first | apply Kd.R_alloc | apply Kd.R_drewN | apply Kd.R_drew)); exact Kd.R_mono HO_324001.out (fun _ hk => ⟨hk.2, hk.1⟩)) hg hat); replace HO_334001 := Aside0.mk (Kd.R_over' (R_a HO_334001.out) (Kd.R_typed (R_a HO361.out)) (by decide) hg); replace HO_340001 := Aside0.mk (Kd.R_over' (R_a HO_340001.out) (Kd.R_typed (R_a HO361.out)) (by decide) hg); replace BK323 := Aside0.mk (blk_grown (g := gb323) blk_c hg (Kd.R_ne HO361.out BK323.out (by decide))); replace BK333 := Aside0.mk (blk_grown (g := gb333) blk_c hg (Kd.R_ne HO361.out BK333.out (by decide))); replace BK339 := Aside0.mk (blk_grown (g := gb339) blk_c hg (Kd.R_ne HO361.out BK339.out (by decide))); replace HO353 := Aside0.mk (Kd.R_over' (R_a HO353.out) (Kd.R_typed (R_a HO361.out)) (by decide) hg); replace BK355 := Aside0.mk (blk_grown (g := gb355) blk_c hg (Kd.R_ne HO361.out BK355.out (by decide))); replace HO364 := Aside0.mk (Kd.R_after (ok := (fun k_ => some k_ ≠ (.slice Ao15 t320.length co15 : Value).ownBlock)) (by (with_reducible repeat (first | apply Kd.R_alloc | apply Kd.R_drewN | apply Kd.R_drew)); exact Kd.R_mono HO364.out (fun _ hk => ⟨hk.2, hk.1⟩)) hg hat); replace HB := Aside0.mk (hb); have HO367 := Aside0.mk (ho); clear HO361 ho hb hg hat; refine hK.out _ _ ⟨(blk_cell BK323.out 0).trans rfl, (blk_cell BK323.out 1).trans rfl⟩ (fun hHeld => ?_); clear hK K; refine norm_ (a' := ?_) ?_ ?_; rotate_left
                     ·
                      show Act.put _ (some 106) _ = _; simp only [Act.put, List.setIfInBounds_toArray, List.set_cons_zero, List.set_cons_succ, i64_w, i32_w]; rfl
                     exact norm_ (by first | (simp only [putAll, Act.put, List.setIfInBounds_toArray, List.set_cons_zero, List.set_cons_succ]; done) | (simp only [putAll, Act.put, List.setIfInBounds_toArray, List.set_cons_zero, List.set_cons_succ]; rfl)) (hJ0_3_4_5 (v357, v360, .slice Ao84 y362.length co84, v366) _ ⟨hHeld, (R_a HO353.out), (by (with_reducible repeat (first | apply Kd.R_alloc | apply Kd.R_drewN | apply Kd.R_drew)); exact Kd.R_mono HO364.out (fun _ hk => ⟨hk.2, hk.1⟩)), (by (with_reducible repeat (first | apply Kd.R_alloc | apply Kd.R_drewN | apply Kd.R_drew)); exact Kd.R_mono HO367.out (fun _ hk => ⟨hk.2, hk.1⟩)), (R_a HO_3.out), (R_a HO_324001.out), (R_a HO_334001.out), (R_a HO_340001.out), blk_a, blk_a, blk_a, blk_a, below_a⟩)
                    ·
                     refine box_step ?hg (N := 11) ?hd (cs := #[.int .i64 0, .slice none 0 0, .int .i64 0]) (t := 36) ?hr ?_; (case hd => rfl); (case hg => rfl); (case hr => first | (go_simp; done) | (go_simp; rfl)); intro gb373 hg w83 hbox hb; replace HO_3 := Aside0.mk (Kd.R_below (R_a HO_3.out) hb); replace HO_324001 := Aside0.mk (Kd.R_below (R_a HO_324001.out) hb); replace HO_334001 := Aside0.mk (Kd.R_below (R_a HO_334001.out) hb); replace HO_340001 := Aside0.mk (Kd.R_below (R_a HO_340001.out) hb); replace HO353 := Aside0.mk (Kd.R_below (R_a HO353.out) hb); replace HO361 := Aside0.mk (Kd.R_below (R_a HO361.out) hb); replace HO364 := Aside0.mk (Kd.R_below (R_a HO364.out) hb); have n7_ := Aside0.mk (blk_below (g := gb323) blk_c hb); have n8_ := Aside0.mk (blk_below (g := gb333) blk_c hb); have n9_ := Aside0.mk (blk_below (g := gb339) blk_c hb); have n10_ := Aside0.mk (blk_below (g := gb355) blk_c hb); have n11_ := Aside0.mk (below_step below_a hb); have BK373 := Aside0.mk (hbox); have GW373 := Aside0.mk (bsz_ (w := w) hg); have GE373 := Aside0.mk (bsz_ (w := w) hg); have NB323_373 := Aside0.mk (bne_ (g := gb323) hg); have NB373_323 := Aside0.mk (bne_ (g := gb323) hg).symm; have NB333_373 := Aside0.mk (bne_ (g := gb333) hg); have NB373_333 := Aside0.mk (bne_ (g := gb333) hg).symm; have NB339_373 := Aside0.mk (bne_ (g := gb339) hg); have NB373_339 := Aside0.mk (bne_ (g := gb339) hg).symm; have NB355_373 := Aside0.mk (bne_ (g := gb355) hg); have NB373_355 := Aside0.mk (bne_ (g := gb355) hg).symm; replace BK323 := n7_; replace BK333 := n8_; replace BK339 := n9_; replace BK355 := n10_; replace HB := n11_; clear n7_ n8_ n9_ n10_ n11_ hb hbox hg; refine hK.out _ _ ⟨(blk_cell BK323.out 0).trans rfl, (blk_cell BK323.out 1).trans rfl⟩ (fun hHeld => ?_); clear hK K; refine norm_ (a' := ?_) ?_ ?_; rotate_left
                     ·
                      show Act.put _ (some 11) _ = _; simp only [Act.put, List.setIfInBounds_toArray, List.set_cons_zero, List.set_cons_succ, i64_w, i32_w]; rfl
                     exact norm_ (by first | (simp only [putAll, Act.put, List.setIfInBounds_toArray, List.set_cons_zero, List.set_cons_succ]; done) | (simp only [putAll, Act.put, List.setIfInBounds_toArray, List.set_cons_zero, List.set_cons_succ]; rfl)) (hJ0_3_4_10 (v357, v360, .slice Ao84 y362.length co84, gb373) _ ⟨hHeld, (R_a HO353.out), (R_a HO361.out), (R_a HO364.out), (R_a HO_3.out), (R_a HO_324001.out), (R_a HO_334001.out), (R_a HO_340001.out), blk_a, blk_a, blk_a, blk_a, blk_a, GW373.out, GE373.out, NB323_373.out, NB373_323.out, NB333_373.out, NB373_333.out, NB339_373.out, NB373_339.out, NB355_373.out, NB373_355.out, below_a⟩)
                  ·
                   rintro ⟨v357, v360, v363, gb373⟩ w83 ⟨hS_, h0_, h1_, h2_, h3_, h4_, h5_, h6_, h7_, h8_, h9_, h10_, h11_, h12_, h13_, h14_, h15_, h16_, h17_, h18_, h19_, h20_, h21_, h22_⟩
                   try dsimp only at hS_ h0_ h1_ h2_ h3_ h4_ h5_ h6_ h7_ h8_ h9_ h10_ h11_ h12_ h13_ h14_ h15_ h16_ h17_ h18_ h19_ h20_ h21_ h22_
                   clear HO_3 HO_324001 HO_334001 HO_340001 HO353 BK323 BK333 BK339 BK355 HB; have HO353 := Aside0.mk h0_; have HO361 := Aside0.mk h1_; have HO364 := Aside0.mk h2_; have HO_3 := Aside0.mk h3_; have HO_324001 := Aside0.mk h4_; have HO_334001 := Aside0.mk h5_; have HO_340001 := Aside0.mk h6_; have BK323 := Aside0.mk h7_; have BK333 := Aside0.mk h8_; have BK339 := Aside0.mk h9_; have BK355 := Aside0.mk h10_; have BK373 := Aside0.mk h11_; have GW373 := Aside0.mk h12_; have GE373 := Aside0.mk h13_; have NB323_373 := Aside0.mk h14_; have NB373_323 := Aside0.mk h15_; have NB333_373 := Aside0.mk h16_; have NB373_333 := Aside0.mk h17_; have NB339_373 := Aside0.mk h18_; have NB373_339 := Aside0.mk h19_; have NB355_373 := Aside0.mk h20_; have NB373_355 := Aside0.mk h21_; have HB := Aside0.mk h22_; clear h0_ h1_ h2_ h3_ h4_ h5_ h6_ h7_ h8_ h9_ h10_ h11_ h12_ h13_ h14_ h15_ h16_ h17_ h18_ h19_ h20_ h21_ h22_; have hHeld : w83.cell? ⟨gb323, 0, none⟩ = some (.int .i64 t319) ∧ w83.cell? ⟨gb323, 1, none⟩ = some (.slice Ao15 t320.length co15) := hS_; obtain ⟨Ao85, co85, eo85⟩ := Kd.R_slice HO364.out; (first | subst eo85 | (injection eo85 with f1_ f2_ f3_; have f4_ := f1_.symm; have f5_ := f3_.symm; clear f1_ f2_ f3_; subst f4_; subst f5_)); refine norm_ (a' := ?_) ?_ ?_; rotate_left
                   ·
                    simp only [putAll, Act.put, List.setIfInBounds_toArray, List.set_cons_zero, List.set_cons_succ]; rfl
                   refine one_ (i := 5) (N := some 106) #[Y',Y',Y',Y',Y',Y',Y',Y',Y',Z',Y',Z'] rfl rfl (one_of HT_.out (by kernel_rfl)) (by decide) (fun K hK => ?_); refine Kd.R_append_rows_step (Kd.int .u8) (w0 := w) w.heap.size (by rfl) (.tmp 104) (.tmp 105) 24 5 (.int .u8 0) 1 rfl Try.underlying24 info5 rfl (by decide) (by omega) v360 y359 y362 _ _ _ (fun k_ => some k_ ≠ (.slice Ao15 t320.length co15 : Value).ownBlock ∧ some k_ ≠ (.slice Ao85 y362.length co85 : Value).ownBlock) (fun _ => False) rfl rfl ?aO ?aR (fun _ _ h => h) (fun _ h => h.elim) ?aF ?aB ?aS ?aL ?_; (case aR => repeat (first | exact (Kd.R_reads' HO364.out).2.2 | (with_reducible refine Kd.C_alloc ?_ _) | (with_reducible refine Kd.C_drewN ?_ _) | (with_reducible refine Kd.C_drew ?_))); (case aB => exact below_a); (case aF => exact (fun k_ hk => ⟨Kd.fresh' (Kd.R_lt (R_a HO_324001.out)) k_ hk, Kd.fresh' (Kd.R_lt (R_a HO364.out)) k_ hk⟩)); (case aO => exact (by (with_reducible repeat (first | apply Kd.R_alloc | apply Kd.R_drewN | apply Kd.R_drew)); exact Kd.R_mono HO361.out (fun _ hk => ⟨hk.2, hk.1⟩))); (case aS => exact (below_size below_a)); (case aL => have := LMc62.out; omega); intro v366 w84 ho hb hg hat; rw [← Ny365.out] at ho; replace HO_3 := Aside0.mk (Kd.R_over' (R_a HO_3.out) (Kd.R_typed (R_a HO361.out)) (by decide) hg); replace HO_324001 := Aside0.mk (Kd.R_after (ok := (fun k_ => some k_ ≠ (.slice Ao85 y362.length co85 : Value).ownBlock)) (by (with_reducible repeat (first | apply Kd.R_alloc | apply Kd.R_drewN | apply Kd.R_drew)); exact Kd.R_mono HO_324001.out (fun _ hk => ⟨hk.2, hk.1⟩)) hg hat); replace HO_334001 := Aside0.mk (Kd.R_over' (R_a HO_334001.out) (Kd.R_typed (R_a HO361.out)) (by decide) hg); replace HO_340001 := Aside0.mk (Kd.R_over' (R_a HO_340001.out) (Kd.R_typed (R_a HO361.out)) (by decide) hg); replace BK323 := Aside0.mk (blk_grown (g := gb323) blk_c hg (Kd.R_ne HO361.out BK323.out (by decide))); replace BK333 := Aside0.mk (blk_grown (g := gb333) blk_c hg (Kd.R_ne HO361.out BK333.out (by decide))); replace BK339 := Aside0.mk (blk_grown (g := gb339) blk_c hg (Kd.R_ne HO361.out BK339.out (by decide))); replace HO353 := Aside0.mk (Kd.R_over' (R_a HO353.out) (Kd.R_typed (R_a HO361.out)) (by decide) hg); replace BK355 := Aside0.mk (blk_grown (g := gb355) blk_c hg (Kd.R_ne HO361.out BK355.out (by decide))); replace HO364 := Aside0.mk (Kd.R_after (ok := (fun k_ => some k_ ≠ (.slice Ao15 t320.length co15 : Value).ownBlock)) (by (with_reducible repeat (first | apply Kd.R_alloc | apply Kd.R_drewN | apply Kd.R_drew)); exact Kd.R_mono HO364.out (fun _ hk => ⟨hk.2, hk.1⟩)) hg hat); replace BK373 := Aside0.mk (blk_grown (g := gb373) blk_c hg (Kd.R_ne HO361.out BK373.out (by decide))); replace HB := Aside0.mk (hb); have HO367 := Aside0.mk (ho); clear HO361 ho hb hg hat; refine hK.out _ _ ⟨(blk_cell BK323.out 0).trans rfl, (blk_cell BK323.out 1).trans rfl⟩ (fun hHeld => ?_); clear hK K; refine norm_ (a' := ?_) ?_ ?_; rotate_left
                   ·
                    show Act.put _ (some 106) _ = _; simp only [Act.put, List.setIfInBounds_toArray, List.set_cons_zero, List.set_cons_succ, i64_w, i32_w]; rfl
                   exact norm_ (by first | (simp only [putAll, Act.put, List.setIfInBounds_toArray, List.set_cons_zero, List.set_cons_succ]; done) | (simp only [putAll, Act.put, List.setIfInBounds_toArray, List.set_cons_zero, List.set_cons_succ]; rfl)) (hJ0_3_4_5_10 (v357, v360, .slice Ao85 y362.length co85, v366, gb373) _ ⟨hHeld, (R_a HO353.out), (by (with_reducible repeat (first | apply Kd.R_alloc | apply Kd.R_drewN | apply Kd.R_drew)); exact Kd.R_mono HO364.out (fun _ hk => ⟨hk.2, hk.1⟩)), (by (with_reducible repeat (first | apply Kd.R_alloc | apply Kd.R_drewN | apply Kd.R_drew)); exact Kd.R_mono HO367.out (fun _ hk => ⟨hk.2, hk.1⟩)), (R_a HO_3.out), (R_a HO_324001.out), (R_a HO_334001.out), (R_a HO_340001.out), blk_a, blk_a, blk_a, blk_a, blk_a, GW373.out, GE373.out, NB323_373.out, NB373_323.out, NB333_373.out, NB373_333.out, NB339_373.out, NB373_339.out, NB355_373.out, NB373_355.out, below_a⟩)
                 ·
                  rintro ⟨v357, v360, v363, v366⟩ w84 ⟨hS_, h0_, h1_, h2_, h3_, h4_, h5_, h6_, h7_, h8_, h9_, h10_, h11_⟩
                  try dsimp only at hS_ h0_ h1_ h2_ h3_ h4_ h5_ h6_ h7_ h8_ h9_ h10_ h11_
                  clear HO_3 HO_324001 HO_334001 HO_340001 HO353 BK323 BK333 BK339 BK355 HB; have HO353 := Aside0.mk h0_; have HO364 := Aside0.mk h1_; have HO367 := Aside0.mk h2_; have HO_3 := Aside0.mk h3_; have HO_324001 := Aside0.mk h4_; have HO_334001 := Aside0.mk h5_; have HO_340001 := Aside0.mk h6_; have BK323 := Aside0.mk h7_; have BK333 := Aside0.mk h8_; have BK339 := Aside0.mk h9_; have BK355 := Aside0.mk h10_; have HB := Aside0.mk h11_; clear h0_ h1_ h2_ h3_ h4_ h5_ h6_ h7_ h8_ h9_ h10_ h11_; have hHeld : w84.cell? ⟨gb323, 0, none⟩ = some (.int .i64 t319) ∧ w84.cell? ⟨gb323, 1, none⟩ = some (.slice Ao15 t320.length co15) := hS_; obtain ⟨Ao85, co85, eo85⟩ := Kd.R_slice HO367.out; (first | subst eo85 | (injection eo85 with f1_ f2_ f3_; have f4_ := f1_.symm; have f5_ := f3_.symm; clear f1_ f2_ f3_; subst f4_; subst f5_)); refine norm_ (a' := ?_) ?_ ?_; rotate_left
                  ·
                   simp only [putAll, Act.put, List.setIfInBounds_toArray, List.set_cons_zero, List.set_cons_succ]; rfl
                  refine two_ (i := 9) (j := 10) (Ni := some 110) (Nj := some 11) #[Y',Y',Y',Y',Y',Y',Y',Y',Y',Y',Z',Z'] #[Y',Y',Y',Y',Y',Y',Y',Y',Y',Z',Y',Z'] rfl rfl rfl rfl (two_of HT_.out (by kernel_rfl)) (by decide) (by decide) (fun K hK => ?_) (fun K hK => ?_)
                  ·
                   refine goes_ Try.func19 (by kernel_rfl) rfl #[.slice Ao85 y365.length co85, .int .i64 (t320.length : Int)] (by rfl) rfl rfl args_a ?_
                   with_reducible refine (impl_ReadName.calls kj44 _ _ y365 (t320.length : Int) t368 t369 t372 _ ?side1 ?side2 A63.out).mono ?_
                   (case side1 => repeat (first | exact (Kd.R_reads' HO367.out).2.2 | (with_reducible refine Kd.C_alloc ?_ _) | (with_reducible refine Kd.C_drewN ?_ _) | (with_reducible refine Kd.C_drew ?_))); (case side2 => exact (Kd.R_reads' HO367.out).2.1); rintro e w86 ⟨v370, rfl, ho0, hb⟩; refine ⟨_, rfl, ?_⟩; have n0_ := Aside0.mk (Kd.R_elder' (R_a HO_3.out) (Kd.R_base ho0) hb); replace HO_324001 := Aside0.mk (Kd.R_below (R_a HO_324001.out) hb); have n2_ := Aside0.mk (Kd.R_elder' (R_a HO_334001.out) (Kd.R_base ho0) hb); have n3_ := Aside0.mk (Kd.R_elder' (R_a HO_340001.out) (Kd.R_base ho0) hb); have n4_ := Aside0.mk (Kd.R_elder' (R_a HO353.out) (Kd.R_base ho0) hb); replace HO364 := Aside0.mk (Kd.R_below (R_a HO364.out) hb); replace HO367 := Aside0.mk (Kd.R_below (R_a HO367.out) hb); have HO371 := Aside0.mk (Kd.R_lower (Kd.R_new' (Kd.R_new' (Kd.R_new' (Kd.R_new' ho0 (Kd.R_lt (R_a HO_3.out))) (Kd.R_lt (R_a HO_334001.out))) (Kd.R_lt (R_a HO_340001.out))) (Kd.R_lt (R_a HO353.out))) (below_size below_a)); replace BK323 := Aside0.mk (blk_below (g := gb323) blk_c hb); replace BK333 := Aside0.mk (blk_below (g := gb333) blk_c hb); replace BK339 := Aside0.mk (blk_below (g := gb339) blk_c hb); replace BK355 := Aside0.mk (blk_below (g := gb355) blk_c hb); replace HB := Aside0.mk (below_step below_a hb); replace HO_3 := n0_; replace HO_334001 := n2_; replace HO_340001 := n3_; replace HO353 := n4_; clear n0_ n2_ n3_ n4_; (try clear hb); (try clear hb2); (try clear hk); (try clear hi); (try clear ho0); refine hK.out _ _ ⟨(blk_cell BK323.out 0).trans rfl, (blk_cell BK323.out 1).trans rfl⟩ (fun hHeld => ?_); clear hK K; refine norm_ (a' := ?_) ?_ ?_; rotate_left
                   ·
                    show Act.put _ (some 110) _ = _; simp only [Act.put, List.setIfInBounds_toArray, List.set_cons_zero, List.set_cons_succ, i64_w, i32_w]; rfl
                   exact norm_ (by first | (simp only [putAll, Act.put, List.setIfInBounds_toArray, List.set_cons_zero, List.set_cons_succ]; done) | (simp only [putAll, Act.put, List.setIfInBounds_toArray, List.set_cons_zero, List.set_cons_succ]; rfl)) (hJ0_3_4_5_9 (v357, v360, v363, .slice Ao85 y365.length co85, v370) _ ⟨hHeld, (by (with_reducible repeat (first | apply Kd.R_alloc | apply Kd.R_drewN | apply Kd.R_drew)); exact Kd.R_mono HO353.out (fun _ hk => ⟨hk.2, ⟨hk.1.1, ⟨hk.1.2.1, hk.1.2.2⟩⟩⟩)), (R_a HO364.out), (R_a HO367.out), (by (with_reducible repeat (first | apply Kd.R_alloc | apply Kd.R_drewN | apply Kd.R_drew)); exact Kd.R_mono HO371.out (fun _ hk => ⟨hk.2, ⟨hk.1.1.1.2, ⟨hk.1.1.2, hk.1.2⟩⟩⟩)), (by (with_reducible repeat (first | apply Kd.R_alloc | apply Kd.R_drewN | apply Kd.R_drew)); exact Kd.R_mono HO_3.out (fun _ hk => ⟨hk.1.1, ⟨hk.2, ⟨hk.1.2.1, hk.1.2.2⟩⟩⟩)), (R_a HO_324001.out), (by (with_reducible repeat (first | apply Kd.R_alloc | apply Kd.R_drewN | apply Kd.R_drew)); exact Kd.R_mono HO_334001.out (fun _ hk => ⟨hk.1.1, ⟨hk.2, ⟨hk.1.2.1, hk.1.2.2⟩⟩⟩)), (by (with_reducible repeat (first | apply Kd.R_alloc | apply Kd.R_drewN | apply Kd.R_drew)); exact Kd.R_mono HO_340001.out (fun _ hk => ⟨hk.1.1, ⟨hk.2, ⟨hk.1.2.1, hk.1.2.2⟩⟩⟩)), blk_a, blk_a, blk_a, blk_a, below_a⟩)
                  ·
                   refine box_step ?hg (N := 11) ?hd (cs := #[.int .i64 0, .slice none 0 0, .int .i64 0]) (t := 36) ?hr ?_; (case hd => rfl); (case hg => rfl); (case hr => first | (go_simp; done) | (go_simp; rfl)); intro gb373 hg w85 hbox hb; replace HO_3 := Aside0.mk (Kd.R_below (R_a HO_3.out) hb); replace HO_324001 := Aside0.mk (Kd.R_below (R_a HO_324001.out) hb); replace HO_334001 := Aside0.mk (Kd.R_below (R_a HO_334001.out) hb); replace HO_340001 := Aside0.mk (Kd.R_below (R_a HO_340001.out) hb); replace HO353 := Aside0.mk (Kd.R_below (R_a HO353.out) hb); replace HO364 := Aside0.mk (Kd.R_below (R_a HO364.out) hb); replace HO367 := Aside0.mk (Kd.R_below (R_a HO367.out) hb); have n7_ := Aside0.mk (blk_below (g := gb323) blk_c hb); have n8_ := Aside0.mk (blk_below (g := gb333) blk_c hb); have n9_ := Aside0.mk (blk_below (g := gb339) blk_c hb); have n10_ := Aside0.mk (blk_below (g := gb355) blk_c hb); have n11_ := Aside0.mk (below_step below_a hb); have BK373 := Aside0.mk (hbox); have GW373 := Aside0.mk (bsz_ (w := w) hg); have GE373 := Aside0.mk (bsz_ (w := w) hg); have NB323_373 := Aside0.mk (bne_ (g := gb323) hg); have NB373_323 := Aside0.mk (bne_ (g := gb323) hg).symm; have NB333_373 := Aside0.mk (bne_ (g := gb333) hg); have NB373_333 := Aside0.mk (bne_ (g := gb333) hg).symm; have NB339_373 := Aside0.mk (bne_ (g := gb339) hg); have NB373_339 := Aside0.mk (bne_ (g := gb339) hg).symm; have NB355_373 := Aside0.mk (bne_ (g := gb355) hg); have NB373_355 := Aside0.mk (bne_ (g := gb355) hg).symm; replace BK323 := n7_; replace BK333 := n8_; replace BK339 := n9_; replace BK355 := n10_; replace HB := n11_; clear n7_ n8_ n9_ n10_ n11_ hb hbox hg; refine hK.out _ _ ⟨(blk_cell BK323.out 0).trans rfl, (blk_cell BK323.out 1).trans rfl⟩ (fun hHeld => ?_); clear hK K; refine norm_ (a' := ?_) ?_ ?_; rotate_left
                   ·
                    show Act.put _ (some 11) _ = _; simp only [Act.put, List.setIfInBounds_toArray, List.set_cons_zero, List.set_cons_succ, i64_w, i32_w]; rfl
                   exact norm_ (by first | (simp only [putAll, Act.put, List.setIfInBounds_toArray, List.set_cons_zero, List.set_cons_succ]; done) | (simp only [putAll, Act.put, List.setIfInBounds_toArray, List.set_cons_zero, List.set_cons_succ]; rfl)) (hJ0_3_4_5_10 (v357, v360, v363, .slice Ao85 y365.length co85, gb373) _ ⟨hHeld, (R_a HO353.out), (R_a HO364.out), (R_a HO367.out), (R_a HO_3.out), (R_a HO_324001.out), (R_a HO_334001.out), (R_a HO_340001.out), blk_a, blk_a, blk_a, blk_a, blk_a, GW373.out, GE373.out, NB323_373.out, NB373_323.out, NB333_373.out, NB373_333.out, NB339_373.out, NB373_339.out, NB355_373.out, NB373_355.out, below_a⟩)
                ·
                 rintro ⟨v357, v360, v363, v366, gb373⟩ w85 ⟨hS_, h0_, h1_, h2_, h3_, h4_, h5_, h6_, h7_, h8_, h9_, h10_, h11_, h12_, h13_, h14_, h15_, h16_, h17_, h18_, h19_, h20_, h21_, h22_⟩
                 try dsimp only at hS_ h0_ h1_ h2_ h3_ h4_ h5_ h6_ h7_ h8_ h9_ h10_ h11_ h12_ h13_ h14_ h15_ h16_ h17_ h18_ h19_ h20_ h21_ h22_
                 clear HO_3 HO_324001 HO_334001 HO_340001 HO353 BK323 BK333 BK339 BK355 HB; have HO353 := Aside0.mk h0_; have HO364 := Aside0.mk h1_; have HO367 := Aside0.mk h2_; have HO_3 := Aside0.mk h3_; have HO_324001 := Aside0.mk h4_; have HO_334001 := Aside0.mk h5_; have HO_340001 := Aside0.mk h6_; have BK323 := Aside0.mk h7_; have BK333 := Aside0.mk h8_; have BK339 := Aside0.mk h9_; have BK355 := Aside0.mk h10_; have BK373 := Aside0.mk h11_; have GW373 := Aside0.mk h12_; have GE373 := Aside0.mk h13_; have NB323_373 := Aside0.mk h14_; have NB373_323 := Aside0.mk h15_; have NB333_373 := Aside0.mk h16_; have NB373_333 := Aside0.mk h17_; have NB339_373 := Aside0.mk h18_; have NB373_339 := Aside0.mk h19_; have NB355_373 := Aside0.mk h20_; have NB373_355 := Aside0.mk h21_; have HB := Aside0.mk h22_; clear h0_ h1_ h2_ h3_ h4_ h5_ h6_ h7_ h8_ h9_ h10_ h11_ h12_ h13_ h14_ h15_ h16_ h17_ h18_ h19_ h20_ h21_ h22_; have hHeld : w85.cell? ⟨gb323, 0, none⟩ = some (.int .i64 t319) ∧ w85.cell? ⟨gb323, 1, none⟩ = some (.slice Ao15 t320.length co15) := hS_; obtain ⟨Ao86, co86, eo86⟩ := Kd.R_slice HO367.out; (first | subst eo86 | (injection eo86 with f1_ f2_ f3_; have f4_ := f1_.symm; have f5_ := f3_.symm; clear f1_ f2_ f3_; subst f4_; subst f5_)); refine norm_ (a' := ?_) ?_ ?_; rotate_left
                 ·
                  simp only [putAll, Act.put, List.setIfInBounds_toArray, List.set_cons_zero, List.set_cons_succ]; rfl
                 refine one_ (i := 9) (N := some 110) #[Y',Y',Y',Y',Y',Y',Y',Y',Y',Y',Y',Z'] rfl rfl (one_of HT_.out (by kernel_rfl)) (by decide) (fun K hK => ?_); refine goes_ Try.func19 (by kernel_rfl) rfl #[.slice Ao86 y365.length co86, .int .i64 (t320.length : Int)] (by rfl) rfl rfl args_a ?_
                 with_reducible refine (impl_ReadName.calls kj44 _ _ y365 (t320.length : Int) t368 t369 t372 _ ?side1 ?side2 A63.out).mono ?_
                 (case side1 => repeat (first | exact (Kd.R_reads' HO367.out).2.2 | (with_reducible refine Kd.C_alloc ?_ _) | (with_reducible refine Kd.C_drewN ?_ _) | (with_reducible refine Kd.C_drew ?_))); (case side2 => exact (Kd.R_reads' HO367.out).2.1); rintro e w87 ⟨v370, rfl, ho0, hb⟩; refine ⟨_, rfl, ?_⟩; have n0_ := Aside0.mk (Kd.R_elder' (R_a HO_3.out) (Kd.R_base ho0) hb); replace HO_324001 := Aside0.mk (Kd.R_below (R_a HO_324001.out) hb); have n2_ := Aside0.mk (Kd.R_elder' (R_a HO_334001.out) (Kd.R_base ho0) hb); have n3_ := Aside0.mk (Kd.R_elder' (R_a HO_340001.out) (Kd.R_base ho0) hb); have n4_ := Aside0.mk (Kd.R_elder' (R_a HO353.out) (Kd.R_base ho0) hb); replace HO364 := Aside0.mk (Kd.R_below (R_a HO364.out) hb); replace HO367 := Aside0.mk (Kd.R_below (R_a HO367.out) hb); have HO371 := Aside0.mk (Kd.R_lower (Kd.R_new' (Kd.R_new' (Kd.R_new' (Kd.R_new' ho0 (Kd.R_lt (R_a HO_3.out))) (Kd.R_lt (R_a HO_334001.out))) (Kd.R_lt (R_a HO_340001.out))) (Kd.R_lt (R_a HO353.out))) (below_size below_a)); replace BK323 := Aside0.mk (blk_below (g := gb323) blk_c hb); replace BK333 := Aside0.mk (blk_below (g := gb333) blk_c hb); replace BK339 := Aside0.mk (blk_below (g := gb339) blk_c hb); replace BK355 := Aside0.mk (blk_below (g := gb355) blk_c hb); replace BK373 := Aside0.mk (blk_below (g := gb373) blk_c hb); replace HB := Aside0.mk (below_step below_a hb); replace HO_3 := n0_; replace HO_334001 := n2_; replace HO_340001 := n3_; replace HO353 := n4_; clear n0_ n2_ n3_ n4_; (try clear hb); (try clear hb2); (try clear hk); (try clear hi); (try clear ho0); refine hK.out _ _ ⟨(blk_cell BK323.out 0).trans rfl, (blk_cell BK323.out 1).trans rfl⟩ (fun hHeld => ?_); clear hK K; refine norm_ (a' := ?_) ?_ ?_; rotate_left
                 ·
                  show Act.put _ (some 110) _ = _; simp only [Act.put, List.setIfInBounds_toArray, List.set_cons_zero, List.set_cons_succ, i64_w, i32_w]; rfl
                 exact norm_ (by first | (simp only [putAll, Act.put, List.setIfInBounds_toArray, List.set_cons_zero, List.set_cons_succ]; done) | (simp only [putAll, Act.put, List.setIfInBounds_toArray, List.set_cons_zero, List.set_cons_succ]; rfl)) (hJ0_3_4_5_9_10 (v357, v360, v363, .slice Ao86 y365.length co86, v370, gb373) _ ⟨hHeld, (by (with_reducible repeat (first | apply Kd.R_alloc | apply Kd.R_drewN | apply Kd.R_drew)); exact Kd.R_mono HO353.out (fun _ hk => ⟨hk.2, ⟨hk.1.1, ⟨hk.1.2.1, hk.1.2.2⟩⟩⟩)), (R_a HO364.out), (R_a HO367.out), (by (with_reducible repeat (first | apply Kd.R_alloc | apply Kd.R_drewN | apply Kd.R_drew)); exact Kd.R_mono HO371.out (fun _ hk => ⟨hk.2, ⟨hk.1.1.1.2, ⟨hk.1.1.2, hk.1.2⟩⟩⟩)), (by (with_reducible repeat (first | apply Kd.R_alloc | apply Kd.R_drewN | apply Kd.R_drew)); exact Kd.R_mono HO_3.out (fun _ hk => ⟨hk.1.1, ⟨hk.2, ⟨hk.1.2.1, hk.1.2.2⟩⟩⟩)), (R_a HO_324001.out), (by (with_reducible repeat (first | apply Kd.R_alloc | apply Kd.R_drewN | apply Kd.R_drew)); exact Kd.R_mono HO_334001.out (fun _ hk => ⟨hk.1.1, ⟨hk.2, ⟨hk.1.2.1, hk.1.2.2⟩⟩⟩)), (by (with_reducible repeat (first | apply Kd.R_alloc | apply Kd.R_drewN | apply Kd.R_drew)); exact Kd.R_mono HO_340001.out (fun _ hk => ⟨hk.1.1, ⟨hk.2, ⟨hk.1.2.1, hk.1.2.2⟩⟩⟩)), blk_a, blk_a, blk_a, blk_a, blk_a, GW373.out, GE373.out, NB323_373.out, NB373_323.out, NB333_373.out, NB373_333.out, NB339_373.out, NB373_339.out, NB355_373.out, NB373_355.out, below_a⟩)
               ·
                rintro ⟨v357, v360, v363, v366, v370⟩ w86 ⟨hS_, h0_, h1_, h2_, h3_, h4_, h5_, h6_, h7_, h8_, h9_, h10_, h11_, h12_⟩
                try dsimp only at hS_ h0_ h1_ h2_ h3_ h4_ h5_ h6_ h7_ h8_ h9_ h10_ h11_ h12_
                clear HO_3 HO_324001 HO_334001 HO_340001 HO353 BK323 BK333 BK339 BK355 HB; have HO353 := Aside0.mk h0_; have HO364 := Aside0.mk h1_; have HO367 := Aside0.mk h2_; have HO371 := Aside0.mk h3_; have HO_3 := Aside0.mk h4_; have HO_324001 := Aside0.mk h5_; have HO_334001 := Aside0.mk h6_; have HO_340001 := Aside0.mk h7_; have BK323 := Aside0.mk h8_; have BK333 := Aside0.mk h9_; have BK339 := Aside0.mk h10_; have BK355 := Aside0.mk h11_; have HB := Aside0.mk h12_; clear h0_ h1_ h2_ h3_ h4_ h5_ h6_ h7_ h8_ h9_ h10_ h11_ h12_; have hHeld : w86.cell? ⟨gb323, 0, none⟩ = some (.int .i64 t319) ∧ w86.cell? ⟨gb323, 1, none⟩ = some (.slice Ao15 t320.length co15) := hS_; refine norm_ (a' := ?_) ?_ ?_; rotate_left
                ·
                 simp only [putAll, Act.put, List.setIfInBounds_toArray, List.set_cons_zero, List.set_cons_succ]; rfl
                refine one_ (i := 10) (N := some 11) #[Y',Y',Y',Y',Y',Y',Y',Y',Y',Y',Y',Z'] rfl rfl (one_of HT_.out (by kernel_rfl)) (by decide) (fun K hK => ?_); refine box_step ?hg (N := 11) ?hd (cs := #[.int .i64 0, .slice none 0 0, .int .i64 0]) (t := 36) ?hr ?_; (case hd => rfl); (case hg => rfl); (case hr => first | (go_simp; done) | (go_simp; rfl)); intro gb373 hg w87 hbox hb; replace HO_3 := Aside0.mk (Kd.R_below (R_a HO_3.out) hb); replace HO_324001 := Aside0.mk (Kd.R_below (R_a HO_324001.out) hb); replace HO_334001 := Aside0.mk (Kd.R_below (R_a HO_334001.out) hb); replace HO_340001 := Aside0.mk (Kd.R_below (R_a HO_340001.out) hb); replace HO353 := Aside0.mk (Kd.R_below (R_a HO353.out) hb); replace HO364 := Aside0.mk (Kd.R_below (R_a HO364.out) hb); replace HO367 := Aside0.mk (Kd.R_below (R_a HO367.out) hb); replace HO371 := Aside0.mk (Kd.R_below (R_a HO371.out) hb); have n8_ := Aside0.mk (blk_below (g := gb323) blk_c hb); have n9_ := Aside0.mk (blk_below (g := gb333) blk_c hb); have n10_ := Aside0.mk (blk_below (g := gb339) blk_c hb); have n11_ := Aside0.mk (blk_below (g := gb355) blk_c hb); have n12_ := Aside0.mk (below_step below_a hb); have BK373 := Aside0.mk (hbox); have GW373 := Aside0.mk (bsz_ (w := w) hg); have GE373 := Aside0.mk (bsz_ (w := w) hg); have NB323_373 := Aside0.mk (bne_ (g := gb323) hg); have NB373_323 := Aside0.mk (bne_ (g := gb323) hg).symm; have NB333_373 := Aside0.mk (bne_ (g := gb333) hg); have NB373_333 := Aside0.mk (bne_ (g := gb333) hg).symm; have NB339_373 := Aside0.mk (bne_ (g := gb339) hg); have NB373_339 := Aside0.mk (bne_ (g := gb339) hg).symm; have NB355_373 := Aside0.mk (bne_ (g := gb355) hg); have NB373_355 := Aside0.mk (bne_ (g := gb355) hg).symm; replace BK323 := n8_; replace BK333 := n9_; replace BK339 := n10_; replace BK355 := n11_; replace HB := n12_; clear n8_ n9_ n10_ n11_ n12_ hb hbox hg; refine hK.out _ _ ⟨(blk_cell BK323.out 0).trans rfl, (blk_cell BK323.out 1).trans rfl⟩ (fun hHeld => ?_); clear hK K; refine norm_ (a' := ?_) ?_ ?_; rotate_left
                ·
                 show Act.put _ (some 11) _ = _; simp only [Act.put, List.setIfInBounds_toArray, List.set_cons_zero, List.set_cons_succ, i64_w, i32_w]; rfl
                exact norm_ (by first | (simp only [putAll, Act.put, List.setIfInBounds_toArray, List.set_cons_zero, List.set_cons_succ]; done) | (simp only [putAll, Act.put, List.setIfInBounds_toArray, List.set_cons_zero, List.set_cons_succ]; rfl)) (hJ0_3_4_5_9_10 (v357, v360, v363, v366, v370, gb373) _ ⟨hHeld, (R_a HO353.out), (R_a HO364.out), (R_a HO367.out), (R_a HO371.out), (R_a HO_3.out), (R_a HO_324001.out), (R_a HO_334001.out), (R_a HO_340001.out), blk_a, blk_a, blk_a, blk_a, blk_a, GW373.out, GE373.out, NB323_373.out, NB373_323.out, NB333_373.out, NB373_333.out, NB339_373.out, NB373_339.out, NB355_373.out, NB373_355.out, below_a⟩)
              rintro ⟨v357, v360, v363, v366, v370, gb373⟩ w87 ⟨hS_, h0_, h1_, h2_, h3_, h4_, h5_, h6_, h7_, h8_, h9_, h10_, h11_, h12_, h13_, h14_, h15_, h16_, h17_, h18_, h19_, h20_, h21_, h22_, h23_⟩
              try dsimp only at hS_ h0_ h1_ h2_ h3_ h4_ h5_ h6_ h7_ h8_ h9_ h10_ h11_ h12_ h13_ h14_ h15_ h16_ h17_ h18_ h19_ h20_ h21_ h22_ h23_
              clear HO_3 HO_324001 HO_334001 HO_340001 HO353 BK323 BK333 BK339 BK355 HB; have HO353 := Aside0.mk h0_; have HO364 := Aside0.mk h1_; have HO367 := Aside0.mk h2_; have HO371 := Aside0.mk h3_; have HO_3 := Aside0.mk h4_; have HO_324001 := Aside0.mk h5_; have HO_334001 := Aside0.mk h6_; have HO_340001 := Aside0.mk h7_; have BK323 := Aside0.mk h8_; have BK333 := Aside0.mk h9_; have BK339 := Aside0.mk h10_; have BK355 := Aside0.mk h11_; have BK373 := Aside0.mk h12_; have GW373 := Aside0.mk h13_; have GE373 := Aside0.mk h14_; have NB323_373 := Aside0.mk h15_; have NB373_323 := Aside0.mk h16_; have NB333_373 := Aside0.mk h17_; have NB373_333 := Aside0.mk h18_; have NB339_373 := Aside0.mk h19_; have NB373_339 := Aside0.mk h20_; have NB355_373 := Aside0.mk h21_; have NB373_355 := Aside0.mk h22_; have HB := Aside0.mk h23_; clear h0_ h1_ h2_ h3_ h4_ h5_ h6_ h7_ h8_ h9_ h10_ h11_ h12_ h13_ h14_ h15_ h16_ h17_ h18_ h19_ h20_ h21_ h22_ h23_; have hHeld : w87.cell? ⟨gb323, 0, none⟩ = some (.int .i64 t319) ∧ w87.cell? ⟨gb323, 1, none⟩ = some (.slice Ao15 t320.length co15) := hS_; obtain ⟨Ao89, co89, eo89⟩ := Kd.R_slice HO371.out; (first | subst eo89 | (injection eo89 with f1_ f2_ f3_; have f4_ := f1_.symm; have f5_ := f3_.symm; clear f1_ f2_ f3_; subst f4_; subst f5_)); refine norm_ (a' := ?_) ?_ ?_; rotate_left
              ·
               simp only [putAll, Act.put, List.setIfInBounds_toArray, List.set_cons_zero, List.set_cons_succ]; rfl
              refine one_ (i := 11) (N := none) #[Y',Y',Y',Y',Y',Y',Y',Y',Y',Y',Y',Y'] rfl rfl (one_of HT_.out (by kernel_rfl)) (by decide) (fun K hK => ?_); have hs88 : w87.cell? ⟨gb373, 0, none⟩ = some (.int .i64 0) := (blk_cell BK373.out 0).trans rfl; have hfs88 := blk_frozen BK373.out 0; have hns88_0 := NB323_373.out; have hns88_1 := NB333_373.out; have hns88_2 := NB339_373.out; have hns88_3 := NB355_373.out; have hms88_0 := NB373_323.out; have hms88_1 := NB373_333.out; have hms88_2 := NB373_339.out; have hms88_3 := NB373_355.out; have hs90 : w87.cell? ⟨gb373, 1, none⟩ = some (.slice none 0 0) := (blk_cell BK373.out 1).trans rfl; have hfs90 := blk_frozen BK373.out 1; have hns90_0 := NB323_373.out; have hns90_1 := NB333_373.out; have hns90_2 := NB339_373.out; have hns90_3 := NB355_373.out; have hms90_0 := NB373_323.out; have hms90_1 := NB373_333.out; have hms90_2 := NB373_339.out; have hms90_3 := NB373_355.out; have hs91 : w87.cell? ⟨gb373, 2, none⟩ = some (.int .i64 0) := (blk_cell BK373.out 2).trans rfl; have hfs91 := blk_frozen BK373.out 2; have hns91_0 := NB323_373.out; have hns91_1 := NB333_373.out; have hns91_2 := NB339_373.out; have hns91_3 := NB355_373.out; have hms91_0 := NB373_323.out; have hms91_1 := NB373_333.out; have hms91_2 := NB373_339.out; have hms91_3 := NB373_355.out; refine skip_ (w1 := ?_) (by rfl) rfl ?_ ?_; rotate_left
              ·
               go_simp
               rfl
              refine hK.out _ _ ⟨((cell_far (p := ⟨gb373, _, none⟩) NB323_373.out _).trans (((cell_far (p := ⟨gb373, _, none⟩) NB323_373.out _).trans (((cell_far (p := ⟨gb373, _, none⟩) NB323_373.out _).trans (hHeld.1)))))), ((cell_far (p := ⟨gb373, _, none⟩) NB323_373.out _).trans (((cell_far (p := ⟨gb373, _, none⟩) NB323_373.out _).trans (((cell_far (p := ⟨gb373, _, none⟩) NB323_373.out _).trans (hHeld.2))))))⟩ (fun hHeld => ?_); clear hK K; refine done_ (done_of HT_.out (by kernel_rfl)) ?_
              go_upto_region 21 with (fail)
              go_cut [155] (fun v155 wc => ∃ (kq : Nat) (x155_63 : Bool), v155 = .bool x155_63 ∧ Aside0 (laws_FnNames.j3 kq t316 x155_63 t350 t351 t354 t368 t369 t372 = some r) ∧ Aside0 (kq ≤ kj44) ∧ Aside0 (Kd.R Kd.string 9 wc w.heap.size (fun k_ => some k_ ≠ ((.slice Ao22 t329.length co22) : Value).ownBlock ∧ some k_ ≠ ((.slice Ao28 t335.length co28) : Value).ownBlock ∧ some k_ ≠ ((.slice Ao74 t351.length co74) : Value).ownBlock ∧ some k_ ≠ ((.slice Ao89 t369.length co89) : Value).ownBlock) (.slice Ao11 t316.length co11) t316) ∧ Aside0 (Kd.R (Kd.int .u8) 5 wc w.heap.size (fun _ => True) (.slice Ao15 t320.length co15) t320) ∧ Aside0 (Kd.R Kd.string 9 wc w.heap.size (fun k_ => some k_ ≠ ((.slice Ao11 t316.length co11) : Value).ownBlock ∧ some k_ ≠ ((.slice Ao28 t335.length co28) : Value).ownBlock ∧ some k_ ≠ ((.slice Ao74 t351.length co74) : Value).ownBlock ∧ some k_ ≠ ((.slice Ao89 t369.length co89) : Value).ownBlock) (.slice Ao22 t329.length co22) t329) ∧ Aside0 (Kd.R Kd.string 9 wc w.heap.size (fun k_ => some k_ ≠ ((.slice Ao11 t316.length co11) : Value).ownBlock ∧ some k_ ≠ ((.slice Ao22 t329.length co22) : Value).ownBlock ∧ some k_ ≠ ((.slice Ao74 t351.length co74) : Value).ownBlock ∧ some k_ ≠ ((.slice Ao89 t369.length co89) : Value).ownBlock) (.slice Ao28 t335.length co28) t335) ∧ Aside0 (Kd.R Kd.string 9 wc w.heap.size (fun k_ => some k_ ≠ ((.slice Ao11 t316.length co11) : Value).ownBlock ∧ some k_ ≠ ((.slice Ao22 t329.length co22) : Value).ownBlock ∧ some k_ ≠ ((.slice Ao28 t335.length co28) : Value).ownBlock ∧ some k_ ≠ ((.slice Ao89 t369.length co89) : Value).ownBlock) (.slice Ao74 t351.length co74) t351) ∧ Aside0 (Kd.R Kd.string 9 wc w.heap.size (fun k_ => some k_ ≠ ((.slice Ao11 t316.length co11) : Value).ownBlock ∧ some k_ ≠ ((.slice Ao22 t329.length co22) : Value).ownBlock ∧ some k_ ≠ ((.slice Ao28 t335.length co28) : Value).ownBlock ∧ some k_ ≠ ((.slice Ao74 t351.length co74) : Value).ownBlock) (.slice Ao89 t369.length co89) t369) ∧ Aside0 (wc.heap[gb323]? = some (.cells #[.int .i64 t319, (.slice Ao15 t320.length co15)] 26 (0, 0))) ∧ Aside0 (wc.heap[gb333]? = some (.cells #[.int .i64 t328, (.slice Ao22 t329.length co22), .int .i64 t332] 36 (0, 0))) ∧ Aside0 (wc.heap[gb339]? = some (.cells #[.int .i64 t334, (.slice Ao28 t335.length co28), .int .i64 t338] 36 (0, 0))) ∧ Aside0 (wc.heap[gb355]? = some (.cells #[.int .i64 t350, (.slice Ao74 t351.length co74), .int .i64 t354] 36 (0, 0))) ∧ Aside0 (wc.heap[gb373]? = some (.cells #[.int .i64 t368, (.slice Ao89 t369.length co89), .int .i64 t372] 36 (0, 0))) ∧ Aside0 (Below w.heap.size w wc))
              case first =>
               have H := HC64.out; clear HC64
               by_cases c92 : t350 = 0
               ·
                rw [if_pos c92] at H; have c92b0 : (t350 == 0) = true := beq_iff_eq.mpr c92; have c92b1 : (t350 != 0) = false := bne_eq_false_iff_eq.mpr c92; clear c92; (first | rw [c92b0] | (simp only [i64_w, i32_w]; rw [c92b0]) | skip)
                by_cases c93 : t354 = (t320.length : Int)
                ·
                 rw [if_pos c93] at H; have c93b0 : (t354 == (t320.length : Int)) = true := beq_iff_eq.mpr c93; have c93b1 : (t354 != (t320.length : Int)) = false := bne_eq_false_iff_eq.mpr c93; clear c93
                 by_cases c94 : (t351.length : Int) = (t316.length : Int)
                 ·
                  rw [if_pos c94] at H; have c94b0 : ((t351.length : Int) == (t316.length : Int)) = true := beq_iff_eq.mpr c94; have c94b1 : ((t351.length : Int) != (t316.length : Int)) = false := bne_eq_false_iff_eq.mpr c94; have c94b2 : (t351.length == t316.length) = true := by first | simpa using c94 | (simp at c94 ⊢; omega)
                  clear c94
                  by_cases c95 : t368 = 0
                  ·
                   rw [if_pos c95] at H; have c95b0 : (t368 == 0) = true := beq_iff_eq.mpr c95; have c95b1 : (t368 != 0) = false := bne_eq_false_iff_eq.mpr c95; clear c95
                   by_cases c96 : t372 = (wrap64 ((t320.length : Int) + 2))
                   ·
                    rw [if_pos c96] at H; have c96b0 : (t372 == (wrap64 ((t320.length : Int) + 2))) = true := beq_iff_eq.mpr c96; have c96b1 : (t372 != (wrap64 ((t320.length : Int) + 2))) = false := bne_eq_false_iff_eq.mpr c96; (try (have c96b2 : (t372 == (IntKind.i64.wrap ((t320.length : Int) + 2))) = true := by simp only [i64_w]; exact beq_iff_eq.mpr c96)); (try (have c96b3 : (t372 != (IntKind.i64.wrap ((t320.length : Int) + 2))) = false := by simp only [i64_w]; exact bne_eq_false_iff_eq.mpr c96)); clear c96; have H' := Aside0.mk H; clear H; have hnb97 := NB355_323.out; have hnc97 := NB323_355.out; have hnb98 := NB355_333.out; have hnc98 := NB333_355.out; have hnb99 := NB355_339.out; have hnc99 := NB339_355.out; have hnb100 := NB355_373.out; have hnc100 := NB373_355.out; obtain ⟨hcz101_0, hcz101_1, hcz101_2, hfz101_0, hfz101_1, hfz101_2⟩ := bc3_ BK355.out; have hnb102 := NB323_333.out; have hnc102 := NB333_323.out; have hnb103 := NB323_339.out; have hnc103 := NB339_323.out; have hnb104 := NB323_373.out; have hnc104 := NB373_323.out; obtain ⟨hcz105_0, hcz105_1, hfz105_0, hfz105_1⟩ := bc2_ BK323.out; have hnb106 := NB373_333.out; have hnc106 := NB333_373.out; have hnb107 := NB373_339.out; have hnc107 := NB339_373.out; obtain ⟨hcz108_0, hcz108_1, hcz108_2, hfz108_0, hfz108_1, hfz108_2⟩ := bc3_ BK373.out
                    go_wp2
                    go_meet
                    case rel => exact ⟨_, (((t369.length : Int) != (t316.length : Int))), eq_b, H', ⟨by have := HJ8.out; have := HK2.out; have := HJ44.out; first | omega | exact Nat.le_refl _⟩, ⟨by (with_reducible repeat (first | apply Kd.R_alloc | apply Kd.R_drewN | apply Kd.R_drew)); exact Kd.R_mono (Kd.R_far (p := ⟨gb373, 2, none⟩) (Kd.R_far (p := ⟨gb373, 1, none⟩) (Kd.R_far (p := ⟨gb373, 0, none⟩) (Kd.R_types HO_3.out BK373.out (by decide)) (fun _ hk => hk.2) (.int .i64 t368)) (fun _ hk => hk.2) (.slice Ao89 t369.length co89)) (fun _ hk => hk.2) (.int .i64 t372)) (fun _ hk => ⟨hk.1.2.2.1, ⟨hk.1.2.2.2, ⟨hk.1.1, hk.1.2.1⟩⟩⟩)⟩, ⟨by (with_reducible repeat (first | apply Kd.R_alloc | apply Kd.R_drewN | apply Kd.R_drew)); exact Kd.R_mono (Kd.R_far (p := ⟨gb373, 2, none⟩) (Kd.R_far (p := ⟨gb373, 1, none⟩) (Kd.R_far (p := ⟨gb373, 0, none⟩) (Kd.R_types HO_324001.out BK373.out (by decide)) (fun _ hk => hk.2) (.int .i64 t368)) (fun _ hk => hk.2) (.slice Ao89 t369.length co89)) (fun _ hk => hk.2) (.int .i64 t372)) (fun _ hk => trivial)⟩, ⟨by (with_reducible repeat (first | apply Kd.R_alloc | apply Kd.R_drewN | apply Kd.R_drew)); exact Kd.R_mono (Kd.R_far (p := ⟨gb373, 2, none⟩) (Kd.R_far (p := ⟨gb373, 1, none⟩) (Kd.R_far (p := ⟨gb373, 0, none⟩) (Kd.R_types HO_334001.out BK373.out (by decide)) (fun _ hk => hk.2) (.int .i64 t368)) (fun _ hk => hk.2) (.slice Ao89 t369.length co89)) (fun _ hk => hk.2) (.int .i64 t372)) (fun _ hk => ⟨hk.1.2.2.1, ⟨hk.1.2.2.2, ⟨hk.1.1, hk.1.2.1⟩⟩⟩)⟩, ⟨by (with_reducible repeat (first | apply Kd.R_alloc | apply Kd.R_drewN | apply Kd.R_drew)); exact Kd.R_mono (Kd.R_far (p := ⟨gb373, 2, none⟩) (Kd.R_far (p := ⟨gb373, 1, none⟩) (Kd.R_far (p := ⟨gb373, 0, none⟩) (Kd.R_types HO_340001.out BK373.out (by decide)) (fun _ hk => hk.2) (.int .i64 t368)) (fun _ hk => hk.2) (.slice Ao89 t369.length co89)) (fun _ hk => hk.2) (.int .i64 t372)) (fun _ hk => ⟨hk.1.2.2.1, ⟨hk.1.2.2.2, ⟨hk.1.1, hk.1.2.1⟩⟩⟩)⟩, ⟨by (with_reducible repeat (first | apply Kd.R_alloc | apply Kd.R_drewN | apply Kd.R_drew)); exact Kd.R_mono (Kd.R_far (p := ⟨gb373, 2, none⟩) (Kd.R_far (p := ⟨gb373, 1, none⟩) (Kd.R_far (p := ⟨gb373, 0, none⟩) (Kd.R_types HO353.out BK373.out (by decide)) (fun _ hk => hk.2) (.int .i64 t368)) (fun _ hk => hk.2) (.slice Ao89 t369.length co89)) (fun _ hk => hk.2) (.int .i64 t372)) (fun _ hk => ⟨hk.1.2.1, ⟨hk.1.2.2.1, ⟨hk.1.2.2.2, hk.1.1⟩⟩⟩)⟩, ⟨by (with_reducible repeat (first | apply Kd.R_alloc | apply Kd.R_drewN | apply Kd.R_drew)); exact Kd.R_mono (Kd.R_far (p := ⟨gb373, 2, none⟩) (Kd.R_far (p := ⟨gb373, 1, none⟩) (Kd.R_far (p := ⟨gb373, 0, none⟩) (Kd.R_types HO371.out BK373.out (by decide)) (fun _ hk => hk.2) (.int .i64 t368)) (fun _ hk => hk.2) (.slice Ao89 t369.length co89)) (fun _ hk => hk.2) (.int .i64 t372)) (fun _ hk => ⟨hk.1.2.1, ⟨hk.1.2.2.1, ⟨hk.1.2.2.2, hk.1.1⟩⟩⟩)⟩, ⟨blk_a⟩, ⟨blk_a⟩, ⟨blk_a⟩, ⟨blk_a⟩, ⟨blk_a⟩, ⟨below_a⟩⟩
                   ·
                    rw [if_neg c96] at H; exact absurd H (by simp)
                  ·
                   rw [if_neg c95] at H; exact absurd H (by simp)
                 ·
                  rw [if_neg c94] at H; exact absurd H (by simp)
                ·
                 rw [if_neg c93] at H; exact absurd H (by simp)
               ·
                rw [if_neg c92] at H; exact absurd H (by simp)
              case rest =>
               clear HC64
               try clear c1
               try clear p2
               try clear p6
               try clear c9
               try clear c10
               try clear c19
               try clear p64
               try clear c92 c92b0 c92b1
               try clear c93 c93b0 c93b1
               try clear c94 c94b0 c94b1 c94b2
               try clear c95 c95b0 c95b1
               try clear c96 c96b0 c96b1 c96b2
               try clear c97
               try clear c98
               try clear c99
               try clear c100
               try clear c102
               try clear c103
               try clear c104
               try clear c106
               try clear c107
               try clear hcz101_0 hcz101_1 hcz101_2
               try clear hcz105_0 hcz105_1
               try clear hcz108_0 hcz108_1 hcz108_2
               try clear hfz101_0 hfz101_1 hfz101_2
               try clear hfz105_0 hfz105_1
               try clear hfz108_0 hfz108_1 hfz108_2
               obtain ⟨kq, x155_63, rfl, HA, HJ63, HO_3, HO_324001, HO_334001, HO_340001, HO_356001, HO_374001, BK323, BK333, BK339, BK355, BK373, HB⟩ := hcut
               cases kq with
               | zero => exact absurd HA.out (by simp [laws_FnNames.j3])
               | succ kj63 =>
                have H := HA.out; clear HA; simp only [laws_FnNames.j3] at H
                by_cases c109 : x155_63 = true
                ·
                 subst c109; have H1 : (none) = some r := by rw [if_pos rfl] at H; exact H
                 clear H; have H := H1; clear H1; exact absurd H (by simp)
                ·
                 replace c109 := Bool.eq_false_iff.mpr c109; subst c109; have H1 : (laws_FnNames.l1 kj63 t316 0 t350 t351 t354 t368 t369 t372) = some r := by rw [if_neg (show ¬ (false = true) by decide)] at H; exact H
                 clear H; have H := H1; clear H1; have H' := Aside0.mk H; clear H
                 go_wp2
                 go_loopg [12] kj63 (fun kq v12 w' => ∃ (x12_5 : Int), v12 = .int .i64 x12_5 ∧ Aside0 (laws_FnNames.l1 kq t316 x12_5 t350 t351 t354 t368 t369 t372 = some r) ∧ Aside0 (kq ≤ kj63) ∧ Aside0 (Kd.R Kd.string 9 w' w.heap.size (fun k_ => some k_ ≠ ((.slice Ao22 t329.length co22) : Value).ownBlock ∧ some k_ ≠ ((.slice Ao28 t335.length co28) : Value).ownBlock ∧ some k_ ≠ ((.slice Ao74 t351.length co74) : Value).ownBlock ∧ some k_ ≠ ((.slice Ao89 t369.length co89) : Value).ownBlock) (.slice Ao11 t316.length co11) t316) ∧ Aside0 (Kd.R (Kd.int .u8) 5 w' w.heap.size (fun _ => True) (.slice Ao15 t320.length co15) t320) ∧ Aside0 (Kd.R Kd.string 9 w' w.heap.size (fun k_ => some k_ ≠ ((.slice Ao11 t316.length co11) : Value).ownBlock ∧ some k_ ≠ ((.slice Ao28 t335.length co28) : Value).ownBlock ∧ some k_ ≠ ((.slice Ao74 t351.length co74) : Value).ownBlock ∧ some k_ ≠ ((.slice Ao89 t369.length co89) : Value).ownBlock) (.slice Ao22 t329.length co22) t329) ∧ Aside0 (Kd.R Kd.string 9 w' w.heap.size (fun k_ => some k_ ≠ ((.slice Ao11 t316.length co11) : Value).ownBlock ∧ some k_ ≠ ((.slice Ao22 t329.length co22) : Value).ownBlock ∧ some k_ ≠ ((.slice Ao74 t351.length co74) : Value).ownBlock ∧ some k_ ≠ ((.slice Ao89 t369.length co89) : Value).ownBlock) (.slice Ao28 t335.length co28) t335) ∧ Aside0 (Kd.R Kd.string 9 w' w.heap.size (fun k_ => some k_ ≠ ((.slice Ao11 t316.length co11) : Value).ownBlock ∧ some k_ ≠ ((.slice Ao22 t329.length co22) : Value).ownBlock ∧ some k_ ≠ ((.slice Ao28 t335.length co28) : Value).ownBlock ∧ some k_ ≠ ((.slice Ao89 t369.length co89) : Value).ownBlock) (.slice Ao74 t351.length co74) t351) ∧ Aside0 (Kd.R Kd.string 9 w' w.heap.size (fun k_ => some k_ ≠ ((.slice Ao11 t316.length co11) : Value).ownBlock ∧ some k_ ≠ ((.slice Ao22 t329.length co22) : Value).ownBlock ∧ some k_ ≠ ((.slice Ao28 t335.length co28) : Value).ownBlock ∧ some k_ ≠ ((.slice Ao74 t351.length co74) : Value).ownBlock) (.slice Ao89 t369.length co89) t369) ∧ Aside0 (w'.heap[gb323]? = some (.cells #[.int .i64 t319, (.slice Ao15 t320.length co15)] 26 (0, 0))) ∧ Aside0 (w'.heap[gb333]? = some (.cells #[.int .i64 t328, (.slice Ao22 t329.length co22), .int .i64 t332] 36 (0, 0))) ∧ Aside0 (w'.heap[gb339]? = some (.cells #[.int .i64 t334, (.slice Ao28 t335.length co28), .int .i64 t338] 36 (0, 0))) ∧ Aside0 (w'.heap[gb355]? = some (.cells #[.int .i64 t350, (.slice Ao74 t351.length co74), .int .i64 t354] 36 (0, 0))) ∧ Aside0 (w'.heap[gb373]? = some (.cells #[.int .i64 t368, (.slice Ao89 t369.length co89), .int .i64 t372] 36 (0, 0))) ∧ Aside0 (Below w.heap.size w w'))
                 case atStart => exact ⟨(0), eq_b, H', ⟨Nat.le_refl _⟩, ⟨R_a HO_3.out⟩, ⟨R_a HO_324001.out⟩, ⟨R_a HO_334001.out⟩, ⟨R_a HO_340001.out⟩, ⟨R_a HO_356001.out⟩, ⟨R_a HO_374001.out⟩, ⟨blk_a⟩, ⟨blk_a⟩, ⟨blk_a⟩, ⟨blk_a⟩, ⟨blk_a⟩, ⟨below_a⟩⟩
                 case round =>
                  clear H'
                  try clear c1
                  try clear p2 p2
                  try clear p6 p6
                  try clear c9
                  try clear c10
                  try clear c19
                  try clear p64 p64
                  try clear c92 c92b0 c92b1
                  try clear c93 c93b0 c93b1
                  try clear c94 c94b0 c94b1 c94b2
                  try clear c95 c95b0 c95b1
                  try clear c96 c96b0 c96b1 c96b2
                  try clear c97
                  try clear c98
                  try clear c99
                  try clear c100
                  try clear c102
                  try clear c103
                  try clear c104
                  try clear c106
                  try clear c107
                  try clear c109
                  try clear hcz101_0 hcz101_1 hcz101_2
                  try clear hcz105_0 hcz105_1
                  try clear hcz108_0 hcz108_1 hcz108_2
                  try clear hfz101_0 hfz101_1 hfz101_2
                  try clear hfz105_0 hfz105_1
                  try clear hfz108_0 hfz108_1 hfz108_2
                  obtain ⟨x12_5, rfl, HA, HK5, HO_3, HO_324001, HO_334001, HO_340001, HO_356001, HO_374001, BK323, BK333, BK339, BK355, BK373, HB⟩ := hrel
                  cases gk with
                  | zero => exact absurd HA.out (by simp [laws_FnNames.l1])
                  | succ k5 =>
                   have H := HA.out; clear HA; simp only [laws_FnNames.l1] at H
                   by_cases c110 : x12_5 < (t316.length : Int)
                   ·
                    rw [if_pos c110] at H; have c110b0 : decide (x12_5 < (t316.length : Int)) = true := decide_eq_true c110; clear c110
                    by_cases c111 : 0 ≤ x12_5
                    ·
                     rw [if_pos c111] at H; have c111b0 : decide (0 ≤ x12_5) = true := decide_eq_true c111; clear c111
                     by_cases c112 : x12_5 < (t351.length : Int)
                     ·
                      rw [if_pos c112] at H; have c112b0 : decide (x12_5 < (t351.length : Int)) = true := decide_eq_true c112; clear c112
                      by_cases c113 : (rdOf ByteArray.empty t351 x12_5).toList = (rdOf ByteArray.empty t316 x12_5).toList
                      ·
                       rw [if_pos c113] at H; have c113b0 : ((rdOf ByteArray.empty t351 x12_5).toList == (rdOf ByteArray.empty t316 x12_5).toList) = true := beq_iff_eq.mpr c113; have c113b1 : ((rdOf ByteArray.empty t351 x12_5).toList != (rdOf ByteArray.empty t316 x12_5).toList) = false := bne_eq_false_iff_eq.mpr c113; clear c113
                       by_cases c114 : x12_5 < (t369.length : Int)
                       ·
                        rw [if_pos c114] at H; have c114b0 : decide (x12_5 < (t369.length : Int)) = true := decide_eq_true c114; clear c114
                        by_cases c115 : (rdOf ByteArray.empty t369 x12_5).toList = (rdOf ByteArray.empty t316 x12_5).toList
                        ·
                         rw [if_pos c115] at H; have c115b0 : ((rdOf ByteArray.empty t369 x12_5).toList == (rdOf ByteArray.empty t316 x12_5).toList) = true := beq_iff_eq.mpr c115; have c115b1 : ((rdOf ByteArray.empty t369 x12_5).toList != (rdOf ByteArray.empty t316 x12_5).toList) = false := bne_eq_false_iff_eq.mpr c115; clear c115; have H' := Aside0.mk H; clear H
                         try go_wp2
                         replace HO_3 := Aside0.mk (Kd.R_drew HO_3.out); replace HO_324001 := Aside0.mk (Kd.R_drew HO_324001.out); replace HO_334001 := Aside0.mk (Kd.R_drew HO_334001.out); replace HO_340001 := Aside0.mk (Kd.R_drew HO_340001.out); replace HO_356001 := Aside0.mk (Kd.R_drew HO_356001.out); replace HO_374001 := Aside0.mk (Kd.R_drew HO_374001.out); replace BK323 := Aside0.mk (blk_drew BK323.out); replace BK333 := Aside0.mk (blk_drew BK333.out); replace BK339 := Aside0.mk (blk_drew BK339.out); replace BK355 := Aside0.mk (blk_drew BK355.out); replace BK373 := Aside0.mk (blk_drew BK373.out); replace HB := Aside0.mk (below_drew1 HB.out); have p374 : 0 ≤ (x12_5 : Int) := of_decide_eq_true (by first | (with_reducible assumption) | assumption); have q374 : x12_5 < (t351.length : Int) := of_decide_eq_true (by first | (with_reducible assumption) | assumption); obtain ⟨ad374, e374, hx374_0⟩ := Kd.at_string (Kd.R_reads' HO_356001.out).2.2 x12_5 p374 q374
                         cases e374
                         replace p374 := eq_true p374; replace q374 := eq_true q374; have p375 : 0 ≤ (x12_5 : Int) := of_decide_eq_true (by first | (with_reducible assumption) | assumption); have q375 : x12_5 < (t316.length : Int) := of_decide_eq_true (by first | (with_reducible assumption) | assumption); obtain ⟨ad375, e375, hx375_0⟩ := Kd.at_string (Kd.R_reads' HO_3.out).2.2 x12_5 p375 q375
                         cases e375
                         replace p375 := eq_true p375; replace q375 := eq_true q375; have p376 : 0 ≤ (x12_5 : Int) := of_decide_eq_true (by first | (with_reducible assumption) | assumption); have q376 : x12_5 < (t369.length : Int) := of_decide_eq_true (by first | (with_reducible assumption) | assumption); obtain ⟨ad376, e376, hx376_0⟩ := Kd.at_string (Kd.R_reads' HO_374001.out).2.2 x12_5 p376 q376
                         cases e376
                         replace p376 := eq_true p376; replace q376 := eq_true q376; have p377 : 0 ≤ (x12_5 : Int) := of_decide_eq_true (by first | (with_reducible assumption) | assumption); have q377 : x12_5 < (t316.length : Int) := of_decide_eq_true (by first | (with_reducible assumption) | assumption); obtain ⟨ad377, e377, hx377_0⟩ := Kd.at_string (Kd.R_reads' HO_3.out).2.2 x12_5 p377 q377; obtain rfl : ad375 = ad377 := (by injection e377); replace p377 := eq_true p377; replace q377 := eq_true q377; refine start_ (n := 24) (S := fun w' => w'.cell? ⟨gb355, 0, none⟩ = some (.int .i64 t350) ∧ w'.cell? ⟨gb355, 1, none⟩ = some (.slice (some ad374) t351.length co74) ∧ w'.cell? ⟨gb355, 2, none⟩ = some (.int .i64 t354) ∧ w'.cell? ⟨gb373, 0, none⟩ = some (.int .i64 t368) ∧ w'.cell? ⟨gb373, 1, none⟩ = some (.slice (some ad376) t369.length co89) ∧ w'.cell? ⟨gb373, 2, none⟩ = some (.int .i64 t372) ∧ w'.cell? (ad374.add (x12_5).toNat) = some (.string (rdOf ByteArray.empty t351 x12_5)) ∧ w'.cell? (ad375.add (x12_5).toNat) = some (.string (rdOf ByteArray.empty t316 x12_5)) ∧ w'.cell? (ad376.add (x12_5).toNat) = some (.string (rdOf ByteArray.empty t369 x12_5)) ∧ w'.cell? (ad375.add (x12_5).toNat) = some (.string (rdOf ByteArray.empty t316 x12_5))) (ds := []) #[Z',Z',Z',Z',Z',Z',Z',Z',Z',Z',Z',Z',Z',Z',Z',Z',Z',Z',Z',Z',Z',Z',Z',Z'] (by kernel_rfl) rfl rfl ⟨(blk_cell BK355.out 0).trans rfl, (blk_cell BK355.out 1).trans rfl, (blk_cell BK355.out 2).trans rfl, (blk_cell BK373.out 0).trans rfl, (blk_cell BK373.out 1).trans rfl, (blk_cell BK373.out 2).trans rfl, hx374_0, hx375_0, hx376_0, hx377_0⟩ (fun hHeld => ?_); refine with_tabW laws_FnNames.tab26 laws_FnNames.bits26 (fun HT_ HW_ => ?_); generalize wr.drew = w116 at HO_3 HO_324001 HO_334001 HO_340001 HO_356001 HO_374001 BK323 BK333 BK339 BK355 BK373 HB hx374_0 hx375_0 hx376_0 hx377_0 hHeld ⊢; refine pure_ (i := 0) (N := some 162) (v := ?_) (a' := ?_) #[Y',Z',Z',Z',Z',Z',Z',Z',Z',Z',Z',Z',Z',Z',Z',Z',Z',Z',Z',Z',Z',Z',Z',Z'] rfl rfl (any_of HT_.out (by kernel_rfl)) (fun _ _ _ h => h) (Or.inl ⟨by rfl, ?_⟩) ?_ ?_; rotate_left
                         ·
                          intro w'
                          go_simp
                          with_reducible rfl
                         rotate_left
                         ·
                          simp only [Act.put, List.setIfInBounds_toArray, List.set_cons_zero, List.set_cons_succ, i64_w, i32_w]; rfl
                         refine pure_ (i := 1) (N := some 163) (v := ?_) (a' := ?_) #[Y',Y',Z',Z',Z',Z',Z',Z',Z',Z',Z',Z',Z',Z',Z',Z',Z',Z',Z',Z',Z',Z',Z',Z'] rfl rfl (any_of HT_.out (by kernel_rfl)) (fun _ _ _ h => h) (Or.inl ⟨by rfl, ?_⟩) ?_ ?_; rotate_left
                         ·
                          intro w'
                          go_simp
                          with_reducible rfl
                         rotate_left
                         ·
                          simp only [Act.put, List.setIfInBounds_toArray, List.set_cons_zero, List.set_cons_succ, i64_w, i32_w]; rfl
                         refine pure_ (i := 3) (N := some 165) (v := ?_) (a' := ?_) #[Y',Y',Z',Y',Z',Z',Z',Z',Z',Z',Z',Z',Z',Z',Z',Z',Z',Z',Z',Z',Z',Z',Z',Z'] rfl rfl (any_of HT_.out (by kernel_rfl)) (fun _ _ _ h => h) (Or.inl ⟨by rfl, ?_⟩) ?_ ?_; rotate_left
                         ·
                          intro w'
                          go_simp
                          with_reducible rfl
                         rotate_left
                         ·
                          simp only [Act.put, List.setIfInBounds_toArray, List.set_cons_zero, List.set_cons_succ, i64_w, i32_w]; rfl
                         refine pure_ (i := 6) (N := some 168) (v := ?_) (a' := ?_) #[Y',Y',Z',Y',Z',Z',Y',Z',Z',Z',Z',Z',Z',Z',Z',Z',Z',Z',Z',Z',Z',Z',Z',Z'] rfl rfl (any_of HT_.out (by kernel_rfl)) (fun _ _ _ h => h) (Or.inl ⟨by rfl, ?_⟩) ?_ ?_; rotate_left
                         ·
                          intro w'
                          go_simp
                          with_reducible rfl
                         rotate_left
                         ·
                          simp only [Act.put, List.setIfInBounds_toArray, List.set_cons_zero, List.set_cons_succ, i64_w, i32_w]; rfl
                         refine pure_ (i := 7) (N := some 169) (v := ?_) (a' := ?_) #[Y',Y',Z',Y',Z',Z',Y',Y',Z',Z',Z',Z',Z',Z',Z',Z',Z',Z',Z',Z',Z',Z',Z',Z'] rfl rfl (any_of HT_.out (by kernel_rfl)) (fun _ _ _ h => h) (Or.inl ⟨by rfl, ?_⟩) ?_ ?_; rotate_left
                         ·
                          intro w'
                          go_simp
                          with_reducible rfl
                         rotate_left
                         ·
                          simp only [Act.put, List.setIfInBounds_toArray, List.set_cons_zero, List.set_cons_succ, i64_w, i32_w]; rfl
                         refine pure_ (i := 8) (N := some 170) (v := ?_) (a' := ?_) #[Y',Y',Z',Y',Z',Z',Y',Y',Y',Z',Z',Z',Z',Z',Z',Z',Z',Z',Z',Z',Z',Z',Z',Z'] rfl rfl (any_of HT_.out (by kernel_rfl)) (fun _ _ _ h => h) (Or.inl ⟨by rfl, ?_⟩) ?_ ?_; rotate_left
                         ·
                          intro w'
                          go_simp
                          with_reducible rfl
                         rotate_left
                         ·
                          simp only [Act.put, List.setIfInBounds_toArray, List.set_cons_zero, List.set_cons_succ, i64_w, i32_w]; rfl
                         refine take_ (i := 2) (N := some 164) (v := ?_) (a' := ?_) #[Y',Y',Y',Y',Z',Z',Y',Y',Y',Z',Z',Z',Z',Z',Z',Z',Z',Z',Z',Z',Z',Z',Z',Z'] rfl rfl (take_ofW HT_.out HW_.out (by kernel_rfl)) (fun _ _ _ h => h) (Or.inl ⟨by rfl, ?_⟩) hHeld ?_ ?_; rotate_left
                         ·
                          rintro w' ⟨s0, s1, s2, s3, s4, s5, s6, s7, s8, s9⟩
                          go_simp
                          with_reducible rfl
                         rotate_left
                         ·
                          simp only [Act.put, List.setIfInBounds_toArray, List.set_cons_zero, List.set_cons_succ, i64_w, i32_w]; rfl
                         refine pure_ (i := 4) (N := some 166) (v := ?_) (a' := ?_) #[Y',Y',Y',Y',Y',Z',Y',Y',Y',Z',Z',Z',Z',Z',Z',Z',Z',Z',Z',Z',Z',Z',Z',Z'] rfl rfl (any_of HT_.out (by kernel_rfl)) (fun _ _ _ h => h) (Or.inl ⟨by rfl, ?_⟩) ?_ ?_; rotate_left
                         ·
                          intro w'
                          go_simp
                          with_reducible rfl
                         rotate_left
                         ·
                          simp only [Act.put, List.setIfInBounds_toArray, List.set_cons_zero, List.set_cons_succ, i64_w, i32_w]; rfl
                         refine take_ (i := 5) (N := some 167) (v := ?_) (a' := ?_) #[Y',Y',Y',Y',Y',Y',Y',Y',Y',Z',Z',Z',Z',Z',Z',Z',Z',Z',Z',Z',Z',Z',Z',Z'] rfl rfl (take_ofW HT_.out HW_.out (by kernel_rfl)) (fun _ _ _ h => h) (Or.inl ⟨by rfl, ?_⟩) hHeld ?_ ?_; rotate_left
                         ·
                          rintro w' ⟨s0, s1, s2, s3, s4, s5, s6, s7, s8, s9⟩
                          go_simp
                          with_reducible rfl
                         rotate_left
                         ·
                          simp only [Act.put, List.setIfInBounds_toArray, List.set_cons_zero, List.set_cons_succ, i64_w, i32_w]; rfl
                         refine take_ (i := 9) (N := some 171) (v := ?_) (a' := ?_) #[Y',Y',Y',Y',Y',Y',Y',Y',Y',Y',Z',Z',Z',Z',Z',Z',Z',Z',Z',Z',Z',Z',Z',Z'] rfl rfl (take_ofW HT_.out HW_.out (by kernel_rfl)) (fun _ _ _ h => h) (Or.inl ⟨by rfl, ?_⟩) hHeld ?_ ?_; rotate_left
                         ·
                          rintro w' ⟨s0, s1, s2, s3, s4, s5, s6, s7, s8, s9⟩
                          go_simp
                          with_reducible rfl
                         rotate_left
                         ·
                          simp only [Act.put, List.setIfInBounds_toArray, List.set_cons_zero, List.set_cons_succ, i64_w, i32_w]; rfl
                         refine pure_ (i := 10) (N := some 172) (v := ?_) (a' := ?_) #[Y',Y',Y',Y',Y',Y',Y',Y',Y',Y',Y',Z',Z',Z',Z',Z',Z',Z',Z',Z',Z',Z',Z',Z'] rfl rfl (any_of HT_.out (by kernel_rfl)) (fun _ _ _ h => h) (Or.inl ⟨by rfl, ?_⟩) ?_ ?_; rotate_left
                         ·
                          intro w'
                          go_simp
                          with_reducible rfl
                         rotate_left
                         ·
                          simp only [Act.put, List.setIfInBounds_toArray, List.set_cons_zero, List.set_cons_succ, i64_w, i32_w]; rfl
                         refine pure_ (i := 11) (N := some 173) (v := ?_) (a' := ?_) #[Y',Y',Y',Y',Y',Y',Y',Y',Y',Y',Y',Y',Z',Z',Z',Z',Z',Z',Z',Z',Z',Z',Z',Z'] rfl rfl (any_of HT_.out (by kernel_rfl)) (fun _ _ _ h => h) (Or.inl ⟨by rfl, ?_⟩) ?_ ?_; rotate_left
                         ·
                          intro w'
                          go_simp
                          with_reducible rfl
                         rotate_left
                         ·
                          simp only [Act.put, List.setIfInBounds_toArray, List.set_cons_zero, List.set_cons_succ, i64_w, i32_w]; rfl
                         refine pure_ (i := 12) (N := some 174) (v := ?_) (a' := ?_) #[Y',Y',Y',Y',Y',Y',Y',Y',Y',Y',Y',Y',Y',Z',Z',Z',Z',Z',Z',Z',Z',Z',Z',Z'] rfl rfl (any_of HT_.out (by kernel_rfl)) (fun _ _ _ h => h) (Or.inl ⟨by rfl, ?_⟩) ?_ ?_; rotate_left
                         ·
                          intro w'
                          go_simp
                          with_reducible rfl
                         rotate_left
                         ·
                          simp only [Act.put, List.setIfInBounds_toArray, List.set_cons_zero, List.set_cons_succ, i64_w, i32_w]; rfl
                         refine pure_ (i := 13) (N := some 175) (v := ?_) (a' := ?_) #[Y',Y',Y',Y',Y',Y',Y',Y',Y',Y',Y',Y',Y',Y',Z',Z',Z',Z',Z',Z',Z',Z',Z',Z'] rfl rfl (any_of HT_.out (by kernel_rfl)) (fun _ _ _ h => h) (Or.inl ⟨by rfl, ?_⟩) ?_ ?_; rotate_left
                         ·
                          intro w'
                          go_simp
                          with_reducible rfl
                         rotate_left
                         ·
                          simp only [Act.put, List.setIfInBounds_toArray, List.set_cons_zero, List.set_cons_succ, i64_w, i32_w]; rfl
                         refine pure_ (i := 15) (N := some 177) (v := ?_) (a' := ?_) #[Y',Y',Y',Y',Y',Y',Y',Y',Y',Y',Y',Y',Y',Y',Z',Y',Z',Z',Z',Z',Z',Z',Z',Z'] rfl rfl (any_of HT_.out (by kernel_rfl)) (fun _ _ _ h => h) (Or.inl ⟨by rfl, ?_⟩) ?_ ?_; rotate_left
                         ·
                          intro w'
                          go_simp
                          with_reducible rfl
                         rotate_left
                         ·
                          simp only [Act.put, List.setIfInBounds_toArray, List.set_cons_zero, List.set_cons_succ, i64_w, i32_w]; rfl
                         refine pure_ (i := 18) (N := some 180) (v := ?_) (a' := ?_) #[Y',Y',Y',Y',Y',Y',Y',Y',Y',Y',Y',Y',Y',Y',Z',Y',Z',Z',Y',Z',Z',Z',Z',Z'] rfl rfl (any_of HT_.out (by kernel_rfl)) (fun _ _ _ h => h) (Or.inl ⟨by rfl, ?_⟩) ?_ ?_; rotate_left
                         ·
                          intro w'
                          go_simp
                          with_reducible rfl
                         rotate_left
                         ·
                          simp only [Act.put, List.setIfInBounds_toArray, List.set_cons_zero, List.set_cons_succ, i64_w, i32_w]; rfl
                         refine pure_ (i := 19) (N := some 181) (v := ?_) (a' := ?_) #[Y',Y',Y',Y',Y',Y',Y',Y',Y',Y',Y',Y',Y',Y',Z',Y',Z',Z',Y',Y',Z',Z',Z',Z'] rfl rfl (any_of HT_.out (by kernel_rfl)) (fun _ _ _ h => h) (Or.inl ⟨by rfl, ?_⟩) ?_ ?_; rotate_left
                         ·
                          intro w'
                          go_simp
                          with_reducible rfl
                         rotate_left
                         ·
                          simp only [Act.put, List.setIfInBounds_toArray, List.set_cons_zero, List.set_cons_succ, i64_w, i32_w]; rfl
                         refine pure_ (i := 20) (N := some 182) (v := ?_) (a' := ?_) #[Y',Y',Y',Y',Y',Y',Y',Y',Y',Y',Y',Y',Y',Y',Z',Y',Z',Z',Y',Y',Y',Z',Z',Z'] rfl rfl (any_of HT_.out (by kernel_rfl)) (fun _ _ _ h => h) (Or.inl ⟨by rfl, ?_⟩) ?_ ?_; rotate_left
                         ·
                          intro w'
                          go_simp
                          with_reducible rfl
                         rotate_left
                         ·
                          simp only [Act.put, List.setIfInBounds_toArray, List.set_cons_zero, List.set_cons_succ, i64_w, i32_w]; rfl
                         refine take_ (i := 14) (N := some 176) (v := ?_) (a' := ?_) #[Y',Y',Y',Y',Y',Y',Y',Y',Y',Y',Y',Y',Y',Y',Y',Y',Z',Z',Y',Y',Y',Z',Z',Z'] rfl rfl (take_ofW HT_.out HW_.out (by kernel_rfl)) (fun _ _ _ h => h) (Or.inl ⟨by rfl, ?_⟩) hHeld ?_ ?_; rotate_left
                         ·
                          rintro w' ⟨s0, s1, s2, s3, s4, s5, s6, s7, s8, s9⟩
                          go_simp
                          with_reducible rfl
                         rotate_left
                         ·
                          simp only [Act.put, List.setIfInBounds_toArray, List.set_cons_zero, List.set_cons_succ, i64_w, i32_w]; rfl
                         refine pure_ (i := 16) (N := some 178) (v := ?_) (a' := ?_) #[Y',Y',Y',Y',Y',Y',Y',Y',Y',Y',Y',Y',Y',Y',Y',Y',Y',Z',Y',Y',Y',Z',Z',Z'] rfl rfl (any_of HT_.out (by kernel_rfl)) (fun _ _ _ h => h) (Or.inl ⟨by rfl, ?_⟩) ?_ ?_; rotate_left
                         ·
                          intro w'
                          go_simp
                          with_reducible rfl
                         rotate_left
                         ·
                          simp only [Act.put, List.setIfInBounds_toArray, List.set_cons_zero, List.set_cons_succ, i64_w, i32_w]; rfl
                         refine take_ (i := 17) (N := some 179) (v := ?_) (a' := ?_) #[Y',Y',Y',Y',Y',Y',Y',Y',Y',Y',Y',Y',Y',Y',Y',Y',Y',Y',Y',Y',Y',Z',Z',Z'] rfl rfl (take_ofW HT_.out HW_.out (by kernel_rfl)) (fun _ _ _ h => h) (Or.inl ⟨by rfl, ?_⟩) hHeld ?_ ?_; rotate_left
                         ·
                          rintro w' ⟨s0, s1, s2, s3, s4, s5, s6, s7, s8, s9⟩
                          go_simp
                          with_reducible rfl
                         rotate_left
                         ·
                          simp only [Act.put, List.setIfInBounds_toArray, List.set_cons_zero, List.set_cons_succ, i64_w, i32_w]; rfl
                         refine take_ (i := 21) (N := some 183) (v := ?_) (a' := ?_) #[Y',Y',Y',Y',Y',Y',Y',Y',Y',Y',Y',Y',Y',Y',Y',Y',Y',Y',Y',Y',Y',Y',Z',Z'] rfl rfl (take_ofW HT_.out HW_.out (by kernel_rfl)) (fun _ _ _ h => h) (Or.inl ⟨by rfl, ?_⟩) hHeld ?_ ?_; rotate_left
                         ·
                          rintro w' ⟨s0, s1, s2, s3, s4, s5, s6, s7, s8, s9⟩
                          go_simp
                          with_reducible rfl
                         rotate_left
                         ·
                          simp only [Act.put, List.setIfInBounds_toArray, List.set_cons_zero, List.set_cons_succ, i64_w, i32_w]; rfl
                         refine pure_ (i := 22) (N := some 184) (v := ?_) (a' := ?_) #[Y',Y',Y',Y',Y',Y',Y',Y',Y',Y',Y',Y',Y',Y',Y',Y',Y',Y',Y',Y',Y',Y',Y',Z'] rfl rfl (any_of HT_.out (by kernel_rfl)) (fun _ _ _ h => h) (Or.inl ⟨by rfl, ?_⟩) ?_ ?_; rotate_left
                         ·
                          intro w'
                          go_simp
                          with_reducible rfl
                         rotate_left
                         ·
                          simp only [Act.put, List.setIfInBounds_toArray, List.set_cons_zero, List.set_cons_succ, i64_w, i32_w]; rfl
                         refine pure_ (i := 23) (N := some 185) (v := ?_) (a' := ?_) #[Y',Y',Y',Y',Y',Y',Y',Y',Y',Y',Y',Y',Y',Y',Y',Y',Y',Y',Y',Y',Y',Y',Y',Y'] rfl rfl (any_of HT_.out (by kernel_rfl)) (fun _ _ _ h => h) (Or.inl ⟨by rfl, ?_⟩) ?_ ?_; rotate_left
                         ·
                          intro w'
                          go_simp
                          with_reducible rfl
                         rotate_left
                         ·
                          simp only [Act.put, List.setIfInBounds_toArray, List.set_cons_zero, List.set_cons_succ, i64_w, i32_w]; rfl
                         refine done_ (done_of HT_.out (by kernel_rfl)) ?_
                         try go_wp2
                         go_roundg k5
                         case measure => have := HJ8.out; have := HK2.out; have := HJ44.out; have := HJ63.out; have := HK5.out; omega
                         case rel => exact ⟨(wrap64 (x12_5 + 1)), eq_b, H', ⟨by have := HJ8.out; have := HK2.out; have := HJ44.out; have := HJ63.out; have := HK5.out; omega⟩, ⟨R_a HO_3.out⟩, ⟨R_a HO_324001.out⟩, ⟨R_a HO_334001.out⟩, ⟨R_a HO_340001.out⟩, ⟨R_a HO_356001.out⟩, ⟨R_a HO_374001.out⟩, ⟨blk_a⟩, ⟨blk_a⟩, ⟨blk_a⟩, ⟨blk_a⟩, ⟨blk_a⟩, ⟨below_a⟩⟩
                        ·
                         rw [if_neg c115] at H; exact absurd H (by simp)
                       ·
                        rw [if_neg c114] at H; exact absurd H (by simp)
                      ·
                       rw [if_neg c113] at H; exact absurd H (by simp)
                     ·
                      rw [if_neg c112] at H; exact absurd H (by simp)
                    ·
                     rw [if_neg c111] at H; exact absurd H (by simp)
                   ·
                    rw [if_neg c110] at H; have c110b0 : decide (x12_5 < (t316.length : Int)) = false := decide_eq_false c110; clear c110; obtain rfl := Option.some.inj H
                    go_wp2
                    go_ret
                    exact ⟨eq_a, below_a⟩
             ·
              rw [if_neg c62] at H; exact absurd H (by simp)
            ·
             rw [if_neg c61] at H; exact absurd H (by simp)
           ·
            rw [if_neg c59] at H; have c59b0 : (t319 == 0) = false := beq_eq_false_iff_ne.mpr c59; have c59b1 : (t319 != 0) = true := bne_iff_ne.mpr c59; obtain rfl := Option.some.inj H; have hnb117 := NB323_333.out; have hnc117 := NB333_323.out; have hnb118 := NB323_339.out; have hnc118 := NB339_323.out; obtain ⟨hcz119_0, hcz119_1, hfz119_0, hfz119_1⟩ := bc2_ BK323.out
            go_wp2
            go_ret
            exact ⟨eq_a, below_a⟩

/-- THE ONE PURE STATEMENT of laws_FnNames: yours. -/
def laws_FnNames.Pure : Prop := ∀ (l0 : List Int), l0.length ≤ maxLen → l0.length * 1 ≤ 140737488351232 → (∀ x ∈ l0, (Lit.int .u8 x).wf = true) → ∃ k, laws_FnNames.f k l0 = some true
theorem laws_FnNames.walk (P : laws_FnNames.Pure) (a0 : Option Addr) (len0 cap0 : Nat) (z0 : List Int) (w : World) (w0 : (a0 = none ∧ len0 = 0 ∧ cap0 = 0 ∧ z0 = []) ∨ ∃ x, a0 = some x ∧ len0 ≤ cap0 ∧ cap0 ≤ maxLen ∧ z0.length = cap0 ∧ (∀ i, i < z0.length → w.cell? (x.add i) = some (.int .u8 (z0.getD i 0))) ∧ ∀ n ∈ z0, (Lit.int .u8 n).wf = true) (y0 : len0 * 1 ≤ 140737488351232) :
  Calls Try.prog 5 #[.slice a0 len0 cap0] w fun e w' => e = .returned (.bool true) ∧ Below w.heap.size w w' := by
 obtain ⟨l0, rfl, hr0, hm0, hw0, hc0⟩ := ReadsInt.ofRowC w0
 obtain ⟨k, h⟩ := P l0 hm0 y0 hw0
 refine (laws_FnNames.calls k _ _ l0 true w (Kd.C_of_reads (d := (0 : Int)) (h1 := fun _ => rfl) hr0) hc0 h).mono ?_
 rintro e w' ⟨rfl, hd⟩
 exact ⟨rfl, hd⟩

end Go.Proofs.Ytllkeaghjacalaa.MFnNames
