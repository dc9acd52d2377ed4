-- Laid by a program of this session (the kit's print, turned where it falls short; the texts of functions that it does not take are proved by hand).
import Derived.Test.YtbnibakamdhpdaaMFnWindowsx0
import Derived.Test.YtbnibakamdhpdaaMFnWindowsx1
import Derived.Test.YtbnibakamdhpdaaMFnWindowsx3
import Derived.Test.YtbnibakamdhpdaaMFnWindowsx4
import Derived.Test.YtbnibakamdhpdaaMFnWindowsx5
import Derived.Test.YtbnibakamdhpdaaMFnWindowsx6
import Derived.Test.YtbnibakamdhpdaaMFnWindowsx7
namespace Go.Proofs.Ytbnibakamdhpdaa.MFnWindows
open Go.RowKit Go.Proofs.YtbnibakamdhpdaaW.PrintWords Go.Proofs.YtbnibakamdhpdaaW.PrintLast Go.Proofs.YtbnibakamdhpdaaW.PrintMore
attribute [local go_sem] max2_int min2_int max_two min_two max_three min_three max_four min_four   -- for this text's walks alone
set_option linter.unusedVariables false
set_option linter.unusedSimpArgs false

attribute [local go_sem] isSome_setCell run_field26_0 run_field30_0 run_field35_0 run_field35_1
/-! ### laws_FnWindows: function 3 -/
mutual
def laws_FnWindows.j0 : Nat → Int → List Int → Bool → Int → List Int → Int → Int → List Int → Int → List Int → Option (Bool)
 | 0, _, _, _, _, _, _, _, _, _, _ => none
 | k + 1, x4, x7, x89, x359000, x359001, x365000, x365001, x365002, x378000, x378001 => if x89 = true then (none) else (laws_FnWindows.l0 k x4 x7 (([] : List Int)) 0 x359000 x359001 x365000 x365001 x365002 x378000 x378001)
def laws_FnWindows.l0 : Nat → Int → List Int → List Int → Int → Int → List Int → Int → Int → List Int → Int → List Int → Option (Bool)
 | 0, _, _, _, _, _, _, _, _, _, _, _ => none
 | k + 1, x4, x7, x11, x12, x359000, x359001, x365000, x365001, x365002, x378000, x378001 => if x12 < (x378001.length : Int) then (if 0 ≤ x12 then (if 0 ≤ (rd x378001 x12) then (if (rd x378001 x12) < (x7.length : Int) then (laws_FnWindows.l1 k x4 x7 x11 x12 (rd x7 (rd x378001 x12)) 0 x359000 x359001 x365000 x365001 x365002 x378000 x378001) else (none)) else (none)) else (none)) else (if x365000 = 0 then (if x4 > x359000 then (laws_FnWindows.j3 k x4 x4 x365000 x365001 x365002) else (laws_FnWindows.j3 k x4 x359000 x365000 x365001 x365002)) else (some true))
def laws_FnWindows.l1 : Nat → Int → List Int → List Int → Int → Int → Int → Int → List Int → Int → Int → List Int → Int → List Int → Option (Bool)
 | 0, _, _, _, _, _, _, _, _, _, _, _, _, _ => none
 | k + 1, x4, x7, x11, x12, x13, x14, x359000, x359001, x365000, x365001, x365002, x378000, x378001 => if x14 < (x11.length : Int) then (if 0 ≤ x14 then (if (rd x11 x14) = x13 then (none) else (laws_FnWindows.l1 k x4 x7 x11 x12 x13 (wrap64 (x14 + 1)) x359000 x359001 x365000 x365001 x365002 x378000 x378001)) else (none)) else (if x11.length < 17592186044416 then (laws_FnWindows.l0 k x4 x7 (x11 ++ [x13]) (wrap64 (x12 + 1)) x359000 x359001 x365000 x365001 x365002 x378000 x378001) else (none))
def laws_FnWindows.j3 : Nat → Int → Int → Int → Int → List Int → Option (Bool)
 | 0, _, _, _, _, _ => none
 | k + 1, x4, x15, x365000, x365001, x365002 => (impl_WindowFault.f k x365001 x365002).bind fun t416 => (if t416 = 0 then (if x365001 = x15 then ((impl_TakeCounter.f k x365001 x365002 x4).bind fun bt417 => (if bt417.1 = 6 then ((impl_IsNews.f k x365001 x365002 (wrap64 (x15 - 16))).bind fun t422 => (if t422 = true then (none) else ((impl_NewWindow.f).bind fun bt423 => ((impl_WindowFault.f k bt423.1 bt423.2).bind fun t427 => (if t427 = 0 then ((impl_NewWindow.f).bind fun bt428 => (if bt428.1 = (-1) then ((impl_NewWindow.f).bind fun bt432 => ((impl_IsNews.f k bt432.1 bt432.2 x4).bind fun t436 => (some t436))) else (none))) else (none)))))) else (none))) else (none)) else (none))
end
def laws_FnWindows.f (k : Nat) (l0 : List Int) : Option (Bool) := (laws_lwBig.f l0).bind fun t352 => (if t352 = true then (some true) else ((spec_DrawTakeCounter.f k l0).bind fun bt353 => ((impl_TakeCounter.f k bt353.1 bt353.2.1 bt353.2.2).bind fun bt359 => ((spec_DrawTakeAll.f k l0).bind fun bt365 => ((impl_TakeAll.f k bt365.1 bt365.2.1 bt365.2.2).bind fun bt373 => ((spec_DrawSameWindows.f k l0).bind fun bt378 => ((spec_TakeCounter.f k bt353.1 bt353.2.1 bt353.2.2).bind fun bt388 => (if bt359.1 = bt388.1 then ((spec_TakeAll.f k bt365.1 bt365.2.1 bt365.2.2).bind fun bt393 => (if bt373.1 = bt393.1 then ((impl_IsNews.f k bt353.1 bt353.2.1 bt353.2.2).bind fun t397 => (if (t397 != (bt359.1 == 0)) = true then (none) else ((impl_WindowFault.f k bt353.1 bt353.2.1).bind fun t398 => ((spec_WindowFault.f k bt353.1 bt353.2.1).bind fun t399 => (if t398 = t399 then ((impl_SameWindows.f k bt378.1 bt378.2.1 bt378.2.2.1 bt378.2.2.2).bind fun t400 => ((spec_SameWindows.f k bt378.1 bt378.2.1 bt378.2.2.1 bt378.2.2.2).bind fun t401 => (if (t400 != t401) = true then (none) else ((spec_TakeAll.f k bt365.1 bt365.2.1 bt365.2.2).bind fun bt402 => ((laws_lwNums.f k bt373.2 bt402.2).bind fun t406 => (laws_FnWindows.j0 k bt353.2.2 bt365.2.2 (!t406) bt353.1 bt353.2.1 bt359.1 bt359.2.1 bt359.2.2 bt373.1 bt373.2)))))) else (none)))))) else (none))) else (none)))))))))
theorem laws_FnWindows.mono_l : ∀ k, (∀ y0 y1 y2 y3 y4 y5 y6 y7 y8 y9, LeO (laws_FnWindows.j0 k y0 y1 y2 y3 y4 y5 y6 y7 y8 y9) (laws_FnWindows.j0 (k + 1) y0 y1 y2 y3 y4 y5 y6 y7 y8 y9)) ∧ (∀ y0 y1 y2 y3 y4 y5 y6 y7 y8 y9 y10, LeO (laws_FnWindows.l0 k y0 y1 y2 y3 y4 y5 y6 y7 y8 y9 y10) (laws_FnWindows.l0 (k + 1) y0 y1 y2 y3 y4 y5 y6 y7 y8 y9 y10)) ∧ (∀ y0 y1 y2 y3 y4 y5 y6 y7 y8 y9 y10 y11 y12, LeO (laws_FnWindows.l1 k y0 y1 y2 y3 y4 y5 y6 y7 y8 y9 y10 y11 y12) (laws_FnWindows.l1 (k + 1) y0 y1 y2 y3 y4 y5 y6 y7 y8 y9 y10 y11 y12)) ∧ (∀ y0 y1 y2 y3 y4, LeO (laws_FnWindows.j3 k y0 y1 y2 y3 y4) (laws_FnWindows.j3 (k + 1) y0 y1 y2 y3 y4))
 | 0 => ⟨fun _ _ _ _ _ _ _ _ _ _ r h => by simp [laws_FnWindows.j0] at h, fun _ _ _ _ _ _ _ _ _ _ _ r h => by simp [laws_FnWindows.l0] at h, fun _ _ _ _ _ _ _ _ _ _ _ _ _ r h => by simp [laws_FnWindows.l1] at h, fun _ _ _ _ _ r h => by simp [laws_FnWindows.j3] at h⟩
 | k + 1 => by
  obtain ⟨ih0, ih1, ih2, ih3⟩ := laws_FnWindows.mono_l k; refine ⟨?_, ?_, ?_, ?_⟩
  ·
   intro y0 y1 y2 y3 y4 y5 y6 y7 y8 y9
   unfold laws_FnWindows.j0
   repeat' first
   | (with_reducible exact ih0 _ _ _ _ _ _ _ _ _ _)
   | (with_reducible exact ih1 _ _ _ _ _ _ _ _ _ _ _)
   | (with_reducible exact ih2 _ _ _ _ _ _ _ _ _ _ _ _ _)
   | (with_reducible exact ih3 _ _ _ _ _)
   | (with_reducible exact impl_IsNews.mono _ _ _ _)
   | (with_reducible exact impl_SameWindows.mono _ _ _ _ _)
   | (with_reducible exact impl_TakeAll.mono _ _ _ _)
   | (with_reducible exact impl_TakeCounter.mono _ _ _ _)
   | (with_reducible exact impl_WindowFault.mono _ _ _)
   | (with_reducible exact laws_lwNums.mono _ _ _)
   | (with_reducible exact spec_DrawSameWindows.mono _ _)
   | (with_reducible exact spec_DrawTakeAll.mono _ _)
   | (with_reducible exact spec_DrawTakeCounter.mono _ _)
   | (with_reducible exact spec_SameWindows.mono _ _ _ _ _)
   | (with_reducible exact spec_TakeAll.mono _ _ _ _)
   | (with_reducible exact spec_TakeCounter.mono _ _ _ _)
   | (with_reducible exact spec_WindowFault.mono _ _ _)
   | (with_reducible exact LeO.refl _)
   | (with_reducible exact LeO.none _)
   | (with_reducible refine LeO.ite ?_ ?_)
   | (with_reducible refine LeO.bind ?_ (fun _ => ?_))
   | exact ih0 _ _ _ _ _ _ _ _ _ _
   | exact ih1 _ _ _ _ _ _ _ _ _ _ _
   | exact ih2 _ _ _ _ _ _ _ _ _ _ _ _ _
   | exact ih3 _ _ _ _ _
   | exact impl_IsNews.mono _ _ _ _
   | exact impl_SameWindows.mono _ _ _ _ _
   | exact impl_TakeAll.mono _ _ _ _
   | exact impl_TakeCounter.mono _ _ _ _
   | exact impl_WindowFault.mono _ _ _
   | exact laws_lwNums.mono _ _ _
   | exact spec_DrawSameWindows.mono _ _
   | exact spec_DrawTakeAll.mono _ _
   | exact spec_DrawTakeCounter.mono _ _
   | exact spec_SameWindows.mono _ _ _ _ _
   | exact spec_TakeAll.mono _ _ _ _
   | exact spec_TakeCounter.mono _ _ _ _
   | exact spec_WindowFault.mono _ _ _
   | exact LeO.none _
   | refine LeO.ite ?_ ?_
   | refine LeO.bind ?_ (fun _ => ?_)
  ·
   intro y0 y1 y2 y3 y4 y5 y6 y7 y8 y9 y10
   unfold laws_FnWindows.l0
   repeat' first
   | (with_reducible exact ih0 _ _ _ _ _ _ _ _ _ _)
   | (with_reducible exact ih1 _ _ _ _ _ _ _ _ _ _ _)
   | (with_reducible exact ih2 _ _ _ _ _ _ _ _ _ _ _ _ _)
   | (with_reducible exact ih3 _ _ _ _ _)
   | (with_reducible exact impl_IsNews.mono _ _ _ _)
   | (with_reducible exact impl_SameWindows.mono _ _ _ _ _)
   | (with_reducible exact impl_TakeAll.mono _ _ _ _)
   | (with_reducible exact impl_TakeCounter.mono _ _ _ _)
   | (with_reducible exact impl_WindowFault.mono _ _ _)
   | (with_reducible exact laws_lwNums.mono _ _ _)
   | (with_reducible exact spec_DrawSameWindows.mono _ _)
   | (with_reducible exact spec_DrawTakeAll.mono _ _)
   | (with_reducible exact spec_DrawTakeCounter.mono _ _)
   | (with_reducible exact spec_SameWindows.mono _ _ _ _ _)
   | (with_reducible exact spec_TakeAll.mono _ _ _ _)
   | (with_reducible exact spec_TakeCounter.mono _ _ _ _)
   | (with_reducible exact spec_WindowFault.mono _ _ _)
   | (with_reducible exact LeO.refl _)
   | (with_reducible exact LeO.none _)
   | (with_reducible refine LeO.ite ?_ ?_)
   | (with_reducible refine LeO.bind ?_ (fun _ => ?_))
   | exact ih0 _ _ _ _ _ _ _ _ _ _
   | exact ih1 _ _ _ _ _ _ _ _ _ _ _
   | exact ih2 _ _ _ _ _ _ _ _ _ _ _ _ _
   | exact ih3 _ _ _ _ _
   | exact impl_IsNews.mono _ _ _ _
   | exact impl_SameWindows.mono _ _ _ _ _
   | exact impl_TakeAll.mono _ _ _ _
   | exact impl_TakeCounter.mono _ _ _ _
   | exact impl_WindowFault.mono _ _ _
   | exact laws_lwNums.mono _ _ _
   | exact spec_DrawSameWindows.mono _ _
   | exact spec_DrawTakeAll.mono _ _
   | exact spec_DrawTakeCounter.mono _ _
   | exact spec_SameWindows.mono _ _ _ _ _
   | exact spec_TakeAll.mono _ _ _ _
   | exact spec_TakeCounter.mono _ _ _ _
   | exact spec_WindowFault.mono _ _ _
   | exact LeO.none _
   | refine LeO.ite ?_ ?_
   | refine LeO.bind ?_ (fun _ => ?_)
  ·
   intro y0 y1 y2 y3 y4 y5 y6 y7 y8 y9 y10 y11 y12
   unfold laws_FnWindows.l1
   repeat' first
   | (with_reducible exact ih0 _ _ _ _ _ _ _ _ _ _)
   | (with_reducible exact ih1 _ _ _ _ _ _ _ _ _ _ _)
   | (with_reducible exact ih2 _ _ _ _ _ _ _ _ _ _ _ _ _)
   | (with_reducible exact ih3 _ _ _ _ _)
   | (with_reducible exact impl_IsNews.mono _ _ _ _)
   | (with_reducible exact impl_SameWindows.mono _ _ _ _ _)
   | (with_reducible exact impl_TakeAll.mono _ _ _ _)
   | (with_reducible exact impl_TakeCounter.mono _ _ _ _)
   | (with_reducible exact impl_WindowFault.mono _ _ _)
   | (with_reducible exact laws_lwNums.mono _ _ _)
   | (with_reducible exact spec_DrawSameWindows.mono _ _)
   | (with_reducible exact spec_DrawTakeAll.mono _ _)
   | (with_reducible exact spec_DrawTakeCounter.mono _ _)
   | (with_reducible exact spec_SameWindows.mono _ _ _ _ _)
   | (with_reducible exact spec_TakeAll.mono _ _ _ _)
   | (with_reducible exact spec_TakeCounter.mono _ _ _ _)
   | (with_reducible exact spec_WindowFault.mono _ _ _)
   | (with_reducible exact LeO.refl _)
   | (with_reducible exact LeO.none _)
   | (with_reducible refine LeO.ite ?_ ?_)
   | (with_reducible refine LeO.bind ?_ (fun _ => ?_))
   | exact ih0 _ _ _ _ _ _ _ _ _ _
   | exact ih1 _ _ _ _ _ _ _ _ _ _ _
   | exact ih2 _ _ _ _ _ _ _ _ _ _ _ _ _
   | exact ih3 _ _ _ _ _
   | exact impl_IsNews.mono _ _ _ _
   | exact impl_SameWindows.mono _ _ _ _ _
   | exact impl_TakeAll.mono _ _ _ _
   | exact impl_TakeCounter.mono _ _ _ _
   | exact impl_WindowFault.mono _ _ _
   | exact laws_lwNums.mono _ _ _
   | exact spec_DrawSameWindows.mono _ _
   | exact spec_DrawTakeAll.mono _ _
   | exact spec_DrawTakeCounter.mono _ _
   | exact spec_SameWindows.mono _ _ _ _ _
   | exact spec_TakeAll.mono _ _ _ _
   | exact spec_TakeCounter.mono _ _ _ _
   | exact spec_WindowFault.mono _ _ _
   | exact LeO.none _
   | refine LeO.ite ?_ ?_
   | refine LeO.bind ?_ (fun _ => ?_)
  ·
   intro y0 y1 y2 y3 y4
   unfold laws_FnWindows.j3
   repeat' first
   | (with_reducible exact ih0 _ _ _ _ _ _ _ _ _ _)
   | (with_reducible exact ih1 _ _ _ _ _ _ _ _ _ _ _)
   | (with_reducible exact ih2 _ _ _ _ _ _ _ _ _ _ _ _ _)
   | (with_reducible exact ih3 _ _ _ _ _)
   | (with_reducible exact impl_IsNews.mono _ _ _ _)
   | (with_reducible exact impl_SameWindows.mono _ _ _ _ _)
   | (with_reducible exact impl_TakeAll.mono _ _ _ _)
   | (with_reducible exact impl_TakeCounter.mono _ _ _ _)
   | (with_reducible exact impl_WindowFault.mono _ _ _)
   | (with_reducible exact laws_lwNums.mono _ _ _)
   | (with_reducible exact spec_DrawSameWindows.mono _ _)
   | (with_reducible exact spec_DrawTakeAll.mono _ _)
   | (with_reducible exact spec_DrawTakeCounter.mono _ _)
   | (with_reducible exact spec_SameWindows.mono _ _ _ _ _)
   | (with_reducible exact spec_TakeAll.mono _ _ _ _)
   | (with_reducible exact spec_TakeCounter.mono _ _ _ _)
   | (with_reducible exact spec_WindowFault.mono _ _ _)
   | (with_reducible exact LeO.refl _)
   | (with_reducible exact LeO.none _)
   | (with_reducible refine LeO.ite ?_ ?_)
   | (with_reducible refine LeO.bind ?_ (fun _ => ?_))
   | exact ih0 _ _ _ _ _ _ _ _ _ _
   | exact ih1 _ _ _ _ _ _ _ _ _ _ _
   | exact ih2 _ _ _ _ _ _ _ _ _ _ _ _ _
   | exact ih3 _ _ _ _ _
   | exact impl_IsNews.mono _ _ _ _
   | exact impl_SameWindows.mono _ _ _ _ _
   | exact impl_TakeAll.mono _ _ _ _
   | exact impl_TakeCounter.mono _ _ _ _
   | exact impl_WindowFault.mono _ _ _
   | exact laws_lwNums.mono _ _ _
   | exact spec_DrawSameWindows.mono _ _
   | exact spec_DrawTakeAll.mono _ _
   | exact spec_DrawTakeCounter.mono _ _
   | exact spec_SameWindows.mono _ _ _ _ _
   | exact spec_TakeAll.mono _ _ _ _
   | exact spec_TakeCounter.mono _ _ _ _
   | exact spec_WindowFault.mono _ _ _
   | exact LeO.none _
   | refine LeO.ite ?_ ?_
   | refine LeO.bind ?_ (fun _ => ?_)
theorem laws_FnWindows.mono : ∀ a0 k, LeO (laws_FnWindows.f k a0) (laws_FnWindows.f (k + 1) a0) := by
 intro a0 k
 obtain ⟨ih0, ih1, ih2, ih3⟩ := laws_FnWindows.mono_l k
 unfold laws_FnWindows.f
 repeat' first
   | (with_reducible exact ih0 _ _ _ _ _ _ _ _ _ _)
   | (with_reducible exact ih1 _ _ _ _ _ _ _ _ _ _ _)
   | (with_reducible exact ih2 _ _ _ _ _ _ _ _ _ _ _ _ _)
   | (with_reducible exact ih3 _ _ _ _ _)
   | (with_reducible exact impl_IsNews.mono _ _ _ _)
   | (with_reducible exact impl_SameWindows.mono _ _ _ _ _)
   | (with_reducible exact impl_TakeAll.mono _ _ _ _)
   | (with_reducible exact impl_TakeCounter.mono _ _ _ _)
   | (with_reducible exact impl_WindowFault.mono _ _ _)
   | (with_reducible exact laws_lwNums.mono _ _ _)
   | (with_reducible exact spec_DrawSameWindows.mono _ _)
   | (with_reducible exact spec_DrawTakeAll.mono _ _)
   | (with_reducible exact spec_DrawTakeCounter.mono _ _)
   | (with_reducible exact spec_SameWindows.mono _ _ _ _ _)
   | (with_reducible exact spec_TakeAll.mono _ _ _ _)
   | (with_reducible exact spec_TakeCounter.mono _ _ _ _)
   | (with_reducible exact spec_WindowFault.mono _ _ _)
   | (with_reducible exact LeO.refl _)
   | (with_reducible exact LeO.none _)
   | (with_reducible refine LeO.ite ?_ ?_)
   | (with_reducible refine LeO.bind ?_ (fun _ => ?_))
   | exact ih0 _ _ _ _ _ _ _ _ _ _
   | exact ih1 _ _ _ _ _ _ _ _ _ _ _
   | exact ih2 _ _ _ _ _ _ _ _ _ _ _ _ _
   | exact ih3 _ _ _ _ _
   | exact impl_IsNews.mono _ _ _ _
   | exact impl_SameWindows.mono _ _ _ _ _
   | exact impl_TakeAll.mono _ _ _ _
   | exact impl_TakeCounter.mono _ _ _ _
   | exact impl_WindowFault.mono _ _ _
   | exact laws_lwNums.mono _ _ _
   | exact spec_DrawSameWindows.mono _ _
   | exact spec_DrawTakeAll.mono _ _
   | exact spec_DrawTakeCounter.mono _ _
   | exact spec_SameWindows.mono _ _ _ _ _
   | exact spec_TakeAll.mono _ _ _ _
   | exact spec_TakeCounter.mono _ _ _ _
   | exact spec_WindowFault.mono _ _ _
   | exact LeO.none _
   | refine LeO.ite ?_ ?_
   | refine LeO.bind ?_ (fun _ => ?_)
def laws_FnWindows.T8 : Bool × List (List Nat × List Nat) := (true, [([], []), ([0], [0]), ([], []), ([], []), ([2, 3], [2, 3]), ([4], [4]), ([1, 5], [1, 5]), ([6, 4], [6]), ([7], [7]), ([8, 7], [7, 8]), ([7], [7]), ([7], [7]), ([10, 11, 7, 7], [7, 10, 11]), ([12, 7], [7, 12]), ([9, 13, 7], [7, 9, 13]), ([7, 14], [7, 14]), ([15, 12], [15]), ([16], [16]), ([16], [16]), ([17, 18, 16, 16], [16, 17, 18]), ([16], [16]), ([20, 16], [16, 20]), ([21, 16], [16, 21]), ([19, 22, 16], [16, 19, 22]), ([16, 23], [16, 23]), ([24, 19], [24]), ([25], [25]), ([26, 25, 25], [25, 26]), ([25], [25]), ([28, 27, 25], [25, 28]), ([27, 29, 25], [25, 27, 29]), ([25, 30], [25, 30]), ([31, 29], [31]), ([32], [32]), ([32], [32]), ([33, 34, 32, 32], [32, 33, 34]), ([32], [32]), ([32], [32]), ([36, 37, 35, 32], [32, 36, 37]), ([35, 38, 32], [32, 35, 38]), ([32, 39], [32, 39]), ([40, 38], [40]), ([41], [41]), ([42, 41], [41, 42]), ([41], [41]), ([41], [41]), ([44, 45, 41, 41], [41, 44, 45]), ([46, 41], [41, 46]), ([43, 47, 46, 41], [41, 43, 47]), ([48, 41], [41, 48]), ([41, 49], [41, 49])])
def laws_FnWindows.B8 : List Nat := [0, 1, 0, 0, 12, 28, 63, 127, 255, 511, 255, 255, 3327, 7423, 16383, 32767, 65535, 131071, 131071, 524287, 131071, 1179647, 3276799, 8388607, 16777215, 33554431, 67108863, 134217727, 67108863, 536870911, 1073741823, 2147483647, 4294967295, 8589934591, 8589934591, 34359738367, 8589934591, 8589934591, 274877906943, 549755813887, 1099511627775, 2199023255551, 4398046511103, 8796093022207, 4398046511103, 4398046511103, 57174604644351, 127543348822015, 281474976710655, 562949953421311, 1125899906842623]
theorem laws_FnWindows.tab8 : rtab .any (opsOf Try.f3 8) = laws_FnWindows.T8 := by kernel_rfl
theorem laws_FnWindows.bits8 : waitsOk laws_FnWindows.T8.2 laws_FnWindows.B8 = true := by kernel_rfl
set_option maxHeartbeats 8000000 in
set_option maxRecDepth 100000 in
theorem laws_FnWindows.calls (k : Nat) (A0 : Option Addr) (c0 : Nat) (l0 : List Int) (r : Bool) (w : World) (hr0 : Kd.C (Kd.int .u8) w A0 l0.length l0) (hc0 : l0.length ≤ c0) (h : laws_FnWindows.f k l0 = some r) :
  Calls Try.prog 3 #[.slice A0 l0.length c0] w fun e w' => e = .returned (.bool r) ∧ Below w.heap.size w w' := by
 have hu26 := Try.underlying26
 have hu30 := Try.underlying30
 have hu35 := Try.underlying35
 have HR0 := Aside0.mk hr0
 have HC0 := Aside0.mk hc0
 clear hr0 hc0
 have HB := Aside0.mk (Below.refl w.heap.size w)
 have H : ((laws_lwBig.f l0).bind fun t352 => (if t352 = true then (some true) else ((spec_DrawTakeCounter.f k l0).bind fun bt353 => ((impl_TakeCounter.f k bt353.1 bt353.2.1 bt353.2.2).bind fun bt359 => ((spec_DrawTakeAll.f k l0).bind fun bt365 => ((impl_TakeAll.f k bt365.1 bt365.2.1 bt365.2.2).bind fun bt373 => ((spec_DrawSameWindows.f k l0).bind fun bt378 => ((spec_TakeCounter.f k bt353.1 bt353.2.1 bt353.2.2).bind fun bt388 => (if bt359.1 = bt388.1 then ((spec_TakeAll.f k bt365.1 bt365.2.1 bt365.2.2).bind fun bt393 => (if bt373.1 = bt393.1 then ((impl_IsNews.f k bt353.1 bt353.2.1 bt353.2.2).bind fun t397 => (if (t397 != (bt359.1 == 0)) = true then (none) else ((impl_WindowFault.f k bt353.1 bt353.2.1).bind fun t398 => ((spec_WindowFault.f k bt353.1 bt353.2.1).bind fun t399 => (if t398 = t399 then ((impl_SameWindows.f k bt378.1 bt378.2.1 bt378.2.2.1 bt378.2.2.2).bind fun t400 => ((spec_SameWindows.f k bt378.1 bt378.2.1 bt378.2.2.1 bt378.2.2.2).bind fun t401 => (if (t400 != t401) = true then (none) else ((spec_TakeAll.f k bt365.1 bt365.2.1 bt365.2.2).bind fun bt402 => ((laws_lwNums.f k bt373.2 bt402.2).bind fun t406 => (laws_FnWindows.j0 k bt353.2.2 bt365.2.2 (!t406) bt353.1 bt353.2.1 bt359.1 bt359.2.1 bt359.2.2 bt373.1 bt373.2)))))) else (none)))))) else (none))) else (none)))))))))) = some r := h
 clear h
 replace H := Option.bind_eq_some_iff.mp H
 obtain ⟨t352, A20, H⟩ := H
 replace H : (if t352 = true then (some true) else ((spec_DrawTakeCounter.f k l0).bind fun bt353 => ((impl_TakeCounter.f k bt353.1 bt353.2.1 bt353.2.2).bind fun bt359 => ((spec_DrawTakeAll.f k l0).bind fun bt365 => ((impl_TakeAll.f k bt365.1 bt365.2.1 bt365.2.2).bind fun bt373 => ((spec_DrawSameWindows.f k l0).bind fun bt378 => ((spec_TakeCounter.f k bt353.1 bt353.2.1 bt353.2.2).bind fun bt388 => (if bt359.1 = bt388.1 then ((spec_TakeAll.f k bt365.1 bt365.2.1 bt365.2.2).bind fun bt393 => (if bt373.1 = bt393.1 then ((impl_IsNews.f k bt353.1 bt353.2.1 bt353.2.2).bind fun t397 => (if (t397 != (bt359.1 == 0)) = true then (none) else ((impl_WindowFault.f k bt353.1 bt353.2.1).bind fun t398 => ((spec_WindowFault.f k bt353.1 bt353.2.1).bind fun t399 => (if t398 = t399 then ((impl_SameWindows.f k bt378.1 bt378.2.1 bt378.2.2.1 bt378.2.2.2).bind fun t400 => ((spec_SameWindows.f k bt378.1 bt378.2.1 bt378.2.2.1 bt378.2.2.2).bind fun t401 => (if (t400 != t401) = true then (none) else ((spec_TakeAll.f k bt365.1 bt365.2.1 bt365.2.2).bind fun bt402 => ((laws_lwNums.f k bt373.2 bt402.2).bind fun t406 => (laws_FnWindows.j0 k bt353.2.2 bt365.2.2 (!t406) bt353.1 bt353.2.1 bt359.1 bt359.2.1 bt359.2.2 bt373.1 bt373.2)))))) else (none)))))) else (none))) else (none))))))))) = some r := H
 have A2 := Aside0.mk A20
 clear A20
 by_cases c3 : t352 = true
 ·
  subst c3; have H1 : (some true) = some r := by rw [if_pos rfl] at H; exact H
  clear H; have H := H1; clear H1; obtain rfl := Option.some.inj H
  go_enter Try.func3, Try.ntmps3
  go_wp2_with (first | ((with_reducible refine gate_callee (f := 7) rfl ?_); refine goesL_ (some 17) rfl rfl Try.func7 (by kernel_rfl) rfl #[.slice A0 l0.length c0] rfl args_a ?_; (with_reducible refine (laws_lwBig.calls _ _ l0 true _ ?side1 ?side2 A2.out).mono ?_); (case side1 => repeat (first | exact HR0.out | (with_reducible refine Kd.C_alloc ?_ _) | (with_reducible refine Kd.C_drewN ?_ _) | (with_reducible refine Kd.C_drew ?_))); (case side2 => exact HC0.out); rintro e w' ⟨rfl, ⟨nd, rfl⟩⟩; refine ⟨_, rfl, ?_⟩))
  go_ret
  exact ⟨eq_a, below_a⟩
 ·
  replace c3 := Bool.eq_false_iff.mpr c3; subst c3; have H1 : ((spec_DrawTakeCounter.f k l0).bind fun bt353 => ((impl_TakeCounter.f k bt353.1 bt353.2.1 bt353.2.2).bind fun bt359 => ((spec_DrawTakeAll.f k l0).bind fun bt365 => ((impl_TakeAll.f k bt365.1 bt365.2.1 bt365.2.2).bind fun bt373 => ((spec_DrawSameWindows.f k l0).bind fun bt378 => ((spec_TakeCounter.f k bt353.1 bt353.2.1 bt353.2.2).bind fun bt388 => (if bt359.1 = bt388.1 then ((spec_TakeAll.f k bt365.1 bt365.2.1 bt365.2.2).bind fun bt393 => (if bt373.1 = bt393.1 then ((impl_IsNews.f k bt353.1 bt353.2.1 bt353.2.2).bind fun t397 => (if (t397 != (bt359.1 == 0)) = true then (none) else ((impl_WindowFault.f k bt353.1 bt353.2.1).bind fun t398 => ((spec_WindowFault.f k bt353.1 bt353.2.1).bind fun t399 => (if t398 = t399 then ((impl_SameWindows.f k bt378.1 bt378.2.1 bt378.2.2.1 bt378.2.2.2).bind fun t400 => ((spec_SameWindows.f k bt378.1 bt378.2.1 bt378.2.2.1 bt378.2.2.2).bind fun t401 => (if (t400 != t401) = true then (none) else ((spec_TakeAll.f k bt365.1 bt365.2.1 bt365.2.2).bind fun bt402 => ((laws_lwNums.f k bt373.2 bt402.2).bind fun t406 => (laws_FnWindows.j0 k bt353.2.2 bt365.2.2 (!t406) bt353.1 bt353.2.1 bt359.1 bt359.2.1 bt359.2.2 bt373.1 bt373.2)))))) else (none)))))) else (none))) else (none)))))))) = some r := by rw [if_neg (show ¬ (false = true) by decide)] at H; exact H
  clear H; have H := H1; clear H1; replace H := Option.bind_eq_some_iff.mp H; obtain ⟨⟨t353, t354, t357⟩, A40, H⟩ := H; replace H : ((impl_TakeCounter.f k t353 t354 t357).bind fun bt359 => ((spec_DrawTakeAll.f k l0).bind fun bt365 => ((impl_TakeAll.f k bt365.1 bt365.2.1 bt365.2.2).bind fun bt373 => ((spec_DrawSameWindows.f k l0).bind fun bt378 => ((spec_TakeCounter.f k t353 t354 t357).bind fun bt388 => (if bt359.1 = bt388.1 then ((spec_TakeAll.f k bt365.1 bt365.2.1 bt365.2.2).bind fun bt393 => (if bt373.1 = bt393.1 then ((impl_IsNews.f k t353 t354 t357).bind fun t397 => (if (t397 != (bt359.1 == 0)) = true then (none) else ((impl_WindowFault.f k t353 t354).bind fun t398 => ((spec_WindowFault.f k t353 t354).bind fun t399 => (if t398 = t399 then ((impl_SameWindows.f k bt378.1 bt378.2.1 bt378.2.2.1 bt378.2.2.2).bind fun t400 => ((spec_SameWindows.f k bt378.1 bt378.2.1 bt378.2.2.1 bt378.2.2.2).bind fun t401 => (if (t400 != t401) = true then (none) else ((spec_TakeAll.f k bt365.1 bt365.2.1 bt365.2.2).bind fun bt402 => ((laws_lwNums.f k bt373.2 bt402.2).bind fun t406 => (laws_FnWindows.j0 k t357 bt365.2.2 (!t406) t353 t354 bt359.1 bt359.2.1 bt359.2.2 bt373.1 bt373.2)))))) else (none)))))) else (none))) else (none))))))) = some r := H; have A4 := Aside0.mk A40; clear A40; replace H := Option.bind_eq_some_iff.mp H; obtain ⟨⟨t359, t360, t361⟩, A50, H⟩ := H; replace H : ((spec_DrawTakeAll.f k l0).bind fun bt365 => ((impl_TakeAll.f k bt365.1 bt365.2.1 bt365.2.2).bind fun bt373 => ((spec_DrawSameWindows.f k l0).bind fun bt378 => ((spec_TakeCounter.f k t353 t354 t357).bind fun bt388 => (if t359 = bt388.1 then ((spec_TakeAll.f k bt365.1 bt365.2.1 bt365.2.2).bind fun bt393 => (if bt373.1 = bt393.1 then ((impl_IsNews.f k t353 t354 t357).bind fun t397 => (if (t397 != (t359 == 0)) = true then (none) else ((impl_WindowFault.f k t353 t354).bind fun t398 => ((spec_WindowFault.f k t353 t354).bind fun t399 => (if t398 = t399 then ((impl_SameWindows.f k bt378.1 bt378.2.1 bt378.2.2.1 bt378.2.2.2).bind fun t400 => ((spec_SameWindows.f k bt378.1 bt378.2.1 bt378.2.2.1 bt378.2.2.2).bind fun t401 => (if (t400 != t401) = true then (none) else ((spec_TakeAll.f k bt365.1 bt365.2.1 bt365.2.2).bind fun bt402 => ((laws_lwNums.f k bt373.2 bt402.2).bind fun t406 => (laws_FnWindows.j0 k t357 bt365.2.2 (!t406) t353 t354 t359 t360 t361 bt373.1 bt373.2)))))) else (none)))))) else (none))) else (none)))))) = some r := H; have A5 := Aside0.mk A50; clear A50; replace H := Option.bind_eq_some_iff.mp H; obtain ⟨⟨t365, t366, t369⟩, A60, H⟩ := H; replace H : ((impl_TakeAll.f k t365 t366 t369).bind fun bt373 => ((spec_DrawSameWindows.f k l0).bind fun bt378 => ((spec_TakeCounter.f k t353 t354 t357).bind fun bt388 => (if t359 = bt388.1 then ((spec_TakeAll.f k t365 t366 t369).bind fun bt393 => (if bt373.1 = bt393.1 then ((impl_IsNews.f k t353 t354 t357).bind fun t397 => (if (t397 != (t359 == 0)) = true then (none) else ((impl_WindowFault.f k t353 t354).bind fun t398 => ((spec_WindowFault.f k t353 t354).bind fun t399 => (if t398 = t399 then ((impl_SameWindows.f k bt378.1 bt378.2.1 bt378.2.2.1 bt378.2.2.2).bind fun t400 => ((spec_SameWindows.f k bt378.1 bt378.2.1 bt378.2.2.1 bt378.2.2.2).bind fun t401 => (if (t400 != t401) = true then (none) else ((spec_TakeAll.f k t365 t366 t369).bind fun bt402 => ((laws_lwNums.f k bt373.2 bt402.2).bind fun t406 => (laws_FnWindows.j0 k t357 t369 (!t406) t353 t354 t359 t360 t361 bt373.1 bt373.2)))))) else (none)))))) else (none))) else (none))))) = some r := H; have A6 := Aside0.mk A60; clear A60; replace H := Option.bind_eq_some_iff.mp H; obtain ⟨⟨t373, t374⟩, A70, H⟩ := H; replace H : ((spec_DrawSameWindows.f k l0).bind fun bt378 => ((spec_TakeCounter.f k t353 t354 t357).bind fun bt388 => (if t359 = bt388.1 then ((spec_TakeAll.f k t365 t366 t369).bind fun bt393 => (if t373 = bt393.1 then ((impl_IsNews.f k t353 t354 t357).bind fun t397 => (if (t397 != (t359 == 0)) = true then (none) else ((impl_WindowFault.f k t353 t354).bind fun t398 => ((spec_WindowFault.f k t353 t354).bind fun t399 => (if t398 = t399 then ((impl_SameWindows.f k bt378.1 bt378.2.1 bt378.2.2.1 bt378.2.2.2).bind fun t400 => ((spec_SameWindows.f k bt378.1 bt378.2.1 bt378.2.2.1 bt378.2.2.2).bind fun t401 => (if (t400 != t401) = true then (none) else ((spec_TakeAll.f k t365 t366 t369).bind fun bt402 => ((laws_lwNums.f k t374 bt402.2).bind fun t406 => (laws_FnWindows.j0 k t357 t369 (!t406) t353 t354 t359 t360 t361 t373 t374)))))) else (none)))))) else (none))) else (none)))) = some r := H; have A7 := Aside0.mk A70; clear A70; replace H := Option.bind_eq_some_iff.mp H; obtain ⟨⟨t378, t379, t382, t383⟩, A80, H⟩ := H; replace H : ((spec_TakeCounter.f k t353 t354 t357).bind fun bt388 => (if t359 = bt388.1 then ((spec_TakeAll.f k t365 t366 t369).bind fun bt393 => (if t373 = bt393.1 then ((impl_IsNews.f k t353 t354 t357).bind fun t397 => (if (t397 != (t359 == 0)) = true then (none) else ((impl_WindowFault.f k t353 t354).bind fun t398 => ((spec_WindowFault.f k t353 t354).bind fun t399 => (if t398 = t399 then ((impl_SameWindows.f k t378 t379 t382 t383).bind fun t400 => ((spec_SameWindows.f k t378 t379 t382 t383).bind fun t401 => (if (t400 != t401) = true then (none) else ((spec_TakeAll.f k t365 t366 t369).bind fun bt402 => ((laws_lwNums.f k t374 bt402.2).bind fun t406 => (laws_FnWindows.j0 k t357 t369 (!t406) t353 t354 t359 t360 t361 t373 t374)))))) else (none)))))) else (none))) else (none))) = some r := H; have A8 := Aside0.mk A80; clear A80; have HC9 := Aside0.mk H; clear H
  go_enter Try.func3, Try.ntmps3
  go_upto_region 8 with (first | ((with_reducible refine gate_callee (f := 7) rfl ?_); refine goesL_ (some 17) rfl rfl Try.func7 (by kernel_rfl) rfl #[.slice A0 l0.length c0] rfl args_a ?_; (with_reducible refine (laws_lwBig.calls _ _ l0 false _ ?side1 ?side2 A2.out).mono ?_); (case side1 => repeat (first | exact HR0.out | (with_reducible refine Kd.C_alloc ?_ _) | (with_reducible refine Kd.C_drewN ?_ _) | (with_reducible refine Kd.C_drew ?_))); (case side2 => exact HC0.out); rintro e w' ⟨rfl, ⟨nd, rfl⟩⟩; refine ⟨_, rfl, ?_⟩) | ((with_reducible refine gate_callee (f := 8) rfl ?_); refine goesL_ (some 20) rfl rfl Try.func8 (by kernel_rfl) rfl #[.slice A0 l0.length c0] rfl args_a ?_; (with_reducible refine (spec_DrawTakeCounter.calls k _ _ l0 t353 t354 t357 _ ?side1 ?side2 A4.out).mono ?_); (case side1 => repeat (first | exact HR0.out | (with_reducible refine Kd.C_alloc ?_ _) | (with_reducible refine Kd.C_drewN ?_ _) | (with_reducible refine Kd.C_drew ?_))); (case side2 => exact HC0.out); rintro e w10 ⟨v355, rfl, ho0, hb⟩; refine ⟨_, rfl, ?_⟩; have HO356 := Aside0.mk (Kd.R_lower ho0 (below_size below_a)); replace HB := Aside0.mk (below_step below_a hb); (try clear hb); (try clear hb2); (try clear hk); (try clear hi); (try clear ho0)) | ((with_reducible refine gate_dst (N := 3) rfl ?_); refine box_event ?hg (N := 3) ?hd (cs := #[.int .i64 0, .slice none 0 0]) (t := 26) ?hr ?_; (case hd => rfl); (case hg => rfl); (case hr => first | (go_simp; done) | (go_simp; rfl)); intro gb358 hg w11 hbox hb; replace HO356 := Aside0.mk (Kd.R_below (R_a HO356.out) hb); have n1_ := Aside0.mk (below_step below_a hb); have BK358 := Aside0.mk (hbox); have GW358 := Aside0.mk (bsz_ (w := w) hg); have GE358 := Aside0.mk (bsz_ (w := w) hg); replace HB := n1_; clear n1_; clear hb hbox hg; obtain ⟨hcz12_0, hcz12_1, hfz12_0, hfz12_1⟩ := bc2_ BK358.out; obtain ⟨Ao13, co13, eo13⟩ := Kd.R_slice HO356.out; subst eo13) | ((with_reducible refine gate_callee (f := 9) rfl ?_); refine goesL_ (some 25) rfl rfl Try.func9 (by kernel_rfl) rfl #[.agg #[.int .i64 t353, .slice Ao13 t354.length co13], .int .i64 t357] rfl args_a ?_; (with_reducible refine (impl_TakeCounter.calls k t353 _ _ t354 t357 t359 t360 t361 _ ?side1 ?side2 A5.out).mono ?_); (case side1 => refine (Kd.R_reads' (e := 2) (base := w.heap.size) (ok := fun k_ => True) (n := t354.length) (c := co13) ?_).2.2; exact (by (with_reducible repeat (first | apply Kd.R_alloc | apply Kd.R_drewN | apply Kd.R_drew)); exact (Kd.R_mono (Kd.R_far (p := ⟨gb358, 1, none⟩) (Kd.R_far (p := ⟨gb358, 0, none⟩) (Kd.R_types HO356.out BK358.out (by decide)) (fun _ hk => hk.2) (.int .i64 t353)) (fun _ hk => hk.2) (.slice Ao13 t354.length co13)) (fun _ h_ => h_.1)))); (case side2 => exact (Kd.R_reads' HO356.out).2.1); rintro e w14 ⟨v362, rfl, ho0, hb⟩; refine ⟨_, rfl, ?_⟩; have n0_ := Aside0.mk (Kd.R_elder' (by (with_reducible repeat (first | apply Kd.R_alloc | apply Kd.R_drewN | apply Kd.R_drew)); exact (Kd.R_mono (Kd.R_far (p := ⟨gb358, 1, none⟩) (Kd.R_far (p := ⟨gb358, 0, none⟩) (Kd.R_types HO356.out BK358.out (by decide)) (fun _ hk => hk.2) (.int .i64 t353)) (fun _ hk => hk.2) (.slice Ao13 t354.length co13)) (fun _ h_ => h_.1))) (Kd.R_base ho0) hb); have HO363 := Aside0.mk (Kd.R_lower (Kd.R_new' ho0 (Kd.R_lt (by (with_reducible repeat (first | apply Kd.R_alloc | apply Kd.R_drewN | apply Kd.R_drew)); exact (Kd.R_mono (Kd.R_far (p := ⟨gb358, 1, none⟩) (Kd.R_far (p := ⟨gb358, 0, none⟩) (Kd.R_types HO356.out BK358.out (by decide)) (fun _ hk => hk.2) (.int .i64 t353)) (fun _ hk => hk.2) (.slice Ao13 t354.length co13)) (fun _ h_ => h_.1))))) (below_size below_a)); replace BK358 := Aside0.mk (blk_below (g := gb358) (o := .cells #[.int .i64 t353, .slice Ao13 t354.length co13] 26 (0, 0)) blk_a hb); replace HB := Aside0.mk (below_step below_a hb); replace HO356 := n0_; clear n0_; (try clear hb); (try clear hb2); (try clear hk); (try clear hi); (try clear ho0)) | ((with_reducible refine gate_dst (N := 5) rfl ?_); refine box_event ?hg (N := 5) ?hd (cs := #[.int .i64 0, .int .i64 0, .slice none 0 0]) (t := 30) ?hr ?_; (case hd => rfl); (case hg => rfl); (case hr => first | (go_simp; done) | (go_simp; rfl)); intro gb364 hg w15 hbox hb; replace HO356 := Aside0.mk (Kd.R_below (R_a HO356.out) hb); replace HO363 := Aside0.mk (Kd.R_below (R_a HO363.out) hb); have n2_ := Aside0.mk (blk_below (g := gb358) blk_c hb); have n3_ := Aside0.mk (below_step below_a hb); have BK364 := Aside0.mk (hbox); have GW364 := Aside0.mk (bsz_ (w := w) hg); have GE364 := Aside0.mk (bsz_ (w := w) hg); have NB358_364 := Aside0.mk (bne_ (g := gb358) hg); have NB364_358 := Aside0.mk (bne_ (g := gb358) hg).symm; replace BK358 := n2_; replace HB := n3_; clear n2_ n3_; clear hb hbox hg; have hnb16 := NB364_358.out; have hnc16 := NB358_364.out; obtain ⟨hcz17_0, hcz17_1, hcz17_2, hfz17_0, hfz17_1, hfz17_2⟩ := bc3_ BK364.out; obtain ⟨Ao18, co18, eo18⟩ := Kd.R_slice HO363.out; subst eo18) | ((with_reducible refine gate_callee (f := 10) rfl ?_); refine goesL_ (some 28) rfl rfl Try.func10 (by kernel_rfl) rfl #[.slice A0 l0.length c0] rfl args_a ?_; (with_reducible refine (spec_DrawTakeAll.calls k _ _ l0 t365 t366 t369 _ ?side1 ?side2 A6.out).mono ?_); (case side1 => exact Kd.C_below HR0.out below_a); (case side2 => exact HC0.out); rintro e w19 ⟨v367, v370, rfl, ho0, ho1, hb⟩; refine ⟨_, rfl, ?_⟩; have n0_ := Aside0.mk (Kd.R_mono (Kd.R_told (Kd.R_told (Kd.R_old (by (with_reducible repeat (first | apply Kd.R_alloc | apply Kd.R_drewN | apply Kd.R_drew)); exact (Kd.R_mono (Kd.R_far (p := ⟨gb364, 2, none⟩) (Kd.R_far (p := ⟨gb364, 1, none⟩) (Kd.R_far (p := ⟨gb364, 0, none⟩) (Kd.R_types HO356.out BK364.out (by decide)) (fun _ hk => hk.2) (.int .i64 t359)) (fun _ hk => hk.2) (.int .i64 t360)) (fun _ hk => hk.2) (.slice Ao18 t361.length co18)) (fun _ h_ => h_.1))) hb) (Kd.R_base ho0)) (Kd.R_base ho1)) (fun _ h_ => h_.1)); have n1_ := Aside0.mk (Kd.R_mono (Kd.R_told (Kd.R_told (Kd.R_old (by (with_reducible repeat (first | apply Kd.R_alloc | apply Kd.R_drewN | apply Kd.R_drew)); exact (Kd.R_mono (Kd.R_far (p := ⟨gb364, 2, none⟩) (Kd.R_far (p := ⟨gb364, 1, none⟩) (Kd.R_far (p := ⟨gb364, 0, none⟩) (Kd.R_types HO363.out BK364.out (by decide)) (fun _ hk => hk.2) (.int .i64 t359)) (fun _ hk => hk.2) (.int .i64 t360)) (fun _ hk => hk.2) (.slice Ao18 t361.length co18)) (fun _ h_ => h_.1))) hb) (Kd.R_base ho0)) (Kd.R_base ho1)) (fun _ h_ => h_.1)); have HO368 := Aside0.mk (Kd.R_lower (Kd.R_new' (Kd.R_new' ho0 (Kd.R_lt (by (with_reducible repeat (first | apply Kd.R_alloc | apply Kd.R_drewN | apply Kd.R_drew)); exact (Kd.R_mono (Kd.R_far (p := ⟨gb364, 2, none⟩) (Kd.R_far (p := ⟨gb364, 1, none⟩) (Kd.R_far (p := ⟨gb364, 0, none⟩) (Kd.R_types HO356.out BK364.out (by decide)) (fun _ hk => hk.2) (.int .i64 t359)) (fun _ hk => hk.2) (.int .i64 t360)) (fun _ hk => hk.2) (.slice Ao18 t361.length co18)) (fun _ h_ => h_.1))))) (Kd.R_lt (by (with_reducible repeat (first | apply Kd.R_alloc | apply Kd.R_drewN | apply Kd.R_drew)); exact (Kd.R_mono (Kd.R_far (p := ⟨gb364, 2, none⟩) (Kd.R_far (p := ⟨gb364, 1, none⟩) (Kd.R_far (p := ⟨gb364, 0, none⟩) (Kd.R_types HO363.out BK364.out (by decide)) (fun _ hk => hk.2) (.int .i64 t359)) (fun _ hk => hk.2) (.int .i64 t360)) (fun _ hk => hk.2) (.slice Ao18 t361.length co18)) (fun _ h_ => h_.1))))) (below_size below_a)); have HO371 := Aside0.mk (Kd.R_lower (Kd.R_new' (Kd.R_new' ho1 (Kd.R_lt (by (with_reducible repeat (first | apply Kd.R_alloc | apply Kd.R_drewN | apply Kd.R_drew)); exact (Kd.R_mono (Kd.R_far (p := ⟨gb364, 2, none⟩) (Kd.R_far (p := ⟨gb364, 1, none⟩) (Kd.R_far (p := ⟨gb364, 0, none⟩) (Kd.R_types HO356.out BK364.out (by decide)) (fun _ hk => hk.2) (.int .i64 t359)) (fun _ hk => hk.2) (.int .i64 t360)) (fun _ hk => hk.2) (.slice Ao18 t361.length co18)) (fun _ h_ => h_.1))))) (Kd.R_lt (by (with_reducible repeat (first | apply Kd.R_alloc | apply Kd.R_drewN | apply Kd.R_drew)); exact (Kd.R_mono (Kd.R_far (p := ⟨gb364, 2, none⟩) (Kd.R_far (p := ⟨gb364, 1, none⟩) (Kd.R_far (p := ⟨gb364, 0, none⟩) (Kd.R_types HO363.out BK364.out (by decide)) (fun _ hk => hk.2) (.int .i64 t359)) (fun _ hk => hk.2) (.int .i64 t360)) (fun _ hk => hk.2) (.slice Ao18 t361.length co18)) (fun _ h_ => h_.1))))) (below_size below_a)); replace BK358 := Aside0.mk (blk_below (g := gb358) blk_c hb); replace BK364 := Aside0.mk (blk_below (g := gb364) (o := .cells #[.int .i64 t359, .int .i64 t360, .slice Ao18 t361.length co18] 30 (0, 0)) blk_a hb); replace HB := Aside0.mk (below_step below_a hb); replace HO356 := n0_; replace HO363 := n1_; clear n0_ n1_; (try clear hb); (try clear hb2); (try clear hk); (try clear hi); (try clear ho0); (try clear ho1)) | ((with_reducible refine gate_dst (N := 6) rfl ?_); refine box_event ?hg (N := 6) ?hd (cs := #[.int .i64 0, .slice none 0 0]) (t := 26) ?hr ?_; (case hd => rfl); (case hg => rfl); (case hr => first | (go_simp; done) | (go_simp; rfl)); intro gb372 hg w20 hbox hb; replace HO356 := Aside0.mk (Kd.R_below (R_a HO356.out) hb); replace HO363 := Aside0.mk (Kd.R_below (R_a HO363.out) hb); replace HO368 := Aside0.mk (Kd.R_below (R_a HO368.out) hb); replace HO371 := Aside0.mk (Kd.R_below (R_a HO371.out) hb); have n4_ := Aside0.mk (blk_below (g := gb358) blk_c hb); have n5_ := Aside0.mk (blk_below (g := gb364) blk_c hb); have n6_ := Aside0.mk (below_step below_a hb); have BK372 := Aside0.mk (hbox); have GW372 := Aside0.mk (bsz_ (w := w) hg); have GE372 := Aside0.mk (bsz_ (w := w) hg); have NB358_372 := Aside0.mk (bne_ (g := gb358) hg); have NB372_358 := Aside0.mk (bne_ (g := gb358) hg).symm; have NB364_372 := Aside0.mk (bne_ (g := gb364) hg); have NB372_364 := Aside0.mk (bne_ (g := gb364) hg).symm; replace BK358 := n4_; replace BK364 := n5_; replace HB := n6_; clear n4_ n5_ n6_; clear hb hbox hg; have hnb21 := NB372_358.out; have hnc21 := NB358_372.out; have hnb22 := NB372_364.out; have hnc22 := NB364_372.out; obtain ⟨hcz23_0, hcz23_1, hfz23_0, hfz23_1⟩ := bc2_ BK372.out; obtain ⟨Ao24, co24, eo24⟩ := Kd.R_slice HO368.out; subst eo24) | ((with_reducible refine gate_store (t := 26) (p := 6) rfl ?_); refine store_event (t := 26) (p := 6) (v := ?vo_w25) (w1 := ((w20.setCell ⟨gb372, 0, none⟩ (.int .i64 t365)).setCell ⟨gb372, 1, none⟩ (.slice Ao24 t366.length co24))) ?hg ?ho ?hn ?hr ?_; (case ho => rfl); (case hg => rfl); (case hn => rfl); (case hr => first | (go_simp; done) | (go_simp; rfl)); intro w25 hw; have n0_ : Aside0 (Kd.R (Kd.int .i64) 2 w25 w.heap.size (fun k_ => some k_ ≠ (.slice Ao18 t361.length co18 : Value).ownBlock ∧ some k_ ≠ (.slice Ao24 t366.length co24 : Value).ownBlock ∧ some k_ ≠ (v370 : Value).ownBlock) (.slice Ao13 t354.length co13) t354) := ⟨(by rw [hw]; exact (by (with_reducible repeat (first | apply Kd.R_alloc | apply Kd.R_drewN | apply Kd.R_drew)); exact Kd.R_mono (Kd.R_far (p := ⟨gb372, 1, none⟩) (Kd.R_far (p := ⟨gb372, 0, none⟩) (Kd.R_types HO356.out BK372.out (by decide)) (fun _ hk => hk.2) (.int .i64 t365)) (fun _ hk => hk.2) (.slice Ao24 t366.length co24)) (fun _ hk => ⟨hk.1.1.1.2, ⟨hk.1.1.2, hk.1.2⟩⟩)))⟩; have n1_ : Aside0 (Kd.R (Kd.int .i64) 2 w25 w.heap.size (fun k_ => some k_ ≠ (.slice Ao13 t354.length co13 : Value).ownBlock ∧ some k_ ≠ (.slice Ao24 t366.length co24 : Value).ownBlock ∧ some k_ ≠ (v370 : Value).ownBlock) (.slice Ao18 t361.length co18) t361) := ⟨(by rw [hw]; exact (by (with_reducible repeat (first | apply Kd.R_alloc | apply Kd.R_drewN | apply Kd.R_drew)); exact Kd.R_mono (Kd.R_far (p := ⟨gb372, 1, none⟩) (Kd.R_far (p := ⟨gb372, 0, none⟩) (Kd.R_types HO363.out BK372.out (by decide)) (fun _ hk => hk.2) (.int .i64 t365)) (fun _ hk => hk.2) (.slice Ao24 t366.length co24)) (fun _ hk => ⟨hk.1.1.1.2, ⟨hk.1.1.2, hk.1.2⟩⟩)))⟩; have n2_ : Aside0 (Kd.R (Kd.int .i64) 2 w25 w.heap.size (fun k_ => some k_ ≠ (.slice Ao13 t354.length co13 : Value).ownBlock ∧ some k_ ≠ (.slice Ao18 t361.length co18 : Value).ownBlock ∧ some k_ ≠ (v370 : Value).ownBlock) (.slice Ao24 t366.length co24) t366) := ⟨(by rw [hw]; exact (by (with_reducible repeat (first | apply Kd.R_alloc | apply Kd.R_drewN | apply Kd.R_drew)); exact Kd.R_mono (Kd.R_far (p := ⟨gb372, 1, none⟩) (Kd.R_far (p := ⟨gb372, 0, none⟩) (Kd.R_types HO368.out BK372.out (by decide)) (fun _ hk => hk.2) (.int .i64 t365)) (fun _ hk => hk.2) (.slice Ao24 t366.length co24)) (fun _ hk => ⟨hk.1.1.2, ⟨hk.1.2, hk.1.1.1⟩⟩)))⟩; have n3_ : Aside0 (Kd.R (Kd.int .i64) 2 w25 w.heap.size (fun k_ => some k_ ≠ (.slice Ao13 t354.length co13 : Value).ownBlock ∧ some k_ ≠ (.slice Ao18 t361.length co18 : Value).ownBlock ∧ some k_ ≠ (.slice Ao24 t366.length co24 : Value).ownBlock) v370 t369) := ⟨(by rw [hw]; exact (by (with_reducible repeat (first | apply Kd.R_alloc | apply Kd.R_drewN | apply Kd.R_drew)); exact Kd.R_mono (Kd.R_far (p := ⟨gb372, 1, none⟩) (Kd.R_far (p := ⟨gb372, 0, none⟩) (Kd.R_types HO371.out BK372.out (by decide)) (fun _ hk => hk.2) (.int .i64 t365)) (fun _ hk => hk.2) (.slice Ao24 t366.length co24)) (fun _ hk => ⟨hk.1.1.2, ⟨hk.1.2, hk.1.1.1⟩⟩)))⟩; have n4_ : Aside0 (w25.heap[gb358]? = some (.cells #[.int .i64 t353, .slice Ao13 t354.length co13] 26 (0, 0))) := ⟨(by rw [hw]; exact blk_a)⟩; have n5_ : Aside0 (w25.heap[gb364]? = some (.cells #[.int .i64 t359, .int .i64 t360, .slice Ao18 t361.length co18] 30 (0, 0))) := ⟨(by rw [hw]; exact blk_a)⟩; have n6_ : Aside0 (w25.heap[gb372]? = some (.cells #[.int .i64 t365, .slice Ao24 t366.length co24] 26 (0, 0))) := ⟨(by rw [hw]; exact blk_a)⟩; have n7_ : Aside0 (Below w.heap.size w w25) := ⟨(by rw [hw]; exact below_a)⟩; clear hw; clear HO356; clear HO363; clear HO368; clear HO371; clear BK358; clear BK364; clear BK372; clear HB; have HO356 := n0_; have HO363 := n1_; have HO368 := n2_; have HO371 := n3_; have BK358 := n4_; have BK364 := n5_; have BK372 := n6_; have HB := n7_; clear n0_ n1_ n2_ n3_ n4_ n5_ n6_ n7_; obtain ⟨hcz26_0, hcz26_1, hfz26_0, hfz26_1⟩ := bc2_ BK372.out; obtain ⟨Ao27, co27, eo27⟩ := Kd.R_slice HO371.out; subst eo27) | ((with_reducible refine gate_callee (f := 11) rfl ?_); refine goesL_ (some 33) rfl rfl Try.func11 (by kernel_rfl) rfl #[.agg #[.int .i64 t365, .slice Ao24 t366.length co24], .slice Ao27 t369.length co27] rfl args_a ?_; (with_reducible refine (impl_TakeAll.calls k t365 (fun k_ => some k_ = (.slice Ao24 t366.length co24 : Value).ownBlock) _ _ t366 _ _ t369 t373 t374 _ ?side1 ?side2 ?side3 A7.out).mono ?_); (case side1 => exact Kd.R_V (Kd.R_tight rfl (Kd.R_types (Kd.R_types (Kd.R_types (HO368.out) BK358.out (by decide)) BK364.out (by decide)) BK372.out (by decide)))); (case side2 => repeat (first | exact (Kd.R_reads' HO371.out).2.2 | (with_reducible refine Kd.C_alloc ?_ _) | (with_reducible refine Kd.C_drewN ?_ _) | (with_reducible refine Kd.C_drew ?_))); (case side3 => exact (Kd.R_reads' HO371.out).2.1); rintro e w28 ⟨v375, rfl, ho0, hb⟩; refine ⟨_, rfl, ?_⟩; have n0_ := Aside0.mk (Kd.R_elder' (R_a HO356.out) (Kd.R_base ho0) hb); have n1_ := Aside0.mk (Kd.R_elder' (R_a HO363.out) (Kd.R_base ho0) hb); have n2_ := Aside0.mk (Kd.R_elder' (R_a HO368.out) (Kd.R_base ho0) hb); have n3_ := Aside0.mk (Kd.R_elder' (R_a HO371.out) (Kd.R_base ho0) hb); have HO376 := Aside0.mk (Kd.R_lower (Kd.R_new' (Kd.R_new' (Kd.R_new' (Kd.R_new' (Kd.R_mono (ok' := fun k_ => True) ho0 (fun _ hk_ => trivial)) (Kd.R_lt (R_a HO356.out))) (Kd.R_lt (R_a HO363.out))) (Kd.R_lt (R_a HO368.out))) (Kd.R_lt (R_a HO371.out))) (below_size below_a)); replace BK358 := Aside0.mk (blk_below (g := gb358) blk_c hb); replace BK364 := Aside0.mk (blk_below (g := gb364) blk_c hb); replace BK372 := Aside0.mk (blk_below (g := gb372) blk_c hb); replace HB := Aside0.mk (below_step below_a hb); replace HO356 := n0_; replace HO363 := n1_; replace HO368 := n2_; replace HO371 := n3_; clear n0_ n1_ n2_ n3_; (try clear hb); (try clear hb2); (try clear hk); (try clear hi); (try clear ho0)) | ((with_reducible refine gate_dst (N := 8) rfl ?_); refine box_event ?hg (N := 8) ?hd (cs := #[.int .i64 0, .slice none 0 0]) (t := 35) ?hr ?_; (case hd => rfl); (case hg => rfl); (case hr => first | (go_simp; done) | (go_simp; rfl)); intro gb377 hg w29 hbox hb; replace HO356 := Aside0.mk (Kd.R_below (R_a HO356.out) hb); replace HO363 := Aside0.mk (Kd.R_below (R_a HO363.out) hb); replace HO368 := Aside0.mk (Kd.R_below (R_a HO368.out) hb); replace HO371 := Aside0.mk (Kd.R_below (R_a HO371.out) hb); replace HO376 := Aside0.mk (Kd.R_below (R_a HO376.out) hb); have n5_ := Aside0.mk (blk_below (g := gb358) blk_c hb); have n6_ := Aside0.mk (blk_below (g := gb364) blk_c hb); have n7_ := Aside0.mk (blk_below (g := gb372) blk_c hb); have n8_ := Aside0.mk (below_step below_a hb); have BK377 := Aside0.mk (hbox); have GW377 := Aside0.mk (bsz_ (w := w) hg); have GE377 := Aside0.mk (bsz_ (w := w) hg); have NB358_377 := Aside0.mk (bne_ (g := gb358) hg); have NB377_358 := Aside0.mk (bne_ (g := gb358) hg).symm; have NB364_377 := Aside0.mk (bne_ (g := gb364) hg); have NB377_364 := Aside0.mk (bne_ (g := gb364) hg).symm; have NB372_377 := Aside0.mk (bne_ (g := gb372) hg); have NB377_372 := Aside0.mk (bne_ (g := gb372) hg).symm; replace BK358 := n5_; replace BK364 := n6_; replace BK372 := n7_; replace HB := n8_; clear n5_ n6_ n7_ n8_; clear hb hbox hg; have hnb30 := NB377_358.out; have hnc30 := NB358_377.out; have hnb31 := NB377_364.out; have hnc31 := NB364_377.out; have hnb32 := NB377_372.out; have hnc32 := NB372_377.out; obtain ⟨hcz33_0, hcz33_1, hfz33_0, hfz33_1⟩ := bc2_ BK377.out; obtain ⟨Ao34, co34, eo34⟩ := Kd.R_slice HO376.out; subst eo34) | ((with_reducible refine gate_callee (f := 12) rfl ?_); refine goesL_ (some 36) rfl rfl Try.func12 (by kernel_rfl) rfl #[.slice A0 l0.length c0] rfl args_a ?_; (with_reducible refine (spec_DrawSameWindows.calls k _ _ l0 t378 t379 t382 t383 _ ?side1 ?side2 A8.out).mono ?_); (case side1 => exact Kd.C_below HR0.out below_a); (case side2 => exact HC0.out); rintro e w35 ⟨v380, v384, rfl, ho0, ho1, hb⟩; refine ⟨_, rfl, ?_⟩; have n0_ := Aside0.mk (Kd.R_mono (Kd.R_told (Kd.R_told (Kd.R_old (by (with_reducible repeat (first | apply Kd.R_alloc | apply Kd.R_drewN | apply Kd.R_drew)); exact (Kd.R_mono (Kd.R_far (p := ⟨gb377, 1, none⟩) (Kd.R_far (p := ⟨gb377, 0, none⟩) (Kd.R_types HO356.out BK377.out (by decide)) (fun _ hk => hk.2) (.int .i64 t373)) (fun _ hk => hk.2) (.slice Ao34 t374.length co34)) (fun _ h_ => h_.1))) hb) (Kd.R_base ho0)) (Kd.R_base ho1)) (fun _ h_ => h_.1)); have n1_ := Aside0.mk (Kd.R_mono (Kd.R_told (Kd.R_told (Kd.R_old (by (with_reducible repeat (first | apply Kd.R_alloc | apply Kd.R_drewN | apply Kd.R_drew)); exact (Kd.R_mono (Kd.R_far (p := ⟨gb377, 1, none⟩) (Kd.R_far (p := ⟨gb377, 0, none⟩) (Kd.R_types HO363.out BK377.out (by decide)) (fun _ hk => hk.2) (.int .i64 t373)) (fun _ hk => hk.2) (.slice Ao34 t374.length co34)) (fun _ h_ => h_.1))) hb) (Kd.R_base ho0)) (Kd.R_base ho1)) (fun _ h_ => h_.1)); have n2_ := Aside0.mk (Kd.R_mono (Kd.R_told (Kd.R_told (Kd.R_old (by (with_reducible repeat (first | apply Kd.R_alloc | apply Kd.R_drewN | apply Kd.R_drew)); exact (Kd.R_mono (Kd.R_far (p := ⟨gb377, 1, none⟩) (Kd.R_far (p := ⟨gb377, 0, none⟩) (Kd.R_types HO368.out BK377.out (by decide)) (fun _ hk => hk.2) (.int .i64 t373)) (fun _ hk => hk.2) (.slice Ao34 t374.length co34)) (fun _ h_ => h_.1))) hb) (Kd.R_base ho0)) (Kd.R_base ho1)) (fun _ h_ => h_.1)); have n3_ := Aside0.mk (Kd.R_mono (Kd.R_told (Kd.R_told (Kd.R_old (by (with_reducible repeat (first | apply Kd.R_alloc | apply Kd.R_drewN | apply Kd.R_drew)); exact (Kd.R_mono (Kd.R_far (p := ⟨gb377, 1, none⟩) (Kd.R_far (p := ⟨gb377, 0, none⟩) (Kd.R_types HO371.out BK377.out (by decide)) (fun _ hk => hk.2) (.int .i64 t373)) (fun _ hk => hk.2) (.slice Ao34 t374.length co34)) (fun _ h_ => h_.1))) hb) (Kd.R_base ho0)) (Kd.R_base ho1)) (fun _ h_ => h_.1)); have n4_ := Aside0.mk (Kd.R_mono (Kd.R_told (Kd.R_told (Kd.R_old (by (with_reducible repeat (first | apply Kd.R_alloc | apply Kd.R_drewN | apply Kd.R_drew)); exact (Kd.R_mono (Kd.R_far (p := ⟨gb377, 1, none⟩) (Kd.R_far (p := ⟨gb377, 0, none⟩) (Kd.R_types HO376.out BK377.out (by decide)) (fun _ hk => hk.2) (.int .i64 t373)) (fun _ hk => hk.2) (.slice Ao34 t374.length co34)) (fun _ h_ => h_.1))) hb) (Kd.R_base ho0)) (Kd.R_base ho1)) (fun _ h_ => h_.1)); have HO381 := Aside0.mk (Kd.R_lower (Kd.R_new' (Kd.R_new' (Kd.R_new' (Kd.R_new' (Kd.R_new' ho0 (Kd.R_lt (by (with_reducible repeat (first | apply Kd.R_alloc | apply Kd.R_drewN | apply Kd.R_drew)); exact (Kd.R_mono (Kd.R_far (p := ⟨gb377, 1, none⟩) (Kd.R_far (p := ⟨gb377, 0, none⟩) (Kd.R_types HO356.out BK377.out (by decide)) (fun _ hk => hk.2) (.int .i64 t373)) (fun _ hk => hk.2) (.slice Ao34 t374.length co34)) (fun _ h_ => h_.1))))) (Kd.R_lt (by (with_reducible repeat (first | apply Kd.R_alloc | apply Kd.R_drewN | apply Kd.R_drew)); exact (Kd.R_mono (Kd.R_far (p := ⟨gb377, 1, none⟩) (Kd.R_far (p := ⟨gb377, 0, none⟩) (Kd.R_types HO363.out BK377.out (by decide)) (fun _ hk => hk.2) (.int .i64 t373)) (fun _ hk => hk.2) (.slice Ao34 t374.length co34)) (fun _ h_ => h_.1))))) (Kd.R_lt (by (with_reducible repeat (first | apply Kd.R_alloc | apply Kd.R_drewN | apply Kd.R_drew)); exact (Kd.R_mono (Kd.R_far (p := ⟨gb377, 1, none⟩) (Kd.R_far (p := ⟨gb377, 0, none⟩) (Kd.R_types HO368.out BK377.out (by decide)) (fun _ hk => hk.2) (.int .i64 t373)) (fun _ hk => hk.2) (.slice Ao34 t374.length co34)) (fun _ h_ => h_.1))))) (Kd.R_lt (by (with_reducible repeat (first | apply Kd.R_alloc | apply Kd.R_drewN | apply Kd.R_drew)); exact (Kd.R_mono (Kd.R_far (p := ⟨gb377, 1, none⟩) (Kd.R_far (p := ⟨gb377, 0, none⟩) (Kd.R_types HO371.out BK377.out (by decide)) (fun _ hk => hk.2) (.int .i64 t373)) (fun _ hk => hk.2) (.slice Ao34 t374.length co34)) (fun _ h_ => h_.1))))) (Kd.R_lt (by (with_reducible repeat (first | apply Kd.R_alloc | apply Kd.R_drewN | apply Kd.R_drew)); exact (Kd.R_mono (Kd.R_far (p := ⟨gb377, 1, none⟩) (Kd.R_far (p := ⟨gb377, 0, none⟩) (Kd.R_types HO376.out BK377.out (by decide)) (fun _ hk => hk.2) (.int .i64 t373)) (fun _ hk => hk.2) (.slice Ao34 t374.length co34)) (fun _ h_ => h_.1))))) (below_size below_a)); have HO385 := Aside0.mk (Kd.R_lower (Kd.R_new' (Kd.R_new' (Kd.R_new' (Kd.R_new' (Kd.R_new' ho1 (Kd.R_lt (by (with_reducible repeat (first | apply Kd.R_alloc | apply Kd.R_drewN | apply Kd.R_drew)); exact (Kd.R_mono (Kd.R_far (p := ⟨gb377, 1, none⟩) (Kd.R_far (p := ⟨gb377, 0, none⟩) (Kd.R_types HO356.out BK377.out (by decide)) (fun _ hk => hk.2) (.int .i64 t373)) (fun _ hk => hk.2) (.slice Ao34 t374.length co34)) (fun _ h_ => h_.1))))) (Kd.R_lt (by (with_reducible repeat (first | apply Kd.R_alloc | apply Kd.R_drewN | apply Kd.R_drew)); exact (Kd.R_mono (Kd.R_far (p := ⟨gb377, 1, none⟩) (Kd.R_far (p := ⟨gb377, 0, none⟩) (Kd.R_types HO363.out BK377.out (by decide)) (fun _ hk => hk.2) (.int .i64 t373)) (fun _ hk => hk.2) (.slice Ao34 t374.length co34)) (fun _ h_ => h_.1))))) (Kd.R_lt (by (with_reducible repeat (first | apply Kd.R_alloc | apply Kd.R_drewN | apply Kd.R_drew)); exact (Kd.R_mono (Kd.R_far (p := ⟨gb377, 1, none⟩) (Kd.R_far (p := ⟨gb377, 0, none⟩) (Kd.R_types HO368.out BK377.out (by decide)) (fun _ hk => hk.2) (.int .i64 t373)) (fun _ hk => hk.2) (.slice Ao34 t374.length co34)) (fun _ h_ => h_.1))))) (Kd.R_lt (by (with_reducible repeat (first | apply Kd.R_alloc | apply Kd.R_drewN | apply Kd.R_drew)); exact (Kd.R_mono (Kd.R_far (p := ⟨gb377, 1, none⟩) (Kd.R_far (p := ⟨gb377, 0, none⟩) (Kd.R_types HO371.out BK377.out (by decide)) (fun _ hk => hk.2) (.int .i64 t373)) (fun _ hk => hk.2) (.slice Ao34 t374.length co34)) (fun _ h_ => h_.1))))) (Kd.R_lt (by (with_reducible repeat (first | apply Kd.R_alloc | apply Kd.R_drewN | apply Kd.R_drew)); exact (Kd.R_mono (Kd.R_far (p := ⟨gb377, 1, none⟩) (Kd.R_far (p := ⟨gb377, 0, none⟩) (Kd.R_types HO376.out BK377.out (by decide)) (fun _ hk => hk.2) (.int .i64 t373)) (fun _ hk => hk.2) (.slice Ao34 t374.length co34)) (fun _ h_ => h_.1))))) (below_size below_a)); replace BK358 := Aside0.mk (blk_below (g := gb358) blk_c hb); replace BK364 := Aside0.mk (blk_below (g := gb364) blk_c hb); replace BK372 := Aside0.mk (blk_below (g := gb372) blk_c hb); replace BK377 := Aside0.mk (blk_below (g := gb377) (o := .cells #[.int .i64 t373, .slice Ao34 t374.length co34] 35 (0, 0)) blk_a hb); replace HB := Aside0.mk (below_step below_a hb); replace HO356 := n0_; replace HO363 := n1_; replace HO368 := n2_; replace HO371 := n3_; replace HO376 := n4_; clear n0_ n1_ n2_ n3_ n4_; (try clear hb); (try clear hb2); (try clear hk); (try clear hi); (try clear ho0); (try clear ho1)) | ((with_reducible refine gate_dst (N := 9) rfl ?_); refine box_event ?hg (N := 9) ?hd (cs := #[.int .i64 0, .slice none 0 0]) (t := 26) ?hr ?_; (case hd => rfl); (case hg => rfl); (case hr => first | (go_simp; done) | (go_simp; rfl)); intro gb386 hg w36 hbox hb; replace HO356 := Aside0.mk (Kd.R_below (R_a HO356.out) hb); replace HO363 := Aside0.mk (Kd.R_below (R_a HO363.out) hb); replace HO368 := Aside0.mk (Kd.R_below (R_a HO368.out) hb); replace HO371 := Aside0.mk (Kd.R_below (R_a HO371.out) hb); replace HO376 := Aside0.mk (Kd.R_below (R_a HO376.out) hb); replace HO381 := Aside0.mk (Kd.R_below (R_a HO381.out) hb); replace HO385 := Aside0.mk (Kd.R_below (R_a HO385.out) hb); have n7_ := Aside0.mk (blk_below (g := gb358) blk_c hb); have n8_ := Aside0.mk (blk_below (g := gb364) blk_c hb); have n9_ := Aside0.mk (blk_below (g := gb372) blk_c hb); have n10_ := Aside0.mk (blk_below (g := gb377) blk_c hb); have n11_ := Aside0.mk (below_step below_a hb); have BK386 := Aside0.mk (hbox); have GW386 := Aside0.mk (bsz_ (w := w) hg); have GE386 := Aside0.mk (bsz_ (w := w) hg); have NB358_386 := Aside0.mk (bne_ (g := gb358) hg); have NB386_358 := Aside0.mk (bne_ (g := gb358) hg).symm; have NB364_386 := Aside0.mk (bne_ (g := gb364) hg); have NB386_364 := Aside0.mk (bne_ (g := gb364) hg).symm; have NB372_386 := Aside0.mk (bne_ (g := gb372) hg); have NB386_372 := Aside0.mk (bne_ (g := gb372) hg).symm; have NB377_386 := Aside0.mk (bne_ (g := gb377) hg); have NB386_377 := Aside0.mk (bne_ (g := gb377) hg).symm; replace BK358 := n7_; replace BK364 := n8_; replace BK372 := n9_; replace BK377 := n10_; replace HB := n11_; clear n7_ n8_ n9_ n10_ n11_; clear hb hbox hg) | ((with_reducible refine gate_dst (N := 10) rfl ?_); refine box_event ?hg (N := 10) ?hd (cs := #[.int .i64 0, .slice none 0 0]) (t := 26) ?hr ?_; (case hd => rfl); (case hg => rfl); (case hr => first | (go_simp; done) | (go_simp; rfl)); intro gb387 hg w37 hbox hb; replace HO356 := Aside0.mk (Kd.R_below (R_a HO356.out) hb); replace HO363 := Aside0.mk (Kd.R_below (R_a HO363.out) hb); replace HO368 := Aside0.mk (Kd.R_below (R_a HO368.out) hb); replace HO371 := Aside0.mk (Kd.R_below (R_a HO371.out) hb); replace HO376 := Aside0.mk (Kd.R_below (R_a HO376.out) hb); replace HO381 := Aside0.mk (Kd.R_below (R_a HO381.out) hb); replace HO385 := Aside0.mk (Kd.R_below (R_a HO385.out) hb); have n7_ := Aside0.mk (blk_below (g := gb358) blk_c hb); have n8_ := Aside0.mk (blk_below (g := gb364) blk_c hb); have n9_ := Aside0.mk (blk_below (g := gb372) blk_c hb); have n10_ := Aside0.mk (blk_below (g := gb377) blk_c hb); have n11_ := Aside0.mk (blk_below (g := gb386) blk_c hb); have n12_ := Aside0.mk (below_step below_a hb); have BK387 := Aside0.mk (hbox); have GW387 := Aside0.mk (bsz_ (w := w) hg); have GE387 := Aside0.mk (bsz_ (w := w) hg); have NB358_387 := Aside0.mk (bne_ (g := gb358) hg); have NB387_358 := Aside0.mk (bne_ (g := gb358) hg).symm; have NB364_387 := Aside0.mk (bne_ (g := gb364) hg); have NB387_364 := Aside0.mk (bne_ (g := gb364) hg).symm; have NB372_387 := Aside0.mk (bne_ (g := gb372) hg); have NB387_372 := Aside0.mk (bne_ (g := gb372) hg).symm; have NB377_387 := Aside0.mk (bne_ (g := gb377) hg); have NB387_377 := Aside0.mk (bne_ (g := gb377) hg).symm; have NB386_387 := Aside0.mk (bne_ (g := gb386) hg); have NB387_386 := Aside0.mk (bne_ (g := gb386) hg).symm; replace BK358 := n7_; replace BK364 := n8_; replace BK372 := n9_; replace BK377 := n10_; replace BK386 := n11_; replace HB := n12_; clear n7_ n8_ n9_ n10_ n11_ n12_; clear hb hbox hg; have hnb38 := NB386_358.out; have hnc38 := NB358_386.out; have hnb39 := NB386_364.out; have hnc39 := NB364_386.out; have hnb40 := NB386_372.out; have hnc40 := NB372_386.out; have hnb41 := NB386_377.out; have hnc41 := NB377_386.out; have hnb42 := NB386_387.out; have hnc42 := NB387_386.out; obtain ⟨hcz43_0, hcz43_1, hfz43_0, hfz43_1⟩ := bc2_ BK386.out; obtain ⟨Ao44, co44, eo44⟩ := Kd.R_slice HO381.out; subst eo44; have hnb45 := NB387_358.out; have hnc45 := NB358_387.out; have hnb46 := NB387_364.out; have hnc46 := NB364_387.out; have hnb47 := NB387_372.out; have hnc47 := NB372_387.out; have hnb48 := NB387_377.out; have hnc48 := NB377_387.out; obtain ⟨hcz49_0, hcz49_1, hfz49_0, hfz49_1⟩ := bc2_ BK387.out; obtain ⟨Ao50, co50, eo50⟩ := Kd.R_slice HO385.out; subst eo50))
  (try simp only [Act.put, List.setIfInBounds_toArray, List.set_cons_zero, List.set_cons_succ])
  go_cut [89] (fun v89 wc => ∃ (kq : Nat) (x89_8 : Bool), v89 = .bool x89_8 ∧ Aside0 (laws_FnWindows.j0 kq t357 t369 x89_8 t353 t354 t359 t360 t361 t373 t374 = some r) ∧ Aside0 (kq ≤ k) ∧ Aside0 (Kd.R (Kd.int .i64) 2 wc w.heap.size (fun k_ => some k_ ≠ ((.slice Ao13 t354.length co13) : Value).ownBlock ∧ some k_ ≠ ((.slice Ao18 t361.length co18) : Value).ownBlock ∧ some k_ ≠ ((.slice Ao24 t366.length co24) : Value).ownBlock ∧ some k_ ≠ ((.slice Ao34 t374.length co34) : Value).ownBlock ∧ some k_ ≠ ((.slice Ao44 t379.length co44) : Value).ownBlock ∧ some k_ ≠ ((.slice Ao50 t383.length co50) : Value).ownBlock) (.slice Ao27 t369.length co27) t369) ∧ Aside0 (Kd.R (Kd.int .i64) 2 wc w.heap.size (fun k_ => some k_ ≠ ((.slice Ao27 t369.length co27) : Value).ownBlock ∧ some k_ ≠ ((.slice Ao18 t361.length co18) : Value).ownBlock ∧ some k_ ≠ ((.slice Ao24 t366.length co24) : Value).ownBlock ∧ some k_ ≠ ((.slice Ao34 t374.length co34) : Value).ownBlock ∧ some k_ ≠ ((.slice Ao44 t379.length co44) : Value).ownBlock ∧ some k_ ≠ ((.slice Ao50 t383.length co50) : Value).ownBlock) (.slice Ao13 t354.length co13) t354) ∧ Aside0 (Kd.R (Kd.int .i64) 2 wc w.heap.size (fun k_ => some k_ ≠ ((.slice Ao27 t369.length co27) : Value).ownBlock ∧ some k_ ≠ ((.slice Ao13 t354.length co13) : Value).ownBlock ∧ some k_ ≠ ((.slice Ao24 t366.length co24) : Value).ownBlock ∧ some k_ ≠ ((.slice Ao34 t374.length co34) : Value).ownBlock ∧ some k_ ≠ ((.slice Ao44 t379.length co44) : Value).ownBlock ∧ some k_ ≠ ((.slice Ao50 t383.length co50) : Value).ownBlock) (.slice Ao18 t361.length co18) t361) ∧ Aside0 (Kd.R (Kd.int .i64) 2 wc w.heap.size (fun k_ => some k_ ≠ ((.slice Ao27 t369.length co27) : Value).ownBlock ∧ some k_ ≠ ((.slice Ao13 t354.length co13) : Value).ownBlock ∧ some k_ ≠ ((.slice Ao18 t361.length co18) : Value).ownBlock ∧ some k_ ≠ ((.slice Ao34 t374.length co34) : Value).ownBlock ∧ some k_ ≠ ((.slice Ao44 t379.length co44) : Value).ownBlock ∧ some k_ ≠ ((.slice Ao50 t383.length co50) : Value).ownBlock) (.slice Ao24 t366.length co24) t366) ∧ Aside0 (Kd.R (Kd.int .i64) 2 wc w.heap.size (fun k_ => some k_ ≠ ((.slice Ao27 t369.length co27) : Value).ownBlock ∧ some k_ ≠ ((.slice Ao13 t354.length co13) : Value).ownBlock ∧ some k_ ≠ ((.slice Ao18 t361.length co18) : Value).ownBlock ∧ some k_ ≠ ((.slice Ao24 t366.length co24) : Value).ownBlock ∧ some k_ ≠ ((.slice Ao44 t379.length co44) : Value).ownBlock ∧ some k_ ≠ ((.slice Ao50 t383.length co50) : Value).ownBlock) (.slice Ao34 t374.length co34) t374) ∧ Aside0 (Kd.R (Kd.int .i64) 2 wc w.heap.size (fun k_ => some k_ ≠ ((.slice Ao27 t369.length co27) : Value).ownBlock ∧ some k_ ≠ ((.slice Ao13 t354.length co13) : Value).ownBlock ∧ some k_ ≠ ((.slice Ao18 t361.length co18) : Value).ownBlock ∧ some k_ ≠ ((.slice Ao24 t366.length co24) : Value).ownBlock ∧ some k_ ≠ ((.slice Ao34 t374.length co34) : Value).ownBlock ∧ some k_ ≠ ((.slice Ao50 t383.length co50) : Value).ownBlock) (.slice Ao44 t379.length co44) t379) ∧ Aside0 (Kd.R (Kd.int .i64) 2 wc w.heap.size (fun k_ => some k_ ≠ ((.slice Ao27 t369.length co27) : Value).ownBlock ∧ some k_ ≠ ((.slice Ao13 t354.length co13) : Value).ownBlock ∧ some k_ ≠ ((.slice Ao18 t361.length co18) : Value).ownBlock ∧ some k_ ≠ ((.slice Ao24 t366.length co24) : Value).ownBlock ∧ some k_ ≠ ((.slice Ao34 t374.length co34) : Value).ownBlock ∧ some k_ ≠ ((.slice Ao44 t379.length co44) : Value).ownBlock) (.slice Ao50 t383.length co50) t383) ∧ Aside0 (wc.heap[gb358]? = some (.cells #[.int .i64 t353, (.slice Ao13 t354.length co13)] 26 (0, 0))) ∧ Aside0 (wc.heap[gb364]? = some (.cells #[.int .i64 t359, .int .i64 t360, (.slice Ao18 t361.length co18)] 30 (0, 0))) ∧ Aside0 (wc.heap[gb372]? = some (.cells #[.int .i64 t365, (.slice Ao24 t366.length co24)] 26 (0, 0))) ∧ Aside0 (wc.heap[gb377]? = some (.cells #[.int .i64 t373, (.slice Ao34 t374.length co34)] 35 (0, 0))) ∧ Aside0 (wc.heap[gb386]? = some (.cells #[.int .i64 t378, (.slice Ao44 t379.length co44)] 26 (0, 0))) ∧ Aside0 (wc.heap[gb387]? = some (.cells #[.int .i64 t382, (.slice Ao50 t383.length co50)] 26 (0, 0))) ∧ Aside0 (Below w.heap.size w wc))
  case first =>
   have H := HC9.out; clear HC9; replace H := Option.bind_eq_some_iff.mp H; obtain ⟨⟨t388, t389, t390⟩, A510, H⟩ := H; replace H : (if t359 = t388 then ((spec_TakeAll.f k t365 t366 t369).bind fun bt393 => (if t373 = bt393.1 then ((impl_IsNews.f k t353 t354 t357).bind fun t397 => (if (t397 != (t359 == 0)) = true then (none) else ((impl_WindowFault.f k t353 t354).bind fun t398 => ((spec_WindowFault.f k t353 t354).bind fun t399 => (if t398 = t399 then ((impl_SameWindows.f k t378 t379 t382 t383).bind fun t400 => ((spec_SameWindows.f k t378 t379 t382 t383).bind fun t401 => (if (t400 != t401) = true then (none) else ((spec_TakeAll.f k t365 t366 t369).bind fun bt402 => ((laws_lwNums.f k t374 bt402.2).bind fun t406 => (laws_FnWindows.j0 k t357 t369 (!t406) t353 t354 t359 t360 t361 t373 t374)))))) else (none)))))) else (none))) else (none)) = some r := H; have A51 := Aside0.mk A510; clear A510
   by_cases c52 : t359 = t388
   ·
    rw [if_pos c52] at H; have c52b0 : (t359 == t388) = true := beq_iff_eq.mpr c52; have c52b1 : (t359 != t388) = false := bne_eq_false_iff_eq.mpr c52; clear c52; (first | rw [c52b0] | (simp only [i64_w, i32_w]; rw [c52b0]) | skip); replace H := Option.bind_eq_some_iff.mp H; obtain ⟨⟨t393, t394⟩, A530, H⟩ := H; replace H : (if t373 = t393 then ((impl_IsNews.f k t353 t354 t357).bind fun t397 => (if (t397 != (t359 == 0)) = true then (none) else ((impl_WindowFault.f k t353 t354).bind fun t398 => ((spec_WindowFault.f k t353 t354).bind fun t399 => (if t398 = t399 then ((impl_SameWindows.f k t378 t379 t382 t383).bind fun t400 => ((spec_SameWindows.f k t378 t379 t382 t383).bind fun t401 => (if (t400 != t401) = true then (none) else ((spec_TakeAll.f k t365 t366 t369).bind fun bt402 => ((laws_lwNums.f k t374 bt402.2).bind fun t406 => (laws_FnWindows.j0 k t357 t369 (!t406) t353 t354 t359 t360 t361 t373 t374)))))) else (none)))))) else (none)) = some r := H; have A53 := Aside0.mk A530; clear A530
    by_cases c54 : t373 = t393
    ·
     rw [if_pos c54] at H; have c54b0 : (t373 == t393) = true := beq_iff_eq.mpr c54; have c54b1 : (t373 != t393) = false := bne_eq_false_iff_eq.mpr c54; clear c54; replace H := Option.bind_eq_some_iff.mp H; obtain ⟨t397, A550, H⟩ := H; replace H : (if (t397 != (t359 == 0)) = true then (none) else ((impl_WindowFault.f k t353 t354).bind fun t398 => ((spec_WindowFault.f k t353 t354).bind fun t399 => (if t398 = t399 then ((impl_SameWindows.f k t378 t379 t382 t383).bind fun t400 => ((spec_SameWindows.f k t378 t379 t382 t383).bind fun t401 => (if (t400 != t401) = true then (none) else ((spec_TakeAll.f k t365 t366 t369).bind fun bt402 => ((laws_lwNums.f k t374 bt402.2).bind fun t406 => (laws_FnWindows.j0 k t357 t369 (!t406) t353 t354 t359 t360 t361 t373 t374)))))) else (none))))) = some r := H; have A55 := Aside0.mk A550; clear A550
     by_cases c56 : (t397 != (t359 == 0)) = true
     ·
      rw [if_pos c56] at H; exact absurd H (by simp)
     ·
      rw [if_neg c56] at H; have c56b0 : (t397 != (t359 == 0)) = false := by simpa using c56
      (try (have c56b1 : decide (t397 = (t359 == 0)) = true := by simpa using c56)); (try (have c56b2 : (t397 == (t359 == 0)) = true := by simpa using c56)); clear c56; replace H := Option.bind_eq_some_iff.mp H; obtain ⟨t398, A570, H⟩ := H; replace H : ((spec_WindowFault.f k t353 t354).bind fun t399 => (if t398 = t399 then ((impl_SameWindows.f k t378 t379 t382 t383).bind fun t400 => ((spec_SameWindows.f k t378 t379 t382 t383).bind fun t401 => (if (t400 != t401) = true then (none) else ((spec_TakeAll.f k t365 t366 t369).bind fun bt402 => ((laws_lwNums.f k t374 bt402.2).bind fun t406 => (laws_FnWindows.j0 k t357 t369 (!t406) t353 t354 t359 t360 t361 t373 t374)))))) else (none))) = some r := H; have A57 := Aside0.mk A570; clear A570; replace H := Option.bind_eq_some_iff.mp H; obtain ⟨t399, A580, H⟩ := H; replace H : (if t398 = t399 then ((impl_SameWindows.f k t378 t379 t382 t383).bind fun t400 => ((spec_SameWindows.f k t378 t379 t382 t383).bind fun t401 => (if (t400 != t401) = true then (none) else ((spec_TakeAll.f k t365 t366 t369).bind fun bt402 => ((laws_lwNums.f k t374 bt402.2).bind fun t406 => (laws_FnWindows.j0 k t357 t369 (!t406) t353 t354 t359 t360 t361 t373 t374)))))) else (none)) = some r := H; have A58 := Aside0.mk A580; clear A580
      by_cases c59 : t398 = t399
      ·
       rw [if_pos c59] at H; have c59b0 : (t398 == t399) = true := beq_iff_eq.mpr c59; have c59b1 : (t398 != t399) = false := bne_eq_false_iff_eq.mpr c59; clear c59; replace H := Option.bind_eq_some_iff.mp H; obtain ⟨t400, A600, H⟩ := H; replace H : ((spec_SameWindows.f k t378 t379 t382 t383).bind fun t401 => (if (t400 != t401) = true then (none) else ((spec_TakeAll.f k t365 t366 t369).bind fun bt402 => ((laws_lwNums.f k t374 bt402.2).bind fun t406 => (laws_FnWindows.j0 k t357 t369 (!t406) t353 t354 t359 t360 t361 t373 t374))))) = some r := H; have A60 := Aside0.mk A600; clear A600; replace H := Option.bind_eq_some_iff.mp H; obtain ⟨t401, A610, H⟩ := H; replace H : (if (t400 != t401) = true then (none) else ((spec_TakeAll.f k t365 t366 t369).bind fun bt402 => ((laws_lwNums.f k t374 bt402.2).bind fun t406 => (laws_FnWindows.j0 k t357 t369 (!t406) t353 t354 t359 t360 t361 t373 t374)))) = some r := H; have A61 := Aside0.mk A610; clear A610
       by_cases c62 : (t400 != t401) = true
       ·
        rw [if_pos c62] at H; exact absurd H (by simp)
       ·
        rw [if_neg c62] at H; have c62b0 : (t400 != t401) = false := by simpa using c62
        (try (have c62b1 : decide (t400 = t401) = true := by simpa using c62)); (try (have c62b2 : (t400 == t401) = true := by simpa using c62)); clear c62; replace H := Option.bind_eq_some_iff.mp H; obtain ⟨⟨t402, t403⟩, A630, H⟩ := H; replace H : ((laws_lwNums.f k t374 t403).bind fun t406 => (laws_FnWindows.j0 k t357 t369 (!t406) t353 t354 t359 t360 t361 t373 t374)) = some r := H; have A63 := Aside0.mk A630; clear A630; replace H := Option.bind_eq_some_iff.mp H; obtain ⟨t406, A640, H⟩ := H; replace H : (laws_FnWindows.j0 k t357 t369 (!t406) t353 t354 t359 t360 t361 t373 t374) = some r := H; have A64 := Aside0.mk A640; clear A640; have H' := Aside0.mk H; clear H
        try go_wp2
        generalize hW_ : ((((w37.setCell ⟨gb386, 0, none⟩ (.int .i64 t378)).setCell ⟨gb386, 1, none⟩ (.slice Ao44 t379.length co44)).setCell ⟨gb387, 0, none⟩ (.int .i64 t382)).setCell ⟨gb387, 1, none⟩ (.slice Ao50 t383.length co50)) = w65 at ⊢; have n0_ : Aside0 (Kd.R (Kd.int .i64) 2 w65 w.heap.size (fun k_ => some k_ ≠ (.slice Ao18 t361.length co18 : Value).ownBlock ∧ some k_ ≠ (.slice Ao24 t366.length co24 : Value).ownBlock ∧ some k_ ≠ (.slice Ao27 t369.length co27 : Value).ownBlock ∧ some k_ ≠ (.slice Ao34 t374.length co34 : Value).ownBlock ∧ some k_ ≠ (.slice Ao44 t379.length co44 : Value).ownBlock ∧ some k_ ≠ (.slice Ao50 t383.length co50 : Value).ownBlock) (.slice Ao13 t354.length co13) t354) := hW_ ▸ ⟨by (with_reducible repeat (first | apply Kd.R_alloc | apply Kd.R_drewN | apply Kd.R_drew)); exact Kd.R_mono (Kd.R_far (p := ⟨gb387, 1, none⟩) (Kd.R_far (p := ⟨gb387, 0, none⟩) (Kd.R_far (p := ⟨gb386, 1, none⟩) (Kd.R_far (p := ⟨gb386, 0, none⟩) (Kd.R_types (Kd.R_types HO356.out BK386.out (by decide)) BK387.out (by decide)) (fun _ hk => hk.1.2) (.int .i64 t378)) (fun _ hk => hk.1.2) (.slice Ao44 t379.length co44)) (fun _ hk => hk.2) (.int .i64 t382)) (fun _ hk => hk.2) (.slice Ao50 t383.length co50)) (fun _ hk => ⟨hk.1.1.1.1.1.1, ⟨hk.1.1.1.1.1.2.1, ⟨hk.1.1.1.1.1.2.2, ⟨hk.1.1.1.1.2, ⟨hk.1.1.1.2, hk.1.1.2⟩⟩⟩⟩⟩)⟩; have n1_ : Aside0 (Kd.R (Kd.int .i64) 2 w65 w.heap.size (fun k_ => some k_ ≠ (.slice Ao13 t354.length co13 : Value).ownBlock ∧ some k_ ≠ (.slice Ao24 t366.length co24 : Value).ownBlock ∧ some k_ ≠ (.slice Ao27 t369.length co27 : Value).ownBlock ∧ some k_ ≠ (.slice Ao34 t374.length co34 : Value).ownBlock ∧ some k_ ≠ (.slice Ao44 t379.length co44 : Value).ownBlock ∧ some k_ ≠ (.slice Ao50 t383.length co50 : Value).ownBlock) (.slice Ao18 t361.length co18) t361) := hW_ ▸ ⟨by (with_reducible repeat (first | apply Kd.R_alloc | apply Kd.R_drewN | apply Kd.R_drew)); exact Kd.R_mono (Kd.R_far (p := ⟨gb387, 1, none⟩) (Kd.R_far (p := ⟨gb387, 0, none⟩) (Kd.R_far (p := ⟨gb386, 1, none⟩) (Kd.R_far (p := ⟨gb386, 0, none⟩) (Kd.R_types (Kd.R_types HO363.out BK386.out (by decide)) BK387.out (by decide)) (fun _ hk => hk.1.2) (.int .i64 t378)) (fun _ hk => hk.1.2) (.slice Ao44 t379.length co44)) (fun _ hk => hk.2) (.int .i64 t382)) (fun _ hk => hk.2) (.slice Ao50 t383.length co50)) (fun _ hk => ⟨hk.1.1.1.1.1.1, ⟨hk.1.1.1.1.1.2.1, ⟨hk.1.1.1.1.1.2.2, ⟨hk.1.1.1.1.2, ⟨hk.1.1.1.2, hk.1.1.2⟩⟩⟩⟩⟩)⟩; have n2_ : Aside0 (Kd.R (Kd.int .i64) 2 w65 w.heap.size (fun k_ => some k_ ≠ (.slice Ao13 t354.length co13 : Value).ownBlock ∧ some k_ ≠ (.slice Ao18 t361.length co18 : Value).ownBlock ∧ some k_ ≠ (.slice Ao27 t369.length co27 : Value).ownBlock ∧ some k_ ≠ (.slice Ao34 t374.length co34 : Value).ownBlock ∧ some k_ ≠ (.slice Ao44 t379.length co44 : Value).ownBlock ∧ some k_ ≠ (.slice Ao50 t383.length co50 : Value).ownBlock) (.slice Ao24 t366.length co24) t366) := hW_ ▸ ⟨by (with_reducible repeat (first | apply Kd.R_alloc | apply Kd.R_drewN | apply Kd.R_drew)); exact Kd.R_mono (Kd.R_far (p := ⟨gb387, 1, none⟩) (Kd.R_far (p := ⟨gb387, 0, none⟩) (Kd.R_far (p := ⟨gb386, 1, none⟩) (Kd.R_far (p := ⟨gb386, 0, none⟩) (Kd.R_types (Kd.R_types HO368.out BK386.out (by decide)) BK387.out (by decide)) (fun _ hk => hk.1.2) (.int .i64 t378)) (fun _ hk => hk.1.2) (.slice Ao44 t379.length co44)) (fun _ hk => hk.2) (.int .i64 t382)) (fun _ hk => hk.2) (.slice Ao50 t383.length co50)) (fun _ hk => ⟨hk.1.1.1.1.1.1, ⟨hk.1.1.1.1.1.2.1, ⟨hk.1.1.1.1.1.2.2, ⟨hk.1.1.1.1.2, ⟨hk.1.1.1.2, hk.1.1.2⟩⟩⟩⟩⟩)⟩; have n3_ : Aside0 (Kd.R (Kd.int .i64) 2 w65 w.heap.size (fun k_ => some k_ ≠ (.slice Ao13 t354.length co13 : Value).ownBlock ∧ some k_ ≠ (.slice Ao18 t361.length co18 : Value).ownBlock ∧ some k_ ≠ (.slice Ao24 t366.length co24 : Value).ownBlock ∧ some k_ ≠ (.slice Ao34 t374.length co34 : Value).ownBlock ∧ some k_ ≠ (.slice Ao44 t379.length co44 : Value).ownBlock ∧ some k_ ≠ (.slice Ao50 t383.length co50 : Value).ownBlock) (.slice Ao27 t369.length co27) t369) := hW_ ▸ ⟨by (with_reducible repeat (first | apply Kd.R_alloc | apply Kd.R_drewN | apply Kd.R_drew)); exact Kd.R_mono (Kd.R_far (p := ⟨gb387, 1, none⟩) (Kd.R_far (p := ⟨gb387, 0, none⟩) (Kd.R_far (p := ⟨gb386, 1, none⟩) (Kd.R_far (p := ⟨gb386, 0, none⟩) (Kd.R_types (Kd.R_types HO371.out BK386.out (by decide)) BK387.out (by decide)) (fun _ hk => hk.1.2) (.int .i64 t378)) (fun _ hk => hk.1.2) (.slice Ao44 t379.length co44)) (fun _ hk => hk.2) (.int .i64 t382)) (fun _ hk => hk.2) (.slice Ao50 t383.length co50)) (fun _ hk => ⟨hk.1.1.1.1.1.1, ⟨hk.1.1.1.1.1.2.1, ⟨hk.1.1.1.1.1.2.2, ⟨hk.1.1.1.1.2, ⟨hk.1.1.1.2, hk.1.1.2⟩⟩⟩⟩⟩)⟩; have n4_ : Aside0 (Kd.R (Kd.int .i64) 2 w65 w.heap.size (fun k_ => some k_ ≠ (.slice Ao13 t354.length co13 : Value).ownBlock ∧ some k_ ≠ (.slice Ao18 t361.length co18 : Value).ownBlock ∧ some k_ ≠ (.slice Ao24 t366.length co24 : Value).ownBlock ∧ some k_ ≠ (.slice Ao27 t369.length co27 : Value).ownBlock ∧ some k_ ≠ (.slice Ao44 t379.length co44 : Value).ownBlock ∧ some k_ ≠ (.slice Ao50 t383.length co50 : Value).ownBlock) (.slice Ao34 t374.length co34) t374) := hW_ ▸ ⟨by (with_reducible repeat (first | apply Kd.R_alloc | apply Kd.R_drewN | apply Kd.R_drew)); exact Kd.R_mono (Kd.R_far (p := ⟨gb387, 1, none⟩) (Kd.R_far (p := ⟨gb387, 0, none⟩) (Kd.R_far (p := ⟨gb386, 1, none⟩) (Kd.R_far (p := ⟨gb386, 0, none⟩) (Kd.R_types (Kd.R_types HO376.out BK386.out (by decide)) BK387.out (by decide)) (fun _ hk => hk.1.2) (.int .i64 t378)) (fun _ hk => hk.1.2) (.slice Ao44 t379.length co44)) (fun _ hk => hk.2) (.int .i64 t382)) (fun _ hk => hk.2) (.slice Ao50 t383.length co50)) (fun _ hk => ⟨hk.1.1.1.1.1.1.1.2, ⟨hk.1.1.1.1.1.1.2, ⟨hk.1.1.1.1.1.2, ⟨hk.1.1.1.1.2, ⟨hk.1.1.1.2, hk.1.1.2⟩⟩⟩⟩⟩)⟩; have n5_ : Aside0 (Kd.R (Kd.int .i64) 2 w65 w.heap.size (fun k_ => some k_ ≠ (.slice Ao13 t354.length co13 : Value).ownBlock ∧ some k_ ≠ (.slice Ao18 t361.length co18 : Value).ownBlock ∧ some k_ ≠ (.slice Ao24 t366.length co24 : Value).ownBlock ∧ some k_ ≠ (.slice Ao27 t369.length co27 : Value).ownBlock ∧ some k_ ≠ (.slice Ao34 t374.length co34 : Value).ownBlock ∧ some k_ ≠ (.slice Ao50 t383.length co50 : Value).ownBlock) (.slice Ao44 t379.length co44) t379) := hW_ ▸ ⟨by (with_reducible repeat (first | apply Kd.R_alloc | apply Kd.R_drewN | apply Kd.R_drew)); exact Kd.R_mono (Kd.R_far (p := ⟨gb387, 1, none⟩) (Kd.R_far (p := ⟨gb387, 0, none⟩) (Kd.R_far (p := ⟨gb386, 1, none⟩) (Kd.R_far (p := ⟨gb386, 0, none⟩) (Kd.R_types (Kd.R_types HO381.out BK386.out (by decide)) BK387.out (by decide)) (fun _ hk => hk.1.2) (.int .i64 t378)) (fun _ hk => hk.1.2) (.slice Ao44 t379.length co44)) (fun _ hk => hk.2) (.int .i64 t382)) (fun _ hk => hk.2) (.slice Ao50 t383.length co50)) (fun _ hk => ⟨hk.1.1.1.1.1.1.2, ⟨hk.1.1.1.1.1.2, ⟨hk.1.1.1.1.2, ⟨hk.1.1.1.2, ⟨hk.1.1.2, hk.1.1.1.1.1.1.1⟩⟩⟩⟩⟩)⟩; have n6_ : Aside0 (Kd.R (Kd.int .i64) 2 w65 w.heap.size (fun k_ => some k_ ≠ (.slice Ao13 t354.length co13 : Value).ownBlock ∧ some k_ ≠ (.slice Ao18 t361.length co18 : Value).ownBlock ∧ some k_ ≠ (.slice Ao24 t366.length co24 : Value).ownBlock ∧ some k_ ≠ (.slice Ao27 t369.length co27 : Value).ownBlock ∧ some k_ ≠ (.slice Ao34 t374.length co34 : Value).ownBlock ∧ some k_ ≠ (.slice Ao44 t379.length co44 : Value).ownBlock) (.slice Ao50 t383.length co50) t383) := hW_ ▸ ⟨by (with_reducible repeat (first | apply Kd.R_alloc | apply Kd.R_drewN | apply Kd.R_drew)); exact Kd.R_mono (Kd.R_far (p := ⟨gb387, 1, none⟩) (Kd.R_far (p := ⟨gb387, 0, none⟩) (Kd.R_far (p := ⟨gb386, 1, none⟩) (Kd.R_far (p := ⟨gb386, 0, none⟩) (Kd.R_types (Kd.R_types HO385.out BK386.out (by decide)) BK387.out (by decide)) (fun _ hk => hk.1.2) (.int .i64 t378)) (fun _ hk => hk.1.2) (.slice Ao44 t379.length co44)) (fun _ hk => hk.2) (.int .i64 t382)) (fun _ hk => hk.2) (.slice Ao50 t383.length co50)) (fun _ hk => ⟨hk.1.1.1.1.1.1.2, ⟨hk.1.1.1.1.1.2, ⟨hk.1.1.1.1.2, ⟨hk.1.1.1.2, ⟨hk.1.1.2, hk.1.1.1.1.1.1.1⟩⟩⟩⟩⟩)⟩; have n7_ : Aside0 (w65.heap[gb358]? = some (.cells #[.int .i64 t353, .slice Ao13 t354.length co13] 26 (0, 0))) := hW_ ▸ ⟨by (with_reducible repeat (first | refine blk_drewN ?_ _ | refine blk_drew ?_ | refine blk_alloc ?_ _)); refine blk_far ?_ NB358_387.out _; (with_reducible repeat (first | refine blk_drewN ?_ _ | refine blk_drew ?_ | refine blk_alloc ?_ _)); refine blk_far ?_ NB358_387.out _; (with_reducible repeat (first | refine blk_drewN ?_ _ | refine blk_drew ?_ | refine blk_alloc ?_ _)); refine blk_far ?_ NB358_386.out _; (with_reducible repeat (first | refine blk_drewN ?_ _ | refine blk_drew ?_ | refine blk_alloc ?_ _)); refine blk_far ?_ NB358_386.out _; (with_reducible repeat (first | refine blk_drewN ?_ _ | refine blk_drew ?_ | refine blk_alloc ?_ _)); exact BK358.out⟩; have n8_ : Aside0 (w65.heap[gb364]? = some (.cells #[.int .i64 t359, .int .i64 t360, .slice Ao18 t361.length co18] 30 (0, 0))) := hW_ ▸ ⟨by (with_reducible repeat (first | refine blk_drewN ?_ _ | refine blk_drew ?_ | refine blk_alloc ?_ _)); refine blk_far ?_ NB364_387.out _; (with_reducible repeat (first | refine blk_drewN ?_ _ | refine blk_drew ?_ | refine blk_alloc ?_ _)); refine blk_far ?_ NB364_387.out _; (with_reducible repeat (first | refine blk_drewN ?_ _ | refine blk_drew ?_ | refine blk_alloc ?_ _)); refine blk_far ?_ NB364_386.out _; (with_reducible repeat (first | refine blk_drewN ?_ _ | refine blk_drew ?_ | refine blk_alloc ?_ _)); refine blk_far ?_ NB364_386.out _; (with_reducible repeat (first | refine blk_drewN ?_ _ | refine blk_drew ?_ | refine blk_alloc ?_ _)); exact BK364.out⟩; have n9_ : Aside0 (w65.heap[gb372]? = some (.cells #[.int .i64 t365, .slice Ao24 t366.length co24] 26 (0, 0))) := hW_ ▸ ⟨by (with_reducible repeat (first | refine blk_drewN ?_ _ | refine blk_drew ?_ | refine blk_alloc ?_ _)); refine blk_far ?_ NB372_387.out _; (with_reducible repeat (first | refine blk_drewN ?_ _ | refine blk_drew ?_ | refine blk_alloc ?_ _)); refine blk_far ?_ NB372_387.out _; (with_reducible repeat (first | refine blk_drewN ?_ _ | refine blk_drew ?_ | refine blk_alloc ?_ _)); refine blk_far ?_ NB372_386.out _; (with_reducible repeat (first | refine blk_drewN ?_ _ | refine blk_drew ?_ | refine blk_alloc ?_ _)); refine blk_far ?_ NB372_386.out _; (with_reducible repeat (first | refine blk_drewN ?_ _ | refine blk_drew ?_ | refine blk_alloc ?_ _)); exact BK372.out⟩; have n10_ : Aside0 (w65.heap[gb377]? = some (.cells #[.int .i64 t373, .slice Ao34 t374.length co34] 35 (0, 0))) := hW_ ▸ ⟨by (with_reducible repeat (first | refine blk_drewN ?_ _ | refine blk_drew ?_ | refine blk_alloc ?_ _)); refine blk_far ?_ NB377_387.out _; (with_reducible repeat (first | refine blk_drewN ?_ _ | refine blk_drew ?_ | refine blk_alloc ?_ _)); refine blk_far ?_ NB377_387.out _; (with_reducible repeat (first | refine blk_drewN ?_ _ | refine blk_drew ?_ | refine blk_alloc ?_ _)); refine blk_far ?_ NB377_386.out _; (with_reducible repeat (first | refine blk_drewN ?_ _ | refine blk_drew ?_ | refine blk_alloc ?_ _)); refine blk_far ?_ NB377_386.out _; (with_reducible repeat (first | refine blk_drewN ?_ _ | refine blk_drew ?_ | refine blk_alloc ?_ _)); exact BK377.out⟩; have n11_ : Aside0 (w65.heap[gb386]? = some (.cells #[.int .i64 t378, .slice Ao44 t379.length co44] 26 (0, 0))) := hW_ ▸ ⟨by (with_reducible repeat (first | refine blk_drewN ?_ _ | refine blk_drew ?_ | refine blk_alloc ?_ _)); refine blk_far ?_ NB386_387.out _; (with_reducible repeat (first | refine blk_drewN ?_ _ | refine blk_drew ?_ | refine blk_alloc ?_ _)); refine blk_far ?_ NB386_387.out _; (with_reducible repeat (first | refine blk_drewN ?_ _ | refine blk_drew ?_ | refine blk_alloc ?_ _)); refine blk_put (cs := #[.int .i64 t378, .slice none 0 0]) ?_ 1 _ rfl; (with_reducible repeat (first | refine blk_drewN ?_ _ | refine blk_drew ?_ | refine blk_alloc ?_ _)); refine blk_put (cs := #[.int .i64 0, .slice none 0 0]) ?_ 0 _ rfl; (with_reducible repeat (first | refine blk_drewN ?_ _ | refine blk_drew ?_ | refine blk_alloc ?_ _)); exact BK386.out⟩; have n12_ : Aside0 (w65.heap[gb387]? = some (.cells #[.int .i64 t382, .slice Ao50 t383.length co50] 26 (0, 0))) := hW_ ▸ ⟨by (with_reducible repeat (first | refine blk_drewN ?_ _ | refine blk_drew ?_ | refine blk_alloc ?_ _)); refine blk_put (cs := #[.int .i64 t382, .slice none 0 0]) ?_ 1 _ rfl; (with_reducible repeat (first | refine blk_drewN ?_ _ | refine blk_drew ?_ | refine blk_alloc ?_ _)); refine blk_put (cs := #[.int .i64 0, .slice none 0 0]) ?_ 0 _ rfl; (with_reducible repeat (first | refine blk_drewN ?_ _ | refine blk_drew ?_ | refine blk_alloc ?_ _)); refine blk_far ?_ NB387_386.out _; (with_reducible repeat (first | refine blk_drewN ?_ _ | refine blk_drew ?_ | refine blk_alloc ?_ _)); refine blk_far ?_ NB387_386.out _; (with_reducible repeat (first | refine blk_drewN ?_ _ | refine blk_drew ?_ | refine blk_alloc ?_ _)); exact BK387.out⟩; have n13_ : Aside0 (Below w.heap.size w w65) := hW_ ▸ ⟨below_a⟩; (try clear HO356); (try clear HO363); (try clear HO368); (try clear HO371); (try clear HO376); (try clear HO381); (try clear HO385); (try clear BK358); (try clear BK364); (try clear BK372); (try clear BK377); (try clear BK386); (try clear BK387); (try clear HB); clear hW_; have HO356 := n0_; have HO363 := n1_; have HO368 := n2_; have HO371 := n3_; have HO376 := n4_; have HO381 := n5_; have HO385 := n6_; have BK358 := n7_; have BK364 := n8_; have BK372 := n9_; have BK377 := n10_; have BK386 := n11_; have BK387 := n12_; have HB := n13_; clear n0_ n1_ n2_ n3_ n4_ n5_ n6_ n7_ n8_ n9_ n10_ n11_ n12_ n13_; replace HO356 := Aside0.mk (Kd.R_drew HO356.out); replace HO363 := Aside0.mk (Kd.R_drew HO363.out); replace HO368 := Aside0.mk (Kd.R_drew HO368.out); replace HO371 := Aside0.mk (Kd.R_drew HO371.out); replace HO376 := Aside0.mk (Kd.R_drew HO376.out); replace HO381 := Aside0.mk (Kd.R_drew HO381.out); replace HO385 := Aside0.mk (Kd.R_drew HO385.out); replace BK358 := Aside0.mk (blk_drew BK358.out); replace BK364 := Aside0.mk (blk_drew BK364.out); replace BK372 := Aside0.mk (blk_drew BK372.out); replace BK377 := Aside0.mk (blk_drew BK377.out); replace BK386 := Aside0.mk (blk_drew BK386.out); replace BK387 := Aside0.mk (blk_drew BK387.out); replace HB := Aside0.mk (below_drew1 HB.out); refine start_ (n := 51) (S := fun w' => w'.cell? ⟨gb364, 0, none⟩ = some (.int .i64 t359) ∧ w'.cell? ⟨gb364, 1, none⟩ = some (.int .i64 t360) ∧ w'.cell? ⟨gb364, 2, none⟩ = some (.slice Ao18 t361.length co18) ∧ w'.cell? ⟨gb358, 0, none⟩ = some (.int .i64 t353) ∧ w'.cell? ⟨gb358, 1, none⟩ = some (.slice Ao13 t354.length co13) ∧ w'.cell? ⟨gb377, 0, none⟩ = some (.int .i64 t373) ∧ w'.cell? ⟨gb377, 1, none⟩ = some (.slice Ao34 t374.length co34) ∧ w'.cell? ⟨gb372, 0, none⟩ = some (.int .i64 t365) ∧ w'.cell? ⟨gb372, 1, none⟩ = some (.slice Ao24 t366.length co24) ∧ w'.cell? ⟨gb386, 0, none⟩ = some (.int .i64 t378) ∧ w'.cell? ⟨gb386, 1, none⟩ = some (.slice Ao44 t379.length co44) ∧ w'.cell? ⟨gb387, 0, none⟩ = some (.int .i64 t382) ∧ w'.cell? ⟨gb387, 1, none⟩ = some (.slice Ao50 t383.length co50)) (ds := []) #[Z',Z',Z',Z',Z',Z',Z',Z',Z',Z',Z',Z',Z',Z',Z',Z',Z',Z',Z',Z',Z',Z',Z',Z',Z',Z',Z',Z',Z',Z',Z',Z',Z',Z',Z',Z',Z',Z',Z',Z',Z',Z',Z',Z',Z',Z',Z',Z',Z',Z',Z'] (by kernel_rfl) rfl rfl ⟨(blk_cell BK364.out 0).trans rfl, (blk_cell BK364.out 1).trans rfl, (blk_cell BK364.out 2).trans rfl, (blk_cell BK358.out 0).trans rfl, (blk_cell BK358.out 1).trans rfl, (blk_cell BK377.out 0).trans rfl, (blk_cell BK377.out 1).trans rfl, (blk_cell BK372.out 0).trans rfl, (blk_cell BK372.out 1).trans rfl, (blk_cell BK386.out 0).trans rfl, (blk_cell BK386.out 1).trans rfl, (blk_cell BK387.out 0).trans rfl, (blk_cell BK387.out 1).trans rfl⟩ (fun hHeld => ?_); refine with_tabW laws_FnWindows.tab8 laws_FnWindows.bits8 (fun HT_ HW_ => ?_); generalize w65.drew = w66 at HO356 HO363 HO368 HO371 HO376 HO381 HO385 BK358 BK364 BK372 BK377 BK386 BK387 HB hHeld ⊢; refine pure_ (i := 0) (N := some 39) (v := ?_) (a' := ?_) #[Y',Z',Z',Z',Z',Z',Z',Z',Z',Z',Z',Z',Z',Z',Z',Z',Z',Z',Z',Z',Z',Z',Z',Z',Z',Z',Z',Z',Z',Z',Z',Z',Z',Z',Z',Z',Z',Z',Z',Z',Z',Z',Z',Z',Z',Z',Z',Z',Z',Z',Z'] rfl rfl (any_of HT_.out (by kernel_rfl)) (fun _ _ _ h => h) (Or.inl ⟨by rfl, ?_⟩) ?_ ?_; rotate_left
        ·
         intro w'
         go_simp
         with_reducible rfl
        rotate_left
        ·
         simp only [Act.put, List.setIfInBounds_toArray, List.set_cons_zero, List.set_cons_succ, i64_w, i32_w]; rfl
        refine pure_ (i := 3) (N := some 42) (v := ?_) (a' := ?_) #[Y',Z',Z',Y',Z',Z',Z',Z',Z',Z',Z',Z',Z',Z',Z',Z',Z',Z',Z',Z',Z',Z',Z',Z',Z',Z',Z',Z',Z',Z',Z',Z',Z',Z',Z',Z',Z',Z',Z',Z',Z',Z',Z',Z',Z',Z',Z',Z',Z',Z',Z'] rfl rfl (any_of HT_.out (by kernel_rfl)) (fun _ _ _ h => h) (Or.inl ⟨by rfl, ?_⟩) ?_ ?_; rotate_left
        ·
         intro w'
         go_simp
         with_reducible rfl
        rotate_left
        ·
         simp only [Act.put, List.setIfInBounds_toArray, List.set_cons_zero, List.set_cons_succ, i64_w, i32_w]; rfl
        refine take_ (i := 1) (N := some 40) (v := ?_) (a' := ?_) #[Y',Y',Z',Y',Z',Z',Z',Z',Z',Z',Z',Z',Z',Z',Z',Z',Z',Z',Z',Z',Z',Z',Z',Z',Z',Z',Z',Z',Z',Z',Z',Z',Z',Z',Z',Z',Z',Z',Z',Z',Z',Z',Z',Z',Z',Z',Z',Z',Z',Z',Z'] rfl rfl (take_ofW HT_.out HW_.out (by kernel_rfl)) (fun _ _ _ h => h) (Or.inl ⟨by rfl, ?_⟩) hHeld ?_ ?_; rotate_left
        ·
         rintro w' ⟨s0, s1, s2, s3, s4, s5, s6, s7, s8, s9, s10, s11, s12⟩
         go_simp
         with_reducible rfl
        rotate_left
        ·
         simp only [Act.put, List.setIfInBounds_toArray, List.set_cons_zero, List.set_cons_succ, i64_w, i32_w]; rfl
        refine take_ (i := 2) (N := some 41) (v := ?_) (a' := ?_) #[Y',Y',Y',Y',Z',Z',Z',Z',Z',Z',Z',Z',Z',Z',Z',Z',Z',Z',Z',Z',Z',Z',Z',Z',Z',Z',Z',Z',Z',Z',Z',Z',Z',Z',Z',Z',Z',Z',Z',Z',Z',Z',Z',Z',Z',Z',Z',Z',Z',Z',Z'] rfl rfl (take_ofW HT_.out HW_.out (by kernel_rfl)) (fun _ _ _ h => h) (Or.inl ⟨by rfl, ?_⟩) hHeld ?_ ?_; rotate_left
        ·
         rintro w' ⟨s0, s1, s2, s3, s4, s5, s6, s7, s8, s9, s10, s11, s12⟩
         go_simp
         with_reducible rfl
        rotate_left
        ·
         simp only [Act.put, List.setIfInBounds_toArray, List.set_cons_zero, List.set_cons_succ, i64_w, i32_w]; rfl
        refine one_ (i := 4) (N := some 43) #[Y',Y',Y',Y',Y',Z',Z',Z',Z',Z',Z',Z',Z',Z',Z',Z',Z',Z',Z',Z',Z',Z',Z',Z',Z',Z',Z',Z',Z',Z',Z',Z',Z',Z',Z',Z',Z',Z',Z',Z',Z',Z',Z',Z',Z',Z',Z',Z',Z',Z',Z'] rfl rfl (one_of HT_.out (by kernel_rfl)) (by decide) (fun K hK => ?_); refine goes_ Try.func13 (by kernel_rfl) rfl #[.agg #[.int .i64 t353, .slice Ao13 t354.length co13], .int .i64 t357] (by rfl) rfl rfl args_a ?_
        with_reducible refine (spec_TakeCounter.calls k t353 _ _ t354 t357 t388 t389 t390 _ ?side1 ?side2 A51.out).mono ?_
        (case side1 => repeat (first | exact (Kd.R_reads' HO356.out).2.2 | (with_reducible refine Kd.C_alloc ?_ _) | (with_reducible refine Kd.C_drewN ?_ _) | (with_reducible refine Kd.C_drew ?_))); (case side2 => exact (Kd.R_reads' HO356.out).2.1); rintro e w67 ⟨v391, rfl, ho0, hb⟩; refine ⟨_, rfl, ?_⟩; have n0_ := Aside0.mk (Kd.R_elder' (R_a HO356.out) (Kd.R_base ho0) hb); have n1_ := Aside0.mk (Kd.R_elder' (R_a HO363.out) (Kd.R_base ho0) hb); have n2_ := Aside0.mk (Kd.R_elder' (R_a HO368.out) (Kd.R_base ho0) hb); have n3_ := Aside0.mk (Kd.R_elder' (R_a HO371.out) (Kd.R_base ho0) hb); have n4_ := Aside0.mk (Kd.R_elder' (R_a HO376.out) (Kd.R_base ho0) hb); have n5_ := Aside0.mk (Kd.R_elder' (R_a HO381.out) (Kd.R_base ho0) hb); have n6_ := Aside0.mk (Kd.R_elder' (R_a HO385.out) (Kd.R_base ho0) hb); have HO392 := Aside0.mk (Kd.R_lower (Kd.R_new' (Kd.R_new' (Kd.R_new' (Kd.R_new' (Kd.R_new' (Kd.R_new' (Kd.R_new' ho0 (Kd.R_lt (R_a HO356.out))) (Kd.R_lt (R_a HO363.out))) (Kd.R_lt (R_a HO368.out))) (Kd.R_lt (R_a HO371.out))) (Kd.R_lt (R_a HO376.out))) (Kd.R_lt (R_a HO381.out))) (Kd.R_lt (R_a HO385.out))) (below_size below_a)); replace BK358 := Aside0.mk (blk_below (g := gb358) blk_c hb); replace BK364 := Aside0.mk (blk_below (g := gb364) blk_c hb); replace BK372 := Aside0.mk (blk_below (g := gb372) blk_c hb); replace BK377 := Aside0.mk (blk_below (g := gb377) blk_c hb); replace BK386 := Aside0.mk (blk_below (g := gb386) blk_c hb); replace BK387 := Aside0.mk (blk_below (g := gb387) blk_c hb); replace HB := Aside0.mk (below_step below_a hb); replace HO356 := n0_; replace HO363 := n1_; replace HO368 := n2_; replace HO371 := n3_; replace HO376 := n4_; replace HO381 := n5_; replace HO385 := n6_; clear n0_ n1_ n2_ n3_ n4_ n5_ n6_; (try clear hb); (try clear hb2); (try clear hk); (try clear hi); (try clear ho0); refine hK.out _ _ ⟨(blk_cell BK364.out 0).trans rfl, (blk_cell BK364.out 1).trans rfl, (blk_cell BK364.out 2).trans rfl, (blk_cell BK358.out 0).trans rfl, (blk_cell BK358.out 1).trans rfl, (blk_cell BK377.out 0).trans rfl, (blk_cell BK377.out 1).trans rfl, (blk_cell BK372.out 0).trans rfl, (blk_cell BK372.out 1).trans rfl, (blk_cell BK386.out 0).trans rfl, (blk_cell BK386.out 1).trans rfl, (blk_cell BK387.out 0).trans rfl, (blk_cell BK387.out 1).trans rfl⟩ (fun hHeld => ?_); clear hK K; refine norm_ (a' := ?_) ?_ ?_; rotate_left
        ·
         show Act.put _ (some 43) _ = _; simp only [Act.put, List.setIfInBounds_toArray, List.set_cons_zero, List.set_cons_succ, i64_w, i32_w]; rfl
        refine pure_ (i := 5) (N := some 44) (v := ?_) (a' := ?_) #[Y',Y',Y',Y',Y',Y',Z',Z',Z',Z',Z',Z',Z',Z',Z',Z',Z',Z',Z',Z',Z',Z',Z',Z',Z',Z',Z',Z',Z',Z',Z',Z',Z',Z',Z',Z',Z',Z',Z',Z',Z',Z',Z',Z',Z',Z',Z',Z',Z',Z',Z'] rfl rfl (any_of HT_.out (by kernel_rfl)) (fun _ _ _ h => h) (Or.inl ⟨by rfl, ?_⟩) ?_ ?_; rotate_left
        ·
         intro w'
         go_simp
         with_reducible rfl
        rotate_left
        ·
         simp only [Act.put, List.setIfInBounds_toArray, List.set_cons_zero, List.set_cons_succ, i64_w, i32_w]; rfl
        refine pure_ (i := 6) (N := some 45) (v := ?_) (a' := ?_) #[Y',Y',Y',Y',Y',Y',Y',Z',Z',Z',Z',Z',Z',Z',Z',Z',Z',Z',Z',Z',Z',Z',Z',Z',Z',Z',Z',Z',Z',Z',Z',Z',Z',Z',Z',Z',Z',Z',Z',Z',Z',Z',Z',Z',Z',Z',Z',Z',Z',Z',Z'] rfl rfl (any_of HT_.out (by kernel_rfl)) (fun _ _ _ h => h) (Or.inl ⟨by rfl, ?_⟩) ?_ ?_; rotate_left
        ·
         intro w'
         go_simp
         with_reducible rfl
        rotate_left
        ·
         simp only [Act.put, List.setIfInBounds_toArray, List.set_cons_zero, List.set_cons_succ, i64_w, i32_w]; rfl
        refine pure_ (i := 7) (N := some 46) (v := ?_) (a' := ?_) #[Y',Y',Y',Y',Y',Y',Y',Y',Z',Z',Z',Z',Z',Z',Z',Z',Z',Z',Z',Z',Z',Z',Z',Z',Z',Z',Z',Z',Z',Z',Z',Z',Z',Z',Z',Z',Z',Z',Z',Z',Z',Z',Z',Z',Z',Z',Z',Z',Z',Z',Z'] rfl rfl (any_of HT_.out (by kernel_rfl)) (fun _ _ _ h => h) (Or.inl ⟨by rfl, ?_⟩) ?_ ?_; rotate_left
        ·
         intro w'
         go_simp
         with_reducible rfl
        rotate_left
        ·
         simp only [Act.put, List.setIfInBounds_toArray, List.set_cons_zero, List.set_cons_succ, i64_w, i32_w]; rfl
        refine pure_ (i := 8) (N := some 47) (v := ?_) (a' := ?_) #[Y',Y',Y',Y',Y',Y',Y',Y',Y',Z',Z',Z',Z',Z',Z',Z',Z',Z',Z',Z',Z',Z',Z',Z',Z',Z',Z',Z',Z',Z',Z',Z',Z',Z',Z',Z',Z',Z',Z',Z',Z',Z',Z',Z',Z',Z',Z',Z',Z',Z',Z'] rfl rfl (any_of HT_.out (by kernel_rfl)) (fun _ _ _ h => h) (Or.inl ⟨by rfl, ?_⟩) ?_ ?_; rotate_left
        ·
         intro w'
         go_simp
         with_reducible rfl
        rotate_left
        ·
         simp only [Act.put, List.setIfInBounds_toArray, List.set_cons_zero, List.set_cons_succ, i64_w, i32_w]; rfl
        refine pure_ (i := 11) (N := some 50) (v := ?_) (a' := ?_) #[Y',Y',Y',Y',Y',Y',Y',Y',Y',Z',Z',Y',Z',Z',Z',Z',Z',Z',Z',Z',Z',Z',Z',Z',Z',Z',Z',Z',Z',Z',Z',Z',Z',Z',Z',Z',Z',Z',Z',Z',Z',Z',Z',Z',Z',Z',Z',Z',Z',Z',Z'] rfl rfl (any_of HT_.out (by kernel_rfl)) (fun _ _ _ h => h) (Or.inl ⟨by rfl, ?_⟩) ?_ ?_; rotate_left
        ·
         intro w'
         go_simp
         with_reducible rfl
        rotate_left
        ·
         simp only [Act.put, List.setIfInBounds_toArray, List.set_cons_zero, List.set_cons_succ, i64_w, i32_w]; rfl
        refine take_ (i := 9) (N := some 48) (v := ?_) (a' := ?_) #[Y',Y',Y',Y',Y',Y',Y',Y',Y',Y',Z',Y',Z',Z',Z',Z',Z',Z',Z',Z',Z',Z',Z',Z',Z',Z',Z',Z',Z',Z',Z',Z',Z',Z',Z',Z',Z',Z',Z',Z',Z',Z',Z',Z',Z',Z',Z',Z',Z',Z',Z'] rfl rfl (take_ofW HT_.out HW_.out (by kernel_rfl)) (fun _ _ _ h => h) (Or.inl ⟨by rfl, ?_⟩) hHeld ?_ ?_; rotate_left
        ·
         rintro w' ⟨s0, s1, s2, s3, s4, s5, s6, s7, s8, s9, s10, s11, s12⟩
         go_simp
         with_reducible rfl
        rotate_left
        ·
         simp only [Act.put, List.setIfInBounds_toArray, List.set_cons_zero, List.set_cons_succ, i64_w, i32_w]; rfl
        refine take_ (i := 10) (N := some 49) (v := ?_) (a' := ?_) #[Y',Y',Y',Y',Y',Y',Y',Y',Y',Y',Y',Y',Z',Z',Z',Z',Z',Z',Z',Z',Z',Z',Z',Z',Z',Z',Z',Z',Z',Z',Z',Z',Z',Z',Z',Z',Z',Z',Z',Z',Z',Z',Z',Z',Z',Z',Z',Z',Z',Z',Z'] rfl rfl (take_ofW HT_.out HW_.out (by kernel_rfl)) (fun _ _ _ h => h) (Or.inl ⟨by rfl, ?_⟩) hHeld ?_ ?_; rotate_left
        ·
         rintro w' ⟨s0, s1, s2, s3, s4, s5, s6, s7, s8, s9, s10, s11, s12⟩
         go_simp
         with_reducible rfl
        rotate_left
        ·
         simp only [Act.put, List.setIfInBounds_toArray, List.set_cons_zero, List.set_cons_succ, i64_w, i32_w]; rfl
        refine one_ (i := 12) (N := some 51) #[Y',Y',Y',Y',Y',Y',Y',Y',Y',Y',Y',Y',Y',Z',Z',Z',Z',Z',Z',Z',Z',Z',Z',Z',Z',Z',Z',Z',Z',Z',Z',Z',Z',Z',Z',Z',Z',Z',Z',Z',Z',Z',Z',Z',Z',Z',Z',Z',Z',Z',Z'] rfl rfl (one_of HT_.out (by kernel_rfl)) (by decide) (fun K hK => ?_); refine goes_ Try.func14 (by kernel_rfl) rfl #[.agg #[.int .i64 t365, .slice Ao24 t366.length co24], .slice Ao27 t369.length co27] (by rfl) rfl rfl args_a ?_
        with_reducible refine (spec_TakeAll.calls k t365 (fun k_ => some k_ = (.slice Ao24 t366.length co24 : Value).ownBlock) _ _ t366 _ _ t369 t393 t394 _ ?side1 ?side2 ?side3 A53.out).mono ?_
        (case side1 => exact Kd.R_V (Kd.R_tight rfl (Kd.R_types (Kd.R_types (Kd.R_types (Kd.R_types (Kd.R_types (Kd.R_types (HO368.out) BK358.out (by decide)) BK364.out (by decide)) BK372.out (by decide)) BK377.out (by decide)) BK386.out (by decide)) BK387.out (by decide)))); (case side2 => repeat (first | exact (Kd.R_reads' HO371.out).2.2 | (with_reducible refine Kd.C_alloc ?_ _) | (with_reducible refine Kd.C_drewN ?_ _) | (with_reducible refine Kd.C_drew ?_))); (case side3 => exact (Kd.R_reads' HO371.out).2.1); rintro e w68 ⟨v395, rfl, ho0, hb⟩; refine ⟨_, rfl, ?_⟩; have n0_ := Aside0.mk (Kd.R_elder' (R_a HO356.out) (Kd.R_base ho0) hb); have n1_ := Aside0.mk (Kd.R_elder' (R_a HO363.out) (Kd.R_base ho0) hb); have n2_ := Aside0.mk (Kd.R_elder' (R_a HO368.out) (Kd.R_base ho0) hb); have n3_ := Aside0.mk (Kd.R_elder' (R_a HO371.out) (Kd.R_base ho0) hb); have n4_ := Aside0.mk (Kd.R_elder' (R_a HO376.out) (Kd.R_base ho0) hb); have n5_ := Aside0.mk (Kd.R_elder' (R_a HO381.out) (Kd.R_base ho0) hb); have n6_ := Aside0.mk (Kd.R_elder' (R_a HO385.out) (Kd.R_base ho0) hb); have n7_ := Aside0.mk (Kd.R_elder' (R_a HO392.out) (Kd.R_base ho0) hb); have HO396 := Aside0.mk (Kd.R_lower (Kd.R_new' (Kd.R_new' (Kd.R_new' (Kd.R_new' (Kd.R_new' (Kd.R_new' (Kd.R_new' (Kd.R_new' (Kd.R_mono (ok' := fun k_ => True) ho0 (fun _ hk_ => trivial)) (Kd.R_lt (R_a HO356.out))) (Kd.R_lt (R_a HO363.out))) (Kd.R_lt (R_a HO368.out))) (Kd.R_lt (R_a HO371.out))) (Kd.R_lt (R_a HO376.out))) (Kd.R_lt (R_a HO381.out))) (Kd.R_lt (R_a HO385.out))) (Kd.R_lt (R_a HO392.out))) (below_size below_a)); replace BK358 := Aside0.mk (blk_below (g := gb358) blk_c hb); replace BK364 := Aside0.mk (blk_below (g := gb364) blk_c hb); replace BK372 := Aside0.mk (blk_below (g := gb372) blk_c hb); replace BK377 := Aside0.mk (blk_below (g := gb377) blk_c hb); replace BK386 := Aside0.mk (blk_below (g := gb386) blk_c hb); replace BK387 := Aside0.mk (blk_below (g := gb387) blk_c hb); replace HB := Aside0.mk (below_step below_a hb); replace HO356 := n0_; replace HO363 := n1_; replace HO368 := n2_; replace HO371 := n3_; replace HO376 := n4_; replace HO381 := n5_; replace HO385 := n6_; replace HO392 := n7_; clear n0_ n1_ n2_ n3_ n4_ n5_ n6_ n7_; (try clear hb); (try clear hb2); (try clear hk); (try clear hi); (try clear ho0); refine hK.out _ _ ⟨(blk_cell BK364.out 0).trans rfl, (blk_cell BK364.out 1).trans rfl, (blk_cell BK364.out 2).trans rfl, (blk_cell BK358.out 0).trans rfl, (blk_cell BK358.out 1).trans rfl, (blk_cell BK377.out 0).trans rfl, (blk_cell BK377.out 1).trans rfl, (blk_cell BK372.out 0).trans rfl, (blk_cell BK372.out 1).trans rfl, (blk_cell BK386.out 0).trans rfl, (blk_cell BK386.out 1).trans rfl, (blk_cell BK387.out 0).trans rfl, (blk_cell BK387.out 1).trans rfl⟩ (fun hHeld => ?_); clear hK K; refine norm_ (a' := ?_) ?_ ?_; rotate_left
        ·
         show Act.put _ (some 51) _ = _; simp only [Act.put, List.setIfInBounds_toArray, List.set_cons_zero, List.set_cons_succ, i64_w, i32_w]; rfl
        refine pure_ (i := 13) (N := some 52) (v := ?_) (a' := ?_) #[Y',Y',Y',Y',Y',Y',Y',Y',Y',Y',Y',Y',Y',Y',Z',Z',Z',Z',Z',Z',Z',Z',Z',Z',Z',Z',Z',Z',Z',Z',Z',Z',Z',Z',Z',Z',Z',Z',Z',Z',Z',Z',Z',Z',Z',Z',Z',Z',Z',Z',Z'] rfl rfl (any_of HT_.out (by kernel_rfl)) (fun _ _ _ h => h) (Or.inl ⟨by rfl, ?_⟩) ?_ ?_; rotate_left
        ·
         intro w'
         go_simp
         with_reducible rfl
        rotate_left
        ·
         simp only [Act.put, List.setIfInBounds_toArray, List.set_cons_zero, List.set_cons_succ, i64_w, i32_w]; rfl
        refine pure_ (i := 14) (N := some 53) (v := ?_) (a' := ?_) #[Y',Y',Y',Y',Y',Y',Y',Y',Y',Y',Y',Y',Y',Y',Y',Z',Z',Z',Z',Z',Z',Z',Z',Z',Z',Z',Z',Z',Z',Z',Z',Z',Z',Z',Z',Z',Z',Z',Z',Z',Z',Z',Z',Z',Z',Z',Z',Z',Z',Z',Z'] rfl rfl (any_of HT_.out (by kernel_rfl)) (fun _ _ _ h => h) (Or.inl ⟨by rfl, ?_⟩) ?_ ?_; rotate_left
        ·
         intro w'
         go_simp
         with_reducible rfl
        rotate_left
        ·
         simp only [Act.put, List.setIfInBounds_toArray, List.set_cons_zero, List.set_cons_succ, i64_w, i32_w]; rfl
        refine pure_ (i := 15) (N := some 54) (v := ?_) (a' := ?_) #[Y',Y',Y',Y',Y',Y',Y',Y',Y',Y',Y',Y',Y',Y',Y',Y',Z',Z',Z',Z',Z',Z',Z',Z',Z',Z',Z',Z',Z',Z',Z',Z',Z',Z',Z',Z',Z',Z',Z',Z',Z',Z',Z',Z',Z',Z',Z',Z',Z',Z',Z'] rfl rfl (any_of HT_.out (by kernel_rfl)) (fun _ _ _ h => h) (Or.inl ⟨by rfl, ?_⟩) ?_ ?_; rotate_left
        ·
         intro w'
         go_simp
         with_reducible rfl
        rotate_left
        ·
         simp only [Act.put, List.setIfInBounds_toArray, List.set_cons_zero, List.set_cons_succ, i64_w, i32_w]; rfl
        refine pure_ (i := 16) (N := some 55) (v := ?_) (a' := ?_) #[Y',Y',Y',Y',Y',Y',Y',Y',Y',Y',Y',Y',Y',Y',Y',Y',Y',Z',Z',Z',Z',Z',Z',Z',Z',Z',Z',Z',Z',Z',Z',Z',Z',Z',Z',Z',Z',Z',Z',Z',Z',Z',Z',Z',Z',Z',Z',Z',Z',Z',Z'] rfl rfl (any_of HT_.out (by kernel_rfl)) (fun _ _ _ h => h) (Or.inl ⟨by rfl, ?_⟩) ?_ ?_; rotate_left
        ·
         intro w'
         go_simp
         with_reducible rfl
        rotate_left
        ·
         simp only [Act.put, List.setIfInBounds_toArray, List.set_cons_zero, List.set_cons_succ, i64_w, i32_w]; rfl
        refine pure_ (i := 18) (N := some 57) (v := ?_) (a' := ?_) #[Y',Y',Y',Y',Y',Y',Y',Y',Y',Y',Y',Y',Y',Y',Y',Y',Y',Z',Y',Z',Z',Z',Z',Z',Z',Z',Z',Z',Z',Z',Z',Z',Z',Z',Z',Z',Z',Z',Z',Z',Z',Z',Z',Z',Z',Z',Z',Z',Z',Z',Z'] rfl rfl (any_of HT_.out (by kernel_rfl)) (fun _ _ _ h => h) (Or.inl ⟨by rfl, ?_⟩) ?_ ?_; rotate_left
        ·
         intro w'
         go_simp
         with_reducible rfl
        rotate_left
        ·
         simp only [Act.put, List.setIfInBounds_toArray, List.set_cons_zero, List.set_cons_succ, i64_w, i32_w]; rfl
        refine pure_ (i := 20) (N := some 59) (v := ?_) (a' := ?_) #[Y',Y',Y',Y',Y',Y',Y',Y',Y',Y',Y',Y',Y',Y',Y',Y',Y',Z',Y',Z',Y',Z',Z',Z',Z',Z',Z',Z',Z',Z',Z',Z',Z',Z',Z',Z',Z',Z',Z',Z',Z',Z',Z',Z',Z',Z',Z',Z',Z',Z',Z'] rfl rfl (any_of HT_.out (by kernel_rfl)) (fun _ _ _ h => h) (Or.inl ⟨by rfl, ?_⟩) ?_ ?_; rotate_left
        ·
         intro w'
         go_simp
         with_reducible rfl
        rotate_left
        ·
         simp only [Act.put, List.setIfInBounds_toArray, List.set_cons_zero, List.set_cons_succ, i64_w, i32_w]; rfl
        refine take_ (i := 17) (N := some 56) (v := ?_) (a' := ?_) #[Y',Y',Y',Y',Y',Y',Y',Y',Y',Y',Y',Y',Y',Y',Y',Y',Y',Y',Y',Z',Y',Z',Z',Z',Z',Z',Z',Z',Z',Z',Z',Z',Z',Z',Z',Z',Z',Z',Z',Z',Z',Z',Z',Z',Z',Z',Z',Z',Z',Z',Z'] rfl rfl (take_ofW HT_.out HW_.out (by kernel_rfl)) (fun _ _ _ h => h) (Or.inl ⟨by rfl, ?_⟩) hHeld ?_ ?_; rotate_left
        ·
         rintro w' ⟨s0, s1, s2, s3, s4, s5, s6, s7, s8, s9, s10, s11, s12⟩
         go_simp
         with_reducible rfl
        rotate_left
        ·
         simp only [Act.put, List.setIfInBounds_toArray, List.set_cons_zero, List.set_cons_succ, i64_w, i32_w]; rfl
        refine take_ (i := 21) (N := some 60) (v := ?_) (a' := ?_) #[Y',Y',Y',Y',Y',Y',Y',Y',Y',Y',Y',Y',Y',Y',Y',Y',Y',Y',Y',Z',Y',Y',Z',Z',Z',Z',Z',Z',Z',Z',Z',Z',Z',Z',Z',Z',Z',Z',Z',Z',Z',Z',Z',Z',Z',Z',Z',Z',Z',Z',Z'] rfl rfl (take_ofW HT_.out HW_.out (by kernel_rfl)) (fun _ _ _ h => h) (Or.inl ⟨by rfl, ?_⟩) hHeld ?_ ?_; rotate_left
        ·
         rintro w' ⟨s0, s1, s2, s3, s4, s5, s6, s7, s8, s9, s10, s11, s12⟩
         go_simp
         with_reducible rfl
        rotate_left
        ·
         simp only [Act.put, List.setIfInBounds_toArray, List.set_cons_zero, List.set_cons_succ, i64_w, i32_w]; rfl
        refine pure_ (i := 22) (N := some 61) (v := ?_) (a' := ?_) #[Y',Y',Y',Y',Y',Y',Y',Y',Y',Y',Y',Y',Y',Y',Y',Y',Y',Y',Y',Z',Y',Y',Y',Z',Z',Z',Z',Z',Z',Z',Z',Z',Z',Z',Z',Z',Z',Z',Z',Z',Z',Z',Z',Z',Z',Z',Z',Z',Z',Z',Z'] rfl rfl (any_of HT_.out (by kernel_rfl)) (fun _ _ _ h => h) (Or.inl ⟨by rfl, ?_⟩) ?_ ?_; rotate_left
        ·
         intro w'
         go_simp
         with_reducible rfl
        rotate_left
        ·
         simp only [Act.put, List.setIfInBounds_toArray, List.set_cons_zero, List.set_cons_succ, i64_w, i32_w]; rfl
        refine one_ (i := 19) (N := some 58) #[Y',Y',Y',Y',Y',Y',Y',Y',Y',Y',Y',Y',Y',Y',Y',Y',Y',Y',Y',Y',Y',Y',Y',Z',Z',Z',Z',Z',Z',Z',Z',Z',Z',Z',Z',Z',Z',Z',Z',Z',Z',Z',Z',Z',Z',Z',Z',Z',Z',Z',Z'] rfl rfl (one_of HT_.out (by kernel_rfl)) (by decide) (fun K hK => ?_); refine goes_ Try.func15 (by kernel_rfl) rfl #[.agg #[.int .i64 t353, .slice Ao13 t354.length co13], .int .i64 t357] (by rfl) rfl rfl args_a ?_
        with_reducible refine (impl_IsNews.calls k t353 _ _ t354 t357 t397 _ ?side1 ?side2 A55.out).mono ?_
        (case side1 => repeat (first | exact (Kd.R_reads' HO356.out).2.2 | (with_reducible refine Kd.C_alloc ?_ _) | (with_reducible refine Kd.C_drewN ?_ _) | (with_reducible refine Kd.C_drew ?_))); (case side2 => exact (Kd.R_reads' HO356.out).2.1); rintro e w69 ⟨rfl, hb⟩; refine ⟨_, rfl, ?_⟩; replace HO356 := Aside0.mk (Kd.R_below (R_a HO356.out) hb); replace HO363 := Aside0.mk (Kd.R_below (R_a HO363.out) hb); replace HO368 := Aside0.mk (Kd.R_below (R_a HO368.out) hb); replace HO371 := Aside0.mk (Kd.R_below (R_a HO371.out) hb); replace HO376 := Aside0.mk (Kd.R_below (R_a HO376.out) hb); replace HO381 := Aside0.mk (Kd.R_below (R_a HO381.out) hb); replace HO385 := Aside0.mk (Kd.R_below (R_a HO385.out) hb); replace HO392 := Aside0.mk (Kd.R_below (R_a HO392.out) hb); replace HO396 := Aside0.mk (Kd.R_below (R_a HO396.out) hb); replace BK358 := Aside0.mk (blk_below (g := gb358) blk_c hb); replace BK364 := Aside0.mk (blk_below (g := gb364) blk_c hb); replace BK372 := Aside0.mk (blk_below (g := gb372) blk_c hb); replace BK377 := Aside0.mk (blk_below (g := gb377) blk_c hb); replace BK386 := Aside0.mk (blk_below (g := gb386) blk_c hb); replace BK387 := Aside0.mk (blk_below (g := gb387) blk_c hb); replace HB := Aside0.mk (below_step below_a hb); (try clear hb); (try clear hb2); (try clear hk); (try clear hi); refine hK.out _ _ ⟨(blk_cell BK364.out 0).trans rfl, (blk_cell BK364.out 1).trans rfl, (blk_cell BK364.out 2).trans rfl, (blk_cell BK358.out 0).trans rfl, (blk_cell BK358.out 1).trans rfl, (blk_cell BK377.out 0).trans rfl, (blk_cell BK377.out 1).trans rfl, (blk_cell BK372.out 0).trans rfl, (blk_cell BK372.out 1).trans rfl, (blk_cell BK386.out 0).trans rfl, (blk_cell BK386.out 1).trans rfl, (blk_cell BK387.out 0).trans rfl, (blk_cell BK387.out 1).trans rfl⟩ (fun hHeld => ?_); clear hK K; refine norm_ (a' := ?_) ?_ ?_; rotate_left
        ·
         show Act.put _ (some 58) _ = _; simp only [Act.put, List.setIfInBounds_toArray, List.set_cons_zero, List.set_cons_succ, i64_w, i32_w]; rfl
        refine pure_ (i := 23) (N := some 62) (v := ?_) (a' := ?_) #[Y',Y',Y',Y',Y',Y',Y',Y',Y',Y',Y',Y',Y',Y',Y',Y',Y',Y',Y',Y',Y',Y',Y',Y',Z',Z',Z',Z',Z',Z',Z',Z',Z',Z',Z',Z',Z',Z',Z',Z',Z',Z',Z',Z',Z',Z',Z',Z',Z',Z',Z'] rfl rfl (any_of HT_.out (by kernel_rfl)) (fun _ _ _ h => h) (Or.inl ⟨by rfl, ?_⟩) ?_ ?_; rotate_left
        ·
         intro w'
         go_simp
         with_reducible rfl
        rotate_left
        ·
         simp only [Act.put, List.setIfInBounds_toArray, List.set_cons_zero, List.set_cons_succ, i64_w, i32_w]; rfl
        refine pure_ (i := 24) (N := some 63) (v := ?_) (a' := ?_) #[Y',Y',Y',Y',Y',Y',Y',Y',Y',Y',Y',Y',Y',Y',Y',Y',Y',Y',Y',Y',Y',Y',Y',Y',Y',Z',Z',Z',Z',Z',Z',Z',Z',Z',Z',Z',Z',Z',Z',Z',Z',Z',Z',Z',Z',Z',Z',Z',Z',Z',Z'] rfl rfl (any_of HT_.out (by kernel_rfl)) (fun _ _ _ h => h) (Or.inl ⟨by rfl, ?_⟩) ?_ ?_; rotate_left
        ·
         intro w'
         go_simp
         with_reducible rfl
        rotate_left
        ·
         simp only [Act.put, List.setIfInBounds_toArray, List.set_cons_zero, List.set_cons_succ, i64_w, i32_w]; rfl
        refine pure_ (i := 25) (N := some 64) (v := ?_) (a' := ?_) #[Y',Y',Y',Y',Y',Y',Y',Y',Y',Y',Y',Y',Y',Y',Y',Y',Y',Y',Y',Y',Y',Y',Y',Y',Y',Y',Z',Z',Z',Z',Z',Z',Z',Z',Z',Z',Z',Z',Z',Z',Z',Z',Z',Z',Z',Z',Z',Z',Z',Z',Z'] rfl rfl (any_of HT_.out (by kernel_rfl)) (fun _ _ _ h => h) (Or.inl ⟨by rfl, ?_⟩) ?_ ?_; rotate_left
        ·
         intro w'
         go_simp
         with_reducible rfl
        rotate_left
        ·
         simp only [Act.put, List.setIfInBounds_toArray, List.set_cons_zero, List.set_cons_succ, i64_w, i32_w]; rfl
        refine take_ (i := 26) (N := some 65) (v := ?_) (a' := ?_) #[Y',Y',Y',Y',Y',Y',Y',Y',Y',Y',Y',Y',Y',Y',Y',Y',Y',Y',Y',Y',Y',Y',Y',Y',Y',Y',Y',Z',Z',Z',Z',Z',Z',Z',Z',Z',Z',Z',Z',Z',Z',Z',Z',Z',Z',Z',Z',Z',Z',Z',Z'] rfl rfl (take_ofW HT_.out HW_.out (by kernel_rfl)) (fun _ _ _ h => h) (Or.inl ⟨by rfl, ?_⟩) hHeld ?_ ?_; rotate_left
        ·
         rintro w' ⟨s0, s1, s2, s3, s4, s5, s6, s7, s8, s9, s10, s11, s12⟩
         go_simp
         with_reducible rfl
        rotate_left
        ·
         simp only [Act.put, List.setIfInBounds_toArray, List.set_cons_zero, List.set_cons_succ, i64_w, i32_w]; rfl
        refine take_ (i := 28) (N := some 67) (v := ?_) (a' := ?_) #[Y',Y',Y',Y',Y',Y',Y',Y',Y',Y',Y',Y',Y',Y',Y',Y',Y',Y',Y',Y',Y',Y',Y',Y',Y',Y',Y',Z',Y',Z',Z',Z',Z',Z',Z',Z',Z',Z',Z',Z',Z',Z',Z',Z',Z',Z',Z',Z',Z',Z',Z'] rfl rfl (take_ofW HT_.out HW_.out (by kernel_rfl)) (fun _ _ _ h => h) (Or.inl ⟨by rfl, ?_⟩) hHeld ?_ ?_; rotate_left
        ·
         rintro w' ⟨s0, s1, s2, s3, s4, s5, s6, s7, s8, s9, s10, s11, s12⟩
         go_simp
         with_reducible rfl
        rotate_left
        ·
         simp only [Act.put, List.setIfInBounds_toArray, List.set_cons_zero, List.set_cons_succ, i64_w, i32_w]; rfl
        refine one_ (i := 27) (N := some 66) #[Y',Y',Y',Y',Y',Y',Y',Y',Y',Y',Y',Y',Y',Y',Y',Y',Y',Y',Y',Y',Y',Y',Y',Y',Y',Y',Y',Y',Y',Z',Z',Z',Z',Z',Z',Z',Z',Z',Z',Z',Z',Z',Z',Z',Z',Z',Z',Z',Z',Z',Z'] rfl rfl (one_of HT_.out (by kernel_rfl)) (by decide) (fun K hK => ?_); refine goes_ Try.func16 (by kernel_rfl) rfl #[.agg #[.int .i64 t353, .slice Ao13 t354.length co13]] (by rfl) rfl rfl args_a ?_
        with_reducible refine (impl_WindowFault.calls k t353 _ _ t354 t398 _ ?side1 ?side2 A57.out).mono ?_
        (case side1 => repeat (first | exact (Kd.R_reads' HO356.out).2.2 | (with_reducible refine Kd.C_alloc ?_ _) | (with_reducible refine Kd.C_drewN ?_ _) | (with_reducible refine Kd.C_drew ?_))); (case side2 => exact (Kd.R_reads' HO356.out).2.1); rintro e w70 ⟨rfl, hb⟩; refine ⟨_, rfl, ?_⟩; replace HO356 := Aside0.mk (Kd.R_below (R_a HO356.out) hb); replace HO363 := Aside0.mk (Kd.R_below (R_a HO363.out) hb); replace HO368 := Aside0.mk (Kd.R_below (R_a HO368.out) hb); replace HO371 := Aside0.mk (Kd.R_below (R_a HO371.out) hb); replace HO376 := Aside0.mk (Kd.R_below (R_a HO376.out) hb); replace HO381 := Aside0.mk (Kd.R_below (R_a HO381.out) hb); replace HO385 := Aside0.mk (Kd.R_below (R_a HO385.out) hb); replace HO392 := Aside0.mk (Kd.R_below (R_a HO392.out) hb); replace HO396 := Aside0.mk (Kd.R_below (R_a HO396.out) hb); replace BK358 := Aside0.mk (blk_below (g := gb358) blk_c hb); replace BK364 := Aside0.mk (blk_below (g := gb364) blk_c hb); replace BK372 := Aside0.mk (blk_below (g := gb372) blk_c hb); replace BK377 := Aside0.mk (blk_below (g := gb377) blk_c hb); replace BK386 := Aside0.mk (blk_below (g := gb386) blk_c hb); replace BK387 := Aside0.mk (blk_below (g := gb387) blk_c hb); replace HB := Aside0.mk (below_step below_a hb); (try clear hb); (try clear hb2); (try clear hk); (try clear hi); refine hK.out _ _ ⟨(blk_cell BK364.out 0).trans rfl, (blk_cell BK364.out 1).trans rfl, (blk_cell BK364.out 2).trans rfl, (blk_cell BK358.out 0).trans rfl, (blk_cell BK358.out 1).trans rfl, (blk_cell BK377.out 0).trans rfl, (blk_cell BK377.out 1).trans rfl, (blk_cell BK372.out 0).trans rfl, (blk_cell BK372.out 1).trans rfl, (blk_cell BK386.out 0).trans rfl, (blk_cell BK386.out 1).trans rfl, (blk_cell BK387.out 0).trans rfl, (blk_cell BK387.out 1).trans rfl⟩ (fun hHeld => ?_); clear hK K; refine norm_ (a' := ?_) ?_ ?_; rotate_left
        ·
         show Act.put _ (some 66) _ = _; simp only [Act.put, List.setIfInBounds_toArray, List.set_cons_zero, List.set_cons_succ, i64_w, i32_w]; rfl
        refine one_ (i := 29) (N := some 68) #[Y',Y',Y',Y',Y',Y',Y',Y',Y',Y',Y',Y',Y',Y',Y',Y',Y',Y',Y',Y',Y',Y',Y',Y',Y',Y',Y',Y',Y',Y',Z',Z',Z',Z',Z',Z',Z',Z',Z',Z',Z',Z',Z',Z',Z',Z',Z',Z',Z',Z',Z'] rfl rfl (one_of HT_.out (by kernel_rfl)) (by decide) (fun K hK => ?_); refine goes_ Try.func17 (by kernel_rfl) rfl #[.agg #[.int .i64 t353, .slice Ao13 t354.length co13]] (by rfl) rfl rfl args_a ?_
        with_reducible refine (spec_WindowFault.calls k t353 _ _ t354 t399 _ ?side1 ?side2 A58.out).mono ?_
        (case side1 => repeat (first | exact (Kd.R_reads' HO356.out).2.2 | (with_reducible refine Kd.C_alloc ?_ _) | (with_reducible refine Kd.C_drewN ?_ _) | (with_reducible refine Kd.C_drew ?_))); (case side2 => exact (Kd.R_reads' HO356.out).2.1); rintro e w71 ⟨rfl, hb⟩; refine ⟨_, rfl, ?_⟩; replace HO356 := Aside0.mk (Kd.R_below (R_a HO356.out) hb); replace HO363 := Aside0.mk (Kd.R_below (R_a HO363.out) hb); replace HO368 := Aside0.mk (Kd.R_below (R_a HO368.out) hb); replace HO371 := Aside0.mk (Kd.R_below (R_a HO371.out) hb); replace HO376 := Aside0.mk (Kd.R_below (R_a HO376.out) hb); replace HO381 := Aside0.mk (Kd.R_below (R_a HO381.out) hb); replace HO385 := Aside0.mk (Kd.R_below (R_a HO385.out) hb); replace HO392 := Aside0.mk (Kd.R_below (R_a HO392.out) hb); replace HO396 := Aside0.mk (Kd.R_below (R_a HO396.out) hb); replace BK358 := Aside0.mk (blk_below (g := gb358) blk_c hb); replace BK364 := Aside0.mk (blk_below (g := gb364) blk_c hb); replace BK372 := Aside0.mk (blk_below (g := gb372) blk_c hb); replace BK377 := Aside0.mk (blk_below (g := gb377) blk_c hb); replace BK386 := Aside0.mk (blk_below (g := gb386) blk_c hb); replace BK387 := Aside0.mk (blk_below (g := gb387) blk_c hb); replace HB := Aside0.mk (below_step below_a hb); (try clear hb); (try clear hb2); (try clear hk); (try clear hi); refine hK.out _ _ ⟨(blk_cell BK364.out 0).trans rfl, (blk_cell BK364.out 1).trans rfl, (blk_cell BK364.out 2).trans rfl, (blk_cell BK358.out 0).trans rfl, (blk_cell BK358.out 1).trans rfl, (blk_cell BK377.out 0).trans rfl, (blk_cell BK377.out 1).trans rfl, (blk_cell BK372.out 0).trans rfl, (blk_cell BK372.out 1).trans rfl, (blk_cell BK386.out 0).trans rfl, (blk_cell BK386.out 1).trans rfl, (blk_cell BK387.out 0).trans rfl, (blk_cell BK387.out 1).trans rfl⟩ (fun hHeld => ?_); clear hK K; refine norm_ (a' := ?_) ?_ ?_; rotate_left
        ·
         show Act.put _ (some 68) _ = _; simp only [Act.put, List.setIfInBounds_toArray, List.set_cons_zero, List.set_cons_succ, i64_w, i32_w]; rfl
        refine pure_ (i := 30) (N := some 69) (v := ?_) (a' := ?_) #[Y',Y',Y',Y',Y',Y',Y',Y',Y',Y',Y',Y',Y',Y',Y',Y',Y',Y',Y',Y',Y',Y',Y',Y',Y',Y',Y',Y',Y',Y',Y',Z',Z',Z',Z',Z',Z',Z',Z',Z',Z',Z',Z',Z',Z',Z',Z',Z',Z',Z',Z'] rfl rfl (any_of HT_.out (by kernel_rfl)) (fun _ _ _ h => h) (Or.inl ⟨by rfl, ?_⟩) ?_ ?_; rotate_left
        ·
         intro w'
         go_simp
         with_reducible rfl
        rotate_left
        ·
         simp only [Act.put, List.setIfInBounds_toArray, List.set_cons_zero, List.set_cons_succ, i64_w, i32_w]; rfl
        refine pure_ (i := 31) (N := some 70) (v := ?_) (a' := ?_) #[Y',Y',Y',Y',Y',Y',Y',Y',Y',Y',Y',Y',Y',Y',Y',Y',Y',Y',Y',Y',Y',Y',Y',Y',Y',Y',Y',Y',Y',Y',Y',Y',Z',Z',Z',Z',Z',Z',Z',Z',Z',Z',Z',Z',Z',Z',Z',Z',Z',Z',Z'] rfl rfl (any_of HT_.out (by kernel_rfl)) (fun _ _ _ h => h) (Or.inl ⟨by rfl, ?_⟩) ?_ ?_; rotate_left
        ·
         intro w'
         go_simp
         with_reducible rfl
        rotate_left
        ·
         simp only [Act.put, List.setIfInBounds_toArray, List.set_cons_zero, List.set_cons_succ, i64_w, i32_w]; rfl
        refine pure_ (i := 32) (N := some 71) (v := ?_) (a' := ?_) #[Y',Y',Y',Y',Y',Y',Y',Y',Y',Y',Y',Y',Y',Y',Y',Y',Y',Y',Y',Y',Y',Y',Y',Y',Y',Y',Y',Y',Y',Y',Y',Y',Y',Z',Z',Z',Z',Z',Z',Z',Z',Z',Z',Z',Z',Z',Z',Z',Z',Z',Z'] rfl rfl (any_of HT_.out (by kernel_rfl)) (fun _ _ _ h => h) (Or.inl ⟨by rfl, ?_⟩) ?_ ?_; rotate_left
        ·
         intro w'
         go_simp
         with_reducible rfl
        rotate_left
        ·
         simp only [Act.put, List.setIfInBounds_toArray, List.set_cons_zero, List.set_cons_succ, i64_w, i32_w]; rfl
        refine take_ (i := 33) (N := some 72) (v := ?_) (a' := ?_) #[Y',Y',Y',Y',Y',Y',Y',Y',Y',Y',Y',Y',Y',Y',Y',Y',Y',Y',Y',Y',Y',Y',Y',Y',Y',Y',Y',Y',Y',Y',Y',Y',Y',Y',Z',Z',Z',Z',Z',Z',Z',Z',Z',Z',Z',Z',Z',Z',Z',Z',Z'] rfl rfl (take_ofW HT_.out HW_.out (by kernel_rfl)) (fun _ _ _ h => h) (Or.inl ⟨by rfl, ?_⟩) hHeld ?_ ?_; rotate_left
        ·
         rintro w' ⟨s0, s1, s2, s3, s4, s5, s6, s7, s8, s9, s10, s11, s12⟩
         go_simp
         with_reducible rfl
        rotate_left
        ·
         simp only [Act.put, List.setIfInBounds_toArray, List.set_cons_zero, List.set_cons_succ, i64_w, i32_w]; rfl
        refine take_ (i := 34) (N := some 73) (v := ?_) (a' := ?_) #[Y',Y',Y',Y',Y',Y',Y',Y',Y',Y',Y',Y',Y',Y',Y',Y',Y',Y',Y',Y',Y',Y',Y',Y',Y',Y',Y',Y',Y',Y',Y',Y',Y',Y',Y',Z',Z',Z',Z',Z',Z',Z',Z',Z',Z',Z',Z',Z',Z',Z',Z'] rfl rfl (take_ofW HT_.out HW_.out (by kernel_rfl)) (fun _ _ _ h => h) (Or.inl ⟨by rfl, ?_⟩) hHeld ?_ ?_; rotate_left
        ·
         rintro w' ⟨s0, s1, s2, s3, s4, s5, s6, s7, s8, s9, s10, s11, s12⟩
         go_simp
         with_reducible rfl
        rotate_left
        ·
         simp only [Act.put, List.setIfInBounds_toArray, List.set_cons_zero, List.set_cons_succ, i64_w, i32_w]; rfl
        refine take_ (i := 36) (N := some 75) (v := ?_) (a' := ?_) #[Y',Y',Y',Y',Y',Y',Y',Y',Y',Y',Y',Y',Y',Y',Y',Y',Y',Y',Y',Y',Y',Y',Y',Y',Y',Y',Y',Y',Y',Y',Y',Y',Y',Y',Y',Z',Y',Z',Z',Z',Z',Z',Z',Z',Z',Z',Z',Z',Z',Z',Z'] rfl rfl (take_ofW HT_.out HW_.out (by kernel_rfl)) (fun _ _ _ h => h) (Or.inl ⟨by rfl, ?_⟩) hHeld ?_ ?_; rotate_left
        ·
         rintro w' ⟨s0, s1, s2, s3, s4, s5, s6, s7, s8, s9, s10, s11, s12⟩
         go_simp
         with_reducible rfl
        rotate_left
        ·
         simp only [Act.put, List.setIfInBounds_toArray, List.set_cons_zero, List.set_cons_succ, i64_w, i32_w]; rfl
        refine take_ (i := 37) (N := some 76) (v := ?_) (a' := ?_) #[Y',Y',Y',Y',Y',Y',Y',Y',Y',Y',Y',Y',Y',Y',Y',Y',Y',Y',Y',Y',Y',Y',Y',Y',Y',Y',Y',Y',Y',Y',Y',Y',Y',Y',Y',Z',Y',Y',Z',Z',Z',Z',Z',Z',Z',Z',Z',Z',Z',Z',Z'] rfl rfl (take_ofW HT_.out HW_.out (by kernel_rfl)) (fun _ _ _ h => h) (Or.inl ⟨by rfl, ?_⟩) hHeld ?_ ?_; rotate_left
        ·
         rintro w' ⟨s0, s1, s2, s3, s4, s5, s6, s7, s8, s9, s10, s11, s12⟩
         go_simp
         with_reducible rfl
        rotate_left
        ·
         simp only [Act.put, List.setIfInBounds_toArray, List.set_cons_zero, List.set_cons_succ, i64_w, i32_w]; rfl
        refine one_ (i := 35) (N := some 74) #[Y',Y',Y',Y',Y',Y',Y',Y',Y',Y',Y',Y',Y',Y',Y',Y',Y',Y',Y',Y',Y',Y',Y',Y',Y',Y',Y',Y',Y',Y',Y',Y',Y',Y',Y',Y',Y',Y',Z',Z',Z',Z',Z',Z',Z',Z',Z',Z',Z',Z',Z'] rfl rfl (one_of HT_.out (by kernel_rfl)) (by decide) (fun K hK => ?_); refine goes_ Try.func18 (by kernel_rfl) rfl #[.agg #[.int .i64 t378, .slice Ao44 t379.length co44], .agg #[.int .i64 t382, .slice Ao50 t383.length co50]] (by rfl) rfl rfl args_a ?_
        with_reducible refine (impl_SameWindows.calls k t378 _ _ t379 t382 _ _ t383 t400 _ ?side1 ?side2 ?side3 ?side4 A60.out).mono ?_
        (case side1 => repeat (first | exact (Kd.R_reads' HO381.out).2.2 | (with_reducible refine Kd.C_alloc ?_ _) | (with_reducible refine Kd.C_drewN ?_ _) | (with_reducible refine Kd.C_drew ?_))); (case side2 => exact (Kd.R_reads' HO381.out).2.1); (case side3 => repeat (first | exact (Kd.R_reads' HO385.out).2.2 | (with_reducible refine Kd.C_alloc ?_ _) | (with_reducible refine Kd.C_drewN ?_ _) | (with_reducible refine Kd.C_drew ?_))); (case side4 => exact (Kd.R_reads' HO385.out).2.1); rintro e w72 ⟨rfl, hb⟩; refine ⟨_, rfl, ?_⟩; replace HO356 := Aside0.mk (Kd.R_below (R_a HO356.out) hb); replace HO363 := Aside0.mk (Kd.R_below (R_a HO363.out) hb); replace HO368 := Aside0.mk (Kd.R_below (R_a HO368.out) hb); replace HO371 := Aside0.mk (Kd.R_below (R_a HO371.out) hb); replace HO376 := Aside0.mk (Kd.R_below (R_a HO376.out) hb); replace HO381 := Aside0.mk (Kd.R_below (R_a HO381.out) hb); replace HO385 := Aside0.mk (Kd.R_below (R_a HO385.out) hb); replace HO392 := Aside0.mk (Kd.R_below (R_a HO392.out) hb); replace HO396 := Aside0.mk (Kd.R_below (R_a HO396.out) hb); replace BK358 := Aside0.mk (blk_below (g := gb358) blk_c hb); replace BK364 := Aside0.mk (blk_below (g := gb364) blk_c hb); replace BK372 := Aside0.mk (blk_below (g := gb372) blk_c hb); replace BK377 := Aside0.mk (blk_below (g := gb377) blk_c hb); replace BK386 := Aside0.mk (blk_below (g := gb386) blk_c hb); replace BK387 := Aside0.mk (blk_below (g := gb387) blk_c hb); replace HB := Aside0.mk (below_step below_a hb); (try clear hb); (try clear hb2); (try clear hk); (try clear hi); refine hK.out _ _ ⟨(blk_cell BK364.out 0).trans rfl, (blk_cell BK364.out 1).trans rfl, (blk_cell BK364.out 2).trans rfl, (blk_cell BK358.out 0).trans rfl, (blk_cell BK358.out 1).trans rfl, (blk_cell BK377.out 0).trans rfl, (blk_cell BK377.out 1).trans rfl, (blk_cell BK372.out 0).trans rfl, (blk_cell BK372.out 1).trans rfl, (blk_cell BK386.out 0).trans rfl, (blk_cell BK386.out 1).trans rfl, (blk_cell BK387.out 0).trans rfl, (blk_cell BK387.out 1).trans rfl⟩ (fun hHeld => ?_); clear hK K; refine norm_ (a' := ?_) ?_ ?_; rotate_left
        ·
         show Act.put _ (some 74) _ = _; simp only [Act.put, List.setIfInBounds_toArray, List.set_cons_zero, List.set_cons_succ, i64_w, i32_w]; rfl
        refine one_ (i := 38) (N := some 77) #[Y',Y',Y',Y',Y',Y',Y',Y',Y',Y',Y',Y',Y',Y',Y',Y',Y',Y',Y',Y',Y',Y',Y',Y',Y',Y',Y',Y',Y',Y',Y',Y',Y',Y',Y',Y',Y',Y',Y',Z',Z',Z',Z',Z',Z',Z',Z',Z',Z',Z',Z'] rfl rfl (one_of HT_.out (by kernel_rfl)) (by decide) (fun K hK => ?_); refine goes_ Try.func19 (by kernel_rfl) rfl #[.agg #[.int .i64 t378, .slice Ao44 t379.length co44], .agg #[.int .i64 t382, .slice Ao50 t383.length co50]] (by rfl) rfl rfl args_a ?_
        with_reducible refine (spec_SameWindows.calls k t378 _ _ t379 t382 _ _ t383 t401 _ ?side1 ?side2 ?side3 ?side4 A61.out).mono ?_
        (case side1 => repeat (first | exact (Kd.R_reads' HO381.out).2.2 | (with_reducible refine Kd.C_alloc ?_ _) | (with_reducible refine Kd.C_drewN ?_ _) | (with_reducible refine Kd.C_drew ?_))); (case side2 => exact (Kd.R_reads' HO381.out).2.1); (case side3 => repeat (first | exact (Kd.R_reads' HO385.out).2.2 | (with_reducible refine Kd.C_alloc ?_ _) | (with_reducible refine Kd.C_drewN ?_ _) | (with_reducible refine Kd.C_drew ?_))); (case side4 => exact (Kd.R_reads' HO385.out).2.1); rintro e w73 ⟨rfl, hb⟩; refine ⟨_, rfl, ?_⟩; replace HO356 := Aside0.mk (Kd.R_below (R_a HO356.out) hb); replace HO363 := Aside0.mk (Kd.R_below (R_a HO363.out) hb); replace HO368 := Aside0.mk (Kd.R_below (R_a HO368.out) hb); replace HO371 := Aside0.mk (Kd.R_below (R_a HO371.out) hb); replace HO376 := Aside0.mk (Kd.R_below (R_a HO376.out) hb); replace HO381 := Aside0.mk (Kd.R_below (R_a HO381.out) hb); replace HO385 := Aside0.mk (Kd.R_below (R_a HO385.out) hb); replace HO392 := Aside0.mk (Kd.R_below (R_a HO392.out) hb); replace HO396 := Aside0.mk (Kd.R_below (R_a HO396.out) hb); replace BK358 := Aside0.mk (blk_below (g := gb358) blk_c hb); replace BK364 := Aside0.mk (blk_below (g := gb364) blk_c hb); replace BK372 := Aside0.mk (blk_below (g := gb372) blk_c hb); replace BK377 := Aside0.mk (blk_below (g := gb377) blk_c hb); replace BK386 := Aside0.mk (blk_below (g := gb386) blk_c hb); replace BK387 := Aside0.mk (blk_below (g := gb387) blk_c hb); replace HB := Aside0.mk (below_step below_a hb); (try clear hb); (try clear hb2); (try clear hk); (try clear hi); refine hK.out _ _ ⟨(blk_cell BK364.out 0).trans rfl, (blk_cell BK364.out 1).trans rfl, (blk_cell BK364.out 2).trans rfl, (blk_cell BK358.out 0).trans rfl, (blk_cell BK358.out 1).trans rfl, (blk_cell BK377.out 0).trans rfl, (blk_cell BK377.out 1).trans rfl, (blk_cell BK372.out 0).trans rfl, (blk_cell BK372.out 1).trans rfl, (blk_cell BK386.out 0).trans rfl, (blk_cell BK386.out 1).trans rfl, (blk_cell BK387.out 0).trans rfl, (blk_cell BK387.out 1).trans rfl⟩ (fun hHeld => ?_); clear hK K; refine norm_ (a' := ?_) ?_ ?_; rotate_left
        ·
         show Act.put _ (some 77) _ = _; simp only [Act.put, List.setIfInBounds_toArray, List.set_cons_zero, List.set_cons_succ, i64_w, i32_w]; rfl
        refine pure_ (i := 39) (N := some 78) (v := ?_) (a' := ?_) #[Y',Y',Y',Y',Y',Y',Y',Y',Y',Y',Y',Y',Y',Y',Y',Y',Y',Y',Y',Y',Y',Y',Y',Y',Y',Y',Y',Y',Y',Y',Y',Y',Y',Y',Y',Y',Y',Y',Y',Y',Z',Z',Z',Z',Z',Z',Z',Z',Z',Z',Z'] rfl rfl (any_of HT_.out (by kernel_rfl)) (fun _ _ _ h => h) (Or.inl ⟨by rfl, ?_⟩) ?_ ?_; rotate_left
        ·
         intro w'
         go_simp
         with_reducible rfl
        rotate_left
        ·
         simp only [Act.put, List.setIfInBounds_toArray, List.set_cons_zero, List.set_cons_succ, i64_w, i32_w]; rfl
        refine pure_ (i := 40) (N := some 79) (v := ?_) (a' := ?_) #[Y',Y',Y',Y',Y',Y',Y',Y',Y',Y',Y',Y',Y',Y',Y',Y',Y',Y',Y',Y',Y',Y',Y',Y',Y',Y',Y',Y',Y',Y',Y',Y',Y',Y',Y',Y',Y',Y',Y',Y',Y',Z',Z',Z',Z',Z',Z',Z',Z',Z',Z'] rfl rfl (any_of HT_.out (by kernel_rfl)) (fun _ _ _ h => h) (Or.inl ⟨by rfl, ?_⟩) ?_ ?_; rotate_left
        ·
         intro w'
         go_simp
         with_reducible rfl
        rotate_left
        ·
         simp only [Act.put, List.setIfInBounds_toArray, List.set_cons_zero, List.set_cons_succ, i64_w, i32_w]; rfl
        refine pure_ (i := 41) (N := some 80) (v := ?_) (a' := ?_) #[Y',Y',Y',Y',Y',Y',Y',Y',Y',Y',Y',Y',Y',Y',Y',Y',Y',Y',Y',Y',Y',Y',Y',Y',Y',Y',Y',Y',Y',Y',Y',Y',Y',Y',Y',Y',Y',Y',Y',Y',Y',Y',Z',Z',Z',Z',Z',Z',Z',Z',Z'] rfl rfl (any_of HT_.out (by kernel_rfl)) (fun _ _ _ h => h) (Or.inl ⟨by rfl, ?_⟩) ?_ ?_; rotate_left
        ·
         intro w'
         go_simp
         with_reducible rfl
        rotate_left
        ·
         simp only [Act.put, List.setIfInBounds_toArray, List.set_cons_zero, List.set_cons_succ, i64_w, i32_w]; rfl
        refine pure_ (i := 42) (N := some 81) (v := ?_) (a' := ?_) #[Y',Y',Y',Y',Y',Y',Y',Y',Y',Y',Y',Y',Y',Y',Y',Y',Y',Y',Y',Y',Y',Y',Y',Y',Y',Y',Y',Y',Y',Y',Y',Y',Y',Y',Y',Y',Y',Y',Y',Y',Y',Y',Y',Z',Z',Z',Z',Z',Z',Z',Z'] rfl rfl (any_of HT_.out (by kernel_rfl)) (fun _ _ _ h => h) (Or.inl ⟨by rfl, ?_⟩) ?_ ?_; rotate_left
        ·
         intro w'
         go_simp
         with_reducible rfl
        rotate_left
        ·
         simp only [Act.put, List.setIfInBounds_toArray, List.set_cons_zero, List.set_cons_succ, i64_w, i32_w]; rfl
        refine pure_ (i := 45) (N := some 84) (v := ?_) (a' := ?_) #[Y',Y',Y',Y',Y',Y',Y',Y',Y',Y',Y',Y',Y',Y',Y',Y',Y',Y',Y',Y',Y',Y',Y',Y',Y',Y',Y',Y',Y',Y',Y',Y',Y',Y',Y',Y',Y',Y',Y',Y',Y',Y',Y',Z',Z',Y',Z',Z',Z',Z',Z'] rfl rfl (any_of HT_.out (by kernel_rfl)) (fun _ _ _ h => h) (Or.inl ⟨by rfl, ?_⟩) ?_ ?_; rotate_left
        ·
         intro w'
         go_simp
         with_reducible rfl
        rotate_left
        ·
         simp only [Act.put, List.setIfInBounds_toArray, List.set_cons_zero, List.set_cons_succ, i64_w, i32_w]; rfl
        refine take_ (i := 43) (N := some 82) (v := ?_) (a' := ?_) #[Y',Y',Y',Y',Y',Y',Y',Y',Y',Y',Y',Y',Y',Y',Y',Y',Y',Y',Y',Y',Y',Y',Y',Y',Y',Y',Y',Y',Y',Y',Y',Y',Y',Y',Y',Y',Y',Y',Y',Y',Y',Y',Y',Y',Z',Y',Z',Z',Z',Z',Z'] rfl rfl (take_ofW HT_.out HW_.out (by kernel_rfl)) (fun _ _ _ h => h) (Or.inl ⟨by rfl, ?_⟩) hHeld ?_ ?_; rotate_left
        ·
         rintro w' ⟨s0, s1, s2, s3, s4, s5, s6, s7, s8, s9, s10, s11, s12⟩
         go_simp
         with_reducible rfl
        rotate_left
        ·
         simp only [Act.put, List.setIfInBounds_toArray, List.set_cons_zero, List.set_cons_succ, i64_w, i32_w]; rfl
        refine take_ (i := 44) (N := some 83) (v := ?_) (a' := ?_) #[Y',Y',Y',Y',Y',Y',Y',Y',Y',Y',Y',Y',Y',Y',Y',Y',Y',Y',Y',Y',Y',Y',Y',Y',Y',Y',Y',Y',Y',Y',Y',Y',Y',Y',Y',Y',Y',Y',Y',Y',Y',Y',Y',Y',Y',Y',Z',Z',Z',Z',Z'] rfl rfl (take_ofW HT_.out HW_.out (by kernel_rfl)) (fun _ _ _ h => h) (Or.inl ⟨by rfl, ?_⟩) hHeld ?_ ?_; rotate_left
        ·
         rintro w' ⟨s0, s1, s2, s3, s4, s5, s6, s7, s8, s9, s10, s11, s12⟩
         go_simp
         with_reducible rfl
        rotate_left
        ·
         simp only [Act.put, List.setIfInBounds_toArray, List.set_cons_zero, List.set_cons_succ, i64_w, i32_w]; rfl
        refine one_ (i := 46) (N := some 85) #[Y',Y',Y',Y',Y',Y',Y',Y',Y',Y',Y',Y',Y',Y',Y',Y',Y',Y',Y',Y',Y',Y',Y',Y',Y',Y',Y',Y',Y',Y',Y',Y',Y',Y',Y',Y',Y',Y',Y',Y',Y',Y',Y',Y',Y',Y',Y',Z',Z',Z',Z'] rfl rfl (one_of HT_.out (by kernel_rfl)) (by decide) (fun K hK => ?_); refine goes_ Try.func14 (by kernel_rfl) rfl #[.agg #[.int .i64 t365, .slice Ao24 t366.length co24], .slice Ao27 t369.length co27] (by rfl) rfl rfl args_a ?_
        with_reducible refine (spec_TakeAll.calls k t365 (fun k_ => some k_ = (.slice Ao24 t366.length co24 : Value).ownBlock) _ _ t366 _ _ t369 t402 t403 _ ?side1 ?side2 ?side3 A63.out).mono ?_
        (case side1 => exact Kd.R_V (Kd.R_tight rfl (Kd.R_types (Kd.R_types (Kd.R_types (Kd.R_types (Kd.R_types (Kd.R_types (HO368.out) BK358.out (by decide)) BK364.out (by decide)) BK372.out (by decide)) BK377.out (by decide)) BK386.out (by decide)) BK387.out (by decide)))); (case side2 => repeat (first | exact (Kd.R_reads' HO371.out).2.2 | (with_reducible refine Kd.C_alloc ?_ _) | (with_reducible refine Kd.C_drewN ?_ _) | (with_reducible refine Kd.C_drew ?_))); (case side3 => exact (Kd.R_reads' HO371.out).2.1); rintro e w74 ⟨v404, rfl, ho0, hb⟩; refine ⟨_, rfl, ?_⟩; have n0_ := Aside0.mk (Kd.R_elder' (R_a HO356.out) (Kd.R_base ho0) hb); have n1_ := Aside0.mk (Kd.R_elder' (R_a HO363.out) (Kd.R_base ho0) hb); have n2_ := Aside0.mk (Kd.R_elder' (R_a HO368.out) (Kd.R_base ho0) hb); have n3_ := Aside0.mk (Kd.R_elder' (R_a HO371.out) (Kd.R_base ho0) hb); have n4_ := Aside0.mk (Kd.R_elder' (R_a HO376.out) (Kd.R_base ho0) hb); have n5_ := Aside0.mk (Kd.R_elder' (R_a HO381.out) (Kd.R_base ho0) hb); have n6_ := Aside0.mk (Kd.R_elder' (R_a HO385.out) (Kd.R_base ho0) hb); have n7_ := Aside0.mk (Kd.R_elder' (R_a HO392.out) (Kd.R_base ho0) hb); have n8_ := Aside0.mk (Kd.R_elder' (R_a HO396.out) (Kd.R_base ho0) hb); have HO405 := Aside0.mk (Kd.R_lower (Kd.R_new' (Kd.R_new' (Kd.R_new' (Kd.R_new' (Kd.R_new' (Kd.R_new' (Kd.R_new' (Kd.R_new' (Kd.R_new' (Kd.R_mono (ok' := fun k_ => True) ho0 (fun _ hk_ => trivial)) (Kd.R_lt (R_a HO356.out))) (Kd.R_lt (R_a HO363.out))) (Kd.R_lt (R_a HO368.out))) (Kd.R_lt (R_a HO371.out))) (Kd.R_lt (R_a HO376.out))) (Kd.R_lt (R_a HO381.out))) (Kd.R_lt (R_a HO385.out))) (Kd.R_lt (R_a HO392.out))) (Kd.R_lt (R_a HO396.out))) (below_size below_a)); replace BK358 := Aside0.mk (blk_below (g := gb358) blk_c hb); replace BK364 := Aside0.mk (blk_below (g := gb364) blk_c hb); replace BK372 := Aside0.mk (blk_below (g := gb372) blk_c hb); replace BK377 := Aside0.mk (blk_below (g := gb377) blk_c hb); replace BK386 := Aside0.mk (blk_below (g := gb386) blk_c hb); replace BK387 := Aside0.mk (blk_below (g := gb387) blk_c hb); replace HB := Aside0.mk (below_step below_a hb); replace HO356 := n0_; replace HO363 := n1_; replace HO368 := n2_; replace HO371 := n3_; replace HO376 := n4_; replace HO381 := n5_; replace HO385 := n6_; replace HO392 := n7_; replace HO396 := n8_; clear n0_ n1_ n2_ n3_ n4_ n5_ n6_ n7_ n8_; (try clear hb); (try clear hb2); (try clear hk); (try clear hi); (try clear ho0); obtain ⟨Ao75, co75, eo75⟩ := Kd.R_slice HO405.out; (first | subst eo75 | (injection eo75 with f1_ f2_ f3_; have f4_ := f1_.symm; have f5_ := f3_.symm; clear f1_ f2_ f3_; subst f4_; subst f5_)); refine hK.out _ _ ⟨(blk_cell BK364.out 0).trans rfl, (blk_cell BK364.out 1).trans rfl, (blk_cell BK364.out 2).trans rfl, (blk_cell BK358.out 0).trans rfl, (blk_cell BK358.out 1).trans rfl, (blk_cell BK377.out 0).trans rfl, (blk_cell BK377.out 1).trans rfl, (blk_cell BK372.out 0).trans rfl, (blk_cell BK372.out 1).trans rfl, (blk_cell BK386.out 0).trans rfl, (blk_cell BK386.out 1).trans rfl, (blk_cell BK387.out 0).trans rfl, (blk_cell BK387.out 1).trans rfl⟩ (fun hHeld => ?_); clear hK K; refine norm_ (a' := ?_) ?_ ?_; rotate_left
        ·
         show Act.put _ (some 85) _ = _; simp only [Act.put, List.setIfInBounds_toArray, List.set_cons_zero, List.set_cons_succ, i64_w, i32_w]; rfl
        refine pure_ (i := 47) (N := some 86) (v := ?_) (a' := ?_) #[Y',Y',Y',Y',Y',Y',Y',Y',Y',Y',Y',Y',Y',Y',Y',Y',Y',Y',Y',Y',Y',Y',Y',Y',Y',Y',Y',Y',Y',Y',Y',Y',Y',Y',Y',Y',Y',Y',Y',Y',Y',Y',Y',Y',Y',Y',Y',Y',Z',Z',Z'] rfl rfl (any_of HT_.out (by kernel_rfl)) (fun _ _ _ h => h) (Or.inl ⟨by rfl, ?_⟩) ?_ ?_; rotate_left
        ·
         intro w'
         go_simp
         with_reducible rfl
        rotate_left
        ·
         simp only [Act.put, List.setIfInBounds_toArray, List.set_cons_zero, List.set_cons_succ, i64_w, i32_w]; rfl
        refine one_ (i := 48) (N := some 87) #[Y',Y',Y',Y',Y',Y',Y',Y',Y',Y',Y',Y',Y',Y',Y',Y',Y',Y',Y',Y',Y',Y',Y',Y',Y',Y',Y',Y',Y',Y',Y',Y',Y',Y',Y',Y',Y',Y',Y',Y',Y',Y',Y',Y',Y',Y',Y',Y',Y',Z',Z'] rfl rfl (one_of HT_.out (by kernel_rfl)) (by decide) (fun K hK => ?_); refine goes_ Try.func20 (by kernel_rfl) rfl #[.slice Ao34 t374.length co34, .slice Ao75 t403.length co75] (by rfl) rfl rfl args_a ?_
        with_reducible refine (laws_lwNums.calls k _ _ t374 _ _ t403 t406 _ ?side1 ?side2 ?side3 ?side4 A64.out).mono ?_
        (case side1 => repeat (first | exact (Kd.R_reads' HO376.out).2.2 | (with_reducible refine Kd.C_alloc ?_ _) | (with_reducible refine Kd.C_drewN ?_ _) | (with_reducible refine Kd.C_drew ?_))); (case side2 => exact (Kd.R_reads' HO376.out).2.1); (case side3 => repeat (first | exact (Kd.R_reads' HO405.out).2.2 | (with_reducible refine Kd.C_alloc ?_ _) | (with_reducible refine Kd.C_drewN ?_ _) | (with_reducible refine Kd.C_drew ?_))); (case side4 => exact (Kd.R_reads' HO405.out).2.1); rintro e w' ⟨rfl, ⟨nd, rfl⟩⟩; refine ⟨_, rfl, ?_⟩; refine hK.out _ _ ⟨(blk_cell BK364.out 0).trans rfl, (blk_cell BK364.out 1).trans rfl, (blk_cell BK364.out 2).trans rfl, (blk_cell BK358.out 0).trans rfl, (blk_cell BK358.out 1).trans rfl, (blk_cell BK377.out 0).trans rfl, (blk_cell BK377.out 1).trans rfl, (blk_cell BK372.out 0).trans rfl, (blk_cell BK372.out 1).trans rfl, (blk_cell BK386.out 0).trans rfl, (blk_cell BK386.out 1).trans rfl, (blk_cell BK387.out 0).trans rfl, (blk_cell BK387.out 1).trans rfl⟩ (fun hHeld => ?_); clear hK K; refine norm_ (a' := ?_) ?_ ?_; rotate_left
        ·
         show Act.put _ (some 87) _ = _; simp only [Act.put, List.setIfInBounds_toArray, List.set_cons_zero, List.set_cons_succ, i64_w, i32_w]; rfl
        refine pure_ (i := 49) (N := some 88) (v := ?_) (a' := ?_) #[Y',Y',Y',Y',Y',Y',Y',Y',Y',Y',Y',Y',Y',Y',Y',Y',Y',Y',Y',Y',Y',Y',Y',Y',Y',Y',Y',Y',Y',Y',Y',Y',Y',Y',Y',Y',Y',Y',Y',Y',Y',Y',Y',Y',Y',Y',Y',Y',Y',Y',Z'] rfl rfl (any_of HT_.out (by kernel_rfl)) (fun _ _ _ h => h) (Or.inl ⟨by rfl, ?_⟩) ?_ ?_; rotate_left
        ·
         intro w'
         go_simp
         with_reducible rfl
        rotate_left
        ·
         simp only [Act.put, List.setIfInBounds_toArray, List.set_cons_zero, List.set_cons_succ, i64_w, i32_w]; rfl
        refine pure_ (i := 50) (N := some 89) (v := ?_) (a' := ?_) #[Y',Y',Y',Y',Y',Y',Y',Y',Y',Y',Y',Y',Y',Y',Y',Y',Y',Y',Y',Y',Y',Y',Y',Y',Y',Y',Y',Y',Y',Y',Y',Y',Y',Y',Y',Y',Y',Y',Y',Y',Y',Y',Y',Y',Y',Y',Y',Y',Y',Y',Y'] rfl rfl (any_of HT_.out (by kernel_rfl)) (fun _ _ _ h => h) (Or.inl ⟨by rfl, ?_⟩) ?_ ?_; rotate_left
        ·
         intro w'
         go_simp
         with_reducible rfl
        rotate_left
        ·
         simp only [Act.put, List.setIfInBounds_toArray, List.set_cons_zero, List.set_cons_succ, i64_w, i32_w]; rfl
        refine done_ (done_of HT_.out (by kernel_rfl)) ?_
        try go_wp2
        go_meet
        case rel => exact ⟨_, (!t406), eq_b, H', ⟨by first | omega | exact Nat.le_refl _⟩, ⟨by (with_reducible repeat (first | apply Kd.R_alloc | apply Kd.R_drewN | apply Kd.R_drew)); exact Kd.R_mono HO371.out (fun _ hk => ⟨hk.1.1.1.1, ⟨hk.1.1.1.2.1, ⟨hk.1.1.1.2.2.1, ⟨hk.1.1.1.2.2.2.1, ⟨hk.1.1.1.2.2.2.2.1, hk.1.1.1.2.2.2.2.2⟩⟩⟩⟩⟩)⟩, ⟨by (with_reducible repeat (first | apply Kd.R_alloc | apply Kd.R_drewN | apply Kd.R_drew)); exact Kd.R_mono HO356.out (fun _ hk => ⟨hk.1.1.1.2.2.1, ⟨hk.1.1.1.1, ⟨hk.1.1.1.2.1, ⟨hk.1.1.1.2.2.2.1, ⟨hk.1.1.1.2.2.2.2.1, hk.1.1.1.2.2.2.2.2⟩⟩⟩⟩⟩)⟩, ⟨by (with_reducible repeat (first | apply Kd.R_alloc | apply Kd.R_drewN | apply Kd.R_drew)); exact Kd.R_mono HO363.out (fun _ hk => ⟨hk.1.1.1.2.2.1, ⟨hk.1.1.1.1, ⟨hk.1.1.1.2.1, ⟨hk.1.1.1.2.2.2.1, ⟨hk.1.1.1.2.2.2.2.1, hk.1.1.1.2.2.2.2.2⟩⟩⟩⟩⟩)⟩, ⟨by (with_reducible repeat (first | apply Kd.R_alloc | apply Kd.R_drewN | apply Kd.R_drew)); exact Kd.R_mono HO368.out (fun _ hk => ⟨hk.1.1.1.2.2.1, ⟨hk.1.1.1.1, ⟨hk.1.1.1.2.1, ⟨hk.1.1.1.2.2.2.1, ⟨hk.1.1.1.2.2.2.2.1, hk.1.1.1.2.2.2.2.2⟩⟩⟩⟩⟩)⟩, ⟨by (with_reducible repeat (first | apply Kd.R_alloc | apply Kd.R_drewN | apply Kd.R_drew)); exact Kd.R_mono HO376.out (fun _ hk => ⟨hk.1.1.1.2.2.2.1, ⟨hk.1.1.1.1, ⟨hk.1.1.1.2.1, ⟨hk.1.1.1.2.2.1, ⟨hk.1.1.1.2.2.2.2.1, hk.1.1.1.2.2.2.2.2⟩⟩⟩⟩⟩)⟩, ⟨by (with_reducible repeat (first | apply Kd.R_alloc | apply Kd.R_drewN | apply Kd.R_drew)); exact Kd.R_mono HO381.out (fun _ hk => ⟨hk.1.1.1.2.2.2.1, ⟨hk.1.1.1.1, ⟨hk.1.1.1.2.1, ⟨hk.1.1.1.2.2.1, ⟨hk.1.1.1.2.2.2.2.1, hk.1.1.1.2.2.2.2.2⟩⟩⟩⟩⟩)⟩, ⟨by (with_reducible repeat (first | apply Kd.R_alloc | apply Kd.R_drewN | apply Kd.R_drew)); exact Kd.R_mono HO385.out (fun _ hk => ⟨hk.1.1.1.2.2.2.1, ⟨hk.1.1.1.1, ⟨hk.1.1.1.2.1, ⟨hk.1.1.1.2.2.1, ⟨hk.1.1.1.2.2.2.2.1, hk.1.1.1.2.2.2.2.2⟩⟩⟩⟩⟩)⟩, ⟨blk_a⟩, ⟨blk_a⟩, ⟨blk_a⟩, ⟨blk_a⟩, ⟨blk_a⟩, ⟨blk_a⟩, ⟨below_a⟩⟩
      ·
       rw [if_neg c59] at H; exact absurd H (by simp)
    ·
     rw [if_neg c54] at H; exact absurd H (by simp)
   ·
    rw [if_neg c52] at H; exact absurd H (by simp)
  case rest =>
   clear HC9
   try clear c1
   try clear c2
   try clear p2
   try clear c5
   try clear c14
   try clear c16
   try clear c17
   try clear c18
   try clear c19
   try clear c20
   try clear c52
   try clear c54
   try clear c59
   obtain ⟨kq, x89_8, rfl, HA, HJ8, HO_7, HO_359001, HO_365002, HO_373001, HO_378001, HO_387001, HO_388001, BK358, BK364, BK372, BK377, BK386, BK387, HB⟩ := hcut
   cases kq with
   | zero => exact absurd HA.out (by simp [laws_FnWindows.j0])
   | succ kj8 =>
    have H := HA.out; clear HA; simp only [laws_FnWindows.j0] at H
    by_cases c76 : x89_8 = true
    ·
     subst c76; have H1 : (none) = some r := by rw [if_pos rfl] at H; exact H
     clear H; have H := H1; clear H1; exact absurd H (by simp)
    ·
     replace c76 := Bool.eq_false_iff.mpr c76; subst c76; have H1 : (laws_FnWindows.l0 kj8 t357 t369 (([] : List Int)) 0 t353 t354 t359 t360 t361 t373 t374) = some r := by rw [if_neg (show ¬ (false = true) by decide)] at H; exact H
     clear H; have H := H1; clear H1; obtain ⟨y407, hy407⟩ : ∃ y_ : List Int, y_ = (([] : List Int)) := ⟨_, rfl⟩; replace H : (laws_FnWindows.l0 kj8 t357 t369 y407 0 t353 t354 t359 t360 t361 t373 t374) = some r := by first | (rw [hy407]; with_reducible exact H) | (have H2_ := (Option.bind_some _ _).symm.trans H; rw [hy407]; with_reducible exact H2_) | (have H2_ := (Option.bind_some _ _).symm.trans H; with_reducible exact H2_) | with_reducible exact H | (rw [hy407]; exact H) | exact H
     have Ny407 := Aside0.mk hy407; clear hy407; have H' := Aside0.mk H; clear H
     go_wp2_with (first | ((with_reducible refine gate_dst (N := 90) rfl ?_); refine Kd.R_lit (Kd.int .i64) _ 2 ?hg (N := 90) ?hd (xs := ([] : List Int)) (inner := []) (ok := fun _ => True) (okp := fun _ => True) ?hr ?hp (fun _ hk => hk) trivial (Below.refl _ _) (Nat.le_refl _) (by simp) ?_; (case hd => rfl); (case hg => rfl); (case hr => first | (go_simp; done) | (go_simp; rfl)); (case hp => exact (Reps.none _ _)); intro v408 w77 ho78 hb hg_ hnew_; clear hg_ hnew_; (first | rw [← Ny407.out] at ho78 | (simp only [Int.reduceToNat] at ho78; rw [← Ny407.out] at ho78)); have n0_ := Aside0.mk (Kd.R_elder' (R_a HO_7.out) (Kd.R_base ho78) hb); have n1_ := Aside0.mk (Kd.R_elder' (R_a HO_359001.out) (Kd.R_base ho78) hb); have n2_ := Aside0.mk (Kd.R_elder' (R_a HO_365002.out) (Kd.R_base ho78) hb); have n3_ := Aside0.mk (Kd.R_elder' (R_a HO_373001.out) (Kd.R_base ho78) hb); have n4_ := Aside0.mk (Kd.R_elder' (R_a HO_378001.out) (Kd.R_base ho78) hb); have n5_ := Aside0.mk (Kd.R_elder' (R_a HO_387001.out) (Kd.R_base ho78) hb); have n6_ := Aside0.mk (Kd.R_elder' (R_a HO_388001.out) (Kd.R_base ho78) hb); have HO409 := Aside0.mk (Kd.R_lower (Kd.R_new' (Kd.R_new' (Kd.R_new' (Kd.R_new' (Kd.R_new' (Kd.R_new' (Kd.R_new' ho78 (Kd.R_lt (R_a HO_7.out))) (Kd.R_lt (R_a HO_359001.out))) (Kd.R_lt (R_a HO_365002.out))) (Kd.R_lt (R_a HO_373001.out))) (Kd.R_lt (R_a HO_378001.out))) (Kd.R_lt (R_a HO_387001.out))) (Kd.R_lt (R_a HO_388001.out))) (below_size below_a)); replace BK358 := Aside0.mk (blk_below (g := gb358) blk_c hb); replace BK364 := Aside0.mk (blk_below (g := gb364) blk_c hb); replace BK372 := Aside0.mk (blk_below (g := gb372) blk_c hb); replace BK377 := Aside0.mk (blk_below (g := gb377) blk_c hb); replace BK386 := Aside0.mk (blk_below (g := gb386) blk_c hb); replace BK387 := Aside0.mk (blk_below (g := gb387) blk_c hb); replace HB := Aside0.mk (below_step below_a hb); replace HO_7 := n0_; replace HO_359001 := n1_; replace HO_365002 := n2_; replace HO_373001 := n3_; replace HO_378001 := n4_; replace HO_387001 := n5_; replace HO_388001 := n6_; clear n0_ n1_ n2_ n3_ n4_ n5_ n6_; clear hb ho78))
     go_loopg [11, 12] kj8 (fun kq v11 v12 w' => ∃ (x11_2 : List Int) (x12_2 : Int), v12 = .int .i64 x12_2 ∧ Aside0 (laws_FnWindows.l0 kq t357 t369 x11_2 x12_2 t353 t354 t359 t360 t361 t373 t374 = some r) ∧ Aside0 (kq ≤ kj8) ∧ Aside0 (Kd.R (Kd.int .i64) 2 w' w.heap.size (fun k_ => some k_ ≠ (v11 : Value).ownBlock ∧ some k_ ≠ ((.slice Ao13 t354.length co13) : Value).ownBlock ∧ some k_ ≠ ((.slice Ao18 t361.length co18) : Value).ownBlock ∧ some k_ ≠ ((.slice Ao24 t366.length co24) : Value).ownBlock ∧ some k_ ≠ ((.slice Ao34 t374.length co34) : Value).ownBlock ∧ some k_ ≠ ((.slice Ao44 t379.length co44) : Value).ownBlock ∧ some k_ ≠ ((.slice Ao50 t383.length co50) : Value).ownBlock) (.slice Ao27 t369.length co27) t369) ∧ Aside0 (Kd.R (Kd.int .i64) 2 w' w.heap.size (fun k_ => some k_ ≠ ((.slice Ao27 t369.length co27) : Value).ownBlock ∧ some k_ ≠ ((.slice Ao13 t354.length co13) : Value).ownBlock ∧ some k_ ≠ ((.slice Ao18 t361.length co18) : Value).ownBlock ∧ some k_ ≠ ((.slice Ao24 t366.length co24) : Value).ownBlock ∧ some k_ ≠ ((.slice Ao34 t374.length co34) : Value).ownBlock ∧ some k_ ≠ ((.slice Ao44 t379.length co44) : Value).ownBlock ∧ some k_ ≠ ((.slice Ao50 t383.length co50) : Value).ownBlock) v11 x11_2) ∧ Aside0 (Kd.R (Kd.int .i64) 2 w' w.heap.size (fun k_ => some k_ ≠ ((.slice Ao27 t369.length co27) : Value).ownBlock ∧ some k_ ≠ (v11 : Value).ownBlock ∧ some k_ ≠ ((.slice Ao18 t361.length co18) : Value).ownBlock ∧ some k_ ≠ ((.slice Ao24 t366.length co24) : Value).ownBlock ∧ some k_ ≠ ((.slice Ao34 t374.length co34) : Value).ownBlock ∧ some k_ ≠ ((.slice Ao44 t379.length co44) : Value).ownBlock ∧ some k_ ≠ ((.slice Ao50 t383.length co50) : Value).ownBlock) (.slice Ao13 t354.length co13) t354) ∧ Aside0 (Kd.R (Kd.int .i64) 2 w' w.heap.size (fun k_ => some k_ ≠ ((.slice Ao27 t369.length co27) : Value).ownBlock ∧ some k_ ≠ (v11 : Value).ownBlock ∧ some k_ ≠ ((.slice Ao13 t354.length co13) : Value).ownBlock ∧ some k_ ≠ ((.slice Ao24 t366.length co24) : Value).ownBlock ∧ some k_ ≠ ((.slice Ao34 t374.length co34) : Value).ownBlock ∧ some k_ ≠ ((.slice Ao44 t379.length co44) : Value).ownBlock ∧ some k_ ≠ ((.slice Ao50 t383.length co50) : Value).ownBlock) (.slice Ao18 t361.length co18) t361) ∧ Aside0 (Kd.R (Kd.int .i64) 2 w' w.heap.size (fun k_ => some k_ ≠ ((.slice Ao27 t369.length co27) : Value).ownBlock ∧ some k_ ≠ (v11 : Value).ownBlock ∧ some k_ ≠ ((.slice Ao13 t354.length co13) : Value).ownBlock ∧ some k_ ≠ ((.slice Ao18 t361.length co18) : Value).ownBlock ∧ some k_ ≠ ((.slice Ao34 t374.length co34) : Value).ownBlock ∧ some k_ ≠ ((.slice Ao44 t379.length co44) : Value).ownBlock ∧ some k_ ≠ ((.slice Ao50 t383.length co50) : Value).ownBlock) (.slice Ao24 t366.length co24) t366) ∧ Aside0 (Kd.R (Kd.int .i64) 2 w' w.heap.size (fun k_ => some k_ ≠ ((.slice Ao27 t369.length co27) : Value).ownBlock ∧ some k_ ≠ (v11 : Value).ownBlock ∧ some k_ ≠ ((.slice Ao13 t354.length co13) : Value).ownBlock ∧ some k_ ≠ ((.slice Ao18 t361.length co18) : Value).ownBlock ∧ some k_ ≠ ((.slice Ao24 t366.length co24) : Value).ownBlock ∧ some k_ ≠ ((.slice Ao44 t379.length co44) : Value).ownBlock ∧ some k_ ≠ ((.slice Ao50 t383.length co50) : Value).ownBlock) (.slice Ao34 t374.length co34) t374) ∧ Aside0 (Kd.R (Kd.int .i64) 2 w' w.heap.size (fun k_ => some k_ ≠ ((.slice Ao27 t369.length co27) : Value).ownBlock ∧ some k_ ≠ (v11 : Value).ownBlock ∧ some k_ ≠ ((.slice Ao13 t354.length co13) : Value).ownBlock ∧ some k_ ≠ ((.slice Ao18 t361.length co18) : Value).ownBlock ∧ some k_ ≠ ((.slice Ao24 t366.length co24) : Value).ownBlock ∧ some k_ ≠ ((.slice Ao34 t374.length co34) : Value).ownBlock ∧ some k_ ≠ ((.slice Ao50 t383.length co50) : Value).ownBlock) (.slice Ao44 t379.length co44) t379) ∧ Aside0 (Kd.R (Kd.int .i64) 2 w' w.heap.size (fun k_ => some k_ ≠ ((.slice Ao27 t369.length co27) : Value).ownBlock ∧ some k_ ≠ (v11 : Value).ownBlock ∧ some k_ ≠ ((.slice Ao13 t354.length co13) : Value).ownBlock ∧ some k_ ≠ ((.slice Ao18 t361.length co18) : Value).ownBlock ∧ some k_ ≠ ((.slice Ao24 t366.length co24) : Value).ownBlock ∧ some k_ ≠ ((.slice Ao34 t374.length co34) : Value).ownBlock ∧ some k_ ≠ ((.slice Ao44 t379.length co44) : Value).ownBlock) (.slice Ao50 t383.length co50) t383) ∧ Aside0 (w'.heap[gb358]? = some (.cells #[.int .i64 t353, (.slice Ao13 t354.length co13)] 26 (0, 0))) ∧ Aside0 (w'.heap[gb364]? = some (.cells #[.int .i64 t359, .int .i64 t360, (.slice Ao18 t361.length co18)] 30 (0, 0))) ∧ Aside0 (w'.heap[gb372]? = some (.cells #[.int .i64 t365, (.slice Ao24 t366.length co24)] 26 (0, 0))) ∧ Aside0 (w'.heap[gb377]? = some (.cells #[.int .i64 t373, (.slice Ao34 t374.length co34)] 35 (0, 0))) ∧ Aside0 (w'.heap[gb386]? = some (.cells #[.int .i64 t378, (.slice Ao44 t379.length co44)] 26 (0, 0))) ∧ Aside0 (w'.heap[gb387]? = some (.cells #[.int .i64 t382, (.slice Ao50 t383.length co50)] 26 (0, 0))) ∧ Aside0 (Below w.heap.size w w'))
     case atStart => exact ⟨(y407), (0), eq_b, H', ⟨Nat.le_refl _⟩, ⟨by (with_reducible repeat (first | apply Kd.R_alloc | apply Kd.R_drewN | apply Kd.R_drew)); exact Kd.R_mono HO_7.out (fun _ hk => ⟨hk.2, ⟨hk.1.1, ⟨hk.1.2.1, ⟨hk.1.2.2.1, ⟨hk.1.2.2.2.1, ⟨hk.1.2.2.2.2.1, hk.1.2.2.2.2.2⟩⟩⟩⟩⟩⟩)⟩, ⟨by (with_reducible repeat (first | apply Kd.R_alloc | apply Kd.R_drewN | apply Kd.R_drew)); exact Kd.R_mono HO409.out (fun _ hk => ⟨hk.1.1.1.1.1.1.2, ⟨hk.1.1.1.1.1.2, ⟨hk.1.1.1.1.2, ⟨hk.1.1.1.2, ⟨hk.1.1.2, ⟨hk.1.2, hk.2⟩⟩⟩⟩⟩⟩)⟩, ⟨by (with_reducible repeat (first | apply Kd.R_alloc | apply Kd.R_drewN | apply Kd.R_drew)); exact Kd.R_mono HO_359001.out (fun _ hk => ⟨hk.1.1, ⟨hk.2, ⟨hk.1.2.1, ⟨hk.1.2.2.1, ⟨hk.1.2.2.2.1, ⟨hk.1.2.2.2.2.1, hk.1.2.2.2.2.2⟩⟩⟩⟩⟩⟩)⟩, ⟨by (with_reducible repeat (first | apply Kd.R_alloc | apply Kd.R_drewN | apply Kd.R_drew)); exact Kd.R_mono HO_365002.out (fun _ hk => ⟨hk.1.1, ⟨hk.2, ⟨hk.1.2.1, ⟨hk.1.2.2.1, ⟨hk.1.2.2.2.1, ⟨hk.1.2.2.2.2.1, hk.1.2.2.2.2.2⟩⟩⟩⟩⟩⟩)⟩, ⟨by (with_reducible repeat (first | apply Kd.R_alloc | apply Kd.R_drewN | apply Kd.R_drew)); exact Kd.R_mono HO_373001.out (fun _ hk => ⟨hk.1.1, ⟨hk.2, ⟨hk.1.2.1, ⟨hk.1.2.2.1, ⟨hk.1.2.2.2.1, ⟨hk.1.2.2.2.2.1, hk.1.2.2.2.2.2⟩⟩⟩⟩⟩⟩)⟩, ⟨by (with_reducible repeat (first | apply Kd.R_alloc | apply Kd.R_drewN | apply Kd.R_drew)); exact Kd.R_mono HO_378001.out (fun _ hk => ⟨hk.1.1, ⟨hk.2, ⟨hk.1.2.1, ⟨hk.1.2.2.1, ⟨hk.1.2.2.2.1, ⟨hk.1.2.2.2.2.1, hk.1.2.2.2.2.2⟩⟩⟩⟩⟩⟩)⟩, ⟨by (with_reducible repeat (first | apply Kd.R_alloc | apply Kd.R_drewN | apply Kd.R_drew)); exact Kd.R_mono HO_387001.out (fun _ hk => ⟨hk.1.1, ⟨hk.2, ⟨hk.1.2.1, ⟨hk.1.2.2.1, ⟨hk.1.2.2.2.1, ⟨hk.1.2.2.2.2.1, hk.1.2.2.2.2.2⟩⟩⟩⟩⟩⟩)⟩, ⟨by (with_reducible repeat (first | apply Kd.R_alloc | apply Kd.R_drewN | apply Kd.R_drew)); exact Kd.R_mono HO_388001.out (fun _ hk => ⟨hk.1.1, ⟨hk.2, ⟨hk.1.2.1, ⟨hk.1.2.2.1, ⟨hk.1.2.2.2.1, ⟨hk.1.2.2.2.2.1, hk.1.2.2.2.2.2⟩⟩⟩⟩⟩⟩)⟩, ⟨blk_a⟩, ⟨blk_a⟩, ⟨blk_a⟩, ⟨blk_a⟩, ⟨blk_a⟩, ⟨blk_a⟩, ⟨below_a⟩⟩
     case round =>
      clear H'
      try clear c1
      try clear c2
      try clear p2 p2
      try clear c5
      try clear c7
      try clear c14
      try clear c16
      try clear c17
      try clear c18
      try clear c19
      try clear c20
      try clear c52
      try clear c54
      try clear c59
      try clear c76
      obtain ⟨x11_2, x12_2, rfl, HA, HK2, HO_7, HO_11, HO_359001, HO_365002, HO_373001, HO_378001, HO_387001, HO_388001, BK358, BK364, BK372, BK377, BK386, BK387, HB⟩ := hrel
      cases gk with
      | zero => exact absurd HA.out (by simp [laws_FnWindows.l0])
      | succ k2 =>
       have H := HA.out; clear HA; simp only [laws_FnWindows.l0] at H
       by_cases c79 : x12_2 < (t374.length : Int)
       ·
        rw [if_pos c79] at H; have c79b0 : decide (x12_2 < (t374.length : Int)) = true := decide_eq_true c79; clear c79
        by_cases c80 : 0 ≤ x12_2
        ·
         rw [if_pos c80] at H; have c80b0 : decide (0 ≤ x12_2) = true := decide_eq_true c80; clear c80
         by_cases c81 : 0 ≤ (rd t374 x12_2)
         ·
          rw [if_pos c81] at H; have c81b0 : decide (0 ≤ (rd t374 x12_2)) = true := decide_eq_true c81; clear c81
          by_cases c82 : (rd t374 x12_2) < (t369.length : Int)
          ·
           rw [if_pos c82] at H; have c82b0 : decide ((rd t374 x12_2) < (t369.length : Int)) = true := decide_eq_true c82; clear c82; have H' := Aside0.mk H; clear H; have hnb83 := NB377_358.out; have hnc83 := NB358_377.out; have hnb84 := NB377_364.out; have hnc84 := NB364_377.out; have hnb85 := NB377_372.out; have hnc85 := NB372_377.out; have hnb86 := NB377_386.out; have hnc86 := NB386_377.out; have hnb87 := NB377_387.out; have hnc87 := NB387_377.out; obtain ⟨hcz88_0, hcz88_1, hfz88_0, hfz88_1⟩ := bc2_ BK377.out; have p410 : 0 ≤ (x12_2 : Int) := of_decide_eq_true (by first | (with_reducible assumption) | assumption); have q410 : x12_2 < (t374.length : Int) := of_decide_eq_true (by first | (with_reducible assumption) | assumption); obtain ⟨ad410, e410, hx410_0⟩ := Kd.at_int (Kd.R_reads' HO_378001.out).2.2 x12_2 p410 q410
           cases e410
           replace p410 := eq_true p410; replace q410 := eq_true q410; have p411 : 0 ≤ ((rd t374 x12_2) : Int) := of_decide_eq_true (by first | (with_reducible assumption) | assumption); have q411 : (rd t374 x12_2) < (t369.length : Int) := of_decide_eq_true (by first | (with_reducible assumption) | assumption); obtain ⟨ad411, e411, hx411_0⟩ := Kd.at_int (Kd.R_reads' HO_7.out).2.2 (rd t374 x12_2) p411 q411
           cases e411
           replace p411 := eq_true p411; replace q411 := eq_true q411
           go_wp2
           go_loopg [14] k2 (fun kq v14 w' => ∃ (x14_3 : Int), v14 = .int .i64 x14_3 ∧ Aside0 (laws_FnWindows.l1 kq t357 t369 x11_2 x12_2 (rd t369 (rd t374 x12_2)) x14_3 t353 t354 t359 t360 t361 t373 t374 = some r) ∧ Aside0 (kq ≤ k2) ∧ Aside0 (Kd.R (Kd.int .i64) 2 w' w.heap.size (fun k_ => some k_ ≠ (u11 : Value).ownBlock ∧ some k_ ≠ ((.slice Ao13 t354.length co13) : Value).ownBlock ∧ some k_ ≠ ((.slice Ao18 t361.length co18) : Value).ownBlock ∧ some k_ ≠ ((.slice Ao24 t366.length co24) : Value).ownBlock ∧ some k_ ≠ ((.slice (some ad410) t374.length co34) : Value).ownBlock ∧ some k_ ≠ ((.slice Ao44 t379.length co44) : Value).ownBlock ∧ some k_ ≠ ((.slice Ao50 t383.length co50) : Value).ownBlock) (.slice (some ad411) t369.length co27) t369) ∧ Aside0 (Kd.R (Kd.int .i64) 2 w' w.heap.size (fun k_ => some k_ ≠ ((.slice (some ad411) t369.length co27) : Value).ownBlock ∧ some k_ ≠ ((.slice Ao13 t354.length co13) : Value).ownBlock ∧ some k_ ≠ ((.slice Ao18 t361.length co18) : Value).ownBlock ∧ some k_ ≠ ((.slice Ao24 t366.length co24) : Value).ownBlock ∧ some k_ ≠ ((.slice (some ad410) t374.length co34) : Value).ownBlock ∧ some k_ ≠ ((.slice Ao44 t379.length co44) : Value).ownBlock ∧ some k_ ≠ ((.slice Ao50 t383.length co50) : Value).ownBlock) u11 x11_2) ∧ Aside0 (Kd.R (Kd.int .i64) 2 w' w.heap.size (fun k_ => some k_ ≠ ((.slice (some ad411) t369.length co27) : Value).ownBlock ∧ some k_ ≠ (u11 : Value).ownBlock ∧ some k_ ≠ ((.slice Ao18 t361.length co18) : Value).ownBlock ∧ some k_ ≠ ((.slice Ao24 t366.length co24) : Value).ownBlock ∧ some k_ ≠ ((.slice (some ad410) t374.length co34) : Value).ownBlock ∧ some k_ ≠ ((.slice Ao44 t379.length co44) : Value).ownBlock ∧ some k_ ≠ ((.slice Ao50 t383.length co50) : Value).ownBlock) (.slice Ao13 t354.length co13) t354) ∧ Aside0 (Kd.R (Kd.int .i64) 2 w' w.heap.size (fun k_ => some k_ ≠ ((.slice (some ad411) t369.length co27) : Value).ownBlock ∧ some k_ ≠ (u11 : Value).ownBlock ∧ some k_ ≠ ((.slice Ao13 t354.length co13) : Value).ownBlock ∧ some k_ ≠ ((.slice Ao24 t366.length co24) : Value).ownBlock ∧ some k_ ≠ ((.slice (some ad410) t374.length co34) : Value).ownBlock ∧ some k_ ≠ ((.slice Ao44 t379.length co44) : Value).ownBlock ∧ some k_ ≠ ((.slice Ao50 t383.length co50) : Value).ownBlock) (.slice Ao18 t361.length co18) t361) ∧ Aside0 (Kd.R (Kd.int .i64) 2 w' w.heap.size (fun k_ => some k_ ≠ ((.slice (some ad411) t369.length co27) : Value).ownBlock ∧ some k_ ≠ (u11 : Value).ownBlock ∧ some k_ ≠ ((.slice Ao13 t354.length co13) : Value).ownBlock ∧ some k_ ≠ ((.slice Ao18 t361.length co18) : Value).ownBlock ∧ some k_ ≠ ((.slice (some ad410) t374.length co34) : Value).ownBlock ∧ some k_ ≠ ((.slice Ao44 t379.length co44) : Value).ownBlock ∧ some k_ ≠ ((.slice Ao50 t383.length co50) : Value).ownBlock) (.slice Ao24 t366.length co24) t366) ∧ Aside0 (Kd.R (Kd.int .i64) 2 w' w.heap.size (fun k_ => some k_ ≠ ((.slice (some ad411) t369.length co27) : Value).ownBlock ∧ some k_ ≠ (u11 : Value).ownBlock ∧ some k_ ≠ ((.slice Ao13 t354.length co13) : Value).ownBlock ∧ some k_ ≠ ((.slice Ao18 t361.length co18) : Value).ownBlock ∧ some k_ ≠ ((.slice Ao24 t366.length co24) : Value).ownBlock ∧ some k_ ≠ ((.slice Ao44 t379.length co44) : Value).ownBlock ∧ some k_ ≠ ((.slice Ao50 t383.length co50) : Value).ownBlock) (.slice (some ad410) t374.length co34) t374) ∧ Aside0 (Kd.R (Kd.int .i64) 2 w' w.heap.size (fun k_ => some k_ ≠ ((.slice (some ad411) t369.length co27) : Value).ownBlock ∧ some k_ ≠ (u11 : Value).ownBlock ∧ some k_ ≠ ((.slice Ao13 t354.length co13) : Value).ownBlock ∧ some k_ ≠ ((.slice Ao18 t361.length co18) : Value).ownBlock ∧ some k_ ≠ ((.slice Ao24 t366.length co24) : Value).ownBlock ∧ some k_ ≠ ((.slice (some ad410) t374.length co34) : Value).ownBlock ∧ some k_ ≠ ((.slice Ao50 t383.length co50) : Value).ownBlock) (.slice Ao44 t379.length co44) t379) ∧ Aside0 (Kd.R (Kd.int .i64) 2 w' w.heap.size (fun k_ => some k_ ≠ ((.slice (some ad411) t369.length co27) : Value).ownBlock ∧ some k_ ≠ (u11 : Value).ownBlock ∧ some k_ ≠ ((.slice Ao13 t354.length co13) : Value).ownBlock ∧ some k_ ≠ ((.slice Ao18 t361.length co18) : Value).ownBlock ∧ some k_ ≠ ((.slice Ao24 t366.length co24) : Value).ownBlock ∧ some k_ ≠ ((.slice (some ad410) t374.length co34) : Value).ownBlock ∧ some k_ ≠ ((.slice Ao44 t379.length co44) : Value).ownBlock) (.slice Ao50 t383.length co50) t383) ∧ Aside0 (w'.heap[gb358]? = some (.cells #[.int .i64 t353, (.slice Ao13 t354.length co13)] 26 (0, 0))) ∧ Aside0 (w'.heap[gb364]? = some (.cells #[.int .i64 t359, .int .i64 t360, (.slice Ao18 t361.length co18)] 30 (0, 0))) ∧ Aside0 (w'.heap[gb372]? = some (.cells #[.int .i64 t365, (.slice Ao24 t366.length co24)] 26 (0, 0))) ∧ Aside0 (w'.heap[gb377]? = some (.cells #[.int .i64 t373, (.slice (some ad410) t374.length co34)] 35 (0, 0))) ∧ Aside0 (w'.heap[gb386]? = some (.cells #[.int .i64 t378, (.slice Ao44 t379.length co44)] 26 (0, 0))) ∧ Aside0 (w'.heap[gb387]? = some (.cells #[.int .i64 t382, (.slice Ao50 t383.length co50)] 26 (0, 0))) ∧ Aside0 (Below w.heap.size w w'))
           case atStart => exact ⟨(0), eq_b, H', ⟨Nat.le_refl _⟩, ⟨R_a HO_7.out⟩, ⟨R_a HO_11.out⟩, ⟨R_a HO_359001.out⟩, ⟨R_a HO_365002.out⟩, ⟨R_a HO_373001.out⟩, ⟨R_a HO_378001.out⟩, ⟨R_a HO_387001.out⟩, ⟨R_a HO_388001.out⟩, ⟨blk_a⟩, ⟨blk_a⟩, ⟨blk_a⟩, ⟨blk_a⟩, ⟨blk_a⟩, ⟨blk_a⟩, ⟨below_a⟩⟩
           case round =>
            clear H'
            try clear c1
            try clear c2
            try clear p2 p2
            try clear p4
            try clear q4
            try clear hx4
            try clear c5
            try clear c7
            try clear c8
            try clear c14
            try clear c16
            try clear c17
            try clear c18
            try clear c19
            try clear c20
            try clear p41
            try clear q41
            try clear hx41
            try clear c52
            try clear c54
            try clear c59
            try clear c76
            try clear c79 c79b0
            try clear c80 c80b0
            try clear c81 c81b0
            try clear c82 c82b0
            try clear c83
            try clear c84
            try clear c85
            try clear c86
            try clear c87
            try clear hcz88_0 hcz88_1
            try clear hfz88_0 hfz88_1
            try clear hx410_0
            try clear hx411_0
            try clear p410
            try clear p411
            try clear q410
            try clear q411
            obtain ⟨x14_3, rfl, HA, HK3, HO_7, HO_11, HO_359001, HO_365002, HO_373001, HO_378001, HO_387001, HO_388001, BK358, BK364, BK372, BK377, BK386, BK387, HB⟩ := hrel
            cases gk with
            | zero => exact absurd HA.out (by simp [laws_FnWindows.l1])
            | succ k3 =>
             have H := HA.out; clear HA; simp only [laws_FnWindows.l1] at H
             by_cases c89 : x14_3 < (x11_2.length : Int)
             ·
              rw [if_pos c89] at H; have c89b0 : decide (x14_3 < (x11_2.length : Int)) = true := decide_eq_true c89; clear c89
              by_cases c90 : 0 ≤ x14_3
              ·
               rw [if_pos c90] at H; have c90b0 : decide (0 ≤ x14_3) = true := decide_eq_true c90; clear c90
               by_cases c91 : (rd x11_2 x14_3) = (rd t369 (rd t374 x12_2))
               ·
                rw [if_pos c91] at H; exact absurd H (by simp)
               ·
                rw [if_neg c91] at H; have c91b0 : ((rd x11_2 x14_3) == (rd t369 (rd t374 x12_2))) = false := beq_eq_false_iff_ne.mpr c91; have c91b1 : ((rd x11_2 x14_3) != (rd t369 (rd t374 x12_2))) = true := bne_iff_ne.mpr c91; have H' := Aside0.mk H; clear H; obtain ⟨Ao92, co92, eo92⟩ := Kd.R_slice HO_11.out; subst eo92; have p412 : 0 ≤ (x14_3 : Int) := of_decide_eq_true (by first | (with_reducible assumption) | assumption); have q412 : x14_3 < (x11_2.length : Int) := of_decide_eq_true (by first | (with_reducible assumption) | assumption); obtain ⟨ad412, e412, hx412_0⟩ := Kd.at_int (Kd.R_reads' HO_11.out).2.2 x14_3 p412 q412
                cases e412
                replace p412 := eq_true p412; replace q412 := eq_true q412
                go_wp2
                go_roundg k3
                case measure => have := HJ8.out; have := HK2.out; have := HK3.out; omega
                case rel => exact ⟨(wrap64 (x14_3 + 1)), eq_b, H', ⟨by have := HJ8.out; have := HK2.out; have := HK3.out; omega⟩, ⟨R_a HO_7.out⟩, ⟨R_a HO_11.out⟩, ⟨R_a HO_359001.out⟩, ⟨R_a HO_365002.out⟩, ⟨R_a HO_373001.out⟩, ⟨R_a HO_378001.out⟩, ⟨R_a HO_387001.out⟩, ⟨R_a HO_388001.out⟩, ⟨blk_a⟩, ⟨blk_a⟩, ⟨blk_a⟩, ⟨blk_a⟩, ⟨blk_a⟩, ⟨blk_a⟩, ⟨below_a⟩⟩
              ·
               rw [if_neg c90] at H; exact absurd H (by simp)
             ·
              rw [if_neg c89] at H; have c89b0 : decide (x14_3 < (x11_2.length : Int)) = false := decide_eq_false c89; clear c89
              by_cases c93 : x11_2.length < 17592186044416
              ·
               rw [if_pos c93] at H; have LMc93 := Aside0.mk c93; clear c93; obtain ⟨y413, hy413⟩ : ∃ y_ : List Int, y_ = (x11_2 ++ [(rd t369 (rd t374 x12_2))]) := ⟨_, rfl⟩; replace H : (laws_FnWindows.l0 k3 t357 t369 y413 (wrap64 (x12_2 + 1)) t353 t354 t359 t360 t361 t373 t374) = some r := by first | (rw [hy413]; with_reducible exact H) | (have H2_ := (Option.bind_some _ _).symm.trans H; rw [hy413]; with_reducible exact H2_) | (have H2_ := (Option.bind_some _ _).symm.trans H; with_reducible exact H2_) | with_reducible exact H | (rw [hy413]; exact H) | exact H
               have Ny413 := Aside0.mk hy413; clear hy413; have H' := Aside0.mk H; clear H; obtain ⟨Ao94, co94, eo94⟩ := Kd.R_slice HO_11.out; subst eo94
               go_wp2_with (first | ((with_reducible refine gate_builtin (b := .append) (xs := #[.tmp 118, .tmp 120]) rfl ?_); at_builtin; refine Kd.R_append (Kd.int .i64) (w0 := w) w.heap.size rfl (.tmp 118) (.tmp 120) 24 2 (.int .i64 0) 8 rfl Try.underlying24 info2 rfl (by decide) (by omega) (.slice Ao94 x11_2.length co94) x11_2 (rd t369 (rd t374 x12_2)) [.int .i64 (rd t369 (rd t374 x12_2))] (fun k_ => some k_ ≠ (.slice (some ad411) t369.length co27 : Value).ownBlock ∧ some k_ ≠ (.slice Ao13 t354.length co13 : Value).ownBlock ∧ some k_ ≠ (.slice Ao18 t361.length co18 : Value).ownBlock ∧ some k_ ≠ (.slice Ao24 t366.length co24 : Value).ownBlock ∧ some k_ ≠ (.slice (some ad410) t374.length co34 : Value).ownBlock ∧ some k_ ≠ (.slice Ao44 t379.length co44 : Value).ownBlock ∧ some k_ ≠ (.slice Ao50 t383.length co50 : Value).ownBlock) (fun _ => False) rfl rfl ?aP (fun _ hk => hk.elim) ?aF ?aO ?aB ?aS ?aL ?_; (case aP => exact rfl); (case aB => exact below_a); (case aF => exact (fun k_ hk => ⟨Kd.fresh' (Kd.R_lt (R_a HO_7.out)) k_ hk, Kd.fresh' (Kd.R_lt (R_a HO_359001.out)) k_ hk, Kd.fresh' (Kd.R_lt (R_a HO_365002.out)) k_ hk, Kd.fresh' (Kd.R_lt (R_a HO_373001.out)) k_ hk, Kd.fresh' (Kd.R_lt (R_a HO_378001.out)) k_ hk, Kd.fresh' (Kd.R_lt (R_a HO_387001.out)) k_ hk, Kd.fresh' (Kd.R_lt (R_a HO_388001.out)) k_ hk⟩)); (case aO => exact (R_a HO_11.out)); (case aS => exact (below_size below_a)); (case aL => have := LMc93.out; omega); intro v414 w95 ho hb hg hat; rw [← Ny413.out] at ho; replace HO_7 := Aside0.mk (Kd.R_after (ok := (fun k_ => some k_ ≠ (.slice Ao13 t354.length co13 : Value).ownBlock ∧ some k_ ≠ (.slice Ao18 t361.length co18 : Value).ownBlock ∧ some k_ ≠ (.slice Ao24 t366.length co24 : Value).ownBlock ∧ some k_ ≠ (.slice (some ad410) t374.length co34 : Value).ownBlock ∧ some k_ ≠ (.slice Ao44 t379.length co44 : Value).ownBlock ∧ some k_ ≠ (.slice Ao50 t383.length co50 : Value).ownBlock)) (by (with_reducible repeat (first | apply Kd.R_alloc | apply Kd.R_drewN | apply Kd.R_drew)); exact Kd.R_mono HO_7.out (fun _ hk => ⟨⟨hk.2.1, ⟨hk.2.2.1, ⟨hk.2.2.2.1, ⟨hk.2.2.2.2.1, ⟨hk.2.2.2.2.2.1, hk.2.2.2.2.2.2⟩⟩⟩⟩⟩, hk.1⟩)) hg hat); replace HO_359001 := Aside0.mk (Kd.R_after (ok := (fun k_ => some k_ ≠ (.slice (some ad411) t369.length co27 : Value).ownBlock ∧ some k_ ≠ (.slice Ao18 t361.length co18 : Value).ownBlock ∧ some k_ ≠ (.slice Ao24 t366.length co24 : Value).ownBlock ∧ some k_ ≠ (.slice (some ad410) t374.length co34 : Value).ownBlock ∧ some k_ ≠ (.slice Ao44 t379.length co44 : Value).ownBlock ∧ some k_ ≠ (.slice Ao50 t383.length co50 : Value).ownBlock)) (by (with_reducible repeat (first | apply Kd.R_alloc | apply Kd.R_drewN | apply Kd.R_drew)); exact Kd.R_mono HO_359001.out (fun _ hk => ⟨⟨hk.1, ⟨hk.2.2.1, ⟨hk.2.2.2.1, ⟨hk.2.2.2.2.1, ⟨hk.2.2.2.2.2.1, hk.2.2.2.2.2.2⟩⟩⟩⟩⟩, hk.2.1⟩)) hg hat); replace HO_365002 := Aside0.mk (Kd.R_after (ok := (fun k_ => some k_ ≠ (.slice (some ad411) t369.length co27 : Value).ownBlock ∧ some k_ ≠ (.slice Ao13 t354.length co13 : Value).ownBlock ∧ some k_ ≠ (.slice Ao24 t366.length co24 : Value).ownBlock ∧ some k_ ≠ (.slice (some ad410) t374.length co34 : Value).ownBlock ∧ some k_ ≠ (.slice Ao44 t379.length co44 : Value).ownBlock ∧ some k_ ≠ (.slice Ao50 t383.length co50 : Value).ownBlock)) (by (with_reducible repeat (first | apply Kd.R_alloc | apply Kd.R_drewN | apply Kd.R_drew)); exact Kd.R_mono HO_365002.out (fun _ hk => ⟨⟨hk.1, ⟨hk.2.2.1, ⟨hk.2.2.2.1, ⟨hk.2.2.2.2.1, ⟨hk.2.2.2.2.2.1, hk.2.2.2.2.2.2⟩⟩⟩⟩⟩, hk.2.1⟩)) hg hat); replace HO_373001 := Aside0.mk (Kd.R_after (ok := (fun k_ => some k_ ≠ (.slice (some ad411) t369.length co27 : Value).ownBlock ∧ some k_ ≠ (.slice Ao13 t354.length co13 : Value).ownBlock ∧ some k_ ≠ (.slice Ao18 t361.length co18 : Value).ownBlock ∧ some k_ ≠ (.slice (some ad410) t374.length co34 : Value).ownBlock ∧ some k_ ≠ (.slice Ao44 t379.length co44 : Value).ownBlock ∧ some k_ ≠ (.slice Ao50 t383.length co50 : Value).ownBlock)) (by (with_reducible repeat (first | apply Kd.R_alloc | apply Kd.R_drewN | apply Kd.R_drew)); exact Kd.R_mono HO_373001.out (fun _ hk => ⟨⟨hk.1, ⟨hk.2.2.1, ⟨hk.2.2.2.1, ⟨hk.2.2.2.2.1, ⟨hk.2.2.2.2.2.1, hk.2.2.2.2.2.2⟩⟩⟩⟩⟩, hk.2.1⟩)) hg hat); replace HO_378001 := Aside0.mk (Kd.R_after (ok := (fun k_ => some k_ ≠ (.slice (some ad411) t369.length co27 : Value).ownBlock ∧ some k_ ≠ (.slice Ao13 t354.length co13 : Value).ownBlock ∧ some k_ ≠ (.slice Ao18 t361.length co18 : Value).ownBlock ∧ some k_ ≠ (.slice Ao24 t366.length co24 : Value).ownBlock ∧ some k_ ≠ (.slice Ao44 t379.length co44 : Value).ownBlock ∧ some k_ ≠ (.slice Ao50 t383.length co50 : Value).ownBlock)) (by (with_reducible repeat (first | apply Kd.R_alloc | apply Kd.R_drewN | apply Kd.R_drew)); exact Kd.R_mono HO_378001.out (fun _ hk => ⟨⟨hk.1, ⟨hk.2.2.1, ⟨hk.2.2.2.1, ⟨hk.2.2.2.2.1, ⟨hk.2.2.2.2.2.1, hk.2.2.2.2.2.2⟩⟩⟩⟩⟩, hk.2.1⟩)) hg hat); replace HO_387001 := Aside0.mk (Kd.R_after (ok := (fun k_ => some k_ ≠ (.slice (some ad411) t369.length co27 : Value).ownBlock ∧ some k_ ≠ (.slice Ao13 t354.length co13 : Value).ownBlock ∧ some k_ ≠ (.slice Ao18 t361.length co18 : Value).ownBlock ∧ some k_ ≠ (.slice Ao24 t366.length co24 : Value).ownBlock ∧ some k_ ≠ (.slice (some ad410) t374.length co34 : Value).ownBlock ∧ some k_ ≠ (.slice Ao50 t383.length co50 : Value).ownBlock)) (by (with_reducible repeat (first | apply Kd.R_alloc | apply Kd.R_drewN | apply Kd.R_drew)); exact Kd.R_mono HO_387001.out (fun _ hk => ⟨⟨hk.1, ⟨hk.2.2.1, ⟨hk.2.2.2.1, ⟨hk.2.2.2.2.1, ⟨hk.2.2.2.2.2.1, hk.2.2.2.2.2.2⟩⟩⟩⟩⟩, hk.2.1⟩)) hg hat); replace HO_388001 := Aside0.mk (Kd.R_after (ok := (fun k_ => some k_ ≠ (.slice (some ad411) t369.length co27 : Value).ownBlock ∧ some k_ ≠ (.slice Ao13 t354.length co13 : Value).ownBlock ∧ some k_ ≠ (.slice Ao18 t361.length co18 : Value).ownBlock ∧ some k_ ≠ (.slice Ao24 t366.length co24 : Value).ownBlock ∧ some k_ ≠ (.slice (some ad410) t374.length co34 : Value).ownBlock ∧ some k_ ≠ (.slice Ao44 t379.length co44 : Value).ownBlock)) (by (with_reducible repeat (first | apply Kd.R_alloc | apply Kd.R_drewN | apply Kd.R_drew)); exact Kd.R_mono HO_388001.out (fun _ hk => ⟨⟨hk.1, ⟨hk.2.2.1, ⟨hk.2.2.2.1, ⟨hk.2.2.2.2.1, ⟨hk.2.2.2.2.2.1, hk.2.2.2.2.2.2⟩⟩⟩⟩⟩, hk.2.1⟩)) hg hat); replace BK358 := Aside0.mk (blk_grown (g := gb358) blk_c hg (Kd.R_ne HO_11.out BK358.out (by decide))); replace BK364 := Aside0.mk (blk_grown (g := gb364) blk_c hg (Kd.R_ne HO_11.out BK364.out (by decide))); replace BK372 := Aside0.mk (blk_grown (g := gb372) blk_c hg (Kd.R_ne HO_11.out BK372.out (by decide))); replace BK377 := Aside0.mk (blk_grown (g := gb377) blk_c hg (Kd.R_ne HO_11.out BK377.out (by decide))); replace BK386 := Aside0.mk (blk_grown (g := gb386) blk_c hg (Kd.R_ne HO_11.out BK386.out (by decide))); replace BK387 := Aside0.mk (blk_grown (g := gb387) blk_c hg (Kd.R_ne HO_11.out BK387.out (by decide))); replace HB := Aside0.mk (hb); have HO415 := Aside0.mk (ho); clear HO_11; clear ho hb hg hat))
               go_roundg k3
               case measure => have := HJ8.out; have := HK2.out; have := HK3.out; omega
               case rel => exact ⟨(y413), (wrap64 (x12_2 + 1)), eq_b, H', ⟨by have := HJ8.out; have := HK2.out; have := HK3.out; omega⟩, ⟨by (with_reducible repeat (first | apply Kd.R_alloc | apply Kd.R_drewN | apply Kd.R_drew)); exact Kd.R_mono HO_7.out (fun _ hk => ⟨hk.2, ⟨hk.1.1, ⟨hk.1.2.1, ⟨hk.1.2.2.1, ⟨hk.1.2.2.2.1, ⟨hk.1.2.2.2.2.1, hk.1.2.2.2.2.2⟩⟩⟩⟩⟩⟩)⟩, ⟨R_a HO415.out⟩, ⟨by (with_reducible repeat (first | apply Kd.R_alloc | apply Kd.R_drewN | apply Kd.R_drew)); exact Kd.R_mono HO_359001.out (fun _ hk => ⟨hk.1.1, ⟨hk.2, ⟨hk.1.2.1, ⟨hk.1.2.2.1, ⟨hk.1.2.2.2.1, ⟨hk.1.2.2.2.2.1, hk.1.2.2.2.2.2⟩⟩⟩⟩⟩⟩)⟩, ⟨by (with_reducible repeat (first | apply Kd.R_alloc | apply Kd.R_drewN | apply Kd.R_drew)); exact Kd.R_mono HO_365002.out (fun _ hk => ⟨hk.1.1, ⟨hk.2, ⟨hk.1.2.1, ⟨hk.1.2.2.1, ⟨hk.1.2.2.2.1, ⟨hk.1.2.2.2.2.1, hk.1.2.2.2.2.2⟩⟩⟩⟩⟩⟩)⟩, ⟨by (with_reducible repeat (first | apply Kd.R_alloc | apply Kd.R_drewN | apply Kd.R_drew)); exact Kd.R_mono HO_373001.out (fun _ hk => ⟨hk.1.1, ⟨hk.2, ⟨hk.1.2.1, ⟨hk.1.2.2.1, ⟨hk.1.2.2.2.1, ⟨hk.1.2.2.2.2.1, hk.1.2.2.2.2.2⟩⟩⟩⟩⟩⟩)⟩, ⟨by (with_reducible repeat (first | apply Kd.R_alloc | apply Kd.R_drewN | apply Kd.R_drew)); exact Kd.R_mono HO_378001.out (fun _ hk => ⟨hk.1.1, ⟨hk.2, ⟨hk.1.2.1, ⟨hk.1.2.2.1, ⟨hk.1.2.2.2.1, ⟨hk.1.2.2.2.2.1, hk.1.2.2.2.2.2⟩⟩⟩⟩⟩⟩)⟩, ⟨by (with_reducible repeat (first | apply Kd.R_alloc | apply Kd.R_drewN | apply Kd.R_drew)); exact Kd.R_mono HO_387001.out (fun _ hk => ⟨hk.1.1, ⟨hk.2, ⟨hk.1.2.1, ⟨hk.1.2.2.1, ⟨hk.1.2.2.2.1, ⟨hk.1.2.2.2.2.1, hk.1.2.2.2.2.2⟩⟩⟩⟩⟩⟩)⟩, ⟨by (with_reducible repeat (first | apply Kd.R_alloc | apply Kd.R_drewN | apply Kd.R_drew)); exact Kd.R_mono HO_388001.out (fun _ hk => ⟨hk.1.1, ⟨hk.2, ⟨hk.1.2.1, ⟨hk.1.2.2.1, ⟨hk.1.2.2.2.1, ⟨hk.1.2.2.2.2.1, hk.1.2.2.2.2.2⟩⟩⟩⟩⟩⟩)⟩, ⟨blk_a⟩, ⟨blk_a⟩, ⟨blk_a⟩, ⟨blk_a⟩, ⟨blk_a⟩, ⟨blk_a⟩, ⟨below_a⟩⟩
              ·
               rw [if_neg c93] at H; exact absurd H (by simp)
          ·
           rw [if_neg c82] at H; exact absurd H (by simp)
         ·
          rw [if_neg c81] at H; exact absurd H (by simp)
        ·
         rw [if_neg c80] at H; exact absurd H (by simp)
       ·
        rw [if_neg c79] at H; have c79b0 : decide (x12_2 < (t374.length : Int)) = false := decide_eq_false c79; clear c79
        by_cases c96 : t359 = 0
        ·
         rw [if_pos c96] at H; have c96b0 : (t359 == 0) = true := beq_iff_eq.mpr c96; have c96b1 : (t359 != 0) = false := bne_eq_false_iff_eq.mpr c96; clear c96; have HC97 := Aside0.mk H; clear H; have hnb98 := NB377_358.out; have hnc98 := NB358_377.out; have hnb99 := NB377_364.out; have hnc99 := NB364_377.out; have hnb100 := NB377_372.out; have hnc100 := NB372_377.out; have hnb101 := NB377_386.out; have hnc101 := NB386_377.out; have hnb102 := NB377_387.out; have hnc102 := NB387_377.out; obtain ⟨hcz103_0, hcz103_1, hfz103_0, hfz103_1⟩ := bc2_ BK377.out; have hnb104 := NB364_358.out; have hnc104 := NB358_364.out; have hnb105 := NB364_372.out; have hnc105 := NB372_364.out; have hnb106 := NB364_386.out; have hnc106 := NB386_364.out; have hnb107 := NB364_387.out; have hnc107 := NB387_364.out; obtain ⟨hcz108_0, hcz108_1, hcz108_2, hfz108_0, hfz108_1, hfz108_2⟩ := bc3_ BK364.out; have hnb109 := NB358_372.out; have hnc109 := NB372_358.out; have hnb110 := NB358_386.out; have hnc110 := NB386_358.out; have hnb111 := NB358_387.out; have hnc111 := NB387_358.out; obtain ⟨hcz112_0, hcz112_1, hfz112_0, hfz112_1⟩ := bc2_ BK358.out
         go_upto_if 129 with (fail)
         go_cut [15] (fun v15 wc => ∃ (kq : Nat) (x15_96 : Int), v15 = .int .i64 x15_96 ∧ Aside0 (laws_FnWindows.j3 kq t357 x15_96 t359 t360 t361 = some r) ∧ Aside0 (kq ≤ k2) ∧ Aside0 (Kd.R (Kd.int .i64) 2 wc w.heap.size (fun k_ => some k_ ≠ ((.slice Ao18 t361.length co18) : Value).ownBlock ∧ some k_ ≠ ((.slice Ao24 t366.length co24) : Value).ownBlock ∧ some k_ ≠ ((.slice Ao34 t374.length co34) : Value).ownBlock ∧ some k_ ≠ ((.slice Ao44 t379.length co44) : Value).ownBlock ∧ some k_ ≠ ((.slice Ao50 t383.length co50) : Value).ownBlock) (.slice Ao13 t354.length co13) t354) ∧ Aside0 (Kd.R (Kd.int .i64) 2 wc w.heap.size (fun k_ => some k_ ≠ ((.slice Ao13 t354.length co13) : Value).ownBlock ∧ some k_ ≠ ((.slice Ao24 t366.length co24) : Value).ownBlock ∧ some k_ ≠ ((.slice Ao34 t374.length co34) : Value).ownBlock ∧ some k_ ≠ ((.slice Ao44 t379.length co44) : Value).ownBlock ∧ some k_ ≠ ((.slice Ao50 t383.length co50) : Value).ownBlock) (.slice Ao18 t361.length co18) t361) ∧ Aside0 (Kd.R (Kd.int .i64) 2 wc w.heap.size (fun k_ => some k_ ≠ ((.slice Ao13 t354.length co13) : Value).ownBlock ∧ some k_ ≠ ((.slice Ao18 t361.length co18) : Value).ownBlock ∧ some k_ ≠ ((.slice Ao34 t374.length co34) : Value).ownBlock ∧ some k_ ≠ ((.slice Ao44 t379.length co44) : Value).ownBlock ∧ some k_ ≠ ((.slice Ao50 t383.length co50) : Value).ownBlock) (.slice Ao24 t366.length co24) t366) ∧ Aside0 (Kd.R (Kd.int .i64) 2 wc w.heap.size (fun k_ => some k_ ≠ ((.slice Ao13 t354.length co13) : Value).ownBlock ∧ some k_ ≠ ((.slice Ao18 t361.length co18) : Value).ownBlock ∧ some k_ ≠ ((.slice Ao24 t366.length co24) : Value).ownBlock ∧ some k_ ≠ ((.slice Ao44 t379.length co44) : Value).ownBlock ∧ some k_ ≠ ((.slice Ao50 t383.length co50) : Value).ownBlock) (.slice Ao34 t374.length co34) t374) ∧ Aside0 (Kd.R (Kd.int .i64) 2 wc w.heap.size (fun k_ => some k_ ≠ ((.slice Ao13 t354.length co13) : Value).ownBlock ∧ some k_ ≠ ((.slice Ao18 t361.length co18) : Value).ownBlock ∧ some k_ ≠ ((.slice Ao24 t366.length co24) : Value).ownBlock ∧ some k_ ≠ ((.slice Ao34 t374.length co34) : Value).ownBlock ∧ some k_ ≠ ((.slice Ao50 t383.length co50) : Value).ownBlock) (.slice Ao44 t379.length co44) t379) ∧ Aside0 (Kd.R (Kd.int .i64) 2 wc w.heap.size (fun k_ => some k_ ≠ ((.slice Ao13 t354.length co13) : Value).ownBlock ∧ some k_ ≠ ((.slice Ao18 t361.length co18) : Value).ownBlock ∧ some k_ ≠ ((.slice Ao24 t366.length co24) : Value).ownBlock ∧ some k_ ≠ ((.slice Ao34 t374.length co34) : Value).ownBlock ∧ some k_ ≠ ((.slice Ao44 t379.length co44) : Value).ownBlock) (.slice Ao50 t383.length co50) t383) ∧ Aside0 (wc.heap[gb358]? = some (.cells #[.int .i64 t353, (.slice Ao13 t354.length co13)] 26 (0, 0))) ∧ Aside0 (wc.heap[gb364]? = some (.cells #[.int .i64 t359, .int .i64 t360, (.slice Ao18 t361.length co18)] 30 (0, 0))) ∧ Aside0 (wc.heap[gb372]? = some (.cells #[.int .i64 t365, (.slice Ao24 t366.length co24)] 26 (0, 0))) ∧ Aside0 (wc.heap[gb377]? = some (.cells #[.int .i64 t373, (.slice Ao34 t374.length co34)] 35 (0, 0))) ∧ Aside0 (wc.heap[gb386]? = some (.cells #[.int .i64 t378, (.slice Ao44 t379.length co44)] 26 (0, 0))) ∧ Aside0 (wc.heap[gb387]? = some (.cells #[.int .i64 t382, (.slice Ao50 t383.length co50)] 26 (0, 0))) ∧ Aside0 (Below w.heap.size w wc))
         case first =>
          have H := HC97.out; clear HC97
          by_cases c113 : t357 > t353
          ·
           rw [if_pos c113] at H; have c113b0 : decide (t353 < t357) = true := decide_eq_true c113; clear c113; (first | rw [c113b0] | (simp only [i64_w, i32_w]; rw [c113b0]) | skip); have H' := Aside0.mk H; clear H
           go_wp2
           go_meet
           case rel => exact ⟨_, (t357), eq_b, H', ⟨by have := HJ8.out; have := HK2.out; first | omega | exact Nat.le_refl _⟩, ⟨by (with_reducible repeat (first | apply Kd.R_alloc | apply Kd.R_drewN | apply Kd.R_drew)); exact Kd.R_mono HO_359001.out (fun _ hk => ⟨hk.2.2.1, ⟨hk.2.2.2.1, ⟨hk.2.2.2.2.1, ⟨hk.2.2.2.2.2.1, hk.2.2.2.2.2.2⟩⟩⟩⟩)⟩, ⟨by (with_reducible repeat (first | apply Kd.R_alloc | apply Kd.R_drewN | apply Kd.R_drew)); exact Kd.R_mono HO_365002.out (fun _ hk => ⟨hk.2.2.1, ⟨hk.2.2.2.1, ⟨hk.2.2.2.2.1, ⟨hk.2.2.2.2.2.1, hk.2.2.2.2.2.2⟩⟩⟩⟩)⟩, ⟨by (with_reducible repeat (first | apply Kd.R_alloc | apply Kd.R_drewN | apply Kd.R_drew)); exact Kd.R_mono HO_373001.out (fun _ hk => ⟨hk.2.2.1, ⟨hk.2.2.2.1, ⟨hk.2.2.2.2.1, ⟨hk.2.2.2.2.2.1, hk.2.2.2.2.2.2⟩⟩⟩⟩)⟩, ⟨by (with_reducible repeat (first | apply Kd.R_alloc | apply Kd.R_drewN | apply Kd.R_drew)); exact Kd.R_mono HO_378001.out (fun _ hk => ⟨hk.2.2.1, ⟨hk.2.2.2.1, ⟨hk.2.2.2.2.1, ⟨hk.2.2.2.2.2.1, hk.2.2.2.2.2.2⟩⟩⟩⟩)⟩, ⟨by (with_reducible repeat (first | apply Kd.R_alloc | apply Kd.R_drewN | apply Kd.R_drew)); exact Kd.R_mono HO_387001.out (fun _ hk => ⟨hk.2.2.1, ⟨hk.2.2.2.1, ⟨hk.2.2.2.2.1, ⟨hk.2.2.2.2.2.1, hk.2.2.2.2.2.2⟩⟩⟩⟩)⟩, ⟨by (with_reducible repeat (first | apply Kd.R_alloc | apply Kd.R_drewN | apply Kd.R_drew)); exact Kd.R_mono HO_388001.out (fun _ hk => ⟨hk.2.2.1, ⟨hk.2.2.2.1, ⟨hk.2.2.2.2.1, ⟨hk.2.2.2.2.2.1, hk.2.2.2.2.2.2⟩⟩⟩⟩)⟩, ⟨blk_a⟩, ⟨blk_a⟩, ⟨blk_a⟩, ⟨blk_a⟩, ⟨blk_a⟩, ⟨blk_a⟩, ⟨below_a⟩⟩
          ·
           rw [if_neg c113] at H; have c113b0 : decide (t353 < t357) = false := decide_eq_false c113; clear c113; (first | rw [c113b0] | (simp only [i64_w, i32_w]; rw [c113b0]) | skip); have H' := Aside0.mk H; clear H
           go_wp2
           go_meet
           case rel => exact ⟨_, (t353), eq_b, H', ⟨by have := HJ8.out; have := HK2.out; first | omega | exact Nat.le_refl _⟩, ⟨by (with_reducible repeat (first | apply Kd.R_alloc | apply Kd.R_drewN | apply Kd.R_drew)); exact Kd.R_mono HO_359001.out (fun _ hk => ⟨hk.2.2.1, ⟨hk.2.2.2.1, ⟨hk.2.2.2.2.1, ⟨hk.2.2.2.2.2.1, hk.2.2.2.2.2.2⟩⟩⟩⟩)⟩, ⟨by (with_reducible repeat (first | apply Kd.R_alloc | apply Kd.R_drewN | apply Kd.R_drew)); exact Kd.R_mono HO_365002.out (fun _ hk => ⟨hk.2.2.1, ⟨hk.2.2.2.1, ⟨hk.2.2.2.2.1, ⟨hk.2.2.2.2.2.1, hk.2.2.2.2.2.2⟩⟩⟩⟩)⟩, ⟨by (with_reducible repeat (first | apply Kd.R_alloc | apply Kd.R_drewN | apply Kd.R_drew)); exact Kd.R_mono HO_373001.out (fun _ hk => ⟨hk.2.2.1, ⟨hk.2.2.2.1, ⟨hk.2.2.2.2.1, ⟨hk.2.2.2.2.2.1, hk.2.2.2.2.2.2⟩⟩⟩⟩)⟩, ⟨by (with_reducible repeat (first | apply Kd.R_alloc | apply Kd.R_drewN | apply Kd.R_drew)); exact Kd.R_mono HO_378001.out (fun _ hk => ⟨hk.2.2.1, ⟨hk.2.2.2.1, ⟨hk.2.2.2.2.1, ⟨hk.2.2.2.2.2.1, hk.2.2.2.2.2.2⟩⟩⟩⟩)⟩, ⟨by (with_reducible repeat (first | apply Kd.R_alloc | apply Kd.R_drewN | apply Kd.R_drew)); exact Kd.R_mono HO_387001.out (fun _ hk => ⟨hk.2.2.1, ⟨hk.2.2.2.1, ⟨hk.2.2.2.2.1, ⟨hk.2.2.2.2.2.1, hk.2.2.2.2.2.2⟩⟩⟩⟩)⟩, ⟨by (with_reducible repeat (first | apply Kd.R_alloc | apply Kd.R_drewN | apply Kd.R_drew)); exact Kd.R_mono HO_388001.out (fun _ hk => ⟨hk.2.2.1, ⟨hk.2.2.2.1, ⟨hk.2.2.2.2.1, ⟨hk.2.2.2.2.2.1, hk.2.2.2.2.2.2⟩⟩⟩⟩)⟩, ⟨blk_a⟩, ⟨blk_a⟩, ⟨blk_a⟩, ⟨blk_a⟩, ⟨blk_a⟩, ⟨blk_a⟩, ⟨below_a⟩⟩
         case rest =>
          clear HC97
          try clear c1
          try clear c2
          try clear p2 p2
          try clear p4 p4
          try clear q4 q4
          try clear hx4
          try clear c5
          try clear p6
          try clear c7
          try clear c8
          try clear c9
          try clear c10
          try clear c11
          try clear c14
          try clear c16
          try clear c17
          try clear c18
          try clear c19
          try clear c20
          try clear p41 p41
          try clear q41 q41
          try clear hx41
          try clear c52
          try clear c54
          try clear c59
          try clear p64
          try clear c76
          try clear c79 c79b0
          try clear c80 c80b0
          try clear c81 c81b0
          try clear c82 c82b0
          try clear c83
          try clear c84
          try clear c85
          try clear c86
          try clear c87
          try clear c89 c89b0
          try clear c90 c90b0
          try clear c91 c91b0 c91b1
          try clear c93
          try clear c96 c96b0 c96b1
          try clear c98
          try clear c99
          try clear c100
          try clear c101
          try clear c102
          try clear c104
          try clear c105
          try clear c106
          try clear c107
          try clear c109
          try clear c110
          try clear c111
          try clear c113 c113b0
          try clear hcz103_0 hcz103_1
          try clear hcz108_0 hcz108_1 hcz108_2
          try clear hcz112_0 hcz112_1
          try clear hcz88_0 hcz88_1
          try clear hfz103_0 hfz103_1
          try clear hfz108_0 hfz108_1 hfz108_2
          try clear hfz112_0 hfz112_1
          try clear hfz88_0 hfz88_1
          try clear hx410_0
          try clear hx411_0
          try clear hx412_0
          try clear p410
          try clear p411
          try clear p412
          try clear q410
          try clear q411
          try clear q412
          obtain ⟨kq, x15_96, rfl, HA, HJ96, HO_359001, HO_365002, HO_373001, HO_378001, HO_387001, HO_388001, BK358, BK364, BK372, BK377, BK386, BK387, HB⟩ := hcut
          cases kq with
          | zero => exact absurd HA.out (by simp [laws_FnWindows.j3])
          | succ kj96 =>
           have H := HA.out; clear HA; simp only [laws_FnWindows.j3] at H; replace H := Option.bind_eq_some_iff.mp H; obtain ⟨t416, A1140, H⟩ := H; replace H : (if t416 = 0 then (if t360 = x15_96 then ((impl_TakeCounter.f kj96 t360 t361 t357).bind fun bt417 => (if bt417.1 = 6 then ((impl_IsNews.f kj96 t360 t361 (wrap64 (x15_96 - 16))).bind fun t422 => (if t422 = true then (none) else ((impl_NewWindow.f).bind fun bt423 => ((impl_WindowFault.f kj96 bt423.1 bt423.2).bind fun t427 => (if t427 = 0 then ((impl_NewWindow.f).bind fun bt428 => (if bt428.1 = (-1) then ((impl_NewWindow.f).bind fun bt432 => ((impl_IsNews.f kj96 bt432.1 bt432.2 t357).bind fun t436 => (some t436))) else (none))) else (none)))))) else (none))) else (none)) else (none)) = some r := H; have A114 := Aside0.mk A1140; clear A1140
           by_cases c115 : t416 = 0
           ·
            rw [if_pos c115] at H; have c115b0 : (t416 == 0) = true := beq_iff_eq.mpr c115; have c115b1 : (t416 != 0) = false := bne_eq_false_iff_eq.mpr c115; clear c115
            by_cases c116 : t360 = x15_96
            ·
             rw [if_pos c116] at H; have c116b0 : (t360 == x15_96) = true := beq_iff_eq.mpr c116; have c116b1 : (t360 != x15_96) = false := bne_eq_false_iff_eq.mpr c116; clear c116; replace H := Option.bind_eq_some_iff.mp H; obtain ⟨⟨t417, t418, t419⟩, A1170, H⟩ := H; replace H : (if t417 = 6 then ((impl_IsNews.f kj96 t360 t361 (wrap64 (x15_96 - 16))).bind fun t422 => (if t422 = true then (none) else ((impl_NewWindow.f).bind fun bt423 => ((impl_WindowFault.f kj96 bt423.1 bt423.2).bind fun t427 => (if t427 = 0 then ((impl_NewWindow.f).bind fun bt428 => (if bt428.1 = (-1) then ((impl_NewWindow.f).bind fun bt432 => ((impl_IsNews.f kj96 bt432.1 bt432.2 t357).bind fun t436 => (some t436))) else (none))) else (none)))))) else (none)) = some r := H; have A117 := Aside0.mk A1170; clear A1170
             by_cases c118 : t417 = 6
             ·
              rw [if_pos c118] at H; have c118b0 : (t417 == 6) = true := beq_iff_eq.mpr c118; have c118b1 : (t417 != 6) = false := bne_eq_false_iff_eq.mpr c118; clear c118; replace H := Option.bind_eq_some_iff.mp H; obtain ⟨t422, A1190, H⟩ := H; replace H : (if t422 = true then (none) else ((impl_NewWindow.f).bind fun bt423 => ((impl_WindowFault.f kj96 bt423.1 bt423.2).bind fun t427 => (if t427 = 0 then ((impl_NewWindow.f).bind fun bt428 => (if bt428.1 = (-1) then ((impl_NewWindow.f).bind fun bt432 => ((impl_IsNews.f kj96 bt432.1 bt432.2 t357).bind fun t436 => (some t436))) else (none))) else (none))))) = some r := H; have A119 := Aside0.mk A1190; clear A1190
              by_cases c120 : t422 = true
              ·
               subst c120; have H1 : (none) = some r := by rw [if_pos rfl] at H; exact H
               clear H; have H := H1; clear H1; exact absurd H (by simp)
              ·
               replace c120 := Bool.eq_false_iff.mpr c120; subst c120; have H1 : ((impl_NewWindow.f).bind fun bt423 => ((impl_WindowFault.f kj96 bt423.1 bt423.2).bind fun t427 => (if t427 = 0 then ((impl_NewWindow.f).bind fun bt428 => (if bt428.1 = (-1) then ((impl_NewWindow.f).bind fun bt432 => ((impl_IsNews.f kj96 bt432.1 bt432.2 t357).bind fun t436 => (some t436))) else (none))) else (none)))) = some r := by rw [if_neg (show ¬ (false = true) by decide)] at H; exact H
               clear H; have H := H1; clear H1; replace H := Option.bind_eq_some_iff.mp H; obtain ⟨⟨t423, t424⟩, A1210, H⟩ := H; replace H : ((impl_WindowFault.f kj96 t423 t424).bind fun t427 => (if t427 = 0 then ((impl_NewWindow.f).bind fun bt428 => (if bt428.1 = (-1) then ((impl_NewWindow.f).bind fun bt432 => ((impl_IsNews.f kj96 bt432.1 bt432.2 t357).bind fun t436 => (some t436))) else (none))) else (none))) = some r := H; have A121 := Aside0.mk A1210; clear A1210; replace H := Option.bind_eq_some_iff.mp H; obtain ⟨t427, A1220, H⟩ := H; replace H : (if t427 = 0 then ((impl_NewWindow.f).bind fun bt428 => (if bt428.1 = (-1) then ((impl_NewWindow.f).bind fun bt432 => ((impl_IsNews.f kj96 bt432.1 bt432.2 t357).bind fun t436 => (some t436))) else (none))) else (none)) = some r := H; have A122 := Aside0.mk A1220; clear A1220
               by_cases c123 : t427 = 0
               ·
                rw [if_pos c123] at H; have c123b0 : (t427 == 0) = true := beq_iff_eq.mpr c123; have c123b1 : (t427 != 0) = false := bne_eq_false_iff_eq.mpr c123; clear c123; replace H := Option.bind_eq_some_iff.mp H; obtain ⟨⟨t428, t429⟩, A1240, H⟩ := H; replace H : (if t428 = (-1) then ((impl_NewWindow.f).bind fun bt432 => ((impl_IsNews.f kj96 bt432.1 bt432.2 t357).bind fun t436 => (some t436))) else (none)) = some r := H; have A124 := Aside0.mk A1240; clear A1240
                by_cases c125 : t428 = (-1)
                ·
                 rw [if_pos c125] at H; have c125b0 : (t428 == (-1)) = true := beq_iff_eq.mpr c125; have c125b1 : (t428 != (-1)) = false := bne_eq_false_iff_eq.mpr c125; clear c125; replace H := Option.bind_eq_some_iff.mp H; obtain ⟨⟨t432, t433⟩, A1260, H⟩ := H; replace H : ((impl_IsNews.f kj96 t432 t433 t357).bind fun t436 => (some t436)) = some r := H; have A126 := Aside0.mk A1260; clear A1260; replace H := Option.bind_eq_some_iff.mp H; obtain ⟨t436, A1270, H⟩ := H; replace H : (some t436) = some r := H; have A127 := Aside0.mk A1270; clear A1270; obtain rfl := Option.some.inj H; have hnb128 := NB364_358.out; have hnc128 := NB358_364.out; have hnb129 := NB364_372.out; have hnc129 := NB372_364.out; have hnb130 := NB364_377.out; have hnc130 := NB377_364.out; have hnb131 := NB364_386.out; have hnc131 := NB386_364.out; have hnb132 := NB364_387.out; have hnc132 := NB387_364.out; obtain ⟨hcz133_0, hcz133_1, hcz133_2, hfz133_0, hfz133_1, hfz133_2⟩ := bc3_ BK364.out
                 go_wp2_with (first | ((with_reducible refine gate_callee (f := 16) rfl ?_); refine goesL_ (some 133) rfl rfl Try.func16 (by kernel_rfl) rfl #[.agg #[.int .i64 t360, .slice Ao18 t361.length co18]] rfl args_a ?_; (with_reducible refine (impl_WindowFault.calls kj96 t360 _ _ t361 t416 _ ?side1 ?side2 A114.out).mono ?_); (case side1 => repeat (first | exact (Kd.R_reads' HO_365002.out).2.2 | (with_reducible refine Kd.C_alloc ?_ _) | (with_reducible refine Kd.C_drewN ?_ _) | (with_reducible refine Kd.C_drew ?_))); (case side2 => exact (Kd.R_reads' HO_365002.out).2.1); rintro e w134 ⟨rfl, hb⟩; refine ⟨_, rfl, ?_⟩; replace HO_359001 := Aside0.mk (Kd.R_below (R_a HO_359001.out) hb); replace HO_365002 := Aside0.mk (Kd.R_below (R_a HO_365002.out) hb); replace HO_373001 := Aside0.mk (Kd.R_below (R_a HO_373001.out) hb); replace HO_378001 := Aside0.mk (Kd.R_below (R_a HO_378001.out) hb); replace HO_387001 := Aside0.mk (Kd.R_below (R_a HO_387001.out) hb); replace HO_388001 := Aside0.mk (Kd.R_below (R_a HO_388001.out) hb); replace BK358 := Aside0.mk (blk_below (g := gb358) blk_c hb); replace BK364 := Aside0.mk (blk_below (g := gb364) blk_c hb); replace BK372 := Aside0.mk (blk_below (g := gb372) blk_c hb); replace BK377 := Aside0.mk (blk_below (g := gb377) blk_c hb); replace BK386 := Aside0.mk (blk_below (g := gb386) blk_c hb); replace BK387 := Aside0.mk (blk_below (g := gb387) blk_c hb); replace HB := Aside0.mk (below_step below_a hb); (try clear hb); (try clear hb2); (try clear hk); (try clear hi); obtain ⟨hcz135_0, hcz135_1, hcz135_2, hfz135_0, hfz135_1, hfz135_2⟩ := bc3_ BK364.out) | (go_at_call 9; (with_reducible refine (impl_TakeCounter.calls kj96 t360 _ _ t361 t357 t417 t418 t419 _ ?side1 ?side2 A117.out).mono ?_); (case side1 => repeat (first | exact (Kd.R_reads' HO_365002.out).2.2 | (with_reducible refine Kd.C_alloc ?_ _) | (with_reducible refine Kd.C_drewN ?_ _) | (with_reducible refine Kd.C_drew ?_))); (case side2 => exact (Kd.R_reads' HO_365002.out).2.1); rintro e w136 ⟨v420, rfl, ho0, hb⟩; have n0_ := Aside0.mk (Kd.R_elder' (R_a HO_359001.out) (Kd.R_base ho0) hb); have n1_ := Aside0.mk (Kd.R_elder' (R_a HO_365002.out) (Kd.R_base ho0) hb); have n2_ := Aside0.mk (Kd.R_elder' (R_a HO_373001.out) (Kd.R_base ho0) hb); have n3_ := Aside0.mk (Kd.R_elder' (R_a HO_378001.out) (Kd.R_base ho0) hb); have n4_ := Aside0.mk (Kd.R_elder' (R_a HO_387001.out) (Kd.R_base ho0) hb); have n5_ := Aside0.mk (Kd.R_elder' (R_a HO_388001.out) (Kd.R_base ho0) hb); have HO421 := Aside0.mk (Kd.R_lower (Kd.R_new' (Kd.R_new' (Kd.R_new' (Kd.R_new' (Kd.R_new' (Kd.R_new' ho0 (Kd.R_lt (R_a HO_359001.out))) (Kd.R_lt (R_a HO_365002.out))) (Kd.R_lt (R_a HO_373001.out))) (Kd.R_lt (R_a HO_378001.out))) (Kd.R_lt (R_a HO_387001.out))) (Kd.R_lt (R_a HO_388001.out))) (below_size below_a)); replace BK358 := Aside0.mk (blk_below (g := gb358) blk_c hb); replace BK364 := Aside0.mk (blk_below (g := gb364) blk_c hb); replace BK372 := Aside0.mk (blk_below (g := gb372) blk_c hb); replace BK377 := Aside0.mk (blk_below (g := gb377) blk_c hb); replace BK386 := Aside0.mk (blk_below (g := gb386) blk_c hb); replace BK387 := Aside0.mk (blk_below (g := gb387) blk_c hb); replace HB := Aside0.mk (below_step below_a hb); replace HO_359001 := n0_; replace HO_365002 := n1_; replace HO_373001 := n2_; replace HO_378001 := n3_; replace HO_387001 := n4_; replace HO_388001 := n5_; clear n0_ n1_ n2_ n3_ n4_ n5_; (try clear hb); (try clear hb2); (try clear hk); (try clear hi); (try clear ho0); obtain ⟨hcz137_0, hcz137_1, hcz137_2, hfz137_0, hfz137_1, hfz137_2⟩ := bc3_ BK364.out) | (go_at_call 15; (with_reducible refine (impl_IsNews.calls kj96 t360 _ _ t361 (wrap64 (x15_96 - 16)) false _ ?side1 ?side2 A119.out).mono ?_); (case side1 => repeat (first | exact (Kd.R_reads' HO_365002.out).2.2 | (with_reducible refine Kd.C_alloc ?_ _) | (with_reducible refine Kd.C_drewN ?_ _) | (with_reducible refine Kd.C_drew ?_))); (case side2 => exact (Kd.R_reads' HO_365002.out).2.1); rintro e w138 ⟨rfl, hb⟩; replace HO_359001 := Aside0.mk (Kd.R_below (R_a HO_359001.out) hb); replace HO_365002 := Aside0.mk (Kd.R_below (R_a HO_365002.out) hb); replace HO_373001 := Aside0.mk (Kd.R_below (R_a HO_373001.out) hb); replace HO_378001 := Aside0.mk (Kd.R_below (R_a HO_378001.out) hb); replace HO_387001 := Aside0.mk (Kd.R_below (R_a HO_387001.out) hb); replace HO_388001 := Aside0.mk (Kd.R_below (R_a HO_388001.out) hb); replace HO421 := Aside0.mk (Kd.R_below (R_a HO421.out) hb); replace BK358 := Aside0.mk (blk_below (g := gb358) blk_c hb); replace BK364 := Aside0.mk (blk_below (g := gb364) blk_c hb); replace BK372 := Aside0.mk (blk_below (g := gb372) blk_c hb); replace BK377 := Aside0.mk (blk_below (g := gb377) blk_c hb); replace BK386 := Aside0.mk (blk_below (g := gb386) blk_c hb); replace BK387 := Aside0.mk (blk_below (g := gb387) blk_c hb); replace HB := Aside0.mk (below_step below_a hb); (try clear hb); (try clear hb2); (try clear hk); (try clear hi)) | (go_at_call 21; (with_reducible refine (impl_NewWindow.calls  t423 t424 _ A121.out).mono ?_); clear A121; rintro e w139 ⟨v425, rfl, ho0, hb⟩; have n0_ := Aside0.mk (Kd.R_elder' (R_a HO_359001.out) (Kd.R_base ho0) hb); have n1_ := Aside0.mk (Kd.R_elder' (R_a HO_365002.out) (Kd.R_base ho0) hb); have n2_ := Aside0.mk (Kd.R_elder' (R_a HO_373001.out) (Kd.R_base ho0) hb); have n3_ := Aside0.mk (Kd.R_elder' (R_a HO_378001.out) (Kd.R_base ho0) hb); have n4_ := Aside0.mk (Kd.R_elder' (R_a HO_387001.out) (Kd.R_base ho0) hb); have n5_ := Aside0.mk (Kd.R_elder' (R_a HO_388001.out) (Kd.R_base ho0) hb); have n6_ := Aside0.mk (Kd.R_elder' (R_a HO421.out) (Kd.R_base ho0) hb); have HO426 := Aside0.mk (Kd.R_lower (Kd.R_new' (Kd.R_new' (Kd.R_new' (Kd.R_new' (Kd.R_new' (Kd.R_new' (Kd.R_new' ho0 (Kd.R_lt (R_a HO_359001.out))) (Kd.R_lt (R_a HO_365002.out))) (Kd.R_lt (R_a HO_373001.out))) (Kd.R_lt (R_a HO_378001.out))) (Kd.R_lt (R_a HO_387001.out))) (Kd.R_lt (R_a HO_388001.out))) (Kd.R_lt (R_a HO421.out))) (below_size below_a)); replace BK358 := Aside0.mk (blk_below (g := gb358) blk_c hb); replace BK364 := Aside0.mk (blk_below (g := gb364) blk_c hb); replace BK372 := Aside0.mk (blk_below (g := gb372) blk_c hb); replace BK377 := Aside0.mk (blk_below (g := gb377) blk_c hb); replace BK386 := Aside0.mk (blk_below (g := gb386) blk_c hb); replace BK387 := Aside0.mk (blk_below (g := gb387) blk_c hb); replace HB := Aside0.mk (below_step below_a hb); replace HO_359001 := n0_; replace HO_365002 := n1_; replace HO_373001 := n2_; replace HO_378001 := n3_; replace HO_387001 := n4_; replace HO_388001 := n5_; replace HO421 := n6_; clear n0_ n1_ n2_ n3_ n4_ n5_ n6_; (try clear hb); (try clear hb2); (try clear hk); (try clear hi); (try clear ho0); obtain ⟨Ao140, co140, eo140⟩ := Kd.R_slice HO426.out; subst eo140) | (go_at_call 16; (with_reducible refine (impl_WindowFault.calls kj96 t423 _ _ t424 t427 _ ?side1 ?side2 A122.out).mono ?_); (case side1 => repeat (first | exact (Kd.R_reads' HO426.out).2.2 | (with_reducible refine Kd.C_alloc ?_ _) | (with_reducible refine Kd.C_drewN ?_ _) | (with_reducible refine Kd.C_drew ?_))); (case side2 => exact (Kd.R_reads' HO426.out).2.1); rintro e w141 ⟨rfl, hb⟩; replace HO_359001 := Aside0.mk (Kd.R_below (R_a HO_359001.out) hb); replace HO_365002 := Aside0.mk (Kd.R_below (R_a HO_365002.out) hb); replace HO_373001 := Aside0.mk (Kd.R_below (R_a HO_373001.out) hb); replace HO_378001 := Aside0.mk (Kd.R_below (R_a HO_378001.out) hb); replace HO_387001 := Aside0.mk (Kd.R_below (R_a HO_387001.out) hb); replace HO_388001 := Aside0.mk (Kd.R_below (R_a HO_388001.out) hb); replace HO421 := Aside0.mk (Kd.R_below (R_a HO421.out) hb); replace HO426 := Aside0.mk (Kd.R_below (R_a HO426.out) hb); replace BK358 := Aside0.mk (blk_below (g := gb358) blk_c hb); replace BK364 := Aside0.mk (blk_below (g := gb364) blk_c hb); replace BK372 := Aside0.mk (blk_below (g := gb372) blk_c hb); replace BK377 := Aside0.mk (blk_below (g := gb377) blk_c hb); replace BK386 := Aside0.mk (blk_below (g := gb386) blk_c hb); replace BK387 := Aside0.mk (blk_below (g := gb387) blk_c hb); replace HB := Aside0.mk (below_step below_a hb); (try clear hb); (try clear hb2); (try clear hk); (try clear hi)) | (go_at_call 21; (with_reducible refine (impl_NewWindow.calls  t428 t429 _ A124.out).mono ?_); clear A124; rintro e w142 ⟨v430, rfl, ho0, hb⟩; have n0_ := Aside0.mk (Kd.R_elder' (R_a HO_359001.out) (Kd.R_base ho0) hb); have n1_ := Aside0.mk (Kd.R_elder' (R_a HO_365002.out) (Kd.R_base ho0) hb); have n2_ := Aside0.mk (Kd.R_elder' (R_a HO_373001.out) (Kd.R_base ho0) hb); have n3_ := Aside0.mk (Kd.R_elder' (R_a HO_378001.out) (Kd.R_base ho0) hb); have n4_ := Aside0.mk (Kd.R_elder' (R_a HO_387001.out) (Kd.R_base ho0) hb); have n5_ := Aside0.mk (Kd.R_elder' (R_a HO_388001.out) (Kd.R_base ho0) hb); have n6_ := Aside0.mk (Kd.R_elder' (R_a HO421.out) (Kd.R_base ho0) hb); have n7_ := Aside0.mk (Kd.R_elder' (R_a HO426.out) (Kd.R_base ho0) hb); have HO431 := Aside0.mk (Kd.R_lower (Kd.R_new' (Kd.R_new' (Kd.R_new' (Kd.R_new' (Kd.R_new' (Kd.R_new' (Kd.R_new' (Kd.R_new' ho0 (Kd.R_lt (R_a HO_359001.out))) (Kd.R_lt (R_a HO_365002.out))) (Kd.R_lt (R_a HO_373001.out))) (Kd.R_lt (R_a HO_378001.out))) (Kd.R_lt (R_a HO_387001.out))) (Kd.R_lt (R_a HO_388001.out))) (Kd.R_lt (R_a HO421.out))) (Kd.R_lt (R_a HO426.out))) (below_size below_a)); replace BK358 := Aside0.mk (blk_below (g := gb358) blk_c hb); replace BK364 := Aside0.mk (blk_below (g := gb364) blk_c hb); replace BK372 := Aside0.mk (blk_below (g := gb372) blk_c hb); replace BK377 := Aside0.mk (blk_below (g := gb377) blk_c hb); replace BK386 := Aside0.mk (blk_below (g := gb386) blk_c hb); replace BK387 := Aside0.mk (blk_below (g := gb387) blk_c hb); replace HB := Aside0.mk (below_step below_a hb); replace HO_359001 := n0_; replace HO_365002 := n1_; replace HO_373001 := n2_; replace HO_378001 := n3_; replace HO_387001 := n4_; replace HO_388001 := n5_; replace HO421 := n6_; replace HO426 := n7_; clear n0_ n1_ n2_ n3_ n4_ n5_ n6_ n7_; (try clear hb); (try clear hb2); (try clear hk); (try clear hi); (try clear ho0)) | (go_at_call 21; (with_reducible refine (impl_NewWindow.calls  t432 t433 _ A126.out).mono ?_); clear A126; rintro e w143 ⟨v434, rfl, ho0, hb⟩; have n0_ := Aside0.mk (Kd.R_elder' (R_a HO_359001.out) (Kd.R_base ho0) hb); have n1_ := Aside0.mk (Kd.R_elder' (R_a HO_365002.out) (Kd.R_base ho0) hb); have n2_ := Aside0.mk (Kd.R_elder' (R_a HO_373001.out) (Kd.R_base ho0) hb); have n3_ := Aside0.mk (Kd.R_elder' (R_a HO_378001.out) (Kd.R_base ho0) hb); have n4_ := Aside0.mk (Kd.R_elder' (R_a HO_387001.out) (Kd.R_base ho0) hb); have n5_ := Aside0.mk (Kd.R_elder' (R_a HO_388001.out) (Kd.R_base ho0) hb); have n6_ := Aside0.mk (Kd.R_elder' (R_a HO421.out) (Kd.R_base ho0) hb); have n7_ := Aside0.mk (Kd.R_elder' (R_a HO426.out) (Kd.R_base ho0) hb); have n8_ := Aside0.mk (Kd.R_elder' (R_a HO431.out) (Kd.R_base ho0) hb); have HO435 := Aside0.mk (Kd.R_lower (Kd.R_new' (Kd.R_new' (Kd.R_new' (Kd.R_new' (Kd.R_new' (Kd.R_new' (Kd.R_new' (Kd.R_new' (Kd.R_new' ho0 (Kd.R_lt (R_a HO_359001.out))) (Kd.R_lt (R_a HO_365002.out))) (Kd.R_lt (R_a HO_373001.out))) (Kd.R_lt (R_a HO_378001.out))) (Kd.R_lt (R_a HO_387001.out))) (Kd.R_lt (R_a HO_388001.out))) (Kd.R_lt (R_a HO421.out))) (Kd.R_lt (R_a HO426.out))) (Kd.R_lt (R_a HO431.out))) (below_size below_a)); replace BK358 := Aside0.mk (blk_below (g := gb358) blk_c hb); replace BK364 := Aside0.mk (blk_below (g := gb364) blk_c hb); replace BK372 := Aside0.mk (blk_below (g := gb372) blk_c hb); replace BK377 := Aside0.mk (blk_below (g := gb377) blk_c hb); replace BK386 := Aside0.mk (blk_below (g := gb386) blk_c hb); replace BK387 := Aside0.mk (blk_below (g := gb387) blk_c hb); replace HB := Aside0.mk (below_step below_a hb); replace HO_359001 := n0_; replace HO_365002 := n1_; replace HO_373001 := n2_; replace HO_378001 := n3_; replace HO_387001 := n4_; replace HO_388001 := n5_; replace HO421 := n6_; replace HO426 := n7_; replace HO431 := n8_; clear n0_ n1_ n2_ n3_ n4_ n5_ n6_ n7_ n8_; (try clear hb); (try clear hb2); (try clear hk); (try clear hi); (try clear ho0); obtain ⟨Ao144, co144, eo144⟩ := Kd.R_slice HO435.out; subst eo144) | (go_at_call 15; (with_reducible refine (impl_IsNews.calls kj96 t432 _ _ t433 t357 t436 _ ?side1 ?side2 A127.out).mono ?_); (case side1 => repeat (first | exact (Kd.R_reads' HO435.out).2.2 | (with_reducible refine Kd.C_alloc ?_ _) | (with_reducible refine Kd.C_drewN ?_ _) | (with_reducible refine Kd.C_drew ?_))); (case side2 => exact (Kd.R_reads' HO435.out).2.1); rintro e w145 ⟨rfl, hb⟩; replace HO_359001 := Aside0.mk (Kd.R_below (R_a HO_359001.out) hb); replace HO_365002 := Aside0.mk (Kd.R_below (R_a HO_365002.out) hb); replace HO_373001 := Aside0.mk (Kd.R_below (R_a HO_373001.out) hb); replace HO_378001 := Aside0.mk (Kd.R_below (R_a HO_378001.out) hb); replace HO_387001 := Aside0.mk (Kd.R_below (R_a HO_387001.out) hb); replace HO_388001 := Aside0.mk (Kd.R_below (R_a HO_388001.out) hb); replace HO421 := Aside0.mk (Kd.R_below (R_a HO421.out) hb); replace HO426 := Aside0.mk (Kd.R_below (R_a HO426.out) hb); replace HO431 := Aside0.mk (Kd.R_below (R_a HO431.out) hb); replace HO435 := Aside0.mk (Kd.R_below (R_a HO435.out) hb); replace BK358 := Aside0.mk (blk_below (g := gb358) blk_c hb); replace BK364 := Aside0.mk (blk_below (g := gb364) blk_c hb); replace BK372 := Aside0.mk (blk_below (g := gb372) blk_c hb); replace BK377 := Aside0.mk (blk_below (g := gb377) blk_c hb); replace BK386 := Aside0.mk (blk_below (g := gb386) blk_c hb); replace BK387 := Aside0.mk (blk_below (g := gb387) blk_c hb); replace HB := Aside0.mk (below_step below_a hb); (try clear hb); (try clear hb2); (try clear hk); (try clear hi)))
                 go_ret
                 exact ⟨eq_a, below_a⟩
                ·
                 rw [if_neg c125] at H; exact absurd H (by simp)
               ·
                rw [if_neg c123] at H; exact absurd H (by simp)
             ·
              rw [if_neg c118] at H; exact absurd H (by simp)
            ·
             rw [if_neg c116] at H; exact absurd H (by simp)
           ·
            rw [if_neg c115] at H; exact absurd H (by simp)
        ·
         rw [if_neg c96] at H; have c96b0 : (t359 == 0) = false := beq_eq_false_iff_ne.mpr c96; have c96b1 : (t359 != 0) = true := bne_iff_ne.mpr c96; obtain rfl := Option.some.inj H; have hnb146 := NB377_358.out; have hnc146 := NB358_377.out; have hnb147 := NB377_364.out; have hnc147 := NB364_377.out; have hnb148 := NB377_372.out; have hnc148 := NB372_377.out; have hnb149 := NB377_386.out; have hnc149 := NB386_377.out; have hnb150 := NB377_387.out; have hnc150 := NB387_377.out; obtain ⟨hcz151_0, hcz151_1, hfz151_0, hfz151_1⟩ := bc2_ BK377.out; have hnb152 := NB364_358.out; have hnc152 := NB358_364.out; have hnb153 := NB364_372.out; have hnc153 := NB372_364.out; have hnb154 := NB364_386.out; have hnc154 := NB386_364.out; have hnb155 := NB364_387.out; have hnc155 := NB387_364.out; obtain ⟨hcz156_0, hcz156_1, hcz156_2, hfz156_0, hfz156_1, hfz156_2⟩ := bc3_ BK364.out
         go_wp2
         go_ret
         exact ⟨eq_a, below_a⟩

/-- THE ONE PURE STATEMENT of laws_FnWindows: yours. -/
def laws_FnWindows.Pure : Prop := ∀ (l0 : List Int), l0.length ≤ maxLen → l0.length * 1 ≤ 140737488351232 → (∀ x ∈ l0, (Lit.int .u8 x).wf = true) → ∃ k, laws_FnWindows.f k l0 = some true
theorem laws_FnWindows.walk (P : laws_FnWindows.Pure) (a0 : Option Addr) (len0 cap0 : Nat) (z0 : List Int) (w : World) (w0 : (a0 = none ∧ len0 = 0 ∧ cap0 = 0 ∧ z0 = []) ∨ ∃ x, a0 = some x ∧ len0 ≤ cap0 ∧ cap0 ≤ maxLen ∧ z0.length = cap0 ∧ (∀ i, i < z0.length → w.cell? (x.add i) = some (.int .u8 (z0.getD i 0))) ∧ ∀ n ∈ z0, (Lit.int .u8 n).wf = true) (y0 : len0 * 1 ≤ 140737488351232) :
  Calls Try.prog 3 #[.slice a0 len0 cap0] w fun e w' => e = .returned (.bool true) ∧ Below w.heap.size w w' := by
 obtain ⟨l0, rfl, hr0, hm0, hw0, hc0⟩ := ReadsInt.ofRowC w0
 obtain ⟨k, h⟩ := P l0 hm0 y0 hw0
 refine (laws_FnWindows.calls k _ _ l0 true w (Kd.C_of_reads (d := (0 : Int)) (h1 := fun _ => rfl) hr0) hc0 h).mono ?_
 rintro e w' ⟨rfl, hd⟩
 exact ⟨rfl, hd⟩

end Go.Proofs.Ytbnibakamdhpdaa.MFnWindows
