-- Laid by a program of this session (the kit's print, turned where it falls short; the texts of functions that it does not take are proved by hand).
import Derived.Test.YtpinapnhohjipaaMFnDecidesx0
import Derived.Test.YtpinapnhohjipaaMFnDecidesx1
import Derived.Test.YtpinapnhohjipaaMFnDecidesx2
import Derived.Test.YtpinapnhohjipaaMFnDecidesx3
import Derived.Test.YtpinapnhohjipaaMFnDecidesx4
import Derived.Test.YtpinapnhohjipaaMFnDecidesx5
import Derived.Test.YtpinapnhohjipaaMFnDecidesx6
import Derived.Test.YtpinapnhohjipaaMFnDecidesx7
import Derived.Test.YtpinapnhohjipaaMFnDecidesx8
namespace Go.Proofs.Ytpinapnhohjipaa.MFnDecides
open Go.RowKit Go.Proofs.YtpinapnhohjipaaW.PrintWords Go.Proofs.YtpinapnhohjipaaW.PrintLast Go.Proofs.YtpinapnhohjipaaW.PrintMore
attribute [local go_sem] max2_int min2_int max_two min_two max_three min_three max_four min_four   -- for this text's walks alone
set_option linter.unusedVariables false
set_option linter.unusedSimpArgs false

attribute [local go_sem high] eqA51 eqA63
attribute [local go_sem] isSome_setCell run_field44_1
/-! ### laws_FnDecides: function 6 -/
mutual
def laws_FnDecides.j0 : Nat → List (S51) → Int → List (S51) → Bool → Int → Int → Int → Int → Int → Int → Int → Int → Int → Int → Int → Int → Int → Bool → Int → Int → Int → Int → Int → Bool → Int → Int → Int → Int → Int → Int → Int → Int → Int → Int → Int → Int → Bool → Option (Bool)
 | 0, _, _, _, _, _, _, _, _, _, _, _, _, _, _, _, _, _, _, _, _, _, _, _, _, _, _, _, _, _, _, _, _, _, _, _, _, _ => none
 | k + 1, x6, x7, x9, x56, x429000, x429001, x429002, x429003, x430000, x430001, x430002, x430003, x437000, x437001, x437002, x437003, x437004, x437005, x448000, x448001, x448002, x448003, x448004, x448005, x459000, x459001, x459002, x459003, x459004, x459005, x459006, x466000, x466001, x466002, x466003, x466004, x466005 => if x56 = true then (none) else (if x448000 = 0 then (if x448005 = true then ((spec_FindClaim.f k x6 x7).bind fun bt484 => (if 0 < (bt484.2.1.length : Int) then ((impl_Beats.f x448001 x448002 x448003 x448004 ((rd_T51 bt484.2.1 0).f0) ((rd_T51 bt484.2.1 0).f1) ((rd_T51 bt484.2.1 0).f2) ((rd_T51 bt484.2.1 0).f3)).bind fun t490 => (if t490 = true then ((spec_FindClaim.f k x6 x7).bind fun bt491 => (if 0 < (bt491.2.1.length : Int) then (laws_FnDecides.j1 k x9 (x448002 != ((rd_T51 bt491.2.1 0).f1)) x429000 x429001 x429002 x429003 x430000 x430001 x430002 x430003 x437000 x437001 x437002 x437003 x437004 x437005 x459000 x459001 x459002 x459003 x459004 x459005 x459006 x466000 x466001 x466002 x466003 x466004 x466005) else (none))) else (none))) else (none))) else (laws_FnDecides.j1 k x9 false x429000 x429001 x429002 x429003 x430000 x430001 x430002 x430003 x437000 x437001 x437002 x437003 x437004 x437005 x459000 x459001 x459002 x459003 x459004 x459005 x459006 x466000 x466001 x466002 x466003 x466004 x466005)) else (laws_FnDecides.j1 k x9 false x429000 x429001 x429002 x429003 x430000 x430001 x430002 x430003 x437000 x437001 x437002 x437003 x437004 x437005 x459000 x459001 x459002 x459003 x459004 x459005 x459006 x466000 x466001 x466002 x466003 x466004 x466005))
def laws_FnDecides.j1 : Nat → List (S51) → Bool → Int → Int → Int → Int → Int → Int → Int → Int → Int → Int → Int → Int → Int → Bool → Int → Int → Int → Int → Int → Int → Int → Int → Int → Int → Int → Int → Bool → Option (Bool)
 | 0, _, _, _, _, _, _, _, _, _, _, _, _, _, _, _, _, _, _, _, _, _, _, _, _, _, _, _, _, _ => none
 | k + 1, x9, x88, x429000, x429001, x429002, x429003, x430000, x430001, x430002, x430003, x437000, x437001, x437002, x437003, x437004, x437005, x459000, x459001, x459002, x459003, x459004, x459005, x459006, x466000, x466001, x466002, x466003, x466004, x466005 => if x88 = true then (none) else (if x466000 = 0 then (if x466005 = true then (if x466002 = x459003 then (if x466003 = 2 then ((spec_FindClaim.f k x9 x459002).bind fun bt497 => (if 0 < (bt497.2.1.length : Int) then ((impl_Beats.f x466001 x466002 x466003 x466004 ((rd_T51 bt497.2.1 0).f0) ((rd_T51 bt497.2.1 0).f1) ((rd_T51 bt497.2.1 0).f2) ((rd_T51 bt497.2.1 0).f3)).bind fun t503 => (laws_FnDecides.j2 k (!t503) x429000 x429001 x429002 x429003 x430000 x430001 x430002 x430003 x437000 x437001 x437002 x437003 x437004 x437005)) else (none))) else (none)) else (none)) else (laws_FnDecides.j2 k false x429000 x429001 x429002 x429003 x430000 x430001 x430002 x430003 x437000 x437001 x437002 x437003 x437004 x437005)) else (laws_FnDecides.j2 k false x429000 x429001 x429002 x429003 x430000 x430001 x430002 x430003 x437000 x437001 x437002 x437003 x437004 x437005))
def laws_FnDecides.j2 : Nat → Bool → Int → Int → Int → Int → Int → Int → Int → Int → Int → Int → Int → Int → Int → Bool → Option (Bool)
 | 0, _, _, _, _, _, _, _, _, _, _, _, _, _, _, _ => none
 | k + 1, x122, x429000, x429001, x429002, x429003, x430000, x430001, x430002, x430003, x437000, x437001, x437002, x437003, x437004, x437005 => if x122 = true then (none) else (if x437000 = 0 then ((impl_Beats.f x430000 x430001 x430002 x430003 x437001 x437002 x437003 x437004).bind fun t504 => (if t504 = true then (none) else (if x437001 = x429000 then (if x437004 = x429003 then (if x437005 = true then ((impl_Beats.f x437001 x437002 x437003 x437004 x429000 x429001 x429002 x429003).bind fun t505 => (if t505 = true then ((impl_Beats.f x437001 x437002 x437003 x437004 x430000 x430001 x430002 x430003).bind fun t506 => (if t506 = true then (some (x437003 == 0)) else (none))) else (none))) else (if (x437001 == x429000 && (x437002 == x429001 && (x437003 == x429002 && (x437004 == x429003)))) = true then (some true) else (none))) else (none)) else (none)))) else (some true))
end
def laws_FnDecides.f (k : Nat) (l0 : List Int) : Option (Bool) := (laws_lwBig.f l0).bind fun t419 => (if t419 = true then (some true) else ((spec_DrawRefuteBy.f k l0).bind fun bt420 => ((impl_RefuteBy.f k bt420.1 bt420.2.1 bt420.2.2.1 bt420.2.2.2.1 bt420.2.2.2.2.1 bt420.2.2.2.2.2.1 bt420.2.2.2.2.2.2.1 bt420.2.2.2.2.2.2.2).bind fun bt430 => ((spec_DrawSuspectBy.f k l0).bind fun bt437 => ((impl_SuspectBy.f k bt437.1 bt437.2).bind fun bt441 => ((spec_DrawBuryBy.f k l0).bind fun bt448 => ((impl_BuryBy.f k bt448.1 bt448.2.1 bt448.2.2.1 bt448.2.2.2.1 bt448.2.2.2.2.1 bt448.2.2.2.2.2.1 bt448.2.2.2.2.2.2.1 bt448.2.2.2.2.2.2.2).bind fun bt459 => ((spec_RefuteBy.f bt420.1 bt420.2.1 bt420.2.2.1 bt420.2.2.2.1 bt420.2.2.2.2.1 bt420.2.2.2.2.2.1 bt420.2.2.2.2.2.2.1 bt420.2.2.2.2.2.2.2).bind fun bt466 => (if (!(bt430.1 == bt466.1) || ((!(bt430.2.1 == bt466.2.1) || (!(bt430.2.2.1 == bt466.2.2.1) || (!(bt430.2.2.2.1 == bt466.2.2.2.1) || (!(bt430.2.2.2.2.1 == bt466.2.2.2.2.1))))) || (!(bt430.2.2.2.2.2 == bt466.2.2.2.2.2)))) = true then (none) else ((spec_SuspectBy.f k bt437.1 bt437.2).bind fun bt472 => (if (!(bt441.1 == bt472.1) || ((!(bt441.2.1 == bt472.2.1) || (!(bt441.2.2.1 == bt472.2.2.1) || (!(bt441.2.2.2.1 == bt472.2.2.2.1) || (!(bt441.2.2.2.2.1 == bt472.2.2.2.2.1))))) || (!(bt441.2.2.2.2.2 == bt472.2.2.2.2.2)))) = true then (none) else ((spec_BuryBy.f k bt448.1 bt448.2.1 bt448.2.2.1 bt448.2.2.2.1 bt448.2.2.2.2.1 bt448.2.2.2.2.2.1 bt448.2.2.2.2.2.2.1 bt448.2.2.2.2.2.2.2).bind fun bt478 => (laws_FnDecides.j0 k bt437.1 bt437.2 bt448.1 (!(bt459.1 == bt478.1) || ((!(bt459.2.1 == bt478.2.1) || (!(bt459.2.2.1 == bt478.2.2.1) || (!(bt459.2.2.2.1 == bt478.2.2.2.1) || (!(bt459.2.2.2.2.1 == bt478.2.2.2.2.1))))) || (!(bt459.2.2.2.2.2 == bt478.2.2.2.2.2)))) bt420.1 bt420.2.1 bt420.2.2.1 bt420.2.2.2.1 bt420.2.2.2.2.1 bt420.2.2.2.2.2.1 bt420.2.2.2.2.2.2.1 bt420.2.2.2.2.2.2.2 bt430.1 bt430.2.1 bt430.2.2.1 bt430.2.2.2.1 bt430.2.2.2.2.1 bt430.2.2.2.2.2 bt441.1 bt441.2.1 bt441.2.2.1 bt441.2.2.2.1 bt441.2.2.2.2.1 bt441.2.2.2.2.2 bt448.2.1 bt448.2.2.1 bt448.2.2.2.1 bt448.2.2.2.2.1 bt448.2.2.2.2.2.1 bt448.2.2.2.2.2.2.1 bt448.2.2.2.2.2.2.2 bt459.1 bt459.2.1 bt459.2.2.1 bt459.2.2.2.1 bt459.2.2.2.2.1 bt459.2.2.2.2.2)))))))))))))
theorem laws_FnDecides.mono_l : ∀ k, (∀ y0 y1 y2 y3 y4 y5 y6 y7 y8 y9 y10 y11 y12 y13 y14 y15 y16 y17 y18 y19 y20 y21 y22 y23 y24 y25 y26 y27 y28 y29 y30 y31 y32 y33 y34 y35 y36, LeO (laws_FnDecides.j0 k y0 y1 y2 y3 y4 y5 y6 y7 y8 y9 y10 y11 y12 y13 y14 y15 y16 y17 y18 y19 y20 y21 y22 y23 y24 y25 y26 y27 y28 y29 y30 y31 y32 y33 y34 y35 y36) (laws_FnDecides.j0 (k + 1) y0 y1 y2 y3 y4 y5 y6 y7 y8 y9 y10 y11 y12 y13 y14 y15 y16 y17 y18 y19 y20 y21 y22 y23 y24 y25 y26 y27 y28 y29 y30 y31 y32 y33 y34 y35 y36)) ∧ (∀ y0 y1 y2 y3 y4 y5 y6 y7 y8 y9 y10 y11 y12 y13 y14 y15 y16 y17 y18 y19 y20 y21 y22 y23 y24 y25 y26 y27 y28, LeO (laws_FnDecides.j1 k y0 y1 y2 y3 y4 y5 y6 y7 y8 y9 y10 y11 y12 y13 y14 y15 y16 y17 y18 y19 y20 y21 y22 y23 y24 y25 y26 y27 y28) (laws_FnDecides.j1 (k + 1) y0 y1 y2 y3 y4 y5 y6 y7 y8 y9 y10 y11 y12 y13 y14 y15 y16 y17 y18 y19 y20 y21 y22 y23 y24 y25 y26 y27 y28)) ∧ (∀ y0 y1 y2 y3 y4 y5 y6 y7 y8 y9 y10 y11 y12 y13 y14, LeO (laws_FnDecides.j2 k y0 y1 y2 y3 y4 y5 y6 y7 y8 y9 y10 y11 y12 y13 y14) (laws_FnDecides.j2 (k + 1) y0 y1 y2 y3 y4 y5 y6 y7 y8 y9 y10 y11 y12 y13 y14))
 | 0 => ⟨fun _ _ _ _ _ _ _ _ _ _ _ _ _ _ _ _ _ _ _ _ _ _ _ _ _ _ _ _ _ _ _ _ _ _ _ _ _ r h => by simp [laws_FnDecides.j0] at h, fun _ _ _ _ _ _ _ _ _ _ _ _ _ _ _ _ _ _ _ _ _ _ _ _ _ _ _ _ _ r h => by simp [laws_FnDecides.j1] at h, fun _ _ _ _ _ _ _ _ _ _ _ _ _ _ _ r h => by simp [laws_FnDecides.j2] at h⟩
 | k + 1 => by
  obtain ⟨ih0, ih1, ih2⟩ := laws_FnDecides.mono_l k; refine ⟨?_, ?_, ?_⟩
  ·
   intro y0 y1 y2 y3 y4 y5 y6 y7 y8 y9 y10 y11 y12 y13 y14 y15 y16 y17 y18 y19 y20 y21 y22 y23 y24 y25 y26 y27 y28 y29 y30 y31 y32 y33 y34 y35 y36
   unfold laws_FnDecides.j0
   repeat' first
   | (with_reducible exact ih0 _ _ _ _ _ _ _ _ _ _ _ _ _ _ _ _ _ _ _ _ _ _ _ _ _ _ _ _ _ _ _ _ _ _ _ _ _)
   | (with_reducible exact ih1 _ _ _ _ _ _ _ _ _ _ _ _ _ _ _ _ _ _ _ _ _ _ _ _ _ _ _ _ _)
   | (with_reducible exact ih2 _ _ _ _ _ _ _ _ _ _ _ _ _ _ _)
   | (with_reducible exact impl_BuryBy.mono _ _ _ _ _ _ _ _ _)
   | (with_reducible exact impl_RefuteBy.mono _ _ _ _ _ _ _ _ _)
   | (with_reducible exact impl_SuspectBy.mono _ _ _)
   | (with_reducible exact spec_BuryBy.mono _ _ _ _ _ _ _ _ _)
   | (with_reducible exact spec_DrawBuryBy.mono _ _)
   | (with_reducible exact spec_DrawRefuteBy.mono _ _)
   | (with_reducible exact spec_DrawSuspectBy.mono _ _)
   | (with_reducible exact spec_FindClaim.mono _ _ _)
   | (with_reducible exact spec_SuspectBy.mono _ _ _)
   | (with_reducible exact LeO.refl _)
   | (with_reducible exact LeO.none _)
   | (with_reducible refine LeO.ite ?_ ?_)
   | (with_reducible refine LeO.bind ?_ (fun _ => ?_))
   | exact ih0 _ _ _ _ _ _ _ _ _ _ _ _ _ _ _ _ _ _ _ _ _ _ _ _ _ _ _ _ _ _ _ _ _ _ _ _ _
   | exact ih1 _ _ _ _ _ _ _ _ _ _ _ _ _ _ _ _ _ _ _ _ _ _ _ _ _ _ _ _ _
   | exact ih2 _ _ _ _ _ _ _ _ _ _ _ _ _ _ _
   | exact impl_BuryBy.mono _ _ _ _ _ _ _ _ _
   | exact impl_RefuteBy.mono _ _ _ _ _ _ _ _ _
   | exact impl_SuspectBy.mono _ _ _
   | exact spec_BuryBy.mono _ _ _ _ _ _ _ _ _
   | exact spec_DrawBuryBy.mono _ _
   | exact spec_DrawRefuteBy.mono _ _
   | exact spec_DrawSuspectBy.mono _ _
   | exact spec_FindClaim.mono _ _ _
   | exact spec_SuspectBy.mono _ _ _
   | exact LeO.none _
   | refine LeO.ite ?_ ?_
   | refine LeO.bind ?_ (fun _ => ?_)
  ·
   intro y0 y1 y2 y3 y4 y5 y6 y7 y8 y9 y10 y11 y12 y13 y14 y15 y16 y17 y18 y19 y20 y21 y22 y23 y24 y25 y26 y27 y28
   unfold laws_FnDecides.j1
   repeat' first
   | (with_reducible exact ih0 _ _ _ _ _ _ _ _ _ _ _ _ _ _ _ _ _ _ _ _ _ _ _ _ _ _ _ _ _ _ _ _ _ _ _ _ _)
   | (with_reducible exact ih1 _ _ _ _ _ _ _ _ _ _ _ _ _ _ _ _ _ _ _ _ _ _ _ _ _ _ _ _ _)
   | (with_reducible exact ih2 _ _ _ _ _ _ _ _ _ _ _ _ _ _ _)
   | (with_reducible exact impl_BuryBy.mono _ _ _ _ _ _ _ _ _)
   | (with_reducible exact impl_RefuteBy.mono _ _ _ _ _ _ _ _ _)
   | (with_reducible exact impl_SuspectBy.mono _ _ _)
   | (with_reducible exact spec_BuryBy.mono _ _ _ _ _ _ _ _ _)
   | (with_reducible exact spec_DrawBuryBy.mono _ _)
   | (with_reducible exact spec_DrawRefuteBy.mono _ _)
   | (with_reducible exact spec_DrawSuspectBy.mono _ _)
   | (with_reducible exact spec_FindClaim.mono _ _ _)
   | (with_reducible exact spec_SuspectBy.mono _ _ _)
   | (with_reducible exact LeO.refl _)
   | (with_reducible exact LeO.none _)
   | (with_reducible refine LeO.ite ?_ ?_)
   | (with_reducible refine LeO.bind ?_ (fun _ => ?_))
   | exact ih0 _ _ _ _ _ _ _ _ _ _ _ _ _ _ _ _ _ _ _ _ _ _ _ _ _ _ _ _ _ _ _ _ _ _ _ _ _
   | exact ih1 _ _ _ _ _ _ _ _ _ _ _ _ _ _ _ _ _ _ _ _ _ _ _ _ _ _ _ _ _
   | exact ih2 _ _ _ _ _ _ _ _ _ _ _ _ _ _ _
   | exact impl_BuryBy.mono _ _ _ _ _ _ _ _ _
   | exact impl_RefuteBy.mono _ _ _ _ _ _ _ _ _
   | exact impl_SuspectBy.mono _ _ _
   | exact spec_BuryBy.mono _ _ _ _ _ _ _ _ _
   | exact spec_DrawBuryBy.mono _ _
   | exact spec_DrawRefuteBy.mono _ _
   | exact spec_DrawSuspectBy.mono _ _
   | exact spec_FindClaim.mono _ _ _
   | exact spec_SuspectBy.mono _ _ _
   | exact LeO.none _
   | refine LeO.ite ?_ ?_
   | refine LeO.bind ?_ (fun _ => ?_)
  ·
   intro y0 y1 y2 y3 y4 y5 y6 y7 y8 y9 y10 y11 y12 y13 y14
   unfold laws_FnDecides.j2
   repeat' first
   | (with_reducible exact ih0 _ _ _ _ _ _ _ _ _ _ _ _ _ _ _ _ _ _ _ _ _ _ _ _ _ _ _ _ _ _ _ _ _ _ _ _ _)
   | (with_reducible exact ih1 _ _ _ _ _ _ _ _ _ _ _ _ _ _ _ _ _ _ _ _ _ _ _ _ _ _ _ _ _)
   | (with_reducible exact ih2 _ _ _ _ _ _ _ _ _ _ _ _ _ _ _)
   | (with_reducible exact impl_BuryBy.mono _ _ _ _ _ _ _ _ _)
   | (with_reducible exact impl_RefuteBy.mono _ _ _ _ _ _ _ _ _)
   | (with_reducible exact impl_SuspectBy.mono _ _ _)
   | (with_reducible exact spec_BuryBy.mono _ _ _ _ _ _ _ _ _)
   | (with_reducible exact spec_DrawBuryBy.mono _ _)
   | (with_reducible exact spec_DrawRefuteBy.mono _ _)
   | (with_reducible exact spec_DrawSuspectBy.mono _ _)
   | (with_reducible exact spec_FindClaim.mono _ _ _)
   | (with_reducible exact spec_SuspectBy.mono _ _ _)
   | (with_reducible exact LeO.refl _)
   | (with_reducible exact LeO.none _)
   | (with_reducible refine LeO.ite ?_ ?_)
   | (with_reducible refine LeO.bind ?_ (fun _ => ?_))
   | exact ih0 _ _ _ _ _ _ _ _ _ _ _ _ _ _ _ _ _ _ _ _ _ _ _ _ _ _ _ _ _ _ _ _ _ _ _ _ _
   | exact ih1 _ _ _ _ _ _ _ _ _ _ _ _ _ _ _ _ _ _ _ _ _ _ _ _ _ _ _ _ _
   | exact ih2 _ _ _ _ _ _ _ _ _ _ _ _ _ _ _
   | exact impl_BuryBy.mono _ _ _ _ _ _ _ _ _
   | exact impl_RefuteBy.mono _ _ _ _ _ _ _ _ _
   | exact impl_SuspectBy.mono _ _ _
   | exact spec_BuryBy.mono _ _ _ _ _ _ _ _ _
   | exact spec_DrawBuryBy.mono _ _
   | exact spec_DrawRefuteBy.mono _ _
   | exact spec_DrawSuspectBy.mono _ _
   | exact spec_FindClaim.mono _ _ _
   | exact spec_SuspectBy.mono _ _ _
   | exact LeO.none _
   | refine LeO.ite ?_ ?_
   | refine LeO.bind ?_ (fun _ => ?_)
theorem laws_FnDecides.mono : ∀ a0 k, LeO (laws_FnDecides.f k a0) (laws_FnDecides.f (k + 1) a0) := by
 intro a0 k
 obtain ⟨ih0, ih1, ih2⟩ := laws_FnDecides.mono_l k
 unfold laws_FnDecides.f
 repeat' first
   | (with_reducible exact ih0 _ _ _ _ _ _ _ _ _ _ _ _ _ _ _ _ _ _ _ _ _ _ _ _ _ _ _ _ _ _ _ _ _ _ _ _ _)
   | (with_reducible exact ih1 _ _ _ _ _ _ _ _ _ _ _ _ _ _ _ _ _ _ _ _ _ _ _ _ _ _ _ _ _)
   | (with_reducible exact ih2 _ _ _ _ _ _ _ _ _ _ _ _ _ _ _)
   | (with_reducible exact impl_BuryBy.mono _ _ _ _ _ _ _ _ _)
   | (with_reducible exact impl_RefuteBy.mono _ _ _ _ _ _ _ _ _)
   | (with_reducible exact impl_SuspectBy.mono _ _ _)
   | (with_reducible exact spec_BuryBy.mono _ _ _ _ _ _ _ _ _)
   | (with_reducible exact spec_DrawBuryBy.mono _ _)
   | (with_reducible exact spec_DrawRefuteBy.mono _ _)
   | (with_reducible exact spec_DrawSuspectBy.mono _ _)
   | (with_reducible exact spec_FindClaim.mono _ _ _)
   | (with_reducible exact spec_SuspectBy.mono _ _ _)
   | (with_reducible exact LeO.refl _)
   | (with_reducible exact LeO.none _)
   | (with_reducible refine LeO.ite ?_ ?_)
   | (with_reducible refine LeO.bind ?_ (fun _ => ?_))
   | exact ih0 _ _ _ _ _ _ _ _ _ _ _ _ _ _ _ _ _ _ _ _ _ _ _ _ _ _ _ _ _ _ _ _ _ _ _ _ _
   | exact ih1 _ _ _ _ _ _ _ _ _ _ _ _ _ _ _ _ _ _ _ _ _ _ _ _ _ _ _ _ _
   | exact ih2 _ _ _ _ _ _ _ _ _ _ _ _ _ _ _
   | exact impl_BuryBy.mono _ _ _ _ _ _ _ _ _
   | exact impl_RefuteBy.mono _ _ _ _ _ _ _ _ _
   | exact impl_SuspectBy.mono _ _ _
   | exact spec_BuryBy.mono _ _ _ _ _ _ _ _ _
   | exact spec_DrawBuryBy.mono _ _
   | exact spec_DrawRefuteBy.mono _ _
   | exact spec_DrawSuspectBy.mono _ _
   | exact spec_FindClaim.mono _ _ _
   | exact spec_SuspectBy.mono _ _ _
   | exact LeO.none _
   | refine LeO.ite ?_ ?_
   | refine LeO.bind ?_ (fun _ => ?_)
def laws_FnDecides.T9 : Bool × List (List Nat × List Nat) := (true, [([], []), ([], []), ([], []), ([1, 2], [1, 2]), ([0, 3], [0, 3]), ([4, 3], [4]), ([5], [5]), ([5], [5]), ([5], [5]), ([7, 8, 5, 5], [5, 7, 8]), ([6, 9, 5], [5, 6, 9]), ([5, 10], [5, 10]), ([11, 9], [11]), ([12], [12]), ([12], [12]), ([12], [12]), ([14, 15, 12, 12], [12, 14, 15]), ([13, 16, 12], [12, 13, 16]), ([12, 17], [12, 17])])
def laws_FnDecides.B9 : List Nat := [0, 0, 0, 6, 15, 31, 63, 63, 63, 447, 1023, 2047, 4095, 8191, 8191, 8191, 57343, 131071, 262143]
theorem laws_FnDecides.tab9 : rtab .any (opsOf Try.f6 9) = laws_FnDecides.T9 := by kernel_rfl
theorem laws_FnDecides.bits9 : waitsOk laws_FnDecides.T9.2 laws_FnDecides.B9 = true := by kernel_rfl
def laws_FnDecides.T11 : Bool × List (List Nat × List Nat) := (true, [([], []), ([0], [0]), ([1], [1]), ([2], [2]), ([3], [3]), ([4, 3], [3, 4]), ([3, 5], [3, 5]), ([6, 3], [6]), ([7], [7]), ([8, 7], [7, 8]), ([7], [7]), ([7], [7]), ([10, 11, 7, 7], [7, 10, 11]), ([12, 7], [7, 12]), ([13, 7], [7, 13]), ([14, 7], [7, 14]), ([9, 15, 12, 7], [7, 9, 15]), ([16, 7], [7, 16]), ([17, 16, 7], [7, 17]), ([18], [18]), ([19, 18], [18, 19]), ([20, 18], [18, 20]), ([18], [18]), ([18], [18]), ([22, 23, 18, 18], [18, 22, 23]), ([24, 18], [18, 24]), ([25, 18], [18, 25]), ([26, 18], [18, 26]), ([27, 18], [18, 27]), ([21, 28, 18], [18, 21, 28]), ([18, 29, 7], [7, 18, 29]), ([7, 30], [7, 30])])
def laws_FnDecides.B11 : List Nat := [0, 1, 3, 7, 15, 31, 63, 127, 255, 511, 255, 255, 3327, 7423, 15615, 31999, 65535, 131071, 262143, 524287, 1048575, 2097151, 524287, 524287, 13107199, 29884415, 63438847, 130547711, 264765439, 536870911, 1073741823, 2147483647]
theorem laws_FnDecides.tab11 : rtab .any (opsOf Try.f6 11) = laws_FnDecides.T11 := by kernel_rfl
theorem laws_FnDecides.bits11 : waitsOk laws_FnDecides.T11.2 laws_FnDecides.B11 = true := by kernel_rfl
def laws_FnDecides.T13 : Bool × List (List Nat × List Nat) := (true, [([], []), ([0], [0]), ([1], [1]), ([2], [2]), ([3], [3]), ([4, 3], [3, 4]), ([3, 5], [3, 5]), ([6, 3], [6]), ([7], [7]), ([8, 7], [7, 8]), ([9, 7], [7, 9]), ([7], [7]), ([11, 7], [7, 11]), ([10, 12, 7], [7, 10, 12]), ([13, 7, 7], [7, 13]), ([14], [14]), ([15, 14], [14, 15]), ([16, 14], [14, 16]), ([17, 14], [14, 17]), ([14, 18, 7], [7, 14, 18]), ([19, 14, 7], [7, 19]), ([20], [20]), ([21, 20], [20, 21]), ([20], [20]), ([20], [20]), ([24, 20], [20, 24]), ([23, 25, 20, 20], [20, 23, 25]), ([26, 20], [20, 26]), ([27, 20], [20, 27]), ([28, 20], [20, 28]), ([22, 29, 26, 20], [20, 22, 29]), ([30, 20], [20, 30]), ([20, 31, 7], [7, 20, 31]), ([7, 32], [7, 32])])
def laws_FnDecides.B13 : List Nat := [0, 1, 3, 7, 15, 31, 63, 127, 255, 511, 1023, 255, 2303, 8191, 16383, 32767, 65535, 131071, 262143, 524287, 1048575, 2097151, 4194303, 2097151, 2097151, 18874367, 60817407, 127926271, 262143999, 530579455, 1073741823, 2147483647, 4294967295, 8589934591]
theorem laws_FnDecides.tab13 : rtab .any (opsOf Try.f6 13) = laws_FnDecides.T13 := by kernel_rfl
theorem laws_FnDecides.bits13 : waitsOk laws_FnDecides.T13.2 laws_FnDecides.B13 = true := by kernel_rfl
set_option maxHeartbeats 8000000 in
set_option maxRecDepth 100000 in
theorem laws_FnDecides.calls (k : Nat) (A0 : Option Addr) (c0 : Nat) (l0 : List Int) (r : Bool) (w : World) (hr0 : Kd.C (Kd.int .u8) w A0 l0.length l0) (hc0 : l0.length ≤ c0) (h : laws_FnDecides.f k l0 = some r) :
  Calls Try.prog 6 #[.slice A0 l0.length c0] w fun e w' => e = .returned (.bool r) ∧ Below w.heap.size w w' := by
 have hu51 := Try.underlying51
 have hu63 := Try.underlying63
 have hu67 := Try.underlying67
 have HR0 := Aside0.mk hr0
 have HC0 := Aside0.mk hc0
 clear hr0 hc0
 have HB := Aside0.mk (Below.refl w.heap.size w)
 have H : ((laws_lwBig.f l0).bind fun t419 => (if t419 = true then (some true) else ((spec_DrawRefuteBy.f k l0).bind fun bt420 => ((impl_RefuteBy.f k bt420.1 bt420.2.1 bt420.2.2.1 bt420.2.2.2.1 bt420.2.2.2.2.1 bt420.2.2.2.2.2.1 bt420.2.2.2.2.2.2.1 bt420.2.2.2.2.2.2.2).bind fun bt430 => ((spec_DrawSuspectBy.f k l0).bind fun bt437 => ((impl_SuspectBy.f k bt437.1 bt437.2).bind fun bt441 => ((spec_DrawBuryBy.f k l0).bind fun bt448 => ((impl_BuryBy.f k bt448.1 bt448.2.1 bt448.2.2.1 bt448.2.2.2.1 bt448.2.2.2.2.1 bt448.2.2.2.2.2.1 bt448.2.2.2.2.2.2.1 bt448.2.2.2.2.2.2.2).bind fun bt459 => ((spec_RefuteBy.f bt420.1 bt420.2.1 bt420.2.2.1 bt420.2.2.2.1 bt420.2.2.2.2.1 bt420.2.2.2.2.2.1 bt420.2.2.2.2.2.2.1 bt420.2.2.2.2.2.2.2).bind fun bt466 => (if (!(bt430.1 == bt466.1) || ((!(bt430.2.1 == bt466.2.1) || (!(bt430.2.2.1 == bt466.2.2.1) || (!(bt430.2.2.2.1 == bt466.2.2.2.1) || (!(bt430.2.2.2.2.1 == bt466.2.2.2.2.1))))) || (!(bt430.2.2.2.2.2 == bt466.2.2.2.2.2)))) = true then (none) else ((spec_SuspectBy.f k bt437.1 bt437.2).bind fun bt472 => (if (!(bt441.1 == bt472.1) || ((!(bt441.2.1 == bt472.2.1) || (!(bt441.2.2.1 == bt472.2.2.1) || (!(bt441.2.2.2.1 == bt472.2.2.2.1) || (!(bt441.2.2.2.2.1 == bt472.2.2.2.2.1))))) || (!(bt441.2.2.2.2.2 == bt472.2.2.2.2.2)))) = true then (none) else ((spec_BuryBy.f k bt448.1 bt448.2.1 bt448.2.2.1 bt448.2.2.2.1 bt448.2.2.2.2.1 bt448.2.2.2.2.2.1 bt448.2.2.2.2.2.2.1 bt448.2.2.2.2.2.2.2).bind fun bt478 => (laws_FnDecides.j0 k bt437.1 bt437.2 bt448.1 (!(bt459.1 == bt478.1) || ((!(bt459.2.1 == bt478.2.1) || (!(bt459.2.2.1 == bt478.2.2.1) || (!(bt459.2.2.2.1 == bt478.2.2.2.1) || (!(bt459.2.2.2.2.1 == bt478.2.2.2.2.1))))) || (!(bt459.2.2.2.2.2 == bt478.2.2.2.2.2)))) bt420.1 bt420.2.1 bt420.2.2.1 bt420.2.2.2.1 bt420.2.2.2.2.1 bt420.2.2.2.2.2.1 bt420.2.2.2.2.2.2.1 bt420.2.2.2.2.2.2.2 bt430.1 bt430.2.1 bt430.2.2.1 bt430.2.2.2.1 bt430.2.2.2.2.1 bt430.2.2.2.2.2 bt441.1 bt441.2.1 bt441.2.2.1 bt441.2.2.2.1 bt441.2.2.2.2.1 bt441.2.2.2.2.2 bt448.2.1 bt448.2.2.1 bt448.2.2.2.1 bt448.2.2.2.2.1 bt448.2.2.2.2.2.1 bt448.2.2.2.2.2.2.1 bt448.2.2.2.2.2.2.2 bt459.1 bt459.2.1 bt459.2.2.1 bt459.2.2.2.1 bt459.2.2.2.2.1 bt459.2.2.2.2.2)))))))))))))) = some r := h
 clear h
 replace H := Option.bind_eq_some_iff.mp H
 obtain ⟨t419, A20, H⟩ := H
 replace H : (if t419 = true then (some true) else ((spec_DrawRefuteBy.f k l0).bind fun bt420 => ((impl_RefuteBy.f k bt420.1 bt420.2.1 bt420.2.2.1 bt420.2.2.2.1 bt420.2.2.2.2.1 bt420.2.2.2.2.2.1 bt420.2.2.2.2.2.2.1 bt420.2.2.2.2.2.2.2).bind fun bt430 => ((spec_DrawSuspectBy.f k l0).bind fun bt437 => ((impl_SuspectBy.f k bt437.1 bt437.2).bind fun bt441 => ((spec_DrawBuryBy.f k l0).bind fun bt448 => ((impl_BuryBy.f k bt448.1 bt448.2.1 bt448.2.2.1 bt448.2.2.2.1 bt448.2.2.2.2.1 bt448.2.2.2.2.2.1 bt448.2.2.2.2.2.2.1 bt448.2.2.2.2.2.2.2).bind fun bt459 => ((spec_RefuteBy.f bt420.1 bt420.2.1 bt420.2.2.1 bt420.2.2.2.1 bt420.2.2.2.2.1 bt420.2.2.2.2.2.1 bt420.2.2.2.2.2.2.1 bt420.2.2.2.2.2.2.2).bind fun bt466 => (if (!(bt430.1 == bt466.1) || ((!(bt430.2.1 == bt466.2.1) || (!(bt430.2.2.1 == bt466.2.2.1) || (!(bt430.2.2.2.1 == bt466.2.2.2.1) || (!(bt430.2.2.2.2.1 == bt466.2.2.2.2.1))))) || (!(bt430.2.2.2.2.2 == bt466.2.2.2.2.2)))) = true then (none) else ((spec_SuspectBy.f k bt437.1 bt437.2).bind fun bt472 => (if (!(bt441.1 == bt472.1) || ((!(bt441.2.1 == bt472.2.1) || (!(bt441.2.2.1 == bt472.2.2.1) || (!(bt441.2.2.2.1 == bt472.2.2.2.1) || (!(bt441.2.2.2.2.1 == bt472.2.2.2.2.1))))) || (!(bt441.2.2.2.2.2 == bt472.2.2.2.2.2)))) = true then (none) else ((spec_BuryBy.f k bt448.1 bt448.2.1 bt448.2.2.1 bt448.2.2.2.1 bt448.2.2.2.2.1 bt448.2.2.2.2.2.1 bt448.2.2.2.2.2.2.1 bt448.2.2.2.2.2.2.2).bind fun bt478 => (laws_FnDecides.j0 k bt437.1 bt437.2 bt448.1 (!(bt459.1 == bt478.1) || ((!(bt459.2.1 == bt478.2.1) || (!(bt459.2.2.1 == bt478.2.2.1) || (!(bt459.2.2.2.1 == bt478.2.2.2.1) || (!(bt459.2.2.2.2.1 == bt478.2.2.2.2.1))))) || (!(bt459.2.2.2.2.2 == bt478.2.2.2.2.2)))) bt420.1 bt420.2.1 bt420.2.2.1 bt420.2.2.2.1 bt420.2.2.2.2.1 bt420.2.2.2.2.2.1 bt420.2.2.2.2.2.2.1 bt420.2.2.2.2.2.2.2 bt430.1 bt430.2.1 bt430.2.2.1 bt430.2.2.2.1 bt430.2.2.2.2.1 bt430.2.2.2.2.2 bt441.1 bt441.2.1 bt441.2.2.1 bt441.2.2.2.1 bt441.2.2.2.2.1 bt441.2.2.2.2.2 bt448.2.1 bt448.2.2.1 bt448.2.2.2.1 bt448.2.2.2.2.1 bt448.2.2.2.2.2.1 bt448.2.2.2.2.2.2.1 bt448.2.2.2.2.2.2.2 bt459.1 bt459.2.1 bt459.2.2.1 bt459.2.2.2.1 bt459.2.2.2.2.1 bt459.2.2.2.2.2))))))))))))) = some r := H
 have A2 := Aside0.mk A20
 clear A20
 by_cases c3 : t419 = true
 ·
  subst c3; have H1 : (some true) = some r := by rw [if_pos rfl] at H; exact H
  clear H; have H := H1; clear H1; obtain rfl := Option.some.inj H
  go_enter Try.func6, Try.ntmps6
  go_wp2_with (first | ((with_reducible refine gate_callee (f := 7) rfl ?_); refine goesL_ (some 13) rfl rfl Try.func7 (by kernel_rfl) rfl #[.slice A0 l0.length c0] rfl args_a ?_; (with_reducible refine (laws_lwBig.calls _ _ l0 true _ ?side1 ?side2 A2.out).mono ?_); (case side1 => repeat (first | exact HR0.out | (with_reducible refine Kd.C_alloc ?_ _) | (with_reducible refine Kd.C_drewN ?_ _) | (with_reducible refine Kd.C_drew ?_))); (case side2 => exact HC0.out); rintro e w' ⟨rfl, ⟨nd, rfl⟩⟩; refine ⟨_, rfl, ?_⟩))
  go_ret
  exact ⟨eq_a, below_a⟩
 ·
  replace c3 := Bool.eq_false_iff.mpr c3; subst c3; have H1 : ((spec_DrawRefuteBy.f k l0).bind fun bt420 => ((impl_RefuteBy.f k bt420.1 bt420.2.1 bt420.2.2.1 bt420.2.2.2.1 bt420.2.2.2.2.1 bt420.2.2.2.2.2.1 bt420.2.2.2.2.2.2.1 bt420.2.2.2.2.2.2.2).bind fun bt430 => ((spec_DrawSuspectBy.f k l0).bind fun bt437 => ((impl_SuspectBy.f k bt437.1 bt437.2).bind fun bt441 => ((spec_DrawBuryBy.f k l0).bind fun bt448 => ((impl_BuryBy.f k bt448.1 bt448.2.1 bt448.2.2.1 bt448.2.2.2.1 bt448.2.2.2.2.1 bt448.2.2.2.2.2.1 bt448.2.2.2.2.2.2.1 bt448.2.2.2.2.2.2.2).bind fun bt459 => ((spec_RefuteBy.f bt420.1 bt420.2.1 bt420.2.2.1 bt420.2.2.2.1 bt420.2.2.2.2.1 bt420.2.2.2.2.2.1 bt420.2.2.2.2.2.2.1 bt420.2.2.2.2.2.2.2).bind fun bt466 => (if (!(bt430.1 == bt466.1) || ((!(bt430.2.1 == bt466.2.1) || (!(bt430.2.2.1 == bt466.2.2.1) || (!(bt430.2.2.2.1 == bt466.2.2.2.1) || (!(bt430.2.2.2.2.1 == bt466.2.2.2.2.1))))) || (!(bt430.2.2.2.2.2 == bt466.2.2.2.2.2)))) = true then (none) else ((spec_SuspectBy.f k bt437.1 bt437.2).bind fun bt472 => (if (!(bt441.1 == bt472.1) || ((!(bt441.2.1 == bt472.2.1) || (!(bt441.2.2.1 == bt472.2.2.1) || (!(bt441.2.2.2.1 == bt472.2.2.2.1) || (!(bt441.2.2.2.2.1 == bt472.2.2.2.2.1))))) || (!(bt441.2.2.2.2.2 == bt472.2.2.2.2.2)))) = true then (none) else ((spec_BuryBy.f k bt448.1 bt448.2.1 bt448.2.2.1 bt448.2.2.2.1 bt448.2.2.2.2.1 bt448.2.2.2.2.2.1 bt448.2.2.2.2.2.2.1 bt448.2.2.2.2.2.2.2).bind fun bt478 => (laws_FnDecides.j0 k bt437.1 bt437.2 bt448.1 (!(bt459.1 == bt478.1) || ((!(bt459.2.1 == bt478.2.1) || (!(bt459.2.2.1 == bt478.2.2.1) || (!(bt459.2.2.2.1 == bt478.2.2.2.1) || (!(bt459.2.2.2.2.1 == bt478.2.2.2.2.1))))) || (!(bt459.2.2.2.2.2 == bt478.2.2.2.2.2)))) bt420.1 bt420.2.1 bt420.2.2.1 bt420.2.2.2.1 bt420.2.2.2.2.1 bt420.2.2.2.2.2.1 bt420.2.2.2.2.2.2.1 bt420.2.2.2.2.2.2.2 bt430.1 bt430.2.1 bt430.2.2.1 bt430.2.2.2.1 bt430.2.2.2.2.1 bt430.2.2.2.2.2 bt441.1 bt441.2.1 bt441.2.2.1 bt441.2.2.2.1 bt441.2.2.2.2.1 bt441.2.2.2.2.2 bt448.2.1 bt448.2.2.1 bt448.2.2.2.1 bt448.2.2.2.2.1 bt448.2.2.2.2.2.1 bt448.2.2.2.2.2.2.1 bt448.2.2.2.2.2.2.2 bt459.1 bt459.2.1 bt459.2.2.1 bt459.2.2.2.1 bt459.2.2.2.2.1 bt459.2.2.2.2.2)))))))))))) = some r := by rw [if_neg (show ¬ (false = true) by decide)] at H; exact H
  clear H; have H := H1; clear H1; replace H := Option.bind_eq_some_iff.mp H; obtain ⟨⟨t420, t421, t422, t423, t424, t425, t426, t427⟩, A40, H⟩ := H; replace H : ((impl_RefuteBy.f k t420 t421 t422 t423 t424 t425 t426 t427).bind fun bt430 => ((spec_DrawSuspectBy.f k l0).bind fun bt437 => ((impl_SuspectBy.f k bt437.1 bt437.2).bind fun bt441 => ((spec_DrawBuryBy.f k l0).bind fun bt448 => ((impl_BuryBy.f k bt448.1 bt448.2.1 bt448.2.2.1 bt448.2.2.2.1 bt448.2.2.2.2.1 bt448.2.2.2.2.2.1 bt448.2.2.2.2.2.2.1 bt448.2.2.2.2.2.2.2).bind fun bt459 => ((spec_RefuteBy.f t420 t421 t422 t423 t424 t425 t426 t427).bind fun bt466 => (if (!(bt430.1 == bt466.1) || ((!(bt430.2.1 == bt466.2.1) || (!(bt430.2.2.1 == bt466.2.2.1) || (!(bt430.2.2.2.1 == bt466.2.2.2.1) || (!(bt430.2.2.2.2.1 == bt466.2.2.2.2.1))))) || (!(bt430.2.2.2.2.2 == bt466.2.2.2.2.2)))) = true then (none) else ((spec_SuspectBy.f k bt437.1 bt437.2).bind fun bt472 => (if (!(bt441.1 == bt472.1) || ((!(bt441.2.1 == bt472.2.1) || (!(bt441.2.2.1 == bt472.2.2.1) || (!(bt441.2.2.2.1 == bt472.2.2.2.1) || (!(bt441.2.2.2.2.1 == bt472.2.2.2.2.1))))) || (!(bt441.2.2.2.2.2 == bt472.2.2.2.2.2)))) = true then (none) else ((spec_BuryBy.f k bt448.1 bt448.2.1 bt448.2.2.1 bt448.2.2.2.1 bt448.2.2.2.2.1 bt448.2.2.2.2.2.1 bt448.2.2.2.2.2.2.1 bt448.2.2.2.2.2.2.2).bind fun bt478 => (laws_FnDecides.j0 k bt437.1 bt437.2 bt448.1 (!(bt459.1 == bt478.1) || ((!(bt459.2.1 == bt478.2.1) || (!(bt459.2.2.1 == bt478.2.2.1) || (!(bt459.2.2.2.1 == bt478.2.2.2.1) || (!(bt459.2.2.2.2.1 == bt478.2.2.2.2.1))))) || (!(bt459.2.2.2.2.2 == bt478.2.2.2.2.2)))) t420 t421 t422 t423 t424 t425 t426 t427 bt430.1 bt430.2.1 bt430.2.2.1 bt430.2.2.2.1 bt430.2.2.2.2.1 bt430.2.2.2.2.2 bt441.1 bt441.2.1 bt441.2.2.1 bt441.2.2.2.1 bt441.2.2.2.2.1 bt441.2.2.2.2.2 bt448.2.1 bt448.2.2.1 bt448.2.2.2.1 bt448.2.2.2.2.1 bt448.2.2.2.2.2.1 bt448.2.2.2.2.2.2.1 bt448.2.2.2.2.2.2.2 bt459.1 bt459.2.1 bt459.2.2.1 bt459.2.2.2.1 bt459.2.2.2.2.1 bt459.2.2.2.2.2))))))))))) = some r := H; have A4 := Aside0.mk A40; clear A40; replace H := Option.bind_eq_some_iff.mp H; obtain ⟨⟨t430, t431, t432, t433, t434, t435⟩, A50, H⟩ := H; replace H : ((spec_DrawSuspectBy.f k l0).bind fun bt437 => ((impl_SuspectBy.f k bt437.1 bt437.2).bind fun bt441 => ((spec_DrawBuryBy.f k l0).bind fun bt448 => ((impl_BuryBy.f k bt448.1 bt448.2.1 bt448.2.2.1 bt448.2.2.2.1 bt448.2.2.2.2.1 bt448.2.2.2.2.2.1 bt448.2.2.2.2.2.2.1 bt448.2.2.2.2.2.2.2).bind fun bt459 => ((spec_RefuteBy.f t420 t421 t422 t423 t424 t425 t426 t427).bind fun bt466 => (if (!(t430 == bt466.1) || ((!(t431 == bt466.2.1) || (!(t432 == bt466.2.2.1) || (!(t433 == bt466.2.2.2.1) || (!(t434 == bt466.2.2.2.2.1))))) || (!(t435 == bt466.2.2.2.2.2)))) = true then (none) else ((spec_SuspectBy.f k bt437.1 bt437.2).bind fun bt472 => (if (!(bt441.1 == bt472.1) || ((!(bt441.2.1 == bt472.2.1) || (!(bt441.2.2.1 == bt472.2.2.1) || (!(bt441.2.2.2.1 == bt472.2.2.2.1) || (!(bt441.2.2.2.2.1 == bt472.2.2.2.2.1))))) || (!(bt441.2.2.2.2.2 == bt472.2.2.2.2.2)))) = true then (none) else ((spec_BuryBy.f k bt448.1 bt448.2.1 bt448.2.2.1 bt448.2.2.2.1 bt448.2.2.2.2.1 bt448.2.2.2.2.2.1 bt448.2.2.2.2.2.2.1 bt448.2.2.2.2.2.2.2).bind fun bt478 => (laws_FnDecides.j0 k bt437.1 bt437.2 bt448.1 (!(bt459.1 == bt478.1) || ((!(bt459.2.1 == bt478.2.1) || (!(bt459.2.2.1 == bt478.2.2.1) || (!(bt459.2.2.2.1 == bt478.2.2.2.1) || (!(bt459.2.2.2.2.1 == bt478.2.2.2.2.1))))) || (!(bt459.2.2.2.2.2 == bt478.2.2.2.2.2)))) t420 t421 t422 t423 t424 t425 t426 t427 t430 t431 t432 t433 t434 t435 bt441.1 bt441.2.1 bt441.2.2.1 bt441.2.2.2.1 bt441.2.2.2.2.1 bt441.2.2.2.2.2 bt448.2.1 bt448.2.2.1 bt448.2.2.2.1 bt448.2.2.2.2.1 bt448.2.2.2.2.2.1 bt448.2.2.2.2.2.2.1 bt448.2.2.2.2.2.2.2 bt459.1 bt459.2.1 bt459.2.2.1 bt459.2.2.2.1 bt459.2.2.2.2.1 bt459.2.2.2.2.2)))))))))) = some r := H; have A5 := Aside0.mk A50; clear A50; replace H := Option.bind_eq_some_iff.mp H; obtain ⟨⟨t437, t438⟩, A60, H⟩ := H; replace H : ((impl_SuspectBy.f k t437 t438).bind fun bt441 => ((spec_DrawBuryBy.f k l0).bind fun bt448 => ((impl_BuryBy.f k bt448.1 bt448.2.1 bt448.2.2.1 bt448.2.2.2.1 bt448.2.2.2.2.1 bt448.2.2.2.2.2.1 bt448.2.2.2.2.2.2.1 bt448.2.2.2.2.2.2.2).bind fun bt459 => ((spec_RefuteBy.f t420 t421 t422 t423 t424 t425 t426 t427).bind fun bt466 => (if (!(t430 == bt466.1) || ((!(t431 == bt466.2.1) || (!(t432 == bt466.2.2.1) || (!(t433 == bt466.2.2.2.1) || (!(t434 == bt466.2.2.2.2.1))))) || (!(t435 == bt466.2.2.2.2.2)))) = true then (none) else ((spec_SuspectBy.f k t437 t438).bind fun bt472 => (if (!(bt441.1 == bt472.1) || ((!(bt441.2.1 == bt472.2.1) || (!(bt441.2.2.1 == bt472.2.2.1) || (!(bt441.2.2.2.1 == bt472.2.2.2.1) || (!(bt441.2.2.2.2.1 == bt472.2.2.2.2.1))))) || (!(bt441.2.2.2.2.2 == bt472.2.2.2.2.2)))) = true then (none) else ((spec_BuryBy.f k bt448.1 bt448.2.1 bt448.2.2.1 bt448.2.2.2.1 bt448.2.2.2.2.1 bt448.2.2.2.2.2.1 bt448.2.2.2.2.2.2.1 bt448.2.2.2.2.2.2.2).bind fun bt478 => (laws_FnDecides.j0 k t437 t438 bt448.1 (!(bt459.1 == bt478.1) || ((!(bt459.2.1 == bt478.2.1) || (!(bt459.2.2.1 == bt478.2.2.1) || (!(bt459.2.2.2.1 == bt478.2.2.2.1) || (!(bt459.2.2.2.2.1 == bt478.2.2.2.2.1))))) || (!(bt459.2.2.2.2.2 == bt478.2.2.2.2.2)))) t420 t421 t422 t423 t424 t425 t426 t427 t430 t431 t432 t433 t434 t435 bt441.1 bt441.2.1 bt441.2.2.1 bt441.2.2.2.1 bt441.2.2.2.2.1 bt441.2.2.2.2.2 bt448.2.1 bt448.2.2.1 bt448.2.2.2.1 bt448.2.2.2.2.1 bt448.2.2.2.2.2.1 bt448.2.2.2.2.2.2.1 bt448.2.2.2.2.2.2.2 bt459.1 bt459.2.1 bt459.2.2.1 bt459.2.2.2.1 bt459.2.2.2.2.1 bt459.2.2.2.2.2))))))))) = some r := H; have A6 := Aside0.mk A60; clear A60; replace H := Option.bind_eq_some_iff.mp H; obtain ⟨⟨t441, t442, t443, t444, t445, t446⟩, A70, H⟩ := H; replace H : ((spec_DrawBuryBy.f k l0).bind fun bt448 => ((impl_BuryBy.f k bt448.1 bt448.2.1 bt448.2.2.1 bt448.2.2.2.1 bt448.2.2.2.2.1 bt448.2.2.2.2.2.1 bt448.2.2.2.2.2.2.1 bt448.2.2.2.2.2.2.2).bind fun bt459 => ((spec_RefuteBy.f t420 t421 t422 t423 t424 t425 t426 t427).bind fun bt466 => (if (!(t430 == bt466.1) || ((!(t431 == bt466.2.1) || (!(t432 == bt466.2.2.1) || (!(t433 == bt466.2.2.2.1) || (!(t434 == bt466.2.2.2.2.1))))) || (!(t435 == bt466.2.2.2.2.2)))) = true then (none) else ((spec_SuspectBy.f k t437 t438).bind fun bt472 => (if (!(t441 == bt472.1) || ((!(t442 == bt472.2.1) || (!(t443 == bt472.2.2.1) || (!(t444 == bt472.2.2.2.1) || (!(t445 == bt472.2.2.2.2.1))))) || (!(t446 == bt472.2.2.2.2.2)))) = true then (none) else ((spec_BuryBy.f k bt448.1 bt448.2.1 bt448.2.2.1 bt448.2.2.2.1 bt448.2.2.2.2.1 bt448.2.2.2.2.2.1 bt448.2.2.2.2.2.2.1 bt448.2.2.2.2.2.2.2).bind fun bt478 => (laws_FnDecides.j0 k t437 t438 bt448.1 (!(bt459.1 == bt478.1) || ((!(bt459.2.1 == bt478.2.1) || (!(bt459.2.2.1 == bt478.2.2.1) || (!(bt459.2.2.2.1 == bt478.2.2.2.1) || (!(bt459.2.2.2.2.1 == bt478.2.2.2.2.1))))) || (!(bt459.2.2.2.2.2 == bt478.2.2.2.2.2)))) t420 t421 t422 t423 t424 t425 t426 t427 t430 t431 t432 t433 t434 t435 t441 t442 t443 t444 t445 t446 bt448.2.1 bt448.2.2.1 bt448.2.2.2.1 bt448.2.2.2.2.1 bt448.2.2.2.2.2.1 bt448.2.2.2.2.2.2.1 bt448.2.2.2.2.2.2.2 bt459.1 bt459.2.1 bt459.2.2.1 bt459.2.2.2.1 bt459.2.2.2.2.1 bt459.2.2.2.2.2)))))))) = some r := H; have A7 := Aside0.mk A70; clear A70; replace H := Option.bind_eq_some_iff.mp H; obtain ⟨⟨t448, t451, t452, t453, t454, t455, t456, t457⟩, A80, H⟩ := H; replace H : ((impl_BuryBy.f k t448 t451 t452 t453 t454 t455 t456 t457).bind fun bt459 => ((spec_RefuteBy.f t420 t421 t422 t423 t424 t425 t426 t427).bind fun bt466 => (if (!(t430 == bt466.1) || ((!(t431 == bt466.2.1) || (!(t432 == bt466.2.2.1) || (!(t433 == bt466.2.2.2.1) || (!(t434 == bt466.2.2.2.2.1))))) || (!(t435 == bt466.2.2.2.2.2)))) = true then (none) else ((spec_SuspectBy.f k t437 t438).bind fun bt472 => (if (!(t441 == bt472.1) || ((!(t442 == bt472.2.1) || (!(t443 == bt472.2.2.1) || (!(t444 == bt472.2.2.2.1) || (!(t445 == bt472.2.2.2.2.1))))) || (!(t446 == bt472.2.2.2.2.2)))) = true then (none) else ((spec_BuryBy.f k t448 t451 t452 t453 t454 t455 t456 t457).bind fun bt478 => (laws_FnDecides.j0 k t437 t438 t448 (!(bt459.1 == bt478.1) || ((!(bt459.2.1 == bt478.2.1) || (!(bt459.2.2.1 == bt478.2.2.1) || (!(bt459.2.2.2.1 == bt478.2.2.2.1) || (!(bt459.2.2.2.2.1 == bt478.2.2.2.2.1))))) || (!(bt459.2.2.2.2.2 == bt478.2.2.2.2.2)))) t420 t421 t422 t423 t424 t425 t426 t427 t430 t431 t432 t433 t434 t435 t441 t442 t443 t444 t445 t446 t451 t452 t453 t454 t455 t456 t457 bt459.1 bt459.2.1 bt459.2.2.1 bt459.2.2.2.1 bt459.2.2.2.2.1 bt459.2.2.2.2.2))))))) = some r := H; have A8 := Aside0.mk A80; clear A80; replace H := Option.bind_eq_some_iff.mp H; obtain ⟨⟨t459, t460, t461, t462, t463, t464⟩, A90, H⟩ := H; replace H : ((spec_RefuteBy.f t420 t421 t422 t423 t424 t425 t426 t427).bind fun bt466 => (if (!(t430 == bt466.1) || ((!(t431 == bt466.2.1) || (!(t432 == bt466.2.2.1) || (!(t433 == bt466.2.2.2.1) || (!(t434 == bt466.2.2.2.2.1))))) || (!(t435 == bt466.2.2.2.2.2)))) = true then (none) else ((spec_SuspectBy.f k t437 t438).bind fun bt472 => (if (!(t441 == bt472.1) || ((!(t442 == bt472.2.1) || (!(t443 == bt472.2.2.1) || (!(t444 == bt472.2.2.2.1) || (!(t445 == bt472.2.2.2.2.1))))) || (!(t446 == bt472.2.2.2.2.2)))) = true then (none) else ((spec_BuryBy.f k t448 t451 t452 t453 t454 t455 t456 t457).bind fun bt478 => (laws_FnDecides.j0 k t437 t438 t448 (!(t459 == bt478.1) || ((!(t460 == bt478.2.1) || (!(t461 == bt478.2.2.1) || (!(t462 == bt478.2.2.2.1) || (!(t463 == bt478.2.2.2.2.1))))) || (!(t464 == bt478.2.2.2.2.2)))) t420 t421 t422 t423 t424 t425 t426 t427 t430 t431 t432 t433 t434 t435 t441 t442 t443 t444 t445 t446 t451 t452 t453 t454 t455 t456 t457 t459 t460 t461 t462 t463 t464)))))) = some r := H; have A9 := Aside0.mk A90; clear A90; have HC10 := Aside0.mk H; clear H
  go_enter Try.func6, Try.ntmps6
  go_upto_region 9 with (first | ((with_reducible refine gate_callee (f := 7) rfl ?_); refine goesL_ (some 13) rfl rfl Try.func7 (by kernel_rfl) rfl #[.slice A0 l0.length c0] rfl args_a ?_; (with_reducible refine (laws_lwBig.calls _ _ l0 false _ ?side1 ?side2 A2.out).mono ?_); (case side1 => repeat (first | exact HR0.out | (with_reducible refine Kd.C_alloc ?_ _) | (with_reducible refine Kd.C_drewN ?_ _) | (with_reducible refine Kd.C_drew ?_))); (case side2 => exact HC0.out); rintro e w' ⟨rfl, ⟨nd, rfl⟩⟩; refine ⟨_, rfl, ?_⟩) | ((with_reducible refine gate_callee (f := 35) rfl ?_); refine goesL_ (some 16) rfl rfl Try.func35 (by kernel_rfl) rfl #[.slice A0 l0.length c0] rfl args_a ?_; (with_reducible refine (spec_DrawRefuteBy.calls k _ _ l0 t420 t421 t422 t423 t424 t425 t426 t427 _ ?side1 ?side2 A4.out).mono ?_); (case side1 => repeat (first | exact HR0.out | (with_reducible refine Kd.C_alloc ?_ _) | (with_reducible refine Kd.C_drewN ?_ _) | (with_reducible refine Kd.C_drew ?_))); (case side2 => exact HC0.out); rintro e w11 ⟨rfl, hb⟩; refine ⟨_, rfl, ?_⟩; replace HB := Aside0.mk (below_step below_a hb); (try clear hb); (try clear hb2); (try clear hk); (try clear hi)) | ((with_reducible refine gate_dst (N := 3) rfl ?_); refine box_event ?hg (N := 3) ?hd (cs := #[.int .i64 0, .int .i64 0, .int .i64 0, .int .i64 0]) (t := 51) ?hr ?_; (case hd => rfl); (case hg => rfl); (case hr => first | (go_simp; done) | (go_simp; rfl)); intro gb428 hg w12 hbox hb; have n0_ := Aside0.mk (below_step below_a hb); have BK428 := Aside0.mk (hbox); have GW428 := Aside0.mk (bsz_ (w := w) hg); have GE428 := Aside0.mk (bsz_ (w := w) hg); replace HB := n0_; clear n0_; clear hb hbox hg) | ((with_reducible refine gate_dst (N := 4) rfl ?_); refine box_event ?hg (N := 4) ?hd (cs := #[.int .i64 0, .int .i64 0, .int .i64 0, .int .i64 0]) (t := 51) ?hr ?_; (case hd => rfl); (case hg => rfl); (case hr => first | (go_simp; done) | (go_simp; rfl)); intro gb429 hg w13 hbox hb; have n0_ := Aside0.mk (blk_below (g := gb428) blk_c hb); have n1_ := Aside0.mk (below_step below_a hb); have BK429 := Aside0.mk (hbox); have GW429 := Aside0.mk (bsz_ (w := w) hg); have GE429 := Aside0.mk (bsz_ (w := w) hg); have NB428_429 := Aside0.mk (bne_ (g := gb428) hg); have NB429_428 := Aside0.mk (bne_ (g := gb428) hg).symm; replace BK428 := n0_; replace HB := n1_; clear n0_ n1_; clear hb hbox hg; have hnb14 := NB428_429.out; have hnc14 := NB429_428.out; obtain ⟨hcz15_0, hcz15_1, hcz15_2, hcz15_3, hfz15_0, hfz15_1, hfz15_2, hfz15_3⟩ := bc4_ BK428.out; obtain ⟨hcz16_0, hcz16_1, hcz16_2, hcz16_3, hfz16_0, hfz16_1, hfz16_2, hfz16_3⟩ := bc4_ BK429.out) | ((with_reducible refine gate_callee (f := 36) rfl ?_); refine goesL_ (some 21) rfl rfl Try.func36 (by kernel_rfl) rfl #[.agg #[.int .i64 t420, .int .i64 t421, .int .i64 t422, .int .i64 t423], .agg #[.int .i64 t424, .int .i64 t425, .int .i64 t426, .int .i64 t427]] rfl args_a ?_; (with_reducible refine (impl_RefuteBy.calls k t420 t421 t422 t423 t424 t425 t426 t427 t430 t431 t432 t433 t434 t435 _ A5.out).mono ?_); rintro e w17 ⟨rfl, hb⟩; refine ⟨_, rfl, ?_⟩; replace BK428 := Aside0.mk (blk_below (g := gb428) (o := .cells #[.int .i64 t420, .int .i64 t421, .int .i64 t422, .int .i64 t423] 51 (0, 0)) blk_a hb); replace BK429 := Aside0.mk (blk_below (g := gb429) (o := .cells #[.int .i64 t424, .int .i64 t425, .int .i64 t426, .int .i64 t427] 51 (0, 0)) blk_a hb); replace HB := Aside0.mk (below_step below_a hb); (try clear hb); (try clear hb2); (try clear hk); (try clear hi)) | ((with_reducible refine gate_dst (N := 5) rfl ?_); refine box_event ?hg (N := 5) ?hd (cs := #[.int .i64 0, .int .i64 0, .int .i64 0, .int .i64 0, .int .i64 0, .bool false]) (t := 63) ?hr ?_; (case hd => rfl); (case hg => rfl); (case hr => first | (go_simp; done) | (go_simp; rfl)); intro gb436 hg w18 hbox hb; have n0_ := Aside0.mk (blk_below (g := gb428) blk_c hb); have n1_ := Aside0.mk (blk_below (g := gb429) blk_c hb); have n2_ := Aside0.mk (below_step below_a hb); have BK436 := Aside0.mk (hbox); have GW436 := Aside0.mk (bsz_ (w := w) hg); have GE436 := Aside0.mk (bsz_ (w := w) hg); have NB428_436 := Aside0.mk (bne_ (g := gb428) hg); have NB436_428 := Aside0.mk (bne_ (g := gb428) hg).symm; have NB429_436 := Aside0.mk (bne_ (g := gb429) hg); have NB436_429 := Aside0.mk (bne_ (g := gb429) hg).symm; replace BK428 := n0_; replace BK429 := n1_; replace HB := n2_; clear n0_ n1_ n2_; clear hb hbox hg; have hnb19 := NB436_428.out; have hnc19 := NB428_436.out; have hnb20 := NB436_429.out; have hnc20 := NB429_436.out; obtain ⟨hcz21_0, hcz21_1, hcz21_2, hcz21_3, hcz21_4, hcz21_5, hfz21_0, hfz21_1, hfz21_2, hfz21_3, hfz21_4, hfz21_5⟩ := bc6_ BK436.out) | ((with_reducible refine gate_callee (f := 37) rfl ?_); refine goesL_ (some 24) rfl rfl Try.func37 (by kernel_rfl) rfl #[.slice A0 l0.length c0] rfl args_a ?_; (with_reducible refine (spec_DrawSuspectBy.calls k _ _ l0 t437 t438 _ ?side1 ?side2 A6.out).mono ?_); (case side1 => exact Kd.C_below HR0.out below_a); (case side2 => exact HC0.out); rintro e w22 ⟨v439, rfl, ho0, hb⟩; refine ⟨_, rfl, ?_⟩; have HO440 := Aside0.mk (Kd.R_lower (Kd.R_newB (Kd.R_newB ho0 (g := gb428) blk_c) (g := gb429) blk_c) (below_size below_a)); replace BK428 := Aside0.mk (blk_below (g := gb428) blk_c hb); replace BK429 := Aside0.mk (blk_below (g := gb429) blk_c hb); replace BK436 := Aside0.mk (blk_below (g := gb436) (o := .cells #[.int .i64 t430, .int .i64 t431, .int .i64 t432, .int .i64 t433, .int .i64 t434, .bool t435] 63 (0, 0)) blk_a hb); replace HB := Aside0.mk (below_step below_a hb); (try clear hb); (try clear hb2); (try clear hk); (try clear hi); (try clear ho0); obtain ⟨Ao23, co23, eo23⟩ := Kd.R_slice HO440.out; subst eo23) | ((with_reducible refine gate_callee (f := 38) rfl ?_); refine goesL_ (some 29) rfl rfl Try.func38 (by kernel_rfl) rfl #[.slice Ao23 t437.length co23, .int .i64 t438] rfl args_a ?_; (with_reducible refine (impl_SuspectBy.calls k _ _ t437 t438 t441 t442 t443 t444 t445 t446 _ ?side1 ?side2 A7.out).mono ?_); (case side1 => repeat (first | exact (Kd.R_reads' HO440.out).2.2 | (with_reducible refine Kd.C_alloc ?_ _) | (with_reducible refine Kd.C_drewN ?_ _) | (with_reducible refine Kd.C_drew ?_))); (case side2 => exact (Kd.R_reads' HO440.out).2.1); rintro e w24 ⟨rfl, hb⟩; refine ⟨_, rfl, ?_⟩; replace HO440 := Aside0.mk (Kd.R_below (R_a HO440.out) hb); replace BK428 := Aside0.mk (blk_below (g := gb428) blk_c hb); replace BK429 := Aside0.mk (blk_below (g := gb429) blk_c hb); replace BK436 := Aside0.mk (blk_below (g := gb436) blk_c hb); replace HB := Aside0.mk (below_step below_a hb); (try clear hb); (try clear hb2); (try clear hk); (try clear hi)) | ((with_reducible refine gate_dst (N := 8) rfl ?_); refine box_event ?hg (N := 8) ?hd (cs := #[.int .i64 0, .int .i64 0, .int .i64 0, .int .i64 0, .int .i64 0, .bool false]) (t := 63) ?hr ?_; (case hd => rfl); (case hg => rfl); (case hr => first | (go_simp; done) | (go_simp; rfl)); intro gb447 hg w25 hbox hb; replace HO440 := Aside0.mk (Kd.R_below (R_a HO440.out) hb); have n1_ := Aside0.mk (blk_below (g := gb428) blk_c hb); have n2_ := Aside0.mk (blk_below (g := gb429) blk_c hb); have n3_ := Aside0.mk (blk_below (g := gb436) blk_c hb); have n4_ := Aside0.mk (below_step below_a hb); have BK447 := Aside0.mk (hbox); have GW447 := Aside0.mk (bsz_ (w := w) hg); have GE447 := Aside0.mk (bsz_ (w := w) hg); have NB428_447 := Aside0.mk (bne_ (g := gb428) hg); have NB447_428 := Aside0.mk (bne_ (g := gb428) hg).symm; have NB429_447 := Aside0.mk (bne_ (g := gb429) hg); have NB447_429 := Aside0.mk (bne_ (g := gb429) hg).symm; have NB436_447 := Aside0.mk (bne_ (g := gb436) hg); have NB447_436 := Aside0.mk (bne_ (g := gb436) hg).symm; replace BK428 := n1_; replace BK429 := n2_; replace BK436 := n3_; replace HB := n4_; clear n1_ n2_ n3_ n4_; clear hb hbox hg; have hnb26 := NB447_428.out; have hnc26 := NB428_447.out; have hnb27 := NB447_429.out; have hnc27 := NB429_447.out; have hnb28 := NB447_436.out; have hnc28 := NB436_447.out; obtain ⟨hcz29_0, hcz29_1, hcz29_2, hcz29_3, hcz29_4, hcz29_5, hfz29_0, hfz29_1, hfz29_2, hfz29_3, hfz29_4, hfz29_5⟩ := bc6_ BK447.out) | ((with_reducible refine gate_callee (f := 39) rfl ?_); refine goesL_ (some 32) rfl rfl Try.func39 (by kernel_rfl) rfl #[.slice A0 l0.length c0] rfl args_a ?_; (with_reducible refine (spec_DrawBuryBy.calls k _ _ l0 t448 t451 t452 t453 t454 t455 t456 t457 _ ?side1 ?side2 A8.out).mono ?_); (case side1 => exact Kd.C_below HR0.out below_a); (case side2 => exact HC0.out); rintro e w30 ⟨v449, rfl, ho0, hb⟩; refine ⟨_, rfl, ?_⟩; have n0_ := Aside0.mk (Kd.R_elder' (by (with_reducible repeat (first | apply Kd.R_alloc | apply Kd.R_drewN | apply Kd.R_drew)); exact (Kd.R_mono (Kd.R_far (p := ⟨gb447, 5, none⟩) (Kd.R_far (p := ⟨gb447, 4, none⟩) (Kd.R_far (p := ⟨gb447, 3, none⟩) (Kd.R_far (p := ⟨gb447, 2, none⟩) (Kd.R_far (p := ⟨gb447, 1, none⟩) (Kd.R_far (p := ⟨gb447, 0, none⟩) (Kd.R_types HO440.out BK447.out (by decide)) (fun _ hk => hk.2) (.int .i64 t441)) (fun _ hk => hk.2) (.int .i64 t442)) (fun _ hk => hk.2) (.int .i64 t443)) (fun _ hk => hk.2) (.int .i64 t444)) (fun _ hk => hk.2) (.int .i64 t445)) (fun _ hk => hk.2) (.bool t446)) (fun _ h_ => h_.1))) (Kd.R_base ho0) hb); have HO450 := Aside0.mk (Kd.R_lower (Kd.R_newB (Kd.R_newB (Kd.R_new' ho0 (Kd.R_lt (by (with_reducible repeat (first | apply Kd.R_alloc | apply Kd.R_drewN | apply Kd.R_drew)); exact (Kd.R_mono (Kd.R_far (p := ⟨gb447, 5, none⟩) (Kd.R_far (p := ⟨gb447, 4, none⟩) (Kd.R_far (p := ⟨gb447, 3, none⟩) (Kd.R_far (p := ⟨gb447, 2, none⟩) (Kd.R_far (p := ⟨gb447, 1, none⟩) (Kd.R_far (p := ⟨gb447, 0, none⟩) (Kd.R_types HO440.out BK447.out (by decide)) (fun _ hk => hk.2) (.int .i64 t441)) (fun _ hk => hk.2) (.int .i64 t442)) (fun _ hk => hk.2) (.int .i64 t443)) (fun _ hk => hk.2) (.int .i64 t444)) (fun _ hk => hk.2) (.int .i64 t445)) (fun _ hk => hk.2) (.bool t446)) (fun _ h_ => h_.1))))) (g := gb428) blk_c) (g := gb429) blk_c) (below_size below_a)); replace BK428 := Aside0.mk (blk_below (g := gb428) blk_c hb); replace BK429 := Aside0.mk (blk_below (g := gb429) blk_c hb); replace BK436 := Aside0.mk (blk_below (g := gb436) blk_c hb); replace BK447 := Aside0.mk (blk_below (g := gb447) (o := .cells #[.int .i64 t441, .int .i64 t442, .int .i64 t443, .int .i64 t444, .int .i64 t445, .bool t446] 63 (0, 0)) blk_a hb); replace HB := Aside0.mk (below_step below_a hb); replace HO440 := n0_; clear n0_; (try clear hb); (try clear hb2); (try clear hk); (try clear hi); (try clear ho0)) | ((with_reducible refine gate_dst (N := 10) rfl ?_); refine box_event ?hg (N := 10) ?hd (cs := #[.int .i64 0, .int .i64 0, .int .i64 0, .int .i64 0, .int .i64 0, .int .i64 0, .int .i64 0]) (t := 67) ?hr ?_; (case hd => rfl); (case hg => rfl); (case hr => first | (go_simp; done) | (go_simp; rfl)); intro gb458 hg w31 hbox hb; replace HO440 := Aside0.mk (Kd.R_below (R_a HO440.out) hb); replace HO450 := Aside0.mk (Kd.R_below (R_a HO450.out) hb); have n2_ := Aside0.mk (blk_below (g := gb428) blk_c hb); have n3_ := Aside0.mk (blk_below (g := gb429) blk_c hb); have n4_ := Aside0.mk (blk_below (g := gb436) blk_c hb); have n5_ := Aside0.mk (blk_below (g := gb447) blk_c hb); have n6_ := Aside0.mk (below_step below_a hb); have BK458 := Aside0.mk (hbox); have GW458 := Aside0.mk (bsz_ (w := w) hg); have GE458 := Aside0.mk (bsz_ (w := w) hg); have NB428_458 := Aside0.mk (bne_ (g := gb428) hg); have NB458_428 := Aside0.mk (bne_ (g := gb428) hg).symm; have NB429_458 := Aside0.mk (bne_ (g := gb429) hg); have NB458_429 := Aside0.mk (bne_ (g := gb429) hg).symm; have NB436_458 := Aside0.mk (bne_ (g := gb436) hg); have NB458_436 := Aside0.mk (bne_ (g := gb436) hg).symm; have NB447_458 := Aside0.mk (bne_ (g := gb447) hg); have NB458_447 := Aside0.mk (bne_ (g := gb447) hg).symm; replace BK428 := n2_; replace BK429 := n3_; replace BK436 := n4_; replace BK447 := n5_; replace HB := n6_; clear n2_ n3_ n4_ n5_ n6_; clear hb hbox hg; have hnb32 := NB458_428.out; have hnc32 := NB428_458.out; have hnb33 := NB458_429.out; have hnc33 := NB429_458.out; have hnb34 := NB458_436.out; have hnc34 := NB436_458.out; have hnb35 := NB458_447.out; have hnc35 := NB447_458.out; obtain ⟨hcz36_0, hcz36_1, hcz36_2, hcz36_3, hcz36_4, hcz36_5, hcz36_6, hfz36_0, hfz36_1, hfz36_2, hfz36_3, hfz36_4, hfz36_5, hfz36_6⟩ := bc7_ BK458.out; obtain ⟨Ao37, co37, eo37⟩ := Kd.R_slice HO450.out; subst eo37) | ((with_reducible refine gate_callee (f := 40) rfl ?_); refine goesL_ (some 37) rfl rfl Try.func40 (by kernel_rfl) rfl #[.slice Ao37 t448.length co37, .agg #[.int .i64 t451, .int .i64 t452, .int .i64 t453, .int .i64 t454, .int .i64 t455, .int .i64 t456, .int .i64 t457]] rfl args_a ?_; (with_reducible refine (impl_BuryBy.calls k _ _ t448 t451 t452 t453 t454 t455 t456 t457 t459 t460 t461 t462 t463 t464 _ ?side1 ?side2 A9.out).mono ?_); (case side1 => refine (Kd.R_reads' (e := 51) (base := w.heap.size) (ok := fun k_ => (((True ∧ some k_ ≠ (.slice Ao23 t437.length co23 : Value).ownBlock) ∧ k_ ≠ gb428) ∧ k_ ≠ gb429)) (n := t448.length) (c := co37) ?_).2.2; exact (by (with_reducible repeat (first | apply Kd.R_alloc | apply Kd.R_drewN | apply Kd.R_drew)); exact (Kd.R_mono (Kd.R_far (p := ⟨gb458, 6, none⟩) (Kd.R_far (p := ⟨gb458, 5, none⟩) (Kd.R_far (p := ⟨gb458, 4, none⟩) (Kd.R_far (p := ⟨gb458, 3, none⟩) (Kd.R_far (p := ⟨gb458, 2, none⟩) (Kd.R_far (p := ⟨gb458, 1, none⟩) (Kd.R_far (p := ⟨gb458, 0, none⟩) (Kd.R_types HO450.out BK458.out (by decide)) (fun _ hk => hk.2) (.int .i64 t451)) (fun _ hk => hk.2) (.int .i64 t452)) (fun _ hk => hk.2) (.int .i64 t453)) (fun _ hk => hk.2) (.int .i64 t454)) (fun _ hk => hk.2) (.int .i64 t455)) (fun _ hk => hk.2) (.int .i64 t456)) (fun _ hk => hk.2) (.int .i64 t457)) (fun _ h_ => h_.1)))); (case side2 => exact (Kd.R_reads' HO450.out).2.1); rintro e w38 ⟨rfl, hb⟩; refine ⟨_, rfl, ?_⟩; replace HO440 := Aside0.mk (Kd.R_below (by (with_reducible repeat (first | apply Kd.R_alloc | apply Kd.R_drewN | apply Kd.R_drew)); exact (Kd.R_mono (Kd.R_far (p := ⟨gb458, 6, none⟩) (Kd.R_far (p := ⟨gb458, 5, none⟩) (Kd.R_far (p := ⟨gb458, 4, none⟩) (Kd.R_far (p := ⟨gb458, 3, none⟩) (Kd.R_far (p := ⟨gb458, 2, none⟩) (Kd.R_far (p := ⟨gb458, 1, none⟩) (Kd.R_far (p := ⟨gb458, 0, none⟩) (Kd.R_types HO440.out BK458.out (by decide)) (fun _ hk => hk.2) (.int .i64 t451)) (fun _ hk => hk.2) (.int .i64 t452)) (fun _ hk => hk.2) (.int .i64 t453)) (fun _ hk => hk.2) (.int .i64 t454)) (fun _ hk => hk.2) (.int .i64 t455)) (fun _ hk => hk.2) (.int .i64 t456)) (fun _ hk => hk.2) (.int .i64 t457)) (fun _ h_ => h_.1))) hb); replace HO450 := Aside0.mk (Kd.R_below (by (with_reducible repeat (first | apply Kd.R_alloc | apply Kd.R_drewN | apply Kd.R_drew)); exact (Kd.R_mono (Kd.R_far (p := ⟨gb458, 6, none⟩) (Kd.R_far (p := ⟨gb458, 5, none⟩) (Kd.R_far (p := ⟨gb458, 4, none⟩) (Kd.R_far (p := ⟨gb458, 3, none⟩) (Kd.R_far (p := ⟨gb458, 2, none⟩) (Kd.R_far (p := ⟨gb458, 1, none⟩) (Kd.R_far (p := ⟨gb458, 0, none⟩) (Kd.R_types HO450.out BK458.out (by decide)) (fun _ hk => hk.2) (.int .i64 t451)) (fun _ hk => hk.2) (.int .i64 t452)) (fun _ hk => hk.2) (.int .i64 t453)) (fun _ hk => hk.2) (.int .i64 t454)) (fun _ hk => hk.2) (.int .i64 t455)) (fun _ hk => hk.2) (.int .i64 t456)) (fun _ hk => hk.2) (.int .i64 t457)) (fun _ h_ => h_.1))) hb); replace BK428 := Aside0.mk (blk_below (g := gb428) blk_c hb); replace BK429 := Aside0.mk (blk_below (g := gb429) blk_c hb); replace BK436 := Aside0.mk (blk_below (g := gb436) blk_c hb); replace BK447 := Aside0.mk (blk_below (g := gb447) blk_c hb); replace BK458 := Aside0.mk (blk_below (g := gb458) (o := .cells #[.int .i64 t451, .int .i64 t452, .int .i64 t453, .int .i64 t454, .int .i64 t455, .int .i64 t456, .int .i64 t457] 67 (0, 0)) blk_a hb); replace HB := Aside0.mk (below_step below_a hb); (try clear hb); (try clear hb2); (try clear hk); (try clear hi)) | ((with_reducible refine gate_dst (N := 11) rfl ?_); refine box_event ?hg (N := 11) ?hd (cs := #[.int .i64 0, .int .i64 0, .int .i64 0, .int .i64 0, .int .i64 0, .bool false]) (t := 63) ?hr ?_; (case hd => rfl); (case hg => rfl); (case hr => first | (go_simp; done) | (go_simp; rfl)); intro gb465 hg w39 hbox hb; replace HO440 := Aside0.mk (Kd.R_below (R_a HO440.out) hb); replace HO450 := Aside0.mk (Kd.R_below (R_a HO450.out) hb); have n2_ := Aside0.mk (blk_below (g := gb428) blk_c hb); have n3_ := Aside0.mk (blk_below (g := gb429) blk_c hb); have n4_ := Aside0.mk (blk_below (g := gb436) blk_c hb); have n5_ := Aside0.mk (blk_below (g := gb447) blk_c hb); have n6_ := Aside0.mk (blk_below (g := gb458) blk_c hb); have n7_ := Aside0.mk (below_step below_a hb); have BK465 := Aside0.mk (hbox); have GW465 := Aside0.mk (bsz_ (w := w) hg); have GE465 := Aside0.mk (bsz_ (w := w) hg); have NB428_465 := Aside0.mk (bne_ (g := gb428) hg); have NB465_428 := Aside0.mk (bne_ (g := gb428) hg).symm; have NB429_465 := Aside0.mk (bne_ (g := gb429) hg); have NB465_429 := Aside0.mk (bne_ (g := gb429) hg).symm; have NB436_465 := Aside0.mk (bne_ (g := gb436) hg); have NB465_436 := Aside0.mk (bne_ (g := gb436) hg).symm; have NB447_465 := Aside0.mk (bne_ (g := gb447) hg); have NB465_447 := Aside0.mk (bne_ (g := gb447) hg).symm; have NB458_465 := Aside0.mk (bne_ (g := gb458) hg); have NB465_458 := Aside0.mk (bne_ (g := gb458) hg).symm; replace BK428 := n2_; replace BK429 := n3_; replace BK436 := n4_; replace BK447 := n5_; replace BK458 := n6_; replace HB := n7_; clear n2_ n3_ n4_ n5_ n6_ n7_; clear hb hbox hg; have hnb40 := NB465_428.out; have hnc40 := NB428_465.out; have hnb41 := NB465_429.out; have hnc41 := NB429_465.out; have hnb42 := NB465_436.out; have hnc42 := NB436_465.out; have hnb43 := NB465_447.out; have hnc43 := NB447_465.out; have hnb44 := NB465_458.out; have hnc44 := NB458_465.out; obtain ⟨hcz45_0, hcz45_1, hcz45_2, hcz45_3, hcz45_4, hcz45_5, hfz45_0, hfz45_1, hfz45_2, hfz45_3, hfz45_4, hfz45_5⟩ := bc6_ BK465.out))
  (try simp only [Act.put, List.setIfInBounds_toArray, List.set_cons_zero, List.set_cons_succ])
  go_cut [56] (fun v56 wc => ∃ (kq : Nat) (x56_9 : Bool), v56 = .bool x56_9 ∧ Aside0 (laws_FnDecides.j0 kq t437 t438 t448 x56_9 t420 t421 t422 t423 t424 t425 t426 t427 t430 t431 t432 t433 t434 t435 t441 t442 t443 t444 t445 t446 t451 t452 t453 t454 t455 t456 t457 t459 t460 t461 t462 t463 t464 = some r) ∧ Aside0 (kq ≤ k) ∧ Aside0 (Kd.R k51 51 wc w.heap.size (fun k_ => some k_ ≠ ((.slice Ao37 t448.length co37) : Value).ownBlock ∧ k_ ≠ gb428 ∧ k_ ≠ gb429) (.slice Ao23 t437.length co23) t437) ∧ Aside0 (Kd.R k51 51 wc w.heap.size (fun k_ => some k_ ≠ ((.slice Ao23 t437.length co23) : Value).ownBlock ∧ k_ ≠ gb428 ∧ k_ ≠ gb429) (.slice Ao37 t448.length co37) t448) ∧ Aside0 (wc.heap[gb428]? = some (.cells #[.int .i64 t420, .int .i64 t421, .int .i64 t422, .int .i64 t423] 51 (0, 0))) ∧ Aside0 (wc.heap[gb429]? = some (.cells #[.int .i64 t424, .int .i64 t425, .int .i64 t426, .int .i64 t427] 51 (0, 0))) ∧ Aside0 (wc.heap[gb436]? = some (.cells #[.int .i64 t430, .int .i64 t431, .int .i64 t432, .int .i64 t433, .int .i64 t434, .bool t435] 63 (0, 0))) ∧ Aside0 (wc.heap[gb447]? = some (.cells #[.int .i64 t441, .int .i64 t442, .int .i64 t443, .int .i64 t444, .int .i64 t445, .bool t446] 63 (0, 0))) ∧ Aside0 (wc.heap[gb458]? = some (.cells #[.int .i64 t451, .int .i64 t452, .int .i64 t453, .int .i64 t454, .int .i64 t455, .int .i64 t456, .int .i64 t457] 67 (0, 0))) ∧ Aside0 (wc.heap[gb465]? = some (.cells #[.int .i64 t459, .int .i64 t460, .int .i64 t461, .int .i64 t462, .int .i64 t463, .bool t464] 63 (0, 0))) ∧ Aside0 (Below w.heap.size w wc))
  case first =>
   have H := HC10.out; clear HC10; replace H := Option.bind_eq_some_iff.mp H; obtain ⟨⟨t466, t467, t468, t469, t470, t471⟩, A460, H⟩ := H; replace H : (if (!(t430 == t466) || ((!(t431 == t467) || (!(t432 == t468) || (!(t433 == t469) || (!(t434 == t470))))) || (!(t435 == t471)))) = true then (none) else ((spec_SuspectBy.f k t437 t438).bind fun bt472 => (if (!(t441 == bt472.1) || ((!(t442 == bt472.2.1) || (!(t443 == bt472.2.2.1) || (!(t444 == bt472.2.2.2.1) || (!(t445 == bt472.2.2.2.2.1))))) || (!(t446 == bt472.2.2.2.2.2)))) = true then (none) else ((spec_BuryBy.f k t448 t451 t452 t453 t454 t455 t456 t457).bind fun bt478 => (laws_FnDecides.j0 k t437 t438 t448 (!(t459 == bt478.1) || ((!(t460 == bt478.2.1) || (!(t461 == bt478.2.2.1) || (!(t462 == bt478.2.2.2.1) || (!(t463 == bt478.2.2.2.2.1))))) || (!(t464 == bt478.2.2.2.2.2)))) t420 t421 t422 t423 t424 t425 t426 t427 t430 t431 t432 t433 t434 t435 t441 t442 t443 t444 t445 t446 t451 t452 t453 t454 t455 t456 t457 t459 t460 t461 t462 t463 t464))))) = some r := H; have A46 := Aside0.mk A460; clear A460
   by_cases c47 : (!(t430 == t466) || ((!(t431 == t467) || (!(t432 == t468) || (!(t433 == t469) || (!(t434 == t470))))) || (!(t435 == t471)))) = true
   ·
    rw [if_pos c47] at H; exact absurd H (by simp)
   ·
    rw [if_neg c47] at H; have c47b0 : (!(t430 == t466) || ((!(t431 == t467) || (!(t432 == t468) || (!(t433 == t469) || (!(t434 == t470))))) || (!(t435 == t471)))) = false := by simpa using c47
    clear c47; (first | rw [c47b0] | (simp only [i64_w, i32_w]; rw [c47b0]) | skip); replace H := Option.bind_eq_some_iff.mp H; obtain ⟨⟨t472, t473, t474, t475, t476, t477⟩, A480, H⟩ := H; replace H : (if (!(t441 == t472) || ((!(t442 == t473) || (!(t443 == t474) || (!(t444 == t475) || (!(t445 == t476))))) || (!(t446 == t477)))) = true then (none) else ((spec_BuryBy.f k t448 t451 t452 t453 t454 t455 t456 t457).bind fun bt478 => (laws_FnDecides.j0 k t437 t438 t448 (!(t459 == bt478.1) || ((!(t460 == bt478.2.1) || (!(t461 == bt478.2.2.1) || (!(t462 == bt478.2.2.2.1) || (!(t463 == bt478.2.2.2.2.1))))) || (!(t464 == bt478.2.2.2.2.2)))) t420 t421 t422 t423 t424 t425 t426 t427 t430 t431 t432 t433 t434 t435 t441 t442 t443 t444 t445 t446 t451 t452 t453 t454 t455 t456 t457 t459 t460 t461 t462 t463 t464))) = some r := H; have A48 := Aside0.mk A480; clear A480
    by_cases c49 : (!(t441 == t472) || ((!(t442 == t473) || (!(t443 == t474) || (!(t444 == t475) || (!(t445 == t476))))) || (!(t446 == t477)))) = true
    ·
     rw [if_pos c49] at H; exact absurd H (by simp)
    ·
     rw [if_neg c49] at H; have c49b0 : (!(t441 == t472) || ((!(t442 == t473) || (!(t443 == t474) || (!(t444 == t475) || (!(t445 == t476))))) || (!(t446 == t477)))) = false := by simpa using c49
     clear c49; replace H := Option.bind_eq_some_iff.mp H; obtain ⟨⟨t478, t479, t480, t481, t482, t483⟩, A500, H⟩ := H; replace H : (laws_FnDecides.j0 k t437 t438 t448 (!(t459 == t478) || ((!(t460 == t479) || (!(t461 == t480) || (!(t462 == t481) || (!(t463 == t482))))) || (!(t464 == t483)))) t420 t421 t422 t423 t424 t425 t426 t427 t430 t431 t432 t433 t434 t435 t441 t442 t443 t444 t445 t446 t451 t452 t453 t454 t455 t456 t457 t459 t460 t461 t462 t463 t464) = some r := H; have A50 := Aside0.mk A500; clear A500; have H' := Aside0.mk H; clear H
     try go_wp2
     generalize hW_ : ((((((w39.setCell ⟨gb465, 0, none⟩ (.int .i64 t459)).setCell ⟨gb465, 1, none⟩ (.int .i64 t460)).setCell ⟨gb465, 2, none⟩ (.int .i64 t461)).setCell ⟨gb465, 3, none⟩ (.int .i64 t462)).setCell ⟨gb465, 4, none⟩ (.int .i64 t463)).setCell ⟨gb465, 5, none⟩ (.bool t464)) = w51 at ⊢; have n0_ : Aside0 (Kd.R k51 51 w51 w.heap.size (fun k_ => some k_ ≠ (.slice Ao37 t448.length co37 : Value).ownBlock ∧ k_ ≠ gb428 ∧ k_ ≠ gb429) (.slice Ao23 t437.length co23) t437) := hW_ ▸ ⟨by (with_reducible repeat (first | apply Kd.R_alloc | apply Kd.R_drewN | apply Kd.R_drew)); exact Kd.R_mono (Kd.R_far (p := ⟨gb465, 5, none⟩) (Kd.R_far (p := ⟨gb465, 4, none⟩) (Kd.R_far (p := ⟨gb465, 3, none⟩) (Kd.R_far (p := ⟨gb465, 2, none⟩) (Kd.R_far (p := ⟨gb465, 1, none⟩) (Kd.R_far (p := ⟨gb465, 0, none⟩) (Kd.R_types HO440.out BK465.out (by decide)) (fun _ hk => hk.2) (.int .i64 t459)) (fun _ hk => hk.2) (.int .i64 t460)) (fun _ hk => hk.2) (.int .i64 t461)) (fun _ hk => hk.2) (.int .i64 t462)) (fun _ hk => hk.2) (.int .i64 t463)) (fun _ hk => hk.2) (.bool t464)) (fun _ hk => ⟨hk.1.2, ⟨hk.1.1.1.2, hk.1.1.2⟩⟩)⟩; have n1_ : Aside0 (Kd.R k51 51 w51 w.heap.size (fun k_ => some k_ ≠ (.slice Ao23 t437.length co23 : Value).ownBlock ∧ k_ ≠ gb428 ∧ k_ ≠ gb429) (.slice Ao37 t448.length co37) t448) := hW_ ▸ ⟨by (with_reducible repeat (first | apply Kd.R_alloc | apply Kd.R_drewN | apply Kd.R_drew)); exact Kd.R_mono (Kd.R_far (p := ⟨gb465, 5, none⟩) (Kd.R_far (p := ⟨gb465, 4, none⟩) (Kd.R_far (p := ⟨gb465, 3, none⟩) (Kd.R_far (p := ⟨gb465, 2, none⟩) (Kd.R_far (p := ⟨gb465, 1, none⟩) (Kd.R_far (p := ⟨gb465, 0, none⟩) (Kd.R_types HO450.out BK465.out (by decide)) (fun _ hk => hk.2) (.int .i64 t459)) (fun _ hk => hk.2) (.int .i64 t460)) (fun _ hk => hk.2) (.int .i64 t461)) (fun _ hk => hk.2) (.int .i64 t462)) (fun _ hk => hk.2) (.int .i64 t463)) (fun _ hk => hk.2) (.bool t464)) (fun _ hk => ⟨hk.1.1.1.2, ⟨hk.1.1.2, hk.1.2⟩⟩)⟩; have n2_ : Aside0 (w51.heap[gb428]? = some (.cells #[.int .i64 t420, .int .i64 t421, .int .i64 t422, .int .i64 t423] 51 (0, 0))) := hW_ ▸ ⟨blk_a⟩; have n3_ : Aside0 (w51.heap[gb429]? = some (.cells #[.int .i64 t424, .int .i64 t425, .int .i64 t426, .int .i64 t427] 51 (0, 0))) := hW_ ▸ ⟨blk_a⟩; have n4_ : Aside0 (w51.heap[gb436]? = some (.cells #[.int .i64 t430, .int .i64 t431, .int .i64 t432, .int .i64 t433, .int .i64 t434, .bool t435] 63 (0, 0))) := hW_ ▸ ⟨blk_a⟩; have n5_ : Aside0 (w51.heap[gb447]? = some (.cells #[.int .i64 t441, .int .i64 t442, .int .i64 t443, .int .i64 t444, .int .i64 t445, .bool t446] 63 (0, 0))) := hW_ ▸ ⟨blk_a⟩; have n6_ : Aside0 (w51.heap[gb458]? = some (.cells #[.int .i64 t451, .int .i64 t452, .int .i64 t453, .int .i64 t454, .int .i64 t455, .int .i64 t456, .int .i64 t457] 67 (0, 0))) := hW_ ▸ ⟨blk_a⟩; have n7_ : Aside0 (w51.heap[gb465]? = some (.cells #[.int .i64 t459, .int .i64 t460, .int .i64 t461, .int .i64 t462, .int .i64 t463, .bool t464] 63 (0, 0))) := hW_ ▸ ⟨blk_a⟩; have n8_ : Aside0 (Below w.heap.size w w51) := hW_ ▸ ⟨below_a⟩; (try clear HO440); (try clear HO450); (try clear BK428); (try clear BK429); (try clear BK436); (try clear BK447); (try clear BK458); (try clear BK465); (try clear HB); clear hW_; have HO440 := n0_; have HO450 := n1_; have BK428 := n2_; have BK429 := n3_; have BK436 := n4_; have BK447 := n5_; have BK458 := n6_; have BK465 := n7_; have HB := n8_; clear n0_ n1_ n2_ n3_ n4_ n5_ n6_ n7_ n8_; replace HO440 := Aside0.mk (Kd.R_drew HO440.out); replace HO450 := Aside0.mk (Kd.R_drew HO450.out); replace BK428 := Aside0.mk (blk_drew BK428.out); replace BK429 := Aside0.mk (blk_drew BK429.out); replace BK436 := Aside0.mk (blk_drew BK436.out); replace BK447 := Aside0.mk (blk_drew BK447.out); replace BK458 := Aside0.mk (blk_drew BK458.out); replace BK465 := Aside0.mk (blk_drew BK465.out); replace HB := Aside0.mk (below_drew1 HB.out); refine start_ (n := 19) (S := fun w' => w'.cell? ⟨gb436, 0, none⟩ = some (.int .i64 t430) ∧ w'.cell? ⟨gb436, 1, none⟩ = some (.int .i64 t431) ∧ w'.cell? ⟨gb436, 2, none⟩ = some (.int .i64 t432) ∧ w'.cell? ⟨gb436, 3, none⟩ = some (.int .i64 t433) ∧ w'.cell? ⟨gb436, 4, none⟩ = some (.int .i64 t434) ∧ w'.cell? ⟨gb436, 5, none⟩ = some (.bool t435) ∧ w'.cell? ⟨gb428, 0, none⟩ = some (.int .i64 t420) ∧ w'.cell? ⟨gb428, 1, none⟩ = some (.int .i64 t421) ∧ w'.cell? ⟨gb428, 2, none⟩ = some (.int .i64 t422) ∧ w'.cell? ⟨gb428, 3, none⟩ = some (.int .i64 t423) ∧ w'.cell? ⟨gb429, 0, none⟩ = some (.int .i64 t424) ∧ w'.cell? ⟨gb429, 1, none⟩ = some (.int .i64 t425) ∧ w'.cell? ⟨gb429, 2, none⟩ = some (.int .i64 t426) ∧ w'.cell? ⟨gb429, 3, none⟩ = some (.int .i64 t427) ∧ w'.cell? ⟨gb447, 0, none⟩ = some (.int .i64 t441) ∧ w'.cell? ⟨gb447, 1, none⟩ = some (.int .i64 t442) ∧ w'.cell? ⟨gb447, 2, none⟩ = some (.int .i64 t443) ∧ w'.cell? ⟨gb447, 3, none⟩ = some (.int .i64 t444) ∧ w'.cell? ⟨gb447, 4, none⟩ = some (.int .i64 t445) ∧ w'.cell? ⟨gb447, 5, none⟩ = some (.bool t446) ∧ w'.cell? ⟨gb465, 0, none⟩ = some (.int .i64 t459) ∧ w'.cell? ⟨gb465, 1, none⟩ = some (.int .i64 t460) ∧ w'.cell? ⟨gb465, 2, none⟩ = some (.int .i64 t461) ∧ w'.cell? ⟨gb465, 3, none⟩ = some (.int .i64 t462) ∧ w'.cell? ⟨gb465, 4, none⟩ = some (.int .i64 t463) ∧ w'.cell? ⟨gb465, 5, none⟩ = some (.bool t464) ∧ w'.cell? ⟨gb458, 0, none⟩ = some (.int .i64 t451) ∧ w'.cell? ⟨gb458, 1, none⟩ = some (.int .i64 t452) ∧ w'.cell? ⟨gb458, 2, none⟩ = some (.int .i64 t453) ∧ w'.cell? ⟨gb458, 3, none⟩ = some (.int .i64 t454) ∧ w'.cell? ⟨gb458, 4, none⟩ = some (.int .i64 t455) ∧ w'.cell? ⟨gb458, 5, none⟩ = some (.int .i64 t456) ∧ w'.cell? ⟨gb458, 6, none⟩ = some (.int .i64 t457)) (ds := []) #[Z',Z',Z',Z',Z',Z',Z',Z',Z',Z',Z',Z',Z',Z',Z',Z',Z',Z',Z'] (by kernel_rfl) rfl rfl ⟨(blk_cell BK436.out 0).trans rfl, (blk_cell BK436.out 1).trans rfl, (blk_cell BK436.out 2).trans rfl, (blk_cell BK436.out 3).trans rfl, (blk_cell BK436.out 4).trans rfl, (blk_cell BK436.out 5).trans rfl, (blk_cell BK428.out 0).trans rfl, (blk_cell BK428.out 1).trans rfl, (blk_cell BK428.out 2).trans rfl, (blk_cell BK428.out 3).trans rfl, (blk_cell BK429.out 0).trans rfl, (blk_cell BK429.out 1).trans rfl, (blk_cell BK429.out 2).trans rfl, (blk_cell BK429.out 3).trans rfl, (blk_cell BK447.out 0).trans rfl, (blk_cell BK447.out 1).trans rfl, (blk_cell BK447.out 2).trans rfl, (blk_cell BK447.out 3).trans rfl, (blk_cell BK447.out 4).trans rfl, (blk_cell BK447.out 5).trans rfl, (blk_cell BK465.out 0).trans rfl, (blk_cell BK465.out 1).trans rfl, (blk_cell BK465.out 2).trans rfl, (blk_cell BK465.out 3).trans rfl, (blk_cell BK465.out 4).trans rfl, (blk_cell BK465.out 5).trans rfl, (blk_cell BK458.out 0).trans rfl, (blk_cell BK458.out 1).trans rfl, (blk_cell BK458.out 2).trans rfl, (blk_cell BK458.out 3).trans rfl, (blk_cell BK458.out 4).trans rfl, (blk_cell BK458.out 5).trans rfl, (blk_cell BK458.out 6).trans rfl⟩ (fun hHeld => ?_); refine with_tabW laws_FnDecides.tab9 laws_FnDecides.bits9 (fun HT_ HW_ => ?_); generalize w51.drew = w52 at HO440 HO450 BK428 BK429 BK436 BK447 BK458 BK465 HB hHeld ⊢; refine take_ (i := 0) (N := some 38) (v := ?_) (a' := ?_) #[Y',Z',Z',Z',Z',Z',Z',Z',Z',Z',Z',Z',Z',Z',Z',Z',Z',Z',Z'] rfl rfl (take_ofW HT_.out HW_.out (by kernel_rfl)) (fun _ _ _ h => h) (Or.inl ⟨by rfl, ?_⟩) hHeld ?_ ?_; rotate_left
     ·
      rintro w' ⟨s0, s1, s2, s3, s4, s5, s6, s7, s8, s9, s10, s11, s12, s13, s14, s15, s16, s17, s18, s19, s20, s21, s22, s23, s24, s25, s26, s27, s28, s29, s30, s31, s32⟩
      go_simp
      with_reducible rfl
     rotate_left
     ·
      simp only [Act.put, List.setIfInBounds_toArray, List.set_cons_zero, List.set_cons_succ, i64_w, i32_w]; rfl
     refine take_ (i := 1) (N := some 39) (v := ?_) (a' := ?_) #[Y',Y',Z',Z',Z',Z',Z',Z',Z',Z',Z',Z',Z',Z',Z',Z',Z',Z',Z'] rfl rfl (take_ofW HT_.out HW_.out (by kernel_rfl)) (fun _ _ _ h => h) (Or.inl ⟨by rfl, ?_⟩) hHeld ?_ ?_; rotate_left
     ·
      rintro w' ⟨s0, s1, s2, s3, s4, s5, s6, s7, s8, s9, s10, s11, s12, s13, s14, s15, s16, s17, s18, s19, s20, s21, s22, s23, s24, s25, s26, s27, s28, s29, s30, s31, s32⟩
      go_simp
      with_reducible rfl
     rotate_left
     ·
      simp only [Act.put, List.setIfInBounds_toArray, List.set_cons_zero, List.set_cons_succ, i64_w, i32_w]; rfl
     refine take_ (i := 2) (N := some 40) (v := ?_) (a' := ?_) #[Y',Y',Y',Z',Z',Z',Z',Z',Z',Z',Z',Z',Z',Z',Z',Z',Z',Z',Z'] rfl rfl (take_ofW HT_.out HW_.out (by kernel_rfl)) (fun _ _ _ h => h) (Or.inl ⟨by rfl, ?_⟩) hHeld ?_ ?_; rotate_left
     ·
      rintro w' ⟨s0, s1, s2, s3, s4, s5, s6, s7, s8, s9, s10, s11, s12, s13, s14, s15, s16, s17, s18, s19, s20, s21, s22, s23, s24, s25, s26, s27, s28, s29, s30, s31, s32⟩
      go_simp
      with_reducible rfl
     rotate_left
     ·
      simp only [Act.put, List.setIfInBounds_toArray, List.set_cons_zero, List.set_cons_succ, i64_w, i32_w]; rfl
     refine one_ (i := 3) (N := some 41) #[Y',Y',Y',Y',Z',Z',Z',Z',Z',Z',Z',Z',Z',Z',Z',Z',Z',Z',Z'] rfl rfl (one_of HT_.out (by kernel_rfl)) (by decide) (fun K hK => ?_); refine goes_ Try.func41 (by kernel_rfl) rfl #[.agg #[.int .i64 t420, .int .i64 t421, .int .i64 t422, .int .i64 t423], .agg #[.int .i64 t424, .int .i64 t425, .int .i64 t426, .int .i64 t427]] (by rfl) rfl rfl args_a ?_
     with_reducible refine (spec_RefuteBy.calls t420 t421 t422 t423 t424 t425 t426 t427 t466 t467 t468 t469 t470 t471 _ A46.out).mono ?_
     rintro e w53 ⟨rfl, hb⟩; refine ⟨_, rfl, ?_⟩; replace HO440 := Aside0.mk (Kd.R_below (R_a HO440.out) hb); replace HO450 := Aside0.mk (Kd.R_below (R_a HO450.out) hb); replace BK428 := Aside0.mk (blk_below (g := gb428) blk_c hb); replace BK429 := Aside0.mk (blk_below (g := gb429) blk_c hb); replace BK436 := Aside0.mk (blk_below (g := gb436) blk_c hb); replace BK447 := Aside0.mk (blk_below (g := gb447) blk_c hb); replace BK458 := Aside0.mk (blk_below (g := gb458) blk_c hb); replace BK465 := Aside0.mk (blk_below (g := gb465) blk_c hb); replace HB := Aside0.mk (below_step below_a hb); (try clear hb); (try clear hb2); (try clear hk); (try clear hi); refine hK.out _ _ ⟨(blk_cell BK436.out 0).trans rfl, (blk_cell BK436.out 1).trans rfl, (blk_cell BK436.out 2).trans rfl, (blk_cell BK436.out 3).trans rfl, (blk_cell BK436.out 4).trans rfl, (blk_cell BK436.out 5).trans rfl, (blk_cell BK428.out 0).trans rfl, (blk_cell BK428.out 1).trans rfl, (blk_cell BK428.out 2).trans rfl, (blk_cell BK428.out 3).trans rfl, (blk_cell BK429.out 0).trans rfl, (blk_cell BK429.out 1).trans rfl, (blk_cell BK429.out 2).trans rfl, (blk_cell BK429.out 3).trans rfl, (blk_cell BK447.out 0).trans rfl, (blk_cell BK447.out 1).trans rfl, (blk_cell BK447.out 2).trans rfl, (blk_cell BK447.out 3).trans rfl, (blk_cell BK447.out 4).trans rfl, (blk_cell BK447.out 5).trans rfl, (blk_cell BK465.out 0).trans rfl, (blk_cell BK465.out 1).trans rfl, (blk_cell BK465.out 2).trans rfl, (blk_cell BK465.out 3).trans rfl, (blk_cell BK465.out 4).trans rfl, (blk_cell BK465.out 5).trans rfl, (blk_cell BK458.out 0).trans rfl, (blk_cell BK458.out 1).trans rfl, (blk_cell BK458.out 2).trans rfl, (blk_cell BK458.out 3).trans rfl, (blk_cell BK458.out 4).trans rfl, (blk_cell BK458.out 5).trans rfl, (blk_cell BK458.out 6).trans rfl⟩ (fun hHeld => ?_); clear hK K; refine norm_ (a' := ?_) ?_ ?_; rotate_left
     ·
      show Act.put _ (some 41) _ = _; simp only [Act.put, List.setIfInBounds_toArray, List.set_cons_zero, List.set_cons_succ, i64_w, i32_w]; rfl
     refine pure_ (i := 4) (N := some 42) (v := ?_) (a' := ?_) #[Y',Y',Y',Y',Y',Z',Z',Z',Z',Z',Z',Z',Z',Z',Z',Z',Z',Z',Z'] rfl rfl (any_of HT_.out (by kernel_rfl)) (fun _ _ _ h => h) (Or.inl ⟨by rfl, ?_⟩) ?_ ?_; rotate_left
     ·
      intro w'
      go_simp
      with_reducible rfl
     rotate_left
     ·
      simp only [Act.put, List.setIfInBounds_toArray, List.set_cons_zero, List.set_cons_succ, i64_w, i32_w]; rfl
     refine pure_ (i := 5) (N := some 43) (v := ?_) (a' := ?_) #[Y',Y',Y',Y',Y',Y',Z',Z',Z',Z',Z',Z',Z',Z',Z',Z',Z',Z',Z'] rfl rfl (any_of HT_.out (by kernel_rfl)) (fun _ _ _ h => h) (Or.inl ⟨by rfl, ?_⟩) ?_ ?_; rotate_left
     ·
      intro w'
      go_simp
      with_reducible rfl
     rotate_left
     ·
      simp only [Act.put, List.setIfInBounds_toArray, List.set_cons_zero, List.set_cons_succ, i64_w, i32_w]; rfl
     refine pure_ (i := 7) (N := some 45) (v := ?_) (a' := ?_) #[Y',Y',Y',Y',Y',Y',Z',Y',Z',Z',Z',Z',Z',Z',Z',Z',Z',Z',Z'] rfl rfl (any_of HT_.out (by kernel_rfl)) (fun _ _ _ h => h) (Or.inl ⟨by rfl, ?_⟩) ?_ ?_; rotate_left
     ·
      intro w'
      go_simp
      with_reducible rfl
     rotate_left
     ·
      simp only [Act.put, List.setIfInBounds_toArray, List.set_cons_zero, List.set_cons_succ, i64_w, i32_w]; rfl
     refine pure_ (i := 8) (N := some 46) (v := ?_) (a' := ?_) #[Y',Y',Y',Y',Y',Y',Z',Y',Y',Z',Z',Z',Z',Z',Z',Z',Z',Z',Z'] rfl rfl (any_of HT_.out (by kernel_rfl)) (fun _ _ _ h => h) (Or.inl ⟨by rfl, ?_⟩) ?_ ?_; rotate_left
     ·
      intro w'
      go_simp
      with_reducible rfl
     rotate_left
     ·
      simp only [Act.put, List.setIfInBounds_toArray, List.set_cons_zero, List.set_cons_succ, i64_w, i32_w]; rfl
     refine take_ (i := 6) (N := some 44) (v := ?_) (a' := ?_) #[Y',Y',Y',Y',Y',Y',Y',Y',Y',Z',Z',Z',Z',Z',Z',Z',Z',Z',Z'] rfl rfl (take_ofW HT_.out HW_.out (by kernel_rfl)) (fun _ _ _ h => h) (Or.inl ⟨by rfl, ?_⟩) hHeld ?_ ?_; rotate_left
     ·
      rintro w' ⟨s0, s1, s2, s3, s4, s5, s6, s7, s8, s9, s10, s11, s12, s13, s14, s15, s16, s17, s18, s19, s20, s21, s22, s23, s24, s25, s26, s27, s28, s29, s30, s31, s32⟩
      go_simp
      with_reducible rfl
     rotate_left
     ·
      simp only [Act.put, List.setIfInBounds_toArray, List.set_cons_zero, List.set_cons_succ, i64_w, i32_w]; rfl
     refine one_ (i := 9) (N := some 47) #[Y',Y',Y',Y',Y',Y',Y',Y',Y',Y',Z',Z',Z',Z',Z',Z',Z',Z',Z'] rfl rfl (one_of HT_.out (by kernel_rfl)) (by decide) (fun K hK => ?_); refine goes_ Try.func42 (by kernel_rfl) rfl #[.slice Ao23 t437.length co23, .int .i64 t438] (by rfl) rfl rfl args_a ?_
     with_reducible refine (spec_SuspectBy.calls k _ _ t437 t438 t472 t473 t474 t475 t476 t477 _ ?side1 ?side2 A48.out).mono ?_
     (case side1 => repeat (first | exact (Kd.R_reads' HO440.out).2.2 | (with_reducible refine Kd.C_alloc ?_ _) | (with_reducible refine Kd.C_drewN ?_ _) | (with_reducible refine Kd.C_drew ?_))); (case side2 => exact (Kd.R_reads' HO440.out).2.1); rintro e w54 ⟨rfl, hb⟩; refine ⟨_, rfl, ?_⟩; replace HO440 := Aside0.mk (Kd.R_below (R_a HO440.out) hb); replace HO450 := Aside0.mk (Kd.R_below (R_a HO450.out) hb); replace BK428 := Aside0.mk (blk_below (g := gb428) blk_c hb); replace BK429 := Aside0.mk (blk_below (g := gb429) blk_c hb); replace BK436 := Aside0.mk (blk_below (g := gb436) blk_c hb); replace BK447 := Aside0.mk (blk_below (g := gb447) blk_c hb); replace BK458 := Aside0.mk (blk_below (g := gb458) blk_c hb); replace BK465 := Aside0.mk (blk_below (g := gb465) blk_c hb); replace HB := Aside0.mk (below_step below_a hb); (try clear hb); (try clear hb2); (try clear hk); (try clear hi); refine hK.out _ _ ⟨(blk_cell BK436.out 0).trans rfl, (blk_cell BK436.out 1).trans rfl, (blk_cell BK436.out 2).trans rfl, (blk_cell BK436.out 3).trans rfl, (blk_cell BK436.out 4).trans rfl, (blk_cell BK436.out 5).trans rfl, (blk_cell BK428.out 0).trans rfl, (blk_cell BK428.out 1).trans rfl, (blk_cell BK428.out 2).trans rfl, (blk_cell BK428.out 3).trans rfl, (blk_cell BK429.out 0).trans rfl, (blk_cell BK429.out 1).trans rfl, (blk_cell BK429.out 2).trans rfl, (blk_cell BK429.out 3).trans rfl, (blk_cell BK447.out 0).trans rfl, (blk_cell BK447.out 1).trans rfl, (blk_cell BK447.out 2).trans rfl, (blk_cell BK447.out 3).trans rfl, (blk_cell BK447.out 4).trans rfl, (blk_cell BK447.out 5).trans rfl, (blk_cell BK465.out 0).trans rfl, (blk_cell BK465.out 1).trans rfl, (blk_cell BK465.out 2).trans rfl, (blk_cell BK465.out 3).trans rfl, (blk_cell BK465.out 4).trans rfl, (blk_cell BK465.out 5).trans rfl, (blk_cell BK458.out 0).trans rfl, (blk_cell BK458.out 1).trans rfl, (blk_cell BK458.out 2).trans rfl, (blk_cell BK458.out 3).trans rfl, (blk_cell BK458.out 4).trans rfl, (blk_cell BK458.out 5).trans rfl, (blk_cell BK458.out 6).trans rfl⟩ (fun hHeld => ?_); clear hK K; refine norm_ (a' := ?_) ?_ ?_; rotate_left
     ·
      show Act.put _ (some 47) _ = _; simp only [Act.put, List.setIfInBounds_toArray, List.set_cons_zero, List.set_cons_succ, i64_w, i32_w]; rfl
     refine pure_ (i := 10) (N := some 48) (v := ?_) (a' := ?_) #[Y',Y',Y',Y',Y',Y',Y',Y',Y',Y',Y',Z',Z',Z',Z',Z',Z',Z',Z'] rfl rfl (any_of HT_.out (by kernel_rfl)) (fun _ _ _ h => h) (Or.inl ⟨by rfl, ?_⟩) ?_ ?_; rotate_left
     ·
      intro w'
      go_simp
      with_reducible rfl
     rotate_left
     ·
      simp only [Act.put, List.setIfInBounds_toArray, List.set_cons_zero, List.set_cons_succ, i64_w, i32_w]; rfl
     refine pure_ (i := 11) (N := some 49) (v := ?_) (a' := ?_) #[Y',Y',Y',Y',Y',Y',Y',Y',Y',Y',Y',Y',Z',Z',Z',Z',Z',Z',Z'] rfl rfl (any_of HT_.out (by kernel_rfl)) (fun _ _ _ h => h) (Or.inl ⟨by rfl, ?_⟩) ?_ ?_; rotate_left
     ·
      intro w'
      go_simp
      with_reducible rfl
     rotate_left
     ·
      simp only [Act.put, List.setIfInBounds_toArray, List.set_cons_zero, List.set_cons_succ, i64_w, i32_w]; rfl
     refine pure_ (i := 12) (N := some 50) (v := ?_) (a' := ?_) #[Y',Y',Y',Y',Y',Y',Y',Y',Y',Y',Y',Y',Y',Z',Z',Z',Z',Z',Z'] rfl rfl (any_of HT_.out (by kernel_rfl)) (fun _ _ _ h => h) (Or.inl ⟨by rfl, ?_⟩) ?_ ?_; rotate_left
     ·
      intro w'
      go_simp
      with_reducible rfl
     rotate_left
     ·
      simp only [Act.put, List.setIfInBounds_toArray, List.set_cons_zero, List.set_cons_succ, i64_w, i32_w]; rfl
     refine pure_ (i := 14) (N := some 52) (v := ?_) (a' := ?_) #[Y',Y',Y',Y',Y',Y',Y',Y',Y',Y',Y',Y',Y',Z',Y',Z',Z',Z',Z'] rfl rfl (any_of HT_.out (by kernel_rfl)) (fun _ _ _ h => h) (Or.inl ⟨by rfl, ?_⟩) ?_ ?_; rotate_left
     ·
      intro w'
      go_simp
      with_reducible rfl
     rotate_left
     ·
      simp only [Act.put, List.setIfInBounds_toArray, List.set_cons_zero, List.set_cons_succ, i64_w, i32_w]; rfl
     refine take_ (i := 13) (N := some 51) (v := ?_) (a' := ?_) #[Y',Y',Y',Y',Y',Y',Y',Y',Y',Y',Y',Y',Y',Y',Y',Z',Z',Z',Z'] rfl rfl (take_ofW HT_.out HW_.out (by kernel_rfl)) (fun _ _ _ h => h) (Or.inl ⟨by rfl, ?_⟩) hHeld ?_ ?_; rotate_left
     ·
      rintro w' ⟨s0, s1, s2, s3, s4, s5, s6, s7, s8, s9, s10, s11, s12, s13, s14, s15, s16, s17, s18, s19, s20, s21, s22, s23, s24, s25, s26, s27, s28, s29, s30, s31, s32⟩
      go_simp
      with_reducible rfl
     rotate_left
     ·
      simp only [Act.put, List.setIfInBounds_toArray, List.set_cons_zero, List.set_cons_succ, i64_w, i32_w]; rfl
     refine take_ (i := 15) (N := some 53) (v := ?_) (a' := ?_) #[Y',Y',Y',Y',Y',Y',Y',Y',Y',Y',Y',Y',Y',Y',Y',Y',Z',Z',Z'] rfl rfl (take_ofW HT_.out HW_.out (by kernel_rfl)) (fun _ _ _ h => h) (Or.inl ⟨by rfl, ?_⟩) hHeld ?_ ?_; rotate_left
     ·
      rintro w' ⟨s0, s1, s2, s3, s4, s5, s6, s7, s8, s9, s10, s11, s12, s13, s14, s15, s16, s17, s18, s19, s20, s21, s22, s23, s24, s25, s26, s27, s28, s29, s30, s31, s32⟩
      go_simp
      with_reducible rfl
     rotate_left
     ·
      simp only [Act.put, List.setIfInBounds_toArray, List.set_cons_zero, List.set_cons_succ, i64_w, i32_w]; rfl
     refine one_ (i := 16) (N := some 54) #[Y',Y',Y',Y',Y',Y',Y',Y',Y',Y',Y',Y',Y',Y',Y',Y',Y',Z',Z'] rfl rfl (one_of HT_.out (by kernel_rfl)) (by decide) (fun K hK => ?_); refine goes_ Try.func43 (by kernel_rfl) rfl #[.slice Ao37 t448.length co37, .agg #[.int .i64 t451, .int .i64 t452, .int .i64 t453, .int .i64 t454, .int .i64 t455, .int .i64 t456, .int .i64 t457]] (by rfl) rfl rfl args_a ?_
     with_reducible refine (spec_BuryBy.calls k _ _ t448 t451 t452 t453 t454 t455 t456 t457 t478 t479 t480 t481 t482 t483 _ ?side1 ?side2 A50.out).mono ?_
     (case side1 => repeat (first | exact (Kd.R_reads' HO450.out).2.2 | (with_reducible refine Kd.C_alloc ?_ _) | (with_reducible refine Kd.C_drewN ?_ _) | (with_reducible refine Kd.C_drew ?_))); (case side2 => exact (Kd.R_reads' HO450.out).2.1); rintro e w55 ⟨rfl, hb⟩; refine ⟨_, rfl, ?_⟩; replace HO440 := Aside0.mk (Kd.R_below (R_a HO440.out) hb); replace HO450 := Aside0.mk (Kd.R_below (R_a HO450.out) hb); replace BK428 := Aside0.mk (blk_below (g := gb428) blk_c hb); replace BK429 := Aside0.mk (blk_below (g := gb429) blk_c hb); replace BK436 := Aside0.mk (blk_below (g := gb436) blk_c hb); replace BK447 := Aside0.mk (blk_below (g := gb447) blk_c hb); replace BK458 := Aside0.mk (blk_below (g := gb458) blk_c hb); replace BK465 := Aside0.mk (blk_below (g := gb465) blk_c hb); replace HB := Aside0.mk (below_step below_a hb); (try clear hb); (try clear hb2); (try clear hk); (try clear hi); refine hK.out _ _ ⟨(blk_cell BK436.out 0).trans rfl, (blk_cell BK436.out 1).trans rfl, (blk_cell BK436.out 2).trans rfl, (blk_cell BK436.out 3).trans rfl, (blk_cell BK436.out 4).trans rfl, (blk_cell BK436.out 5).trans rfl, (blk_cell BK428.out 0).trans rfl, (blk_cell BK428.out 1).trans rfl, (blk_cell BK428.out 2).trans rfl, (blk_cell BK428.out 3).trans rfl, (blk_cell BK429.out 0).trans rfl, (blk_cell BK429.out 1).trans rfl, (blk_cell BK429.out 2).trans rfl, (blk_cell BK429.out 3).trans rfl, (blk_cell BK447.out 0).trans rfl, (blk_cell BK447.out 1).trans rfl, (blk_cell BK447.out 2).trans rfl, (blk_cell BK447.out 3).trans rfl, (blk_cell BK447.out 4).trans rfl, (blk_cell BK447.out 5).trans rfl, (blk_cell BK465.out 0).trans rfl, (blk_cell BK465.out 1).trans rfl, (blk_cell BK465.out 2).trans rfl, (blk_cell BK465.out 3).trans rfl, (blk_cell BK465.out 4).trans rfl, (blk_cell BK465.out 5).trans rfl, (blk_cell BK458.out 0).trans rfl, (blk_cell BK458.out 1).trans rfl, (blk_cell BK458.out 2).trans rfl, (blk_cell BK458.out 3).trans rfl, (blk_cell BK458.out 4).trans rfl, (blk_cell BK458.out 5).trans rfl, (blk_cell BK458.out 6).trans rfl⟩ (fun hHeld => ?_); clear hK K; refine norm_ (a' := ?_) ?_ ?_; rotate_left
     ·
      show Act.put _ (some 54) _ = _; simp only [Act.put, List.setIfInBounds_toArray, List.set_cons_zero, List.set_cons_succ, i64_w, i32_w]; rfl
     refine pure_ (i := 17) (N := some 55) (v := ?_) (a' := ?_) #[Y',Y',Y',Y',Y',Y',Y',Y',Y',Y',Y',Y',Y',Y',Y',Y',Y',Y',Z'] rfl rfl (any_of HT_.out (by kernel_rfl)) (fun _ _ _ h => h) (Or.inl ⟨by rfl, ?_⟩) ?_ ?_; rotate_left
     ·
      intro w'
      go_simp
      with_reducible rfl
     rotate_left
     ·
      simp only [Act.put, List.setIfInBounds_toArray, List.set_cons_zero, List.set_cons_succ, i64_w, i32_w]; rfl
     refine pure_ (i := 18) (N := some 56) (v := ?_) (a' := ?_) #[Y',Y',Y',Y',Y',Y',Y',Y',Y',Y',Y',Y',Y',Y',Y',Y',Y',Y',Y'] rfl rfl (any_of HT_.out (by kernel_rfl)) (fun _ _ _ h => h) (Or.inl ⟨by rfl, ?_⟩) ?_ ?_; rotate_left
     ·
      intro w'
      go_simp
      with_reducible rfl
     rotate_left
     ·
      simp only [Act.put, List.setIfInBounds_toArray, List.set_cons_zero, List.set_cons_succ, i64_w, i32_w]; rfl
     refine done_ (done_of HT_.out (by kernel_rfl)) ?_
     try go_wp2
     go_meet
     case rel => exact ⟨_, ((!(t459 == t478) || ((!(t460 == t479) || (!(t461 == t480) || (!(t462 == t481) || (!(t463 == t482))))) || (!(t464 == t483))))), eq_b, H', ⟨by first | omega | exact Nat.le_refl _⟩, ⟨R_a HO440.out⟩, ⟨R_a HO450.out⟩, ⟨blk_a⟩, ⟨blk_a⟩, ⟨blk_a⟩, ⟨blk_a⟩, ⟨blk_a⟩, ⟨blk_a⟩, ⟨below_a⟩⟩
  case rest =>
   clear HC10
   try clear c1
   try clear c2
   try clear p2
   try clear c3
   try clear c4
   try clear c6
   try clear c7
   try clear c14
   try clear c19
   try clear c20
   try clear c26
   try clear c27
   try clear c28
   try clear c32
   try clear c33
   try clear c34
   try clear c35
   try clear c36
   try clear c37
   try clear c38
   try clear c39
   try clear c40
   try clear c41
   try clear c42
   try clear c43
   try clear c44
   try clear c47 c47b0
   try clear c49 c49b0
   try clear hcz15_0 hcz15_1 hcz15_2 hcz15_3
   try clear hcz16_0 hcz16_1 hcz16_2 hcz16_3
   try clear hcz21_0 hcz21_1 hcz21_2 hcz21_3 hcz21_4 hcz21_5
   try clear hcz29_0 hcz29_1 hcz29_2 hcz29_3 hcz29_4 hcz29_5
   try clear hcz36_0 hcz36_1 hcz36_2 hcz36_3 hcz36_4 hcz36_5 hcz36_6
   try clear hcz45_0 hcz45_1 hcz45_2 hcz45_3 hcz45_4 hcz45_5
   try clear hfz15_0 hfz15_1 hfz15_2 hfz15_3
   try clear hfz16_0 hfz16_1 hfz16_2 hfz16_3
   try clear hfz21_0 hfz21_1 hfz21_2 hfz21_3 hfz21_4 hfz21_5
   try clear hfz29_0 hfz29_1 hfz29_2 hfz29_3 hfz29_4 hfz29_5
   try clear hfz36_0 hfz36_1 hfz36_2 hfz36_3 hfz36_4 hfz36_5 hfz36_6
   try clear hfz45_0 hfz45_1 hfz45_2 hfz45_3 hfz45_4 hfz45_5
   obtain ⟨kq, x56_9, rfl, HA, HJ9, HO_6, HO_9, BK428, BK429, BK436, BK447, BK458, BK465, HB⟩ := hcut
   cases kq with
   | zero => exact absurd HA.out (by simp [laws_FnDecides.j0])
   | succ kj9 =>
    have H := HA.out; clear HA; simp only [laws_FnDecides.j0] at H
    by_cases c56 : x56_9 = true
    ·
     subst c56; have H1 : (none) = some r := by rw [if_pos rfl] at H; exact H
     clear H; have H := H1; clear H1; exact absurd H (by simp)
    ·
     replace c56 := Bool.eq_false_iff.mpr c56; subst c56; have H1 : (if t441 = 0 then (if t446 = true then ((spec_FindClaim.f kj9 t437 t438).bind fun bt484 => (if 0 < (bt484.2.1.length : Int) then ((impl_Beats.f t442 t443 t444 t445 ((rd_T51 bt484.2.1 0).f0) ((rd_T51 bt484.2.1 0).f1) ((rd_T51 bt484.2.1 0).f2) ((rd_T51 bt484.2.1 0).f3)).bind fun t490 => (if t490 = true then ((spec_FindClaim.f kj9 t437 t438).bind fun bt491 => (if 0 < (bt491.2.1.length : Int) then (laws_FnDecides.j1 kj9 t448 (t443 != ((rd_T51 bt491.2.1 0).f1)) t420 t421 t422 t423 t424 t425 t426 t427 t430 t431 t432 t433 t434 t435 t451 t452 t453 t454 t455 t456 t457 t459 t460 t461 t462 t463 t464) else (none))) else (none))) else (none))) else (laws_FnDecides.j1 kj9 t448 false t420 t421 t422 t423 t424 t425 t426 t427 t430 t431 t432 t433 t434 t435 t451 t452 t453 t454 t455 t456 t457 t459 t460 t461 t462 t463 t464)) else (laws_FnDecides.j1 kj9 t448 false t420 t421 t422 t423 t424 t425 t426 t427 t430 t431 t432 t433 t434 t435 t451 t452 t453 t454 t455 t456 t457 t459 t460 t461 t462 t463 t464)) = some r := by rw [if_neg (show ¬ (false = true) by decide)] at H; exact H
     clear H; have H := H1; clear H1; have HC57 := Aside0.mk H; clear H
     go_upto_region 11 with (fail)
     go_cut [88] (fun v88 wc => ∃ (kq : Nat) (x88_56 : Bool), v88 = .bool x88_56 ∧ Aside0 (laws_FnDecides.j1 kq t448 x88_56 t420 t421 t422 t423 t424 t425 t426 t427 t430 t431 t432 t433 t434 t435 t451 t452 t453 t454 t455 t456 t457 t459 t460 t461 t462 t463 t464 = some r) ∧ Aside0 (kq ≤ kj9) ∧ Aside0 (Kd.R k51 51 wc w.heap.size (fun k_ => k_ ≠ gb428 ∧ k_ ≠ gb429) (.slice Ao37 t448.length co37) t448) ∧ Aside0 (wc.heap[gb428]? = some (.cells #[.int .i64 t420, .int .i64 t421, .int .i64 t422, .int .i64 t423] 51 (0, 0))) ∧ Aside0 (wc.heap[gb429]? = some (.cells #[.int .i64 t424, .int .i64 t425, .int .i64 t426, .int .i64 t427] 51 (0, 0))) ∧ Aside0 (wc.heap[gb436]? = some (.cells #[.int .i64 t430, .int .i64 t431, .int .i64 t432, .int .i64 t433, .int .i64 t434, .bool t435] 63 (0, 0))) ∧ Aside0 (wc.heap[gb447]? = some (.cells #[.int .i64 t441, .int .i64 t442, .int .i64 t443, .int .i64 t444, .int .i64 t445, .bool t446] 63 (0, 0))) ∧ Aside0 (wc.heap[gb458]? = some (.cells #[.int .i64 t451, .int .i64 t452, .int .i64 t453, .int .i64 t454, .int .i64 t455, .int .i64 t456, .int .i64 t457] 67 (0, 0))) ∧ Aside0 (wc.heap[gb465]? = some (.cells #[.int .i64 t459, .int .i64 t460, .int .i64 t461, .int .i64 t462, .int .i64 t463, .bool t464] 63 (0, 0))) ∧ Aside0 (Below w.heap.size w wc))
     case first =>
      have H := HC57.out; clear HC57
      by_cases c58 : t441 = 0
      ·
       rw [if_pos c58] at H; have c58b0 : (t441 == 0) = true := beq_iff_eq.mpr c58; have c58b1 : (t441 != 0) = false := bne_eq_false_iff_eq.mpr c58; clear c58; (first | rw [c58b0] | (simp only [i64_w, i32_w]; rw [c58b0]) | skip)
       by_cases c59 : t446 = true
       ·
        subst c59; have H1 : ((spec_FindClaim.f kj9 t437 t438).bind fun bt484 => (if 0 < (bt484.2.1.length : Int) then ((impl_Beats.f t442 t443 t444 t445 ((rd_T51 bt484.2.1 0).f0) ((rd_T51 bt484.2.1 0).f1) ((rd_T51 bt484.2.1 0).f2) ((rd_T51 bt484.2.1 0).f3)).bind fun t490 => (if t490 = true then ((spec_FindClaim.f kj9 t437 t438).bind fun bt491 => (if 0 < (bt491.2.1.length : Int) then (laws_FnDecides.j1 kj9 t448 (t443 != ((rd_T51 bt491.2.1 0).f1)) t420 t421 t422 t423 t424 t425 t426 t427 t430 t431 t432 t433 t434 t435 t451 t452 t453 t454 t455 t456 t457 t459 t460 t461 t462 t463 t464) else (none))) else (none))) else (none))) = some r := by rw [if_pos rfl] at H; exact H
        clear H; have H := H1; clear H1; replace H := Option.bind_eq_some_iff.mp H; obtain ⟨⟨t484, t485, t488⟩, A600, H⟩ := H; replace H : (if 0 < (t485.length : Int) then ((impl_Beats.f t442 t443 t444 t445 ((rd_T51 t485 0).f0) ((rd_T51 t485 0).f1) ((rd_T51 t485 0).f2) ((rd_T51 t485 0).f3)).bind fun t490 => (if t490 = true then ((spec_FindClaim.f kj9 t437 t438).bind fun bt491 => (if 0 < (bt491.2.1.length : Int) then (laws_FnDecides.j1 kj9 t448 (t443 != ((rd_T51 bt491.2.1 0).f1)) t420 t421 t422 t423 t424 t425 t426 t427 t430 t431 t432 t433 t434 t435 t451 t452 t453 t454 t455 t456 t457 t459 t460 t461 t462 t463 t464) else (none))) else (none))) else (none)) = some r := H; have A60 := Aside0.mk A600; clear A600
        by_cases c61 : 0 < (t485.length : Int)
        ·
         rw [if_pos c61] at H; have c61b0 : decide (0 < (t485.length : Int)) = true := decide_eq_true c61; have c61b1 : decide (0 < t485.length) = true := decide_eq_true (by omega); clear c61; replace H := Option.bind_eq_some_iff.mp H; obtain ⟨t490, A620, H⟩ := H; replace H : (if t490 = true then ((spec_FindClaim.f kj9 t437 t438).bind fun bt491 => (if 0 < (bt491.2.1.length : Int) then (laws_FnDecides.j1 kj9 t448 (t443 != ((rd_T51 bt491.2.1 0).f1)) t420 t421 t422 t423 t424 t425 t426 t427 t430 t431 t432 t433 t434 t435 t451 t452 t453 t454 t455 t456 t457 t459 t460 t461 t462 t463 t464) else (none))) else (none)) = some r := H; have A62 := Aside0.mk A620; clear A620
         by_cases c63 : t490 = true
         ·
          subst c63; have H1 : ((spec_FindClaim.f kj9 t437 t438).bind fun bt491 => (if 0 < (bt491.2.1.length : Int) then (laws_FnDecides.j1 kj9 t448 (t443 != ((rd_T51 bt491.2.1 0).f1)) t420 t421 t422 t423 t424 t425 t426 t427 t430 t431 t432 t433 t434 t435 t451 t452 t453 t454 t455 t456 t457 t459 t460 t461 t462 t463 t464) else (none))) = some r := by rw [if_pos rfl] at H; exact H
          clear H; have H := H1; clear H1; replace H := Option.bind_eq_some_iff.mp H; obtain ⟨⟨t491, t492, t495⟩, A640, H⟩ := H; replace H : (if 0 < (t492.length : Int) then (laws_FnDecides.j1 kj9 t448 (t443 != ((rd_T51 t492 0).f1)) t420 t421 t422 t423 t424 t425 t426 t427 t430 t431 t432 t433 t434 t435 t451 t452 t453 t454 t455 t456 t457 t459 t460 t461 t462 t463 t464) else (none)) = some r := H; have A64 := Aside0.mk A640; clear A640
          by_cases c65 : 0 < (t492.length : Int)
          ·
           rw [if_pos c65] at H; have c65b0 : decide (0 < (t492.length : Int)) = true := decide_eq_true c65; have c65b1 : decide (0 < t492.length) = true := decide_eq_true (by omega); clear c65; have H' := Aside0.mk H; clear H
           try go_wp2
           replace HO_6 := Aside0.mk (Kd.R_drew HO_6.out); replace HO_9 := Aside0.mk (Kd.R_drew HO_9.out); replace BK428 := Aside0.mk (blk_drew BK428.out); replace BK429 := Aside0.mk (blk_drew BK429.out); replace BK436 := Aside0.mk (blk_drew BK436.out); replace BK447 := Aside0.mk (blk_drew BK447.out); replace BK458 := Aside0.mk (blk_drew BK458.out); replace BK465 := Aside0.mk (blk_drew BK465.out); replace HB := Aside0.mk (below_drew1 HB.out); refine start_ (n := 32) (S := fun w' => w'.cell? ⟨gb447, 0, none⟩ = some (.int .i64 t441) ∧ w'.cell? ⟨gb447, 1, none⟩ = some (.int .i64 t442) ∧ w'.cell? ⟨gb447, 2, none⟩ = some (.int .i64 t443) ∧ w'.cell? ⟨gb447, 3, none⟩ = some (.int .i64 t444) ∧ w'.cell? ⟨gb447, 4, none⟩ = some (.int .i64 t445) ∧ w'.cell? ⟨gb447, 5, none⟩ = some (.bool true) ∧ True) (ds := []) #[Z',Z',Z',Z',Z',Z',Z',Z',Z',Z',Z',Z',Z',Z',Z',Z',Z',Z',Z',Z',Z',Z',Z',Z',Z',Z',Z',Z',Z',Z',Z',Z'] (by kernel_rfl) rfl rfl ⟨(blk_cell BK447.out 0).trans rfl, (blk_cell BK447.out 1).trans rfl, (blk_cell BK447.out 2).trans rfl, (blk_cell BK447.out 3).trans rfl, (blk_cell BK447.out 4).trans rfl, (blk_cell BK447.out 5).trans rfl, trivial⟩ (fun hHeld => ?_); refine with_tabW laws_FnDecides.tab11 laws_FnDecides.bits11 (fun HT_ HW_ => ?_); generalize wc.drew = w66 at HO_6 HO_9 BK428 BK429 BK436 BK447 BK458 BK465 HB hHeld ⊢; refine pure_ (i := 0) (N := some 57) (v := ?_) (a' := ?_) #[Y',Z',Z',Z',Z',Z',Z',Z',Z',Z',Z',Z',Z',Z',Z',Z',Z',Z',Z',Z',Z',Z',Z',Z',Z',Z',Z',Z',Z',Z',Z',Z'] rfl rfl (any_of HT_.out (by kernel_rfl)) (fun _ _ _ h => h) (Or.inl ⟨by rfl, ?_⟩) ?_ ?_; rotate_left
           ·
            intro w'
            go_simp
            with_reducible rfl
           rotate_left
           ·
            simp only [Act.put, List.setIfInBounds_toArray, List.set_cons_zero, List.set_cons_succ, i64_w, i32_w]; rfl
           refine take_ (i := 1) (N := some 58) (v := ?_) (a' := ?_) #[Y',Y',Z',Z',Z',Z',Z',Z',Z',Z',Z',Z',Z',Z',Z',Z',Z',Z',Z',Z',Z',Z',Z',Z',Z',Z',Z',Z',Z',Z',Z',Z'] rfl rfl (take_ofW HT_.out HW_.out (by kernel_rfl)) (fun _ _ _ h => h) (Or.inl ⟨by rfl, ?_⟩) hHeld ?_ ?_; rotate_left
           ·
            rintro w' ⟨s0, s1, s2, s3, s4, s5, s6, s7, s8, s9, s10, s11, s12, s13⟩
            go_simp
            with_reducible rfl
           rotate_left
           ·
            simp only [Act.put, List.setIfInBounds_toArray, List.set_cons_zero, List.set_cons_succ, i64_w, i32_w]; rfl
           refine pure_ (i := 2) (N := some 59) (v := ?_) (a' := ?_) #[Y',Y',Y',Z',Z',Z',Z',Z',Z',Z',Z',Z',Z',Z',Z',Z',Z',Z',Z',Z',Z',Z',Z',Z',Z',Z',Z',Z',Z',Z',Z',Z'] rfl rfl (any_of HT_.out (by kernel_rfl)) (fun _ _ _ h => h) (Or.inl ⟨by rfl, ?_⟩) ?_ ?_; rotate_left
           ·
            intro w'
            go_simp
            with_reducible rfl
           rotate_left
           ·
            simp only [Act.put, List.setIfInBounds_toArray, List.set_cons_zero, List.set_cons_succ, i64_w, i32_w]; rfl
           refine pure_ (i := 3) (N := some 60) (v := ?_) (a' := ?_) #[Y',Y',Y',Y',Z',Z',Z',Z',Z',Z',Z',Z',Z',Z',Z',Z',Z',Z',Z',Z',Z',Z',Z',Z',Z',Z',Z',Z',Z',Z',Z',Z'] rfl rfl (any_of HT_.out (by kernel_rfl)) (fun _ _ _ h => h) (Or.inl ⟨by rfl, ?_⟩) ?_ ?_; rotate_left
           ·
            intro w'
            go_simp
            with_reducible rfl
           rotate_left
           ·
            simp only [Act.put, List.setIfInBounds_toArray, List.set_cons_zero, List.set_cons_succ, i64_w, i32_w]; rfl
           refine pure_ (i := 4) (N := some 61) (v := ?_) (a' := ?_) #[Y',Y',Y',Y',Y',Z',Z',Z',Z',Z',Z',Z',Z',Z',Z',Z',Z',Z',Z',Z',Z',Z',Z',Z',Z',Z',Z',Z',Z',Z',Z',Z'] rfl rfl (any_of HT_.out (by kernel_rfl)) (fun _ _ _ h => h) (Or.inl ⟨by rfl, ?_⟩) ?_ ?_; rotate_left
           ·
            intro w'
            go_simp
            with_reducible rfl
           rotate_left
           ·
            simp only [Act.put, List.setIfInBounds_toArray, List.set_cons_zero, List.set_cons_succ, i64_w, i32_w]; rfl
           refine take_ (i := 5) (N := some 62) (v := ?_) (a' := ?_) #[Y',Y',Y',Y',Y',Y',Z',Z',Z',Z',Z',Z',Z',Z',Z',Z',Z',Z',Z',Z',Z',Z',Z',Z',Z',Z',Z',Z',Z',Z',Z',Z'] rfl rfl (take_ofW HT_.out HW_.out (by kernel_rfl)) (fun _ _ _ h => h) (Or.inl ⟨by rfl, ?_⟩) hHeld ?_ ?_; rotate_left
           ·
            rintro w' ⟨s0, s1, s2, s3, s4, s5, s6, s7, s8, s9, s10, s11, s12, s13⟩
            go_simp
            with_reducible rfl
           rotate_left
           ·
            simp only [Act.put, List.setIfInBounds_toArray, List.set_cons_zero, List.set_cons_succ, i64_w, i32_w]; rfl
           refine pure_ (i := 6) (N := some 63) (v := ?_) (a' := ?_) #[Y',Y',Y',Y',Y',Y',Y',Z',Z',Z',Z',Z',Z',Z',Z',Z',Z',Z',Z',Z',Z',Z',Z',Z',Z',Z',Z',Z',Z',Z',Z',Z'] rfl rfl (any_of HT_.out (by kernel_rfl)) (fun _ _ _ h => h) (Or.inl ⟨by rfl, ?_⟩) ?_ ?_; rotate_left
           ·
            intro w'
            go_simp
            with_reducible rfl
           rotate_left
           ·
            simp only [Act.put, List.setIfInBounds_toArray, List.set_cons_zero, List.set_cons_succ, i64_w, i32_w]; rfl
           refine pure_ (i := 7) (N := some 64) (v := ?_) (a' := ?_) #[Y',Y',Y',Y',Y',Y',Y',Y',Z',Z',Z',Z',Z',Z',Z',Z',Z',Z',Z',Z',Z',Z',Z',Z',Z',Z',Z',Z',Z',Z',Z',Z'] rfl rfl (any_of HT_.out (by kernel_rfl)) (fun _ _ _ h => h) (Or.inl ⟨by rfl, ?_⟩) ?_ ?_; rotate_left
           ·
            intro w'
            go_simp
            with_reducible rfl
           rotate_left
           ·
            simp only [Act.put, List.setIfInBounds_toArray, List.set_cons_zero, List.set_cons_succ, i64_w, i32_w]; rfl
           refine pure_ (i := 8) (N := some 65) (v := ?_) (a' := ?_) #[Y',Y',Y',Y',Y',Y',Y',Y',Y',Z',Z',Z',Z',Z',Z',Z',Z',Z',Z',Z',Z',Z',Z',Z',Z',Z',Z',Z',Z',Z',Z',Z'] rfl rfl (any_of HT_.out (by kernel_rfl)) (fun _ _ _ h => h) (Or.inl ⟨by rfl, ?_⟩) ?_ ?_; rotate_left
           ·
            intro w'
            go_simp
            with_reducible rfl
           rotate_left
           ·
            simp only [Act.put, List.setIfInBounds_toArray, List.set_cons_zero, List.set_cons_succ, i64_w, i32_w]; rfl
           refine pure_ (i := 10) (N := some 67) (v := ?_) (a' := ?_) #[Y',Y',Y',Y',Y',Y',Y',Y',Y',Z',Y',Z',Z',Z',Z',Z',Z',Z',Z',Z',Z',Z',Z',Z',Z',Z',Z',Z',Z',Z',Z',Z'] rfl rfl (any_of HT_.out (by kernel_rfl)) (fun _ _ _ h => h) (Or.inl ⟨by rfl, ?_⟩) ?_ ?_; rotate_left
           ·
            intro w'
            go_simp
            with_reducible rfl
           rotate_left
           ·
            simp only [Act.put, List.setIfInBounds_toArray, List.set_cons_zero, List.set_cons_succ, i64_w, i32_w]; rfl
           refine pure_ (i := 11) (N := some 68) (v := ?_) (a' := ?_) #[Y',Y',Y',Y',Y',Y',Y',Y',Y',Z',Y',Y',Z',Z',Z',Z',Z',Z',Z',Z',Z',Z',Z',Z',Z',Z',Z',Z',Z',Z',Z',Z'] rfl rfl (any_of HT_.out (by kernel_rfl)) (fun _ _ _ h => h) (Or.inl ⟨by rfl, ?_⟩) ?_ ?_; rotate_left
           ·
            intro w'
            go_simp
            with_reducible rfl
           rotate_left
           ·
            simp only [Act.put, List.setIfInBounds_toArray, List.set_cons_zero, List.set_cons_succ, i64_w, i32_w]; rfl
           refine take_ (i := 9) (N := some 66) (v := ?_) (a' := ?_) #[Y',Y',Y',Y',Y',Y',Y',Y',Y',Y',Y',Y',Z',Z',Z',Z',Z',Z',Z',Z',Z',Z',Z',Z',Z',Z',Z',Z',Z',Z',Z',Z'] rfl rfl (take_ofW HT_.out HW_.out (by kernel_rfl)) (fun _ _ _ h => h) (Or.inl ⟨by rfl, ?_⟩) hHeld ?_ ?_; rotate_left
           ·
            rintro w' ⟨s0, s1, s2, s3, s4, s5, s6, s7, s8, s9, s10, s11, s12, s13⟩
            go_simp
            with_reducible rfl
           rotate_left
           ·
            simp only [Act.put, List.setIfInBounds_toArray, List.set_cons_zero, List.set_cons_succ, i64_w, i32_w]; rfl
           refine one_ (i := 12) (N := some 69) #[Y',Y',Y',Y',Y',Y',Y',Y',Y',Y',Y',Y',Y',Z',Z',Z',Z',Z',Z',Z',Z',Z',Z',Z',Z',Z',Z',Z',Z',Z',Z',Z'] rfl rfl (one_of HT_.out (by kernel_rfl)) (by decide) (fun K hK => ?_); refine goes_ Try.func26 (by kernel_rfl) rfl #[.slice Ao23 t437.length co23, .int .i64 t438] (by rfl) rfl rfl args_a ?_
           with_reducible refine (spec_FindClaim.calls kj9 _ _ t437 t438 t484 t485 t488 _ ?side1 ?side2 A60.out).mono ?_
           (case side1 => repeat (first | exact (Kd.R_reads' HO_6.out).2.2 | (with_reducible refine Kd.C_alloc ?_ _) | (with_reducible refine Kd.C_drewN ?_ _) | (with_reducible refine Kd.C_drew ?_))); (case side2 => exact (Kd.R_reads' HO_6.out).2.1); rintro e w67 ⟨v486, rfl, ho0, hb⟩; refine ⟨_, rfl, ?_⟩; have n0_ := Aside0.mk (Kd.R_elder' (R_a HO_6.out) (Kd.R_base ho0) hb); have n1_ := Aside0.mk (Kd.R_elder' (R_a HO_9.out) (Kd.R_base ho0) hb); have HO487 := Aside0.mk (Kd.R_lower (Kd.R_newB (Kd.R_newB (Kd.R_new' (Kd.R_new' ho0 (Kd.R_lt (R_a HO_6.out))) (Kd.R_lt (R_a HO_9.out))) (g := gb428) blk_c) (g := gb429) blk_c) (below_size below_a)); replace BK428 := Aside0.mk (blk_below (g := gb428) blk_c hb); replace BK429 := Aside0.mk (blk_below (g := gb429) blk_c hb); replace BK436 := Aside0.mk (blk_below (g := gb436) blk_c hb); replace BK447 := Aside0.mk (blk_below (g := gb447) blk_c hb); replace BK458 := Aside0.mk (blk_below (g := gb458) blk_c hb); replace BK465 := Aside0.mk (blk_below (g := gb465) blk_c hb); replace HB := Aside0.mk (below_step below_a hb); replace HO_6 := n0_; replace HO_9 := n1_; clear n0_ n1_; (try clear hb); (try clear hb2); (try clear hk); (try clear hi); (try clear ho0); obtain ⟨Ao68, co68, eo68⟩ := Kd.R_slice HO487.out; (first | subst eo68 | (injection eo68 with f1_ f2_ f3_; have f4_ := f1_.symm; have f5_ := f3_.symm; clear f1_ f2_ f3_; subst f4_; subst f5_)); have p489 : 0 ≤ (0 : Int) := (by omega); have q489 : 0 < (t485.length : Int) := of_decide_eq_true (by first | (with_reducible assumption) | assumption); obtain ⟨ad489, e489, hx489_0, hx489_1, hx489_2, hx489_3⟩ := at_T51 (Kd.R_reads' HO487.out).2.2 0 p489 q489
           cases e489
           have qi489 : (0 < t485.length) = True := eq_true (by omega); (try rw [show ((0 : Int)).toNat = 0 from rfl] at hx489_0); (try rw [show 0 * 4 = 0 from rfl] at hx489_0); (try rw [Addr.add_zero'] at hx489_0); (try rw [show ((0 : Int)).toNat = 0 from rfl] at hx489_1); (try rw [show 0 * 4 = 0 from rfl] at hx489_1); (try rw [Addr.add_zero'] at hx489_1); (try rw [show ((0 : Int)).toNat = 0 from rfl] at hx489_2); (try rw [show 0 * 4 = 0 from rfl] at hx489_2); (try rw [Addr.add_zero'] at hx489_2); (try rw [show ((0 : Int)).toNat = 0 from rfl] at hx489_3); (try rw [show 0 * 4 = 0 from rfl] at hx489_3); (try rw [Addr.add_zero'] at hx489_3); replace p489 := eq_true p489; replace q489 := eq_true q489; refine hK.out _ _ ⟨(blk_cell BK447.out 0).trans rfl, (blk_cell BK447.out 1).trans rfl, (blk_cell BK447.out 2).trans rfl, (blk_cell BK447.out 3).trans rfl, (blk_cell BK447.out 4).trans rfl, (blk_cell BK447.out 5).trans rfl, trivial⟩ (fun hHeld => ?_); refine weak_ (S' := fun w' => w'.cell? ⟨gb447, 0, none⟩ = some (.int .i64 t441) ∧ w'.cell? ⟨gb447, 1, none⟩ = some (.int .i64 t442) ∧ w'.cell? ⟨gb447, 2, none⟩ = some (.int .i64 t443) ∧ w'.cell? ⟨gb447, 3, none⟩ = some (.int .i64 t444) ∧ w'.cell? ⟨gb447, 4, none⟩ = some (.int .i64 t445) ∧ w'.cell? ⟨gb447, 5, none⟩ = some (.bool true) ∧ w'.cell? ad489 = some (.int .i64 ((rd_T51 t485 0).f0)) ∧ w'.cell? ⟨ad489.block, ad489.off + 1, none⟩ = some (.int .i64 ((rd_T51 t485 0).f1)) ∧ w'.cell? ⟨ad489.block, ad489.off + 2, none⟩ = some (.int .i64 ((rd_T51 t485 0).f2)) ∧ w'.cell? ⟨ad489.block, ad489.off + 3, none⟩ = some (.int .i64 ((rd_T51 t485 0).f3)) ∧ True) ⟨hHeld.1, hHeld.2.1, hHeld.2.2.1, hHeld.2.2.2.1, hHeld.2.2.2.2.1, hHeld.2.2.2.2.2.1, hx489_0, hx489_1, hx489_2, hx489_3, trivial⟩ (fun _ h => ⟨h.1, h.2.1, h.2.2.1, h.2.2.2.1, h.2.2.2.2.1, h.2.2.2.2.2.1, trivial⟩) (fun hHeld => ?_); clear hK K; refine norm_ (a' := ?_) ?_ ?_; rotate_left
           ·
            show Act.put _ (some 69) _ = _; simp only [Act.put, List.setIfInBounds_toArray, List.set_cons_zero, List.set_cons_succ, i64_w, i32_w]; rfl
           refine pure_ (i := 13) (N := some 70) (v := ?_) (a' := ?_) #[Y',Y',Y',Y',Y',Y',Y',Y',Y',Y',Y',Y',Y',Y',Z',Z',Z',Z',Z',Z',Z',Z',Z',Z',Z',Z',Z',Z',Z',Z',Z',Z'] rfl rfl (any_of HT_.out (by kernel_rfl)) (fun _ _ _ h => h) (Or.inl ⟨by rfl, ?_⟩) ?_ ?_; rotate_left
           ·
            intro w'
            go_simp
            with_reducible rfl
           rotate_left
           ·
            simp only [Act.put, List.setIfInBounds_toArray, List.set_cons_zero, List.set_cons_succ, i64_w, i32_w]; rfl
           refine pure_ (i := 14) (N := some 71) (v := ?_) (a' := ?_) #[Y',Y',Y',Y',Y',Y',Y',Y',Y',Y',Y',Y',Y',Y',Y',Z',Z',Z',Z',Z',Z',Z',Z',Z',Z',Z',Z',Z',Z',Z',Z',Z'] rfl rfl (any_of HT_.out (by kernel_rfl)) (fun _ _ _ h => h) (Or.inl ⟨by rfl, ?_⟩) ?_ ?_; rotate_left
           ·
            intro w'
            go_simp
            with_reducible rfl
           rotate_left
           ·
            simp only [Act.put, List.setIfInBounds_toArray, List.set_cons_zero, List.set_cons_succ, i64_w, i32_w]; rfl
           refine take_ (i := 15) (N := some 72) (v := ?_) (a' := ?_) #[Y',Y',Y',Y',Y',Y',Y',Y',Y',Y',Y',Y',Y',Y',Y',Y',Z',Z',Z',Z',Z',Z',Z',Z',Z',Z',Z',Z',Z',Z',Z',Z'] rfl rfl (take_ofW HT_.out HW_.out (by kernel_rfl)) (fun _ _ _ h => h) (Or.inl ⟨by rfl, ?_⟩) hHeld ?_ ?_; rotate_left
           ·
            rintro w' ⟨s0, s1, s2, s3, s4, s5, s6, s7, s8, s9, s10, s11, s12, s13⟩
            go_simp
            with_reducible rfl
           rotate_left
           ·
            simp only [Act.put, List.setIfInBounds_toArray, List.set_cons_zero, List.set_cons_succ, i64_w, i32_w]; rfl
           refine one_ (i := 16) (N := some 73) #[Y',Y',Y',Y',Y',Y',Y',Y',Y',Y',Y',Y',Y',Y',Y',Y',Y',Z',Z',Z',Z',Z',Z',Z',Z',Z',Z',Z',Z',Z',Z',Z'] rfl rfl (one_of HT_.out (by kernel_rfl)) (by decide) (fun K hK => ?_); refine goes_ Try.func44 (by kernel_rfl) rfl #[.agg #[.int .i64 t442, .int .i64 t443, .int .i64 t444, .int .i64 t445], .agg #[.int .i64 ((rd_T51 t485 0).f0), .int .i64 ((rd_T51 t485 0).f1), .int .i64 ((rd_T51 t485 0).f2), .int .i64 ((rd_T51 t485 0).f3)]] (by rfl) rfl rfl args_a ?_
           with_reducible refine (impl_Beats.calls t442 t443 t444 t445 ((rd_T51 t485 0).f0) ((rd_T51 t485 0).f1) ((rd_T51 t485 0).f2) ((rd_T51 t485 0).f3) true _ A62.out).mono ?_
           rintro e w69 ⟨rfl, hb⟩; have HS6_ := (hb.cell (World.block_lt_of_cell? _ _ (hHeld.2.2.2.2.2.2.1))).trans (hHeld.2.2.2.2.2.2.1); have HS7_ := (hb.cell (World.block_lt_of_cell? _ _ (hHeld.2.2.2.2.2.2.2.1))).trans (hHeld.2.2.2.2.2.2.2.1); have HS8_ := (hb.cell (World.block_lt_of_cell? _ _ (hHeld.2.2.2.2.2.2.2.2.1))).trans (hHeld.2.2.2.2.2.2.2.2.1); have HS9_ := (hb.cell (World.block_lt_of_cell? _ _ (hHeld.2.2.2.2.2.2.2.2.2.1))).trans (hHeld.2.2.2.2.2.2.2.2.2.1); refine ⟨_, rfl, ?_⟩; replace HO_6 := Aside0.mk (Kd.R_below (R_a HO_6.out) hb); replace HO_9 := Aside0.mk (Kd.R_below (R_a HO_9.out) hb); replace HO487 := Aside0.mk (Kd.R_below (R_a HO487.out) hb); replace BK428 := Aside0.mk (blk_below (g := gb428) blk_c hb); replace BK429 := Aside0.mk (blk_below (g := gb429) blk_c hb); replace BK436 := Aside0.mk (blk_below (g := gb436) blk_c hb); replace BK447 := Aside0.mk (blk_below (g := gb447) blk_c hb); replace BK458 := Aside0.mk (blk_below (g := gb458) blk_c hb); replace BK465 := Aside0.mk (blk_below (g := gb465) blk_c hb); replace HB := Aside0.mk (below_step below_a hb); (try clear hb); (try clear hb2); (try clear hk); (try clear hi); refine hK.out _ _ ⟨(blk_cell BK447.out 0).trans rfl, (blk_cell BK447.out 1).trans rfl, (blk_cell BK447.out 2).trans rfl, (blk_cell BK447.out 3).trans rfl, (blk_cell BK447.out 4).trans rfl, (blk_cell BK447.out 5).trans rfl, HS6_, HS7_, HS8_, HS9_, trivial⟩ (fun hHeld => ?_); clear hK K; refine norm_ (a' := ?_) ?_ ?_; rotate_left
           ·
            show Act.put _ (some 73) _ = _; simp only [Act.put, List.setIfInBounds_toArray, List.set_cons_zero, List.set_cons_succ, i64_w, i32_w]; rfl
           refine pure_ (i := 17) (N := some 74) (v := ?_) (a' := ?_) #[Y',Y',Y',Y',Y',Y',Y',Y',Y',Y',Y',Y',Y',Y',Y',Y',Y',Y',Z',Z',Z',Z',Z',Z',Z',Z',Z',Z',Z',Z',Z',Z'] rfl rfl (any_of HT_.out (by kernel_rfl)) (fun _ _ _ h => h) (Or.inl ⟨by rfl, ?_⟩) ?_ ?_; rotate_left
           ·
            intro w'
            go_simp
            with_reducible rfl
           rotate_left
           ·
            simp only [Act.put, List.setIfInBounds_toArray, List.set_cons_zero, List.set_cons_succ, i64_w, i32_w]; rfl
           refine pure_ (i := 18) (N := some 75) (v := ?_) (a' := ?_) #[Y',Y',Y',Y',Y',Y',Y',Y',Y',Y',Y',Y',Y',Y',Y',Y',Y',Y',Y',Z',Z',Z',Z',Z',Z',Z',Z',Z',Z',Z',Z',Z'] rfl rfl (any_of HT_.out (by kernel_rfl)) (fun _ _ _ h => h) (Or.inl ⟨by rfl, ?_⟩) ?_ ?_; rotate_left
           ·
            intro w'
            go_simp
            with_reducible rfl
           rotate_left
           ·
            simp only [Act.put, List.setIfInBounds_toArray, List.set_cons_zero, List.set_cons_succ, i64_w, i32_w]; rfl
           refine pure_ (i := 19) (N := some 76) (v := ?_) (a' := ?_) #[Y',Y',Y',Y',Y',Y',Y',Y',Y',Y',Y',Y',Y',Y',Y',Y',Y',Y',Y',Y',Z',Z',Z',Z',Z',Z',Z',Z',Z',Z',Z',Z'] rfl rfl (any_of HT_.out (by kernel_rfl)) (fun _ _ _ h => h) (Or.inl ⟨by rfl, ?_⟩) ?_ ?_; rotate_left
           ·
            intro w'
            go_simp
            with_reducible rfl
           rotate_left
           ·
            simp only [Act.put, List.setIfInBounds_toArray, List.set_cons_zero, List.set_cons_succ, i64_w, i32_w]; rfl
           refine pure_ (i := 20) (N := some 77) (v := ?_) (a' := ?_) #[Y',Y',Y',Y',Y',Y',Y',Y',Y',Y',Y',Y',Y',Y',Y',Y',Y',Y',Y',Y',Y',Z',Z',Z',Z',Z',Z',Z',Z',Z',Z',Z'] rfl rfl (any_of HT_.out (by kernel_rfl)) (fun _ _ _ h => h) (Or.inl ⟨by rfl, ?_⟩) ?_ ?_; rotate_left
           ·
            intro w'
            go_simp
            with_reducible rfl
           rotate_left
           ·
            simp only [Act.put, List.setIfInBounds_toArray, List.set_cons_zero, List.set_cons_succ, i64_w, i32_w]; rfl
           refine pure_ (i := 22) (N := some 79) (v := ?_) (a' := ?_) #[Y',Y',Y',Y',Y',Y',Y',Y',Y',Y',Y',Y',Y',Y',Y',Y',Y',Y',Y',Y',Y',Z',Y',Z',Z',Z',Z',Z',Z',Z',Z',Z'] rfl rfl (any_of HT_.out (by kernel_rfl)) (fun _ _ _ h => h) (Or.inl ⟨by rfl, ?_⟩) ?_ ?_; rotate_left
           ·
            intro w'
            go_simp
            with_reducible rfl
           rotate_left
           ·
            simp only [Act.put, List.setIfInBounds_toArray, List.set_cons_zero, List.set_cons_succ, i64_w, i32_w]; rfl
           refine pure_ (i := 23) (N := some 80) (v := ?_) (a' := ?_) #[Y',Y',Y',Y',Y',Y',Y',Y',Y',Y',Y',Y',Y',Y',Y',Y',Y',Y',Y',Y',Y',Z',Y',Y',Z',Z',Z',Z',Z',Z',Z',Z'] rfl rfl (any_of HT_.out (by kernel_rfl)) (fun _ _ _ h => h) (Or.inl ⟨by rfl, ?_⟩) ?_ ?_; rotate_left
           ·
            intro w'
            go_simp
            with_reducible rfl
           rotate_left
           ·
            simp only [Act.put, List.setIfInBounds_toArray, List.set_cons_zero, List.set_cons_succ, i64_w, i32_w]; rfl
           refine take_ (i := 21) (N := some 78) (v := ?_) (a' := ?_) #[Y',Y',Y',Y',Y',Y',Y',Y',Y',Y',Y',Y',Y',Y',Y',Y',Y',Y',Y',Y',Y',Y',Y',Y',Z',Z',Z',Z',Z',Z',Z',Z'] rfl rfl (take_ofW HT_.out HW_.out (by kernel_rfl)) (fun _ _ _ h => h) (Or.inl ⟨by rfl, ?_⟩) hHeld ?_ ?_; rotate_left
           ·
            rintro w' ⟨s0, s1, s2, s3, s4, s5, s6, s7, s8, s9, s10, s11, s12, s13⟩
            go_simp
            with_reducible rfl
           rotate_left
           ·
            simp only [Act.put, List.setIfInBounds_toArray, List.set_cons_zero, List.set_cons_succ, i64_w, i32_w]; rfl
           refine one_ (i := 24) (N := some 81) #[Y',Y',Y',Y',Y',Y',Y',Y',Y',Y',Y',Y',Y',Y',Y',Y',Y',Y',Y',Y',Y',Y',Y',Y',Y',Z',Z',Z',Z',Z',Z',Z'] rfl rfl (one_of HT_.out (by kernel_rfl)) (by decide) (fun K hK => ?_); refine goes_ Try.func26 (by kernel_rfl) rfl #[.slice Ao23 t437.length co23, .int .i64 t438] (by rfl) rfl rfl args_a ?_
           with_reducible refine (spec_FindClaim.calls kj9 _ _ t437 t438 t491 t492 t495 _ ?side1 ?side2 A64.out).mono ?_
           (case side1 => repeat (first | exact (Kd.R_reads' HO_6.out).2.2 | (with_reducible refine Kd.C_alloc ?_ _) | (with_reducible refine Kd.C_drewN ?_ _) | (with_reducible refine Kd.C_drew ?_))); (case side2 => exact (Kd.R_reads' HO_6.out).2.1); rintro e w70 ⟨v493, rfl, ho0, hb⟩; have HS6_ := (hb.cell (World.block_lt_of_cell? _ _ (hHeld.2.2.2.2.2.2.1))).trans (hHeld.2.2.2.2.2.2.1); have HS7_ := (hb.cell (World.block_lt_of_cell? _ _ (hHeld.2.2.2.2.2.2.2.1))).trans (hHeld.2.2.2.2.2.2.2.1); have HS8_ := (hb.cell (World.block_lt_of_cell? _ _ (hHeld.2.2.2.2.2.2.2.2.1))).trans (hHeld.2.2.2.2.2.2.2.2.1); have HS9_ := (hb.cell (World.block_lt_of_cell? _ _ (hHeld.2.2.2.2.2.2.2.2.2.1))).trans (hHeld.2.2.2.2.2.2.2.2.2.1); refine ⟨_, rfl, ?_⟩; have n0_ := Aside0.mk (Kd.R_elder' (R_a HO_6.out) (Kd.R_base ho0) hb); have n1_ := Aside0.mk (Kd.R_elder' (R_a HO_9.out) (Kd.R_base ho0) hb); have n2_ := Aside0.mk (Kd.R_elder' (R_a HO487.out) (Kd.R_base ho0) hb); have HO494 := Aside0.mk (Kd.R_lower (Kd.R_newB (Kd.R_newB (Kd.R_new' (Kd.R_new' (Kd.R_new' ho0 (Kd.R_lt (R_a HO_6.out))) (Kd.R_lt (R_a HO_9.out))) (Kd.R_lt (R_a HO487.out))) (g := gb428) blk_c) (g := gb429) blk_c) (below_size below_a)); replace BK428 := Aside0.mk (blk_below (g := gb428) blk_c hb); replace BK429 := Aside0.mk (blk_below (g := gb429) blk_c hb); replace BK436 := Aside0.mk (blk_below (g := gb436) blk_c hb); replace BK447 := Aside0.mk (blk_below (g := gb447) blk_c hb); replace BK458 := Aside0.mk (blk_below (g := gb458) blk_c hb); replace BK465 := Aside0.mk (blk_below (g := gb465) blk_c hb); replace HB := Aside0.mk (below_step below_a hb); replace HO_6 := n0_; replace HO_9 := n1_; replace HO487 := n2_; clear n0_ n1_ n2_; (try clear hb); (try clear hb2); (try clear hk); (try clear hi); (try clear ho0); obtain ⟨Ao71, co71, eo71⟩ := Kd.R_slice HO494.out; (first | subst eo71 | (injection eo71 with f1_ f2_ f3_; have f4_ := f1_.symm; have f5_ := f3_.symm; clear f1_ f2_ f3_; subst f4_; subst f5_)); have p496 : 0 ≤ (0 : Int) := (by omega); have q496 : 0 < (t492.length : Int) := of_decide_eq_true (by first | (with_reducible assumption) | assumption); obtain ⟨ad496, e496, hx496_0, hx496_1, hx496_2, hx496_3⟩ := at_T51 (Kd.R_reads' HO494.out).2.2 0 p496 q496
           cases e496
           have qi496 : (0 < t492.length) = True := eq_true (by omega); (try rw [show ((0 : Int)).toNat = 0 from rfl] at hx496_0); (try rw [show 0 * 4 = 0 from rfl] at hx496_0); (try rw [Addr.add_zero'] at hx496_0); (try rw [show ((0 : Int)).toNat = 0 from rfl] at hx496_1); (try rw [show 0 * 4 = 0 from rfl] at hx496_1); (try rw [Addr.add_zero'] at hx496_1); (try rw [show ((0 : Int)).toNat = 0 from rfl] at hx496_2); (try rw [show 0 * 4 = 0 from rfl] at hx496_2); (try rw [Addr.add_zero'] at hx496_2); (try rw [show ((0 : Int)).toNat = 0 from rfl] at hx496_3); (try rw [show 0 * 4 = 0 from rfl] at hx496_3); (try rw [Addr.add_zero'] at hx496_3); replace p496 := eq_true p496; replace q496 := eq_true q496; refine hK.out _ _ ⟨(blk_cell BK447.out 0).trans rfl, (blk_cell BK447.out 1).trans rfl, (blk_cell BK447.out 2).trans rfl, (blk_cell BK447.out 3).trans rfl, (blk_cell BK447.out 4).trans rfl, (blk_cell BK447.out 5).trans rfl, HS6_, HS7_, HS8_, HS9_, trivial⟩ (fun hHeld => ?_); refine weak_ (S' := fun w' => w'.cell? ⟨gb447, 0, none⟩ = some (.int .i64 t441) ∧ w'.cell? ⟨gb447, 1, none⟩ = some (.int .i64 t442) ∧ w'.cell? ⟨gb447, 2, none⟩ = some (.int .i64 t443) ∧ w'.cell? ⟨gb447, 3, none⟩ = some (.int .i64 t444) ∧ w'.cell? ⟨gb447, 4, none⟩ = some (.int .i64 t445) ∧ w'.cell? ⟨gb447, 5, none⟩ = some (.bool true) ∧ w'.cell? ad489 = some (.int .i64 ((rd_T51 t485 0).f0)) ∧ w'.cell? ⟨ad489.block, ad489.off + 1, none⟩ = some (.int .i64 ((rd_T51 t485 0).f1)) ∧ w'.cell? ⟨ad489.block, ad489.off + 2, none⟩ = some (.int .i64 ((rd_T51 t485 0).f2)) ∧ w'.cell? ⟨ad489.block, ad489.off + 3, none⟩ = some (.int .i64 ((rd_T51 t485 0).f3)) ∧ w'.cell? ad496 = some (.int .i64 ((rd_T51 t492 0).f0)) ∧ w'.cell? ⟨ad496.block, ad496.off + 1, none⟩ = some (.int .i64 ((rd_T51 t492 0).f1)) ∧ w'.cell? ⟨ad496.block, ad496.off + 2, none⟩ = some (.int .i64 ((rd_T51 t492 0).f2)) ∧ w'.cell? ⟨ad496.block, ad496.off + 3, none⟩ = some (.int .i64 ((rd_T51 t492 0).f3)) ∧ True) ⟨hHeld.1, hHeld.2.1, hHeld.2.2.1, hHeld.2.2.2.1, hHeld.2.2.2.2.1, hHeld.2.2.2.2.2.1, hHeld.2.2.2.2.2.2.1, hHeld.2.2.2.2.2.2.2.1, hHeld.2.2.2.2.2.2.2.2.1, hHeld.2.2.2.2.2.2.2.2.2.1, hx496_0, hx496_1, hx496_2, hx496_3, trivial⟩ (fun _ h => ⟨h.1, h.2.1, h.2.2.1, h.2.2.2.1, h.2.2.2.2.1, h.2.2.2.2.2.1, h.2.2.2.2.2.2.1, h.2.2.2.2.2.2.2.1, h.2.2.2.2.2.2.2.2.1, h.2.2.2.2.2.2.2.2.2.1, trivial⟩) (fun hHeld => ?_); clear hK K; refine norm_ (a' := ?_) ?_ ?_; rotate_left
           ·
            show Act.put _ (some 81) _ = _; simp only [Act.put, List.setIfInBounds_toArray, List.set_cons_zero, List.set_cons_succ, i64_w, i32_w]; rfl
           refine pure_ (i := 25) (N := some 82) (v := ?_) (a' := ?_) #[Y',Y',Y',Y',Y',Y',Y',Y',Y',Y',Y',Y',Y',Y',Y',Y',Y',Y',Y',Y',Y',Y',Y',Y',Y',Y',Z',Z',Z',Z',Z',Z'] rfl rfl (any_of HT_.out (by kernel_rfl)) (fun _ _ _ h => h) (Or.inl ⟨by rfl, ?_⟩) ?_ ?_; rotate_left
           ·
            intro w'
            go_simp
            with_reducible rfl
           rotate_left
           ·
            simp only [Act.put, List.setIfInBounds_toArray, List.set_cons_zero, List.set_cons_succ, i64_w, i32_w]; rfl
           refine pure_ (i := 26) (N := some 83) (v := ?_) (a' := ?_) #[Y',Y',Y',Y',Y',Y',Y',Y',Y',Y',Y',Y',Y',Y',Y',Y',Y',Y',Y',Y',Y',Y',Y',Y',Y',Y',Y',Z',Z',Z',Z',Z'] rfl rfl (any_of HT_.out (by kernel_rfl)) (fun _ _ _ h => h) (Or.inl ⟨by rfl, ?_⟩) ?_ ?_; rotate_left
           ·
            intro w'
            go_simp
            with_reducible rfl
           rotate_left
           ·
            simp only [Act.put, List.setIfInBounds_toArray, List.set_cons_zero, List.set_cons_succ, i64_w, i32_w]; rfl
           refine pure_ (i := 27) (N := some 84) (v := ?_) (a' := ?_) #[Y',Y',Y',Y',Y',Y',Y',Y',Y',Y',Y',Y',Y',Y',Y',Y',Y',Y',Y',Y',Y',Y',Y',Y',Y',Y',Y',Y',Z',Z',Z',Z'] rfl rfl (any_of HT_.out (by kernel_rfl)) (fun _ _ _ h => h) (Or.inl ⟨by rfl, ?_⟩) ?_ ?_; rotate_left
           ·
            intro w'
            go_simp
            with_reducible rfl
           rotate_left
           ·
            simp only [Act.put, List.setIfInBounds_toArray, List.set_cons_zero, List.set_cons_succ, i64_w, i32_w]; rfl
           refine take_ (i := 28) (N := some 85) (v := ?_) (a' := ?_) #[Y',Y',Y',Y',Y',Y',Y',Y',Y',Y',Y',Y',Y',Y',Y',Y',Y',Y',Y',Y',Y',Y',Y',Y',Y',Y',Y',Y',Y',Z',Z',Z'] rfl rfl (take_ofW HT_.out HW_.out (by kernel_rfl)) (fun _ _ _ h => h) (Or.inl ⟨by rfl, ?_⟩) hHeld ?_ ?_; rotate_left
           ·
            rintro w' ⟨s0, s1, s2, s3, s4, s5, s6, s7, s8, s9, s10, s11, s12, s13⟩
            go_simp
            with_reducible rfl
           rotate_left
           ·
            simp only [Act.put, List.setIfInBounds_toArray, List.set_cons_zero, List.set_cons_succ, i64_w, i32_w]; rfl
           refine pure_ (i := 29) (N := some 86) (v := ?_) (a' := ?_) #[Y',Y',Y',Y',Y',Y',Y',Y',Y',Y',Y',Y',Y',Y',Y',Y',Y',Y',Y',Y',Y',Y',Y',Y',Y',Y',Y',Y',Y',Y',Z',Z'] rfl rfl (any_of HT_.out (by kernel_rfl)) (fun _ _ _ h => h) (Or.inl ⟨by rfl, ?_⟩) ?_ ?_; rotate_left
           ·
            intro w'
            go_simp
            with_reducible rfl
           rotate_left
           ·
            simp only [Act.put, List.setIfInBounds_toArray, List.set_cons_zero, List.set_cons_succ, i64_w, i32_w]; rfl
           refine pure_ (i := 30) (N := some 87) (v := ?_) (a' := ?_) #[Y',Y',Y',Y',Y',Y',Y',Y',Y',Y',Y',Y',Y',Y',Y',Y',Y',Y',Y',Y',Y',Y',Y',Y',Y',Y',Y',Y',Y',Y',Y',Z'] rfl rfl (any_of HT_.out (by kernel_rfl)) (fun _ _ _ h => h) (Or.inl ⟨by rfl, ?_⟩) ?_ ?_; rotate_left
           ·
            intro w'
            go_simp
            with_reducible rfl
           rotate_left
           ·
            simp only [Act.put, List.setIfInBounds_toArray, List.set_cons_zero, List.set_cons_succ, i64_w, i32_w]; rfl
           refine pure_ (i := 31) (N := some 88) (v := ?_) (a' := ?_) #[Y',Y',Y',Y',Y',Y',Y',Y',Y',Y',Y',Y',Y',Y',Y',Y',Y',Y',Y',Y',Y',Y',Y',Y',Y',Y',Y',Y',Y',Y',Y',Y'] rfl rfl (any_of HT_.out (by kernel_rfl)) (fun _ _ _ h => h) (Or.inl ⟨by rfl, ?_⟩) ?_ ?_; rotate_left
           ·
            intro w'
            go_simp
            with_reducible rfl
           rotate_left
           ·
            simp only [Act.put, List.setIfInBounds_toArray, List.set_cons_zero, List.set_cons_succ, i64_w, i32_w]; rfl
           refine done_ (done_of HT_.out (by kernel_rfl)) ?_
           try go_wp2
           go_meet
           case rel => exact ⟨_, ((t443 != ((rd_T51 t492 0).f1))), eq_b, H', ⟨by have := HJ9.out; first | omega | exact Nat.le_refl _⟩, ⟨by (with_reducible repeat (first | apply Kd.R_alloc | apply Kd.R_drewN | apply Kd.R_drew)); exact Kd.R_mono HO_9.out (fun _ hk => ⟨hk.1.1.2.1, hk.1.1.2.2⟩)⟩, ⟨blk_a⟩, ⟨blk_a⟩, ⟨blk_a⟩, ⟨blk_a⟩, ⟨blk_a⟩, ⟨blk_a⟩, ⟨below_a⟩⟩
          ·
           rw [if_neg c65] at H; exact absurd H (by simp)
         ·
          replace c63 := Bool.eq_false_iff.mpr c63; subst c63; have H1 : (none) = some r := by rw [if_neg (show ¬ (false = true) by decide)] at H; exact H
          clear H; have H := H1; clear H1; exact absurd H (by simp)
        ·
         rw [if_neg c61] at H; exact absurd H (by simp)
       ·
        replace c59 := Bool.eq_false_iff.mpr c59; subst c59; have H1 : (laws_FnDecides.j1 kj9 t448 false t420 t421 t422 t423 t424 t425 t426 t427 t430 t431 t432 t433 t434 t435 t451 t452 t453 t454 t455 t456 t457 t459 t460 t461 t462 t463 t464) = some r := by rw [if_neg (show ¬ (false = true) by decide)] at H; exact H
        clear H; have H := H1; clear H1; have H' := Aside0.mk H; clear H
        try go_wp2
        replace HO_6 := Aside0.mk (Kd.R_drew HO_6.out); replace HO_9 := Aside0.mk (Kd.R_drew HO_9.out); replace BK428 := Aside0.mk (blk_drew BK428.out); replace BK429 := Aside0.mk (blk_drew BK429.out); replace BK436 := Aside0.mk (blk_drew BK436.out); replace BK447 := Aside0.mk (blk_drew BK447.out); replace BK458 := Aside0.mk (blk_drew BK458.out); replace BK465 := Aside0.mk (blk_drew BK465.out); replace HB := Aside0.mk (below_drew1 HB.out); refine start_ (n := 32) (S := fun w' => w'.cell? ⟨gb447, 0, none⟩ = some (.int .i64 t441) ∧ w'.cell? ⟨gb447, 1, none⟩ = some (.int .i64 t442) ∧ w'.cell? ⟨gb447, 2, none⟩ = some (.int .i64 t443) ∧ w'.cell? ⟨gb447, 3, none⟩ = some (.int .i64 t444) ∧ w'.cell? ⟨gb447, 4, none⟩ = some (.int .i64 t445) ∧ w'.cell? ⟨gb447, 5, none⟩ = some (.bool false)) (ds := []) #[Z',Z',Z',Z',Z',Z',Z',Z',Z',Z',Z',Z',Z',Z',Z',Z',Z',Z',Z',Z',Z',Z',Z',Z',Z',Z',Z',Z',Z',Z',Z',Z'] (by kernel_rfl) rfl rfl ⟨(blk_cell BK447.out 0).trans rfl, (blk_cell BK447.out 1).trans rfl, (blk_cell BK447.out 2).trans rfl, (blk_cell BK447.out 3).trans rfl, (blk_cell BK447.out 4).trans rfl, (blk_cell BK447.out 5).trans rfl⟩ (fun hHeld => ?_); refine with_tabW laws_FnDecides.tab11 laws_FnDecides.bits11 (fun HT_ HW_ => ?_); generalize wc.drew = w72 at HO_6 HO_9 BK428 BK429 BK436 BK447 BK458 BK465 HB hHeld ⊢; refine pure_ (i := 0) (N := some 57) (v := ?_) (a' := ?_) #[Y',Z',Z',Z',Z',Z',Z',Z',Z',Z',Z',Z',Z',Z',Z',Z',Z',Z',Z',Z',Z',Z',Z',Z',Z',Z',Z',Z',Z',Z',Z',Z'] rfl rfl (any_of HT_.out (by kernel_rfl)) (fun _ _ _ h => h) (Or.inl ⟨by rfl, ?_⟩) ?_ ?_; rotate_left
        ·
         intro w'
         go_simp
         with_reducible rfl
        rotate_left
        ·
         simp only [Act.put, List.setIfInBounds_toArray, List.set_cons_zero, List.set_cons_succ, i64_w, i32_w]; rfl
        refine take_ (i := 1) (N := some 58) (v := ?_) (a' := ?_) #[Y',Y',Z',Z',Z',Z',Z',Z',Z',Z',Z',Z',Z',Z',Z',Z',Z',Z',Z',Z',Z',Z',Z',Z',Z',Z',Z',Z',Z',Z',Z',Z'] rfl rfl (take_ofW HT_.out HW_.out (by kernel_rfl)) (fun _ _ _ h => h) (Or.inl ⟨by rfl, ?_⟩) hHeld ?_ ?_; rotate_left
        ·
         rintro w' ⟨s0, s1, s2, s3, s4, s5⟩
         go_simp
         with_reducible rfl
        rotate_left
        ·
         simp only [Act.put, List.setIfInBounds_toArray, List.set_cons_zero, List.set_cons_succ, i64_w, i32_w]; rfl
        refine pure_ (i := 2) (N := some 59) (v := ?_) (a' := ?_) #[Y',Y',Y',Z',Z',Z',Z',Z',Z',Z',Z',Z',Z',Z',Z',Z',Z',Z',Z',Z',Z',Z',Z',Z',Z',Z',Z',Z',Z',Z',Z',Z'] rfl rfl (any_of HT_.out (by kernel_rfl)) (fun _ _ _ h => h) (Or.inl ⟨by rfl, ?_⟩) ?_ ?_; rotate_left
        ·
         intro w'
         go_simp
         with_reducible rfl
        rotate_left
        ·
         simp only [Act.put, List.setIfInBounds_toArray, List.set_cons_zero, List.set_cons_succ, i64_w, i32_w]; rfl
        refine pure_ (i := 3) (N := some 60) (v := ?_) (a' := ?_) #[Y',Y',Y',Y',Z',Z',Z',Z',Z',Z',Z',Z',Z',Z',Z',Z',Z',Z',Z',Z',Z',Z',Z',Z',Z',Z',Z',Z',Z',Z',Z',Z'] rfl rfl (any_of HT_.out (by kernel_rfl)) (fun _ _ _ h => h) (Or.inl ⟨by rfl, ?_⟩) ?_ ?_; rotate_left
        ·
         intro w'
         go_simp
         with_reducible rfl
        rotate_left
        ·
         simp only [Act.put, List.setIfInBounds_toArray, List.set_cons_zero, List.set_cons_succ, i64_w, i32_w]; rfl
        refine pure_ (i := 4) (N := some 61) (v := ?_) (a' := ?_) #[Y',Y',Y',Y',Y',Z',Z',Z',Z',Z',Z',Z',Z',Z',Z',Z',Z',Z',Z',Z',Z',Z',Z',Z',Z',Z',Z',Z',Z',Z',Z',Z'] rfl rfl (any_of HT_.out (by kernel_rfl)) (fun _ _ _ h => h) (Or.inl ⟨by rfl, ?_⟩) ?_ ?_; rotate_left
        ·
         intro w'
         go_simp
         with_reducible rfl
        rotate_left
        ·
         simp only [Act.put, List.setIfInBounds_toArray, List.set_cons_zero, List.set_cons_succ, i64_w, i32_w]; rfl
        refine take_ (i := 5) (N := some 62) (v := ?_) (a' := ?_) #[Y',Y',Y',Y',Y',Y',Z',Z',Z',Z',Z',Z',Z',Z',Z',Z',Z',Z',Z',Z',Z',Z',Z',Z',Z',Z',Z',Z',Z',Z',Z',Z'] rfl rfl (take_ofW HT_.out HW_.out (by kernel_rfl)) (fun _ _ _ h => h) (Or.inl ⟨by rfl, ?_⟩) hHeld ?_ ?_; rotate_left
        ·
         rintro w' ⟨s0, s1, s2, s3, s4, s5⟩
         go_simp
         with_reducible rfl
        rotate_left
        ·
         simp only [Act.put, List.setIfInBounds_toArray, List.set_cons_zero, List.set_cons_succ, i64_w, i32_w]; rfl
        refine pure_ (i := 6) (N := some 63) (v := ?_) (a' := ?_) #[Y',Y',Y',Y',Y',Y',Y',Z',Z',Z',Z',Z',Z',Z',Z',Z',Z',Z',Z',Z',Z',Z',Z',Z',Z',Z',Z',Z',Z',Z',Z',Z'] rfl rfl (any_of HT_.out (by kernel_rfl)) (fun _ _ _ h => h) (Or.inl ⟨by rfl, ?_⟩) ?_ ?_; rotate_left
        ·
         intro w'
         go_simp
         with_reducible rfl
        rotate_left
        ·
         simp only [Act.put, List.setIfInBounds_toArray, List.set_cons_zero, List.set_cons_succ, i64_w, i32_w]; rfl
        refine pure_ (i := 7) (N := some 64) (v := ?_) (a' := ?_) #[Y',Y',Y',Y',Y',Y',Y',Y',Z',Z',Z',Z',Z',Z',Z',Z',Z',Z',Z',Z',Z',Z',Z',Z',Z',Z',Z',Z',Z',Z',Z',Z'] rfl rfl (any_of HT_.out (by kernel_rfl)) (fun _ _ _ h => h) (Or.inl ⟨by rfl, ?_⟩) ?_ ?_; rotate_left
        ·
         intro w'
         go_simp
         with_reducible rfl
        rotate_left
        ·
         simp only [Act.put, List.setIfInBounds_toArray, List.set_cons_zero, List.set_cons_succ, i64_w, i32_w]; rfl
        refine pure_ (i := 8) (N := some 65) (v := undef) (a' := ?_) #[Y',Y',Y',Y',Y',Y',Y',Y',Y',Z',Z',Z',Z',Z',Z',Z',Z',Z',Z',Z',Z',Z',Z',Z',Z',Z',Z',Z',Z',Z',Z',Z'] rfl rfl (any_of HT_.out (by kernel_rfl)) (fun _ _ _ h => h) (Or.inr ⟨by rfl, rfl⟩) ?_ ?_; rotate_left
        ·
         simp only [Act.put, List.setIfInBounds_toArray, List.set_cons_zero, List.set_cons_succ, i64_w, i32_w]; rfl
        refine pure_ (i := 9) (N := some 66) (v := undef) (a' := ?_) #[Y',Y',Y',Y',Y',Y',Y',Y',Y',Y',Z',Z',Z',Z',Z',Z',Z',Z',Z',Z',Z',Z',Z',Z',Z',Z',Z',Z',Z',Z',Z',Z'] rfl rfl (any_of HT_.out (by kernel_rfl)) (fun _ _ _ h => h) (Or.inr ⟨by rfl, rfl⟩) ?_ ?_; rotate_left
        ·
         simp only [Act.put, List.setIfInBounds_toArray, List.set_cons_zero, List.set_cons_succ, i64_w, i32_w]; rfl
        refine pure_ (i := 10) (N := some 67) (v := undef) (a' := ?_) #[Y',Y',Y',Y',Y',Y',Y',Y',Y',Y',Y',Z',Z',Z',Z',Z',Z',Z',Z',Z',Z',Z',Z',Z',Z',Z',Z',Z',Z',Z',Z',Z'] rfl rfl (any_of HT_.out (by kernel_rfl)) (fun _ _ _ h => h) (Or.inr ⟨by rfl, rfl⟩) ?_ ?_; rotate_left
        ·
         simp only [Act.put, List.setIfInBounds_toArray, List.set_cons_zero, List.set_cons_succ, i64_w, i32_w]; rfl
        refine pure_ (i := 11) (N := some 68) (v := undef) (a' := ?_) #[Y',Y',Y',Y',Y',Y',Y',Y',Y',Y',Y',Y',Z',Z',Z',Z',Z',Z',Z',Z',Z',Z',Z',Z',Z',Z',Z',Z',Z',Z',Z',Z'] rfl rfl (any_of HT_.out (by kernel_rfl)) (fun _ _ _ h => h) (Or.inr ⟨by rfl, rfl⟩) ?_ ?_; rotate_left
        ·
         simp only [Act.put, List.setIfInBounds_toArray, List.set_cons_zero, List.set_cons_succ, i64_w, i32_w]; rfl
        refine pure_ (i := 12) (N := some 69) (v := undef) (a' := ?_) #[Y',Y',Y',Y',Y',Y',Y',Y',Y',Y',Y',Y',Y',Z',Z',Z',Z',Z',Z',Z',Z',Z',Z',Z',Z',Z',Z',Z',Z',Z',Z',Z'] rfl rfl (any_of HT_.out (by kernel_rfl)) (fun _ _ _ h => h) (Or.inr ⟨by rfl, rfl⟩) ?_ ?_; rotate_left
        ·
         simp only [Act.put, List.setIfInBounds_toArray, List.set_cons_zero, List.set_cons_succ, i64_w, i32_w]; rfl
        refine pure_ (i := 13) (N := some 70) (v := undef) (a' := ?_) #[Y',Y',Y',Y',Y',Y',Y',Y',Y',Y',Y',Y',Y',Y',Z',Z',Z',Z',Z',Z',Z',Z',Z',Z',Z',Z',Z',Z',Z',Z',Z',Z'] rfl rfl (any_of HT_.out (by kernel_rfl)) (fun _ _ _ h => h) (Or.inr ⟨by rfl, rfl⟩) ?_ ?_; rotate_left
        ·
         simp only [Act.put, List.setIfInBounds_toArray, List.set_cons_zero, List.set_cons_succ, i64_w, i32_w]; rfl
        refine pure_ (i := 14) (N := some 71) (v := undef) (a' := ?_) #[Y',Y',Y',Y',Y',Y',Y',Y',Y',Y',Y',Y',Y',Y',Y',Z',Z',Z',Z',Z',Z',Z',Z',Z',Z',Z',Z',Z',Z',Z',Z',Z'] rfl rfl (any_of HT_.out (by kernel_rfl)) (fun _ _ _ h => h) (Or.inr ⟨by rfl, rfl⟩) ?_ ?_; rotate_left
        ·
         simp only [Act.put, List.setIfInBounds_toArray, List.set_cons_zero, List.set_cons_succ, i64_w, i32_w]; rfl
        refine pure_ (i := 15) (N := some 72) (v := undef) (a' := ?_) #[Y',Y',Y',Y',Y',Y',Y',Y',Y',Y',Y',Y',Y',Y',Y',Y',Z',Z',Z',Z',Z',Z',Z',Z',Z',Z',Z',Z',Z',Z',Z',Z'] rfl rfl (any_of HT_.out (by kernel_rfl)) (fun _ _ _ h => h) (Or.inr ⟨by rfl, rfl⟩) ?_ ?_; rotate_left
        ·
         simp only [Act.put, List.setIfInBounds_toArray, List.set_cons_zero, List.set_cons_succ, i64_w, i32_w]; rfl
        refine pure_ (i := 16) (N := some 73) (v := undef) (a' := ?_) #[Y',Y',Y',Y',Y',Y',Y',Y',Y',Y',Y',Y',Y',Y',Y',Y',Y',Z',Z',Z',Z',Z',Z',Z',Z',Z',Z',Z',Z',Z',Z',Z'] rfl rfl (any_of HT_.out (by kernel_rfl)) (fun _ _ _ h => h) (Or.inr ⟨by rfl, rfl⟩) ?_ ?_; rotate_left
        ·
         simp only [Act.put, List.setIfInBounds_toArray, List.set_cons_zero, List.set_cons_succ, i64_w, i32_w]; rfl
        refine pure_ (i := 17) (N := some 74) (v := undef) (a' := ?_) #[Y',Y',Y',Y',Y',Y',Y',Y',Y',Y',Y',Y',Y',Y',Y',Y',Y',Y',Z',Z',Z',Z',Z',Z',Z',Z',Z',Z',Z',Z',Z',Z'] rfl rfl (any_of HT_.out (by kernel_rfl)) (fun _ _ _ h => h) (Or.inr ⟨by rfl, rfl⟩) ?_ ?_; rotate_left
        ·
         simp only [Act.put, List.setIfInBounds_toArray, List.set_cons_zero, List.set_cons_succ, i64_w, i32_w]; rfl
        refine pure_ (i := 18) (N := some 75) (v := undef) (a' := ?_) #[Y',Y',Y',Y',Y',Y',Y',Y',Y',Y',Y',Y',Y',Y',Y',Y',Y',Y',Y',Z',Z',Z',Z',Z',Z',Z',Z',Z',Z',Z',Z',Z'] rfl rfl (any_of HT_.out (by kernel_rfl)) (fun _ _ _ h => h) (Or.inr ⟨by rfl, rfl⟩) ?_ ?_; rotate_left
        ·
         simp only [Act.put, List.setIfInBounds_toArray, List.set_cons_zero, List.set_cons_succ, i64_w, i32_w]; rfl
        refine pure_ (i := 19) (N := some 76) (v := undef) (a' := ?_) #[Y',Y',Y',Y',Y',Y',Y',Y',Y',Y',Y',Y',Y',Y',Y',Y',Y',Y',Y',Y',Z',Z',Z',Z',Z',Z',Z',Z',Z',Z',Z',Z'] rfl rfl (any_of HT_.out (by kernel_rfl)) (fun _ _ _ h => h) (Or.inr ⟨by rfl, rfl⟩) ?_ ?_; rotate_left
        ·
         simp only [Act.put, List.setIfInBounds_toArray, List.set_cons_zero, List.set_cons_succ, i64_w, i32_w]; rfl
        refine pure_ (i := 20) (N := some 77) (v := undef) (a' := ?_) #[Y',Y',Y',Y',Y',Y',Y',Y',Y',Y',Y',Y',Y',Y',Y',Y',Y',Y',Y',Y',Y',Z',Z',Z',Z',Z',Z',Z',Z',Z',Z',Z'] rfl rfl (any_of HT_.out (by kernel_rfl)) (fun _ _ _ h => h) (Or.inr ⟨by rfl, rfl⟩) ?_ ?_; rotate_left
        ·
         simp only [Act.put, List.setIfInBounds_toArray, List.set_cons_zero, List.set_cons_succ, i64_w, i32_w]; rfl
        refine pure_ (i := 21) (N := some 78) (v := undef) (a' := ?_) #[Y',Y',Y',Y',Y',Y',Y',Y',Y',Y',Y',Y',Y',Y',Y',Y',Y',Y',Y',Y',Y',Y',Z',Z',Z',Z',Z',Z',Z',Z',Z',Z'] rfl rfl (any_of HT_.out (by kernel_rfl)) (fun _ _ _ h => h) (Or.inr ⟨by rfl, rfl⟩) ?_ ?_; rotate_left
        ·
         simp only [Act.put, List.setIfInBounds_toArray, List.set_cons_zero, List.set_cons_succ, i64_w, i32_w]; rfl
        refine pure_ (i := 22) (N := some 79) (v := undef) (a' := ?_) #[Y',Y',Y',Y',Y',Y',Y',Y',Y',Y',Y',Y',Y',Y',Y',Y',Y',Y',Y',Y',Y',Y',Y',Z',Z',Z',Z',Z',Z',Z',Z',Z'] rfl rfl (any_of HT_.out (by kernel_rfl)) (fun _ _ _ h => h) (Or.inr ⟨by rfl, rfl⟩) ?_ ?_; rotate_left
        ·
         simp only [Act.put, List.setIfInBounds_toArray, List.set_cons_zero, List.set_cons_succ, i64_w, i32_w]; rfl
        refine pure_ (i := 23) (N := some 80) (v := undef) (a' := ?_) #[Y',Y',Y',Y',Y',Y',Y',Y',Y',Y',Y',Y',Y',Y',Y',Y',Y',Y',Y',Y',Y',Y',Y',Y',Z',Z',Z',Z',Z',Z',Z',Z'] rfl rfl (any_of HT_.out (by kernel_rfl)) (fun _ _ _ h => h) (Or.inr ⟨by rfl, rfl⟩) ?_ ?_; rotate_left
        ·
         simp only [Act.put, List.setIfInBounds_toArray, List.set_cons_zero, List.set_cons_succ, i64_w, i32_w]; rfl
        refine pure_ (i := 24) (N := some 81) (v := undef) (a' := ?_) #[Y',Y',Y',Y',Y',Y',Y',Y',Y',Y',Y',Y',Y',Y',Y',Y',Y',Y',Y',Y',Y',Y',Y',Y',Y',Z',Z',Z',Z',Z',Z',Z'] rfl rfl (any_of HT_.out (by kernel_rfl)) (fun _ _ _ h => h) (Or.inr ⟨by rfl, rfl⟩) ?_ ?_; rotate_left
        ·
         simp only [Act.put, List.setIfInBounds_toArray, List.set_cons_zero, List.set_cons_succ, i64_w, i32_w]; rfl
        refine pure_ (i := 25) (N := some 82) (v := undef) (a' := ?_) #[Y',Y',Y',Y',Y',Y',Y',Y',Y',Y',Y',Y',Y',Y',Y',Y',Y',Y',Y',Y',Y',Y',Y',Y',Y',Y',Z',Z',Z',Z',Z',Z'] rfl rfl (any_of HT_.out (by kernel_rfl)) (fun _ _ _ h => h) (Or.inr ⟨by rfl, rfl⟩) ?_ ?_; rotate_left
        ·
         simp only [Act.put, List.setIfInBounds_toArray, List.set_cons_zero, List.set_cons_succ, i64_w, i32_w]; rfl
        refine pure_ (i := 26) (N := some 83) (v := undef) (a' := ?_) #[Y',Y',Y',Y',Y',Y',Y',Y',Y',Y',Y',Y',Y',Y',Y',Y',Y',Y',Y',Y',Y',Y',Y',Y',Y',Y',Y',Z',Z',Z',Z',Z'] rfl rfl (any_of HT_.out (by kernel_rfl)) (fun _ _ _ h => h) (Or.inr ⟨by rfl, rfl⟩) ?_ ?_; rotate_left
        ·
         simp only [Act.put, List.setIfInBounds_toArray, List.set_cons_zero, List.set_cons_succ, i64_w, i32_w]; rfl
        refine pure_ (i := 27) (N := some 84) (v := undef) (a' := ?_) #[Y',Y',Y',Y',Y',Y',Y',Y',Y',Y',Y',Y',Y',Y',Y',Y',Y',Y',Y',Y',Y',Y',Y',Y',Y',Y',Y',Y',Z',Z',Z',Z'] rfl rfl (any_of HT_.out (by kernel_rfl)) (fun _ _ _ h => h) (Or.inr ⟨by rfl, rfl⟩) ?_ ?_; rotate_left
        ·
         simp only [Act.put, List.setIfInBounds_toArray, List.set_cons_zero, List.set_cons_succ, i64_w, i32_w]; rfl
        refine pure_ (i := 28) (N := some 85) (v := undef) (a' := ?_) #[Y',Y',Y',Y',Y',Y',Y',Y',Y',Y',Y',Y',Y',Y',Y',Y',Y',Y',Y',Y',Y',Y',Y',Y',Y',Y',Y',Y',Y',Z',Z',Z'] rfl rfl (any_of HT_.out (by kernel_rfl)) (fun _ _ _ h => h) (Or.inr ⟨by rfl, rfl⟩) ?_ ?_; rotate_left
        ·
         simp only [Act.put, List.setIfInBounds_toArray, List.set_cons_zero, List.set_cons_succ, i64_w, i32_w]; rfl
        refine pure_ (i := 29) (N := some 86) (v := undef) (a' := ?_) #[Y',Y',Y',Y',Y',Y',Y',Y',Y',Y',Y',Y',Y',Y',Y',Y',Y',Y',Y',Y',Y',Y',Y',Y',Y',Y',Y',Y',Y',Y',Z',Z'] rfl rfl (any_of HT_.out (by kernel_rfl)) (fun _ _ _ h => h) (Or.inr ⟨by rfl, rfl⟩) ?_ ?_; rotate_left
        ·
         simp only [Act.put, List.setIfInBounds_toArray, List.set_cons_zero, List.set_cons_succ, i64_w, i32_w]; rfl
        refine pure_ (i := 30) (N := some 87) (v := undef) (a' := ?_) #[Y',Y',Y',Y',Y',Y',Y',Y',Y',Y',Y',Y',Y',Y',Y',Y',Y',Y',Y',Y',Y',Y',Y',Y',Y',Y',Y',Y',Y',Y',Y',Z'] rfl rfl (any_of HT_.out (by kernel_rfl)) (fun _ _ _ h => h) (Or.inr ⟨by rfl, rfl⟩) ?_ ?_; rotate_left
        ·
         simp only [Act.put, List.setIfInBounds_toArray, List.set_cons_zero, List.set_cons_succ, i64_w, i32_w]; rfl
        refine pure_ (i := 31) (N := some 88) (v := ?_) (a' := ?_) #[Y',Y',Y',Y',Y',Y',Y',Y',Y',Y',Y',Y',Y',Y',Y',Y',Y',Y',Y',Y',Y',Y',Y',Y',Y',Y',Y',Y',Y',Y',Y',Y'] rfl rfl (any_of HT_.out (by kernel_rfl)) (fun _ _ _ h => h) (Or.inl ⟨by rfl, ?_⟩) ?_ ?_; rotate_left
        ·
         intro w'
         go_simp
         with_reducible rfl
        rotate_left
        ·
         simp only [Act.put, List.setIfInBounds_toArray, List.set_cons_zero, List.set_cons_succ, i64_w, i32_w]; rfl
        refine done_ (done_of HT_.out (by kernel_rfl)) ?_
        try go_wp2
        go_meet
        case rel => exact ⟨_, (false), eq_b, H', ⟨by have := HJ9.out; first | omega | exact Nat.le_refl _⟩, ⟨by (with_reducible repeat (first | apply Kd.R_alloc | apply Kd.R_drewN | apply Kd.R_drew)); exact Kd.R_mono HO_9.out (fun _ hk => ⟨hk.2.1, hk.2.2⟩)⟩, ⟨blk_a⟩, ⟨blk_a⟩, ⟨blk_a⟩, ⟨blk_a⟩, ⟨blk_a⟩, ⟨blk_a⟩, ⟨below_a⟩⟩
      ·
       rw [if_neg c58] at H; have c58b0 : (t441 == 0) = false := beq_eq_false_iff_ne.mpr c58; have c58b1 : (t441 != 0) = true := bne_iff_ne.mpr c58; (first | rw [c58b0] | (simp only [i64_w, i32_w]; rw [c58b0]) | skip); have H' := Aside0.mk H; clear H
       try go_wp2
       replace HO_6 := Aside0.mk (Kd.R_drew HO_6.out); replace HO_9 := Aside0.mk (Kd.R_drew HO_9.out); replace BK428 := Aside0.mk (blk_drew BK428.out); replace BK429 := Aside0.mk (blk_drew BK429.out); replace BK436 := Aside0.mk (blk_drew BK436.out); replace BK447 := Aside0.mk (blk_drew BK447.out); replace BK458 := Aside0.mk (blk_drew BK458.out); replace BK465 := Aside0.mk (blk_drew BK465.out); replace HB := Aside0.mk (below_drew1 HB.out); refine start_ (n := 32) (S := fun w' => w'.cell? ⟨gb447, 0, none⟩ = some (.int .i64 t441) ∧ w'.cell? ⟨gb447, 1, none⟩ = some (.int .i64 t442) ∧ w'.cell? ⟨gb447, 2, none⟩ = some (.int .i64 t443) ∧ w'.cell? ⟨gb447, 3, none⟩ = some (.int .i64 t444) ∧ w'.cell? ⟨gb447, 4, none⟩ = some (.int .i64 t445) ∧ w'.cell? ⟨gb447, 5, none⟩ = some (.bool t446)) (ds := []) #[Z',Z',Z',Z',Z',Z',Z',Z',Z',Z',Z',Z',Z',Z',Z',Z',Z',Z',Z',Z',Z',Z',Z',Z',Z',Z',Z',Z',Z',Z',Z',Z'] (by kernel_rfl) rfl rfl ⟨(blk_cell BK447.out 0).trans rfl, (blk_cell BK447.out 1).trans rfl, (blk_cell BK447.out 2).trans rfl, (blk_cell BK447.out 3).trans rfl, (blk_cell BK447.out 4).trans rfl, (blk_cell BK447.out 5).trans rfl⟩ (fun hHeld => ?_); refine with_tabW laws_FnDecides.tab11 laws_FnDecides.bits11 (fun HT_ HW_ => ?_); generalize wc.drew = w73 at HO_6 HO_9 BK428 BK429 BK436 BK447 BK458 BK465 HB hHeld ⊢; refine pure_ (i := 0) (N := some 57) (v := ?_) (a' := ?_) #[Y',Z',Z',Z',Z',Z',Z',Z',Z',Z',Z',Z',Z',Z',Z',Z',Z',Z',Z',Z',Z',Z',Z',Z',Z',Z',Z',Z',Z',Z',Z',Z'] rfl rfl (any_of HT_.out (by kernel_rfl)) (fun _ _ _ h => h) (Or.inl ⟨by rfl, ?_⟩) ?_ ?_; rotate_left
       ·
        intro w'
        go_simp
        with_reducible rfl
       rotate_left
       ·
        simp only [Act.put, List.setIfInBounds_toArray, List.set_cons_zero, List.set_cons_succ, i64_w, i32_w]; rfl
       refine take_ (i := 1) (N := some 58) (v := ?_) (a' := ?_) #[Y',Y',Z',Z',Z',Z',Z',Z',Z',Z',Z',Z',Z',Z',Z',Z',Z',Z',Z',Z',Z',Z',Z',Z',Z',Z',Z',Z',Z',Z',Z',Z'] rfl rfl (take_ofW HT_.out HW_.out (by kernel_rfl)) (fun _ _ _ h => h) (Or.inl ⟨by rfl, ?_⟩) hHeld ?_ ?_; rotate_left
       ·
        rintro w' ⟨s0, s1, s2, s3, s4, s5⟩
        go_simp
        with_reducible rfl
       rotate_left
       ·
        simp only [Act.put, List.setIfInBounds_toArray, List.set_cons_zero, List.set_cons_succ, i64_w, i32_w]; rfl
       refine pure_ (i := 2) (N := some 59) (v := ?_) (a' := ?_) #[Y',Y',Y',Z',Z',Z',Z',Z',Z',Z',Z',Z',Z',Z',Z',Z',Z',Z',Z',Z',Z',Z',Z',Z',Z',Z',Z',Z',Z',Z',Z',Z'] rfl rfl (any_of HT_.out (by kernel_rfl)) (fun _ _ _ h => h) (Or.inl ⟨by rfl, ?_⟩) ?_ ?_; rotate_left
       ·
        intro w'
        go_simp
        with_reducible rfl
       rotate_left
       ·
        simp only [Act.put, List.setIfInBounds_toArray, List.set_cons_zero, List.set_cons_succ, i64_w, i32_w]; rfl
       refine pure_ (i := 3) (N := some 60) (v := ?_) (a' := ?_) #[Y',Y',Y',Y',Z',Z',Z',Z',Z',Z',Z',Z',Z',Z',Z',Z',Z',Z',Z',Z',Z',Z',Z',Z',Z',Z',Z',Z',Z',Z',Z',Z'] rfl rfl (any_of HT_.out (by kernel_rfl)) (fun _ _ _ h => h) (Or.inl ⟨by rfl, ?_⟩) ?_ ?_; rotate_left
       ·
        intro w'
        go_simp
        with_reducible rfl
       rotate_left
       ·
        simp only [Act.put, List.setIfInBounds_toArray, List.set_cons_zero, List.set_cons_succ, i64_w, i32_w]; rfl
       refine pure_ (i := 4) (N := some 61) (v := undef) (a' := ?_) #[Y',Y',Y',Y',Y',Z',Z',Z',Z',Z',Z',Z',Z',Z',Z',Z',Z',Z',Z',Z',Z',Z',Z',Z',Z',Z',Z',Z',Z',Z',Z',Z'] rfl rfl (any_of HT_.out (by kernel_rfl)) (fun _ _ _ h => h) (Or.inr ⟨by rfl, rfl⟩) ?_ ?_; rotate_left
       ·
        simp only [Act.put, List.setIfInBounds_toArray, List.set_cons_zero, List.set_cons_succ, i64_w, i32_w]; rfl
       refine pure_ (i := 5) (N := some 62) (v := undef) (a' := ?_) #[Y',Y',Y',Y',Y',Y',Z',Z',Z',Z',Z',Z',Z',Z',Z',Z',Z',Z',Z',Z',Z',Z',Z',Z',Z',Z',Z',Z',Z',Z',Z',Z'] rfl rfl (any_of HT_.out (by kernel_rfl)) (fun _ _ _ h => h) (Or.inr ⟨by rfl, rfl⟩) ?_ ?_; rotate_left
       ·
        simp only [Act.put, List.setIfInBounds_toArray, List.set_cons_zero, List.set_cons_succ, i64_w, i32_w]; rfl
       refine pure_ (i := 6) (N := some 63) (v := ?_) (a' := ?_) #[Y',Y',Y',Y',Y',Y',Y',Z',Z',Z',Z',Z',Z',Z',Z',Z',Z',Z',Z',Z',Z',Z',Z',Z',Z',Z',Z',Z',Z',Z',Z',Z'] rfl rfl (any_of HT_.out (by kernel_rfl)) (fun _ _ _ h => h) (Or.inl ⟨by rfl, ?_⟩) ?_ ?_; rotate_left
       ·
        intro w'
        go_simp
        with_reducible rfl
       rotate_left
       ·
        simp only [Act.put, List.setIfInBounds_toArray, List.set_cons_zero, List.set_cons_succ, i64_w, i32_w]; rfl
       refine pure_ (i := 7) (N := some 64) (v := ?_) (a' := ?_) #[Y',Y',Y',Y',Y',Y',Y',Y',Z',Z',Z',Z',Z',Z',Z',Z',Z',Z',Z',Z',Z',Z',Z',Z',Z',Z',Z',Z',Z',Z',Z',Z'] rfl rfl (any_of HT_.out (by kernel_rfl)) (fun _ _ _ h => h) (Or.inl ⟨by rfl, ?_⟩) ?_ ?_; rotate_left
       ·
        intro w'
        go_simp
        with_reducible rfl
       rotate_left
       ·
        simp only [Act.put, List.setIfInBounds_toArray, List.set_cons_zero, List.set_cons_succ, i64_w, i32_w]; rfl
       refine pure_ (i := 8) (N := some 65) (v := undef) (a' := ?_) #[Y',Y',Y',Y',Y',Y',Y',Y',Y',Z',Z',Z',Z',Z',Z',Z',Z',Z',Z',Z',Z',Z',Z',Z',Z',Z',Z',Z',Z',Z',Z',Z'] rfl rfl (any_of HT_.out (by kernel_rfl)) (fun _ _ _ h => h) (Or.inr ⟨by rfl, rfl⟩) ?_ ?_; rotate_left
       ·
        simp only [Act.put, List.setIfInBounds_toArray, List.set_cons_zero, List.set_cons_succ, i64_w, i32_w]; rfl
       refine pure_ (i := 9) (N := some 66) (v := undef) (a' := ?_) #[Y',Y',Y',Y',Y',Y',Y',Y',Y',Y',Z',Z',Z',Z',Z',Z',Z',Z',Z',Z',Z',Z',Z',Z',Z',Z',Z',Z',Z',Z',Z',Z'] rfl rfl (any_of HT_.out (by kernel_rfl)) (fun _ _ _ h => h) (Or.inr ⟨by rfl, rfl⟩) ?_ ?_; rotate_left
       ·
        simp only [Act.put, List.setIfInBounds_toArray, List.set_cons_zero, List.set_cons_succ, i64_w, i32_w]; rfl
       refine pure_ (i := 10) (N := some 67) (v := undef) (a' := ?_) #[Y',Y',Y',Y',Y',Y',Y',Y',Y',Y',Y',Z',Z',Z',Z',Z',Z',Z',Z',Z',Z',Z',Z',Z',Z',Z',Z',Z',Z',Z',Z',Z'] rfl rfl (any_of HT_.out (by kernel_rfl)) (fun _ _ _ h => h) (Or.inr ⟨by rfl, rfl⟩) ?_ ?_; rotate_left
       ·
        simp only [Act.put, List.setIfInBounds_toArray, List.set_cons_zero, List.set_cons_succ, i64_w, i32_w]; rfl
       refine pure_ (i := 11) (N := some 68) (v := undef) (a' := ?_) #[Y',Y',Y',Y',Y',Y',Y',Y',Y',Y',Y',Y',Z',Z',Z',Z',Z',Z',Z',Z',Z',Z',Z',Z',Z',Z',Z',Z',Z',Z',Z',Z'] rfl rfl (any_of HT_.out (by kernel_rfl)) (fun _ _ _ h => h) (Or.inr ⟨by rfl, rfl⟩) ?_ ?_; rotate_left
       ·
        simp only [Act.put, List.setIfInBounds_toArray, List.set_cons_zero, List.set_cons_succ, i64_w, i32_w]; rfl
       refine pure_ (i := 12) (N := some 69) (v := undef) (a' := ?_) #[Y',Y',Y',Y',Y',Y',Y',Y',Y',Y',Y',Y',Y',Z',Z',Z',Z',Z',Z',Z',Z',Z',Z',Z',Z',Z',Z',Z',Z',Z',Z',Z'] rfl rfl (any_of HT_.out (by kernel_rfl)) (fun _ _ _ h => h) (Or.inr ⟨by rfl, rfl⟩) ?_ ?_; rotate_left
       ·
        simp only [Act.put, List.setIfInBounds_toArray, List.set_cons_zero, List.set_cons_succ, i64_w, i32_w]; rfl
       refine pure_ (i := 13) (N := some 70) (v := undef) (a' := ?_) #[Y',Y',Y',Y',Y',Y',Y',Y',Y',Y',Y',Y',Y',Y',Z',Z',Z',Z',Z',Z',Z',Z',Z',Z',Z',Z',Z',Z',Z',Z',Z',Z'] rfl rfl (any_of HT_.out (by kernel_rfl)) (fun _ _ _ h => h) (Or.inr ⟨by rfl, rfl⟩) ?_ ?_; rotate_left
       ·
        simp only [Act.put, List.setIfInBounds_toArray, List.set_cons_zero, List.set_cons_succ, i64_w, i32_w]; rfl
       refine pure_ (i := 14) (N := some 71) (v := undef) (a' := ?_) #[Y',Y',Y',Y',Y',Y',Y',Y',Y',Y',Y',Y',Y',Y',Y',Z',Z',Z',Z',Z',Z',Z',Z',Z',Z',Z',Z',Z',Z',Z',Z',Z'] rfl rfl (any_of HT_.out (by kernel_rfl)) (fun _ _ _ h => h) (Or.inr ⟨by rfl, rfl⟩) ?_ ?_; rotate_left
       ·
        simp only [Act.put, List.setIfInBounds_toArray, List.set_cons_zero, List.set_cons_succ, i64_w, i32_w]; rfl
       refine pure_ (i := 15) (N := some 72) (v := undef) (a' := ?_) #[Y',Y',Y',Y',Y',Y',Y',Y',Y',Y',Y',Y',Y',Y',Y',Y',Z',Z',Z',Z',Z',Z',Z',Z',Z',Z',Z',Z',Z',Z',Z',Z'] rfl rfl (any_of HT_.out (by kernel_rfl)) (fun _ _ _ h => h) (Or.inr ⟨by rfl, rfl⟩) ?_ ?_; rotate_left
       ·
        simp only [Act.put, List.setIfInBounds_toArray, List.set_cons_zero, List.set_cons_succ, i64_w, i32_w]; rfl
       refine pure_ (i := 16) (N := some 73) (v := undef) (a' := ?_) #[Y',Y',Y',Y',Y',Y',Y',Y',Y',Y',Y',Y',Y',Y',Y',Y',Y',Z',Z',Z',Z',Z',Z',Z',Z',Z',Z',Z',Z',Z',Z',Z'] rfl rfl (any_of HT_.out (by kernel_rfl)) (fun _ _ _ h => h) (Or.inr ⟨by rfl, rfl⟩) ?_ ?_; rotate_left
       ·
        simp only [Act.put, List.setIfInBounds_toArray, List.set_cons_zero, List.set_cons_succ, i64_w, i32_w]; rfl
       refine pure_ (i := 17) (N := some 74) (v := undef) (a' := ?_) #[Y',Y',Y',Y',Y',Y',Y',Y',Y',Y',Y',Y',Y',Y',Y',Y',Y',Y',Z',Z',Z',Z',Z',Z',Z',Z',Z',Z',Z',Z',Z',Z'] rfl rfl (any_of HT_.out (by kernel_rfl)) (fun _ _ _ h => h) (Or.inr ⟨by rfl, rfl⟩) ?_ ?_; rotate_left
       ·
        simp only [Act.put, List.setIfInBounds_toArray, List.set_cons_zero, List.set_cons_succ, i64_w, i32_w]; rfl
       refine pure_ (i := 18) (N := some 75) (v := undef) (a' := ?_) #[Y',Y',Y',Y',Y',Y',Y',Y',Y',Y',Y',Y',Y',Y',Y',Y',Y',Y',Y',Z',Z',Z',Z',Z',Z',Z',Z',Z',Z',Z',Z',Z'] rfl rfl (any_of HT_.out (by kernel_rfl)) (fun _ _ _ h => h) (Or.inr ⟨by rfl, rfl⟩) ?_ ?_; rotate_left
       ·
        simp only [Act.put, List.setIfInBounds_toArray, List.set_cons_zero, List.set_cons_succ, i64_w, i32_w]; rfl
       refine pure_ (i := 19) (N := some 76) (v := undef) (a' := ?_) #[Y',Y',Y',Y',Y',Y',Y',Y',Y',Y',Y',Y',Y',Y',Y',Y',Y',Y',Y',Y',Z',Z',Z',Z',Z',Z',Z',Z',Z',Z',Z',Z'] rfl rfl (any_of HT_.out (by kernel_rfl)) (fun _ _ _ h => h) (Or.inr ⟨by rfl, rfl⟩) ?_ ?_; rotate_left
       ·
        simp only [Act.put, List.setIfInBounds_toArray, List.set_cons_zero, List.set_cons_succ, i64_w, i32_w]; rfl
       refine pure_ (i := 20) (N := some 77) (v := undef) (a' := ?_) #[Y',Y',Y',Y',Y',Y',Y',Y',Y',Y',Y',Y',Y',Y',Y',Y',Y',Y',Y',Y',Y',Z',Z',Z',Z',Z',Z',Z',Z',Z',Z',Z'] rfl rfl (any_of HT_.out (by kernel_rfl)) (fun _ _ _ h => h) (Or.inr ⟨by rfl, rfl⟩) ?_ ?_; rotate_left
       ·
        simp only [Act.put, List.setIfInBounds_toArray, List.set_cons_zero, List.set_cons_succ, i64_w, i32_w]; rfl
       refine pure_ (i := 21) (N := some 78) (v := undef) (a' := ?_) #[Y',Y',Y',Y',Y',Y',Y',Y',Y',Y',Y',Y',Y',Y',Y',Y',Y',Y',Y',Y',Y',Y',Z',Z',Z',Z',Z',Z',Z',Z',Z',Z'] rfl rfl (any_of HT_.out (by kernel_rfl)) (fun _ _ _ h => h) (Or.inr ⟨by rfl, rfl⟩) ?_ ?_; rotate_left
       ·
        simp only [Act.put, List.setIfInBounds_toArray, List.set_cons_zero, List.set_cons_succ, i64_w, i32_w]; rfl
       refine pure_ (i := 22) (N := some 79) (v := undef) (a' := ?_) #[Y',Y',Y',Y',Y',Y',Y',Y',Y',Y',Y',Y',Y',Y',Y',Y',Y',Y',Y',Y',Y',Y',Y',Z',Z',Z',Z',Z',Z',Z',Z',Z'] rfl rfl (any_of HT_.out (by kernel_rfl)) (fun _ _ _ h => h) (Or.inr ⟨by rfl, rfl⟩) ?_ ?_; rotate_left
       ·
        simp only [Act.put, List.setIfInBounds_toArray, List.set_cons_zero, List.set_cons_succ, i64_w, i32_w]; rfl
       refine pure_ (i := 23) (N := some 80) (v := undef) (a' := ?_) #[Y',Y',Y',Y',Y',Y',Y',Y',Y',Y',Y',Y',Y',Y',Y',Y',Y',Y',Y',Y',Y',Y',Y',Y',Z',Z',Z',Z',Z',Z',Z',Z'] rfl rfl (any_of HT_.out (by kernel_rfl)) (fun _ _ _ h => h) (Or.inr ⟨by rfl, rfl⟩) ?_ ?_; rotate_left
       ·
        simp only [Act.put, List.setIfInBounds_toArray, List.set_cons_zero, List.set_cons_succ, i64_w, i32_w]; rfl
       refine pure_ (i := 24) (N := some 81) (v := undef) (a' := ?_) #[Y',Y',Y',Y',Y',Y',Y',Y',Y',Y',Y',Y',Y',Y',Y',Y',Y',Y',Y',Y',Y',Y',Y',Y',Y',Z',Z',Z',Z',Z',Z',Z'] rfl rfl (any_of HT_.out (by kernel_rfl)) (fun _ _ _ h => h) (Or.inr ⟨by rfl, rfl⟩) ?_ ?_; rotate_left
       ·
        simp only [Act.put, List.setIfInBounds_toArray, List.set_cons_zero, List.set_cons_succ, i64_w, i32_w]; rfl
       refine pure_ (i := 25) (N := some 82) (v := undef) (a' := ?_) #[Y',Y',Y',Y',Y',Y',Y',Y',Y',Y',Y',Y',Y',Y',Y',Y',Y',Y',Y',Y',Y',Y',Y',Y',Y',Y',Z',Z',Z',Z',Z',Z'] rfl rfl (any_of HT_.out (by kernel_rfl)) (fun _ _ _ h => h) (Or.inr ⟨by rfl, rfl⟩) ?_ ?_; rotate_left
       ·
        simp only [Act.put, List.setIfInBounds_toArray, List.set_cons_zero, List.set_cons_succ, i64_w, i32_w]; rfl
       refine pure_ (i := 26) (N := some 83) (v := undef) (a' := ?_) #[Y',Y',Y',Y',Y',Y',Y',Y',Y',Y',Y',Y',Y',Y',Y',Y',Y',Y',Y',Y',Y',Y',Y',Y',Y',Y',Y',Z',Z',Z',Z',Z'] rfl rfl (any_of HT_.out (by kernel_rfl)) (fun _ _ _ h => h) (Or.inr ⟨by rfl, rfl⟩) ?_ ?_; rotate_left
       ·
        simp only [Act.put, List.setIfInBounds_toArray, List.set_cons_zero, List.set_cons_succ, i64_w, i32_w]; rfl
       refine pure_ (i := 27) (N := some 84) (v := undef) (a' := ?_) #[Y',Y',Y',Y',Y',Y',Y',Y',Y',Y',Y',Y',Y',Y',Y',Y',Y',Y',Y',Y',Y',Y',Y',Y',Y',Y',Y',Y',Z',Z',Z',Z'] rfl rfl (any_of HT_.out (by kernel_rfl)) (fun _ _ _ h => h) (Or.inr ⟨by rfl, rfl⟩) ?_ ?_; rotate_left
       ·
        simp only [Act.put, List.setIfInBounds_toArray, List.set_cons_zero, List.set_cons_succ, i64_w, i32_w]; rfl
       refine pure_ (i := 28) (N := some 85) (v := undef) (a' := ?_) #[Y',Y',Y',Y',Y',Y',Y',Y',Y',Y',Y',Y',Y',Y',Y',Y',Y',Y',Y',Y',Y',Y',Y',Y',Y',Y',Y',Y',Y',Z',Z',Z'] rfl rfl (any_of HT_.out (by kernel_rfl)) (fun _ _ _ h => h) (Or.inr ⟨by rfl, rfl⟩) ?_ ?_; rotate_left
       ·
        simp only [Act.put, List.setIfInBounds_toArray, List.set_cons_zero, List.set_cons_succ, i64_w, i32_w]; rfl
       refine pure_ (i := 29) (N := some 86) (v := undef) (a' := ?_) #[Y',Y',Y',Y',Y',Y',Y',Y',Y',Y',Y',Y',Y',Y',Y',Y',Y',Y',Y',Y',Y',Y',Y',Y',Y',Y',Y',Y',Y',Y',Z',Z'] rfl rfl (any_of HT_.out (by kernel_rfl)) (fun _ _ _ h => h) (Or.inr ⟨by rfl, rfl⟩) ?_ ?_; rotate_left
       ·
        simp only [Act.put, List.setIfInBounds_toArray, List.set_cons_zero, List.set_cons_succ, i64_w, i32_w]; rfl
       refine pure_ (i := 30) (N := some 87) (v := undef) (a' := ?_) #[Y',Y',Y',Y',Y',Y',Y',Y',Y',Y',Y',Y',Y',Y',Y',Y',Y',Y',Y',Y',Y',Y',Y',Y',Y',Y',Y',Y',Y',Y',Y',Z'] rfl rfl (any_of HT_.out (by kernel_rfl)) (fun _ _ _ h => h) (Or.inr ⟨by rfl, rfl⟩) ?_ ?_; rotate_left
       ·
        simp only [Act.put, List.setIfInBounds_toArray, List.set_cons_zero, List.set_cons_succ, i64_w, i32_w]; rfl
       refine pure_ (i := 31) (N := some 88) (v := ?_) (a' := ?_) #[Y',Y',Y',Y',Y',Y',Y',Y',Y',Y',Y',Y',Y',Y',Y',Y',Y',Y',Y',Y',Y',Y',Y',Y',Y',Y',Y',Y',Y',Y',Y',Y'] rfl rfl (any_of HT_.out (by kernel_rfl)) (fun _ _ _ h => h) (Or.inl ⟨by rfl, ?_⟩) ?_ ?_; rotate_left
       ·
        intro w'
        go_simp
        with_reducible rfl
       rotate_left
       ·
        simp only [Act.put, List.setIfInBounds_toArray, List.set_cons_zero, List.set_cons_succ, i64_w, i32_w]; rfl
       refine done_ (done_of HT_.out (by kernel_rfl)) ?_
       try go_wp2
       go_meet
       case rel => exact ⟨_, (false), eq_b, H', ⟨by have := HJ9.out; first | omega | exact Nat.le_refl _⟩, ⟨by (with_reducible repeat (first | apply Kd.R_alloc | apply Kd.R_drewN | apply Kd.R_drew)); exact Kd.R_mono HO_9.out (fun _ hk => ⟨hk.2.1, hk.2.2⟩)⟩, ⟨blk_a⟩, ⟨blk_a⟩, ⟨blk_a⟩, ⟨blk_a⟩, ⟨blk_a⟩, ⟨blk_a⟩, ⟨below_a⟩⟩
     case rest =>
      clear HC57
      try clear c2
      try clear p2
      try clear p4
      try clear q4
      try clear hx4
      try clear qi4
      try clear c5
      try clear c6
      try clear c26
      try clear p49
      try clear q49
      try clear hx49
      try clear qi49
      try clear c58 c58b0 c58b1
      try clear c59
      try clear c61
      try clear c63
      try clear c65
      try clear hx496_0 hx496_1 hx496_2 hx496_3
      try clear p496
      try clear q496
      obtain ⟨kq, x88_56, rfl, HA, HJ56, HO_9, BK428, BK429, BK436, BK447, BK458, BK465, HB⟩ := hcut
      cases kq with
      | zero => exact absurd HA.out (by simp [laws_FnDecides.j1])
      | succ kj56 =>
       have H := HA.out; clear HA; simp only [laws_FnDecides.j1] at H
       by_cases c74 : x88_56 = true
       ·
        subst c74; have H1 : (none) = some r := by rw [if_pos rfl] at H; exact H
        clear H; have H := H1; clear H1; exact absurd H (by simp)
       ·
        replace c74 := Bool.eq_false_iff.mpr c74; subst c74; have H1 : (if t459 = 0 then (if t464 = true then (if t461 = t454 then (if t462 = 2 then ((spec_FindClaim.f kj56 t448 t453).bind fun bt497 => (if 0 < (bt497.2.1.length : Int) then ((impl_Beats.f t460 t461 t462 t463 ((rd_T51 bt497.2.1 0).f0) ((rd_T51 bt497.2.1 0).f1) ((rd_T51 bt497.2.1 0).f2) ((rd_T51 bt497.2.1 0).f3)).bind fun t503 => (laws_FnDecides.j2 kj56 (!t503) t420 t421 t422 t423 t424 t425 t426 t427 t430 t431 t432 t433 t434 t435)) else (none))) else (none)) else (none)) else (laws_FnDecides.j2 kj56 false t420 t421 t422 t423 t424 t425 t426 t427 t430 t431 t432 t433 t434 t435)) else (laws_FnDecides.j2 kj56 false t420 t421 t422 t423 t424 t425 t426 t427 t430 t431 t432 t433 t434 t435)) = some r := by rw [if_neg (show ¬ (false = true) by decide)] at H; exact H
        clear H; have H := H1; clear H1; have HC75 := Aside0.mk H; clear H
        go_upto_region 13 with (fail)
        go_cut [122] (fun v122 wc => ∃ (kq : Nat) (x122_74 : Bool), v122 = .bool x122_74 ∧ Aside0 (laws_FnDecides.j2 kq x122_74 t420 t421 t422 t423 t424 t425 t426 t427 t430 t431 t432 t433 t434 t435 = some r) ∧ Aside0 (kq ≤ kj56) ∧ Aside0 (wc.heap[gb428]? = some (.cells #[.int .i64 t420, .int .i64 t421, .int .i64 t422, .int .i64 t423] 51 (0, 0))) ∧ Aside0 (wc.heap[gb429]? = some (.cells #[.int .i64 t424, .int .i64 t425, .int .i64 t426, .int .i64 t427] 51 (0, 0))) ∧ Aside0 (wc.heap[gb436]? = some (.cells #[.int .i64 t430, .int .i64 t431, .int .i64 t432, .int .i64 t433, .int .i64 t434, .bool t435] 63 (0, 0))) ∧ Aside0 (wc.heap[gb447]? = some (.cells #[.int .i64 t441, .int .i64 t442, .int .i64 t443, .int .i64 t444, .int .i64 t445, .bool t446] 63 (0, 0))) ∧ Aside0 (wc.heap[gb458]? = some (.cells #[.int .i64 t451, .int .i64 t452, .int .i64 t453, .int .i64 t454, .int .i64 t455, .int .i64 t456, .int .i64 t457] 67 (0, 0))) ∧ Aside0 (wc.heap[gb465]? = some (.cells #[.int .i64 t459, .int .i64 t460, .int .i64 t461, .int .i64 t462, .int .i64 t463, .bool t464] 63 (0, 0))) ∧ Aside0 (Below w.heap.size w wc))
        case first =>
         have H := HC75.out; clear HC75
         by_cases c76 : t459 = 0
         ·
          rw [if_pos c76] at H; have c76b0 : (t459 == 0) = true := beq_iff_eq.mpr c76; have c76b1 : (t459 != 0) = false := bne_eq_false_iff_eq.mpr c76; clear c76; (first | rw [c76b0] | (simp only [i64_w, i32_w]; rw [c76b0]) | skip)
          by_cases c77 : t464 = true
          ·
           subst c77; have H1 : (if t461 = t454 then (if t462 = 2 then ((spec_FindClaim.f kj56 t448 t453).bind fun bt497 => (if 0 < (bt497.2.1.length : Int) then ((impl_Beats.f t460 t461 t462 t463 ((rd_T51 bt497.2.1 0).f0) ((rd_T51 bt497.2.1 0).f1) ((rd_T51 bt497.2.1 0).f2) ((rd_T51 bt497.2.1 0).f3)).bind fun t503 => (laws_FnDecides.j2 kj56 (!t503) t420 t421 t422 t423 t424 t425 t426 t427 t430 t431 t432 t433 t434 t435)) else (none))) else (none)) else (none)) = some r := by rw [if_pos rfl] at H; exact H
           clear H; have H := H1; clear H1
           by_cases c78 : t461 = t454
           ·
            rw [if_pos c78] at H; have c78b0 : (t461 == t454) = true := beq_iff_eq.mpr c78; have c78b1 : (t461 != t454) = false := bne_eq_false_iff_eq.mpr c78; clear c78
            by_cases c79 : t462 = 2
            ·
             rw [if_pos c79] at H; have c79b0 : (t462 == 2) = true := beq_iff_eq.mpr c79; have c79b1 : (t462 != 2) = false := bne_eq_false_iff_eq.mpr c79; clear c79; replace H := Option.bind_eq_some_iff.mp H; obtain ⟨⟨t497, t498, t501⟩, A800, H⟩ := H; replace H : (if 0 < (t498.length : Int) then ((impl_Beats.f t460 t461 t462 t463 ((rd_T51 t498 0).f0) ((rd_T51 t498 0).f1) ((rd_T51 t498 0).f2) ((rd_T51 t498 0).f3)).bind fun t503 => (laws_FnDecides.j2 kj56 (!t503) t420 t421 t422 t423 t424 t425 t426 t427 t430 t431 t432 t433 t434 t435)) else (none)) = some r := H; have A80 := Aside0.mk A800; clear A800
             by_cases c81 : 0 < (t498.length : Int)
             ·
              rw [if_pos c81] at H; have c81b0 : decide (0 < (t498.length : Int)) = true := decide_eq_true c81; have c81b1 : decide (0 < t498.length) = true := decide_eq_true (by omega); clear c81; replace H := Option.bind_eq_some_iff.mp H; obtain ⟨t503, A820, H⟩ := H; replace H : (laws_FnDecides.j2 kj56 (!t503) t420 t421 t422 t423 t424 t425 t426 t427 t430 t431 t432 t433 t434 t435) = some r := H; have A82 := Aside0.mk A820; clear A820; have H' := Aside0.mk H; clear H
              try go_wp2
              replace HO_9 := Aside0.mk (Kd.R_drew HO_9.out); replace BK428 := Aside0.mk (blk_drew BK428.out); replace BK429 := Aside0.mk (blk_drew BK429.out); replace BK436 := Aside0.mk (blk_drew BK436.out); replace BK447 := Aside0.mk (blk_drew BK447.out); replace BK458 := Aside0.mk (blk_drew BK458.out); replace BK465 := Aside0.mk (blk_drew BK465.out); replace HB := Aside0.mk (below_drew1 HB.out); refine start_ (n := 34) (S := fun w' => w'.cell? ⟨gb465, 0, none⟩ = some (.int .i64 t459) ∧ w'.cell? ⟨gb465, 1, none⟩ = some (.int .i64 t460) ∧ w'.cell? ⟨gb465, 2, none⟩ = some (.int .i64 t461) ∧ w'.cell? ⟨gb465, 3, none⟩ = some (.int .i64 t462) ∧ w'.cell? ⟨gb465, 4, none⟩ = some (.int .i64 t463) ∧ w'.cell? ⟨gb465, 5, none⟩ = some (.bool true) ∧ w'.cell? ⟨gb458, 0, none⟩ = some (.int .i64 t451) ∧ w'.cell? ⟨gb458, 1, none⟩ = some (.int .i64 t452) ∧ w'.cell? ⟨gb458, 2, none⟩ = some (.int .i64 t453) ∧ w'.cell? ⟨gb458, 3, none⟩ = some (.int .i64 t454) ∧ w'.cell? ⟨gb458, 4, none⟩ = some (.int .i64 t455) ∧ w'.cell? ⟨gb458, 5, none⟩ = some (.int .i64 t456) ∧ w'.cell? ⟨gb458, 6, none⟩ = some (.int .i64 t457) ∧ True) (ds := []) #[Z',Z',Z',Z',Z',Z',Z',Z',Z',Z',Z',Z',Z',Z',Z',Z',Z',Z',Z',Z',Z',Z',Z',Z',Z',Z',Z',Z',Z',Z',Z',Z',Z',Z'] (by kernel_rfl) rfl rfl ⟨(blk_cell BK465.out 0).trans rfl, (blk_cell BK465.out 1).trans rfl, (blk_cell BK465.out 2).trans rfl, (blk_cell BK465.out 3).trans rfl, (blk_cell BK465.out 4).trans rfl, (blk_cell BK465.out 5).trans rfl, (blk_cell BK458.out 0).trans rfl, (blk_cell BK458.out 1).trans rfl, (blk_cell BK458.out 2).trans rfl, (blk_cell BK458.out 3).trans rfl, (blk_cell BK458.out 4).trans rfl, (blk_cell BK458.out 5).trans rfl, (blk_cell BK458.out 6).trans rfl, trivial⟩ (fun hHeld => ?_); refine with_tabW laws_FnDecides.tab13 laws_FnDecides.bits13 (fun HT_ HW_ => ?_); generalize wc.drew = w83 at HO_9 BK428 BK429 BK436 BK447 BK458 BK465 HB hHeld ⊢; refine pure_ (i := 0) (N := some 89) (v := ?_) (a' := ?_) #[Y',Z',Z',Z',Z',Z',Z',Z',Z',Z',Z',Z',Z',Z',Z',Z',Z',Z',Z',Z',Z',Z',Z',Z',Z',Z',Z',Z',Z',Z',Z',Z',Z',Z'] rfl rfl (any_of HT_.out (by kernel_rfl)) (fun _ _ _ h => h) (Or.inl ⟨by rfl, ?_⟩) ?_ ?_; rotate_left
              ·
               intro w'
               go_simp
               with_reducible rfl
              rotate_left
              ·
               simp only [Act.put, List.setIfInBounds_toArray, List.set_cons_zero, List.set_cons_succ, i64_w, i32_w]; rfl
              refine take_ (i := 1) (N := some 90) (v := ?_) (a' := ?_) #[Y',Y',Z',Z',Z',Z',Z',Z',Z',Z',Z',Z',Z',Z',Z',Z',Z',Z',Z',Z',Z',Z',Z',Z',Z',Z',Z',Z',Z',Z',Z',Z',Z',Z'] rfl rfl (take_ofW HT_.out HW_.out (by kernel_rfl)) (fun _ _ _ h => h) (Or.inl ⟨by rfl, ?_⟩) hHeld ?_ ?_; rotate_left
              ·
               rintro w' ⟨s0, s1, s2, s3, s4, s5, s6, s7, s8, s9, s10, s11, s12, s13, s14, s15, s16⟩
               go_simp
               with_reducible rfl
              rotate_left
              ·
               simp only [Act.put, List.setIfInBounds_toArray, List.set_cons_zero, List.set_cons_succ, i64_w, i32_w]; rfl
              refine pure_ (i := 2) (N := some 91) (v := ?_) (a' := ?_) #[Y',Y',Y',Z',Z',Z',Z',Z',Z',Z',Z',Z',Z',Z',Z',Z',Z',Z',Z',Z',Z',Z',Z',Z',Z',Z',Z',Z',Z',Z',Z',Z',Z',Z'] rfl rfl (any_of HT_.out (by kernel_rfl)) (fun _ _ _ h => h) (Or.inl ⟨by rfl, ?_⟩) ?_ ?_; rotate_left
              ·
               intro w'
               go_simp
               with_reducible rfl
              rotate_left
              ·
               simp only [Act.put, List.setIfInBounds_toArray, List.set_cons_zero, List.set_cons_succ, i64_w, i32_w]; rfl
              refine pure_ (i := 3) (N := some 92) (v := ?_) (a' := ?_) #[Y',Y',Y',Y',Z',Z',Z',Z',Z',Z',Z',Z',Z',Z',Z',Z',Z',Z',Z',Z',Z',Z',Z',Z',Z',Z',Z',Z',Z',Z',Z',Z',Z',Z'] rfl rfl (any_of HT_.out (by kernel_rfl)) (fun _ _ _ h => h) (Or.inl ⟨by rfl, ?_⟩) ?_ ?_; rotate_left
              ·
               intro w'
               go_simp
               with_reducible rfl
              rotate_left
              ·
               simp only [Act.put, List.setIfInBounds_toArray, List.set_cons_zero, List.set_cons_succ, i64_w, i32_w]; rfl
              refine pure_ (i := 4) (N := some 93) (v := ?_) (a' := ?_) #[Y',Y',Y',Y',Y',Z',Z',Z',Z',Z',Z',Z',Z',Z',Z',Z',Z',Z',Z',Z',Z',Z',Z',Z',Z',Z',Z',Z',Z',Z',Z',Z',Z',Z'] rfl rfl (any_of HT_.out (by kernel_rfl)) (fun _ _ _ h => h) (Or.inl ⟨by rfl, ?_⟩) ?_ ?_; rotate_left
              ·
               intro w'
               go_simp
               with_reducible rfl
              rotate_left
              ·
               simp only [Act.put, List.setIfInBounds_toArray, List.set_cons_zero, List.set_cons_succ, i64_w, i32_w]; rfl
              refine take_ (i := 5) (N := some 94) (v := ?_) (a' := ?_) #[Y',Y',Y',Y',Y',Y',Z',Z',Z',Z',Z',Z',Z',Z',Z',Z',Z',Z',Z',Z',Z',Z',Z',Z',Z',Z',Z',Z',Z',Z',Z',Z',Z',Z'] rfl rfl (take_ofW HT_.out HW_.out (by kernel_rfl)) (fun _ _ _ h => h) (Or.inl ⟨by rfl, ?_⟩) hHeld ?_ ?_; rotate_left
              ·
               rintro w' ⟨s0, s1, s2, s3, s4, s5, s6, s7, s8, s9, s10, s11, s12, s13, s14, s15, s16⟩
               go_simp
               with_reducible rfl
              rotate_left
              ·
               simp only [Act.put, List.setIfInBounds_toArray, List.set_cons_zero, List.set_cons_succ, i64_w, i32_w]; rfl
              refine pure_ (i := 6) (N := some 95) (v := ?_) (a' := ?_) #[Y',Y',Y',Y',Y',Y',Y',Z',Z',Z',Z',Z',Z',Z',Z',Z',Z',Z',Z',Z',Z',Z',Z',Z',Z',Z',Z',Z',Z',Z',Z',Z',Z',Z'] rfl rfl (any_of HT_.out (by kernel_rfl)) (fun _ _ _ h => h) (Or.inl ⟨by rfl, ?_⟩) ?_ ?_; rotate_left
              ·
               intro w'
               go_simp
               with_reducible rfl
              rotate_left
              ·
               simp only [Act.put, List.setIfInBounds_toArray, List.set_cons_zero, List.set_cons_succ, i64_w, i32_w]; rfl
              refine pure_ (i := 7) (N := some 96) (v := ?_) (a' := ?_) #[Y',Y',Y',Y',Y',Y',Y',Y',Z',Z',Z',Z',Z',Z',Z',Z',Z',Z',Z',Z',Z',Z',Z',Z',Z',Z',Z',Z',Z',Z',Z',Z',Z',Z'] rfl rfl (any_of HT_.out (by kernel_rfl)) (fun _ _ _ h => h) (Or.inl ⟨by rfl, ?_⟩) ?_ ?_; rotate_left
              ·
               intro w'
               go_simp
               with_reducible rfl
              rotate_left
              ·
               simp only [Act.put, List.setIfInBounds_toArray, List.set_cons_zero, List.set_cons_succ, i64_w, i32_w]; rfl
              refine pure_ (i := 8) (N := some 97) (v := ?_) (a' := ?_) #[Y',Y',Y',Y',Y',Y',Y',Y',Y',Z',Z',Z',Z',Z',Z',Z',Z',Z',Z',Z',Z',Z',Z',Z',Z',Z',Z',Z',Z',Z',Z',Z',Z',Z'] rfl rfl (any_of HT_.out (by kernel_rfl)) (fun _ _ _ h => h) (Or.inl ⟨by rfl, ?_⟩) ?_ ?_; rotate_left
              ·
               intro w'
               go_simp
               with_reducible rfl
              rotate_left
              ·
               simp only [Act.put, List.setIfInBounds_toArray, List.set_cons_zero, List.set_cons_succ, i64_w, i32_w]; rfl
              refine pure_ (i := 9) (N := some 98) (v := ?_) (a' := ?_) #[Y',Y',Y',Y',Y',Y',Y',Y',Y',Y',Z',Z',Z',Z',Z',Z',Z',Z',Z',Z',Z',Z',Z',Z',Z',Z',Z',Z',Z',Z',Z',Z',Z',Z'] rfl rfl (any_of HT_.out (by kernel_rfl)) (fun _ _ _ h => h) (Or.inl ⟨by rfl, ?_⟩) ?_ ?_; rotate_left
              ·
               intro w'
               go_simp
               with_reducible rfl
              rotate_left
              ·
               simp only [Act.put, List.setIfInBounds_toArray, List.set_cons_zero, List.set_cons_succ, i64_w, i32_w]; rfl
              refine pure_ (i := 11) (N := some 100) (v := ?_) (a' := ?_) #[Y',Y',Y',Y',Y',Y',Y',Y',Y',Y',Z',Y',Z',Z',Z',Z',Z',Z',Z',Z',Z',Z',Z',Z',Z',Z',Z',Z',Z',Z',Z',Z',Z',Z'] rfl rfl (any_of HT_.out (by kernel_rfl)) (fun _ _ _ h => h) (Or.inl ⟨by rfl, ?_⟩) ?_ ?_; rotate_left
              ·
               intro w'
               go_simp
               with_reducible rfl
              rotate_left
              ·
               simp only [Act.put, List.setIfInBounds_toArray, List.set_cons_zero, List.set_cons_succ, i64_w, i32_w]; rfl
              refine take_ (i := 10) (N := some 99) (v := ?_) (a' := ?_) #[Y',Y',Y',Y',Y',Y',Y',Y',Y',Y',Y',Y',Z',Z',Z',Z',Z',Z',Z',Z',Z',Z',Z',Z',Z',Z',Z',Z',Z',Z',Z',Z',Z',Z'] rfl rfl (take_ofW HT_.out HW_.out (by kernel_rfl)) (fun _ _ _ h => h) (Or.inl ⟨by rfl, ?_⟩) hHeld ?_ ?_; rotate_left
              ·
               rintro w' ⟨s0, s1, s2, s3, s4, s5, s6, s7, s8, s9, s10, s11, s12, s13, s14, s15, s16⟩
               go_simp
               with_reducible rfl
              rotate_left
              ·
               simp only [Act.put, List.setIfInBounds_toArray, List.set_cons_zero, List.set_cons_succ, i64_w, i32_w]; rfl
              refine take_ (i := 12) (N := some 101) (v := ?_) (a' := ?_) #[Y',Y',Y',Y',Y',Y',Y',Y',Y',Y',Y',Y',Y',Z',Z',Z',Z',Z',Z',Z',Z',Z',Z',Z',Z',Z',Z',Z',Z',Z',Z',Z',Z',Z'] rfl rfl (take_ofW HT_.out HW_.out (by kernel_rfl)) (fun _ _ _ h => h) (Or.inl ⟨by rfl, ?_⟩) hHeld ?_ ?_; rotate_left
              ·
               rintro w' ⟨s0, s1, s2, s3, s4, s5, s6, s7, s8, s9, s10, s11, s12, s13, s14, s15, s16⟩
               go_simp
               with_reducible rfl
              rotate_left
              ·
               simp only [Act.put, List.setIfInBounds_toArray, List.set_cons_zero, List.set_cons_succ, i64_w, i32_w]; rfl
              refine pure_ (i := 13) (N := some 102) (v := ?_) (a' := ?_) #[Y',Y',Y',Y',Y',Y',Y',Y',Y',Y',Y',Y',Y',Y',Z',Z',Z',Z',Z',Z',Z',Z',Z',Z',Z',Z',Z',Z',Z',Z',Z',Z',Z',Z'] rfl rfl (any_of HT_.out (by kernel_rfl)) (fun _ _ _ h => h) (Or.inl ⟨by rfl, ?_⟩) ?_ ?_; rotate_left
              ·
               intro w'
               go_simp
               with_reducible rfl
              rotate_left
              ·
               simp only [Act.put, List.setIfInBounds_toArray, List.set_cons_zero, List.set_cons_succ, i64_w, i32_w]; rfl
              refine pure_ (i := 14) (N := some 103) (v := ?_) (a' := ?_) #[Y',Y',Y',Y',Y',Y',Y',Y',Y',Y',Y',Y',Y',Y',Y',Z',Z',Z',Z',Z',Z',Z',Z',Z',Z',Z',Z',Z',Z',Z',Z',Z',Z',Z'] rfl rfl (any_of HT_.out (by kernel_rfl)) (fun _ _ _ h => h) (Or.inl ⟨by rfl, ?_⟩) ?_ ?_; rotate_left
              ·
               intro w'
               go_simp
               with_reducible rfl
              rotate_left
              ·
               simp only [Act.put, List.setIfInBounds_toArray, List.set_cons_zero, List.set_cons_succ, i64_w, i32_w]; rfl
              refine pure_ (i := 15) (N := some 104) (v := ?_) (a' := ?_) #[Y',Y',Y',Y',Y',Y',Y',Y',Y',Y',Y',Y',Y',Y',Y',Y',Z',Z',Z',Z',Z',Z',Z',Z',Z',Z',Z',Z',Z',Z',Z',Z',Z',Z'] rfl rfl (any_of HT_.out (by kernel_rfl)) (fun _ _ _ h => h) (Or.inl ⟨by rfl, ?_⟩) ?_ ?_; rotate_left
              ·
               intro w'
               go_simp
               with_reducible rfl
              rotate_left
              ·
               simp only [Act.put, List.setIfInBounds_toArray, List.set_cons_zero, List.set_cons_succ, i64_w, i32_w]; rfl
              refine pure_ (i := 16) (N := some 105) (v := ?_) (a' := ?_) #[Y',Y',Y',Y',Y',Y',Y',Y',Y',Y',Y',Y',Y',Y',Y',Y',Y',Z',Z',Z',Z',Z',Z',Z',Z',Z',Z',Z',Z',Z',Z',Z',Z',Z'] rfl rfl (any_of HT_.out (by kernel_rfl)) (fun _ _ _ h => h) (Or.inl ⟨by rfl, ?_⟩) ?_ ?_; rotate_left
              ·
               intro w'
               go_simp
               with_reducible rfl
              rotate_left
              ·
               simp only [Act.put, List.setIfInBounds_toArray, List.set_cons_zero, List.set_cons_succ, i64_w, i32_w]; rfl
              refine take_ (i := 17) (N := some 106) (v := ?_) (a' := ?_) #[Y',Y',Y',Y',Y',Y',Y',Y',Y',Y',Y',Y',Y',Y',Y',Y',Y',Y',Z',Z',Z',Z',Z',Z',Z',Z',Z',Z',Z',Z',Z',Z',Z',Z'] rfl rfl (take_ofW HT_.out HW_.out (by kernel_rfl)) (fun _ _ _ h => h) (Or.inl ⟨by rfl, ?_⟩) hHeld ?_ ?_; rotate_left
              ·
               rintro w' ⟨s0, s1, s2, s3, s4, s5, s6, s7, s8, s9, s10, s11, s12, s13, s14, s15, s16⟩
               go_simp
               with_reducible rfl
              rotate_left
              ·
               simp only [Act.put, List.setIfInBounds_toArray, List.set_cons_zero, List.set_cons_succ, i64_w, i32_w]; rfl
              refine pure_ (i := 18) (N := some 107) (v := ?_) (a' := ?_) #[Y',Y',Y',Y',Y',Y',Y',Y',Y',Y',Y',Y',Y',Y',Y',Y',Y',Y',Y',Z',Z',Z',Z',Z',Z',Z',Z',Z',Z',Z',Z',Z',Z',Z'] rfl rfl (any_of HT_.out (by kernel_rfl)) (fun _ _ _ h => h) (Or.inl ⟨by rfl, ?_⟩) ?_ ?_; rotate_left
              ·
               intro w'
               go_simp
               with_reducible rfl
              rotate_left
              ·
               simp only [Act.put, List.setIfInBounds_toArray, List.set_cons_zero, List.set_cons_succ, i64_w, i32_w]; rfl
              refine pure_ (i := 19) (N := some 108) (v := ?_) (a' := ?_) #[Y',Y',Y',Y',Y',Y',Y',Y',Y',Y',Y',Y',Y',Y',Y',Y',Y',Y',Y',Y',Z',Z',Z',Z',Z',Z',Z',Z',Z',Z',Z',Z',Z',Z'] rfl rfl (any_of HT_.out (by kernel_rfl)) (fun _ _ _ h => h) (Or.inl ⟨by rfl, ?_⟩) ?_ ?_; rotate_left
              ·
               intro w'
               go_simp
               with_reducible rfl
              rotate_left
              ·
               simp only [Act.put, List.setIfInBounds_toArray, List.set_cons_zero, List.set_cons_succ, i64_w, i32_w]; rfl
              refine pure_ (i := 20) (N := some 109) (v := ?_) (a' := ?_) #[Y',Y',Y',Y',Y',Y',Y',Y',Y',Y',Y',Y',Y',Y',Y',Y',Y',Y',Y',Y',Y',Z',Z',Z',Z',Z',Z',Z',Z',Z',Z',Z',Z',Z'] rfl rfl (any_of HT_.out (by kernel_rfl)) (fun _ _ _ h => h) (Or.inl ⟨by rfl, ?_⟩) ?_ ?_; rotate_left
              ·
               intro w'
               go_simp
               with_reducible rfl
              rotate_left
              ·
               simp only [Act.put, List.setIfInBounds_toArray, List.set_cons_zero, List.set_cons_succ, i64_w, i32_w]; rfl
              refine pure_ (i := 21) (N := some 110) (v := ?_) (a' := ?_) #[Y',Y',Y',Y',Y',Y',Y',Y',Y',Y',Y',Y',Y',Y',Y',Y',Y',Y',Y',Y',Y',Y',Z',Z',Z',Z',Z',Z',Z',Z',Z',Z',Z',Z'] rfl rfl (any_of HT_.out (by kernel_rfl)) (fun _ _ _ h => h) (Or.inl ⟨by rfl, ?_⟩) ?_ ?_; rotate_left
              ·
               intro w'
               go_simp
               with_reducible rfl
              rotate_left
              ·
               simp only [Act.put, List.setIfInBounds_toArray, List.set_cons_zero, List.set_cons_succ, i64_w, i32_w]; rfl
              refine pure_ (i := 23) (N := some 112) (v := ?_) (a' := ?_) #[Y',Y',Y',Y',Y',Y',Y',Y',Y',Y',Y',Y',Y',Y',Y',Y',Y',Y',Y',Y',Y',Y',Z',Y',Z',Z',Z',Z',Z',Z',Z',Z',Z',Z'] rfl rfl (any_of HT_.out (by kernel_rfl)) (fun _ _ _ h => h) (Or.inl ⟨by rfl, ?_⟩) ?_ ?_; rotate_left
              ·
               intro w'
               go_simp
               with_reducible rfl
              rotate_left
              ·
               simp only [Act.put, List.setIfInBounds_toArray, List.set_cons_zero, List.set_cons_succ, i64_w, i32_w]; rfl
              refine pure_ (i := 24) (N := some 113) (v := ?_) (a' := ?_) #[Y',Y',Y',Y',Y',Y',Y',Y',Y',Y',Y',Y',Y',Y',Y',Y',Y',Y',Y',Y',Y',Y',Z',Y',Y',Z',Z',Z',Z',Z',Z',Z',Z',Z'] rfl rfl (any_of HT_.out (by kernel_rfl)) (fun _ _ _ h => h) (Or.inl ⟨by rfl, ?_⟩) ?_ ?_; rotate_left
              ·
               intro w'
               go_simp
               with_reducible rfl
              rotate_left
              ·
               simp only [Act.put, List.setIfInBounds_toArray, List.set_cons_zero, List.set_cons_succ, i64_w, i32_w]; rfl
              refine take_ (i := 22) (N := some 111) (v := ?_) (a' := ?_) #[Y',Y',Y',Y',Y',Y',Y',Y',Y',Y',Y',Y',Y',Y',Y',Y',Y',Y',Y',Y',Y',Y',Y',Y',Y',Z',Z',Z',Z',Z',Z',Z',Z',Z'] rfl rfl (take_ofW HT_.out HW_.out (by kernel_rfl)) (fun _ _ _ h => h) (Or.inl ⟨by rfl, ?_⟩) hHeld ?_ ?_; rotate_left
              ·
               rintro w' ⟨s0, s1, s2, s3, s4, s5, s6, s7, s8, s9, s10, s11, s12, s13, s14, s15, s16⟩
               go_simp
               with_reducible rfl
              rotate_left
              ·
               simp only [Act.put, List.setIfInBounds_toArray, List.set_cons_zero, List.set_cons_succ, i64_w, i32_w]; rfl
              refine take_ (i := 25) (N := some 114) (v := ?_) (a' := ?_) #[Y',Y',Y',Y',Y',Y',Y',Y',Y',Y',Y',Y',Y',Y',Y',Y',Y',Y',Y',Y',Y',Y',Y',Y',Y',Y',Z',Z',Z',Z',Z',Z',Z',Z'] rfl rfl (take_ofW HT_.out HW_.out (by kernel_rfl)) (fun _ _ _ h => h) (Or.inl ⟨by rfl, ?_⟩) hHeld ?_ ?_; rotate_left
              ·
               rintro w' ⟨s0, s1, s2, s3, s4, s5, s6, s7, s8, s9, s10, s11, s12, s13, s14, s15, s16⟩
               go_simp
               with_reducible rfl
              rotate_left
              ·
               simp only [Act.put, List.setIfInBounds_toArray, List.set_cons_zero, List.set_cons_succ, i64_w, i32_w]; rfl
              refine one_ (i := 26) (N := some 115) #[Y',Y',Y',Y',Y',Y',Y',Y',Y',Y',Y',Y',Y',Y',Y',Y',Y',Y',Y',Y',Y',Y',Y',Y',Y',Y',Y',Z',Z',Z',Z',Z',Z',Z'] rfl rfl (one_of HT_.out (by kernel_rfl)) (by decide) (fun K hK => ?_); refine goes_ Try.func26 (by kernel_rfl) rfl #[.slice Ao37 t448.length co37, .int .i64 t453] (by rfl) rfl rfl args_a ?_
              with_reducible refine (spec_FindClaim.calls kj56 _ _ t448 t453 t497 t498 t501 _ ?side1 ?side2 A80.out).mono ?_
              (case side1 => repeat (first | exact (Kd.R_reads' HO_9.out).2.2 | (with_reducible refine Kd.C_alloc ?_ _) | (with_reducible refine Kd.C_drewN ?_ _) | (with_reducible refine Kd.C_drew ?_))); (case side2 => exact (Kd.R_reads' HO_9.out).2.1); rintro e w84 ⟨v499, rfl, ho0, hb⟩; refine ⟨_, rfl, ?_⟩; have n0_ := Aside0.mk (Kd.R_elder' (R_a HO_9.out) (Kd.R_base ho0) hb); have HO500 := Aside0.mk (Kd.R_lower (Kd.R_newB (Kd.R_newB (Kd.R_new' ho0 (Kd.R_lt (R_a HO_9.out))) (g := gb428) blk_c) (g := gb429) blk_c) (below_size below_a)); replace BK428 := Aside0.mk (blk_below (g := gb428) blk_c hb); replace BK429 := Aside0.mk (blk_below (g := gb429) blk_c hb); replace BK436 := Aside0.mk (blk_below (g := gb436) blk_c hb); replace BK447 := Aside0.mk (blk_below (g := gb447) blk_c hb); replace BK458 := Aside0.mk (blk_below (g := gb458) blk_c hb); replace BK465 := Aside0.mk (blk_below (g := gb465) blk_c hb); replace HB := Aside0.mk (below_step below_a hb); replace HO_9 := n0_; clear n0_; (try clear hb); (try clear hb2); (try clear hk); (try clear hi); (try clear ho0); obtain ⟨Ao85, co85, eo85⟩ := Kd.R_slice HO500.out; (first | subst eo85 | (injection eo85 with f1_ f2_ f3_; have f4_ := f1_.symm; have f5_ := f3_.symm; clear f1_ f2_ f3_; subst f4_; subst f5_)); have p502 : 0 ≤ (0 : Int) := (by omega); have q502 : 0 < (t498.length : Int) := of_decide_eq_true (by first | (with_reducible assumption) | assumption); obtain ⟨ad502, e502, hx502_0, hx502_1, hx502_2, hx502_3⟩ := at_T51 (Kd.R_reads' HO500.out).2.2 0 p502 q502
              cases e502
              have qi502 : (0 < t498.length) = True := eq_true (by omega); (try rw [show ((0 : Int)).toNat = 0 from rfl] at hx502_0); (try rw [show 0 * 4 = 0 from rfl] at hx502_0); (try rw [Addr.add_zero'] at hx502_0); (try rw [show ((0 : Int)).toNat = 0 from rfl] at hx502_1); (try rw [show 0 * 4 = 0 from rfl] at hx502_1); (try rw [Addr.add_zero'] at hx502_1); (try rw [show ((0 : Int)).toNat = 0 from rfl] at hx502_2); (try rw [show 0 * 4 = 0 from rfl] at hx502_2); (try rw [Addr.add_zero'] at hx502_2); (try rw [show ((0 : Int)).toNat = 0 from rfl] at hx502_3); (try rw [show 0 * 4 = 0 from rfl] at hx502_3); (try rw [Addr.add_zero'] at hx502_3); replace p502 := eq_true p502; replace q502 := eq_true q502; refine hK.out _ _ ⟨(blk_cell BK465.out 0).trans rfl, (blk_cell BK465.out 1).trans rfl, (blk_cell BK465.out 2).trans rfl, (blk_cell BK465.out 3).trans rfl, (blk_cell BK465.out 4).trans rfl, (blk_cell BK465.out 5).trans rfl, (blk_cell BK458.out 0).trans rfl, (blk_cell BK458.out 1).trans rfl, (blk_cell BK458.out 2).trans rfl, (blk_cell BK458.out 3).trans rfl, (blk_cell BK458.out 4).trans rfl, (blk_cell BK458.out 5).trans rfl, (blk_cell BK458.out 6).trans rfl, trivial⟩ (fun hHeld => ?_); refine weak_ (S' := fun w' => w'.cell? ⟨gb465, 0, none⟩ = some (.int .i64 t459) ∧ w'.cell? ⟨gb465, 1, none⟩ = some (.int .i64 t460) ∧ w'.cell? ⟨gb465, 2, none⟩ = some (.int .i64 t461) ∧ w'.cell? ⟨gb465, 3, none⟩ = some (.int .i64 t462) ∧ w'.cell? ⟨gb465, 4, none⟩ = some (.int .i64 t463) ∧ w'.cell? ⟨gb465, 5, none⟩ = some (.bool true) ∧ w'.cell? ⟨gb458, 0, none⟩ = some (.int .i64 t451) ∧ w'.cell? ⟨gb458, 1, none⟩ = some (.int .i64 t452) ∧ w'.cell? ⟨gb458, 2, none⟩ = some (.int .i64 t453) ∧ w'.cell? ⟨gb458, 3, none⟩ = some (.int .i64 t454) ∧ w'.cell? ⟨gb458, 4, none⟩ = some (.int .i64 t455) ∧ w'.cell? ⟨gb458, 5, none⟩ = some (.int .i64 t456) ∧ w'.cell? ⟨gb458, 6, none⟩ = some (.int .i64 t457) ∧ w'.cell? ad502 = some (.int .i64 ((rd_T51 t498 0).f0)) ∧ w'.cell? ⟨ad502.block, ad502.off + 1, none⟩ = some (.int .i64 ((rd_T51 t498 0).f1)) ∧ w'.cell? ⟨ad502.block, ad502.off + 2, none⟩ = some (.int .i64 ((rd_T51 t498 0).f2)) ∧ w'.cell? ⟨ad502.block, ad502.off + 3, none⟩ = some (.int .i64 ((rd_T51 t498 0).f3)) ∧ True) ⟨hHeld.1, hHeld.2.1, hHeld.2.2.1, hHeld.2.2.2.1, hHeld.2.2.2.2.1, hHeld.2.2.2.2.2.1, hHeld.2.2.2.2.2.2.1, hHeld.2.2.2.2.2.2.2.1, hHeld.2.2.2.2.2.2.2.2.1, hHeld.2.2.2.2.2.2.2.2.2.1, hHeld.2.2.2.2.2.2.2.2.2.2.1, hHeld.2.2.2.2.2.2.2.2.2.2.2.1, hHeld.2.2.2.2.2.2.2.2.2.2.2.2.1, hx502_0, hx502_1, hx502_2, hx502_3, trivial⟩ (fun _ h => ⟨h.1, h.2.1, h.2.2.1, h.2.2.2.1, h.2.2.2.2.1, h.2.2.2.2.2.1, h.2.2.2.2.2.2.1, h.2.2.2.2.2.2.2.1, h.2.2.2.2.2.2.2.2.1, h.2.2.2.2.2.2.2.2.2.1, h.2.2.2.2.2.2.2.2.2.2.1, h.2.2.2.2.2.2.2.2.2.2.2.1, h.2.2.2.2.2.2.2.2.2.2.2.2.1, trivial⟩) (fun hHeld => ?_); clear hK K; refine norm_ (a' := ?_) ?_ ?_; rotate_left
              ·
               show Act.put _ (some 115) _ = _; simp only [Act.put, List.setIfInBounds_toArray, List.set_cons_zero, List.set_cons_succ, i64_w, i32_w]; rfl
              refine pure_ (i := 27) (N := some 116) (v := ?_) (a' := ?_) #[Y',Y',Y',Y',Y',Y',Y',Y',Y',Y',Y',Y',Y',Y',Y',Y',Y',Y',Y',Y',Y',Y',Y',Y',Y',Y',Y',Y',Z',Z',Z',Z',Z',Z'] rfl rfl (any_of HT_.out (by kernel_rfl)) (fun _ _ _ h => h) (Or.inl ⟨by rfl, ?_⟩) ?_ ?_; rotate_left
              ·
               intro w'
               go_simp
               with_reducible rfl
              rotate_left
              ·
               simp only [Act.put, List.setIfInBounds_toArray, List.set_cons_zero, List.set_cons_succ, i64_w, i32_w]; rfl
              refine pure_ (i := 28) (N := some 117) (v := ?_) (a' := ?_) #[Y',Y',Y',Y',Y',Y',Y',Y',Y',Y',Y',Y',Y',Y',Y',Y',Y',Y',Y',Y',Y',Y',Y',Y',Y',Y',Y',Y',Y',Z',Z',Z',Z',Z'] rfl rfl (any_of HT_.out (by kernel_rfl)) (fun _ _ _ h => h) (Or.inl ⟨by rfl, ?_⟩) ?_ ?_; rotate_left
              ·
               intro w'
               go_simp
               with_reducible rfl
              rotate_left
              ·
               simp only [Act.put, List.setIfInBounds_toArray, List.set_cons_zero, List.set_cons_succ, i64_w, i32_w]; rfl
              refine take_ (i := 29) (N := some 118) (v := ?_) (a' := ?_) #[Y',Y',Y',Y',Y',Y',Y',Y',Y',Y',Y',Y',Y',Y',Y',Y',Y',Y',Y',Y',Y',Y',Y',Y',Y',Y',Y',Y',Y',Y',Z',Z',Z',Z'] rfl rfl (take_ofW HT_.out HW_.out (by kernel_rfl)) (fun _ _ _ h => h) (Or.inl ⟨by rfl, ?_⟩) hHeld ?_ ?_; rotate_left
              ·
               rintro w' ⟨s0, s1, s2, s3, s4, s5, s6, s7, s8, s9, s10, s11, s12, s13, s14, s15, s16⟩
               go_simp
               with_reducible rfl
              rotate_left
              ·
               simp only [Act.put, List.setIfInBounds_toArray, List.set_cons_zero, List.set_cons_succ, i64_w, i32_w]; rfl
              refine one_ (i := 30) (N := some 119) #[Y',Y',Y',Y',Y',Y',Y',Y',Y',Y',Y',Y',Y',Y',Y',Y',Y',Y',Y',Y',Y',Y',Y',Y',Y',Y',Y',Y',Y',Y',Y',Z',Z',Z'] rfl rfl (one_of HT_.out (by kernel_rfl)) (by decide) (fun K hK => ?_); refine goes_ Try.func44 (by kernel_rfl) rfl #[.agg #[.int .i64 t460, .int .i64 t461, .int .i64 t462, .int .i64 t463], .agg #[.int .i64 ((rd_T51 t498 0).f0), .int .i64 ((rd_T51 t498 0).f1), .int .i64 ((rd_T51 t498 0).f2), .int .i64 ((rd_T51 t498 0).f3)]] (by rfl) rfl rfl args_a ?_
              with_reducible refine (impl_Beats.calls t460 t461 t462 t463 ((rd_T51 t498 0).f0) ((rd_T51 t498 0).f1) ((rd_T51 t498 0).f2) ((rd_T51 t498 0).f3) t503 _ A82.out).mono ?_
              rintro e w86 ⟨rfl, hb⟩; have HS13_ := (hb.cell (World.block_lt_of_cell? _ _ (hHeld.2.2.2.2.2.2.2.2.2.2.2.2.2.1))).trans (hHeld.2.2.2.2.2.2.2.2.2.2.2.2.2.1); have HS14_ := (hb.cell (World.block_lt_of_cell? _ _ (hHeld.2.2.2.2.2.2.2.2.2.2.2.2.2.2.1))).trans (hHeld.2.2.2.2.2.2.2.2.2.2.2.2.2.2.1); have HS15_ := (hb.cell (World.block_lt_of_cell? _ _ (hHeld.2.2.2.2.2.2.2.2.2.2.2.2.2.2.2.1))).trans (hHeld.2.2.2.2.2.2.2.2.2.2.2.2.2.2.2.1); have HS16_ := (hb.cell (World.block_lt_of_cell? _ _ (hHeld.2.2.2.2.2.2.2.2.2.2.2.2.2.2.2.2.1))).trans (hHeld.2.2.2.2.2.2.2.2.2.2.2.2.2.2.2.2.1); refine ⟨_, rfl, ?_⟩; replace HO_9 := Aside0.mk (Kd.R_below (R_a HO_9.out) hb); replace HO500 := Aside0.mk (Kd.R_below (R_a HO500.out) hb); replace BK428 := Aside0.mk (blk_below (g := gb428) blk_c hb); replace BK429 := Aside0.mk (blk_below (g := gb429) blk_c hb); replace BK436 := Aside0.mk (blk_below (g := gb436) blk_c hb); replace BK447 := Aside0.mk (blk_below (g := gb447) blk_c hb); replace BK458 := Aside0.mk (blk_below (g := gb458) blk_c hb); replace BK465 := Aside0.mk (blk_below (g := gb465) blk_c hb); replace HB := Aside0.mk (below_step below_a hb); (try clear hb); (try clear hb2); (try clear hk); (try clear hi); refine hK.out _ _ ⟨(blk_cell BK465.out 0).trans rfl, (blk_cell BK465.out 1).trans rfl, (blk_cell BK465.out 2).trans rfl, (blk_cell BK465.out 3).trans rfl, (blk_cell BK465.out 4).trans rfl, (blk_cell BK465.out 5).trans rfl, (blk_cell BK458.out 0).trans rfl, (blk_cell BK458.out 1).trans rfl, (blk_cell BK458.out 2).trans rfl, (blk_cell BK458.out 3).trans rfl, (blk_cell BK458.out 4).trans rfl, (blk_cell BK458.out 5).trans rfl, (blk_cell BK458.out 6).trans rfl, HS13_, HS14_, HS15_, HS16_, trivial⟩ (fun hHeld => ?_); clear hK K; refine norm_ (a' := ?_) ?_ ?_; rotate_left
              ·
               show Act.put _ (some 119) _ = _; simp only [Act.put, List.setIfInBounds_toArray, List.set_cons_zero, List.set_cons_succ, i64_w, i32_w]; rfl
              refine pure_ (i := 31) (N := some 120) (v := ?_) (a' := ?_) #[Y',Y',Y',Y',Y',Y',Y',Y',Y',Y',Y',Y',Y',Y',Y',Y',Y',Y',Y',Y',Y',Y',Y',Y',Y',Y',Y',Y',Y',Y',Y',Y',Z',Z'] rfl rfl (any_of HT_.out (by kernel_rfl)) (fun _ _ _ h => h) (Or.inl ⟨by rfl, ?_⟩) ?_ ?_; rotate_left
              ·
               intro w'
               go_simp
               with_reducible rfl
              rotate_left
              ·
               simp only [Act.put, List.setIfInBounds_toArray, List.set_cons_zero, List.set_cons_succ, i64_w, i32_w]; rfl
              refine pure_ (i := 32) (N := some 121) (v := ?_) (a' := ?_) #[Y',Y',Y',Y',Y',Y',Y',Y',Y',Y',Y',Y',Y',Y',Y',Y',Y',Y',Y',Y',Y',Y',Y',Y',Y',Y',Y',Y',Y',Y',Y',Y',Y',Z'] rfl rfl (any_of HT_.out (by kernel_rfl)) (fun _ _ _ h => h) (Or.inl ⟨by rfl, ?_⟩) ?_ ?_; rotate_left
              ·
               intro w'
               go_simp
               with_reducible rfl
              rotate_left
              ·
               simp only [Act.put, List.setIfInBounds_toArray, List.set_cons_zero, List.set_cons_succ, i64_w, i32_w]; rfl
              refine pure_ (i := 33) (N := some 122) (v := ?_) (a' := ?_) #[Y',Y',Y',Y',Y',Y',Y',Y',Y',Y',Y',Y',Y',Y',Y',Y',Y',Y',Y',Y',Y',Y',Y',Y',Y',Y',Y',Y',Y',Y',Y',Y',Y',Y'] rfl rfl (any_of HT_.out (by kernel_rfl)) (fun _ _ _ h => h) (Or.inl ⟨by rfl, ?_⟩) ?_ ?_; rotate_left
              ·
               intro w'
               go_simp
               with_reducible rfl
              rotate_left
              ·
               simp only [Act.put, List.setIfInBounds_toArray, List.set_cons_zero, List.set_cons_succ, i64_w, i32_w]; rfl
              refine done_ (done_of HT_.out (by kernel_rfl)) ?_
              try go_wp2
              go_meet
              case rel => exact ⟨_, (!t503), eq_b, H', ⟨by have := HJ9.out; have := HJ56.out; first | omega | exact Nat.le_refl _⟩, ⟨blk_a⟩, ⟨blk_a⟩, ⟨blk_a⟩, ⟨blk_a⟩, ⟨blk_a⟩, ⟨blk_a⟩, ⟨below_a⟩⟩
             ·
              rw [if_neg c81] at H; exact absurd H (by simp)
            ·
             rw [if_neg c79] at H; exact absurd H (by simp)
           ·
            rw [if_neg c78] at H; exact absurd H (by simp)
          ·
           replace c77 := Bool.eq_false_iff.mpr c77; subst c77; have H1 : (laws_FnDecides.j2 kj56 false t420 t421 t422 t423 t424 t425 t426 t427 t430 t431 t432 t433 t434 t435) = some r := by rw [if_neg (show ¬ (false = true) by decide)] at H; exact H
           clear H; have H := H1; clear H1; have H' := Aside0.mk H; clear H
           try go_wp2
           replace HO_9 := Aside0.mk (Kd.R_drew HO_9.out); replace BK428 := Aside0.mk (blk_drew BK428.out); replace BK429 := Aside0.mk (blk_drew BK429.out); replace BK436 := Aside0.mk (blk_drew BK436.out); replace BK447 := Aside0.mk (blk_drew BK447.out); replace BK458 := Aside0.mk (blk_drew BK458.out); replace BK465 := Aside0.mk (blk_drew BK465.out); replace HB := Aside0.mk (below_drew1 HB.out); refine start_ (n := 34) (S := fun w' => w'.cell? ⟨gb465, 0, none⟩ = some (.int .i64 t459) ∧ w'.cell? ⟨gb465, 1, none⟩ = some (.int .i64 t460) ∧ w'.cell? ⟨gb465, 2, none⟩ = some (.int .i64 t461) ∧ w'.cell? ⟨gb465, 3, none⟩ = some (.int .i64 t462) ∧ w'.cell? ⟨gb465, 4, none⟩ = some (.int .i64 t463) ∧ w'.cell? ⟨gb465, 5, none⟩ = some (.bool false)) (ds := []) #[Z',Z',Z',Z',Z',Z',Z',Z',Z',Z',Z',Z',Z',Z',Z',Z',Z',Z',Z',Z',Z',Z',Z',Z',Z',Z',Z',Z',Z',Z',Z',Z',Z',Z'] (by kernel_rfl) rfl rfl ⟨(blk_cell BK465.out 0).trans rfl, (blk_cell BK465.out 1).trans rfl, (blk_cell BK465.out 2).trans rfl, (blk_cell BK465.out 3).trans rfl, (blk_cell BK465.out 4).trans rfl, (blk_cell BK465.out 5).trans rfl⟩ (fun hHeld => ?_); refine with_tabW laws_FnDecides.tab13 laws_FnDecides.bits13 (fun HT_ HW_ => ?_); generalize wc.drew = w87 at HO_9 BK428 BK429 BK436 BK447 BK458 BK465 HB hHeld ⊢; refine pure_ (i := 0) (N := some 89) (v := ?_) (a' := ?_) #[Y',Z',Z',Z',Z',Z',Z',Z',Z',Z',Z',Z',Z',Z',Z',Z',Z',Z',Z',Z',Z',Z',Z',Z',Z',Z',Z',Z',Z',Z',Z',Z',Z',Z'] rfl rfl (any_of HT_.out (by kernel_rfl)) (fun _ _ _ h => h) (Or.inl ⟨by rfl, ?_⟩) ?_ ?_; rotate_left
           ·
            intro w'
            go_simp
            with_reducible rfl
           rotate_left
           ·
            simp only [Act.put, List.setIfInBounds_toArray, List.set_cons_zero, List.set_cons_succ, i64_w, i32_w]; rfl
           refine take_ (i := 1) (N := some 90) (v := ?_) (a' := ?_) #[Y',Y',Z',Z',Z',Z',Z',Z',Z',Z',Z',Z',Z',Z',Z',Z',Z',Z',Z',Z',Z',Z',Z',Z',Z',Z',Z',Z',Z',Z',Z',Z',Z',Z'] rfl rfl (take_ofW HT_.out HW_.out (by kernel_rfl)) (fun _ _ _ h => h) (Or.inl ⟨by rfl, ?_⟩) hHeld ?_ ?_; rotate_left
           ·
            rintro w' ⟨s0, s1, s2, s3, s4, s5⟩
            go_simp
            with_reducible rfl
           rotate_left
           ·
            simp only [Act.put, List.setIfInBounds_toArray, List.set_cons_zero, List.set_cons_succ, i64_w, i32_w]; rfl
           refine pure_ (i := 2) (N := some 91) (v := ?_) (a' := ?_) #[Y',Y',Y',Z',Z',Z',Z',Z',Z',Z',Z',Z',Z',Z',Z',Z',Z',Z',Z',Z',Z',Z',Z',Z',Z',Z',Z',Z',Z',Z',Z',Z',Z',Z'] rfl rfl (any_of HT_.out (by kernel_rfl)) (fun _ _ _ h => h) (Or.inl ⟨by rfl, ?_⟩) ?_ ?_; rotate_left
           ·
            intro w'
            go_simp
            with_reducible rfl
           rotate_left
           ·
            simp only [Act.put, List.setIfInBounds_toArray, List.set_cons_zero, List.set_cons_succ, i64_w, i32_w]; rfl
           refine pure_ (i := 3) (N := some 92) (v := ?_) (a' := ?_) #[Y',Y',Y',Y',Z',Z',Z',Z',Z',Z',Z',Z',Z',Z',Z',Z',Z',Z',Z',Z',Z',Z',Z',Z',Z',Z',Z',Z',Z',Z',Z',Z',Z',Z'] rfl rfl (any_of HT_.out (by kernel_rfl)) (fun _ _ _ h => h) (Or.inl ⟨by rfl, ?_⟩) ?_ ?_; rotate_left
           ·
            intro w'
            go_simp
            with_reducible rfl
           rotate_left
           ·
            simp only [Act.put, List.setIfInBounds_toArray, List.set_cons_zero, List.set_cons_succ, i64_w, i32_w]; rfl
           refine pure_ (i := 4) (N := some 93) (v := ?_) (a' := ?_) #[Y',Y',Y',Y',Y',Z',Z',Z',Z',Z',Z',Z',Z',Z',Z',Z',Z',Z',Z',Z',Z',Z',Z',Z',Z',Z',Z',Z',Z',Z',Z',Z',Z',Z'] rfl rfl (any_of HT_.out (by kernel_rfl)) (fun _ _ _ h => h) (Or.inl ⟨by rfl, ?_⟩) ?_ ?_; rotate_left
           ·
            intro w'
            go_simp
            with_reducible rfl
           rotate_left
           ·
            simp only [Act.put, List.setIfInBounds_toArray, List.set_cons_zero, List.set_cons_succ, i64_w, i32_w]; rfl
           refine take_ (i := 5) (N := some 94) (v := ?_) (a' := ?_) #[Y',Y',Y',Y',Y',Y',Z',Z',Z',Z',Z',Z',Z',Z',Z',Z',Z',Z',Z',Z',Z',Z',Z',Z',Z',Z',Z',Z',Z',Z',Z',Z',Z',Z'] rfl rfl (take_ofW HT_.out HW_.out (by kernel_rfl)) (fun _ _ _ h => h) (Or.inl ⟨by rfl, ?_⟩) hHeld ?_ ?_; rotate_left
           ·
            rintro w' ⟨s0, s1, s2, s3, s4, s5⟩
            go_simp
            with_reducible rfl
           rotate_left
           ·
            simp only [Act.put, List.setIfInBounds_toArray, List.set_cons_zero, List.set_cons_succ, i64_w, i32_w]; rfl
           refine pure_ (i := 6) (N := some 95) (v := ?_) (a' := ?_) #[Y',Y',Y',Y',Y',Y',Y',Z',Z',Z',Z',Z',Z',Z',Z',Z',Z',Z',Z',Z',Z',Z',Z',Z',Z',Z',Z',Z',Z',Z',Z',Z',Z',Z'] rfl rfl (any_of HT_.out (by kernel_rfl)) (fun _ _ _ h => h) (Or.inl ⟨by rfl, ?_⟩) ?_ ?_; rotate_left
           ·
            intro w'
            go_simp
            with_reducible rfl
           rotate_left
           ·
            simp only [Act.put, List.setIfInBounds_toArray, List.set_cons_zero, List.set_cons_succ, i64_w, i32_w]; rfl
           refine pure_ (i := 7) (N := some 96) (v := ?_) (a' := ?_) #[Y',Y',Y',Y',Y',Y',Y',Y',Z',Z',Z',Z',Z',Z',Z',Z',Z',Z',Z',Z',Z',Z',Z',Z',Z',Z',Z',Z',Z',Z',Z',Z',Z',Z'] rfl rfl (any_of HT_.out (by kernel_rfl)) (fun _ _ _ h => h) (Or.inl ⟨by rfl, ?_⟩) ?_ ?_; rotate_left
           ·
            intro w'
            go_simp
            with_reducible rfl
           rotate_left
           ·
            simp only [Act.put, List.setIfInBounds_toArray, List.set_cons_zero, List.set_cons_succ, i64_w, i32_w]; rfl
           refine pure_ (i := 8) (N := some 97) (v := undef) (a' := ?_) #[Y',Y',Y',Y',Y',Y',Y',Y',Y',Z',Z',Z',Z',Z',Z',Z',Z',Z',Z',Z',Z',Z',Z',Z',Z',Z',Z',Z',Z',Z',Z',Z',Z',Z'] rfl rfl (any_of HT_.out (by kernel_rfl)) (fun _ _ _ h => h) (Or.inr ⟨by rfl, rfl⟩) ?_ ?_; rotate_left
           ·
            simp only [Act.put, List.setIfInBounds_toArray, List.set_cons_zero, List.set_cons_succ, i64_w, i32_w]; rfl
           refine pure_ (i := 9) (N := some 98) (v := undef) (a' := ?_) #[Y',Y',Y',Y',Y',Y',Y',Y',Y',Y',Z',Z',Z',Z',Z',Z',Z',Z',Z',Z',Z',Z',Z',Z',Z',Z',Z',Z',Z',Z',Z',Z',Z',Z'] rfl rfl (any_of HT_.out (by kernel_rfl)) (fun _ _ _ h => h) (Or.inr ⟨by rfl, rfl⟩) ?_ ?_; rotate_left
           ·
            simp only [Act.put, List.setIfInBounds_toArray, List.set_cons_zero, List.set_cons_succ, i64_w, i32_w]; rfl
           refine pure_ (i := 10) (N := some 99) (v := undef) (a' := ?_) #[Y',Y',Y',Y',Y',Y',Y',Y',Y',Y',Y',Z',Z',Z',Z',Z',Z',Z',Z',Z',Z',Z',Z',Z',Z',Z',Z',Z',Z',Z',Z',Z',Z',Z'] rfl rfl (any_of HT_.out (by kernel_rfl)) (fun _ _ _ h => h) (Or.inr ⟨by rfl, rfl⟩) ?_ ?_; rotate_left
           ·
            simp only [Act.put, List.setIfInBounds_toArray, List.set_cons_zero, List.set_cons_succ, i64_w, i32_w]; rfl
           refine pure_ (i := 11) (N := some 100) (v := undef) (a' := ?_) #[Y',Y',Y',Y',Y',Y',Y',Y',Y',Y',Y',Y',Z',Z',Z',Z',Z',Z',Z',Z',Z',Z',Z',Z',Z',Z',Z',Z',Z',Z',Z',Z',Z',Z'] rfl rfl (any_of HT_.out (by kernel_rfl)) (fun _ _ _ h => h) (Or.inr ⟨by rfl, rfl⟩) ?_ ?_; rotate_left
           ·
            simp only [Act.put, List.setIfInBounds_toArray, List.set_cons_zero, List.set_cons_succ, i64_w, i32_w]; rfl
           refine pure_ (i := 12) (N := some 101) (v := undef) (a' := ?_) #[Y',Y',Y',Y',Y',Y',Y',Y',Y',Y',Y',Y',Y',Z',Z',Z',Z',Z',Z',Z',Z',Z',Z',Z',Z',Z',Z',Z',Z',Z',Z',Z',Z',Z'] rfl rfl (any_of HT_.out (by kernel_rfl)) (fun _ _ _ h => h) (Or.inr ⟨by rfl, rfl⟩) ?_ ?_; rotate_left
           ·
            simp only [Act.put, List.setIfInBounds_toArray, List.set_cons_zero, List.set_cons_succ, i64_w, i32_w]; rfl
           refine pure_ (i := 13) (N := some 102) (v := undef) (a' := ?_) #[Y',Y',Y',Y',Y',Y',Y',Y',Y',Y',Y',Y',Y',Y',Z',Z',Z',Z',Z',Z',Z',Z',Z',Z',Z',Z',Z',Z',Z',Z',Z',Z',Z',Z'] rfl rfl (any_of HT_.out (by kernel_rfl)) (fun _ _ _ h => h) (Or.inr ⟨by rfl, rfl⟩) ?_ ?_; rotate_left
           ·
            simp only [Act.put, List.setIfInBounds_toArray, List.set_cons_zero, List.set_cons_succ, i64_w, i32_w]; rfl
           refine pure_ (i := 14) (N := some 103) (v := undef) (a' := ?_) #[Y',Y',Y',Y',Y',Y',Y',Y',Y',Y',Y',Y',Y',Y',Y',Z',Z',Z',Z',Z',Z',Z',Z',Z',Z',Z',Z',Z',Z',Z',Z',Z',Z',Z'] rfl rfl (any_of HT_.out (by kernel_rfl)) (fun _ _ _ h => h) (Or.inr ⟨by rfl, rfl⟩) ?_ ?_; rotate_left
           ·
            simp only [Act.put, List.setIfInBounds_toArray, List.set_cons_zero, List.set_cons_succ, i64_w, i32_w]; rfl
           refine pure_ (i := 15) (N := some 104) (v := undef) (a' := ?_) #[Y',Y',Y',Y',Y',Y',Y',Y',Y',Y',Y',Y',Y',Y',Y',Y',Z',Z',Z',Z',Z',Z',Z',Z',Z',Z',Z',Z',Z',Z',Z',Z',Z',Z'] rfl rfl (any_of HT_.out (by kernel_rfl)) (fun _ _ _ h => h) (Or.inr ⟨by rfl, rfl⟩) ?_ ?_; rotate_left
           ·
            simp only [Act.put, List.setIfInBounds_toArray, List.set_cons_zero, List.set_cons_succ, i64_w, i32_w]; rfl
           refine pure_ (i := 16) (N := some 105) (v := undef) (a' := ?_) #[Y',Y',Y',Y',Y',Y',Y',Y',Y',Y',Y',Y',Y',Y',Y',Y',Y',Z',Z',Z',Z',Z',Z',Z',Z',Z',Z',Z',Z',Z',Z',Z',Z',Z'] rfl rfl (any_of HT_.out (by kernel_rfl)) (fun _ _ _ h => h) (Or.inr ⟨by rfl, rfl⟩) ?_ ?_; rotate_left
           ·
            simp only [Act.put, List.setIfInBounds_toArray, List.set_cons_zero, List.set_cons_succ, i64_w, i32_w]; rfl
           refine pure_ (i := 17) (N := some 106) (v := undef) (a' := ?_) #[Y',Y',Y',Y',Y',Y',Y',Y',Y',Y',Y',Y',Y',Y',Y',Y',Y',Y',Z',Z',Z',Z',Z',Z',Z',Z',Z',Z',Z',Z',Z',Z',Z',Z'] rfl rfl (any_of HT_.out (by kernel_rfl)) (fun _ _ _ h => h) (Or.inr ⟨by rfl, rfl⟩) ?_ ?_; rotate_left
           ·
            simp only [Act.put, List.setIfInBounds_toArray, List.set_cons_zero, List.set_cons_succ, i64_w, i32_w]; rfl
           refine pure_ (i := 18) (N := some 107) (v := undef) (a' := ?_) #[Y',Y',Y',Y',Y',Y',Y',Y',Y',Y',Y',Y',Y',Y',Y',Y',Y',Y',Y',Z',Z',Z',Z',Z',Z',Z',Z',Z',Z',Z',Z',Z',Z',Z'] rfl rfl (any_of HT_.out (by kernel_rfl)) (fun _ _ _ h => h) (Or.inr ⟨by rfl, rfl⟩) ?_ ?_; rotate_left
           ·
            simp only [Act.put, List.setIfInBounds_toArray, List.set_cons_zero, List.set_cons_succ, i64_w, i32_w]; rfl
           refine pure_ (i := 19) (N := some 108) (v := undef) (a' := ?_) #[Y',Y',Y',Y',Y',Y',Y',Y',Y',Y',Y',Y',Y',Y',Y',Y',Y',Y',Y',Y',Z',Z',Z',Z',Z',Z',Z',Z',Z',Z',Z',Z',Z',Z'] rfl rfl (any_of HT_.out (by kernel_rfl)) (fun _ _ _ h => h) (Or.inr ⟨by rfl, rfl⟩) ?_ ?_; rotate_left
           ·
            simp only [Act.put, List.setIfInBounds_toArray, List.set_cons_zero, List.set_cons_succ, i64_w, i32_w]; rfl
           refine pure_ (i := 20) (N := some 109) (v := undef) (a' := ?_) #[Y',Y',Y',Y',Y',Y',Y',Y',Y',Y',Y',Y',Y',Y',Y',Y',Y',Y',Y',Y',Y',Z',Z',Z',Z',Z',Z',Z',Z',Z',Z',Z',Z',Z'] rfl rfl (any_of HT_.out (by kernel_rfl)) (fun _ _ _ h => h) (Or.inr ⟨by rfl, rfl⟩) ?_ ?_; rotate_left
           ·
            simp only [Act.put, List.setIfInBounds_toArray, List.set_cons_zero, List.set_cons_succ, i64_w, i32_w]; rfl
           refine pure_ (i := 21) (N := some 110) (v := undef) (a' := ?_) #[Y',Y',Y',Y',Y',Y',Y',Y',Y',Y',Y',Y',Y',Y',Y',Y',Y',Y',Y',Y',Y',Y',Z',Z',Z',Z',Z',Z',Z',Z',Z',Z',Z',Z'] rfl rfl (any_of HT_.out (by kernel_rfl)) (fun _ _ _ h => h) (Or.inr ⟨by rfl, rfl⟩) ?_ ?_; rotate_left
           ·
            simp only [Act.put, List.setIfInBounds_toArray, List.set_cons_zero, List.set_cons_succ, i64_w, i32_w]; rfl
           refine pure_ (i := 22) (N := some 111) (v := undef) (a' := ?_) #[Y',Y',Y',Y',Y',Y',Y',Y',Y',Y',Y',Y',Y',Y',Y',Y',Y',Y',Y',Y',Y',Y',Y',Z',Z',Z',Z',Z',Z',Z',Z',Z',Z',Z'] rfl rfl (any_of HT_.out (by kernel_rfl)) (fun _ _ _ h => h) (Or.inr ⟨by rfl, rfl⟩) ?_ ?_; rotate_left
           ·
            simp only [Act.put, List.setIfInBounds_toArray, List.set_cons_zero, List.set_cons_succ, i64_w, i32_w]; rfl
           refine pure_ (i := 23) (N := some 112) (v := undef) (a' := ?_) #[Y',Y',Y',Y',Y',Y',Y',Y',Y',Y',Y',Y',Y',Y',Y',Y',Y',Y',Y',Y',Y',Y',Y',Y',Z',Z',Z',Z',Z',Z',Z',Z',Z',Z'] rfl rfl (any_of HT_.out (by kernel_rfl)) (fun _ _ _ h => h) (Or.inr ⟨by rfl, rfl⟩) ?_ ?_; rotate_left
           ·
            simp only [Act.put, List.setIfInBounds_toArray, List.set_cons_zero, List.set_cons_succ, i64_w, i32_w]; rfl
           refine pure_ (i := 24) (N := some 113) (v := undef) (a' := ?_) #[Y',Y',Y',Y',Y',Y',Y',Y',Y',Y',Y',Y',Y',Y',Y',Y',Y',Y',Y',Y',Y',Y',Y',Y',Y',Z',Z',Z',Z',Z',Z',Z',Z',Z'] rfl rfl (any_of HT_.out (by kernel_rfl)) (fun _ _ _ h => h) (Or.inr ⟨by rfl, rfl⟩) ?_ ?_; rotate_left
           ·
            simp only [Act.put, List.setIfInBounds_toArray, List.set_cons_zero, List.set_cons_succ, i64_w, i32_w]; rfl
           refine pure_ (i := 25) (N := some 114) (v := undef) (a' := ?_) #[Y',Y',Y',Y',Y',Y',Y',Y',Y',Y',Y',Y',Y',Y',Y',Y',Y',Y',Y',Y',Y',Y',Y',Y',Y',Y',Z',Z',Z',Z',Z',Z',Z',Z'] rfl rfl (any_of HT_.out (by kernel_rfl)) (fun _ _ _ h => h) (Or.inr ⟨by rfl, rfl⟩) ?_ ?_; rotate_left
           ·
            simp only [Act.put, List.setIfInBounds_toArray, List.set_cons_zero, List.set_cons_succ, i64_w, i32_w]; rfl
           refine pure_ (i := 26) (N := some 115) (v := undef) (a' := ?_) #[Y',Y',Y',Y',Y',Y',Y',Y',Y',Y',Y',Y',Y',Y',Y',Y',Y',Y',Y',Y',Y',Y',Y',Y',Y',Y',Y',Z',Z',Z',Z',Z',Z',Z'] rfl rfl (any_of HT_.out (by kernel_rfl)) (fun _ _ _ h => h) (Or.inr ⟨by rfl, rfl⟩) ?_ ?_; rotate_left
           ·
            simp only [Act.put, List.setIfInBounds_toArray, List.set_cons_zero, List.set_cons_succ, i64_w, i32_w]; rfl
           refine pure_ (i := 27) (N := some 116) (v := undef) (a' := ?_) #[Y',Y',Y',Y',Y',Y',Y',Y',Y',Y',Y',Y',Y',Y',Y',Y',Y',Y',Y',Y',Y',Y',Y',Y',Y',Y',Y',Y',Z',Z',Z',Z',Z',Z'] rfl rfl (any_of HT_.out (by kernel_rfl)) (fun _ _ _ h => h) (Or.inr ⟨by rfl, rfl⟩) ?_ ?_; rotate_left
           ·
            simp only [Act.put, List.setIfInBounds_toArray, List.set_cons_zero, List.set_cons_succ, i64_w, i32_w]; rfl
           refine pure_ (i := 28) (N := some 117) (v := undef) (a' := ?_) #[Y',Y',Y',Y',Y',Y',Y',Y',Y',Y',Y',Y',Y',Y',Y',Y',Y',Y',Y',Y',Y',Y',Y',Y',Y',Y',Y',Y',Y',Z',Z',Z',Z',Z'] rfl rfl (any_of HT_.out (by kernel_rfl)) (fun _ _ _ h => h) (Or.inr ⟨by rfl, rfl⟩) ?_ ?_; rotate_left
           ·
            simp only [Act.put, List.setIfInBounds_toArray, List.set_cons_zero, List.set_cons_succ, i64_w, i32_w]; rfl
           refine pure_ (i := 29) (N := some 118) (v := undef) (a' := ?_) #[Y',Y',Y',Y',Y',Y',Y',Y',Y',Y',Y',Y',Y',Y',Y',Y',Y',Y',Y',Y',Y',Y',Y',Y',Y',Y',Y',Y',Y',Y',Z',Z',Z',Z'] rfl rfl (any_of HT_.out (by kernel_rfl)) (fun _ _ _ h => h) (Or.inr ⟨by rfl, rfl⟩) ?_ ?_; rotate_left
           ·
            simp only [Act.put, List.setIfInBounds_toArray, List.set_cons_zero, List.set_cons_succ, i64_w, i32_w]; rfl
           refine pure_ (i := 30) (N := some 119) (v := undef) (a' := ?_) #[Y',Y',Y',Y',Y',Y',Y',Y',Y',Y',Y',Y',Y',Y',Y',Y',Y',Y',Y',Y',Y',Y',Y',Y',Y',Y',Y',Y',Y',Y',Y',Z',Z',Z'] rfl rfl (any_of HT_.out (by kernel_rfl)) (fun _ _ _ h => h) (Or.inr ⟨by rfl, rfl⟩) ?_ ?_; rotate_left
           ·
            simp only [Act.put, List.setIfInBounds_toArray, List.set_cons_zero, List.set_cons_succ, i64_w, i32_w]; rfl
           refine pure_ (i := 31) (N := some 120) (v := undef) (a' := ?_) #[Y',Y',Y',Y',Y',Y',Y',Y',Y',Y',Y',Y',Y',Y',Y',Y',Y',Y',Y',Y',Y',Y',Y',Y',Y',Y',Y',Y',Y',Y',Y',Y',Z',Z'] rfl rfl (any_of HT_.out (by kernel_rfl)) (fun _ _ _ h => h) (Or.inr ⟨by rfl, rfl⟩) ?_ ?_; rotate_left
           ·
            simp only [Act.put, List.setIfInBounds_toArray, List.set_cons_zero, List.set_cons_succ, i64_w, i32_w]; rfl
           refine pure_ (i := 32) (N := some 121) (v := undef) (a' := ?_) #[Y',Y',Y',Y',Y',Y',Y',Y',Y',Y',Y',Y',Y',Y',Y',Y',Y',Y',Y',Y',Y',Y',Y',Y',Y',Y',Y',Y',Y',Y',Y',Y',Y',Z'] rfl rfl (any_of HT_.out (by kernel_rfl)) (fun _ _ _ h => h) (Or.inr ⟨by rfl, rfl⟩) ?_ ?_; rotate_left
           ·
            simp only [Act.put, List.setIfInBounds_toArray, List.set_cons_zero, List.set_cons_succ, i64_w, i32_w]; rfl
           refine pure_ (i := 33) (N := some 122) (v := ?_) (a' := ?_) #[Y',Y',Y',Y',Y',Y',Y',Y',Y',Y',Y',Y',Y',Y',Y',Y',Y',Y',Y',Y',Y',Y',Y',Y',Y',Y',Y',Y',Y',Y',Y',Y',Y',Y'] rfl rfl (any_of HT_.out (by kernel_rfl)) (fun _ _ _ h => h) (Or.inl ⟨by rfl, ?_⟩) ?_ ?_; rotate_left
           ·
            intro w'
            go_simp
            with_reducible rfl
           rotate_left
           ·
            simp only [Act.put, List.setIfInBounds_toArray, List.set_cons_zero, List.set_cons_succ, i64_w, i32_w]; rfl
           refine done_ (done_of HT_.out (by kernel_rfl)) ?_
           try go_wp2
           go_meet
           case rel => exact ⟨_, (false), eq_b, H', ⟨by have := HJ9.out; have := HJ56.out; first | omega | exact Nat.le_refl _⟩, ⟨blk_a⟩, ⟨blk_a⟩, ⟨blk_a⟩, ⟨blk_a⟩, ⟨blk_a⟩, ⟨blk_a⟩, ⟨below_a⟩⟩
         ·
          rw [if_neg c76] at H; have c76b0 : (t459 == 0) = false := beq_eq_false_iff_ne.mpr c76; have c76b1 : (t459 != 0) = true := bne_iff_ne.mpr c76; (first | rw [c76b0] | (simp only [i64_w, i32_w]; rw [c76b0]) | skip); have H' := Aside0.mk H; clear H
          try go_wp2
          replace HO_9 := Aside0.mk (Kd.R_drew HO_9.out); replace BK428 := Aside0.mk (blk_drew BK428.out); replace BK429 := Aside0.mk (blk_drew BK429.out); replace BK436 := Aside0.mk (blk_drew BK436.out); replace BK447 := Aside0.mk (blk_drew BK447.out); replace BK458 := Aside0.mk (blk_drew BK458.out); replace BK465 := Aside0.mk (blk_drew BK465.out); replace HB := Aside0.mk (below_drew1 HB.out); refine start_ (n := 34) (S := fun w' => w'.cell? ⟨gb465, 0, none⟩ = some (.int .i64 t459) ∧ w'.cell? ⟨gb465, 1, none⟩ = some (.int .i64 t460) ∧ w'.cell? ⟨gb465, 2, none⟩ = some (.int .i64 t461) ∧ w'.cell? ⟨gb465, 3, none⟩ = some (.int .i64 t462) ∧ w'.cell? ⟨gb465, 4, none⟩ = some (.int .i64 t463) ∧ w'.cell? ⟨gb465, 5, none⟩ = some (.bool t464)) (ds := []) #[Z',Z',Z',Z',Z',Z',Z',Z',Z',Z',Z',Z',Z',Z',Z',Z',Z',Z',Z',Z',Z',Z',Z',Z',Z',Z',Z',Z',Z',Z',Z',Z',Z',Z'] (by kernel_rfl) rfl rfl ⟨(blk_cell BK465.out 0).trans rfl, (blk_cell BK465.out 1).trans rfl, (blk_cell BK465.out 2).trans rfl, (blk_cell BK465.out 3).trans rfl, (blk_cell BK465.out 4).trans rfl, (blk_cell BK465.out 5).trans rfl⟩ (fun hHeld => ?_); refine with_tabW laws_FnDecides.tab13 laws_FnDecides.bits13 (fun HT_ HW_ => ?_); generalize wc.drew = w88 at HO_9 BK428 BK429 BK436 BK447 BK458 BK465 HB hHeld ⊢; refine pure_ (i := 0) (N := some 89) (v := ?_) (a' := ?_) #[Y',Z',Z',Z',Z',Z',Z',Z',Z',Z',Z',Z',Z',Z',Z',Z',Z',Z',Z',Z',Z',Z',Z',Z',Z',Z',Z',Z',Z',Z',Z',Z',Z',Z'] rfl rfl (any_of HT_.out (by kernel_rfl)) (fun _ _ _ h => h) (Or.inl ⟨by rfl, ?_⟩) ?_ ?_; rotate_left
          ·
           intro w'
           go_simp
           with_reducible rfl
          rotate_left
          ·
           simp only [Act.put, List.setIfInBounds_toArray, List.set_cons_zero, List.set_cons_succ, i64_w, i32_w]; rfl
          refine take_ (i := 1) (N := some 90) (v := ?_) (a' := ?_) #[Y',Y',Z',Z',Z',Z',Z',Z',Z',Z',Z',Z',Z',Z',Z',Z',Z',Z',Z',Z',Z',Z',Z',Z',Z',Z',Z',Z',Z',Z',Z',Z',Z',Z'] rfl rfl (take_ofW HT_.out HW_.out (by kernel_rfl)) (fun _ _ _ h => h) (Or.inl ⟨by rfl, ?_⟩) hHeld ?_ ?_; rotate_left
          ·
           rintro w' ⟨s0, s1, s2, s3, s4, s5⟩
           go_simp
           with_reducible rfl
          rotate_left
          ·
           simp only [Act.put, List.setIfInBounds_toArray, List.set_cons_zero, List.set_cons_succ, i64_w, i32_w]; rfl
          refine pure_ (i := 2) (N := some 91) (v := ?_) (a' := ?_) #[Y',Y',Y',Z',Z',Z',Z',Z',Z',Z',Z',Z',Z',Z',Z',Z',Z',Z',Z',Z',Z',Z',Z',Z',Z',Z',Z',Z',Z',Z',Z',Z',Z',Z'] rfl rfl (any_of HT_.out (by kernel_rfl)) (fun _ _ _ h => h) (Or.inl ⟨by rfl, ?_⟩) ?_ ?_; rotate_left
          ·
           intro w'
           go_simp
           with_reducible rfl
          rotate_left
          ·
           simp only [Act.put, List.setIfInBounds_toArray, List.set_cons_zero, List.set_cons_succ, i64_w, i32_w]; rfl
          refine pure_ (i := 3) (N := some 92) (v := ?_) (a' := ?_) #[Y',Y',Y',Y',Z',Z',Z',Z',Z',Z',Z',Z',Z',Z',Z',Z',Z',Z',Z',Z',Z',Z',Z',Z',Z',Z',Z',Z',Z',Z',Z',Z',Z',Z'] rfl rfl (any_of HT_.out (by kernel_rfl)) (fun _ _ _ h => h) (Or.inl ⟨by rfl, ?_⟩) ?_ ?_; rotate_left
          ·
           intro w'
           go_simp
           with_reducible rfl
          rotate_left
          ·
           simp only [Act.put, List.setIfInBounds_toArray, List.set_cons_zero, List.set_cons_succ, i64_w, i32_w]; rfl
          refine pure_ (i := 4) (N := some 93) (v := undef) (a' := ?_) #[Y',Y',Y',Y',Y',Z',Z',Z',Z',Z',Z',Z',Z',Z',Z',Z',Z',Z',Z',Z',Z',Z',Z',Z',Z',Z',Z',Z',Z',Z',Z',Z',Z',Z'] rfl rfl (any_of HT_.out (by kernel_rfl)) (fun _ _ _ h => h) (Or.inr ⟨by rfl, rfl⟩) ?_ ?_; rotate_left
          ·
           simp only [Act.put, List.setIfInBounds_toArray, List.set_cons_zero, List.set_cons_succ, i64_w, i32_w]; rfl
          refine pure_ (i := 5) (N := some 94) (v := undef) (a' := ?_) #[Y',Y',Y',Y',Y',Y',Z',Z',Z',Z',Z',Z',Z',Z',Z',Z',Z',Z',Z',Z',Z',Z',Z',Z',Z',Z',Z',Z',Z',Z',Z',Z',Z',Z'] rfl rfl (any_of HT_.out (by kernel_rfl)) (fun _ _ _ h => h) (Or.inr ⟨by rfl, rfl⟩) ?_ ?_; rotate_left
          ·
           simp only [Act.put, List.setIfInBounds_toArray, List.set_cons_zero, List.set_cons_succ, i64_w, i32_w]; rfl
          refine pure_ (i := 6) (N := some 95) (v := ?_) (a' := ?_) #[Y',Y',Y',Y',Y',Y',Y',Z',Z',Z',Z',Z',Z',Z',Z',Z',Z',Z',Z',Z',Z',Z',Z',Z',Z',Z',Z',Z',Z',Z',Z',Z',Z',Z'] rfl rfl (any_of HT_.out (by kernel_rfl)) (fun _ _ _ h => h) (Or.inl ⟨by rfl, ?_⟩) ?_ ?_; rotate_left
          ·
           intro w'
           go_simp
           with_reducible rfl
          rotate_left
          ·
           simp only [Act.put, List.setIfInBounds_toArray, List.set_cons_zero, List.set_cons_succ, i64_w, i32_w]; rfl
          refine pure_ (i := 7) (N := some 96) (v := ?_) (a' := ?_) #[Y',Y',Y',Y',Y',Y',Y',Y',Z',Z',Z',Z',Z',Z',Z',Z',Z',Z',Z',Z',Z',Z',Z',Z',Z',Z',Z',Z',Z',Z',Z',Z',Z',Z'] rfl rfl (any_of HT_.out (by kernel_rfl)) (fun _ _ _ h => h) (Or.inl ⟨by rfl, ?_⟩) ?_ ?_; rotate_left
          ·
           intro w'
           go_simp
           with_reducible rfl
          rotate_left
          ·
           simp only [Act.put, List.setIfInBounds_toArray, List.set_cons_zero, List.set_cons_succ, i64_w, i32_w]; rfl
          refine pure_ (i := 8) (N := some 97) (v := undef) (a' := ?_) #[Y',Y',Y',Y',Y',Y',Y',Y',Y',Z',Z',Z',Z',Z',Z',Z',Z',Z',Z',Z',Z',Z',Z',Z',Z',Z',Z',Z',Z',Z',Z',Z',Z',Z'] rfl rfl (any_of HT_.out (by kernel_rfl)) (fun _ _ _ h => h) (Or.inr ⟨by rfl, rfl⟩) ?_ ?_; rotate_left
          ·
           simp only [Act.put, List.setIfInBounds_toArray, List.set_cons_zero, List.set_cons_succ, i64_w, i32_w]; rfl
          refine pure_ (i := 9) (N := some 98) (v := undef) (a' := ?_) #[Y',Y',Y',Y',Y',Y',Y',Y',Y',Y',Z',Z',Z',Z',Z',Z',Z',Z',Z',Z',Z',Z',Z',Z',Z',Z',Z',Z',Z',Z',Z',Z',Z',Z'] rfl rfl (any_of HT_.out (by kernel_rfl)) (fun _ _ _ h => h) (Or.inr ⟨by rfl, rfl⟩) ?_ ?_; rotate_left
          ·
           simp only [Act.put, List.setIfInBounds_toArray, List.set_cons_zero, List.set_cons_succ, i64_w, i32_w]; rfl
          refine pure_ (i := 10) (N := some 99) (v := undef) (a' := ?_) #[Y',Y',Y',Y',Y',Y',Y',Y',Y',Y',Y',Z',Z',Z',Z',Z',Z',Z',Z',Z',Z',Z',Z',Z',Z',Z',Z',Z',Z',Z',Z',Z',Z',Z'] rfl rfl (any_of HT_.out (by kernel_rfl)) (fun _ _ _ h => h) (Or.inr ⟨by rfl, rfl⟩) ?_ ?_; rotate_left
          ·
           simp only [Act.put, List.setIfInBounds_toArray, List.set_cons_zero, List.set_cons_succ, i64_w, i32_w]; rfl
          refine pure_ (i := 11) (N := some 100) (v := undef) (a' := ?_) #[Y',Y',Y',Y',Y',Y',Y',Y',Y',Y',Y',Y',Z',Z',Z',Z',Z',Z',Z',Z',Z',Z',Z',Z',Z',Z',Z',Z',Z',Z',Z',Z',Z',Z'] rfl rfl (any_of HT_.out (by kernel_rfl)) (fun _ _ _ h => h) (Or.inr ⟨by rfl, rfl⟩) ?_ ?_; rotate_left
          ·
           simp only [Act.put, List.setIfInBounds_toArray, List.set_cons_zero, List.set_cons_succ, i64_w, i32_w]; rfl
          refine pure_ (i := 12) (N := some 101) (v := undef) (a' := ?_) #[Y',Y',Y',Y',Y',Y',Y',Y',Y',Y',Y',Y',Y',Z',Z',Z',Z',Z',Z',Z',Z',Z',Z',Z',Z',Z',Z',Z',Z',Z',Z',Z',Z',Z'] rfl rfl (any_of HT_.out (by kernel_rfl)) (fun _ _ _ h => h) (Or.inr ⟨by rfl, rfl⟩) ?_ ?_; rotate_left
          ·
           simp only [Act.put, List.setIfInBounds_toArray, List.set_cons_zero, List.set_cons_succ, i64_w, i32_w]; rfl
          refine pure_ (i := 13) (N := some 102) (v := undef) (a' := ?_) #[Y',Y',Y',Y',Y',Y',Y',Y',Y',Y',Y',Y',Y',Y',Z',Z',Z',Z',Z',Z',Z',Z',Z',Z',Z',Z',Z',Z',Z',Z',Z',Z',Z',Z'] rfl rfl (any_of HT_.out (by kernel_rfl)) (fun _ _ _ h => h) (Or.inr ⟨by rfl, rfl⟩) ?_ ?_; rotate_left
          ·
           simp only [Act.put, List.setIfInBounds_toArray, List.set_cons_zero, List.set_cons_succ, i64_w, i32_w]; rfl
          refine pure_ (i := 14) (N := some 103) (v := undef) (a' := ?_) #[Y',Y',Y',Y',Y',Y',Y',Y',Y',Y',Y',Y',Y',Y',Y',Z',Z',Z',Z',Z',Z',Z',Z',Z',Z',Z',Z',Z',Z',Z',Z',Z',Z',Z'] rfl rfl (any_of HT_.out (by kernel_rfl)) (fun _ _ _ h => h) (Or.inr ⟨by rfl, rfl⟩) ?_ ?_; rotate_left
          ·
           simp only [Act.put, List.setIfInBounds_toArray, List.set_cons_zero, List.set_cons_succ, i64_w, i32_w]; rfl
          refine pure_ (i := 15) (N := some 104) (v := undef) (a' := ?_) #[Y',Y',Y',Y',Y',Y',Y',Y',Y',Y',Y',Y',Y',Y',Y',Y',Z',Z',Z',Z',Z',Z',Z',Z',Z',Z',Z',Z',Z',Z',Z',Z',Z',Z'] rfl rfl (any_of HT_.out (by kernel_rfl)) (fun _ _ _ h => h) (Or.inr ⟨by rfl, rfl⟩) ?_ ?_; rotate_left
          ·
           simp only [Act.put, List.setIfInBounds_toArray, List.set_cons_zero, List.set_cons_succ, i64_w, i32_w]; rfl
          refine pure_ (i := 16) (N := some 105) (v := undef) (a' := ?_) #[Y',Y',Y',Y',Y',Y',Y',Y',Y',Y',Y',Y',Y',Y',Y',Y',Y',Z',Z',Z',Z',Z',Z',Z',Z',Z',Z',Z',Z',Z',Z',Z',Z',Z'] rfl rfl (any_of HT_.out (by kernel_rfl)) (fun _ _ _ h => h) (Or.inr ⟨by rfl, rfl⟩) ?_ ?_; rotate_left
          ·
           simp only [Act.put, List.setIfInBounds_toArray, List.set_cons_zero, List.set_cons_succ, i64_w, i32_w]; rfl
          refine pure_ (i := 17) (N := some 106) (v := undef) (a' := ?_) #[Y',Y',Y',Y',Y',Y',Y',Y',Y',Y',Y',Y',Y',Y',Y',Y',Y',Y',Z',Z',Z',Z',Z',Z',Z',Z',Z',Z',Z',Z',Z',Z',Z',Z'] rfl rfl (any_of HT_.out (by kernel_rfl)) (fun _ _ _ h => h) (Or.inr ⟨by rfl, rfl⟩) ?_ ?_; rotate_left
          ·
           simp only [Act.put, List.setIfInBounds_toArray, List.set_cons_zero, List.set_cons_succ, i64_w, i32_w]; rfl
          refine pure_ (i := 18) (N := some 107) (v := undef) (a' := ?_) #[Y',Y',Y',Y',Y',Y',Y',Y',Y',Y',Y',Y',Y',Y',Y',Y',Y',Y',Y',Z',Z',Z',Z',Z',Z',Z',Z',Z',Z',Z',Z',Z',Z',Z'] rfl rfl (any_of HT_.out (by kernel_rfl)) (fun _ _ _ h => h) (Or.inr ⟨by rfl, rfl⟩) ?_ ?_; rotate_left
          ·
           simp only [Act.put, List.setIfInBounds_toArray, List.set_cons_zero, List.set_cons_succ, i64_w, i32_w]; rfl
          refine pure_ (i := 19) (N := some 108) (v := undef) (a' := ?_) #[Y',Y',Y',Y',Y',Y',Y',Y',Y',Y',Y',Y',Y',Y',Y',Y',Y',Y',Y',Y',Z',Z',Z',Z',Z',Z',Z',Z',Z',Z',Z',Z',Z',Z'] rfl rfl (any_of HT_.out (by kernel_rfl)) (fun _ _ _ h => h) (Or.inr ⟨by rfl, rfl⟩) ?_ ?_; rotate_left
          ·
           simp only [Act.put, List.setIfInBounds_toArray, List.set_cons_zero, List.set_cons_succ, i64_w, i32_w]; rfl
          refine pure_ (i := 20) (N := some 109) (v := undef) (a' := ?_) #[Y',Y',Y',Y',Y',Y',Y',Y',Y',Y',Y',Y',Y',Y',Y',Y',Y',Y',Y',Y',Y',Z',Z',Z',Z',Z',Z',Z',Z',Z',Z',Z',Z',Z'] rfl rfl (any_of HT_.out (by kernel_rfl)) (fun _ _ _ h => h) (Or.inr ⟨by rfl, rfl⟩) ?_ ?_; rotate_left
          ·
           simp only [Act.put, List.setIfInBounds_toArray, List.set_cons_zero, List.set_cons_succ, i64_w, i32_w]; rfl
          refine pure_ (i := 21) (N := some 110) (v := undef) (a' := ?_) #[Y',Y',Y',Y',Y',Y',Y',Y',Y',Y',Y',Y',Y',Y',Y',Y',Y',Y',Y',Y',Y',Y',Z',Z',Z',Z',Z',Z',Z',Z',Z',Z',Z',Z'] rfl rfl (any_of HT_.out (by kernel_rfl)) (fun _ _ _ h => h) (Or.inr ⟨by rfl, rfl⟩) ?_ ?_; rotate_left
          ·
           simp only [Act.put, List.setIfInBounds_toArray, List.set_cons_zero, List.set_cons_succ, i64_w, i32_w]; rfl
          refine pure_ (i := 22) (N := some 111) (v := undef) (a' := ?_) #[Y',Y',Y',Y',Y',Y',Y',Y',Y',Y',Y',Y',Y',Y',Y',Y',Y',Y',Y',Y',Y',Y',Y',Z',Z',Z',Z',Z',Z',Z',Z',Z',Z',Z'] rfl rfl (any_of HT_.out (by kernel_rfl)) (fun _ _ _ h => h) (Or.inr ⟨by rfl, rfl⟩) ?_ ?_; rotate_left
          ·
           simp only [Act.put, List.setIfInBounds_toArray, List.set_cons_zero, List.set_cons_succ, i64_w, i32_w]; rfl
          refine pure_ (i := 23) (N := some 112) (v := undef) (a' := ?_) #[Y',Y',Y',Y',Y',Y',Y',Y',Y',Y',Y',Y',Y',Y',Y',Y',Y',Y',Y',Y',Y',Y',Y',Y',Z',Z',Z',Z',Z',Z',Z',Z',Z',Z'] rfl rfl (any_of HT_.out (by kernel_rfl)) (fun _ _ _ h => h) (Or.inr ⟨by rfl, rfl⟩) ?_ ?_; rotate_left
          ·
           simp only [Act.put, List.setIfInBounds_toArray, List.set_cons_zero, List.set_cons_succ, i64_w, i32_w]; rfl
          refine pure_ (i := 24) (N := some 113) (v := undef) (a' := ?_) #[Y',Y',Y',Y',Y',Y',Y',Y',Y',Y',Y',Y',Y',Y',Y',Y',Y',Y',Y',Y',Y',Y',Y',Y',Y',Z',Z',Z',Z',Z',Z',Z',Z',Z'] rfl rfl (any_of HT_.out (by kernel_rfl)) (fun _ _ _ h => h) (Or.inr ⟨by rfl, rfl⟩) ?_ ?_; rotate_left
          ·
           simp only [Act.put, List.setIfInBounds_toArray, List.set_cons_zero, List.set_cons_succ, i64_w, i32_w]; rfl
          refine pure_ (i := 25) (N := some 114) (v := undef) (a' := ?_) #[Y',Y',Y',Y',Y',Y',Y',Y',Y',Y',Y',Y',Y',Y',Y',Y',Y',Y',Y',Y',Y',Y',Y',Y',Y',Y',Z',Z',Z',Z',Z',Z',Z',Z'] rfl rfl (any_of HT_.out (by kernel_rfl)) (fun _ _ _ h => h) (Or.inr ⟨by rfl, rfl⟩) ?_ ?_; rotate_left
          ·
           simp only [Act.put, List.setIfInBounds_toArray, List.set_cons_zero, List.set_cons_succ, i64_w, i32_w]; rfl
          refine pure_ (i := 26) (N := some 115) (v := undef) (a' := ?_) #[Y',Y',Y',Y',Y',Y',Y',Y',Y',Y',Y',Y',Y',Y',Y',Y',Y',Y',Y',Y',Y',Y',Y',Y',Y',Y',Y',Z',Z',Z',Z',Z',Z',Z'] rfl rfl (any_of HT_.out (by kernel_rfl)) (fun _ _ _ h => h) (Or.inr ⟨by rfl, rfl⟩) ?_ ?_; rotate_left
          ·
           simp only [Act.put, List.setIfInBounds_toArray, List.set_cons_zero, List.set_cons_succ, i64_w, i32_w]; rfl
          refine pure_ (i := 27) (N := some 116) (v := undef) (a' := ?_) #[Y',Y',Y',Y',Y',Y',Y',Y',Y',Y',Y',Y',Y',Y',Y',Y',Y',Y',Y',Y',Y',Y',Y',Y',Y',Y',Y',Y',Z',Z',Z',Z',Z',Z'] rfl rfl (any_of HT_.out (by kernel_rfl)) (fun _ _ _ h => h) (Or.inr ⟨by rfl, rfl⟩) ?_ ?_; rotate_left
          ·
           simp only [Act.put, List.setIfInBounds_toArray, List.set_cons_zero, List.set_cons_succ, i64_w, i32_w]; rfl
          refine pure_ (i := 28) (N := some 117) (v := undef) (a' := ?_) #[Y',Y',Y',Y',Y',Y',Y',Y',Y',Y',Y',Y',Y',Y',Y',Y',Y',Y',Y',Y',Y',Y',Y',Y',Y',Y',Y',Y',Y',Z',Z',Z',Z',Z'] rfl rfl (any_of HT_.out (by kernel_rfl)) (fun _ _ _ h => h) (Or.inr ⟨by rfl, rfl⟩) ?_ ?_; rotate_left
          ·
           simp only [Act.put, List.setIfInBounds_toArray, List.set_cons_zero, List.set_cons_succ, i64_w, i32_w]; rfl
          refine pure_ (i := 29) (N := some 118) (v := undef) (a' := ?_) #[Y',Y',Y',Y',Y',Y',Y',Y',Y',Y',Y',Y',Y',Y',Y',Y',Y',Y',Y',Y',Y',Y',Y',Y',Y',Y',Y',Y',Y',Y',Z',Z',Z',Z'] rfl rfl (any_of HT_.out (by kernel_rfl)) (fun _ _ _ h => h) (Or.inr ⟨by rfl, rfl⟩) ?_ ?_; rotate_left
          ·
           simp only [Act.put, List.setIfInBounds_toArray, List.set_cons_zero, List.set_cons_succ, i64_w, i32_w]; rfl
          refine pure_ (i := 30) (N := some 119) (v := undef) (a' := ?_) #[Y',Y',Y',Y',Y',Y',Y',Y',Y',Y',Y',Y',Y',Y',Y',Y',Y',Y',Y',Y',Y',Y',Y',Y',Y',Y',Y',Y',Y',Y',Y',Z',Z',Z'] rfl rfl (any_of HT_.out (by kernel_rfl)) (fun _ _ _ h => h) (Or.inr ⟨by rfl, rfl⟩) ?_ ?_; rotate_left
          ·
           simp only [Act.put, List.setIfInBounds_toArray, List.set_cons_zero, List.set_cons_succ, i64_w, i32_w]; rfl
          refine pure_ (i := 31) (N := some 120) (v := undef) (a' := ?_) #[Y',Y',Y',Y',Y',Y',Y',Y',Y',Y',Y',Y',Y',Y',Y',Y',Y',Y',Y',Y',Y',Y',Y',Y',Y',Y',Y',Y',Y',Y',Y',Y',Z',Z'] rfl rfl (any_of HT_.out (by kernel_rfl)) (fun _ _ _ h => h) (Or.inr ⟨by rfl, rfl⟩) ?_ ?_; rotate_left
          ·
           simp only [Act.put, List.setIfInBounds_toArray, List.set_cons_zero, List.set_cons_succ, i64_w, i32_w]; rfl
          refine pure_ (i := 32) (N := some 121) (v := undef) (a' := ?_) #[Y',Y',Y',Y',Y',Y',Y',Y',Y',Y',Y',Y',Y',Y',Y',Y',Y',Y',Y',Y',Y',Y',Y',Y',Y',Y',Y',Y',Y',Y',Y',Y',Y',Z'] rfl rfl (any_of HT_.out (by kernel_rfl)) (fun _ _ _ h => h) (Or.inr ⟨by rfl, rfl⟩) ?_ ?_; rotate_left
          ·
           simp only [Act.put, List.setIfInBounds_toArray, List.set_cons_zero, List.set_cons_succ, i64_w, i32_w]; rfl
          refine pure_ (i := 33) (N := some 122) (v := ?_) (a' := ?_) #[Y',Y',Y',Y',Y',Y',Y',Y',Y',Y',Y',Y',Y',Y',Y',Y',Y',Y',Y',Y',Y',Y',Y',Y',Y',Y',Y',Y',Y',Y',Y',Y',Y',Y'] rfl rfl (any_of HT_.out (by kernel_rfl)) (fun _ _ _ h => h) (Or.inl ⟨by rfl, ?_⟩) ?_ ?_; rotate_left
          ·
           intro w'
           go_simp
           with_reducible rfl
          rotate_left
          ·
           simp only [Act.put, List.setIfInBounds_toArray, List.set_cons_zero, List.set_cons_succ, i64_w, i32_w]; rfl
          refine done_ (done_of HT_.out (by kernel_rfl)) ?_
          try go_wp2
          go_meet
          case rel => exact ⟨_, (false), eq_b, H', ⟨by have := HJ9.out; have := HJ56.out; first | omega | exact Nat.le_refl _⟩, ⟨blk_a⟩, ⟨blk_a⟩, ⟨blk_a⟩, ⟨blk_a⟩, ⟨blk_a⟩, ⟨blk_a⟩, ⟨below_a⟩⟩
        case rest =>
         clear HC75
         try clear c2
         try clear p2
         try clear c4
         try clear p5
         try clear q5
         try clear hx5
         try clear qi5
         try clear c7
         try clear c8
         try clear c26
         try clear c44
         try clear p50
         try clear q50
         try clear hx50
         try clear qi50
         try clear c76 c76b0 c76b1
         try clear c77
         try clear c78
         try clear c79
         try clear c81
         try clear hx502_0 hx502_1 hx502_2 hx502_3
         try clear p502
         try clear q502
         obtain ⟨kq, x122_74, rfl, HA, HJ74, BK428, BK429, BK436, BK447, BK458, BK465, HB⟩ := hcut
         cases kq with
         | zero => exact absurd HA.out (by simp [laws_FnDecides.j2])
         | succ kj74 =>
          have H := HA.out; clear HA; simp only [laws_FnDecides.j2] at H
          by_cases c89 : x122_74 = true
          ·
           subst c89; have H1 : (none) = some r := by rw [if_pos rfl] at H; exact H
           clear H; have H := H1; clear H1; exact absurd H (by simp)
          ·
           replace c89 := Bool.eq_false_iff.mpr c89; subst c89; have H1 : (if t430 = 0 then ((impl_Beats.f t424 t425 t426 t427 t431 t432 t433 t434).bind fun t504 => (if t504 = true then (none) else (if t431 = t420 then (if t434 = t423 then (if t435 = true then ((impl_Beats.f t431 t432 t433 t434 t420 t421 t422 t423).bind fun t505 => (if t505 = true then ((impl_Beats.f t431 t432 t433 t434 t424 t425 t426 t427).bind fun t506 => (if t506 = true then (some (t433 == 0)) else (none))) else (none))) else (if (t431 == t420 && (t432 == t421 && (t433 == t422 && (t434 == t423)))) = true then (some true) else (none))) else (none)) else (none)))) else (some true)) = some r := by rw [if_neg (show ¬ (false = true) by decide)] at H; exact H
           clear H; have H := H1; clear H1
           by_cases c90 : t430 = 0
           ·
            rw [if_pos c90] at H; have c90b0 : (t430 == 0) = true := beq_iff_eq.mpr c90; have c90b1 : (t430 != 0) = false := bne_eq_false_iff_eq.mpr c90; clear c90; replace H := Option.bind_eq_some_iff.mp H; obtain ⟨t504, A910, H⟩ := H; replace H : (if t504 = true then (none) else (if t431 = t420 then (if t434 = t423 then (if t435 = true then ((impl_Beats.f t431 t432 t433 t434 t420 t421 t422 t423).bind fun t505 => (if t505 = true then ((impl_Beats.f t431 t432 t433 t434 t424 t425 t426 t427).bind fun t506 => (if t506 = true then (some (t433 == 0)) else (none))) else (none))) else (if (t431 == t420 && (t432 == t421 && (t433 == t422 && (t434 == t423)))) = true then (some true) else (none))) else (none)) else (none))) = some r := H; have A91 := Aside0.mk A910; clear A910
            by_cases c92 : t504 = true
            ·
             subst c92; have H1 : (none) = some r := by rw [if_pos rfl] at H; exact H
             clear H; have H := H1; clear H1; exact absurd H (by simp)
            ·
             replace c92 := Bool.eq_false_iff.mpr c92; subst c92; have H1 : (if t431 = t420 then (if t434 = t423 then (if t435 = true then ((impl_Beats.f t431 t432 t433 t434 t420 t421 t422 t423).bind fun t505 => (if t505 = true then ((impl_Beats.f t431 t432 t433 t434 t424 t425 t426 t427).bind fun t506 => (if t506 = true then (some (t433 == 0)) else (none))) else (none))) else (if (t431 == t420 && (t432 == t421 && (t433 == t422 && (t434 == t423)))) = true then (some true) else (none))) else (none)) else (none)) = some r := by rw [if_neg (show ¬ (false = true) by decide)] at H; exact H
             clear H; have H := H1; clear H1
             by_cases c93 : t431 = t420
             ·
              rw [if_pos c93] at H; have c93b0 : (t431 == t420) = true := beq_iff_eq.mpr c93; have c93b1 : (t431 != t420) = false := bne_eq_false_iff_eq.mpr c93; clear c93
              by_cases c94 : t434 = t423
              ·
               rw [if_pos c94] at H; have c94b0 : (t434 == t423) = true := beq_iff_eq.mpr c94; have c94b1 : (t434 != t423) = false := bne_eq_false_iff_eq.mpr c94; clear c94
               by_cases c95 : t435 = true
               ·
                subst c95; have H1 : ((impl_Beats.f t431 t432 t433 t434 t420 t421 t422 t423).bind fun t505 => (if t505 = true then ((impl_Beats.f t431 t432 t433 t434 t424 t425 t426 t427).bind fun t506 => (if t506 = true then (some (t433 == 0)) else (none))) else (none))) = some r := by rw [if_pos rfl] at H; exact H
                clear H; have H := H1; clear H1; replace H := Option.bind_eq_some_iff.mp H; obtain ⟨t505, A960, H⟩ := H; replace H : (if t505 = true then ((impl_Beats.f t431 t432 t433 t434 t424 t425 t426 t427).bind fun t506 => (if t506 = true then (some (t433 == 0)) else (none))) else (none)) = some r := H; have A96 := Aside0.mk A960; clear A960
                by_cases c97 : t505 = true
                ·
                 subst c97; have H1 : ((impl_Beats.f t431 t432 t433 t434 t424 t425 t426 t427).bind fun t506 => (if t506 = true then (some (t433 == 0)) else (none))) = some r := by rw [if_pos rfl] at H; exact H
                 clear H; have H := H1; clear H1; replace H := Option.bind_eq_some_iff.mp H; obtain ⟨t506, A980, H⟩ := H; replace H : (if t506 = true then (some (t433 == 0)) else (none)) = some r := H; have A98 := Aside0.mk A980; clear A980
                 by_cases c99 : t506 = true
                 ·
                  subst c99; have H1 : (some (t433 == 0)) = some r := by rw [if_pos rfl] at H; exact H
                  clear H; have H := H1; clear H1; obtain rfl := Option.some.inj H; have hnb100 := NB436_428.out; have hnc100 := NB428_436.out; have hnb101 := NB436_429.out; have hnc101 := NB429_436.out; have hnb102 := NB436_447.out; have hnc102 := NB447_436.out; have hnb103 := NB436_458.out; have hnc103 := NB458_436.out; have hnb104 := NB436_465.out; have hnc104 := NB465_436.out; obtain ⟨hcz105_0, hcz105_1, hcz105_2, hcz105_3, hcz105_4, hcz105_5, hfz105_0, hfz105_1, hfz105_2, hfz105_3, hfz105_4, hfz105_5⟩ := bc6_ BK436.out; have hnb106 := NB429_428.out; have hnc106 := NB428_429.out; have hnb107 := NB429_447.out; have hnc107 := NB447_429.out; have hnb108 := NB429_458.out; have hnc108 := NB458_429.out; have hnb109 := NB429_465.out; have hnc109 := NB465_429.out; obtain ⟨hcz110_0, hcz110_1, hcz110_2, hcz110_3, hfz110_0, hfz110_1, hfz110_2, hfz110_3⟩ := bc4_ BK429.out
                  go_wp2_with (first | ((with_reducible refine gate_callee (f := 44) rfl ?_); refine goesL_ (some 129) rfl rfl Try.func44 (by kernel_rfl) rfl #[.agg #[.int .i64 t424, .int .i64 t425, .int .i64 t426, .int .i64 t427], .agg #[.int .i64 t431, .int .i64 t432, .int .i64 t433, .int .i64 t434]] rfl args_a ?_; (with_reducible refine (impl_Beats.calls t424 t425 t426 t427 t431 t432 t433 t434 false _ A91.out).mono ?_); rintro e w111 ⟨rfl, hb⟩; refine ⟨_, rfl, ?_⟩; replace BK428 := Aside0.mk (blk_below (g := gb428) blk_c hb); replace BK429 := Aside0.mk (blk_below (g := gb429) blk_c hb); replace BK436 := Aside0.mk (blk_below (g := gb436) blk_c hb); replace BK447 := Aside0.mk (blk_below (g := gb447) blk_c hb); replace BK458 := Aside0.mk (blk_below (g := gb458) blk_c hb); replace BK465 := Aside0.mk (blk_below (g := gb465) blk_c hb); replace HB := Aside0.mk (below_step below_a hb); (try clear hb); (try clear hb2); (try clear hk); (try clear hi); obtain ⟨hcz112_0, hcz112_1, hcz112_2, hcz112_3, hcz112_4, hcz112_5, hfz112_0, hfz112_1, hfz112_2, hfz112_3, hfz112_4, hfz112_5⟩ := bc6_ BK436.out; have hnb113 := NB428_447.out; have hnc113 := NB447_428.out; have hnb114 := NB428_458.out; have hnc114 := NB458_428.out; have hnb115 := NB428_465.out; have hnc115 := NB465_428.out; obtain ⟨hcz116_0, hcz116_1, hcz116_2, hcz116_3, hfz116_0, hfz116_1, hfz116_2, hfz116_3⟩ := bc4_ BK428.out) | (go_at_call 44; (with_reducible refine (impl_Beats.calls t431 t432 t433 t434 t420 t421 t422 t423 true _ A96.out).mono ?_); rintro e w117 ⟨rfl, hb⟩; replace BK428 := Aside0.mk (blk_below (g := gb428) blk_c hb); replace BK429 := Aside0.mk (blk_below (g := gb429) blk_c hb); replace BK436 := Aside0.mk (blk_below (g := gb436) blk_c hb); replace BK447 := Aside0.mk (blk_below (g := gb447) blk_c hb); replace BK458 := Aside0.mk (blk_below (g := gb458) blk_c hb); replace BK465 := Aside0.mk (blk_below (g := gb465) blk_c hb); replace HB := Aside0.mk (below_step below_a hb); (try clear hb); (try clear hb2); (try clear hk); (try clear hi); obtain ⟨hcz118_0, hcz118_1, hcz118_2, hcz118_3, hcz118_4, hcz118_5, hfz118_0, hfz118_1, hfz118_2, hfz118_3, hfz118_4, hfz118_5⟩ := bc6_ BK436.out; obtain ⟨hcz119_0, hcz119_1, hcz119_2, hcz119_3, hfz119_0, hfz119_1, hfz119_2, hfz119_3⟩ := bc4_ BK429.out) | (go_at_call 44; (with_reducible refine (impl_Beats.calls t431 t432 t433 t434 t424 t425 t426 t427 true _ A98.out).mono ?_); rintro e w120 ⟨rfl, hb⟩; replace BK428 := Aside0.mk (blk_below (g := gb428) blk_c hb); replace BK429 := Aside0.mk (blk_below (g := gb429) blk_c hb); replace BK436 := Aside0.mk (blk_below (g := gb436) blk_c hb); replace BK447 := Aside0.mk (blk_below (g := gb447) blk_c hb); replace BK458 := Aside0.mk (blk_below (g := gb458) blk_c hb); replace BK465 := Aside0.mk (blk_below (g := gb465) blk_c hb); replace HB := Aside0.mk (below_step below_a hb); (try clear hb); (try clear hb2); (try clear hk); (try clear hi); obtain ⟨hcz121_0, hcz121_1, hcz121_2, hcz121_3, hcz121_4, hcz121_5, hfz121_0, hfz121_1, hfz121_2, hfz121_3, hfz121_4, hfz121_5⟩ := bc6_ BK436.out))
                  go_ret
                  exact ⟨eq_a, below_a⟩
                 ·
                  replace c99 := Bool.eq_false_iff.mpr c99; subst c99; have H1 : (none) = some r := by rw [if_neg (show ¬ (false = true) by decide)] at H; exact H
                  clear H; have H := H1; clear H1; exact absurd H (by simp)
                ·
                 replace c97 := Bool.eq_false_iff.mpr c97; subst c97; have H1 : (none) = some r := by rw [if_neg (show ¬ (false = true) by decide)] at H; exact H
                 clear H; have H := H1; clear H1; exact absurd H (by simp)
               ·
                replace c95 := Bool.eq_false_iff.mpr c95; subst c95; have H1 : (if (t431 == t420 && (t432 == t421 && (t433 == t422 && (t434 == t423)))) = true then (some true) else (none)) = some r := by rw [if_neg (show ¬ (false = true) by decide)] at H; exact H
                clear H; have H := H1; clear H1
                by_cases c122 : (t431 == t420 && (t432 == t421 && (t433 == t422 && (t434 == t423)))) = true
                ·
                 rw [if_pos c122] at H; have c122b0 : (t431 == t420 && (t432 == t421 && (t433 == t422 && (t434 == t423)))) = true := c122; (try (have c122d := c122b0; simp only [Bool.and_eq_true] at c122d; obtain ⟨c122d0, c122d1, c122d2, c122d3⟩ := c122d)); (try (have c122b1 : decide (t431 = t420 && (t432 == t421 && (t433 == t422 && (t434 == t423)))) = true := by simpa using c122)); (try (have c122b2 : (t431 == t420 && (t432 == t421 && (t433 == t422 && (t434 == t423)))) = true := by simpa using c122)); clear c122; obtain rfl := Option.some.inj H; have hnb123 := NB436_428.out; have hnc123 := NB428_436.out; have hnb124 := NB436_429.out; have hnc124 := NB429_436.out; have hnb125 := NB436_447.out; have hnc125 := NB447_436.out; have hnb126 := NB436_458.out; have hnc126 := NB458_436.out; have hnb127 := NB436_465.out; have hnc127 := NB465_436.out; obtain ⟨hcz128_0, hcz128_1, hcz128_2, hcz128_3, hcz128_4, hcz128_5, hfz128_0, hfz128_1, hfz128_2, hfz128_3, hfz128_4, hfz128_5⟩ := bc6_ BK436.out; have hnb129 := NB429_428.out; have hnc129 := NB428_429.out; have hnb130 := NB429_447.out; have hnc130 := NB447_429.out; have hnb131 := NB429_458.out; have hnc131 := NB458_429.out; have hnb132 := NB429_465.out; have hnc132 := NB465_429.out; obtain ⟨hcz133_0, hcz133_1, hcz133_2, hcz133_3, hfz133_0, hfz133_1, hfz133_2, hfz133_3⟩ := bc4_ BK429.out
                 go_wp2_with (first | ((with_reducible refine gate_callee (f := 44) rfl ?_); refine goesL_ (some 129) rfl rfl Try.func44 (by kernel_rfl) rfl #[.agg #[.int .i64 t424, .int .i64 t425, .int .i64 t426, .int .i64 t427], .agg #[.int .i64 t431, .int .i64 t432, .int .i64 t433, .int .i64 t434]] rfl args_a ?_; (with_reducible refine (impl_Beats.calls t424 t425 t426 t427 t431 t432 t433 t434 false _ A91.out).mono ?_); rintro e w134 ⟨rfl, hb⟩; refine ⟨_, rfl, ?_⟩; replace BK428 := Aside0.mk (blk_below (g := gb428) blk_c hb); replace BK429 := Aside0.mk (blk_below (g := gb429) blk_c hb); replace BK436 := Aside0.mk (blk_below (g := gb436) blk_c hb); replace BK447 := Aside0.mk (blk_below (g := gb447) blk_c hb); replace BK458 := Aside0.mk (blk_below (g := gb458) blk_c hb); replace BK465 := Aside0.mk (blk_below (g := gb465) blk_c hb); replace HB := Aside0.mk (below_step below_a hb); (try clear hb); (try clear hb2); (try clear hk); (try clear hi); obtain ⟨hcz135_0, hcz135_1, hcz135_2, hcz135_3, hcz135_4, hcz135_5, hfz135_0, hfz135_1, hfz135_2, hfz135_3, hfz135_4, hfz135_5⟩ := bc6_ BK436.out; have hnb136 := NB428_447.out; have hnc136 := NB447_428.out; have hnb137 := NB428_458.out; have hnc137 := NB458_428.out; have hnb138 := NB428_465.out; have hnc138 := NB465_428.out; obtain ⟨hcz139_0, hcz139_1, hcz139_2, hcz139_3, hfz139_0, hfz139_1, hfz139_2, hfz139_3⟩ := bc4_ BK428.out))
                 go_ret
                 exact ⟨eq_a, below_a⟩
                ·
                 rw [if_neg c122] at H; exact absurd H (by simp)
              ·
               rw [if_neg c94] at H; exact absurd H (by simp)
             ·
              rw [if_neg c93] at H; exact absurd H (by simp)
           ·
            rw [if_neg c90] at H; have c90b0 : (t430 == 0) = false := beq_eq_false_iff_ne.mpr c90; have c90b1 : (t430 != 0) = true := bne_iff_ne.mpr c90; obtain rfl := Option.some.inj H; have hnb140 := NB436_428.out; have hnc140 := NB428_436.out; have hnb141 := NB436_429.out; have hnc141 := NB429_436.out; have hnb142 := NB436_447.out; have hnc142 := NB447_436.out; have hnb143 := NB436_458.out; have hnc143 := NB458_436.out; have hnb144 := NB436_465.out; have hnc144 := NB465_436.out; obtain ⟨hcz145_0, hcz145_1, hcz145_2, hcz145_3, hcz145_4, hcz145_5, hfz145_0, hfz145_1, hfz145_2, hfz145_3, hfz145_4, hfz145_5⟩ := bc6_ BK436.out
            go_wp2
            go_ret
            exact ⟨eq_a, below_a⟩

/-- THE ONE PURE STATEMENT of laws_FnDecides: yours. -/
def laws_FnDecides.Pure : Prop := ∀ (l0 : List Int), l0.length ≤ maxLen → l0.length * 1 ≤ 140737488351232 → (∀ x ∈ l0, (Lit.int .u8 x).wf = true) → ∃ k, laws_FnDecides.f k l0 = some true
theorem laws_FnDecides.walk (P : laws_FnDecides.Pure) (a0 : Option Addr) (len0 cap0 : Nat) (z0 : List Int) (w : World) (w0 : (a0 = none ∧ len0 = 0 ∧ cap0 = 0 ∧ z0 = []) ∨ ∃ x, a0 = some x ∧ len0 ≤ cap0 ∧ cap0 ≤ maxLen ∧ z0.length = cap0 ∧ (∀ i, i < z0.length → w.cell? (x.add i) = some (.int .u8 (z0.getD i 0))) ∧ ∀ n ∈ z0, (Lit.int .u8 n).wf = true) (y0 : len0 * 1 ≤ 140737488351232) :
  Calls Try.prog 6 #[.slice a0 len0 cap0] w fun e w' => e = .returned (.bool true) ∧ Below w.heap.size w w' := by
 obtain ⟨l0, rfl, hr0, hm0, hw0, hc0⟩ := ReadsInt.ofRowC w0
 obtain ⟨k, h⟩ := P l0 hm0 y0 hw0
 refine (laws_FnDecides.calls k _ _ l0 true w (Kd.C_of_reads (d := (0 : Int)) (h1 := fun _ => rfl) hr0) hc0 h).mono ?_
 rintro e w' ⟨rfl, hd⟩
 exact ⟨rfl, hd⟩

end Go.Proofs.Ytpinapnhohjipaa.MFnDecides
