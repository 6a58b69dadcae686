-- Written by the program wip/tools/pr.py of this claim's session, over the kit's print.py.
import Derived.Test.YtjmgleomljfieaaQx0
import Derived.Test.YtjmgleomljfieaaQx2
import Derived.Test.YtjmgleomljfieaaQx3
import Derived.Test.YtjmgleomljfieaaQx4
import Derived.Test.YtjmgleomljfieaaQx5
import Derived.Test.YtjmgleomljfieaaQx6
import Derived.Test.YtjmgleomljfieaaQx7
import Derived.Test.YtjmgleomljfieaaQx8
namespace Go.Proofs.Ytjmgleomljfieaa.Q
open Go.RowKit Go.Proofs.YtjmgleomljfieaaW.PrintWords Go.Proofs.YtjmgleomljfieaaW.PrintLast Go.Proofs.YtjmgleomljfieaaW.PrintMore
attribute [local go_sem] max2_int min2_int max_two min_two max_three min_three max_four min_four   -- for this text's walks alone
set_option linter.unusedVariables false
set_option linter.unusedSimpArgs false

/-! ### laws_FnWorlds: function 9 -/
mutual
def laws_FnWorlds.j0 : Nat → List Int → Int → Int → Int → Bool → Bool → List (S82) → Int → List (S82) → Int → Option (Bool)
  | 0, _, _, _, _, _, _, _, _, _, _ => none
  | k + 1, x1, x6, x7, x8, x10, x84, x361000, x361001, x367000, x367001 => if x84 = true then (some false) else (if x10 = true then (laws_FnWorlds.l0 k x1 x6 x7 x8 (x361000.length : Int) 0 x361000 x361001 x367000 x367001) else (laws_FnWorlds.j3 k x1))
def laws_FnWorlds.j3 : Nat → List Int → Option (Bool)
  | 0, _ => none
  | k + 1, x1 => (spec_DrawFindMethod.f k x1).bind fun bt383 => ((impl_FindMethod.f k bt383.1 bt383.2.1 bt383.2.2.1 bt383.2.2.2).bind fun bt390 => ((spec_FindMethod.f k bt383.1 bt383.2.1 bt383.2.2.1 bt383.2.2.2).bind fun bt392 => ((spec_DrawSubclassOf.f k x1).bind fun bt394 => ((impl_SubclassOf.f k bt394.1 bt394.2.1 bt394.2.2.1 bt394.2.2.2).bind fun bt401 => ((spec_SubclassOf.f k bt394.1 bt394.2.1 bt394.2.2.1 bt394.2.2.2).bind fun bt403 => ((spec_DrawNewCache.f k x1).bind fun bt405 => ((impl_NewCache.f k bt405.1 bt405.2.1 bt405.2.2).bind fun bt411 => ((spec_NewCache.f k bt405.1 bt405.2.1 bt405.2.2).bind fun bt421 => (if (bt390.2 == bt392.2) = true then (if bt390.1 = bt392.1 then (if (bt401.2 == bt403.2) = true then (if (bt401.1 == bt403.1) = true then (if (bt411.2.2.2.2.2.2 == bt421.2.2.2.2.2.2) = true then ((laws_sameCaches.f k bt411.1 bt411.2.1 bt411.2.2.1 bt411.2.2.2.1 bt411.2.2.2.2.1 bt411.2.2.2.2.2.1 bt421.1 bt421.2.1 bt421.2.2.1 bt421.2.2.2.1 bt421.2.2.2.2.1 bt421.2.2.2.2.2.1).bind fun t431 => (laws_FnWorlds.j4 k t431)) else (laws_FnWorlds.j4 k false)) else (laws_FnWorlds.j4 k false)) else (laws_FnWorlds.j4 k false)) else (laws_FnWorlds.j4 k false)) else (laws_FnWorlds.j4 k false))))))))))
def laws_FnWorlds.j4 : Nat → Bool → Option (Bool)
  | 0, _ => none
  | k + 1, x4 => some x4
def laws_FnWorlds.l0 : Nat → List Int → Int → Int → Int → Int → Int → List (S82) → Int → List (S82) → Int → Option (Bool)
  | 0, _, _, _, _, _, _, _, _, _, _ => none
  | k + 1, x1, x6, x7, x8, x88, x89, x361000, x361001, x367000, x367001 => if x89 < x88 then ((impl_SubclassOf.f k x361000 x361001 x89 x6).bind fun bt376 => ((impl_FindMethod.f k x361000 x361001 x89 x7).bind fun bt378 => ((impl_FindMethod.f k x367000 x367001 x89 x7).bind fun bt380 => (if bt376.2 = true then (if bt376.1 = true then (if x89 = x6 then (if x8 > 0 then (laws_FnWorlds.j2 k x1 x6 x7 x8 x88 x89 (bt380.1 != x8) x361000 x361001 x367000 x367001) else (laws_FnWorlds.j2 k x1 x6 x7 x8 x88 x89 false x361000 x361001 x367000 x367001)) else (laws_FnWorlds.j2 k x1 x6 x7 x8 x88 x89 false x361000 x361001 x367000 x367001)) else (if (bt378.2 != bt380.2) = true then (laws_FnWorlds.j2 k x1 x6 x7 x8 x88 x89 true x361000 x361001 x367000 x367001) else (if bt378.1 = bt380.1 then (if x89 = x6 then (if x8 > 0 then (laws_FnWorlds.j2 k x1 x6 x7 x8 x88 x89 (bt380.1 != x8) x361000 x361001 x367000 x367001) else (laws_FnWorlds.j2 k x1 x6 x7 x8 x88 x89 false x361000 x361001 x367000 x367001)) else (laws_FnWorlds.j2 k x1 x6 x7 x8 x88 x89 false x361000 x361001 x367000 x367001)) else (laws_FnWorlds.j2 k x1 x6 x7 x8 x88 x89 true x361000 x361001 x367000 x367001)))) else (laws_FnWorlds.j2 k x1 x6 x7 x8 x88 x89 true x361000 x361001 x367000 x367001))))) else ((impl_GoodWorld.f k x367000 x367001).bind fun t382 => (if t382 = true then (if x367001 = (wrap64 (x361001 + 1)) then (laws_FnWorlds.j3 k x1) else (some false)) else (some false)))
def laws_FnWorlds.j2 : Nat → List Int → Int → Int → Int → Int → Int → Bool → List (S82) → Int → List (S82) → Int → Option (Bool)
  | 0, _, _, _, _, _, _, _, _, _, _, _ => none
  | k + 1, x1, x6, x7, x8, x88, x89, x142, x361000, x361001, x367000, x367001 => if x142 = true then (some false) else (laws_FnWorlds.l0 k x1 x6 x7 x8 x88 (wrap64 (x89 + 1)) x361000 x361001 x367000 x367001)
end
def laws_FnWorlds.f (k : Nat) (l0 : List Int) (l1 : List Int) : Option (Bool) := if (wrap64 ((l0.length : Int) + (l1.length : Int))) > 1048576 then (some true) else ((spec_DrawSetMethod.f k l0).bind fun bt353 => ((impl_SetMethod.f k bt353.1 bt353.2.1 bt353.2.2.1 bt353.2.2.2.1 bt353.2.2.2.2).bind fun bt361 => ((spec_SetMethod.f k bt353.1 bt353.2.1 bt353.2.2.1 bt353.2.2.2.1 bt353.2.2.2.2).bind fun bt367 => (if (bt361.2.2 != bt367.2.2) = true then (laws_FnWorlds.j0 k l1 bt353.2.2.1 bt353.2.2.2.1 bt353.2.2.2.2 bt361.2.2 true bt353.1 bt353.2.1 bt361.1 bt361.2.1) else ((laws_sameWorlds.f k bt361.1 bt361.2.1 bt367.1 bt367.2.1).bind fun t373 => (if t373 = true then ((impl_GoodWorld.f k bt353.1 bt353.2.1).bind fun t374 => ((spec_GoodWorld.f k bt353.1 bt353.2.1).bind fun t375 => (laws_FnWorlds.j0 k l1 bt353.2.2.1 bt353.2.2.2.1 bt353.2.2.2.2 bt361.2.2 (t374 != t375) bt353.1 bt353.2.1 bt361.1 bt361.2.1))) else (laws_FnWorlds.j0 k l1 bt353.2.2.1 bt353.2.2.2.1 bt353.2.2.2.2 bt361.2.2 true bt353.1 bt353.2.1 bt361.1 bt361.2.1)))))))
theorem laws_FnWorlds.mono_l : ∀ k, (∀ y0 y1 y2 y3 y4 y5 y6 y7 y8 y9, LeO (laws_FnWorlds.j0 k y0 y1 y2 y3 y4 y5 y6 y7 y8 y9) (laws_FnWorlds.j0 (k + 1) y0 y1 y2 y3 y4 y5 y6 y7 y8 y9)) ∧ (∀ y0, LeO (laws_FnWorlds.j3 k y0) (laws_FnWorlds.j3 (k + 1) y0)) ∧ (∀ y0, LeO (laws_FnWorlds.j4 k y0) (laws_FnWorlds.j4 (k + 1) y0)) ∧ (∀ y0 y1 y2 y3 y4 y5 y6 y7 y8 y9, LeO (laws_FnWorlds.l0 k y0 y1 y2 y3 y4 y5 y6 y7 y8 y9) (laws_FnWorlds.l0 (k + 1) y0 y1 y2 y3 y4 y5 y6 y7 y8 y9)) ∧ (∀ y0 y1 y2 y3 y4 y5 y6 y7 y8 y9 y10, LeO (laws_FnWorlds.j2 k y0 y1 y2 y3 y4 y5 y6 y7 y8 y9 y10) (laws_FnWorlds.j2 (k + 1) y0 y1 y2 y3 y4 y5 y6 y7 y8 y9 y10))
  | 0 => ⟨fun _ _ _ _ _ _ _ _ _ _ r h => by simp [laws_FnWorlds.j0] at h, fun _ r h => by simp [laws_FnWorlds.j3] at h, fun _ r h => by simp [laws_FnWorlds.j4] at h, fun _ _ _ _ _ _ _ _ _ _ r h => by simp [laws_FnWorlds.l0] at h, fun _ _ _ _ _ _ _ _ _ _ _ r h => by simp [laws_FnWorlds.j2] at h⟩
  | k + 1 => by
    obtain ⟨ih0, ih1, ih2, ih3, ih4⟩ := laws_FnWorlds.mono_l k
    refine ⟨?_, ?_, ?_, ?_, ?_⟩
    · intro y0 y1 y2 y3 y4 y5 y6 y7 y8 y9
      unfold laws_FnWorlds.j0
      repeat' first
      | with_reducible apply ih0
      | with_reducible apply ih1
      | with_reducible apply ih2
      | with_reducible apply ih3
      | with_reducible apply ih4
      | with_reducible apply impl_FindMethod.mono
      | with_reducible apply impl_GoodWorld.mono
      | with_reducible apply impl_NewCache.mono
      | with_reducible apply impl_SetMethod.mono
      | with_reducible apply impl_SubclassOf.mono
      | with_reducible apply laws_sameCaches.mono
      | with_reducible apply laws_sameWorlds.mono
      | with_reducible apply spec_DrawFindMethod.mono
      | with_reducible apply spec_DrawNewCache.mono
      | with_reducible apply spec_DrawSetMethod.mono
      | with_reducible apply spec_DrawSubclassOf.mono
      | with_reducible apply spec_FindMethod.mono
      | with_reducible apply spec_GoodWorld.mono
      | with_reducible apply spec_NewCache.mono
      | with_reducible apply spec_SetMethod.mono
      | with_reducible apply spec_SubclassOf.mono
      | (with_reducible exact LeO.refl _)
      | (with_reducible exact LeO.none _)
      | (with_reducible refine LeO.ite ?_ ?_)
      | (with_reducible refine LeO.bind ?_ (fun _ => ?_))
      | apply ih0
      | apply ih1
      | apply ih2
      | apply ih3
      | apply ih4
      | apply impl_FindMethod.mono
      | apply impl_GoodWorld.mono
      | apply impl_NewCache.mono
      | apply impl_SetMethod.mono
      | apply impl_SubclassOf.mono
      | apply laws_sameCaches.mono
      | apply laws_sameWorlds.mono
      | apply spec_DrawFindMethod.mono
      | apply spec_DrawNewCache.mono
      | apply spec_DrawSetMethod.mono
      | apply spec_DrawSubclassOf.mono
      | apply spec_FindMethod.mono
      | apply spec_GoodWorld.mono
      | apply spec_NewCache.mono
      | apply spec_SetMethod.mono
      | apply spec_SubclassOf.mono
      | exact LeO.none _
      | refine LeO.ite ?_ ?_
      | refine LeO.bind ?_ (fun _ => ?_)
    · intro y0
      unfold laws_FnWorlds.j3
      repeat' first
      | with_reducible apply ih0
      | with_reducible apply ih1
      | with_reducible apply ih2
      | with_reducible apply ih3
      | with_reducible apply ih4
      | with_reducible apply impl_FindMethod.mono
      | with_reducible apply impl_GoodWorld.mono
      | with_reducible apply impl_NewCache.mono
      | with_reducible apply impl_SetMethod.mono
      | with_reducible apply impl_SubclassOf.mono
      | with_reducible apply laws_sameCaches.mono
      | with_reducible apply laws_sameWorlds.mono
      | with_reducible apply spec_DrawFindMethod.mono
      | with_reducible apply spec_DrawNewCache.mono
      | with_reducible apply spec_DrawSetMethod.mono
      | with_reducible apply spec_DrawSubclassOf.mono
      | with_reducible apply spec_FindMethod.mono
      | with_reducible apply spec_GoodWorld.mono
      | with_reducible apply spec_NewCache.mono
      | with_reducible apply spec_SetMethod.mono
      | with_reducible apply spec_SubclassOf.mono
      | (with_reducible exact LeO.refl _)
      | (with_reducible exact LeO.none _)
      | (with_reducible refine LeO.ite ?_ ?_)
      | (with_reducible refine LeO.bind ?_ (fun _ => ?_))
      | apply ih0
      | apply ih1
      | apply ih2
      | apply ih3
      | apply ih4
      | apply impl_FindMethod.mono
      | apply impl_GoodWorld.mono
      | apply impl_NewCache.mono
      | apply impl_SetMethod.mono
      | apply impl_SubclassOf.mono
      | apply laws_sameCaches.mono
      | apply laws_sameWorlds.mono
      | apply spec_DrawFindMethod.mono
      | apply spec_DrawNewCache.mono
      | apply spec_DrawSetMethod.mono
      | apply spec_DrawSubclassOf.mono
      | apply spec_FindMethod.mono
      | apply spec_GoodWorld.mono
      | apply spec_NewCache.mono
      | apply spec_SetMethod.mono
      | apply spec_SubclassOf.mono
      | exact LeO.none _
      | refine LeO.ite ?_ ?_
      | refine LeO.bind ?_ (fun _ => ?_)
    · intro y0
      unfold laws_FnWorlds.j4
      repeat' first
      | with_reducible apply ih0
      | with_reducible apply ih1
      | with_reducible apply ih2
      | with_reducible apply ih3
      | with_reducible apply ih4
      | with_reducible apply impl_FindMethod.mono
      | with_reducible apply impl_GoodWorld.mono
      | with_reducible apply impl_NewCache.mono
      | with_reducible apply impl_SetMethod.mono
      | with_reducible apply impl_SubclassOf.mono
      | with_reducible apply laws_sameCaches.mono
      | with_reducible apply laws_sameWorlds.mono
      | with_reducible apply spec_DrawFindMethod.mono
      | with_reducible apply spec_DrawNewCache.mono
      | with_reducible apply spec_DrawSetMethod.mono
      | with_reducible apply spec_DrawSubclassOf.mono
      | with_reducible apply spec_FindMethod.mono
      | with_reducible apply spec_GoodWorld.mono
      | with_reducible apply spec_NewCache.mono
      | with_reducible apply spec_SetMethod.mono
      | with_reducible apply spec_SubclassOf.mono
      | (with_reducible exact LeO.refl _)
      | (with_reducible exact LeO.none _)
      | (with_reducible refine LeO.ite ?_ ?_)
      | (with_reducible refine LeO.bind ?_ (fun _ => ?_))
      | apply ih0
      | apply ih1
      | apply ih2
      | apply ih3
      | apply ih4
      | apply impl_FindMethod.mono
      | apply impl_GoodWorld.mono
      | apply impl_NewCache.mono
      | apply impl_SetMethod.mono
      | apply impl_SubclassOf.mono
      | apply laws_sameCaches.mono
      | apply laws_sameWorlds.mono
      | apply spec_DrawFindMethod.mono
      | apply spec_DrawNewCache.mono
      | apply spec_DrawSetMethod.mono
      | apply spec_DrawSubclassOf.mono
      | apply spec_FindMethod.mono
      | apply spec_GoodWorld.mono
      | apply spec_NewCache.mono
      | apply spec_SetMethod.mono
      | apply spec_SubclassOf.mono
      | exact LeO.none _
      | refine LeO.ite ?_ ?_
      | refine LeO.bind ?_ (fun _ => ?_)
    · intro y0 y1 y2 y3 y4 y5 y6 y7 y8 y9
      unfold laws_FnWorlds.l0
      repeat' first
      | with_reducible apply ih0
      | with_reducible apply ih1
      | with_reducible apply ih2
      | with_reducible apply ih3
      | with_reducible apply ih4
      | with_reducible apply impl_FindMethod.mono
      | with_reducible apply impl_GoodWorld.mono
      | with_reducible apply impl_NewCache.mono
      | with_reducible apply impl_SetMethod.mono
      | with_reducible apply impl_SubclassOf.mono
      | with_reducible apply laws_sameCaches.mono
      | with_reducible apply laws_sameWorlds.mono
      | with_reducible apply spec_DrawFindMethod.mono
      | with_reducible apply spec_DrawNewCache.mono
      | with_reducible apply spec_DrawSetMethod.mono
      | with_reducible apply spec_DrawSubclassOf.mono
      | with_reducible apply spec_FindMethod.mono
      | with_reducible apply spec_GoodWorld.mono
      | with_reducible apply spec_NewCache.mono
      | with_reducible apply spec_SetMethod.mono
      | with_reducible apply spec_SubclassOf.mono
      | (with_reducible exact LeO.refl _)
      | (with_reducible exact LeO.none _)
      | (with_reducible refine LeO.ite ?_ ?_)
      | (with_reducible refine LeO.bind ?_ (fun _ => ?_))
      | apply ih0
      | apply ih1
      | apply ih2
      | apply ih3
      | apply ih4
      | apply impl_FindMethod.mono
      | apply impl_GoodWorld.mono
      | apply impl_NewCache.mono
      | apply impl_SetMethod.mono
      | apply impl_SubclassOf.mono
      | apply laws_sameCaches.mono
      | apply laws_sameWorlds.mono
      | apply spec_DrawFindMethod.mono
      | apply spec_DrawNewCache.mono
      | apply spec_DrawSetMethod.mono
      | apply spec_DrawSubclassOf.mono
      | apply spec_FindMethod.mono
      | apply spec_GoodWorld.mono
      | apply spec_NewCache.mono
      | apply spec_SetMethod.mono
      | apply spec_SubclassOf.mono
      | exact LeO.none _
      | refine LeO.ite ?_ ?_
      | refine LeO.bind ?_ (fun _ => ?_)
    · intro y0 y1 y2 y3 y4 y5 y6 y7 y8 y9 y10
      unfold laws_FnWorlds.j2
      repeat' first
      | with_reducible apply ih0
      | with_reducible apply ih1
      | with_reducible apply ih2
      | with_reducible apply ih3
      | with_reducible apply ih4
      | with_reducible apply impl_FindMethod.mono
      | with_reducible apply impl_GoodWorld.mono
      | with_reducible apply impl_NewCache.mono
      | with_reducible apply impl_SetMethod.mono
      | with_reducible apply impl_SubclassOf.mono
      | with_reducible apply laws_sameCaches.mono
      | with_reducible apply laws_sameWorlds.mono
      | with_reducible apply spec_DrawFindMethod.mono
      | with_reducible apply spec_DrawNewCache.mono
      | with_reducible apply spec_DrawSetMethod.mono
      | with_reducible apply spec_DrawSubclassOf.mono
      | with_reducible apply spec_FindMethod.mono
      | with_reducible apply spec_GoodWorld.mono
      | with_reducible apply spec_NewCache.mono
      | with_reducible apply spec_SetMethod.mono
      | with_reducible apply spec_SubclassOf.mono
      | (with_reducible exact LeO.refl _)
      | (with_reducible exact LeO.none _)
      | (with_reducible refine LeO.ite ?_ ?_)
      | (with_reducible refine LeO.bind ?_ (fun _ => ?_))
      | apply ih0
      | apply ih1
      | apply ih2
      | apply ih3
      | apply ih4
      | apply impl_FindMethod.mono
      | apply impl_GoodWorld.mono
      | apply impl_NewCache.mono
      | apply impl_SetMethod.mono
      | apply impl_SubclassOf.mono
      | apply laws_sameCaches.mono
      | apply laws_sameWorlds.mono
      | apply spec_DrawFindMethod.mono
      | apply spec_DrawNewCache.mono
      | apply spec_DrawSetMethod.mono
      | apply spec_DrawSubclassOf.mono
      | apply spec_FindMethod.mono
      | apply spec_GoodWorld.mono
      | apply spec_NewCache.mono
      | apply spec_SetMethod.mono
      | apply spec_SubclassOf.mono
      | exact LeO.none _
      | refine LeO.ite ?_ ?_
      | refine LeO.bind ?_ (fun _ => ?_)
theorem laws_FnWorlds.mono : ∀ a0 a1 k, LeO (laws_FnWorlds.f k a0 a1) (laws_FnWorlds.f (k + 1) a0 a1) := by
  intro a0 a1 k
  obtain ⟨ih0, ih1, ih2, ih3, ih4⟩ := laws_FnWorlds.mono_l k
  unfold laws_FnWorlds.f
  repeat' first
      | with_reducible apply ih0
      | with_reducible apply ih1
      | with_reducible apply ih2
      | with_reducible apply ih3
      | with_reducible apply ih4
      | with_reducible apply impl_FindMethod.mono
      | with_reducible apply impl_GoodWorld.mono
      | with_reducible apply impl_NewCache.mono
      | with_reducible apply impl_SetMethod.mono
      | with_reducible apply impl_SubclassOf.mono
      | with_reducible apply laws_sameCaches.mono
      | with_reducible apply laws_sameWorlds.mono
      | with_reducible apply spec_DrawFindMethod.mono
      | with_reducible apply spec_DrawNewCache.mono
      | with_reducible apply spec_DrawSetMethod.mono
      | with_reducible apply spec_DrawSubclassOf.mono
      | with_reducible apply spec_FindMethod.mono
      | with_reducible apply spec_GoodWorld.mono
      | with_reducible apply spec_NewCache.mono
      | with_reducible apply spec_SetMethod.mono
      | with_reducible apply spec_SubclassOf.mono
      | (with_reducible exact LeO.refl _)
      | (with_reducible exact LeO.none _)
      | (with_reducible refine LeO.ite ?_ ?_)
      | (with_reducible refine LeO.bind ?_ (fun _ => ?_))
      | apply ih0
      | apply ih1
      | apply ih2
      | apply ih3
      | apply ih4
      | apply impl_FindMethod.mono
      | apply impl_GoodWorld.mono
      | apply impl_NewCache.mono
      | apply impl_SetMethod.mono
      | apply impl_SubclassOf.mono
      | apply laws_sameCaches.mono
      | apply laws_sameWorlds.mono
      | apply spec_DrawFindMethod.mono
      | apply spec_DrawNewCache.mono
      | apply spec_DrawSetMethod.mono
      | apply spec_DrawSubclassOf.mono
      | apply spec_FindMethod.mono
      | apply spec_GoodWorld.mono
      | apply spec_NewCache.mono
      | apply spec_SetMethod.mono
      | apply spec_SubclassOf.mono
      | exact LeO.none _
      | refine LeO.ite ?_ ?_
      | refine LeO.bind ?_ (fun _ => ?_)
def laws_FnWorlds.T6 : Bool × List (List Nat × List Nat) := (true, [([], []), ([], []), ([0, 1], [0, 1]), ([2], [2]), ([3], [3]), ([3], [3]), ([4, 5, 3, 3], [3, 4, 5]), ([6, 3], [3, 6]), ([3, 7], [3, 7]), ([8, 6], [8]), ([9], [9]), ([10, 9, 9], [9, 10]), ([9], [9]), ([12, 11, 9], [9, 12]), ([11, 13, 9], [9, 11, 13]), ([9, 14], [9, 14])])
def laws_FnWorlds.B6 : List Nat := [0, 0, 3, 7, 15, 15, 63, 127, 255, 511, 1023, 2047, 1023, 8191, 16383, 32767]
theorem laws_FnWorlds.tab6 : rtab .any (opsOf Try.f9 6) = laws_FnWorlds.T6 := by kernel_rfl
theorem laws_FnWorlds.bits6 : waitsOk laws_FnWorlds.T6.2 laws_FnWorlds.B6 = true := by kernel_rfl
set_option maxHeartbeats 80000000 in
set_option maxRecDepth 100000 in
theorem laws_FnWorlds.calls (k : Nat) (A0 : Option Addr) (c0 : Nat) (l0 : List Int) (A1 : Option Addr) (c1 : Nat) (l1 : List Int) (r : Bool) (w : World) (hr0 : Kd.C (Kd.int .u8) w A0 l0.length l0) (hc0 : l0.length ≤ c0) (hr1 : Kd.C (Kd.int .u8) w A1 l1.length l1) (hc1 : l1.length ≤ c1) (h : laws_FnWorlds.f k l0 l1 = some r) :
    Calls Try.prog 9 #[.slice A0 l0.length c0, .slice A1 l1.length c1] w fun e w' => e = .returned (.bool r) ∧ Below w.heap.size w w' := by
  have hu29 := Try.underlying29
  have hu44 := Try.underlying44
  have HR0 := Aside0.mk hr0
  have HC0 := Aside0.mk hc0
  clear hr0 hc0
  have HR1 := Aside0.mk hr1
  have HC1 := Aside0.mk hc1
  clear hr1 hc1
  have HB := Aside0.mk (Below.refl w.heap.size w)
  have H : (if (wrap64 ((l0.length : Int) + (l1.length : Int))) > 1048576 then (some true) else ((spec_DrawSetMethod.f k l0).bind fun bt353 => ((impl_SetMethod.f k bt353.1 bt353.2.1 bt353.2.2.1 bt353.2.2.2.1 bt353.2.2.2.2).bind fun bt361 => ((spec_SetMethod.f k bt353.1 bt353.2.1 bt353.2.2.1 bt353.2.2.2.1 bt353.2.2.2.2).bind fun bt367 => (if (bt361.2.2 != bt367.2.2) = true then (laws_FnWorlds.j0 k l1 bt353.2.2.1 bt353.2.2.2.1 bt353.2.2.2.2 bt361.2.2 true bt353.1 bt353.2.1 bt361.1 bt361.2.1) else ((laws_sameWorlds.f k bt361.1 bt361.2.1 bt367.1 bt367.2.1).bind fun t373 => (if t373 = true then ((impl_GoodWorld.f k bt353.1 bt353.2.1).bind fun t374 => ((spec_GoodWorld.f k bt353.1 bt353.2.1).bind fun t375 => (laws_FnWorlds.j0 k l1 bt353.2.2.1 bt353.2.2.2.1 bt353.2.2.2.2 bt361.2.2 (t374 != t375) bt353.1 bt353.2.1 bt361.1 bt361.2.1))) else (laws_FnWorlds.j0 k l1 bt353.2.2.1 bt353.2.2.2.1 bt353.2.2.2.2 bt361.2.2 true bt353.1 bt353.2.1 bt361.1 bt361.2.1)))))))) = some r := h
  clear h
  by_cases c3 : (wrap64 ((l0.length : Int) + (l1.length : Int))) > 1048576
  · rw [if_pos c3] at H
    have c3b0 : decide (1048576 < (wrap64 ((l0.length : Int) + (l1.length : Int)))) = true := decide_eq_true c3
    clear c3
    obtain rfl := Option.some.inj H
    go_enter Try.func9, Try.ntmps9
    first | (go_wp2; go_ret; exact ⟨lE, lB⟩) | (exfalso; simp only [decide_eq_false_iff_not, decide_eq_true_eq] at *; omega)
  · rw [if_neg c3] at H
    have c3b0 : decide (1048576 < (wrap64 ((l0.length : Int) + (l1.length : Int)))) = false := decide_eq_false c3
    clear c3
    replace H := Option.bind_eq_some_iff.mp H
    obtain ⟨⟨t353, t356, t357, t358, t359⟩, A40, H⟩ := H
    replace H : ((impl_SetMethod.f k t353 t356 t357 t358 t359).bind fun bt361 => ((spec_SetMethod.f k t353 t356 t357 t358 t359).bind fun bt367 => (if (bt361.2.2 != bt367.2.2) = true then (laws_FnWorlds.j0 k l1 t357 t358 t359 bt361.2.2 true t353 t356 bt361.1 bt361.2.1) else ((laws_sameWorlds.f k bt361.1 bt361.2.1 bt367.1 bt367.2.1).bind fun t373 => (if t373 = true then ((impl_GoodWorld.f k t353 t356).bind fun t374 => ((spec_GoodWorld.f k t353 t356).bind fun t375 => (laws_FnWorlds.j0 k l1 t357 t358 t359 bt361.2.2 (t374 != t375) t353 t356 bt361.1 bt361.2.1))) else (laws_FnWorlds.j0 k l1 t357 t358 t359 bt361.2.2 true t353 t356 bt361.1 bt361.2.1)))))) = some r := H
    have A4 := Aside0.mk A40
    clear A40
    replace H := Option.bind_eq_some_iff.mp H
    obtain ⟨⟨t361, t364, t365⟩, A50, H⟩ := H
    replace H : ((spec_SetMethod.f k t353 t356 t357 t358 t359).bind fun bt367 => (if (t365 != bt367.2.2) = true then (laws_FnWorlds.j0 k l1 t357 t358 t359 t365 true t353 t356 t361 t364) else ((laws_sameWorlds.f k t361 t364 bt367.1 bt367.2.1).bind fun t373 => (if t373 = true then ((impl_GoodWorld.f k t353 t356).bind fun t374 => ((spec_GoodWorld.f k t353 t356).bind fun t375 => (laws_FnWorlds.j0 k l1 t357 t358 t359 t365 (t374 != t375) t353 t356 t361 t364))) else (laws_FnWorlds.j0 k l1 t357 t358 t359 t365 true t353 t356 t361 t364))))) = some r := H
    have A5 := Aside0.mk A50
    clear A50
    replace H := Option.bind_eq_some_iff.mp H
    obtain ⟨⟨t367, t370, t371⟩, A60, H⟩ := H
    replace H : (if (t365 != t371) = true then (laws_FnWorlds.j0 k l1 t357 t358 t359 t365 true t353 t356 t361 t364) else ((laws_sameWorlds.f k t361 t364 t367 t370).bind fun t373 => (if t373 = true then ((impl_GoodWorld.f k t353 t356).bind fun t374 => ((spec_GoodWorld.f k t353 t356).bind fun t375 => (laws_FnWorlds.j0 k l1 t357 t358 t359 t365 (t374 != t375) t353 t356 t361 t364))) else (laws_FnWorlds.j0 k l1 t357 t358 t359 t365 true t353 t356 t361 t364)))) = some r := H
    have A6 := Aside0.mk A60
    clear A60
    have HC7 := Aside0.mk H
    clear H
    go_enter Try.func9, Try.ntmps9
    go_upto_region 6 with (first | ((with_reducible refine gate_callee (f := 35) rfl ?_); refine gl_ (some 48) (Try.func35) #[.slice A0 l0.length c0] ?_; (with_reducible refine (spec_DrawSetMethod.calls k _ _ l0 t353 t356 t357 t358 t359 _ ?side1 ?side2 A4.out).mono ?_); (case side1 => repeat (first | exact HR0.out | (with_reducible refine Kd.C_alloc ?_ _) | (with_reducible refine Kd.C_drewN ?_ _) | (with_reducible refine Kd.C_drew ?_))); (case side2 => exact HC0.out); rintro e w8 ⟨v354, rfl, ho0, hb⟩; refine ⟨_, rfl, ?_⟩; have n0_ := Aside0.mk (Kd.S_lower ho0 (below_size lB)); have n1_ := Aside0.mk (below_step lB hb); clear HB; have HO355 := n0_; have HB := n1_; clear n0_ n1_; (try clear hb); (try clear hb2); (try clear hk); (try clear hi); (try clear ho0)) | ((with_reducible refine gate_dst (N := 5) rfl ?_); refine bxe 5 #[.slice none 0 0, .int .i64 0] 29 ?_; intro gb360 hg w9 hbox hb; have n0_ := Aside0.mk (Kd.S_below (lS HO355.out) hb); have n1_ := Aside0.mk (below_step lB hb); have n2_ := Aside0.mk (hbox); have n3_ := lG w hg; have n4_ := lG w hg; clear HO355; clear HB; have HO355 := n0_; have HB := n1_; have BK360 := n2_; have GW360 := n3_; have GE360 := n4_; clear n0_ n1_ n2_ n3_ n4_; clear hb hbox hg; obtain ⟨Ao10, co10, eo10⟩ := Kd.S_slice HO355.out; subst eo10; obtain ⟨hcz11_0, hfz11_0, hcz11_1, hfz11_1⟩ := bk2 BK360.out) | ((with_reducible refine gate_callee (f := 23) rfl ?_); refine gl_ (some 58) (Try.func23) #[.agg #[.slice Ao10 t353.length co10, .int .i64 t356], .int .i64 t357, .int .i64 t358, .int .i64 t359] ?_; (with_reducible refine (impl_SetMethod.calls k _ _ t353 t356 t357 t358 t359 t361 t364 t365 _ ?side1 ?side2 A5.out).mono ?_); (case side1 => refine (Kd.S_reads' (e := 82) (base := w.heap.size) (ok := fun k_ => True) (n := t353.length) (c := co10) ?_).2.2; exact (by (with_reducible repeat (first | apply Kd.S_alloc | apply Kd.S_drewN | apply Kd.S_drew)); exact (Kd.S_mono (Kd.S_far (p := ⟨gb360, 1, none⟩) (Kd.S_far (p := ⟨gb360, 0, none⟩) (Kd.S_types HO355.out BK360.out (by decide)) (fun _ hk => hk.2) (.slice Ao10 t353.length co10)) (fun _ hk => hk.2) (.int .i64 t356)) (fun _ h_ => h_.1)))); (case side2 => exact (Kd.S_reads' HO355.out).2.1); rintro e w12 ⟨v362, rfl, ho0, hb⟩; refine ⟨_, rfl, ?_⟩; have n0_ := Aside0.mk (Kd.S_elder' (by (with_reducible repeat (first | apply Kd.S_alloc | apply Kd.S_drewN | apply Kd.S_drew)); exact (Kd.S_mono (Kd.S_far (p := ⟨gb360, 1, none⟩) (Kd.S_far (p := ⟨gb360, 0, none⟩) (Kd.S_types HO355.out BK360.out (by decide)) (fun _ hk => hk.2) (.slice Ao10 t353.length co10)) (fun _ hk => hk.2) (.int .i64 t356)) (fun _ h_ => h_.1))) (Kd.S_base ho0) hb); have n1_ := Aside0.mk (Kd.S_lower (Kd.S_new' ho0 (Kd.S_lt (by (with_reducible repeat (first | apply Kd.S_alloc | apply Kd.S_drewN | apply Kd.S_drew)); exact (Kd.S_mono (Kd.S_far (p := ⟨gb360, 1, none⟩) (Kd.S_far (p := ⟨gb360, 0, none⟩) (Kd.S_types HO355.out BK360.out (by decide)) (fun _ hk => hk.2) (.slice Ao10 t353.length co10)) (fun _ hk => hk.2) (.int .i64 t356)) (fun _ h_ => h_.1))))) (below_size lB)); have n2_ := Aside0.mk (blk_below (g := gb360) (o := .cells #[.slice Ao10 t353.length co10, .int .i64 t356] 29 (0, 0)) (by (with_reducible repeat first | apply bN | apply bD | apply bA); refine blk_put (cs := #[.slice Ao10 t353.length co10, .int .i64 0]) ?_ 1 _ rfl; (with_reducible repeat first | apply bN | apply bD | apply bA); refine blk_put (cs := #[.slice none 0 0, .int .i64 0]) ?_ 0 _ rfl; (with_reducible repeat first | apply bN | apply bD | apply bA); exact BK360.out) hb); have n3_ := Aside0.mk (below_step lB hb); clear HO355; clear BK360; clear HB; have HO355 := n0_; have HO363 := n1_; have BK360 := n2_; have HB := n3_; clear n0_ n1_ n2_ n3_; (try clear hb); (try clear hb2); (try clear hk); (try clear hi); (try clear ho0)) | ((with_reducible refine gate_dst (N := 9) rfl ?_); refine bxe 9 #[.slice none 0 0, .int .i64 0] 29 ?_; intro gb366 hg w13 hbox hb; have n0_ := Aside0.mk (Kd.S_below (lS HO355.out) hb); have n1_ := Aside0.mk (Kd.S_below (lS HO363.out) hb); have n2_ := Aside0.mk (blk_below (lK BK360.out) hb); have n3_ := Aside0.mk (below_step lB hb); have n4_ := Aside0.mk (hbox); have n5_ := lG w hg; have n6_ := lG w hg; have n7_ := Aside0.mk ((by rw [hg]; exact Nat.ne_of_lt (blk_lt (lK BK360.out)) : gb360 ≠ gb366)); have n8_ := Aside0.mk ((by rw [hg]; exact Nat.ne_of_gt (blk_lt (lK BK360.out)) : gb366 ≠ gb360)); clear HO355; clear HO363; clear BK360; clear HB; have HO355 := n0_; have HO363 := n1_; have BK360 := n2_; have HB := n3_; have BK366 := n4_; have GW366 := n5_; have GE366 := n6_; have NB360_366 := n7_; have NB366_360 := n8_; clear n0_ n1_ n2_ n3_ n4_ n5_ n6_ n7_ n8_; clear hb hbox hg; obtain ⟨Ao14, co14, eo14⟩ := Kd.S_slice HO363.out; subst eo14; have hnb15 := NB366_360.out; have hnc15 := NB360_366.out; obtain ⟨hcz16_0, hfz16_0, hcz16_1, hfz16_1⟩ := bk2 BK366.out; obtain ⟨hcz17_0, hfz17_0, hcz17_1, hfz17_1⟩ := bk2 BK360.out) | ((with_reducible refine gate_callee (f := 22) rfl ?_); refine gl_ (some 66) (Try.func22) #[.agg #[.slice Ao10 t353.length co10, .int .i64 t356], .int .i64 t357, .int .i64 t358, .int .i64 t359] ?_; (with_reducible refine (spec_SetMethod.calls k _ _ t353 t356 t357 t358 t359 t367 t370 t371 _ ?side1 ?side2 A6.out).mono ?_); (case side1 => refine (Kd.S_reads' (e := 82) (base := w.heap.size) (ok := fun k_ => (True ∧ some k_ ≠ (.slice Ao14 t361.length co14 : Value).ownBlock)) (n := t353.length) (c := co10) ?_).2.2; exact (by (with_reducible repeat (first | apply Kd.S_alloc | apply Kd.S_drewN | apply Kd.S_drew)); exact (Kd.S_mono (Kd.S_far (p := ⟨gb366, 1, none⟩) (Kd.S_far (p := ⟨gb366, 0, none⟩) (Kd.S_types HO355.out BK366.out (by decide)) (fun _ hk => hk.2) (.slice Ao14 t361.length co14)) (fun _ hk => hk.2) (.int .i64 t364)) (fun _ h_ => h_.1)))); (case side2 => exact (Kd.S_reads' HO355.out).2.1); rintro e w18 ⟨v368, rfl, ho0, hb⟩; refine ⟨_, rfl, ?_⟩; have n0_ := Aside0.mk (Kd.S_elder' (by (with_reducible repeat (first | apply Kd.S_alloc | apply Kd.S_drewN | apply Kd.S_drew)); exact (Kd.S_mono (Kd.S_far (p := ⟨gb366, 1, none⟩) (Kd.S_far (p := ⟨gb366, 0, none⟩) (Kd.S_types HO355.out BK366.out (by decide)) (fun _ hk => hk.2) (.slice Ao14 t361.length co14)) (fun _ hk => hk.2) (.int .i64 t364)) (fun _ h_ => h_.1))) (Kd.S_base ho0) hb); have n1_ := Aside0.mk (Kd.S_elder' (by (with_reducible repeat (first | apply Kd.S_alloc | apply Kd.S_drewN | apply Kd.S_drew)); exact (Kd.S_mono (Kd.S_far (p := ⟨gb366, 1, none⟩) (Kd.S_far (p := ⟨gb366, 0, none⟩) (Kd.S_types HO363.out BK366.out (by decide)) (fun _ hk => hk.2) (.slice Ao14 t361.length co14)) (fun _ hk => hk.2) (.int .i64 t364)) (fun _ h_ => h_.1))) (Kd.S_base ho0) hb); have n2_ := Aside0.mk (Kd.S_lower (Kd.S_new' (Kd.S_new' ho0 (Kd.S_lt (by (with_reducible repeat (first | apply Kd.S_alloc | apply Kd.S_drewN | apply Kd.S_drew)); exact (Kd.S_mono (Kd.S_far (p := ⟨gb366, 1, none⟩) (Kd.S_far (p := ⟨gb366, 0, none⟩) (Kd.S_types HO355.out BK366.out (by decide)) (fun _ hk => hk.2) (.slice Ao14 t361.length co14)) (fun _ hk => hk.2) (.int .i64 t364)) (fun _ h_ => h_.1))))) (Kd.S_lt (by (with_reducible repeat (first | apply Kd.S_alloc | apply Kd.S_drewN | apply Kd.S_drew)); exact (Kd.S_mono (Kd.S_far (p := ⟨gb366, 1, none⟩) (Kd.S_far (p := ⟨gb366, 0, none⟩) (Kd.S_types HO363.out BK366.out (by decide)) (fun _ hk => hk.2) (.slice Ao14 t361.length co14)) (fun _ hk => hk.2) (.int .i64 t364)) (fun _ h_ => h_.1))))) (below_size lB)); have n3_ := Aside0.mk (blk_below (lJ BK360.out) hb); have n4_ := Aside0.mk (blk_below (g := gb366) (o := .cells #[.slice Ao14 t361.length co14, .int .i64 t364] 29 (0, 0)) (by (with_reducible repeat first | apply bN | apply bD | apply bA); refine blk_put (cs := #[.slice Ao14 t361.length co14, .int .i64 0]) ?_ 1 _ rfl; (with_reducible repeat first | apply bN | apply bD | apply bA); refine blk_put (cs := #[.slice none 0 0, .int .i64 0]) ?_ 0 _ rfl; (with_reducible repeat first | apply bN | apply bD | apply bA); exact BK366.out) hb); have n5_ := Aside0.mk (below_step lB hb); clear HO355; clear HO363; clear BK360; clear BK366; clear HB; have HO355 := n0_; have HO363 := n1_; have HO369 := n2_; have BK360 := n3_; have BK366 := n4_; have HB := n5_; clear n0_ n1_ n2_ n3_ n4_ n5_; (try clear hb); (try clear hb2); (try clear hk); (try clear hi); (try clear ho0)) | ((with_reducible refine gate_dst (N := 11) rfl ?_); refine bxe 11 #[.slice none 0 0, .int .i64 0] 29 ?_; intro gb372 hg w19 hbox hb; have n0_ := Aside0.mk (Kd.S_below (lS HO355.out) hb); have n1_ := Aside0.mk (Kd.S_below (lS HO363.out) hb); have n2_ := Aside0.mk (Kd.S_below (lS HO369.out) hb); have n3_ := Aside0.mk (blk_below (lK BK360.out) hb); have n4_ := Aside0.mk (blk_below (lK BK366.out) hb); have n5_ := Aside0.mk (below_step lB hb); have n6_ := Aside0.mk (hbox); have n7_ := lG w hg; have n8_ := lG w hg; have n9_ := Aside0.mk ((by rw [hg]; exact Nat.ne_of_lt (blk_lt (lK BK360.out)) : gb360 ≠ gb372)); have n10_ := Aside0.mk ((by rw [hg]; exact Nat.ne_of_gt (blk_lt (lK BK360.out)) : gb372 ≠ gb360)); have n11_ := Aside0.mk ((by rw [hg]; exact Nat.ne_of_lt (blk_lt (lK BK366.out)) : gb366 ≠ gb372)); have n12_ := Aside0.mk ((by rw [hg]; exact Nat.ne_of_gt (blk_lt (lK BK366.out)) : gb372 ≠ gb366)); clear HO355; clear HO363; clear HO369; clear BK360; clear BK366; clear HB; have HO355 := n0_; have HO363 := n1_; have HO369 := n2_; have BK360 := n3_; have BK366 := n4_; have HB := n5_; have BK372 := n6_; have GW372 := n7_; have GE372 := n8_; have NB360_372 := n9_; have NB372_360 := n10_; have NB366_372 := n11_; have NB372_366 := n12_; clear n0_ n1_ n2_ n3_ n4_ n5_ n6_ n7_ n8_ n9_ n10_ n11_ n12_; clear hb hbox hg; obtain ⟨Ao20, co20, eo20⟩ := Kd.S_slice HO369.out; subst eo20; have hnb21 := NB372_360.out; have hnc21 := NB360_372.out; have hnb22 := NB372_366.out; have hnc22 := NB366_372.out; obtain ⟨hcz23_0, hfz23_0, hcz23_1, hfz23_1⟩ := bk2 BK372.out))
    (try simp only [Act.put, List.setIfInBounds_toArray, List.set_cons_zero, List.set_cons_succ])
    go_cut [84] (fun v84 wc => ∃ (kq : Nat) (x84_6 : Bool), v84 = .bool x84_6 ∧ Aside0 (laws_FnWorlds.j0 kq l1 t357 t358 t359 t365 x84_6 t353 t356 t361 t364 = some r) ∧ Aside0 (kq ≤ k) ∧ Aside0 (Kd.S k82 82 wc w.heap.size (fun k_ => some k_ ≠ ((.slice Ao14 t361.length co14) : Value).ownBlock) (.slice Ao10 t353.length co10) t353) ∧ Aside0 (Kd.S k82 82 wc w.heap.size (fun k_ => some k_ ≠ ((.slice Ao10 t353.length co10) : Value).ownBlock) (.slice Ao14 t361.length co14) t361) ∧ Aside0 (wc.heap[gb360]? = some (.cells #[(.slice Ao10 t353.length co10), .int .i64 t356] 29 (0, 0))) ∧ Aside0 (wc.heap[gb366]? = some (.cells #[(.slice Ao14 t361.length co14), .int .i64 t364] 29 (0, 0))) ∧ Aside0 (Below w.heap.size w wc))
    case first =>
      have H := HC7.out
      clear HC7
      by_cases c24 : (t365 != t371) = true
      · rw [if_pos c24] at H
        have c24b0 : (t365 != t371) = true := c24
        (try (have c24b1 : decide (t365 = t371) = false := by simpa using c24))
        (try (have c24b2 : (t365 == t371) = false := by simpa using c24))
        (try (have c24b3 : ¬ (t365 = t371) := by simpa using c24))
        clear c24
        (first | rw [c24b0] | (simp only [i64_w, i32_w]; rw [c24b0]) | skip)
        have H' := Aside0.mk H
        clear H
        try go_wp2
        have n0_ : Aside0 (Kd.S k82 82 ((w19.setCell ⟨gb372, 0, none⟩ (.slice Ao20 t367.length co20)).setCell ⟨gb372, 1, none⟩ (.int .i64 t370)) w.heap.size (fun k_ => some k_ ≠ (.slice Ao14 t361.length co14 : Value).ownBlock ∧ some k_ ≠ (.slice Ao20 t367.length co20 : Value).ownBlock) (.slice Ao10 t353.length co10) t353) := ⟨by (with_reducible repeat (first | apply Kd.S_alloc | apply Kd.S_drewN | apply Kd.S_drew)); exact Kd.S_mono (Kd.S_far (p := ⟨gb372, 1, none⟩) (Kd.S_far (p := ⟨gb372, 0, none⟩) (Kd.S_types HO355.out BK372.out (by decide)) (fun _ hk => hk.2) (.slice Ao20 t367.length co20)) (fun _ hk => hk.2) (.int .i64 t370)) (fun _ hk => ⟨hk.1.1.2, hk.1.2⟩)⟩
        have n1_ : Aside0 (Kd.S k82 82 ((w19.setCell ⟨gb372, 0, none⟩ (.slice Ao20 t367.length co20)).setCell ⟨gb372, 1, none⟩ (.int .i64 t370)) w.heap.size (fun k_ => some k_ ≠ (.slice Ao10 t353.length co10 : Value).ownBlock ∧ some k_ ≠ (.slice Ao20 t367.length co20 : Value).ownBlock) (.slice Ao14 t361.length co14) t361) := ⟨by (with_reducible repeat (first | apply Kd.S_alloc | apply Kd.S_drewN | apply Kd.S_drew)); exact Kd.S_mono (Kd.S_far (p := ⟨gb372, 1, none⟩) (Kd.S_far (p := ⟨gb372, 0, none⟩) (Kd.S_types HO363.out BK372.out (by decide)) (fun _ hk => hk.2) (.slice Ao20 t367.length co20)) (fun _ hk => hk.2) (.int .i64 t370)) (fun _ hk => ⟨hk.1.1.2, hk.1.2⟩)⟩
        have n2_ : Aside0 (Kd.S k82 82 ((w19.setCell ⟨gb372, 0, none⟩ (.slice Ao20 t367.length co20)).setCell ⟨gb372, 1, none⟩ (.int .i64 t370)) w.heap.size (fun k_ => some k_ ≠ (.slice Ao10 t353.length co10 : Value).ownBlock ∧ some k_ ≠ (.slice Ao14 t361.length co14 : Value).ownBlock) (.slice Ao20 t367.length co20) t367) := ⟨by (with_reducible repeat (first | apply Kd.S_alloc | apply Kd.S_drewN | apply Kd.S_drew)); exact Kd.S_mono (Kd.S_far (p := ⟨gb372, 1, none⟩) (Kd.S_far (p := ⟨gb372, 0, none⟩) (Kd.S_types HO369.out BK372.out (by decide)) (fun _ hk => hk.2) (.slice Ao20 t367.length co20)) (fun _ hk => hk.2) (.int .i64 t370)) (fun _ hk => ⟨hk.1.1.2, hk.1.2⟩)⟩
        have n3_ : Aside0 (((w19.setCell ⟨gb372, 0, none⟩ (.slice Ao20 t367.length co20)).setCell ⟨gb372, 1, none⟩ (.int .i64 t370)).heap[gb360]? = some (.cells #[.slice Ao10 t353.length co10, .int .i64 t356] 29 (0, 0))) := ⟨lJ BK360.out⟩
        have n4_ : Aside0 (((w19.setCell ⟨gb372, 0, none⟩ (.slice Ao20 t367.length co20)).setCell ⟨gb372, 1, none⟩ (.int .i64 t370)).heap[gb366]? = some (.cells #[.slice Ao14 t361.length co14, .int .i64 t364] 29 (0, 0))) := ⟨lJ BK366.out⟩
        have n5_ : Aside0 (((w19.setCell ⟨gb372, 0, none⟩ (.slice Ao20 t367.length co20)).setCell ⟨gb372, 1, none⟩ (.int .i64 t370)).heap[gb372]? = some (.cells #[.slice Ao20 t367.length co20, .int .i64 t370] 29 (0, 0))) := ⟨by (with_reducible repeat first | apply bN | apply bD | apply bA); refine blk_put (cs := #[.slice Ao20 t367.length co20, .int .i64 0]) ?_ 1 _ rfl; (with_reducible repeat first | apply bN | apply bD | apply bA); refine blk_put (cs := #[.slice none 0 0, .int .i64 0]) ?_ 0 _ rfl; (with_reducible repeat first | apply bN | apply bD | apply bA); exact BK372.out⟩
        have n6_ : Aside0 (Below w.heap.size w ((w19.setCell ⟨gb372, 0, none⟩ (.slice Ao20 t367.length co20)).setCell ⟨gb372, 1, none⟩ (.int .i64 t370))) := ⟨lB⟩
        (try clear HO355)
        (try clear HO363)
        (try clear HO369)
        (try clear BK360)
        (try clear BK366)
        (try clear BK372)
        (try clear HB)
        generalize ((w19.setCell ⟨gb372, 0, none⟩ (.slice Ao20 t367.length co20)).setCell ⟨gb372, 1, none⟩ (.int .i64 t370)) = w25 at n0_ n1_ n2_ n3_ n4_ n5_ n6_ ⊢
        have HO355 := n0_
        have HO363 := n1_
        have HO369 := n2_
        have BK360 := n3_
        have BK366 := n4_
        have BK372 := n5_
        have HB := n6_
        clear n0_ n1_ n2_ n3_ n4_ n5_ n6_
        have n0_ := Aside0.mk (Kd.S_drew HO355.out)
        have n1_ := Aside0.mk (Kd.S_drew HO363.out)
        have n2_ := Aside0.mk (Kd.S_drew HO369.out)
        have n3_ := Aside0.mk (blk_drew BK360.out)
        have n4_ := Aside0.mk (blk_drew BK366.out)
        have n5_ := Aside0.mk (blk_drew BK372.out)
        have n6_ := Aside0.mk (below_drew1 HB.out)
        clear HO355
        clear HO363
        clear HO369
        clear BK360
        clear BK366
        clear BK372
        clear HB
        have HO355 := n0_
        have HO363 := n1_
        have HO369 := n2_
        have BK360 := n3_
        have BK366 := n4_
        have BK372 := n5_
        have HB := n6_
        clear n0_ n1_ n2_ n3_ n4_ n5_ n6_
        refine start_ (n := 16) (S := fun w' => True) (ds := []) (bs 16 0) kR rfl kR trivial (fun hHeld => ?_); refine with_tabW laws_FnWorlds.tab6 laws_FnWorlds.bits6 (fun HT_ HW_ => ?_)
        generalize w25.drew = w26 at HO355 HO363 HO369 BK360 BK366 BK372 HB hHeld ⊢
        refine pure_ (i := 0) (N := some 69) (v := ?_) (a' := ?_) (bs 16 1) rfl rfl (any_of HT_.out (by kernel_rfl)) (fun _ _ _ h => h) (Or.inl ⟨by rfl, ?_⟩) ?_ ?_
        rotate_left
        · intro w'
          go_simp
          with_reducible rfl
        rotate_left
        · simp only [Act.put, List.setIfInBounds_toArray, List.set_cons_zero, List.set_cons_succ, i64_w, i32_w]
          rfl
        refine pure_ (i := 1) (N := some 70) (v := ?_) (a' := ?_) (bs 16 3) rfl rfl (any_of HT_.out (by kernel_rfl)) (fun _ _ _ h => h) (Or.inl ⟨by rfl, ?_⟩) ?_ ?_
        rotate_left
        · intro w'
          go_simp
          with_reducible rfl
        rotate_left
        · simp only [Act.put, List.setIfInBounds_toArray, List.set_cons_zero, List.set_cons_succ, i64_w, i32_w]
          rfl
        refine pure_ (i := 2) (N := some 71) (v := ?_) (a' := ?_) (bs 16 7) rfl rfl (any_of HT_.out (by kernel_rfl)) (fun _ _ _ h => h) (Or.inl ⟨by rfl, ?_⟩) ?_ ?_
        rotate_left
        · intro w'
          go_simp
          with_reducible rfl
        rotate_left
        · simp only [Act.put, List.setIfInBounds_toArray, List.set_cons_zero, List.set_cons_succ, i64_w, i32_w]
          rfl
        refine pure_ (i := 3) (N := some 72) (v := ?_) (a' := ?_) (bs 16 15) rfl rfl (any_of HT_.out (by kernel_rfl)) (fun _ _ _ h => h) (Or.inl ⟨by rfl, ?_⟩) ?_ ?_
        rotate_left
        · intro w'
          go_simp
          with_reducible rfl
        rotate_left
        · simp only [Act.put, List.setIfInBounds_toArray, List.set_cons_zero, List.set_cons_succ, i64_w, i32_w]
          rfl
        refine pure_ (i := 4) (N := some 73) (v := undef) (a' := ?_) (bs 16 31) rfl rfl (any_of HT_.out (by kernel_rfl)) (fun _ _ _ h => h) (Or.inr ⟨by rfl, rfl⟩) ?_ ?_
        rotate_left
        · simp only [Act.put, List.setIfInBounds_toArray, List.set_cons_zero, List.set_cons_succ, i64_w, i32_w]
          rfl
        refine pure_ (i := 5) (N := some 74) (v := undef) (a' := ?_) (bs 16 63) rfl rfl (any_of HT_.out (by kernel_rfl)) (fun _ _ _ h => h) (Or.inr ⟨by rfl, rfl⟩) ?_ ?_
        rotate_left
        · simp only [Act.put, List.setIfInBounds_toArray, List.set_cons_zero, List.set_cons_succ, i64_w, i32_w]
          rfl
        refine pure_ (i := 6) (N := some 75) (v := undef) (a' := ?_) (bs 16 127) rfl rfl (any_of HT_.out (by kernel_rfl)) (fun _ _ _ h => h) (Or.inr ⟨by rfl, rfl⟩) ?_ ?_
        rotate_left
        · simp only [Act.put, List.setIfInBounds_toArray, List.set_cons_zero, List.set_cons_succ, i64_w, i32_w]
          rfl
        refine pure_ (i := 7) (N := some 76) (v := undef) (a' := ?_) (bs 16 255) rfl rfl (any_of HT_.out (by kernel_rfl)) (fun _ _ _ h => h) (Or.inr ⟨by rfl, rfl⟩) ?_ ?_
        rotate_left
        · simp only [Act.put, List.setIfInBounds_toArray, List.set_cons_zero, List.set_cons_succ, i64_w, i32_w]
          rfl
        refine pure_ (i := 8) (N := some 77) (v := ?_) (a' := ?_) (bs 16 511) rfl rfl (any_of HT_.out (by kernel_rfl)) (fun _ _ _ h => h) (Or.inl ⟨by rfl, ?_⟩) ?_ ?_
        rotate_left
        · intro w'
          go_simp
          with_reducible rfl
        rotate_left
        · simp only [Act.put, List.setIfInBounds_toArray, List.set_cons_zero, List.set_cons_succ, i64_w, i32_w]
          rfl
        refine pure_ (i := 9) (N := some 78) (v := ?_) (a' := ?_) (bs 16 1023) rfl rfl (any_of HT_.out (by kernel_rfl)) (fun _ _ _ h => h) (Or.inl ⟨by rfl, ?_⟩) ?_ ?_
        rotate_left
        · intro w'
          go_simp
          with_reducible rfl
        rotate_left
        · simp only [Act.put, List.setIfInBounds_toArray, List.set_cons_zero, List.set_cons_succ, i64_w, i32_w]
          rfl
        refine pure_ (i := 10) (N := some 79) (v := undef) (a' := ?_) (bs 16 2047) rfl rfl (any_of HT_.out (by kernel_rfl)) (fun _ _ _ h => h) (Or.inr ⟨by rfl, rfl⟩) ?_ ?_
        rotate_left
        · simp only [Act.put, List.setIfInBounds_toArray, List.set_cons_zero, List.set_cons_succ, i64_w, i32_w]
          rfl
        refine pure_ (i := 11) (N := some 80) (v := undef) (a' := ?_) (bs 16 4095) rfl rfl (any_of HT_.out (by kernel_rfl)) (fun _ _ _ h => h) (Or.inr ⟨by rfl, rfl⟩) ?_ ?_
        rotate_left
        · simp only [Act.put, List.setIfInBounds_toArray, List.set_cons_zero, List.set_cons_succ, i64_w, i32_w]
          rfl
        refine pure_ (i := 12) (N := some 81) (v := undef) (a' := ?_) (bs 16 8191) rfl rfl (any_of HT_.out (by kernel_rfl)) (fun _ _ _ h => h) (Or.inr ⟨by rfl, rfl⟩) ?_ ?_
        rotate_left
        · simp only [Act.put, List.setIfInBounds_toArray, List.set_cons_zero, List.set_cons_succ, i64_w, i32_w]
          rfl
        refine pure_ (i := 13) (N := some 82) (v := undef) (a' := ?_) (bs 16 16383) rfl rfl (any_of HT_.out (by kernel_rfl)) (fun _ _ _ h => h) (Or.inr ⟨by rfl, rfl⟩) ?_ ?_
        rotate_left
        · simp only [Act.put, List.setIfInBounds_toArray, List.set_cons_zero, List.set_cons_succ, i64_w, i32_w]
          rfl
        refine pure_ (i := 14) (N := some 83) (v := undef) (a' := ?_) (bs 16 32767) rfl rfl (any_of HT_.out (by kernel_rfl)) (fun _ _ _ h => h) (Or.inr ⟨by rfl, rfl⟩) ?_ ?_
        rotate_left
        · simp only [Act.put, List.setIfInBounds_toArray, List.set_cons_zero, List.set_cons_succ, i64_w, i32_w]
          rfl
        refine pure_ (i := 15) (N := some 84) (v := ?_) (a' := ?_) (bs 16 65535) rfl rfl (any_of HT_.out (by kernel_rfl)) (fun _ _ _ h => h) (Or.inl ⟨by rfl, ?_⟩) ?_ ?_
        rotate_left
        · intro w'
          go_simp
          with_reducible rfl
        rotate_left
        · simp only [Act.put, List.setIfInBounds_toArray, List.set_cons_zero, List.set_cons_succ, i64_w, i32_w]
          rfl
        refine done_ (done_of HT_.out (by kernel_rfl)) ?_
        try go_wp2
        go_meet
        case rel => (refine ⟨_, (true), lF, H', ?_⟩; refine ⟨⟨lN⟩, ?_⟩; refine ⟨⟨by (with_reducible repeat (first | apply Kd.S_alloc | apply Kd.S_drewN | apply Kd.S_drew)); exact Kd.S_mono HO355.out (fun _ hk => hk.1)⟩, ?_⟩; refine ⟨⟨by (with_reducible repeat (first | apply Kd.S_alloc | apply Kd.S_drewN | apply Kd.S_drew)); exact Kd.S_mono HO363.out (fun _ hk => hk.1)⟩, ?_⟩; refine ⟨⟨lK BK360.out⟩, ?_⟩; refine ⟨⟨lK BK366.out⟩, ?_⟩; exact ⟨lB⟩)
      · rw [if_neg c24] at H
        have c24b0 : (t365 != t371) = false := by simpa using c24
        (try (have c24b1 : decide (t365 = t371) = true := by simpa using c24))
        (try (have c24b2 : (t365 == t371) = true := by simpa using c24))
        clear c24
        (first | rw [c24b0] | (simp only [i64_w, i32_w]; rw [c24b0]) | skip)
        replace H := lO H
        obtain ⟨t373, A27, H⟩ := H
        by_cases c28 : t373 = true
        · subst c28
          rw [if_pos rfl] at H
          replace H := lO H
          obtain ⟨t374, A29, H⟩ := H
          replace H := lO H
          obtain ⟨t375, A30, H⟩ := H
          have H' := Aside0.mk H
          clear H
          try go_wp2
          have n0_ : Aside0 (Kd.S k82 82 ((w19.setCell ⟨gb372, 0, none⟩ (.slice Ao20 t367.length co20)).setCell ⟨gb372, 1, none⟩ (.int .i64 t370)) w.heap.size (fun k_ => some k_ ≠ (.slice Ao14 t361.length co14 : Value).ownBlock ∧ some k_ ≠ (.slice Ao20 t367.length co20 : Value).ownBlock) (.slice Ao10 t353.length co10) t353) := ⟨by (with_reducible repeat (first | apply Kd.S_alloc | apply Kd.S_drewN | apply Kd.S_drew)); exact Kd.S_mono (Kd.S_far (p := ⟨gb372, 1, none⟩) (Kd.S_far (p := ⟨gb372, 0, none⟩) (Kd.S_types HO355.out BK372.out (by decide)) (fun _ hk => hk.2) (.slice Ao20 t367.length co20)) (fun _ hk => hk.2) (.int .i64 t370)) (fun _ hk => ⟨hk.1.1.2, hk.1.2⟩)⟩
          have n1_ : Aside0 (Kd.S k82 82 ((w19.setCell ⟨gb372, 0, none⟩ (.slice Ao20 t367.length co20)).setCell ⟨gb372, 1, none⟩ (.int .i64 t370)) w.heap.size (fun k_ => some k_ ≠ (.slice Ao10 t353.length co10 : Value).ownBlock ∧ some k_ ≠ (.slice Ao20 t367.length co20 : Value).ownBlock) (.slice Ao14 t361.length co14) t361) := ⟨by (with_reducible repeat (first | apply Kd.S_alloc | apply Kd.S_drewN | apply Kd.S_drew)); exact Kd.S_mono (Kd.S_far (p := ⟨gb372, 1, none⟩) (Kd.S_far (p := ⟨gb372, 0, none⟩) (Kd.S_types HO363.out BK372.out (by decide)) (fun _ hk => hk.2) (.slice Ao20 t367.length co20)) (fun _ hk => hk.2) (.int .i64 t370)) (fun _ hk => ⟨hk.1.1.2, hk.1.2⟩)⟩
          have n2_ : Aside0 (Kd.S k82 82 ((w19.setCell ⟨gb372, 0, none⟩ (.slice Ao20 t367.length co20)).setCell ⟨gb372, 1, none⟩ (.int .i64 t370)) w.heap.size (fun k_ => some k_ ≠ (.slice Ao10 t353.length co10 : Value).ownBlock ∧ some k_ ≠ (.slice Ao14 t361.length co14 : Value).ownBlock) (.slice Ao20 t367.length co20) t367) := ⟨by (with_reducible repeat (first | apply Kd.S_alloc | apply Kd.S_drewN | apply Kd.S_drew)); exact Kd.S_mono (Kd.S_far (p := ⟨gb372, 1, none⟩) (Kd.S_far (p := ⟨gb372, 0, none⟩) (Kd.S_types HO369.out BK372.out (by decide)) (fun _ hk => hk.2) (.slice Ao20 t367.length co20)) (fun _ hk => hk.2) (.int .i64 t370)) (fun _ hk => ⟨hk.1.1.2, hk.1.2⟩)⟩
          have n3_ : Aside0 (((w19.setCell ⟨gb372, 0, none⟩ (.slice Ao20 t367.length co20)).setCell ⟨gb372, 1, none⟩ (.int .i64 t370)).heap[gb360]? = some (.cells #[.slice Ao10 t353.length co10, .int .i64 t356] 29 (0, 0))) := ⟨lJ BK360.out⟩
          have n4_ : Aside0 (((w19.setCell ⟨gb372, 0, none⟩ (.slice Ao20 t367.length co20)).setCell ⟨gb372, 1, none⟩ (.int .i64 t370)).heap[gb366]? = some (.cells #[.slice Ao14 t361.length co14, .int .i64 t364] 29 (0, 0))) := ⟨lJ BK366.out⟩
          have n5_ : Aside0 (((w19.setCell ⟨gb372, 0, none⟩ (.slice Ao20 t367.length co20)).setCell ⟨gb372, 1, none⟩ (.int .i64 t370)).heap[gb372]? = some (.cells #[.slice Ao20 t367.length co20, .int .i64 t370] 29 (0, 0))) := ⟨by (with_reducible repeat first | apply bN | apply bD | apply bA); refine blk_put (cs := #[.slice Ao20 t367.length co20, .int .i64 0]) ?_ 1 _ rfl; (with_reducible repeat first | apply bN | apply bD | apply bA); refine blk_put (cs := #[.slice none 0 0, .int .i64 0]) ?_ 0 _ rfl; (with_reducible repeat first | apply bN | apply bD | apply bA); exact BK372.out⟩
          have n6_ : Aside0 (Below w.heap.size w ((w19.setCell ⟨gb372, 0, none⟩ (.slice Ao20 t367.length co20)).setCell ⟨gb372, 1, none⟩ (.int .i64 t370))) := ⟨lB⟩
          (try clear HO355)
          (try clear HO363)
          (try clear HO369)
          (try clear BK360)
          (try clear BK366)
          (try clear BK372)
          (try clear HB)
          generalize ((w19.setCell ⟨gb372, 0, none⟩ (.slice Ao20 t367.length co20)).setCell ⟨gb372, 1, none⟩ (.int .i64 t370)) = w31 at n0_ n1_ n2_ n3_ n4_ n5_ n6_ ⊢
          have HO355 := n0_
          have HO363 := n1_
          have HO369 := n2_
          have BK360 := n3_
          have BK366 := n4_
          have BK372 := n5_
          have HB := n6_
          clear n0_ n1_ n2_ n3_ n4_ n5_ n6_
          have n0_ := Aside0.mk (Kd.S_drew HO355.out)
          have n1_ := Aside0.mk (Kd.S_drew HO363.out)
          have n2_ := Aside0.mk (Kd.S_drew HO369.out)
          have n3_ := Aside0.mk (blk_drew BK360.out)
          have n4_ := Aside0.mk (blk_drew BK366.out)
          have n5_ := Aside0.mk (blk_drew BK372.out)
          have n6_ := Aside0.mk (below_drew1 HB.out)
          clear HO355
          clear HO363
          clear HO369
          clear BK360
          clear BK366
          clear BK372
          clear HB
          have HO355 := n0_
          have HO363 := n1_
          have HO369 := n2_
          have BK360 := n3_
          have BK366 := n4_
          have BK372 := n5_
          have HB := n6_
          clear n0_ n1_ n2_ n3_ n4_ n5_ n6_
          refine start_ (n := 16) (S := fun w' => w'.cell? ⟨gb366, 0, none⟩ = some (.slice Ao14 t361.length co14) ∧ w'.cell? ⟨gb366, 1, none⟩ = some (.int .i64 t364) ∧ w'.cell? ⟨gb372, 0, none⟩ = some (.slice Ao20 t367.length co20) ∧ w'.cell? ⟨gb372, 1, none⟩ = some (.int .i64 t370) ∧ w'.cell? ⟨gb360, 0, none⟩ = some (.slice Ao10 t353.length co10) ∧ w'.cell? ⟨gb360, 1, none⟩ = some (.int .i64 t356)) (ds := []) (bs 16 0) kR rfl kR ⟨bZ BK366.out 0, bZ BK366.out 1, bZ BK372.out 0, bZ BK372.out 1, bZ BK360.out 0, bZ BK360.out 1⟩ (fun hHeld => ?_); refine with_tabW laws_FnWorlds.tab6 laws_FnWorlds.bits6 (fun HT_ HW_ => ?_)
          generalize w31.drew = w32 at HO355 HO363 HO369 BK360 BK366 BK372 HB hHeld ⊢
          refine pure_ (i := 0) (N := some 69) (v := ?_) (a' := ?_) (bs 16 1) rfl rfl (any_of HT_.out (by kernel_rfl)) (fun _ _ _ h => h) (Or.inl ⟨by rfl, ?_⟩) ?_ ?_
          rotate_left
          · intro w'
            go_simp
            with_reducible rfl
          rotate_left
          · simp only [Act.put, List.setIfInBounds_toArray, List.set_cons_zero, List.set_cons_succ, i64_w, i32_w]
            rfl
          refine pure_ (i := 1) (N := some 70) (v := ?_) (a' := ?_) (bs 16 3) rfl rfl (any_of HT_.out (by kernel_rfl)) (fun _ _ _ h => h) (Or.inl ⟨by rfl, ?_⟩) ?_ ?_
          rotate_left
          · intro w'
            go_simp
            with_reducible rfl
          rotate_left
          · simp only [Act.put, List.setIfInBounds_toArray, List.set_cons_zero, List.set_cons_succ, i64_w, i32_w]
            rfl
          refine pure_ (i := 2) (N := some 71) (v := ?_) (a' := ?_) (bs 16 7) rfl rfl (any_of HT_.out (by kernel_rfl)) (fun _ _ _ h => h) (Or.inl ⟨by rfl, ?_⟩) ?_ ?_
          rotate_left
          · intro w'
            go_simp
            with_reducible rfl
          rotate_left
          · simp only [Act.put, List.setIfInBounds_toArray, List.set_cons_zero, List.set_cons_succ, i64_w, i32_w]
            rfl
          refine pure_ (i := 3) (N := some 72) (v := ?_) (a' := ?_) (bs 16 15) rfl rfl (any_of HT_.out (by kernel_rfl)) (fun _ _ _ h => h) (Or.inl ⟨by rfl, ?_⟩) ?_ ?_
          rotate_left
          · intro w'
            go_simp
            with_reducible rfl
          rotate_left
          · simp only [Act.put, List.setIfInBounds_toArray, List.set_cons_zero, List.set_cons_succ, i64_w, i32_w]
            rfl
          refine take_ (i := 4) (N := some 73) (v := ?_) (a' := ?_) (bs 16 31) rfl rfl (take_ofW HT_.out HW_.out (by kernel_rfl)) (fun _ _ _ h => h) (Or.inl ⟨by rfl, ?_⟩) hHeld ?_ ?_
          rotate_left
          · rintro w' ⟨s0, s1, s2, s3, s4, s5⟩
            go_simp
            with_reducible rfl
          rotate_left
          · simp only [Act.put, List.setIfInBounds_toArray, List.set_cons_zero, List.set_cons_succ, i64_w, i32_w]
            rfl
          refine take_ (i := 5) (N := some 74) (v := ?_) (a' := ?_) (bs 16 63) rfl rfl (take_ofW HT_.out HW_.out (by kernel_rfl)) (fun _ _ _ h => h) (Or.inl ⟨by rfl, ?_⟩) hHeld ?_ ?_
          rotate_left
          · rintro w' ⟨s0, s1, s2, s3, s4, s5⟩
            go_simp
            with_reducible rfl
          rotate_left
          · simp only [Act.put, List.setIfInBounds_toArray, List.set_cons_zero, List.set_cons_succ, i64_w, i32_w]
            rfl
          refine one_ (i := 6) (N := some 75) (bs 16 127) rfl rfl (one_of HT_.out (by kernel_rfl)) (by decide) (fun K hK => ?_)
          refine goes_ Try.func36 (by kernel_rfl) rfl #[.agg #[.slice Ao14 t361.length co14, .int .i64 t364], .agg #[.slice Ao20 t367.length co20, .int .i64 t370]] (by rfl) rfl rfl (by (try simp only [List.map_toArray, List.map_cons, List.map_nil]); first | done | rfl | (simp only [List.length_drop, List.length_take]; rfl)) ?_
          with_reducible refine (laws_sameWorlds.calls k _ _ t361 t364 _ _ t367 t370 true _ ?side1 ?side2 ?side3 ?side4 A27.out).mono ?_
          (case side1 => repeat (first | exact (Kd.S_reads' HO363.out).2.2 | (with_reducible refine Kd.C_alloc ?_ _) | (with_reducible refine Kd.C_drewN ?_ _) | (with_reducible refine Kd.C_drew ?_)))
          (case side2 => exact (Kd.S_reads' HO363.out).2.1)
          (case side3 => repeat (first | exact (Kd.S_reads' HO369.out).2.2 | (with_reducible refine Kd.C_alloc ?_ _) | (with_reducible refine Kd.C_drewN ?_ _) | (with_reducible refine Kd.C_drew ?_)))
          (case side4 => exact (Kd.S_reads' HO369.out).2.1)
          rintro e w33 ⟨rfl, hb⟩
          refine ⟨_, rfl, ?_⟩
          have n0_ := Aside0.mk (Kd.S_below (lS HO355.out) hb)
          have n1_ := Aside0.mk (Kd.S_below (lS HO363.out) hb)
          have n2_ := Aside0.mk (Kd.S_below (lS HO369.out) hb)
          have n3_ := Aside0.mk (blk_below (lK BK360.out) hb)
          have n4_ := Aside0.mk (blk_below (lK BK366.out) hb)
          have n5_ := Aside0.mk (blk_below (lK BK372.out) hb)
          have n6_ := Aside0.mk (below_step lB hb)
          clear HO355
          clear HO363
          clear HO369
          clear BK360
          clear BK366
          clear BK372
          clear HB
          have HO355 := n0_
          have HO363 := n1_
          have HO369 := n2_
          have BK360 := n3_
          have BK366 := n4_
          have BK372 := n5_
          have HB := n6_
          clear n0_ n1_ n2_ n3_ n4_ n5_ n6_
          (try clear hb)
          (try clear hb2)
          (try clear hk)
          (try clear hi)
          refine hK.out _ _ ⟨bZ BK366.out 0, bZ BK366.out 1, bZ BK372.out 0, bZ BK372.out 1, bZ BK360.out 0, bZ BK360.out 1⟩ (fun hHeld => ?_)
          clear hK K
          refine norm_ (a' := ?_) ?_ ?_
          rotate_left
          · show Act.put _ (some 75) _ = _
            simp only [Act.put, List.setIfInBounds_toArray, List.set_cons_zero, List.set_cons_succ, i64_w, i32_w]
            rfl
          refine pure_ (i := 7) (N := some 76) (v := ?_) (a' := ?_) (bs 16 255) rfl rfl (any_of HT_.out (by kernel_rfl)) (fun _ _ _ h => h) (Or.inl ⟨by rfl, ?_⟩) ?_ ?_
          rotate_left
          · intro w'
            go_simp
            with_reducible rfl
          rotate_left
          · simp only [Act.put, List.setIfInBounds_toArray, List.set_cons_zero, List.set_cons_succ, i64_w, i32_w]
            rfl
          refine pure_ (i := 8) (N := some 77) (v := ?_) (a' := ?_) (bs 16 511) rfl rfl (any_of HT_.out (by kernel_rfl)) (fun _ _ _ h => h) (Or.inl ⟨by rfl, ?_⟩) ?_ ?_
          rotate_left
          · intro w'
            go_simp
            with_reducible rfl
          rotate_left
          · simp only [Act.put, List.setIfInBounds_toArray, List.set_cons_zero, List.set_cons_succ, i64_w, i32_w]
            rfl
          refine pure_ (i := 9) (N := some 78) (v := ?_) (a' := ?_) (bs 16 1023) rfl rfl (any_of HT_.out (by kernel_rfl)) (fun _ _ _ h => h) (Or.inl ⟨by rfl, ?_⟩) ?_ ?_
          rotate_left
          · intro w'
            go_simp
            with_reducible rfl
          rotate_left
          · simp only [Act.put, List.setIfInBounds_toArray, List.set_cons_zero, List.set_cons_succ, i64_w, i32_w]
            rfl
          refine take_ (i := 10) (N := some 79) (v := ?_) (a' := ?_) (bs 16 2047) rfl rfl (take_ofW HT_.out HW_.out (by kernel_rfl)) (fun _ _ _ h => h) (Or.inl ⟨by rfl, ?_⟩) hHeld ?_ ?_
          rotate_left
          · rintro w' ⟨s0, s1, s2, s3, s4, s5⟩
            go_simp
            with_reducible rfl
          rotate_left
          · simp only [Act.put, List.setIfInBounds_toArray, List.set_cons_zero, List.set_cons_succ, i64_w, i32_w]
            rfl
          refine take_ (i := 12) (N := some 81) (v := ?_) (a' := ?_) (bs 16 6143) rfl rfl (take_ofW HT_.out HW_.out (by kernel_rfl)) (fun _ _ _ h => h) (Or.inl ⟨by rfl, ?_⟩) hHeld ?_ ?_
          rotate_left
          · rintro w' ⟨s0, s1, s2, s3, s4, s5⟩
            go_simp
            with_reducible rfl
          rotate_left
          · simp only [Act.put, List.setIfInBounds_toArray, List.set_cons_zero, List.set_cons_succ, i64_w, i32_w]
            rfl
          refine one_ (i := 11) (N := some 80) (bs 16 8191) rfl rfl (one_of HT_.out (by kernel_rfl)) (by decide) (fun K hK => ?_)
          refine goes_ Try.func16 (by kernel_rfl) rfl #[.agg #[.slice Ao10 t353.length co10, .int .i64 t356]] (by rfl) rfl rfl (by (try simp only [List.map_toArray, List.map_cons, List.map_nil]); first | done | rfl | (simp only [List.length_drop, List.length_take]; rfl)) ?_
          with_reducible refine (impl_GoodWorld.calls k _ _ t353 t356 t374 _ ?side1 ?side2 A29.out).mono ?_
          (case side1 => repeat (first | exact (Kd.S_reads' HO355.out).2.2 | (with_reducible refine Kd.C_alloc ?_ _) | (with_reducible refine Kd.C_drewN ?_ _) | (with_reducible refine Kd.C_drew ?_)))
          (case side2 => exact (Kd.S_reads' HO355.out).2.1)
          rintro e w34 ⟨rfl, hb⟩
          refine ⟨_, rfl, ?_⟩
          have n0_ := Aside0.mk (Kd.S_below (lS HO355.out) hb)
          have n1_ := Aside0.mk (Kd.S_below (lS HO363.out) hb)
          have n2_ := Aside0.mk (Kd.S_below (lS HO369.out) hb)
          have n3_ := Aside0.mk (blk_below (lK BK360.out) hb)
          have n4_ := Aside0.mk (blk_below (lK BK366.out) hb)
          have n5_ := Aside0.mk (blk_below (lK BK372.out) hb)
          have n6_ := Aside0.mk (below_step lB hb)
          clear HO355
          clear HO363
          clear HO369
          clear BK360
          clear BK366
          clear BK372
          clear HB
          have HO355 := n0_
          have HO363 := n1_
          have HO369 := n2_
          have BK360 := n3_
          have BK366 := n4_
          have BK372 := n5_
          have HB := n6_
          clear n0_ n1_ n2_ n3_ n4_ n5_ n6_
          (try clear hb)
          (try clear hb2)
          (try clear hk)
          (try clear hi)
          refine hK.out _ _ ⟨bZ BK366.out 0, bZ BK366.out 1, bZ BK372.out 0, bZ BK372.out 1, bZ BK360.out 0, bZ BK360.out 1⟩ (fun hHeld => ?_)
          clear hK K
          refine norm_ (a' := ?_) ?_ ?_
          rotate_left
          · show Act.put _ (some 80) _ = _
            simp only [Act.put, List.setIfInBounds_toArray, List.set_cons_zero, List.set_cons_succ, i64_w, i32_w]
            rfl
          refine one_ (i := 13) (N := some 82) (bs 16 16383) rfl rfl (one_of HT_.out (by kernel_rfl)) (by decide) (fun K hK => ?_)
          refine goes_ Try.func14 (by kernel_rfl) rfl #[.agg #[.slice Ao10 t353.length co10, .int .i64 t356]] (by rfl) rfl rfl (by (try simp only [List.map_toArray, List.map_cons, List.map_nil]); first | done | rfl | (simp only [List.length_drop, List.length_take]; rfl)) ?_
          with_reducible refine (spec_GoodWorld.calls k _ _ t353 t356 t375 _ ?side1 ?side2 A30.out).mono ?_
          (case side1 => repeat (first | exact (Kd.S_reads' HO355.out).2.2 | (with_reducible refine Kd.C_alloc ?_ _) | (with_reducible refine Kd.C_drewN ?_ _) | (with_reducible refine Kd.C_drew ?_)))
          (case side2 => exact (Kd.S_reads' HO355.out).2.1)
          rintro e w35 ⟨rfl, hb⟩
          refine ⟨_, rfl, ?_⟩
          have n0_ := Aside0.mk (Kd.S_below (lS HO355.out) hb)
          have n1_ := Aside0.mk (Kd.S_below (lS HO363.out) hb)
          have n2_ := Aside0.mk (Kd.S_below (lS HO369.out) hb)
          have n3_ := Aside0.mk (blk_below (lK BK360.out) hb)
          have n4_ := Aside0.mk (blk_below (lK BK366.out) hb)
          have n5_ := Aside0.mk (blk_below (lK BK372.out) hb)
          have n6_ := Aside0.mk (below_step lB hb)
          clear HO355
          clear HO363
          clear HO369
          clear BK360
          clear BK366
          clear BK372
          clear HB
          have HO355 := n0_
          have HO363 := n1_
          have HO369 := n2_
          have BK360 := n3_
          have BK366 := n4_
          have BK372 := n5_
          have HB := n6_
          clear n0_ n1_ n2_ n3_ n4_ n5_ n6_
          (try clear hb)
          (try clear hb2)
          (try clear hk)
          (try clear hi)
          refine hK.out _ _ ⟨bZ BK366.out 0, bZ BK366.out 1, bZ BK372.out 0, bZ BK372.out 1, bZ BK360.out 0, bZ BK360.out 1⟩ (fun hHeld => ?_)
          clear hK K
          refine norm_ (a' := ?_) ?_ ?_
          rotate_left
          · show Act.put _ (some 82) _ = _
            simp only [Act.put, List.setIfInBounds_toArray, List.set_cons_zero, List.set_cons_succ, i64_w, i32_w]
            rfl
          refine pure_ (i := 14) (N := some 83) (v := ?_) (a' := ?_) (bs 16 32767) rfl rfl (any_of HT_.out (by kernel_rfl)) (fun _ _ _ h => h) (Or.inl ⟨by rfl, ?_⟩) ?_ ?_
          rotate_left
          · intro w'
            go_simp
            with_reducible rfl
          rotate_left
          · simp only [Act.put, List.setIfInBounds_toArray, List.set_cons_zero, List.set_cons_succ, i64_w, i32_w]
            rfl
          refine pure_ (i := 15) (N := some 84) (v := ?_) (a' := ?_) (bs 16 65535) rfl rfl (any_of HT_.out (by kernel_rfl)) (fun _ _ _ h => h) (Or.inl ⟨by rfl, ?_⟩) ?_ ?_
          rotate_left
          · intro w'
            go_simp
            with_reducible rfl
          rotate_left
          · simp only [Act.put, List.setIfInBounds_toArray, List.set_cons_zero, List.set_cons_succ, i64_w, i32_w]
            rfl
          refine done_ (done_of HT_.out (by kernel_rfl)) ?_
          try go_wp2
          go_meet
          case rel => (refine ⟨_, ((t374 != t375)), lF, H', ?_⟩; refine ⟨⟨lN⟩, ?_⟩; refine ⟨⟨by (with_reducible repeat (first | apply Kd.S_alloc | apply Kd.S_drewN | apply Kd.S_drew)); exact Kd.S_mono HO355.out (fun _ hk => hk.1)⟩, ?_⟩; refine ⟨⟨by (with_reducible repeat (first | apply Kd.S_alloc | apply Kd.S_drewN | apply Kd.S_drew)); exact Kd.S_mono HO363.out (fun _ hk => hk.1)⟩, ?_⟩; refine ⟨⟨lK BK360.out⟩, ?_⟩; refine ⟨⟨lK BK366.out⟩, ?_⟩; exact ⟨lB⟩)
        · replace c28 := Bool.eq_false_iff.mpr c28
          subst c28
          rw [if_neg (show ¬ (false = true) by decide)] at H
          have H' := Aside0.mk H
          clear H
          try go_wp2
          have n0_ : Aside0 (Kd.S k82 82 ((w19.setCell ⟨gb372, 0, none⟩ (.slice Ao20 t367.length co20)).setCell ⟨gb372, 1, none⟩ (.int .i64 t370)) w.heap.size (fun k_ => some k_ ≠ (.slice Ao14 t361.length co14 : Value).ownBlock ∧ some k_ ≠ (.slice Ao20 t367.length co20 : Value).ownBlock) (.slice Ao10 t353.length co10) t353) := ⟨by (with_reducible repeat (first | apply Kd.S_alloc | apply Kd.S_drewN | apply Kd.S_drew)); exact Kd.S_mono (Kd.S_far (p := ⟨gb372, 1, none⟩) (Kd.S_far (p := ⟨gb372, 0, none⟩) (Kd.S_types HO355.out BK372.out (by decide)) (fun _ hk => hk.2) (.slice Ao20 t367.length co20)) (fun _ hk => hk.2) (.int .i64 t370)) (fun _ hk => ⟨hk.1.1.2, hk.1.2⟩)⟩
          have n1_ : Aside0 (Kd.S k82 82 ((w19.setCell ⟨gb372, 0, none⟩ (.slice Ao20 t367.length co20)).setCell ⟨gb372, 1, none⟩ (.int .i64 t370)) w.heap.size (fun k_ => some k_ ≠ (.slice Ao10 t353.length co10 : Value).ownBlock ∧ some k_ ≠ (.slice Ao20 t367.length co20 : Value).ownBlock) (.slice Ao14 t361.length co14) t361) := ⟨by (with_reducible repeat (first | apply Kd.S_alloc | apply Kd.S_drewN | apply Kd.S_drew)); exact Kd.S_mono (Kd.S_far (p := ⟨gb372, 1, none⟩) (Kd.S_far (p := ⟨gb372, 0, none⟩) (Kd.S_types HO363.out BK372.out (by decide)) (fun _ hk => hk.2) (.slice Ao20 t367.length co20)) (fun _ hk => hk.2) (.int .i64 t370)) (fun _ hk => ⟨hk.1.1.2, hk.1.2⟩)⟩
          have n2_ : Aside0 (Kd.S k82 82 ((w19.setCell ⟨gb372, 0, none⟩ (.slice Ao20 t367.length co20)).setCell ⟨gb372, 1, none⟩ (.int .i64 t370)) w.heap.size (fun k_ => some k_ ≠ (.slice Ao10 t353.length co10 : Value).ownBlock ∧ some k_ ≠ (.slice Ao14 t361.length co14 : Value).ownBlock) (.slice Ao20 t367.length co20) t367) := ⟨by (with_reducible repeat (first | apply Kd.S_alloc | apply Kd.S_drewN | apply Kd.S_drew)); exact Kd.S_mono (Kd.S_far (p := ⟨gb372, 1, none⟩) (Kd.S_far (p := ⟨gb372, 0, none⟩) (Kd.S_types HO369.out BK372.out (by decide)) (fun _ hk => hk.2) (.slice Ao20 t367.length co20)) (fun _ hk => hk.2) (.int .i64 t370)) (fun _ hk => ⟨hk.1.1.2, hk.1.2⟩)⟩
          have n3_ : Aside0 (((w19.setCell ⟨gb372, 0, none⟩ (.slice Ao20 t367.length co20)).setCell ⟨gb372, 1, none⟩ (.int .i64 t370)).heap[gb360]? = some (.cells #[.slice Ao10 t353.length co10, .int .i64 t356] 29 (0, 0))) := ⟨lJ BK360.out⟩
          have n4_ : Aside0 (((w19.setCell ⟨gb372, 0, none⟩ (.slice Ao20 t367.length co20)).setCell ⟨gb372, 1, none⟩ (.int .i64 t370)).heap[gb366]? = some (.cells #[.slice Ao14 t361.length co14, .int .i64 t364] 29 (0, 0))) := ⟨lJ BK366.out⟩
          have n5_ : Aside0 (((w19.setCell ⟨gb372, 0, none⟩ (.slice Ao20 t367.length co20)).setCell ⟨gb372, 1, none⟩ (.int .i64 t370)).heap[gb372]? = some (.cells #[.slice Ao20 t367.length co20, .int .i64 t370] 29 (0, 0))) := ⟨by (with_reducible repeat first | apply bN | apply bD | apply bA); refine blk_put (cs := #[.slice Ao20 t367.length co20, .int .i64 0]) ?_ 1 _ rfl; (with_reducible repeat first | apply bN | apply bD | apply bA); refine blk_put (cs := #[.slice none 0 0, .int .i64 0]) ?_ 0 _ rfl; (with_reducible repeat first | apply bN | apply bD | apply bA); exact BK372.out⟩
          have n6_ : Aside0 (Below w.heap.size w ((w19.setCell ⟨gb372, 0, none⟩ (.slice Ao20 t367.length co20)).setCell ⟨gb372, 1, none⟩ (.int .i64 t370))) := ⟨lB⟩
          (try clear HO355)
          (try clear HO363)
          (try clear HO369)
          (try clear BK360)
          (try clear BK366)
          (try clear BK372)
          (try clear HB)
          generalize ((w19.setCell ⟨gb372, 0, none⟩ (.slice Ao20 t367.length co20)).setCell ⟨gb372, 1, none⟩ (.int .i64 t370)) = w36 at n0_ n1_ n2_ n3_ n4_ n5_ n6_ ⊢
          have HO355 := n0_
          have HO363 := n1_
          have HO369 := n2_
          have BK360 := n3_
          have BK366 := n4_
          have BK372 := n5_
          have HB := n6_
          clear n0_ n1_ n2_ n3_ n4_ n5_ n6_
          have n0_ := Aside0.mk (Kd.S_drew HO355.out)
          have n1_ := Aside0.mk (Kd.S_drew HO363.out)
          have n2_ := Aside0.mk (Kd.S_drew HO369.out)
          have n3_ := Aside0.mk (blk_drew BK360.out)
          have n4_ := Aside0.mk (blk_drew BK366.out)
          have n5_ := Aside0.mk (blk_drew BK372.out)
          have n6_ := Aside0.mk (below_drew1 HB.out)
          clear HO355
          clear HO363
          clear HO369
          clear BK360
          clear BK366
          clear BK372
          clear HB
          have HO355 := n0_
          have HO363 := n1_
          have HO369 := n2_
          have BK360 := n3_
          have BK366 := n4_
          have BK372 := n5_
          have HB := n6_
          clear n0_ n1_ n2_ n3_ n4_ n5_ n6_
          refine start_ (n := 16) (S := fun w' => w'.cell? ⟨gb366, 0, none⟩ = some (.slice Ao14 t361.length co14) ∧ w'.cell? ⟨gb366, 1, none⟩ = some (.int .i64 t364) ∧ w'.cell? ⟨gb372, 0, none⟩ = some (.slice Ao20 t367.length co20) ∧ w'.cell? ⟨gb372, 1, none⟩ = some (.int .i64 t370)) (ds := []) (bs 16 0) kR rfl kR ⟨bZ BK366.out 0, bZ BK366.out 1, bZ BK372.out 0, bZ BK372.out 1⟩ (fun hHeld => ?_); refine with_tabW laws_FnWorlds.tab6 laws_FnWorlds.bits6 (fun HT_ HW_ => ?_)
          generalize w36.drew = w37 at HO355 HO363 HO369 BK360 BK366 BK372 HB hHeld ⊢
          refine pure_ (i := 0) (N := some 69) (v := ?_) (a' := ?_) (bs 16 1) rfl rfl (any_of HT_.out (by kernel_rfl)) (fun _ _ _ h => h) (Or.inl ⟨by rfl, ?_⟩) ?_ ?_
          rotate_left
          · intro w'
            go_simp
            with_reducible rfl
          rotate_left
          · simp only [Act.put, List.setIfInBounds_toArray, List.set_cons_zero, List.set_cons_succ, i64_w, i32_w]
            rfl
          refine pure_ (i := 1) (N := some 70) (v := ?_) (a' := ?_) (bs 16 3) rfl rfl (any_of HT_.out (by kernel_rfl)) (fun _ _ _ h => h) (Or.inl ⟨by rfl, ?_⟩) ?_ ?_
          rotate_left
          · intro w'
            go_simp
            with_reducible rfl
          rotate_left
          · simp only [Act.put, List.setIfInBounds_toArray, List.set_cons_zero, List.set_cons_succ, i64_w, i32_w]
            rfl
          refine pure_ (i := 2) (N := some 71) (v := ?_) (a' := ?_) (bs 16 7) rfl rfl (any_of HT_.out (by kernel_rfl)) (fun _ _ _ h => h) (Or.inl ⟨by rfl, ?_⟩) ?_ ?_
          rotate_left
          · intro w'
            go_simp
            with_reducible rfl
          rotate_left
          · simp only [Act.put, List.setIfInBounds_toArray, List.set_cons_zero, List.set_cons_succ, i64_w, i32_w]
            rfl
          refine pure_ (i := 3) (N := some 72) (v := ?_) (a' := ?_) (bs 16 15) rfl rfl (any_of HT_.out (by kernel_rfl)) (fun _ _ _ h => h) (Or.inl ⟨by rfl, ?_⟩) ?_ ?_
          rotate_left
          · intro w'
            go_simp
            with_reducible rfl
          rotate_left
          · simp only [Act.put, List.setIfInBounds_toArray, List.set_cons_zero, List.set_cons_succ, i64_w, i32_w]
            rfl
          refine take_ (i := 4) (N := some 73) (v := ?_) (a' := ?_) (bs 16 31) rfl rfl (take_ofW HT_.out HW_.out (by kernel_rfl)) (fun _ _ _ h => h) (Or.inl ⟨by rfl, ?_⟩) hHeld ?_ ?_
          rotate_left
          · rintro w' ⟨s0, s1, s2, s3⟩
            go_simp
            with_reducible rfl
          rotate_left
          · simp only [Act.put, List.setIfInBounds_toArray, List.set_cons_zero, List.set_cons_succ, i64_w, i32_w]
            rfl
          refine take_ (i := 5) (N := some 74) (v := ?_) (a' := ?_) (bs 16 63) rfl rfl (take_ofW HT_.out HW_.out (by kernel_rfl)) (fun _ _ _ h => h) (Or.inl ⟨by rfl, ?_⟩) hHeld ?_ ?_
          rotate_left
          · rintro w' ⟨s0, s1, s2, s3⟩
            go_simp
            with_reducible rfl
          rotate_left
          · simp only [Act.put, List.setIfInBounds_toArray, List.set_cons_zero, List.set_cons_succ, i64_w, i32_w]
            rfl
          refine one_ (i := 6) (N := some 75) (bs 16 127) rfl rfl (one_of HT_.out (by kernel_rfl)) (by decide) (fun K hK => ?_)
          refine goes_ Try.func36 (by kernel_rfl) rfl #[.agg #[.slice Ao14 t361.length co14, .int .i64 t364], .agg #[.slice Ao20 t367.length co20, .int .i64 t370]] (by rfl) rfl rfl (by (try simp only [List.map_toArray, List.map_cons, List.map_nil]); first | done | rfl | (simp only [List.length_drop, List.length_take]; rfl)) ?_
          with_reducible refine (laws_sameWorlds.calls k _ _ t361 t364 _ _ t367 t370 false _ ?side1 ?side2 ?side3 ?side4 A27.out).mono ?_
          (case side1 => repeat (first | exact (Kd.S_reads' HO363.out).2.2 | (with_reducible refine Kd.C_alloc ?_ _) | (with_reducible refine Kd.C_drewN ?_ _) | (with_reducible refine Kd.C_drew ?_)))
          (case side2 => exact (Kd.S_reads' HO363.out).2.1)
          (case side3 => repeat (first | exact (Kd.S_reads' HO369.out).2.2 | (with_reducible refine Kd.C_alloc ?_ _) | (with_reducible refine Kd.C_drewN ?_ _) | (with_reducible refine Kd.C_drew ?_)))
          (case side4 => exact (Kd.S_reads' HO369.out).2.1)
          rintro e w38 ⟨rfl, hb⟩
          refine ⟨_, rfl, ?_⟩
          have n0_ := Aside0.mk (Kd.S_below (lS HO355.out) hb)
          have n1_ := Aside0.mk (Kd.S_below (lS HO363.out) hb)
          have n2_ := Aside0.mk (Kd.S_below (lS HO369.out) hb)
          have n3_ := Aside0.mk (blk_below (lK BK360.out) hb)
          have n4_ := Aside0.mk (blk_below (lK BK366.out) hb)
          have n5_ := Aside0.mk (blk_below (lK BK372.out) hb)
          have n6_ := Aside0.mk (below_step lB hb)
          clear HO355
          clear HO363
          clear HO369
          clear BK360
          clear BK366
          clear BK372
          clear HB
          have HO355 := n0_
          have HO363 := n1_
          have HO369 := n2_
          have BK360 := n3_
          have BK366 := n4_
          have BK372 := n5_
          have HB := n6_
          clear n0_ n1_ n2_ n3_ n4_ n5_ n6_
          (try clear hb)
          (try clear hb2)
          (try clear hk)
          (try clear hi)
          refine hK.out _ _ ⟨bZ BK366.out 0, bZ BK366.out 1, bZ BK372.out 0, bZ BK372.out 1⟩ (fun hHeld => ?_)
          clear hK K
          refine norm_ (a' := ?_) ?_ ?_
          rotate_left
          · show Act.put _ (some 75) _ = _
            simp only [Act.put, List.setIfInBounds_toArray, List.set_cons_zero, List.set_cons_succ, i64_w, i32_w]
            rfl
          refine pure_ (i := 7) (N := some 76) (v := ?_) (a' := ?_) (bs 16 255) rfl rfl (any_of HT_.out (by kernel_rfl)) (fun _ _ _ h => h) (Or.inl ⟨by rfl, ?_⟩) ?_ ?_
          rotate_left
          · intro w'
            go_simp
            with_reducible rfl
          rotate_left
          · simp only [Act.put, List.setIfInBounds_toArray, List.set_cons_zero, List.set_cons_succ, i64_w, i32_w]
            rfl
          refine pure_ (i := 8) (N := some 77) (v := ?_) (a' := ?_) (bs 16 511) rfl rfl (any_of HT_.out (by kernel_rfl)) (fun _ _ _ h => h) (Or.inl ⟨by rfl, ?_⟩) ?_ ?_
          rotate_left
          · intro w'
            go_simp
            with_reducible rfl
          rotate_left
          · simp only [Act.put, List.setIfInBounds_toArray, List.set_cons_zero, List.set_cons_succ, i64_w, i32_w]
            rfl
          refine pure_ (i := 9) (N := some 78) (v := ?_) (a' := ?_) (bs 16 1023) rfl rfl (any_of HT_.out (by kernel_rfl)) (fun _ _ _ h => h) (Or.inl ⟨by rfl, ?_⟩) ?_ ?_
          rotate_left
          · intro w'
            go_simp
            with_reducible rfl
          rotate_left
          · simp only [Act.put, List.setIfInBounds_toArray, List.set_cons_zero, List.set_cons_succ, i64_w, i32_w]
            rfl
          refine pure_ (i := 10) (N := some 79) (v := undef) (a' := ?_) (bs 16 2047) rfl rfl (any_of HT_.out (by kernel_rfl)) (fun _ _ _ h => h) (Or.inr ⟨by rfl, rfl⟩) ?_ ?_
          rotate_left
          · simp only [Act.put, List.setIfInBounds_toArray, List.set_cons_zero, List.set_cons_succ, i64_w, i32_w]
            rfl
          refine pure_ (i := 11) (N := some 80) (v := undef) (a' := ?_) (bs 16 4095) rfl rfl (any_of HT_.out (by kernel_rfl)) (fun _ _ _ h => h) (Or.inr ⟨by rfl, rfl⟩) ?_ ?_
          rotate_left
          · simp only [Act.put, List.setIfInBounds_toArray, List.set_cons_zero, List.set_cons_succ, i64_w, i32_w]
            rfl
          refine pure_ (i := 12) (N := some 81) (v := undef) (a' := ?_) (bs 16 8191) rfl rfl (any_of HT_.out (by kernel_rfl)) (fun _ _ _ h => h) (Or.inr ⟨by rfl, rfl⟩) ?_ ?_
          rotate_left
          · simp only [Act.put, List.setIfInBounds_toArray, List.set_cons_zero, List.set_cons_succ, i64_w, i32_w]
            rfl
          refine pure_ (i := 13) (N := some 82) (v := undef) (a' := ?_) (bs 16 16383) rfl rfl (any_of HT_.out (by kernel_rfl)) (fun _ _ _ h => h) (Or.inr ⟨by rfl, rfl⟩) ?_ ?_
          rotate_left
          · simp only [Act.put, List.setIfInBounds_toArray, List.set_cons_zero, List.set_cons_succ, i64_w, i32_w]
            rfl
          refine pure_ (i := 14) (N := some 83) (v := undef) (a' := ?_) (bs 16 32767) rfl rfl (any_of HT_.out (by kernel_rfl)) (fun _ _ _ h => h) (Or.inr ⟨by rfl, rfl⟩) ?_ ?_
          rotate_left
          · simp only [Act.put, List.setIfInBounds_toArray, List.set_cons_zero, List.set_cons_succ, i64_w, i32_w]
            rfl
          refine pure_ (i := 15) (N := some 84) (v := ?_) (a' := ?_) (bs 16 65535) rfl rfl (any_of HT_.out (by kernel_rfl)) (fun _ _ _ h => h) (Or.inl ⟨by rfl, ?_⟩) ?_ ?_
          rotate_left
          · intro w'
            go_simp
            with_reducible rfl
          rotate_left
          · simp only [Act.put, List.setIfInBounds_toArray, List.set_cons_zero, List.set_cons_succ, i64_w, i32_w]
            rfl
          refine done_ (done_of HT_.out (by kernel_rfl)) ?_
          try go_wp2
          go_meet
          case rel => (refine ⟨_, (true), lF, H', ?_⟩; refine ⟨⟨lN⟩, ?_⟩; refine ⟨⟨by (with_reducible repeat (first | apply Kd.S_alloc | apply Kd.S_drewN | apply Kd.S_drew)); exact Kd.S_mono HO355.out (fun _ hk => hk.1)⟩, ?_⟩; refine ⟨⟨by (with_reducible repeat (first | apply Kd.S_alloc | apply Kd.S_drewN | apply Kd.S_drew)); exact Kd.S_mono HO363.out (fun _ hk => hk.1)⟩, ?_⟩; refine ⟨⟨lK BK360.out⟩, ?_⟩; refine ⟨⟨lK BK366.out⟩, ?_⟩; exact ⟨lB⟩)
    case rest =>
      clear HC7
      try clear c1
      try clear c2
      try clear p2
      try clear c3
      try clear c14
      try clear c16
      try clear c24
      try clear c24b0
      try clear c24b1
      try clear c24b2
      try clear c28
      try clear c36
      obtain ⟨kq, x84_6, rfl, HA, HJ6, HO_361000, HO_367000, BK360, BK366, HB⟩ := hcut
      cases kq with
      | zero => exact absurd HA.out (by simp [laws_FnWorlds.j0])
      | succ kj6 =>
        have H := HA.out
        clear HA
        simp only [laws_FnWorlds.j0] at H
        by_cases c39 : x84_6 = true
        · subst c39
          rw [if_pos rfl] at H
          obtain rfl := Option.some.inj H
          first | (go_wp2; go_ret; exact ⟨lE, lB⟩) | (exfalso; simp only [decide_eq_false_iff_not, decide_eq_true_eq] at *; omega)
        · replace c39 := Bool.eq_false_iff.mpr c39
          subst c39
          rw [if_neg (show ¬ (false = true) by decide)] at H
          have HC40 := Aside0.mk H
          clear H
          go_upto_if 85 with (fail)
          go_cut [] (fun wc => ∃ (kq : Nat), Aside0 (laws_FnWorlds.j3 kq l1 = some r) ∧ Aside0 (kq ≤ kj6) ∧ Aside0 (Below w.heap.size w wc))
          case first =>
            have H := HC40.out
            clear HC40
            by_cases c41 : t365 = true
            · subst c41
              rw [if_pos rfl] at H
              have H' := Aside0.mk H
              clear H
              have hnb42 := NB360_366.out
              have hnc42 := NB366_360.out
              obtain ⟨hcz43_0, hfz43_0, hcz43_1, hfz43_1⟩ := bk2 BK360.out
              go_wp2
              go_loopg [89] kj6 (fun kq v89 w' => ∃ (x89_2 : Int), v89 = .int .i64 x89_2 ∧ Aside0 (laws_FnWorlds.l0 kq l1 t357 t358 t359 (t353.length : Int) x89_2 t353 t356 t361 t364 = some r) ∧ Aside0 (kq ≤ kj6) ∧ Aside0 (Kd.S k82 82 w' w.heap.size (fun k_ => some k_ ≠ ((.slice Ao14 t361.length co14) : Value).ownBlock) (.slice Ao10 t353.length co10) t353) ∧ Aside0 (Kd.S k82 82 w' w.heap.size (fun k_ => some k_ ≠ ((.slice Ao10 t353.length co10) : Value).ownBlock) (.slice Ao14 t361.length co14) t361) ∧ Aside0 (w'.heap[gb360]? = some (.cells #[(.slice Ao10 t353.length co10), .int .i64 t356] 29 (0, 0))) ∧ Aside0 (w'.heap[gb366]? = some (.cells #[(.slice Ao14 t361.length co14), .int .i64 t364] 29 (0, 0))) ∧ Aside0 (Below w.heap.size w w'))
              case atStart => exact ⟨(0), lF, H', ⟨Nat.le_refl _⟩, ⟨lS HO_361000.out⟩, ⟨lS HO_367000.out⟩, ⟨lK BK360.out⟩, ⟨lK BK366.out⟩, ⟨lB⟩⟩
              case round =>
                clear H'
                try clear c1
                try clear c2
                try clear p2
                try clear c3
                try clear c4
                try clear c14
                try clear c16
                try clear c24
                try clear c24b0
                try clear c24b1
                try clear c24b2
                try clear c28
                try clear c36
                try clear c39
                try clear c41
                try clear c42
                try clear hcz43_0 hcz43_1 hfz43_0 hfz43_1
                try clear p2
                obtain ⟨x89_2, rfl, HA, HK2, HO_361000, HO_367000, BK360, BK366, HB⟩ := hrel
                cases gk with
                | zero => exact absurd HA.out (by simp [laws_FnWorlds.l0])
                | succ k2 =>
                  have H := HA.out
                  clear HA
                  simp only [laws_FnWorlds.l0] at H
                  by_cases c44 : x89_2 < (t353.length : Int)
                  · rw [if_pos c44] at H
                    have c44b0 : decide (x89_2 < (t353.length : Int)) = true := decide_eq_true c44
                    clear c44
                    (first | rw [c44b0] | (simp only [i64_w, i32_w]; rw [c44b0]) | skip)
                    replace H := Option.bind_eq_some_iff.mp H
                    obtain ⟨⟨t376, t377⟩, A450, H⟩ := H
                    replace H : ((impl_FindMethod.f k2 t353 t356 x89_2 t358).bind fun bt378 => ((impl_FindMethod.f k2 t361 t364 x89_2 t358).bind fun bt380 => (if t377 = true then (if t376 = true then (if x89_2 = t357 then (if t359 > 0 then (laws_FnWorlds.j2 k2 l1 t357 t358 t359 (t353.length : Int) x89_2 (bt380.1 != t359) t353 t356 t361 t364) else (laws_FnWorlds.j2 k2 l1 t357 t358 t359 (t353.length : Int) x89_2 false t353 t356 t361 t364)) else (laws_FnWorlds.j2 k2 l1 t357 t358 t359 (t353.length : Int) x89_2 false t353 t356 t361 t364)) else (if (bt378.2 != bt380.2) = true then (laws_FnWorlds.j2 k2 l1 t357 t358 t359 (t353.length : Int) x89_2 true t353 t356 t361 t364) else (if bt378.1 = bt380.1 then (if x89_2 = t357 then (if t359 > 0 then (laws_FnWorlds.j2 k2 l1 t357 t358 t359 (t353.length : Int) x89_2 (bt380.1 != t359) t353 t356 t361 t364) else (laws_FnWorlds.j2 k2 l1 t357 t358 t359 (t353.length : Int) x89_2 false t353 t356 t361 t364)) else (laws_FnWorlds.j2 k2 l1 t357 t358 t359 (t353.length : Int) x89_2 false t353 t356 t361 t364)) else (laws_FnWorlds.j2 k2 l1 t357 t358 t359 (t353.length : Int) x89_2 true t353 t356 t361 t364)))) else (laws_FnWorlds.j2 k2 l1 t357 t358 t359 (t353.length : Int) x89_2 true t353 t356 t361 t364)))) = some r := H
                    have A45 := Aside0.mk A450
                    clear A450
                    replace H := Option.bind_eq_some_iff.mp H
                    obtain ⟨⟨t378, t379⟩, A460, H⟩ := H
                    replace H : ((impl_FindMethod.f k2 t361 t364 x89_2 t358).bind fun bt380 => (if t377 = true then (if t376 = true then (if x89_2 = t357 then (if t359 > 0 then (laws_FnWorlds.j2 k2 l1 t357 t358 t359 (t353.length : Int) x89_2 (bt380.1 != t359) t353 t356 t361 t364) else (laws_FnWorlds.j2 k2 l1 t357 t358 t359 (t353.length : Int) x89_2 false t353 t356 t361 t364)) else (laws_FnWorlds.j2 k2 l1 t357 t358 t359 (t353.length : Int) x89_2 false t353 t356 t361 t364)) else (if (t379 != bt380.2) = true then (laws_FnWorlds.j2 k2 l1 t357 t358 t359 (t353.length : Int) x89_2 true t353 t356 t361 t364) else (if t378 = bt380.1 then (if x89_2 = t357 then (if t359 > 0 then (laws_FnWorlds.j2 k2 l1 t357 t358 t359 (t353.length : Int) x89_2 (bt380.1 != t359) t353 t356 t361 t364) else (laws_FnWorlds.j2 k2 l1 t357 t358 t359 (t353.length : Int) x89_2 false t353 t356 t361 t364)) else (laws_FnWorlds.j2 k2 l1 t357 t358 t359 (t353.length : Int) x89_2 false t353 t356 t361 t364)) else (laws_FnWorlds.j2 k2 l1 t357 t358 t359 (t353.length : Int) x89_2 true t353 t356 t361 t364)))) else (laws_FnWorlds.j2 k2 l1 t357 t358 t359 (t353.length : Int) x89_2 true t353 t356 t361 t364))) = some r := H
                    have A46 := Aside0.mk A460
                    clear A460
                    replace H := Option.bind_eq_some_iff.mp H
                    obtain ⟨⟨t380, t381⟩, A470, H⟩ := H
                    replace H : (if t377 = true then (if t376 = true then (if x89_2 = t357 then (if t359 > 0 then (laws_FnWorlds.j2 k2 l1 t357 t358 t359 (t353.length : Int) x89_2 (t380 != t359) t353 t356 t361 t364) else (laws_FnWorlds.j2 k2 l1 t357 t358 t359 (t353.length : Int) x89_2 false t353 t356 t361 t364)) else (laws_FnWorlds.j2 k2 l1 t357 t358 t359 (t353.length : Int) x89_2 false t353 t356 t361 t364)) else (if (t379 != t381) = true then (laws_FnWorlds.j2 k2 l1 t357 t358 t359 (t353.length : Int) x89_2 true t353 t356 t361 t364) else (if t378 = t380 then (if x89_2 = t357 then (if t359 > 0 then (laws_FnWorlds.j2 k2 l1 t357 t358 t359 (t353.length : Int) x89_2 (t380 != t359) t353 t356 t361 t364) else (laws_FnWorlds.j2 k2 l1 t357 t358 t359 (t353.length : Int) x89_2 false t353 t356 t361 t364)) else (laws_FnWorlds.j2 k2 l1 t357 t358 t359 (t353.length : Int) x89_2 false t353 t356 t361 t364)) else (laws_FnWorlds.j2 k2 l1 t357 t358 t359 (t353.length : Int) x89_2 true t353 t356 t361 t364)))) else (laws_FnWorlds.j2 k2 l1 t357 t358 t359 (t353.length : Int) x89_2 true t353 t356 t361 t364)) = some r := H
                    have A47 := Aside0.mk A470
                    clear A470
                    have HC48 := Aside0.mk H
                    clear H
                    have hnb49 := NB360_366.out
                    have hnc49 := NB366_360.out
                    obtain ⟨hcz50_0, hfz50_0, hcz50_1, hfz50_1⟩ := bk2 BK360.out
                    go_upto_region 15 with (first | ((with_reducible refine gate_callee (f := 19) rfl ?_); refine gl_ (some 96) (Try.func19) #[.agg #[.slice Ao10 t353.length co10, .int .i64 t356], .int .i64 x89_2, .int .i64 t357] ?_; (with_reducible refine (impl_SubclassOf.calls k2 _ _ t353 t356 x89_2 t357 t376 t377 _ ?side1 ?side2 A45.out).mono ?_); (case side1 => repeat (first | exact (Kd.S_reads' HO_361000.out).2.2 | (with_reducible refine Kd.C_alloc ?_ _) | (with_reducible refine Kd.C_drewN ?_ _) | (with_reducible refine Kd.C_drew ?_))); (case side2 => exact (Kd.S_reads' HO_361000.out).2.1); rintro e w51 ⟨rfl, hb⟩; refine ⟨_, rfl, ?_⟩; have n0_ := Aside0.mk (Kd.S_below (lS HO_361000.out) hb); have n1_ := Aside0.mk (Kd.S_below (lS HO_367000.out) hb); have n2_ := Aside0.mk (blk_below (lK BK360.out) hb); have n3_ := Aside0.mk (blk_below (lK BK366.out) hb); have n4_ := Aside0.mk (below_step lB hb); clear HO_361000; clear HO_367000; clear BK360; clear BK366; clear HB; have HO_361000 := n0_; have HO_367000 := n1_; have BK360 := n2_; have BK366 := n3_; have HB := n4_; clear n0_ n1_ n2_ n3_ n4_; (try clear hb); (try clear hb2); (try clear hk); (try clear hi); obtain ⟨hcz52_0, hfz52_0, hcz52_1, hfz52_1⟩ := bk2 BK360.out) | ((with_reducible refine gate_callee (f := 21) rfl ?_); refine gl_ (some 103) (Try.func21) #[.agg #[.slice Ao10 t353.length co10, .int .i64 t356], .int .i64 x89_2, .int .i64 t358] ?_; (with_reducible refine (impl_FindMethod.calls k2 _ _ t353 t356 x89_2 t358 t378 t379 _ ?side1 ?side2 A46.out).mono ?_); (case side1 => repeat (first | exact (Kd.S_reads' HO_361000.out).2.2 | (with_reducible refine Kd.C_alloc ?_ _) | (with_reducible refine Kd.C_drewN ?_ _) | (with_reducible refine Kd.C_drew ?_))); (case side2 => exact (Kd.S_reads' HO_361000.out).2.1); rintro e w53 ⟨rfl, hb⟩; refine ⟨_, rfl, ?_⟩; have n0_ := Aside0.mk (Kd.S_below (lS HO_361000.out) hb); have n1_ := Aside0.mk (Kd.S_below (lS HO_367000.out) hb); have n2_ := Aside0.mk (blk_below (lK BK360.out) hb); have n3_ := Aside0.mk (blk_below (lK BK366.out) hb); have n4_ := Aside0.mk (below_step lB hb); clear HO_361000; clear HO_367000; clear BK360; clear BK366; clear HB; have HO_361000 := n0_; have HO_367000 := n1_; have BK360 := n2_; have BK366 := n3_; have HB := n4_; clear n0_ n1_ n2_ n3_ n4_; (try clear hb); (try clear hb2); (try clear hk); (try clear hi); obtain ⟨hcz54_0, hfz54_0, hcz54_1, hfz54_1⟩ := bk2 BK366.out) | ((with_reducible refine gate_callee (f := 21) rfl ?_); refine gl_ (some 110) (Try.func21) #[.agg #[.slice Ao14 t361.length co14, .int .i64 t364], .int .i64 x89_2, .int .i64 t358] ?_; (with_reducible refine (impl_FindMethod.calls k2 _ _ t361 t364 x89_2 t358 t380 t381 _ ?side1 ?side2 A47.out).mono ?_); (case side1 => repeat (first | exact (Kd.S_reads' HO_367000.out).2.2 | (with_reducible refine Kd.C_alloc ?_ _) | (with_reducible refine Kd.C_drewN ?_ _) | (with_reducible refine Kd.C_drew ?_))); (case side2 => exact (Kd.S_reads' HO_367000.out).2.1); rintro e w55 ⟨rfl, hb⟩; refine ⟨_, rfl, ?_⟩; have n0_ := Aside0.mk (Kd.S_below (lS HO_361000.out) hb); have n1_ := Aside0.mk (Kd.S_below (lS HO_367000.out) hb); have n2_ := Aside0.mk (blk_below (lK BK360.out) hb); have n3_ := Aside0.mk (blk_below (lK BK366.out) hb); have n4_ := Aside0.mk (below_step lB hb); clear HO_361000; clear HO_367000; clear BK360; clear BK366; clear HB; have HO_361000 := n0_; have HO_367000 := n1_; have BK360 := n2_; have BK366 := n3_; have HB := n4_; clear n0_ n1_ n2_ n3_ n4_; (try clear hb); (try clear hb2); (try clear hk); (try clear hi)))
                    (try simp only [Act.put, List.setIfInBounds_toArray, List.set_cons_zero, List.set_cons_succ])
                    go_cut [142] (fun v142 wc => ∃ (kq : Nat) (x142_47 : Bool), v142 = .bool x142_47 ∧ Aside0 (laws_FnWorlds.j2 kq l1 t357 t358 t359 (t353.length : Int) x89_2 x142_47 t353 t356 t361 t364 = some r) ∧ Aside0 (kq ≤ k2) ∧ Aside0 (Kd.S k82 82 wc w.heap.size (fun k_ => some k_ ≠ ((.slice Ao14 t361.length co14) : Value).ownBlock) (.slice Ao10 t353.length co10) t353) ∧ Aside0 (Kd.S k82 82 wc w.heap.size (fun k_ => some k_ ≠ ((.slice Ao10 t353.length co10) : Value).ownBlock) (.slice Ao14 t361.length co14) t361) ∧ Aside0 (wc.heap[gb360]? = some (.cells #[(.slice Ao10 t353.length co10), .int .i64 t356] 29 (0, 0))) ∧ Aside0 (wc.heap[gb366]? = some (.cells #[(.slice Ao14 t361.length co14), .int .i64 t364] 29 (0, 0))) ∧ Aside0 (Below w.heap.size w wc))
                    case first =>
                      have H := HC48.out
                      clear HC48
                      by_cases c56 : t377 = true
                      · subst c56
                        rw [if_pos rfl] at H
                        by_cases c57 : t376 = true
                        · subst c57
                          rw [if_pos rfl] at H
                          by_cases c58 : x89_2 = t357
                          · rw [if_pos c58] at H
                            have c58b0 : (x89_2 == t357) = true := beq_iff_eq.mpr c58
                            have c58b1 : (x89_2 != t357) = false := bne_eq_false_iff_eq.mpr c58
                            clear c58
                            (first | rw [c58b0] | (simp only [i64_w, i32_w]; rw [c58b0]) | skip)
                            by_cases c59 : t359 > 0
                            · rw [if_pos c59] at H
                              have c59b0 : decide (0 < t359) = true := decide_eq_true c59
                              clear c59
                              have H' := Aside0.mk H
                              clear H
                              as_aux_lemma =>
                               go_wp2
                               go_meet
                               case rel => (refine ⟨_, ((t380 != t359)), lF, H', ?_⟩; refine ⟨⟨by have := HJ6.out; have := HK2.out; first | omega | exact Nat.le_refl _⟩, ?_⟩; refine ⟨⟨lS HO_361000.out⟩, ?_⟩; refine ⟨⟨lS HO_367000.out⟩, ?_⟩; refine ⟨⟨lK BK360.out⟩, ?_⟩; refine ⟨⟨lK BK366.out⟩, ?_⟩; exact ⟨lB⟩)
                            · rw [if_neg c59] at H
                              have c59b0 : decide (0 < t359) = false := decide_eq_false c59
                              clear c59
                              have H' := Aside0.mk H
                              clear H
                              as_aux_lemma =>
                               go_wp2
                               go_meet
                               case rel => (refine ⟨_, (false), lF, H', ?_⟩; refine ⟨⟨by have := HJ6.out; have := HK2.out; first | omega | exact Nat.le_refl _⟩, ?_⟩; refine ⟨⟨lS HO_361000.out⟩, ?_⟩; refine ⟨⟨lS HO_367000.out⟩, ?_⟩; refine ⟨⟨lK BK360.out⟩, ?_⟩; refine ⟨⟨lK BK366.out⟩, ?_⟩; exact ⟨lB⟩)
                          · rw [if_neg c58] at H
                            have c58b0 : (x89_2 == t357) = false := beq_eq_false_iff_ne.mpr c58
                            have c58b1 : (x89_2 != t357) = true := bne_iff_ne.mpr c58
                            (first | rw [c58b0] | (simp only [i64_w, i32_w]; rw [c58b0]) | skip)
                            have H' := Aside0.mk H
                            clear H
                            as_aux_lemma =>
                             go_wp2
                             go_meet
                             case rel => (refine ⟨_, (false), lF, H', ?_⟩; refine ⟨⟨by have := HJ6.out; have := HK2.out; first | omega | exact Nat.le_refl _⟩, ?_⟩; refine ⟨⟨lS HO_361000.out⟩, ?_⟩; refine ⟨⟨lS HO_367000.out⟩, ?_⟩; refine ⟨⟨lK BK360.out⟩, ?_⟩; refine ⟨⟨lK BK366.out⟩, ?_⟩; exact ⟨lB⟩)
                        · replace c57 := Bool.eq_false_iff.mpr c57
                          subst c57
                          rw [if_neg (show ¬ (false = true) by decide)] at H
                          by_cases c60 : (t379 != t381) = true
                          · rw [if_pos c60] at H
                            have c60b0 : (t379 != t381) = true := c60
                            (try (have c60b1 : decide (t379 = t381) = false := by simpa using c60))
                            (try (have c60b2 : (t379 == t381) = false := by simpa using c60))
                            (try (have c60b3 : ¬ (t379 = t381) := by simpa using c60))
                            clear c60
                            have H' := Aside0.mk H
                            clear H
                            as_aux_lemma =>
                             go_wp2
                             go_meet
                             case rel => (refine ⟨_, (true), lF, H', ?_⟩; refine ⟨⟨by have := HJ6.out; have := HK2.out; first | omega | exact Nat.le_refl _⟩, ?_⟩; refine ⟨⟨lS HO_361000.out⟩, ?_⟩; refine ⟨⟨lS HO_367000.out⟩, ?_⟩; refine ⟨⟨lK BK360.out⟩, ?_⟩; refine ⟨⟨lK BK366.out⟩, ?_⟩; exact ⟨lB⟩)
                          · rw [if_neg c60] at H
                            have c60b0 : (t379 != t381) = false := by simpa using c60
                            (try (have c60b1 : decide (t379 = t381) = true := by simpa using c60))
                            (try (have c60b2 : (t379 == t381) = true := by simpa using c60))
                            clear c60
                            by_cases c61 : t378 = t380
                            · rw [if_pos c61] at H
                              have c61b0 : (t378 == t380) = true := beq_iff_eq.mpr c61
                              have c61b1 : (t378 != t380) = false := bne_eq_false_iff_eq.mpr c61
                              clear c61
                              by_cases c62 : x89_2 = t357
                              · rw [if_pos c62] at H
                                have c62b0 : (x89_2 == t357) = true := beq_iff_eq.mpr c62
                                have c62b1 : (x89_2 != t357) = false := bne_eq_false_iff_eq.mpr c62
                                clear c62
                                by_cases c63 : t359 > 0
                                · rw [if_pos c63] at H
                                  have c63b0 : decide (0 < t359) = true := decide_eq_true c63
                                  clear c63
                                  have H' := Aside0.mk H
                                  clear H
                                  as_aux_lemma =>
                                   go_wp2
                                   go_meet
                                   case rel => (refine ⟨_, ((t380 != t359)), lF, H', ?_⟩; refine ⟨⟨by have := HJ6.out; have := HK2.out; first | omega | exact Nat.le_refl _⟩, ?_⟩; refine ⟨⟨lS HO_361000.out⟩, ?_⟩; refine ⟨⟨lS HO_367000.out⟩, ?_⟩; refine ⟨⟨lK BK360.out⟩, ?_⟩; refine ⟨⟨lK BK366.out⟩, ?_⟩; exact ⟨lB⟩)
                                · rw [if_neg c63] at H
                                  have c63b0 : decide (0 < t359) = false := decide_eq_false c63
                                  clear c63
                                  have H' := Aside0.mk H
                                  clear H
                                  as_aux_lemma =>
                                   go_wp2
                                   go_meet
                                   case rel => (refine ⟨_, (false), lF, H', ?_⟩; refine ⟨⟨by have := HJ6.out; have := HK2.out; first | omega | exact Nat.le_refl _⟩, ?_⟩; refine ⟨⟨lS HO_361000.out⟩, ?_⟩; refine ⟨⟨lS HO_367000.out⟩, ?_⟩; refine ⟨⟨lK BK360.out⟩, ?_⟩; refine ⟨⟨lK BK366.out⟩, ?_⟩; exact ⟨lB⟩)
                              · rw [if_neg c62] at H
                                have c62b0 : (x89_2 == t357) = false := beq_eq_false_iff_ne.mpr c62
                                have c62b1 : (x89_2 != t357) = true := bne_iff_ne.mpr c62
                                have H' := Aside0.mk H
                                clear H
                                as_aux_lemma =>
                                 go_wp2
                                 go_meet
                                 case rel => (refine ⟨_, (false), lF, H', ?_⟩; refine ⟨⟨by have := HJ6.out; have := HK2.out; first | omega | exact Nat.le_refl _⟩, ?_⟩; refine ⟨⟨lS HO_361000.out⟩, ?_⟩; refine ⟨⟨lS HO_367000.out⟩, ?_⟩; refine ⟨⟨lK BK360.out⟩, ?_⟩; refine ⟨⟨lK BK366.out⟩, ?_⟩; exact ⟨lB⟩)
                            · rw [if_neg c61] at H
                              have c61b0 : (t378 == t380) = false := beq_eq_false_iff_ne.mpr c61
                              have c61b1 : (t378 != t380) = true := bne_iff_ne.mpr c61
                              have H' := Aside0.mk H
                              clear H
                              as_aux_lemma =>
                               go_wp2
                               go_meet
                               case rel => (refine ⟨_, (true), lF, H', ?_⟩; refine ⟨⟨by have := HJ6.out; have := HK2.out; first | omega | exact Nat.le_refl _⟩, ?_⟩; refine ⟨⟨lS HO_361000.out⟩, ?_⟩; refine ⟨⟨lS HO_367000.out⟩, ?_⟩; refine ⟨⟨lK BK360.out⟩, ?_⟩; refine ⟨⟨lK BK366.out⟩, ?_⟩; exact ⟨lB⟩)
                      · replace c56 := Bool.eq_false_iff.mpr c56
                        subst c56
                        rw [if_neg (show ¬ (false = true) by decide)] at H
                        have H' := Aside0.mk H
                        clear H
                        as_aux_lemma =>
                         go_wp2
                         go_meet
                         case rel => (refine ⟨_, (true), lF, H', ?_⟩; refine ⟨⟨by have := HJ6.out; have := HK2.out; first | omega | exact Nat.le_refl _⟩, ?_⟩; refine ⟨⟨lS HO_361000.out⟩, ?_⟩; refine ⟨⟨lS HO_367000.out⟩, ?_⟩; refine ⟨⟨lK BK360.out⟩, ?_⟩; refine ⟨⟨lK BK366.out⟩, ?_⟩; exact ⟨lB⟩)
                    case rest =>
                      clear HC48
                      try clear c1
                      try clear c2
                      try clear p2
                      try clear c3
                      try clear c4
                      try clear c5
                      try clear c6
                      try clear c14
                      try clear c16
                      try clear c19
                      try clear c21
                      try clear c24
                      try clear c24b0
                      try clear c24b1
                      try clear c24b2
                      try clear c28
                      try clear c36
                      try clear c39
                      try clear c41
                      try clear c42
                      try clear c44
                      try clear c44b0
                      try clear c49
                      try clear c56
                      try clear c57
                      try clear c58
                      try clear c58b0
                      try clear c58b1
                      try clear c59
                      try clear c59b0
                      try clear c60
                      try clear c60b0
                      try clear c60b1
                      try clear c60b2
                      try clear c61
                      try clear c61b0
                      try clear c61b1
                      try clear c62
                      try clear c62b0
                      try clear c62b1
                      try clear c63
                      try clear c63b0
                      try clear hcz43_0 hcz43_1
                      try clear hcz50_0 hcz50_1
                      try clear hcz52_0 hcz52_1
                      try clear hcz54_0 hcz54_1
                      try clear hfz43_0 hfz43_1
                      try clear hfz50_0 hfz50_1
                      try clear hfz52_0 hfz52_1
                      try clear hfz54_0 hfz54_1
                      try clear p2
                      obtain ⟨kq, x142_47, rfl, HA, HJ47, HO_361000, HO_367000, BK360, BK366, HB⟩ := hcut
                      cases kq with
                      | zero => exact absurd HA.out (by simp [laws_FnWorlds.j2])
                      | succ kj47 =>
                        have H := HA.out
                        clear HA
                        simp only [laws_FnWorlds.j2] at H
                        by_cases c64 : x142_47 = true
                        · subst c64
                          rw [if_pos rfl] at H
                          obtain rfl := Option.some.inj H
                          first | (go_wp2; go_ret; exact ⟨lE, lB⟩) | (exfalso; simp only [decide_eq_false_iff_not, decide_eq_true_eq] at *; omega)
                        · replace c64 := Bool.eq_false_iff.mpr c64
                          subst c64
                          rw [if_neg (show ¬ (false = true) by decide)] at H
                          have H' := Aside0.mk H
                          clear H
                          as_aux_lemma =>
                           go_wp2
                           go_roundg kj47
                           case measure => have := HJ6.out; have := HK2.out; have := HJ47.out; omega
                           case rel => (refine ⟨(wrap64 (x89_2 + 1)), lF, H', ?_⟩; refine ⟨⟨by have := HJ6.out; have := HK2.out; have := HJ47.out; omega⟩, ?_⟩; refine ⟨⟨lS HO_361000.out⟩, ?_⟩; refine ⟨⟨lS HO_367000.out⟩, ?_⟩; refine ⟨⟨lK BK360.out⟩, ?_⟩; refine ⟨⟨lK BK366.out⟩, ?_⟩; exact ⟨lB⟩)
                  · rw [if_neg c44] at H
                    have c44b0 : decide (x89_2 < (t353.length : Int)) = false := decide_eq_false c44
                    clear c44
                    (first | rw [c44b0] | (simp only [i64_w, i32_w]; rw [c44b0]) | skip)
                    replace H := lO H
                    obtain ⟨t382, A65, H⟩ := H
                    by_cases c66 : t382 = true
                    · subst c66
                      rw [if_pos rfl] at H
                      by_cases c67 : t364 = (wrap64 (t356 + 1))
                      · rw [if_pos c67] at H
                        have c67b0 : (t364 == (wrap64 (t356 + 1))) = true := beq_iff_eq.mpr c67
                        have c67b1 : (t364 != (wrap64 (t356 + 1))) = false := bne_eq_false_iff_eq.mpr c67
                        clear c67
                        have H' := Aside0.mk H
                        clear H
                        have hnb68 := NB366_360.out
                        have hnc68 := NB360_366.out
                        obtain ⟨hcz69_0, hfz69_0, hcz69_1, hfz69_1⟩ := bk2 BK366.out
                        as_aux_lemma =>
                         go_wp2_with (first | ((with_reducible refine gate_callee (f := 16) rfl ?_); refine gl_ (some 145) (Try.func16) #[.agg #[.slice Ao14 t361.length co14, .int .i64 t364]] ?_; (with_reducible refine (impl_GoodWorld.calls k2 _ _ t361 t364 true _ ?side1 ?side2 A65.out).mono ?_); (case side1 => repeat (first | exact (Kd.S_reads' HO_367000.out).2.2 | (with_reducible refine Kd.C_alloc ?_ _) | (with_reducible refine Kd.C_drewN ?_ _) | (with_reducible refine Kd.C_drew ?_))); (case side2 => exact (Kd.S_reads' HO_367000.out).2.1); rintro e w70 ⟨rfl, hb⟩; refine ⟨_, rfl, ?_⟩; have n0_ := Aside0.mk (Kd.S_below (lS HO_361000.out) hb); have n1_ := Aside0.mk (Kd.S_below (lS HO_367000.out) hb); have n2_ := Aside0.mk (blk_below (lK BK360.out) hb); have n3_ := Aside0.mk (blk_below (lK BK366.out) hb); have n4_ := Aside0.mk (below_step lB hb); clear HO_361000; clear HO_367000; clear BK360; clear BK366; clear HB; have HO_361000 := n0_; have HO_367000 := n1_; have BK360 := n2_; have BK366 := n3_; have HB := n4_; clear n0_ n1_ n2_ n3_ n4_; (try clear hb); (try clear hb2); (try clear hk); (try clear hi); obtain ⟨hcz71_0, hfz71_0, hcz71_1, hfz71_1⟩ := bk2 BK366.out; obtain ⟨hcz72_0, hfz72_0, hcz72_1, hfz72_1⟩ := bk2 BK360.out))
                         go_meet
                         case rel => (refine ⟨_, H', ?_⟩; refine ⟨⟨by have := HJ6.out; have := HK2.out; first | omega | exact Nat.le_refl _⟩, ?_⟩; exact ⟨lB⟩)
                      · rw [if_neg c67] at H
                        have c67b0 : (t364 == (wrap64 (t356 + 1))) = false := beq_eq_false_iff_ne.mpr c67
                        have c67b1 : (t364 != (wrap64 (t356 + 1))) = true := bne_iff_ne.mpr c67
                        obtain rfl := Option.some.inj H
                        have hnb73 := NB366_360.out
                        have hnc73 := NB360_366.out
                        obtain ⟨hcz74_0, hfz74_0, hcz74_1, hfz74_1⟩ := bk2 BK366.out
                        as_aux_lemma =>
                         go_wp2_with (first | ((with_reducible refine gate_callee (f := 16) rfl ?_); refine gl_ (some 145) (Try.func16) #[.agg #[.slice Ao14 t361.length co14, .int .i64 t364]] ?_; (with_reducible refine (impl_GoodWorld.calls k2 _ _ t361 t364 true _ ?side1 ?side2 A65.out).mono ?_); (case side1 => repeat (first | exact (Kd.S_reads' HO_367000.out).2.2 | (with_reducible refine Kd.C_alloc ?_ _) | (with_reducible refine Kd.C_drewN ?_ _) | (with_reducible refine Kd.C_drew ?_))); (case side2 => exact (Kd.S_reads' HO_367000.out).2.1); rintro e w75 ⟨rfl, hb⟩; refine ⟨_, rfl, ?_⟩; have n0_ := Aside0.mk (Kd.S_below (lS HO_361000.out) hb); have n1_ := Aside0.mk (Kd.S_below (lS HO_367000.out) hb); have n2_ := Aside0.mk (blk_below (lK BK360.out) hb); have n3_ := Aside0.mk (blk_below (lK BK366.out) hb); have n4_ := Aside0.mk (below_step lB hb); clear HO_361000; clear HO_367000; clear BK360; clear BK366; clear HB; have HO_361000 := n0_; have HO_367000 := n1_; have BK360 := n2_; have BK366 := n3_; have HB := n4_; clear n0_ n1_ n2_ n3_ n4_; (try clear hb); (try clear hb2); (try clear hk); (try clear hi); obtain ⟨hcz76_0, hfz76_0, hcz76_1, hfz76_1⟩ := bk2 BK366.out; obtain ⟨hcz77_0, hfz77_0, hcz77_1, hfz77_1⟩ := bk2 BK360.out))
                         go_ret
                         exact ⟨lE, lB⟩
                    · replace c66 := Bool.eq_false_iff.mpr c66
                      subst c66
                      rw [if_neg (show ¬ (false = true) by decide)] at H
                      obtain rfl := Option.some.inj H
                      have hnb78 := NB366_360.out
                      have hnc78 := NB360_366.out
                      obtain ⟨hcz79_0, hfz79_0, hcz79_1, hfz79_1⟩ := bk2 BK366.out
                      as_aux_lemma =>
                       go_wp2_with (first | ((with_reducible refine gate_callee (f := 16) rfl ?_); refine gl_ (some 145) (Try.func16) #[.agg #[.slice Ao14 t361.length co14, .int .i64 t364]] ?_; (with_reducible refine (impl_GoodWorld.calls k2 _ _ t361 t364 false _ ?side1 ?side2 A65.out).mono ?_); (case side1 => repeat (first | exact (Kd.S_reads' HO_367000.out).2.2 | (with_reducible refine Kd.C_alloc ?_ _) | (with_reducible refine Kd.C_drewN ?_ _) | (with_reducible refine Kd.C_drew ?_))); (case side2 => exact (Kd.S_reads' HO_367000.out).2.1); rintro e w80 ⟨rfl, hb⟩; refine ⟨_, rfl, ?_⟩; have n0_ := Aside0.mk (Kd.S_below (lS HO_361000.out) hb); have n1_ := Aside0.mk (Kd.S_below (lS HO_367000.out) hb); have n2_ := Aside0.mk (blk_below (lK BK360.out) hb); have n3_ := Aside0.mk (blk_below (lK BK366.out) hb); have n4_ := Aside0.mk (below_step lB hb); clear HO_361000; clear HO_367000; clear BK360; clear BK366; clear HB; have HO_361000 := n0_; have HO_367000 := n1_; have BK360 := n2_; have BK366 := n3_; have HB := n4_; clear n0_ n1_ n2_ n3_ n4_; (try clear hb); (try clear hb2); (try clear hk); (try clear hi)))
                       go_ret
                       exact ⟨lE, lB⟩
            · replace c41 := Bool.eq_false_iff.mpr c41
              subst c41
              rw [if_neg (show ¬ (false = true) by decide)] at H
              have H' := Aside0.mk H
              clear H
              as_aux_lemma =>
               go_wp2
               go_meet
               case rel => (refine ⟨_, H', ?_⟩; refine ⟨⟨by have := HJ6.out; first | omega | exact Nat.le_refl _⟩, ?_⟩; exact ⟨lB⟩)
          case rest =>
            clear HC40
            try clear c1
            try clear c2
            try clear p2
            try clear c3
            try clear c4
            try clear c5
            try clear c6
            try clear p6
            try clear c7
            try clear c14
            try clear c16
            try clear c19
            try clear c21
            try clear c24
            try clear c24b0
            try clear c24b1
            try clear c24b2
            try clear c28
            try clear c36
            try clear c39
            try clear c41
            try clear c42
            try clear c44
            try clear c44b0
            try clear c49
            try clear c56
            try clear c57
            try clear c58
            try clear c58b0
            try clear c58b1
            try clear c59
            try clear c59b0
            try clear c60
            try clear c60b0
            try clear c60b1
            try clear c60b2
            try clear c61
            try clear c61b0
            try clear c61b1
            try clear c62
            try clear c62b0
            try clear c62b1
            try clear c63
            try clear c63b0
            try clear c64
            try clear p64
            try clear c66
            try clear c67
            try clear c67b0
            try clear c67b1
            try clear c68
            try clear c73
            try clear c78
            try clear hcz43_0 hcz43_1
            try clear hcz50_0 hcz50_1
            try clear hcz52_0 hcz52_1
            try clear hcz54_0 hcz54_1
            try clear hcz69_0 hcz69_1
            try clear hcz71_0 hcz71_1
            try clear hcz72_0 hcz72_1
            try clear hcz74_0 hcz74_1
            try clear hcz76_0 hcz76_1
            try clear hcz77_0 hcz77_1
            try clear hcz79_0 hcz79_1
            try clear hfz43_0 hfz43_1
            try clear hfz50_0 hfz50_1
            try clear hfz52_0 hfz52_1
            try clear hfz54_0 hfz54_1
            try clear hfz69_0 hfz69_1
            try clear hfz71_0 hfz71_1
            try clear hfz72_0 hfz72_1
            try clear hfz74_0 hfz74_1
            try clear hfz76_0 hfz76_1
            try clear hfz77_0 hfz77_1
            try clear hfz79_0 hfz79_1
            try clear p2
            obtain ⟨kq, HA, HJ39, HB⟩ := hcut
            cases kq with
            | zero => exact absurd HA.out (by simp [laws_FnWorlds.j3])
            | succ kj39 =>
              have H := HA.out
              clear HA
              simp only [laws_FnWorlds.j3] at H
              replace H := Option.bind_eq_some_iff.mp H
              obtain ⟨⟨t383, t386, t387, t388⟩, A810, H⟩ := H
              replace H : ((impl_FindMethod.f kj39 t383 t386 t387 t388).bind fun bt390 => ((spec_FindMethod.f kj39 t383 t386 t387 t388).bind fun bt392 => ((spec_DrawSubclassOf.f kj39 l1).bind fun bt394 => ((impl_SubclassOf.f kj39 bt394.1 bt394.2.1 bt394.2.2.1 bt394.2.2.2).bind fun bt401 => ((spec_SubclassOf.f kj39 bt394.1 bt394.2.1 bt394.2.2.1 bt394.2.2.2).bind fun bt403 => ((spec_DrawNewCache.f kj39 l1).bind fun bt405 => ((impl_NewCache.f kj39 bt405.1 bt405.2.1 bt405.2.2).bind fun bt411 => ((spec_NewCache.f kj39 bt405.1 bt405.2.1 bt405.2.2).bind fun bt421 => (if (bt390.2 == bt392.2) = true then (if bt390.1 = bt392.1 then (if (bt401.2 == bt403.2) = true then (if (bt401.1 == bt403.1) = true then (if (bt411.2.2.2.2.2.2 == bt421.2.2.2.2.2.2) = true then ((laws_sameCaches.f kj39 bt411.1 bt411.2.1 bt411.2.2.1 bt411.2.2.2.1 bt411.2.2.2.2.1 bt411.2.2.2.2.2.1 bt421.1 bt421.2.1 bt421.2.2.1 bt421.2.2.2.1 bt421.2.2.2.2.1 bt421.2.2.2.2.2.1).bind fun t431 => (laws_FnWorlds.j4 kj39 t431)) else (laws_FnWorlds.j4 kj39 false)) else (laws_FnWorlds.j4 kj39 false)) else (laws_FnWorlds.j4 kj39 false)) else (laws_FnWorlds.j4 kj39 false)) else (laws_FnWorlds.j4 kj39 false)))))))))) = some r := H
              have A81 := Aside0.mk A810
              clear A810
              replace H := Option.bind_eq_some_iff.mp H
              obtain ⟨⟨t390, t391⟩, A820, H⟩ := H
              replace H : ((spec_FindMethod.f kj39 t383 t386 t387 t388).bind fun bt392 => ((spec_DrawSubclassOf.f kj39 l1).bind fun bt394 => ((impl_SubclassOf.f kj39 bt394.1 bt394.2.1 bt394.2.2.1 bt394.2.2.2).bind fun bt401 => ((spec_SubclassOf.f kj39 bt394.1 bt394.2.1 bt394.2.2.1 bt394.2.2.2).bind fun bt403 => ((spec_DrawNewCache.f kj39 l1).bind fun bt405 => ((impl_NewCache.f kj39 bt405.1 bt405.2.1 bt405.2.2).bind fun bt411 => ((spec_NewCache.f kj39 bt405.1 bt405.2.1 bt405.2.2).bind fun bt421 => (if (t391 == bt392.2) = true then (if t390 = bt392.1 then (if (bt401.2 == bt403.2) = true then (if (bt401.1 == bt403.1) = true then (if (bt411.2.2.2.2.2.2 == bt421.2.2.2.2.2.2) = true then ((laws_sameCaches.f kj39 bt411.1 bt411.2.1 bt411.2.2.1 bt411.2.2.2.1 bt411.2.2.2.2.1 bt411.2.2.2.2.2.1 bt421.1 bt421.2.1 bt421.2.2.1 bt421.2.2.2.1 bt421.2.2.2.2.1 bt421.2.2.2.2.2.1).bind fun t431 => (laws_FnWorlds.j4 kj39 t431)) else (laws_FnWorlds.j4 kj39 false)) else (laws_FnWorlds.j4 kj39 false)) else (laws_FnWorlds.j4 kj39 false)) else (laws_FnWorlds.j4 kj39 false)) else (laws_FnWorlds.j4 kj39 false))))))))) = some r := H
              have A82 := Aside0.mk A820
              clear A820
              replace H := Option.bind_eq_some_iff.mp H
              obtain ⟨⟨t392, t393⟩, A830, H⟩ := H
              replace H : ((spec_DrawSubclassOf.f kj39 l1).bind fun bt394 => ((impl_SubclassOf.f kj39 bt394.1 bt394.2.1 bt394.2.2.1 bt394.2.2.2).bind fun bt401 => ((spec_SubclassOf.f kj39 bt394.1 bt394.2.1 bt394.2.2.1 bt394.2.2.2).bind fun bt403 => ((spec_DrawNewCache.f kj39 l1).bind fun bt405 => ((impl_NewCache.f kj39 bt405.1 bt405.2.1 bt405.2.2).bind fun bt411 => ((spec_NewCache.f kj39 bt405.1 bt405.2.1 bt405.2.2).bind fun bt421 => (if (t391 == t393) = true then (if t390 = t392 then (if (bt401.2 == bt403.2) = true then (if (bt401.1 == bt403.1) = true then (if (bt411.2.2.2.2.2.2 == bt421.2.2.2.2.2.2) = true then ((laws_sameCaches.f kj39 bt411.1 bt411.2.1 bt411.2.2.1 bt411.2.2.2.1 bt411.2.2.2.2.1 bt411.2.2.2.2.2.1 bt421.1 bt421.2.1 bt421.2.2.1 bt421.2.2.2.1 bt421.2.2.2.2.1 bt421.2.2.2.2.2.1).bind fun t431 => (laws_FnWorlds.j4 kj39 t431)) else (laws_FnWorlds.j4 kj39 false)) else (laws_FnWorlds.j4 kj39 false)) else (laws_FnWorlds.j4 kj39 false)) else (laws_FnWorlds.j4 kj39 false)) else (laws_FnWorlds.j4 kj39 false)))))))) = some r := H
              have A83 := Aside0.mk A830
              clear A830
              replace H := Option.bind_eq_some_iff.mp H
              obtain ⟨⟨t394, t397, t398, t399⟩, A840, H⟩ := H
              replace H : ((impl_SubclassOf.f kj39 t394 t397 t398 t399).bind fun bt401 => ((spec_SubclassOf.f kj39 t394 t397 t398 t399).bind fun bt403 => ((spec_DrawNewCache.f kj39 l1).bind fun bt405 => ((impl_NewCache.f kj39 bt405.1 bt405.2.1 bt405.2.2).bind fun bt411 => ((spec_NewCache.f kj39 bt405.1 bt405.2.1 bt405.2.2).bind fun bt421 => (if (t391 == t393) = true then (if t390 = t392 then (if (bt401.2 == bt403.2) = true then (if (bt401.1 == bt403.1) = true then (if (bt411.2.2.2.2.2.2 == bt421.2.2.2.2.2.2) = true then ((laws_sameCaches.f kj39 bt411.1 bt411.2.1 bt411.2.2.1 bt411.2.2.2.1 bt411.2.2.2.2.1 bt411.2.2.2.2.2.1 bt421.1 bt421.2.1 bt421.2.2.1 bt421.2.2.2.1 bt421.2.2.2.2.1 bt421.2.2.2.2.2.1).bind fun t431 => (laws_FnWorlds.j4 kj39 t431)) else (laws_FnWorlds.j4 kj39 false)) else (laws_FnWorlds.j4 kj39 false)) else (laws_FnWorlds.j4 kj39 false)) else (laws_FnWorlds.j4 kj39 false)) else (laws_FnWorlds.j4 kj39 false))))))) = some r := H
              have A84 := Aside0.mk A840
              clear A840
              replace H := Option.bind_eq_some_iff.mp H
              obtain ⟨⟨t401, t402⟩, A850, H⟩ := H
              replace H : ((spec_SubclassOf.f kj39 t394 t397 t398 t399).bind fun bt403 => ((spec_DrawNewCache.f kj39 l1).bind fun bt405 => ((impl_NewCache.f kj39 bt405.1 bt405.2.1 bt405.2.2).bind fun bt411 => ((spec_NewCache.f kj39 bt405.1 bt405.2.1 bt405.2.2).bind fun bt421 => (if (t391 == t393) = true then (if t390 = t392 then (if (t402 == bt403.2) = true then (if (t401 == bt403.1) = true then (if (bt411.2.2.2.2.2.2 == bt421.2.2.2.2.2.2) = true then ((laws_sameCaches.f kj39 bt411.1 bt411.2.1 bt411.2.2.1 bt411.2.2.2.1 bt411.2.2.2.2.1 bt411.2.2.2.2.2.1 bt421.1 bt421.2.1 bt421.2.2.1 bt421.2.2.2.1 bt421.2.2.2.2.1 bt421.2.2.2.2.2.1).bind fun t431 => (laws_FnWorlds.j4 kj39 t431)) else (laws_FnWorlds.j4 kj39 false)) else (laws_FnWorlds.j4 kj39 false)) else (laws_FnWorlds.j4 kj39 false)) else (laws_FnWorlds.j4 kj39 false)) else (laws_FnWorlds.j4 kj39 false)))))) = some r := H
              have A85 := Aside0.mk A850
              clear A850
              replace H := Option.bind_eq_some_iff.mp H
              obtain ⟨⟨t403, t404⟩, A860, H⟩ := H
              replace H : ((spec_DrawNewCache.f kj39 l1).bind fun bt405 => ((impl_NewCache.f kj39 bt405.1 bt405.2.1 bt405.2.2).bind fun bt411 => ((spec_NewCache.f kj39 bt405.1 bt405.2.1 bt405.2.2).bind fun bt421 => (if (t391 == t393) = true then (if t390 = t392 then (if (t402 == t404) = true then (if (t401 == t403) = true then (if (bt411.2.2.2.2.2.2 == bt421.2.2.2.2.2.2) = true then ((laws_sameCaches.f kj39 bt411.1 bt411.2.1 bt411.2.2.1 bt411.2.2.2.1 bt411.2.2.2.2.1 bt411.2.2.2.2.2.1 bt421.1 bt421.2.1 bt421.2.2.1 bt421.2.2.2.1 bt421.2.2.2.2.1 bt421.2.2.2.2.2.1).bind fun t431 => (laws_FnWorlds.j4 kj39 t431)) else (laws_FnWorlds.j4 kj39 false)) else (laws_FnWorlds.j4 kj39 false)) else (laws_FnWorlds.j4 kj39 false)) else (laws_FnWorlds.j4 kj39 false)) else (laws_FnWorlds.j4 kj39 false))))) = some r := H
              have A86 := Aside0.mk A860
              clear A860
              replace H := Option.bind_eq_some_iff.mp H
              obtain ⟨⟨t405, t408, t409⟩, A870, H⟩ := H
              replace H : ((impl_NewCache.f kj39 t405 t408 t409).bind fun bt411 => ((spec_NewCache.f kj39 t405 t408 t409).bind fun bt421 => (if (t391 == t393) = true then (if t390 = t392 then (if (t402 == t404) = true then (if (t401 == t403) = true then (if (bt411.2.2.2.2.2.2 == bt421.2.2.2.2.2.2) = true then ((laws_sameCaches.f kj39 bt411.1 bt411.2.1 bt411.2.2.1 bt411.2.2.2.1 bt411.2.2.2.2.1 bt411.2.2.2.2.2.1 bt421.1 bt421.2.1 bt421.2.2.1 bt421.2.2.2.1 bt421.2.2.2.2.1 bt421.2.2.2.2.2.1).bind fun t431 => (laws_FnWorlds.j4 kj39 t431)) else (laws_FnWorlds.j4 kj39 false)) else (laws_FnWorlds.j4 kj39 false)) else (laws_FnWorlds.j4 kj39 false)) else (laws_FnWorlds.j4 kj39 false)) else (laws_FnWorlds.j4 kj39 false)))) = some r := H
              have A87 := Aside0.mk A870
              clear A870
              replace H := Option.bind_eq_some_iff.mp H
              obtain ⟨⟨t411, t412, t413, t416, t417, t418, t419⟩, A880, H⟩ := H
              replace H : ((spec_NewCache.f kj39 t405 t408 t409).bind fun bt421 => (if (t391 == t393) = true then (if t390 = t392 then (if (t402 == t404) = true then (if (t401 == t403) = true then (if (t419 == bt421.2.2.2.2.2.2) = true then ((laws_sameCaches.f kj39 t411 t412 t413 t416 t417 t418 bt421.1 bt421.2.1 bt421.2.2.1 bt421.2.2.2.1 bt421.2.2.2.2.1 bt421.2.2.2.2.2.1).bind fun t431 => (laws_FnWorlds.j4 kj39 t431)) else (laws_FnWorlds.j4 kj39 false)) else (laws_FnWorlds.j4 kj39 false)) else (laws_FnWorlds.j4 kj39 false)) else (laws_FnWorlds.j4 kj39 false)) else (laws_FnWorlds.j4 kj39 false))) = some r := H
              have A88 := Aside0.mk A880
              clear A880
              replace H := Option.bind_eq_some_iff.mp H
              obtain ⟨⟨t421, t422, t423, t426, t427, t428, t429⟩, A890, H⟩ := H
              replace H : (if (t391 == t393) = true then (if t390 = t392 then (if (t402 == t404) = true then (if (t401 == t403) = true then (if (t419 == t429) = true then ((laws_sameCaches.f kj39 t411 t412 t413 t416 t417 t418 t421 t422 t423 t426 t427 t428).bind fun t431 => (laws_FnWorlds.j4 kj39 t431)) else (laws_FnWorlds.j4 kj39 false)) else (laws_FnWorlds.j4 kj39 false)) else (laws_FnWorlds.j4 kj39 false)) else (laws_FnWorlds.j4 kj39 false)) else (laws_FnWorlds.j4 kj39 false)) = some r := H
              have A89 := Aside0.mk A890
              clear A890
              have HC90 := Aside0.mk H
              clear H
              go_upto_region 29 with (first | ((with_reducible refine gate_callee (f := 37) rfl ?_); refine gl_ (some 157) (Try.func37) #[.slice A1 l1.length c1] ?_; (with_reducible refine (spec_DrawFindMethod.calls kj39 _ _ l1 t383 t386 t387 t388 _ ?side1 ?side2 A81.out).mono ?_); (case side1 => exact lC (Kd.C_below HR1.out HB.out)); (case side2 => exact HC1.out); rintro e w91 ⟨v384, rfl, ho0, hb⟩; refine ⟨_, rfl, ?_⟩; have n0_ := Aside0.mk (Kd.S_lower ho0 (below_size lB)); have n1_ := Aside0.mk (below_step lB hb); clear HB; have HO385 := n0_; have HB := n1_; clear n0_ n1_; (try clear hb); (try clear hb2); (try clear hk); (try clear hi); (try clear ho0)) | ((with_reducible refine gate_dst (N := 20) rfl ?_); refine bxe 20 #[.slice none 0 0, .int .i64 0] 29 ?_; intro gb389 hg w92 hbox hb; have n0_ := Aside0.mk (Kd.S_below (lS HO385.out) hb); have n1_ := Aside0.mk (below_step lB hb); have n2_ := Aside0.mk (hbox); have n3_ := lG w hg; have n4_ := lG w hg; clear HO385; clear HB; have HO385 := n0_; have HB := n1_; have BK389 := n2_; have GW389 := n3_; have GE389 := n4_; clear n0_ n1_ n2_ n3_ n4_; clear hb hbox hg; obtain ⟨Ao93, co93, eo93⟩ := Kd.S_slice HO385.out; subst eo93; obtain ⟨hcz94_0, hfz94_0, hcz94_1, hfz94_1⟩ := bk2 BK389.out) | ((with_reducible refine gate_callee (f := 21) rfl ?_); refine gl_ (some 165) (Try.func21) #[.agg #[.slice Ao93 t383.length co93, .int .i64 t386], .int .i64 t387, .int .i64 t388] ?_; (with_reducible refine (impl_FindMethod.calls kj39 _ _ t383 t386 t387 t388 t390 t391 _ ?side1 ?side2 A82.out).mono ?_); (case side1 => refine (Kd.S_reads' (e := 82) (base := w.heap.size) (ok := fun k_ => True) (n := t383.length) (c := co93) ?_).2.2; exact (by (with_reducible repeat (first | apply Kd.S_alloc | apply Kd.S_drewN | apply Kd.S_drew)); exact (Kd.S_mono (Kd.S_far (p := ⟨gb389, 1, none⟩) (Kd.S_far (p := ⟨gb389, 0, none⟩) (Kd.S_types HO385.out BK389.out (by decide)) (fun _ hk => hk.2) (.slice Ao93 t383.length co93)) (fun _ hk => hk.2) (.int .i64 t386)) (fun _ h_ => h_.1)))); (case side2 => exact (Kd.S_reads' HO385.out).2.1); rintro e w95 ⟨rfl, hb⟩; refine ⟨_, rfl, ?_⟩; have n0_ := Aside0.mk (Kd.S_below (by (with_reducible repeat (first | apply Kd.S_alloc | apply Kd.S_drewN | apply Kd.S_drew)); exact (Kd.S_mono (Kd.S_far (p := ⟨gb389, 1, none⟩) (Kd.S_far (p := ⟨gb389, 0, none⟩) (Kd.S_types HO385.out BK389.out (by decide)) (fun _ hk => hk.2) (.slice Ao93 t383.length co93)) (fun _ hk => hk.2) (.int .i64 t386)) (fun _ h_ => h_.1))) hb); have n1_ := Aside0.mk (blk_below (g := gb389) (o := .cells #[.slice Ao93 t383.length co93, .int .i64 t386] 29 (0, 0)) (by (with_reducible repeat first | apply bN | apply bD | apply bA); refine blk_put (cs := #[.slice Ao93 t383.length co93, .int .i64 0]) ?_ 1 _ rfl; (with_reducible repeat first | apply bN | apply bD | apply bA); refine blk_put (cs := #[.slice none 0 0, .int .i64 0]) ?_ 0 _ rfl; (with_reducible repeat first | apply bN | apply bD | apply bA); exact BK389.out) hb); have n2_ := Aside0.mk (below_step lB hb); clear HO385; clear BK389; clear HB; have HO385 := n0_; have BK389 := n1_; have HB := n2_; clear n0_ n1_ n2_; (try clear hb); (try clear hb2); (try clear hk); (try clear hi); obtain ⟨hcz96_0, hfz96_0, hcz96_1, hfz96_1⟩ := bk2 BK389.out) | ((with_reducible refine gate_callee (f := 20) rfl ?_); refine gl_ (some 172) (Try.func20) #[.agg #[.slice Ao93 t383.length co93, .int .i64 t386], .int .i64 t387, .int .i64 t388] ?_; (with_reducible refine (spec_FindMethod.calls kj39 _ _ t383 t386 t387 t388 t392 t393 _ ?side1 ?side2 A83.out).mono ?_); (case side1 => repeat (first | exact (Kd.S_reads' HO385.out).2.2 | (with_reducible refine Kd.C_alloc ?_ _) | (with_reducible refine Kd.C_drewN ?_ _) | (with_reducible refine Kd.C_drew ?_))); (case side2 => exact (Kd.S_reads' HO385.out).2.1); rintro e w97 ⟨rfl, hb⟩; refine ⟨_, rfl, ?_⟩; have n0_ := Aside0.mk (Kd.S_below (lS HO385.out) hb); have n1_ := Aside0.mk (blk_below (lK BK389.out) hb); have n2_ := Aside0.mk (below_step lB hb); clear HO385; clear BK389; clear HB; have HO385 := n0_; have BK389 := n1_; have HB := n2_; clear n0_ n1_ n2_; (try clear hb); (try clear hb2); (try clear hk); (try clear hi)) | ((with_reducible refine gate_callee (f := 38) rfl ?_); refine gl_ (some 177) (Try.func38) #[.slice A1 l1.length c1] ?_; (with_reducible refine (spec_DrawSubclassOf.calls kj39 _ _ l1 t394 t397 t398 t399 _ ?side1 ?side2 A84.out).mono ?_); (case side1 => exact lC (Kd.C_below HR1.out HB.out)); (case side2 => exact HC1.out); rintro e w98 ⟨v395, rfl, ho0, hb⟩; refine ⟨_, rfl, ?_⟩; have n0_ := Aside0.mk (Kd.S_elder' (lS HO385.out) (Kd.S_base ho0) hb); have n1_ := Aside0.mk (Kd.S_lower (Kd.S_new' ho0 (Kd.S_lt (lS HO385.out))) (below_size lB)); have n2_ := Aside0.mk (blk_below (lK BK389.out) hb); have n3_ := Aside0.mk (below_step lB hb); clear HO385; clear BK389; clear HB; have HO385 := n0_; have HO396 := n1_; have BK389 := n2_; have HB := n3_; clear n0_ n1_ n2_ n3_; (try clear hb); (try clear hb2); (try clear hk); (try clear hi); (try clear ho0)) | ((with_reducible refine gate_dst (N := 27) rfl ?_); refine bxe 27 #[.slice none 0 0, .int .i64 0] 29 ?_; intro gb400 hg w99 hbox hb; have n0_ := Aside0.mk (Kd.S_below (lS HO385.out) hb); have n1_ := Aside0.mk (Kd.S_below (lS HO396.out) hb); have n2_ := Aside0.mk (blk_below (lK BK389.out) hb); have n3_ := Aside0.mk (below_step lB hb); have n4_ := Aside0.mk (hbox); have n5_ := lG w hg; have n6_ := lG w hg; have n7_ := Aside0.mk ((by rw [hg]; exact Nat.ne_of_lt (blk_lt (lK BK389.out)) : gb389 ≠ gb400)); have n8_ := Aside0.mk ((by rw [hg]; exact Nat.ne_of_gt (blk_lt (lK BK389.out)) : gb400 ≠ gb389)); clear HO385; clear HO396; clear BK389; clear HB; have HO385 := n0_; have HO396 := n1_; have BK389 := n2_; have HB := n3_; have BK400 := n4_; have GW400 := n5_; have GE400 := n6_; have NB389_400 := n7_; have NB400_389 := n8_; clear n0_ n1_ n2_ n3_ n4_ n5_ n6_ n7_ n8_; clear hb hbox hg; obtain ⟨Ao100, co100, eo100⟩ := Kd.S_slice HO396.out; subst eo100; have hnb101 := NB400_389.out; have hnc101 := NB389_400.out; obtain ⟨hcz102_0, hfz102_0, hcz102_1, hfz102_1⟩ := bk2 BK400.out) | ((with_reducible refine gate_callee (f := 19) rfl ?_); refine gl_ (some 185) (Try.func19) #[.agg #[.slice Ao100 t394.length co100, .int .i64 t397], .int .i64 t398, .int .i64 t399] ?_; (with_reducible refine (impl_SubclassOf.calls kj39 _ _ t394 t397 t398 t399 t401 t402 _ ?side1 ?side2 A85.out).mono ?_); (case side1 => refine (Kd.S_reads' (e := 82) (base := w.heap.size) (ok := fun k_ => (True ∧ some k_ ≠ (.slice Ao93 t383.length co93 : Value).ownBlock)) (n := t394.length) (c := co100) ?_).2.2; exact (by (with_reducible repeat (first | apply Kd.S_alloc | apply Kd.S_drewN | apply Kd.S_drew)); exact (Kd.S_mono (Kd.S_far (p := ⟨gb400, 1, none⟩) (Kd.S_far (p := ⟨gb400, 0, none⟩) (Kd.S_types HO396.out BK400.out (by decide)) (fun _ hk => hk.2) (.slice Ao100 t394.length co100)) (fun _ hk => hk.2) (.int .i64 t397)) (fun _ h_ => h_.1)))); (case side2 => exact (Kd.S_reads' HO396.out).2.1); rintro e w103 ⟨rfl, hb⟩; refine ⟨_, rfl, ?_⟩; have n0_ := Aside0.mk (Kd.S_below (by (with_reducible repeat (first | apply Kd.S_alloc | apply Kd.S_drewN | apply Kd.S_drew)); exact (Kd.S_mono (Kd.S_far (p := ⟨gb400, 1, none⟩) (Kd.S_far (p := ⟨gb400, 0, none⟩) (Kd.S_types HO385.out BK400.out (by decide)) (fun _ hk => hk.2) (.slice Ao100 t394.length co100)) (fun _ hk => hk.2) (.int .i64 t397)) (fun _ h_ => h_.1))) hb); have n1_ := Aside0.mk (Kd.S_below (by (with_reducible repeat (first | apply Kd.S_alloc | apply Kd.S_drewN | apply Kd.S_drew)); exact (Kd.S_mono (Kd.S_far (p := ⟨gb400, 1, none⟩) (Kd.S_far (p := ⟨gb400, 0, none⟩) (Kd.S_types HO396.out BK400.out (by decide)) (fun _ hk => hk.2) (.slice Ao100 t394.length co100)) (fun _ hk => hk.2) (.int .i64 t397)) (fun _ h_ => h_.1))) hb); have n2_ := Aside0.mk (blk_below (lJ BK389.out) hb); have n3_ := Aside0.mk (blk_below (g := gb400) (o := .cells #[.slice Ao100 t394.length co100, .int .i64 t397] 29 (0, 0)) (by (with_reducible repeat first | apply bN | apply bD | apply bA); refine blk_put (cs := #[.slice Ao100 t394.length co100, .int .i64 0]) ?_ 1 _ rfl; (with_reducible repeat first | apply bN | apply bD | apply bA); refine blk_put (cs := #[.slice none 0 0, .int .i64 0]) ?_ 0 _ rfl; (with_reducible repeat first | apply bN | apply bD | apply bA); exact BK400.out) hb); have n4_ := Aside0.mk (below_step lB hb); clear HO385; clear HO396; clear BK389; clear BK400; clear HB; have HO385 := n0_; have HO396 := n1_; have BK389 := n2_; have BK400 := n3_; have HB := n4_; clear n0_ n1_ n2_ n3_ n4_; (try clear hb); (try clear hb2); (try clear hk); (try clear hi); obtain ⟨hcz104_0, hfz104_0, hcz104_1, hfz104_1⟩ := bk2 BK400.out) | ((with_reducible refine gate_callee (f := 18) rfl ?_); refine gl_ (some 192) (Try.func18) #[.agg #[.slice Ao100 t394.length co100, .int .i64 t397], .int .i64 t398, .int .i64 t399] ?_; (with_reducible refine (spec_SubclassOf.calls kj39 _ _ t394 t397 t398 t399 t403 t404 _ ?side1 ?side2 A86.out).mono ?_); (case side1 => repeat (first | exact (Kd.S_reads' HO396.out).2.2 | (with_reducible refine Kd.C_alloc ?_ _) | (with_reducible refine Kd.C_drewN ?_ _) | (with_reducible refine Kd.C_drew ?_))); (case side2 => exact (Kd.S_reads' HO396.out).2.1); rintro e w105 ⟨rfl, hb⟩; refine ⟨_, rfl, ?_⟩; have n0_ := Aside0.mk (Kd.S_below (lS HO385.out) hb); have n1_ := Aside0.mk (Kd.S_below (lS HO396.out) hb); have n2_ := Aside0.mk (blk_below (lK BK389.out) hb); have n3_ := Aside0.mk (blk_below (lK BK400.out) hb); have n4_ := Aside0.mk (below_step lB hb); clear HO385; clear HO396; clear BK389; clear BK400; clear HB; have HO385 := n0_; have HO396 := n1_; have BK389 := n2_; have BK400 := n3_; have HB := n4_; clear n0_ n1_ n2_ n3_ n4_; (try clear hb); (try clear hb2); (try clear hk); (try clear hi)) | ((with_reducible refine gate_callee (f := 39) rfl ?_); refine gl_ (some 197) (Try.func39) #[.slice A1 l1.length c1] ?_; (with_reducible refine (spec_DrawNewCache.calls kj39 _ _ l1 t405 t408 t409 _ ?side1 ?side2 A87.out).mono ?_); (case side1 => exact lC (Kd.C_below HR1.out HB.out)); (case side2 => exact HC1.out); rintro e w106 ⟨v406, rfl, ho0, hb⟩; refine ⟨_, rfl, ?_⟩; have n0_ := Aside0.mk (Kd.S_elder' (lS HO385.out) (Kd.S_base ho0) hb); have n1_ := Aside0.mk (Kd.S_elder' (lS HO396.out) (Kd.S_base ho0) hb); have n2_ := Aside0.mk (Kd.S_lower (Kd.S_new' (Kd.S_new' ho0 (Kd.S_lt (lS HO385.out))) (Kd.S_lt (lS HO396.out))) (below_size lB)); have n3_ := Aside0.mk (blk_below (lK BK389.out) hb); have n4_ := Aside0.mk (blk_below (lK BK400.out) hb); have n5_ := Aside0.mk (below_step lB hb); clear HO385; clear HO396; clear BK389; clear BK400; clear HB; have HO385 := n0_; have HO396 := n1_; have HO407 := n2_; have BK389 := n3_; have BK400 := n4_; have HB := n5_; clear n0_ n1_ n2_ n3_ n4_ n5_; (try clear hb); (try clear hb2); (try clear hk); (try clear hi); (try clear ho0)) | ((with_reducible refine gate_dst (N := 34) rfl ?_); refine bxe 34 #[.slice none 0 0, .int .i64 0] 29 ?_; intro gb410 hg w107 hbox hb; have n0_ := Aside0.mk (Kd.S_below (lS HO385.out) hb); have n1_ := Aside0.mk (Kd.S_below (lS HO396.out) hb); have n2_ := Aside0.mk (Kd.S_below (lS HO407.out) hb); have n3_ := Aside0.mk (blk_below (lK BK389.out) hb); have n4_ := Aside0.mk (blk_below (lK BK400.out) hb); have n5_ := Aside0.mk (below_step lB hb); have n6_ := Aside0.mk (hbox); have n7_ := lG w hg; have n8_ := lG w hg; have n9_ := Aside0.mk ((by rw [hg]; exact Nat.ne_of_lt (blk_lt (lK BK389.out)) : gb389 ≠ gb410)); have n10_ := Aside0.mk ((by rw [hg]; exact Nat.ne_of_gt (blk_lt (lK BK389.out)) : gb410 ≠ gb389)); have n11_ := Aside0.mk ((by rw [hg]; exact Nat.ne_of_lt (blk_lt (lK BK400.out)) : gb400 ≠ gb410)); have n12_ := Aside0.mk ((by rw [hg]; exact Nat.ne_of_gt (blk_lt (lK BK400.out)) : gb410 ≠ gb400)); clear HO385; clear HO396; clear HO407; clear BK389; clear BK400; clear HB; have HO385 := n0_; have HO396 := n1_; have HO407 := n2_; have BK389 := n3_; have BK400 := n4_; have HB := n5_; have BK410 := n6_; have GW410 := n7_; have GE410 := n8_; have NB389_410 := n9_; have NB410_389 := n10_; have NB400_410 := n11_; have NB410_400 := n12_; clear n0_ n1_ n2_ n3_ n4_ n5_ n6_ n7_ n8_ n9_ n10_ n11_ n12_; clear hb hbox hg; obtain ⟨Ao108, co108, eo108⟩ := Kd.S_slice HO407.out; subst eo108; have hnb109 := NB410_389.out; have hnc109 := NB389_410.out; have hnb110 := NB410_400.out; have hnc110 := NB400_410.out; obtain ⟨hcz111_0, hfz111_0, hcz111_1, hfz111_1⟩ := bk2 BK410.out) | ((with_reducible refine gate_callee (f := 27) rfl ?_); refine gl_ (some 203) (Try.func27) #[.agg #[.slice Ao108 t405.length co108, .int .i64 t408], .int .i64 t409] ?_; (with_reducible refine (impl_NewCache.calls kj39 _ _ t405 t408 t409 t411 t412 t413 t416 t417 t418 t419 _ ?side1 ?side2 A88.out).mono ?_); (case side1 => refine (Kd.S_reads' (e := 82) (base := w.heap.size) (ok := fun k_ => ((True ∧ some k_ ≠ (.slice Ao93 t383.length co93 : Value).ownBlock) ∧ some k_ ≠ (.slice Ao100 t394.length co100 : Value).ownBlock)) (n := t405.length) (c := co108) ?_).2.2; exact (by (with_reducible repeat (first | apply Kd.S_alloc | apply Kd.S_drewN | apply Kd.S_drew)); exact (Kd.S_mono (Kd.S_far (p := ⟨gb410, 1, none⟩) (Kd.S_far (p := ⟨gb410, 0, none⟩) (Kd.S_types HO407.out BK410.out (by decide)) (fun _ hk => hk.2) (.slice Ao108 t405.length co108)) (fun _ hk => hk.2) (.int .i64 t408)) (fun _ h_ => h_.1)))); (case side2 => exact (Kd.S_reads' HO407.out).2.1); rintro e w112 ⟨v414, rfl, ho0, hb⟩; refine ⟨_, rfl, ?_⟩; have n0_ := Aside0.mk (Kd.S_below (by (with_reducible repeat (first | apply Kd.S_alloc | apply Kd.S_drewN | apply Kd.S_drew)); exact (Kd.S_mono (Kd.S_far (p := ⟨gb410, 1, none⟩) (Kd.S_far (p := ⟨gb410, 0, none⟩) (Kd.S_types HO385.out BK410.out (by decide)) (fun _ hk => hk.2) (.slice Ao108 t405.length co108)) (fun _ hk => hk.2) (.int .i64 t408)) (fun _ h_ => h_.1))) hb); have n1_ := Aside0.mk (Kd.S_below (by (with_reducible repeat (first | apply Kd.S_alloc | apply Kd.S_drewN | apply Kd.S_drew)); exact (Kd.S_mono (Kd.S_far (p := ⟨gb410, 1, none⟩) (Kd.S_far (p := ⟨gb410, 0, none⟩) (Kd.S_types HO396.out BK410.out (by decide)) (fun _ hk => hk.2) (.slice Ao108 t405.length co108)) (fun _ hk => hk.2) (.int .i64 t408)) (fun _ h_ => h_.1))) hb); have n2_ := Aside0.mk (Kd.S_below (by (with_reducible repeat (first | apply Kd.S_alloc | apply Kd.S_drewN | apply Kd.S_drew)); exact (Kd.S_mono (Kd.S_far (p := ⟨gb410, 1, none⟩) (Kd.S_far (p := ⟨gb410, 0, none⟩) (Kd.S_types HO407.out BK410.out (by decide)) (fun _ hk => hk.2) (.slice Ao108 t405.length co108)) (fun _ hk => hk.2) (.int .i64 t408)) (fun _ h_ => h_.1))) hb); have n3_ := Aside0.mk (Kd.R_lower ho0 (below_size lB)); have n4_ := Aside0.mk (blk_below (lJ BK389.out) hb); have n5_ := Aside0.mk (blk_below (lJ BK400.out) hb); have n6_ := Aside0.mk (blk_below (g := gb410) (o := .cells #[.slice Ao108 t405.length co108, .int .i64 t408] 29 (0, 0)) (by (with_reducible repeat first | apply bN | apply bD | apply bA); refine blk_put (cs := #[.slice Ao108 t405.length co108, .int .i64 0]) ?_ 1 _ rfl; (with_reducible repeat first | apply bN | apply bD | apply bA); refine blk_put (cs := #[.slice none 0 0, .int .i64 0]) ?_ 0 _ rfl; (with_reducible repeat first | apply bN | apply bD | apply bA); exact BK410.out) hb); have n7_ := Aside0.mk (below_step lB hb); clear HO385; clear HO396; clear HO407; clear BK389; clear BK400; clear BK410; clear HB; have HO385 := n0_; have HO396 := n1_; have HO407 := n2_; have HO415 := n3_; have BK389 := n4_; have BK400 := n5_; have BK410 := n6_; have HB := n7_; clear n0_ n1_ n2_ n3_ n4_ n5_ n6_ n7_; (try clear hb); (try clear hb2); (try clear hk); (try clear hi); (try clear ho0)) | ((with_reducible refine gate_dst (N := 36) rfl ?_); refine bxe 36 #[.int .i64 0, .int .i64 0, .slice none 0 0, .int .i64 0, .int .i64 0, .int .i64 0] 44 ?_; intro gb420 hg w113 hbox hb; have n0_ := Aside0.mk (Kd.S_below (lS HO385.out) hb); have n1_ := Aside0.mk (Kd.S_below (lS HO396.out) hb); have n2_ := Aside0.mk (Kd.S_below (lS HO407.out) hb); have n3_ := Aside0.mk (Kd.R_below (lR HO415.out) hb); have n4_ := Aside0.mk (blk_below (lK BK389.out) hb); have n5_ := Aside0.mk (blk_below (lK BK400.out) hb); have n6_ := Aside0.mk (blk_below (lK BK410.out) hb); have n7_ := Aside0.mk (below_step lB hb); have n8_ := Aside0.mk (hbox); have n9_ := lG w hg; have n10_ := lG w hg; have n11_ := Aside0.mk ((by rw [hg]; exact Nat.ne_of_lt (blk_lt (lK BK389.out)) : gb389 ≠ gb420)); have n12_ := Aside0.mk ((by rw [hg]; exact Nat.ne_of_gt (blk_lt (lK BK389.out)) : gb420 ≠ gb389)); have n13_ := Aside0.mk ((by rw [hg]; exact Nat.ne_of_lt (blk_lt (lK BK400.out)) : gb400 ≠ gb420)); have n14_ := Aside0.mk ((by rw [hg]; exact Nat.ne_of_gt (blk_lt (lK BK400.out)) : gb420 ≠ gb400)); have n15_ := Aside0.mk ((by rw [hg]; exact Nat.ne_of_lt (blk_lt (lK BK410.out)) : gb410 ≠ gb420)); have n16_ := Aside0.mk ((by rw [hg]; exact Nat.ne_of_gt (blk_lt (lK BK410.out)) : gb420 ≠ gb410)); clear HO385; clear HO396; clear HO407; clear HO415; clear BK389; clear BK400; clear BK410; clear HB; have HO385 := n0_; have HO396 := n1_; have HO407 := n2_; have HO415 := n3_; have BK389 := n4_; have BK400 := n5_; have BK410 := n6_; have HB := n7_; have BK420 := n8_; have GW420 := n9_; have GE420 := n10_; have NB389_420 := n11_; have NB420_389 := n12_; have NB400_420 := n13_; have NB420_400 := n14_; have NB410_420 := n15_; have NB420_410 := n16_; clear n0_ n1_ n2_ n3_ n4_ n5_ n6_ n7_ n8_ n9_ n10_ n11_ n12_ n13_ n14_ n15_ n16_; clear hb hbox hg; have hnb114 := NB420_389.out; have hnc114 := NB389_420.out; have hnb115 := NB420_400.out; have hnc115 := NB400_420.out; have hnb116 := NB420_410.out; have hnc116 := NB410_420.out; obtain ⟨hcz117_0, hfz117_0, hcz117_1, hfz117_1, hcz117_2, hfz117_2, hcz117_3, hfz117_3, hcz117_4, hfz117_4, hcz117_5, hfz117_5⟩ := bk6 BK420.out; obtain ⟨Ao118, co118, eo118⟩ := Kd.R_slice HO415.out; subst eo118; obtain ⟨hcz119_0, hfz119_0, hcz119_1, hfz119_1⟩ := bk2 BK410.out) | ((with_reducible refine gate_callee (f := 26) rfl ?_); refine gl_ (some 209) (Try.func26) #[.agg #[.slice Ao108 t405.length co108, .int .i64 t408], .int .i64 t409] ?_; (with_reducible refine (spec_NewCache.calls kj39 _ _ t405 t408 t409 t421 t422 t423 t426 t427 t428 t429 _ ?side1 ?side2 A89.out).mono ?_); (case side1 => refine (Kd.S_reads' (e := 82) (base := w.heap.size) (ok := fun k_ => ((True ∧ some k_ ≠ (.slice Ao93 t383.length co93 : Value).ownBlock) ∧ some k_ ≠ (.slice Ao100 t394.length co100 : Value).ownBlock)) (n := t405.length) (c := co108) ?_).2.2; exact (by (with_reducible repeat (first | apply Kd.S_alloc | apply Kd.S_drewN | apply Kd.S_drew)); exact (Kd.S_mono (Kd.S_far (p := ⟨gb420, 5, none⟩) (Kd.S_far (p := ⟨gb420, 4, none⟩) (Kd.S_far (p := ⟨gb420, 3, none⟩) (Kd.S_far (p := ⟨gb420, 2, none⟩) (Kd.S_far (p := ⟨gb420, 1, none⟩) (Kd.S_far (p := ⟨gb420, 0, none⟩) (Kd.S_types HO407.out BK420.out (by decide)) (fun _ hk => hk.2) (.int .i64 t411)) (fun _ hk => hk.2) (.int .i64 t412)) (fun _ hk => hk.2) (.slice Ao118 t413.length co118)) (fun _ hk => hk.2) (.int .i64 t416)) (fun _ hk => hk.2) (.int .i64 t417)) (fun _ hk => hk.2) (.int .i64 t418)) (fun _ h_ => h_.1)))); (case side2 => exact (Kd.S_reads' HO407.out).2.1); rintro e w120 ⟨v424, rfl, ho0, hb⟩; refine ⟨_, rfl, ?_⟩; have n0_ := Aside0.mk (Kd.S_below (by (with_reducible repeat (first | apply Kd.S_alloc | apply Kd.S_drewN | apply Kd.S_drew)); exact (Kd.S_mono (Kd.S_far (p := ⟨gb420, 5, none⟩) (Kd.S_far (p := ⟨gb420, 4, none⟩) (Kd.S_far (p := ⟨gb420, 3, none⟩) (Kd.S_far (p := ⟨gb420, 2, none⟩) (Kd.S_far (p := ⟨gb420, 1, none⟩) (Kd.S_far (p := ⟨gb420, 0, none⟩) (Kd.S_types HO385.out BK420.out (by decide)) (fun _ hk => hk.2) (.int .i64 t411)) (fun _ hk => hk.2) (.int .i64 t412)) (fun _ hk => hk.2) (.slice Ao118 t413.length co118)) (fun _ hk => hk.2) (.int .i64 t416)) (fun _ hk => hk.2) (.int .i64 t417)) (fun _ hk => hk.2) (.int .i64 t418)) (fun _ h_ => h_.1))) hb); have n1_ := Aside0.mk (Kd.S_below (by (with_reducible repeat (first | apply Kd.S_alloc | apply Kd.S_drewN | apply Kd.S_drew)); exact (Kd.S_mono (Kd.S_far (p := ⟨gb420, 5, none⟩) (Kd.S_far (p := ⟨gb420, 4, none⟩) (Kd.S_far (p := ⟨gb420, 3, none⟩) (Kd.S_far (p := ⟨gb420, 2, none⟩) (Kd.S_far (p := ⟨gb420, 1, none⟩) (Kd.S_far (p := ⟨gb420, 0, none⟩) (Kd.S_types HO396.out BK420.out (by decide)) (fun _ hk => hk.2) (.int .i64 t411)) (fun _ hk => hk.2) (.int .i64 t412)) (fun _ hk => hk.2) (.slice Ao118 t413.length co118)) (fun _ hk => hk.2) (.int .i64 t416)) (fun _ hk => hk.2) (.int .i64 t417)) (fun _ hk => hk.2) (.int .i64 t418)) (fun _ h_ => h_.1))) hb); have n2_ := Aside0.mk (Kd.S_below (by (with_reducible repeat (first | apply Kd.S_alloc | apply Kd.S_drewN | apply Kd.S_drew)); exact (Kd.S_mono (Kd.S_far (p := ⟨gb420, 5, none⟩) (Kd.S_far (p := ⟨gb420, 4, none⟩) (Kd.S_far (p := ⟨gb420, 3, none⟩) (Kd.S_far (p := ⟨gb420, 2, none⟩) (Kd.S_far (p := ⟨gb420, 1, none⟩) (Kd.S_far (p := ⟨gb420, 0, none⟩) (Kd.S_types HO407.out BK420.out (by decide)) (fun _ hk => hk.2) (.int .i64 t411)) (fun _ hk => hk.2) (.int .i64 t412)) (fun _ hk => hk.2) (.slice Ao118 t413.length co118)) (fun _ hk => hk.2) (.int .i64 t416)) (fun _ hk => hk.2) (.int .i64 t417)) (fun _ hk => hk.2) (.int .i64 t418)) (fun _ h_ => h_.1))) hb); have n3_ := Aside0.mk (Kd.R_elder' (by (with_reducible repeat (first | apply Kd.R_alloc | apply Kd.R_drewN | apply Kd.R_drew)); exact (Kd.R_mono (Kd.R_far (p := ⟨gb420, 5, none⟩) (Kd.R_far (p := ⟨gb420, 4, none⟩) (Kd.R_far (p := ⟨gb420, 3, none⟩) (Kd.R_far (p := ⟨gb420, 2, none⟩) (Kd.R_far (p := ⟨gb420, 1, none⟩) (Kd.R_far (p := ⟨gb420, 0, none⟩) (Kd.R_types HO415.out BK420.out (by decide)) (fun _ hk => hk.2) (.int .i64 t411)) (fun _ hk => hk.2) (.int .i64 t412)) (fun _ hk => hk.2) (.slice Ao118 t413.length co118)) (fun _ hk => hk.2) (.int .i64 t416)) (fun _ hk => hk.2) (.int .i64 t417)) (fun _ hk => hk.2) (.int .i64 t418)) (fun _ h_ => h_.1))) (Kd.R_base ho0) hb); have n4_ := Aside0.mk (Kd.R_lower (Kd.R_new' ho0 (Kd.R_lt (by (with_reducible repeat (first | apply Kd.R_alloc | apply Kd.R_drewN | apply Kd.R_drew)); exact (Kd.R_mono (Kd.R_far (p := ⟨gb420, 5, none⟩) (Kd.R_far (p := ⟨gb420, 4, none⟩) (Kd.R_far (p := ⟨gb420, 3, none⟩) (Kd.R_far (p := ⟨gb420, 2, none⟩) (Kd.R_far (p := ⟨gb420, 1, none⟩) (Kd.R_far (p := ⟨gb420, 0, none⟩) (Kd.R_types HO415.out BK420.out (by decide)) (fun _ hk => hk.2) (.int .i64 t411)) (fun _ hk => hk.2) (.int .i64 t412)) (fun _ hk => hk.2) (.slice Ao118 t413.length co118)) (fun _ hk => hk.2) (.int .i64 t416)) (fun _ hk => hk.2) (.int .i64 t417)) (fun _ hk => hk.2) (.int .i64 t418)) (fun _ h_ => h_.1))))) (below_size lB)); have n5_ := Aside0.mk (blk_below (lJ BK389.out) hb); have n6_ := Aside0.mk (blk_below (lJ BK400.out) hb); have n7_ := Aside0.mk (blk_below (lJ BK410.out) hb); have n8_ := Aside0.mk (blk_below (g := gb420) (o := .cells #[.int .i64 t411, .int .i64 t412, .slice Ao118 t413.length co118, .int .i64 t416, .int .i64 t417, .int .i64 t418] 44 (0, 0)) (by (with_reducible repeat first | apply bN | apply bD | apply bA); refine blk_put (cs := #[.int .i64 t411, .int .i64 t412, .slice Ao118 t413.length co118, .int .i64 t416, .int .i64 t417, .int .i64 0]) ?_ 5 _ rfl; (with_reducible repeat first | apply bN | apply bD | apply bA); refine blk_put (cs := #[.int .i64 t411, .int .i64 t412, .slice Ao118 t413.length co118, .int .i64 t416, .int .i64 0, .int .i64 0]) ?_ 4 _ rfl; (with_reducible repeat first | apply bN | apply bD | apply bA); refine blk_put (cs := #[.int .i64 t411, .int .i64 t412, .slice Ao118 t413.length co118, .int .i64 0, .int .i64 0, .int .i64 0]) ?_ 3 _ rfl; (with_reducible repeat first | apply bN | apply bD | apply bA); refine blk_put (cs := #[.int .i64 t411, .int .i64 t412, .slice none 0 0, .int .i64 0, .int .i64 0, .int .i64 0]) ?_ 2 _ rfl; (with_reducible repeat first | apply bN | apply bD | apply bA); refine blk_put (cs := #[.int .i64 t411, .int .i64 0, .slice none 0 0, .int .i64 0, .int .i64 0, .int .i64 0]) ?_ 1 _ rfl; (with_reducible repeat first | apply bN | apply bD | apply bA); refine blk_put (cs := #[.int .i64 0, .int .i64 0, .slice none 0 0, .int .i64 0, .int .i64 0, .int .i64 0]) ?_ 0 _ rfl; (with_reducible repeat first | apply bN | apply bD | apply bA); exact BK420.out) hb); have n9_ := Aside0.mk (below_step lB hb); clear HO385; clear HO396; clear HO407; clear HO415; clear BK389; clear BK400; clear BK410; clear BK420; clear HB; have HO385 := n0_; have HO396 := n1_; have HO407 := n2_; have HO415 := n3_; have HO425 := n4_; have BK389 := n5_; have BK400 := n6_; have BK410 := n7_; have BK420 := n8_; have HB := n9_; clear n0_ n1_ n2_ n3_ n4_ n5_ n6_ n7_ n8_ n9_; (try clear hb); (try clear hb2); (try clear hk); (try clear hi); (try clear ho0)) | ((with_reducible refine gate_dst (N := 38) rfl ?_); refine bxe 38 #[.int .i64 0, .int .i64 0, .slice none 0 0, .int .i64 0, .int .i64 0, .int .i64 0] 44 ?_; intro gb430 hg w121 hbox hb; have n0_ := Aside0.mk (Kd.S_below (lS HO385.out) hb); have n1_ := Aside0.mk (Kd.S_below (lS HO396.out) hb); have n2_ := Aside0.mk (Kd.S_below (lS HO407.out) hb); have n3_ := Aside0.mk (Kd.R_below (lR HO415.out) hb); have n4_ := Aside0.mk (Kd.R_below (lR HO425.out) hb); have n5_ := Aside0.mk (blk_below (lK BK389.out) hb); have n6_ := Aside0.mk (blk_below (lK BK400.out) hb); have n7_ := Aside0.mk (blk_below (lK BK410.out) hb); have n8_ := Aside0.mk (blk_below (lK BK420.out) hb); have n9_ := Aside0.mk (below_step lB hb); have n10_ := Aside0.mk (hbox); have n11_ := lG w hg; have n12_ := lG w hg; have n13_ := Aside0.mk ((by rw [hg]; exact Nat.ne_of_lt (blk_lt (lK BK389.out)) : gb389 ≠ gb430)); have n14_ := Aside0.mk ((by rw [hg]; exact Nat.ne_of_gt (blk_lt (lK BK389.out)) : gb430 ≠ gb389)); have n15_ := Aside0.mk ((by rw [hg]; exact Nat.ne_of_lt (blk_lt (lK BK400.out)) : gb400 ≠ gb430)); have n16_ := Aside0.mk ((by rw [hg]; exact Nat.ne_of_gt (blk_lt (lK BK400.out)) : gb430 ≠ gb400)); have n17_ := Aside0.mk ((by rw [hg]; exact Nat.ne_of_lt (blk_lt (lK BK410.out)) : gb410 ≠ gb430)); have n18_ := Aside0.mk ((by rw [hg]; exact Nat.ne_of_gt (blk_lt (lK BK410.out)) : gb430 ≠ gb410)); have n19_ := Aside0.mk ((by rw [hg]; exact Nat.ne_of_lt (blk_lt (lK BK420.out)) : gb420 ≠ gb430)); have n20_ := Aside0.mk ((by rw [hg]; exact Nat.ne_of_gt (blk_lt (lK BK420.out)) : gb430 ≠ gb420)); clear HO385; clear HO396; clear HO407; clear HO415; clear HO425; clear BK389; clear BK400; clear BK410; clear BK420; clear HB; have HO385 := n0_; have HO396 := n1_; have HO407 := n2_; have HO415 := n3_; have HO425 := n4_; have BK389 := n5_; have BK400 := n6_; have BK410 := n7_; have BK420 := n8_; have HB := n9_; have BK430 := n10_; have GW430 := n11_; have GE430 := n12_; have NB389_430 := n13_; have NB430_389 := n14_; have NB400_430 := n15_; have NB430_400 := n16_; have NB410_430 := n17_; have NB430_410 := n18_; have NB420_430 := n19_; have NB430_420 := n20_; clear n0_ n1_ n2_ n3_ n4_ n5_ n6_ n7_ n8_ n9_ n10_ n11_ n12_ n13_ n14_ n15_ n16_ n17_ n18_ n19_ n20_; clear hb hbox hg; have hnb122 := NB430_389.out; have hnc122 := NB389_430.out; have hnb123 := NB430_400.out; have hnc123 := NB400_430.out; have hnb124 := NB430_410.out; have hnc124 := NB410_430.out; have hnb125 := NB430_420.out; have hnc125 := NB420_430.out; obtain ⟨hcz126_0, hfz126_0, hcz126_1, hfz126_1, hcz126_2, hfz126_2, hcz126_3, hfz126_3, hcz126_4, hfz126_4, hcz126_5, hfz126_5⟩ := bk6 BK430.out; obtain ⟨Ao127, co127, eo127⟩ := Kd.R_slice HO425.out; subst eo127))
              (try simp only [Act.put, List.setIfInBounds_toArray, List.set_cons_zero, List.set_cons_succ])
              go_cut [4] (fun v4 wc => ∃ (kq : Nat) (x4_89 : Bool), v4 = .bool x4_89 ∧ Aside0 (laws_FnWorlds.j4 kq x4_89 = some r) ∧ Aside0 (kq ≤ kj39) ∧ Aside0 (Below w.heap.size w wc))
              case first =>
                have H := HC90.out
                clear HC90
                by_cases c128 : (t391 == t393) = true
                · rw [if_pos c128] at H
                  have c128b0 : (t391 == t393) = true := c128
                  (try (have c128b1 : decide (t391 = t393) = true := by simpa using c128))
                  (try (have c128b2 : (t391 == t393) = true := by simpa using c128))
                  clear c128
                  (first | rw [c128b0] | (simp only [i64_w, i32_w]; rw [c128b0]) | skip)
                  by_cases c129 : t390 = t392
                  · rw [if_pos c129] at H
                    have c129b0 : (t390 == t392) = true := beq_iff_eq.mpr c129
                    have c129b1 : (t390 != t392) = false := bne_eq_false_iff_eq.mpr c129
                    clear c129
                    by_cases c130 : (t402 == t404) = true
                    · rw [if_pos c130] at H
                      have c130b0 : (t402 == t404) = true := c130
                      (try (have c130b1 : decide (t402 = t404) = true := by simpa using c130))
                      (try (have c130b2 : (t402 == t404) = true := by simpa using c130))
                      clear c130
                      by_cases c131 : (t401 == t403) = true
                      · rw [if_pos c131] at H
                        have c131b0 : (t401 == t403) = true := c131
                        (try (have c131b1 : decide (t401 = t403) = true := by simpa using c131))
                        (try (have c131b2 : (t401 == t403) = true := by simpa using c131))
                        clear c131
                        by_cases c132 : (t419 == t429) = true
                        · rw [if_pos c132] at H
                          have c132b0 : (t419 == t429) = true := c132
                          (try (have c132b1 : decide (t419 = t429) = true := by simpa using c132))
                          (try (have c132b2 : (t419 == t429) = true := by simpa using c132))
                          clear c132
                          replace H := lO H
                          obtain ⟨t431, A133, H⟩ := H
                          have H' := Aside0.mk H
                          clear H
                          have hnb134 := NB420_389.out
                          have hnc134 := NB389_420.out
                          have hnb135 := NB420_400.out
                          have hnc135 := NB400_420.out
                          have hnb136 := NB420_410.out
                          have hnc136 := NB410_420.out
                          have hnb137 := NB420_430.out
                          have hnc137 := NB430_420.out
                          obtain ⟨hcz138_0, hfz138_0, hcz138_1, hfz138_1, hcz138_2, hfz138_2, hcz138_3, hfz138_3, hcz138_4, hfz138_4, hcz138_5, hfz138_5⟩ := bk6 BK420.out
                          have hnb139 := NB430_389.out
                          have hnc139 := NB389_430.out
                          have hnb140 := NB430_400.out
                          have hnc140 := NB400_430.out
                          have hnb141 := NB430_410.out
                          have hnc141 := NB410_430.out
                          obtain ⟨hcz142_0, hfz142_0, hcz142_1, hfz142_1, hcz142_2, hfz142_2, hcz142_3, hfz142_3, hcz142_4, hfz142_4, hcz142_5, hfz142_5⟩ := bk6 BK430.out
                          go_wp2_with (first | (go_at_call 40; (with_reducible refine (laws_sameCaches.calls kj39 t411 t412 _ _ t413 t416 t417 t418 t421 t422 _ _ t423 t426 t427 t428 t431 _ ?side1 ?side2 ?side3 ?side4 A133.out).mono ?_); (case side1 => refine (Kd.R_reads' (e := 97) (base := w.heap.size) (ok := fun k_ => (True ∧ some k_ ≠ (.slice Ao127 t423.length co127 : Value).ownBlock)) (n := t413.length) (c := co118) ?_).2.2; exact (by (with_reducible repeat (first | apply Kd.R_alloc | apply Kd.R_drewN | apply Kd.R_drew)); exact (Kd.R_mono (Kd.R_far (p := ⟨gb430, 5, none⟩) (Kd.R_far (p := ⟨gb430, 4, none⟩) (Kd.R_far (p := ⟨gb430, 3, none⟩) (Kd.R_far (p := ⟨gb430, 2, none⟩) (Kd.R_far (p := ⟨gb430, 1, none⟩) (Kd.R_far (p := ⟨gb430, 0, none⟩) (Kd.R_types HO415.out BK430.out (by decide)) (fun _ hk => hk.2) (.int .i64 t421)) (fun _ hk => hk.2) (.int .i64 t422)) (fun _ hk => hk.2) (.slice Ao127 t423.length co127)) (fun _ hk => hk.2) (.int .i64 t426)) (fun _ hk => hk.2) (.int .i64 t427)) (fun _ hk => hk.2) (.int .i64 t428)) (fun _ h_ => h_.1)))); (case side2 => exact (Kd.R_reads' HO415.out).2.1); (case side3 => refine (Kd.R_reads' (e := 97) (base := w.heap.size) (ok := fun k_ => (True ∧ some k_ ≠ (.slice Ao118 t413.length co118 : Value).ownBlock)) (n := t423.length) (c := co127) ?_).2.2; exact (by (with_reducible repeat (first | apply Kd.R_alloc | apply Kd.R_drewN | apply Kd.R_drew)); exact (Kd.R_mono (Kd.R_far (p := ⟨gb430, 5, none⟩) (Kd.R_far (p := ⟨gb430, 4, none⟩) (Kd.R_far (p := ⟨gb430, 3, none⟩) (Kd.R_far (p := ⟨gb430, 2, none⟩) (Kd.R_far (p := ⟨gb430, 1, none⟩) (Kd.R_far (p := ⟨gb430, 0, none⟩) (Kd.R_types HO425.out BK430.out (by decide)) (fun _ hk => hk.2) (.int .i64 t421)) (fun _ hk => hk.2) (.int .i64 t422)) (fun _ hk => hk.2) (.slice Ao127 t423.length co127)) (fun _ hk => hk.2) (.int .i64 t426)) (fun _ hk => hk.2) (.int .i64 t427)) (fun _ hk => hk.2) (.int .i64 t428)) (fun _ h_ => h_.1)))); (case side4 => exact (Kd.R_reads' HO425.out).2.1); rintro e w143 ⟨rfl, hb⟩; have n0_ := Aside0.mk (Kd.S_below (by (with_reducible repeat (first | apply Kd.S_alloc | apply Kd.S_drewN | apply Kd.S_drew)); exact (Kd.S_mono (Kd.S_far (p := ⟨gb430, 5, none⟩) (Kd.S_far (p := ⟨gb430, 4, none⟩) (Kd.S_far (p := ⟨gb430, 3, none⟩) (Kd.S_far (p := ⟨gb430, 2, none⟩) (Kd.S_far (p := ⟨gb430, 1, none⟩) (Kd.S_far (p := ⟨gb430, 0, none⟩) (Kd.S_types HO385.out BK430.out (by decide)) (fun _ hk => hk.2) (.int .i64 t421)) (fun _ hk => hk.2) (.int .i64 t422)) (fun _ hk => hk.2) (.slice Ao127 t423.length co127)) (fun _ hk => hk.2) (.int .i64 t426)) (fun _ hk => hk.2) (.int .i64 t427)) (fun _ hk => hk.2) (.int .i64 t428)) (fun _ h_ => h_.1))) hb); have n1_ := Aside0.mk (Kd.S_below (by (with_reducible repeat (first | apply Kd.S_alloc | apply Kd.S_drewN | apply Kd.S_drew)); exact (Kd.S_mono (Kd.S_far (p := ⟨gb430, 5, none⟩) (Kd.S_far (p := ⟨gb430, 4, none⟩) (Kd.S_far (p := ⟨gb430, 3, none⟩) (Kd.S_far (p := ⟨gb430, 2, none⟩) (Kd.S_far (p := ⟨gb430, 1, none⟩) (Kd.S_far (p := ⟨gb430, 0, none⟩) (Kd.S_types HO396.out BK430.out (by decide)) (fun _ hk => hk.2) (.int .i64 t421)) (fun _ hk => hk.2) (.int .i64 t422)) (fun _ hk => hk.2) (.slice Ao127 t423.length co127)) (fun _ hk => hk.2) (.int .i64 t426)) (fun _ hk => hk.2) (.int .i64 t427)) (fun _ hk => hk.2) (.int .i64 t428)) (fun _ h_ => h_.1))) hb); have n2_ := Aside0.mk (Kd.S_below (by (with_reducible repeat (first | apply Kd.S_alloc | apply Kd.S_drewN | apply Kd.S_drew)); exact (Kd.S_mono (Kd.S_far (p := ⟨gb430, 5, none⟩) (Kd.S_far (p := ⟨gb430, 4, none⟩) (Kd.S_far (p := ⟨gb430, 3, none⟩) (Kd.S_far (p := ⟨gb430, 2, none⟩) (Kd.S_far (p := ⟨gb430, 1, none⟩) (Kd.S_far (p := ⟨gb430, 0, none⟩) (Kd.S_types HO407.out BK430.out (by decide)) (fun _ hk => hk.2) (.int .i64 t421)) (fun _ hk => hk.2) (.int .i64 t422)) (fun _ hk => hk.2) (.slice Ao127 t423.length co127)) (fun _ hk => hk.2) (.int .i64 t426)) (fun _ hk => hk.2) (.int .i64 t427)) (fun _ hk => hk.2) (.int .i64 t428)) (fun _ h_ => h_.1))) hb); have n3_ := Aside0.mk (Kd.R_below (by (with_reducible repeat (first | apply Kd.R_alloc | apply Kd.R_drewN | apply Kd.R_drew)); exact (Kd.R_mono (Kd.R_far (p := ⟨gb430, 5, none⟩) (Kd.R_far (p := ⟨gb430, 4, none⟩) (Kd.R_far (p := ⟨gb430, 3, none⟩) (Kd.R_far (p := ⟨gb430, 2, none⟩) (Kd.R_far (p := ⟨gb430, 1, none⟩) (Kd.R_far (p := ⟨gb430, 0, none⟩) (Kd.R_types HO415.out BK430.out (by decide)) (fun _ hk => hk.2) (.int .i64 t421)) (fun _ hk => hk.2) (.int .i64 t422)) (fun _ hk => hk.2) (.slice Ao127 t423.length co127)) (fun _ hk => hk.2) (.int .i64 t426)) (fun _ hk => hk.2) (.int .i64 t427)) (fun _ hk => hk.2) (.int .i64 t428)) (fun _ h_ => h_.1))) hb); have n4_ := Aside0.mk (Kd.R_below (by (with_reducible repeat (first | apply Kd.R_alloc | apply Kd.R_drewN | apply Kd.R_drew)); exact (Kd.R_mono (Kd.R_far (p := ⟨gb430, 5, none⟩) (Kd.R_far (p := ⟨gb430, 4, none⟩) (Kd.R_far (p := ⟨gb430, 3, none⟩) (Kd.R_far (p := ⟨gb430, 2, none⟩) (Kd.R_far (p := ⟨gb430, 1, none⟩) (Kd.R_far (p := ⟨gb430, 0, none⟩) (Kd.R_types HO425.out BK430.out (by decide)) (fun _ hk => hk.2) (.int .i64 t421)) (fun _ hk => hk.2) (.int .i64 t422)) (fun _ hk => hk.2) (.slice Ao127 t423.length co127)) (fun _ hk => hk.2) (.int .i64 t426)) (fun _ hk => hk.2) (.int .i64 t427)) (fun _ hk => hk.2) (.int .i64 t428)) (fun _ h_ => h_.1))) hb); have n5_ := Aside0.mk (blk_below (lJ BK389.out) hb); have n6_ := Aside0.mk (blk_below (lJ BK400.out) hb); have n7_ := Aside0.mk (blk_below (lJ BK410.out) hb); have n8_ := Aside0.mk (blk_below (lJ BK420.out) hb); have n9_ := Aside0.mk (blk_below (g := gb430) (o := .cells #[.int .i64 t421, .int .i64 t422, .slice Ao127 t423.length co127, .int .i64 t426, .int .i64 t427, .int .i64 t428] 44 (0, 0)) (by (with_reducible repeat first | apply bN | apply bD | apply bA); refine blk_put (cs := #[.int .i64 t421, .int .i64 t422, .slice Ao127 t423.length co127, .int .i64 t426, .int .i64 t427, .int .i64 0]) ?_ 5 _ rfl; (with_reducible repeat first | apply bN | apply bD | apply bA); refine blk_put (cs := #[.int .i64 t421, .int .i64 t422, .slice Ao127 t423.length co127, .int .i64 t426, .int .i64 0, .int .i64 0]) ?_ 4 _ rfl; (with_reducible repeat first | apply bN | apply bD | apply bA); refine blk_put (cs := #[.int .i64 t421, .int .i64 t422, .slice Ao127 t423.length co127, .int .i64 0, .int .i64 0, .int .i64 0]) ?_ 3 _ rfl; (with_reducible repeat first | apply bN | apply bD | apply bA); refine blk_put (cs := #[.int .i64 t421, .int .i64 t422, .slice none 0 0, .int .i64 0, .int .i64 0, .int .i64 0]) ?_ 2 _ rfl; (with_reducible repeat first | apply bN | apply bD | apply bA); refine blk_put (cs := #[.int .i64 t421, .int .i64 0, .slice none 0 0, .int .i64 0, .int .i64 0, .int .i64 0]) ?_ 1 _ rfl; (with_reducible repeat first | apply bN | apply bD | apply bA); refine blk_put (cs := #[.int .i64 0, .int .i64 0, .slice none 0 0, .int .i64 0, .int .i64 0, .int .i64 0]) ?_ 0 _ rfl; (with_reducible repeat first | apply bN | apply bD | apply bA); exact BK430.out) hb); have n10_ := Aside0.mk (below_step lB hb); clear HO385; clear HO396; clear HO407; clear HO415; clear HO425; clear BK389; clear BK400; clear BK410; clear BK420; clear BK430; clear HB; have HO385 := n0_; have HO396 := n1_; have HO407 := n2_; have HO415 := n3_; have HO425 := n4_; have BK389 := n5_; have BK400 := n6_; have BK410 := n7_; have BK420 := n8_; have BK430 := n9_; have HB := n10_; clear n0_ n1_ n2_ n3_ n4_ n5_ n6_ n7_ n8_ n9_ n10_; (try clear hb); (try clear hb2); (try clear hk); (try clear hi); (try simp only [])))
                          go_meet
                          case rel => (refine ⟨_, (t431), lF, H', ?_⟩; refine ⟨⟨by have := HJ6.out; have := HJ39.out; first | omega | exact Nat.le_refl _⟩, ?_⟩; exact ⟨lB⟩)
                        · rw [if_neg c132] at H
                          have c132b0 : (t419 == t429) = false := by simpa using c132
                          (try (have c132b1 : decide (t419 = t429) = false := by simpa using c132))
                          (try (have c132b2 : (t419 == t429) = false := by simpa using c132))
                          (try (have c132b3 : ¬ (t419 = t429) := by simpa using c132))
                          clear c132
                          have H' := Aside0.mk H
                          clear H
                          as_aux_lemma =>
                           go_wp2
                           go_meet
                           case rel => (refine ⟨_, (false), lF, H', ?_⟩; refine ⟨⟨by have := HJ6.out; have := HJ39.out; first | omega | exact Nat.le_refl _⟩, ?_⟩; exact ⟨lB⟩)
                      · rw [if_neg c131] at H
                        have c131b0 : (t401 == t403) = false := by simpa using c131
                        (try (have c131b1 : decide (t401 = t403) = false := by simpa using c131))
                        (try (have c131b2 : (t401 == t403) = false := by simpa using c131))
                        (try (have c131b3 : ¬ (t401 = t403) := by simpa using c131))
                        clear c131
                        have H' := Aside0.mk H
                        clear H
                        as_aux_lemma =>
                         go_wp2
                         go_meet
                         case rel => (refine ⟨_, (false), lF, H', ?_⟩; refine ⟨⟨by have := HJ6.out; have := HJ39.out; first | omega | exact Nat.le_refl _⟩, ?_⟩; exact ⟨lB⟩)
                    · rw [if_neg c130] at H
                      have c130b0 : (t402 == t404) = false := by simpa using c130
                      (try (have c130b1 : decide (t402 = t404) = false := by simpa using c130))
                      (try (have c130b2 : (t402 == t404) = false := by simpa using c130))
                      (try (have c130b3 : ¬ (t402 = t404) := by simpa using c130))
                      clear c130
                      have H' := Aside0.mk H
                      clear H
                      as_aux_lemma =>
                       go_wp2
                       go_meet
                       case rel => (refine ⟨_, (false), lF, H', ?_⟩; refine ⟨⟨by have := HJ6.out; have := HJ39.out; first | omega | exact Nat.le_refl _⟩, ?_⟩; exact ⟨lB⟩)
                  · rw [if_neg c129] at H
                    have c129b0 : (t390 == t392) = false := beq_eq_false_iff_ne.mpr c129
                    have c129b1 : (t390 != t392) = true := bne_iff_ne.mpr c129
                    have H' := Aside0.mk H
                    clear H
                    as_aux_lemma =>
                     go_wp2
                     go_meet
                     case rel => (refine ⟨_, (false), lF, H', ?_⟩; refine ⟨⟨by have := HJ6.out; have := HJ39.out; first | omega | exact Nat.le_refl _⟩, ?_⟩; exact ⟨lB⟩)
                · rw [if_neg c128] at H
                  have c128b0 : (t391 == t393) = false := by simpa using c128
                  (try (have c128b1 : decide (t391 = t393) = false := by simpa using c128))
                  (try (have c128b2 : (t391 == t393) = false := by simpa using c128))
                  (try (have c128b3 : ¬ (t391 = t393) := by simpa using c128))
                  clear c128
                  (first | rw [c128b0] | (simp only [i64_w, i32_w]; rw [c128b0]) | skip)
                  have H' := Aside0.mk H
                  clear H
                  as_aux_lemma =>
                   go_wp2
                   go_meet
                   case rel => (refine ⟨_, (false), lF, H', ?_⟩; refine ⟨⟨by have := HJ6.out; have := HJ39.out; first | omega | exact Nat.le_refl _⟩, ?_⟩; exact ⟨lB⟩)
              case rest =>
                clear HC90
                try clear c1
                try clear c2
                try clear p2
                try clear c3
                try clear c4
                try clear c5
                try clear c6
                try clear p6
                try clear c7
                try clear c10
                try clear c11
                try clear c12
                try clear c13
                try clear c14
                try clear c16
                try clear c18
                try clear c19
                try clear c20
                try clear c21
                try clear c24
                try clear c24b0
                try clear c24b1
                try clear c24b2
                try clear c26
                try clear c27
                try clear c28
                try clear c36
                try clear c37
                try clear c38
                try clear c39
                try clear c41
                try clear c42
                try clear c44
                try clear c44b0
                try clear c49
                try clear c56
                try clear c57
                try clear c58
                try clear c58b0
                try clear c58b1
                try clear c59
                try clear c59b0
                try clear c60
                try clear c60b0
                try clear c60b1
                try clear c60b2
                try clear c61
                try clear c61b0
                try clear c61b1
                try clear c62
                try clear c62b0
                try clear c62b1
                try clear c63
                try clear c63b0
                try clear c64
                try clear p64
                try clear c66
                try clear c67
                try clear c67b0
                try clear c67b1
                try clear c68
                try clear c73
                try clear c78
                try clear c101
                try clear c109
                try clear c110
                try clear c114
                try clear c115
                try clear c116
                try clear c122
                try clear c123
                try clear c124
                try clear c125
                try clear c128
                try clear c128b0
                try clear c128b1
                try clear c128b2
                try clear c129
                try clear c129b0
                try clear c129b1
                try clear c130
                try clear c130b0
                try clear c130b1
                try clear c130b2
                try clear c131
                try clear c131b0
                try clear c131b1
                try clear c131b2
                try clear c132
                try clear c132b0
                try clear c132b1
                try clear c132b2
                try clear c134
                try clear c135
                try clear c136
                try clear c137
                try clear c139
                try clear c140
                try clear c141
                try clear hcz102_0 hcz102_1
                try clear hcz104_0 hcz104_1
                try clear hcz111_0 hcz111_1
                try clear hcz117_0 hcz117_1 hcz117_2 hcz117_3 hcz117_4 hcz117_5
                try clear hcz119_0 hcz119_1
                try clear hcz126_0 hcz126_1 hcz126_2 hcz126_3 hcz126_4 hcz126_5
                try clear hcz138_0 hcz138_1 hcz138_2 hcz138_3 hcz138_4 hcz138_5
                try clear hcz142_0 hcz142_1 hcz142_2 hcz142_3 hcz142_4 hcz142_5
                try clear hcz43_0 hcz43_1
                try clear hcz50_0 hcz50_1
                try clear hcz52_0 hcz52_1
                try clear hcz54_0 hcz54_1
                try clear hcz69_0 hcz69_1
                try clear hcz71_0 hcz71_1
                try clear hcz72_0 hcz72_1
                try clear hcz74_0 hcz74_1
                try clear hcz76_0 hcz76_1
                try clear hcz77_0 hcz77_1
                try clear hcz79_0 hcz79_1
                try clear hcz94_0 hcz94_1
                try clear hcz96_0 hcz96_1
                try clear hfz102_0 hfz102_1
                try clear hfz104_0 hfz104_1
                try clear hfz111_0 hfz111_1
                try clear hfz117_0 hfz117_1 hfz117_2 hfz117_3 hfz117_4 hfz117_5
                try clear hfz119_0 hfz119_1
                try clear hfz126_0 hfz126_1 hfz126_2 hfz126_3 hfz126_4 hfz126_5
                try clear hfz138_0 hfz138_1 hfz138_2 hfz138_3 hfz138_4 hfz138_5
                try clear hfz142_0 hfz142_1 hfz142_2 hfz142_3 hfz142_4 hfz142_5
                try clear hfz43_0 hfz43_1
                try clear hfz50_0 hfz50_1
                try clear hfz52_0 hfz52_1
                try clear hfz54_0 hfz54_1
                try clear hfz69_0 hfz69_1
                try clear hfz71_0 hfz71_1
                try clear hfz72_0 hfz72_1
                try clear hfz74_0 hfz74_1
                try clear hfz76_0 hfz76_1
                try clear hfz77_0 hfz77_1
                try clear hfz79_0 hfz79_1
                try clear hfz94_0 hfz94_1
                try clear hfz96_0 hfz96_1
                try clear p2
                try clear p6
                try clear p64
                obtain ⟨kq, x4_89, rfl, HA, HJ89, HB⟩ := hcut
                cases kq with
                | zero => exact absurd HA.out (by simp [laws_FnWorlds.j4])
                | succ kj89 =>
                  have H := HA.out
                  clear HA
                  simp only [laws_FnWorlds.j4] at H
                  obtain rfl := Option.some.inj H
                  first | (go_wp2; go_ret; exact ⟨lE, lB⟩) | (exfalso; simp only [decide_eq_false_iff_not, decide_eq_true_eq] at *; omega)

/-- THE ONE PURE STATEMENT of laws_FnWorlds: yours. -/
def laws_FnWorlds.Pure : Prop := ∀ (l0 : List Int) (l1 : List Int), l0.length ≤ maxLen → l0.length * 1 ≤ 140737488351232 → (∀ x ∈ l0, (Lit.int .u8 x).wf = true) → l1.length ≤ maxLen → l1.length * 1 ≤ 140737488351232 → (∀ x ∈ l1, (Lit.int .u8 x).wf = true) → ∃ k, laws_FnWorlds.f k l0 l1 = some true
theorem laws_FnWorlds.walk (P : laws_FnWorlds.Pure) (a0 : Option Addr) (len0 cap0 : Nat) (z0 : List Int) (a1 : Option Addr) (len1 cap1 : Nat) (z1 : List Int) (w : World) (w0 : (a0 = none ∧ len0 = 0 ∧ cap0 = 0 ∧ z0 = []) ∨ ∃ x, a0 = some x ∧ len0 ≤ cap0 ∧ cap0 ≤ maxLen ∧ z0.length = cap0 ∧ (∀ i, i < z0.length → w.cell? (x.add i) = some (.int .u8 (z0.getD i 0))) ∧ ∀ n ∈ z0, (Lit.int .u8 n).wf = true) (y0 : len0 * 1 ≤ 140737488351232) (w1 : (a1 = none ∧ len1 = 0 ∧ cap1 = 0 ∧ z1 = []) ∨ ∃ x, a1 = some x ∧ len1 ≤ cap1 ∧ cap1 ≤ maxLen ∧ z1.length = cap1 ∧ (∀ i, i < z1.length → w.cell? (x.add i) = some (.int .u8 (z1.getD i 0))) ∧ ∀ n ∈ z1, (Lit.int .u8 n).wf = true) (y1 : len1 * 1 ≤ 140737488351232) :
    Calls Try.prog 9 #[.slice a0 len0 cap0, .slice a1 len1 cap1] w fun e w' => e = .returned (.bool true) ∧ Below w.heap.size w w' := by
  obtain ⟨l0, rfl, hr0, hm0, hw0, hc0⟩ := ReadsInt.ofRowC w0
  obtain ⟨l1, rfl, hr1, hm1, hw1, hc1⟩ := ReadsInt.ofRowC w1
  obtain ⟨k, h⟩ := P l0 l1 hm0 y0 hw0 hm1 y1 hw1
  refine (laws_FnWorlds.calls k _ _ l0 _ _ l1 true w (Kd.C_of_reads (d := (0 : Int)) (h1 := fun _ => rfl) hr0) hc0 (Kd.C_of_reads (d := (0 : Int)) (h1 := fun _ => rfl) hr1) hc1 h).mono ?_
  rintro e w' ⟨rfl, hd⟩
  exact ⟨rfl, hd⟩

end Go.Proofs.Ytjmgleomljfieaa.Q
