/- Lemmas out of the texts that print.sh printed for this seat (PTraceDeepx11): those that the theorem uses; laid together by merge2.py. -/
import Derived.Test.YtakdckaplmoklaaZP0
import Derived.Test.YtakdckaplmoklaaZP9
section
namespace Go.Proofs.Ytakdckaplmoklaa.PTraceDeep
open Go.RowKit Go.Proofs.YtakdckaplmoklaaW.PrintWords Go.Proofs.YtakdckaplmoklaaW.PrintLast Go.Proofs.YtakdckaplmoklaaW.PrintMore
attribute [local go_sem] max2_int min2_int max_two min_two max_three min_three max_four min_four
set_option linter.unusedVariables false
set_option linter.unusedSimpArgs false
mutual
def gleanerref4_depths.l0 : Nat → List Int → List Bool → Int → List (S50) → Int → List Int → Int → Int → ByteArray → Int → Int → List (S102) → Option (List Int × Int × Int)
  | 0, _, _, _, _, _, _, _, _, _, _, _, _ => none
  | k + 1, x7, x8, x9, x262000, x262001, x262002, x262003, x262004, x263000, x263001, x263002, x263003 => if x9 < (x7.length : Int) then (if 0 ≤ x9 then (gleanerref4_depths.l0 k (x7.set (x9 : Int).toNat (-1)) x8 (wrap64 (x9 + 1)) x262000 x262001 x262002 x262003 x262004 x263000 x263001 x263002 x263003) else (none)) else (gleanerref4_depths.l1 k x7 x8 x262000 x262001 x262002 x262003 x262004 x263000 x263001 x263002 x263003)
def gleanerref4_depths.l1 : Nat → List Int → List Bool → List (S50) → Int → List Int → Int → Int → ByteArray → Int → Int → List (S102) → Option (List Int × Int × Int)
  | 0, _, _, _, _, _, _, _, _, _, _, _ => none
  | k + 1, x7, x8, x262000, x262001, x262002, x262003, x262004, x263000, x263001, x263002, x263003 => gleanerref4_depths.l2 k x7 x8 0 x262000 x262001 x262002 x262003 x262004 x263000 x263001 x263002 x263003
def gleanerref4_depths.j3 : Nat → List Int → List Bool → Int → List (S50) → Int → List Int → Int → Int → ByteArray → Int → Int → List (S102) → Option (List Int × Int × Int)
  | 0, _, _, _, _, _, _, _, _, _, _, _, _ => none
  | k + 1, x7, x8, x10, x262000, x262001, x262002, x262003, x262004, x263000, x263001, x263002, x263003 => if x10 = (x7.length : Int) then (some (x7, 0, 0)) else (if 0 ≤ x10 then (if x10 < (x8.length : Int) then ((some (x8.set (x10 : Int).toNat true : List Bool)).bind fun y272 => (if x10 < (x263003.length : Int) then ((gleanerref1_Pops.f k ((rd_T102 x263003 x10).f0) ((rd_T102 x263003 x10).f1) x262000).bind fun t274 => (if x10 < (x7.length : Int) then ((gleanerref1_Pushes.f k ((rd_T102 x263003 x10).f0) ((rd_T102 x263003 x10).f1)).bind fun t277 => (if (rd x7 x10) < t274 then (gleanerref4_depths.j4 k x7 y272 x10 (wrap64 ((wrap64 ((rd x7 x10) - t274)) + t277)) true x262000 x262001 x262002 x262003 x262004 x263000 x263001 x263002 x263003) else (if t274 < (-32) then (gleanerref4_depths.j4 k x7 y272 x10 (wrap64 ((wrap64 ((rd x7 x10) - t274)) + t277)) true x262000 x262001 x262002 x262003 x262004 x263000 x263001 x263002 x263003) else (gleanerref4_depths.j4 k x7 y272 x10 (wrap64 ((wrap64 ((rd x7 x10) - t274)) + t277)) (decide ((wrap64 ((wrap64 ((rd x7 x10) - t274)) + t277)) > 32)) x262000 x262001 x262002 x262003 x262004 x263000 x263001 x263002 x263003)))) else (none))) else (none))) else (none)) else (none))
def gleanerref4_depths.j4 : Nat → List Int → List Bool → Int → Int → Bool → List (S50) → Int → List Int → Int → Int → ByteArray → Int → Int → List (S102) → Option (List Int × Int × Int)
  | 0, _, _, _, _, _, _, _, _, _, _, _, _, _, _ => none
  | k + 1, x7, x8, x10, x12, x93, x262000, x262001, x262002, x262003, x262004, x263000, x263001, x263002, x263003 => if x93 = true then (some (([] : List Int), x10, 12)) else (if 0 ≤ x10 then (if x10 < (x263003.length : Int) then ((gleanerref1_Next.f k ((rd_T102 x263003 x10).f0) ((rd_T102 x263003 x10).f1) x10).bind fun t280 => (gleanerref4_depths.l3 k x7 x8 x10 x12 t280 0 x262000 x262001 x262002 x262003 x262004 x263000 x263001 x263002 x263003)) else (none)) else (none))
def gleanerref4_depths.l3 : Nat → List Int → List Bool → Int → Int → List Int → Int → List (S50) → Int → List Int → Int → Int → ByteArray → Int → Int → List (S102) → Option (List Int × Int × Int)
  | 0, _, _, _, _, _, _, _, _, _, _, _, _, _, _, _ => none
  | k + 1, x7, x8, x10, x12, x13, x14, x262000, x262001, x262002, x262003, x262004, x263000, x263001, x263002, x263003 => if x14 < (x13.length : Int) then (if 0 ≤ x14 then (if (rd x13 x14) ≥ (x7.length : Int) then (some (([] : List Int), x10, 11)) else (if 0 ≤ (rd x13 x14) then (if (rd x13 x14) < (x7.length : Int) then (if (rd x7 (rd x13 x14)) ≥ 0 then (if (rd x7 (rd x13 x14)) = x12 then (gleanerref4_depths.l3 k (x7.set ((rd x13 x14) : Int).toNat x12) x8 x10 x12 x13 (wrap64 (x14 + 1)) x262000 x262001 x262002 x262003 x262004 x263000 x263001 x263002 x263003) else (some (([] : List Int), x10, 12))) else (gleanerref4_depths.l3 k (x7.set ((rd x13 x14) : Int).toNat x12) x8 x10 x12 x13 (wrap64 (x14 + 1)) x262000 x262001 x262002 x262003 x262004 x263000 x263001 x263002 x263003)) else (none)) else (none))) else (none)) else (gleanerref4_depths.l1 k x7 x8 x262000 x262001 x262002 x262003 x262004 x263000 x263001 x263002 x263003)
def gleanerref4_depths.l2 : Nat → List Int → List Bool → Int → List (S50) → Int → List Int → Int → Int → ByteArray → Int → Int → List (S102) → Option (List Int × Int × Int)
  | 0, _, _, _, _, _, _, _, _, _, _, _, _ => none
  | k + 1, x7, x8, x10, x262000, x262001, x262002, x262003, x262004, x263000, x263001, x263002, x263003 => if x10 < (x7.length : Int) then (if 0 ≤ x10 then (if (rd x7 x10) < 0 then (gleanerref4_depths.l2 k x7 x8 (wrap64 (x10 + 1)) x262000 x262001 x262002 x262003 x262004 x263000 x263001 x263002 x263003) else (if x10 < (x8.length : Int) then (if rdOf false x8 x10 = true then (gleanerref4_depths.l2 k x7 x8 (wrap64 (x10 + 1)) x262000 x262001 x262002 x262003 x262004 x263000 x263001 x263002 x263003) else (gleanerref4_depths.j3 k x7 x8 x10 x262000 x262001 x262002 x262003 x262004 x263000 x263001 x263002 x263003)) else (none))) else (none)) else (gleanerref4_depths.j3 k x7 x8 x10 x262000 x262001 x262002 x262003 x262004 x263000 x263001 x263002 x263003)
end
def gleanerref4_depths.f (k : Nat) (l0_0 : List (S50)) (a0_1 : Int) (l0_2 : List Int) (a0_3 : Int) (a0_4 : Int) (a1_0 : ByteArray) (a1_1 : Int) (a1_2 : Int) (l1_3 : List (S102)) : Option (List Int × Int × Int) := if 0 ≤ (l1_3.length : Int) then (if ((l1_3.length : Int) : Int).toNat ≤ 35184372088832 then (if ((l1_3.length : Int) : Int).toNat ≤ 281474976710656 then (gleanerref4_depths.l0 k (List.replicate ((l1_3.length : Int) : Int).toNat 0) (List.replicate ((l1_3.length : Int) : Int).toNat false) 1 l0_0 a0_1 l0_2 a0_3 a0_4 a1_0 a1_1 a1_2 l1_3) else (none)) else (none)) else (none)
theorem gleanerref4_depths.mono_l : ∀ k, (∀ y0 y1 y2 y3 y4 y5 y6 y7 y8 y9 y10 y11, LeO (gleanerref4_depths.l0 k y0 y1 y2 y3 y4 y5 y6 y7 y8 y9 y10 y11) (gleanerref4_depths.l0 (k + 1) y0 y1 y2 y3 y4 y5 y6 y7 y8 y9 y10 y11)) ∧ (∀ y0 y1 y2 y3 y4 y5 y6 y7 y8 y9 y10, LeO (gleanerref4_depths.l1 k y0 y1 y2 y3 y4 y5 y6 y7 y8 y9 y10) (gleanerref4_depths.l1 (k + 1) y0 y1 y2 y3 y4 y5 y6 y7 y8 y9 y10)) ∧ (∀ y0 y1 y2 y3 y4 y5 y6 y7 y8 y9 y10 y11, LeO (gleanerref4_depths.j3 k y0 y1 y2 y3 y4 y5 y6 y7 y8 y9 y10 y11) (gleanerref4_depths.j3 (k + 1) y0 y1 y2 y3 y4 y5 y6 y7 y8 y9 y10 y11)) ∧ (∀ y0 y1 y2 y3 y4 y5 y6 y7 y8 y9 y10 y11 y12 y13, LeO (gleanerref4_depths.j4 k y0 y1 y2 y3 y4 y5 y6 y7 y8 y9 y10 y11 y12 y13) (gleanerref4_depths.j4 (k + 1) y0 y1 y2 y3 y4 y5 y6 y7 y8 y9 y10 y11 y12 y13)) ∧ (∀ y0 y1 y2 y3 y4 y5 y6 y7 y8 y9 y10 y11 y12 y13 y14, LeO (gleanerref4_depths.l3 k y0 y1 y2 y3 y4 y5 y6 y7 y8 y9 y10 y11 y12 y13 y14) (gleanerref4_depths.l3 (k + 1) y0 y1 y2 y3 y4 y5 y6 y7 y8 y9 y10 y11 y12 y13 y14)) ∧ (∀ y0 y1 y2 y3 y4 y5 y6 y7 y8 y9 y10 y11, LeO (gleanerref4_depths.l2 k y0 y1 y2 y3 y4 y5 y6 y7 y8 y9 y10 y11) (gleanerref4_depths.l2 (k + 1) y0 y1 y2 y3 y4 y5 y6 y7 y8 y9 y10 y11))
  | 0 => ⟨fun _ _ _ _ _ _ _ _ _ _ _ _ r h => by simp [gleanerref4_depths.l0] at h, fun _ _ _ _ _ _ _ _ _ _ _ r h => by simp [gleanerref4_depths.l1] at h, fun _ _ _ _ _ _ _ _ _ _ _ _ r h => by simp [gleanerref4_depths.j3] at h, fun _ _ _ _ _ _ _ _ _ _ _ _ _ _ r h => by simp [gleanerref4_depths.j4] at h, fun _ _ _ _ _ _ _ _ _ _ _ _ _ _ _ r h => by simp [gleanerref4_depths.l3] at h, fun _ _ _ _ _ _ _ _ _ _ _ _ r h => by simp [gleanerref4_depths.l2] at h⟩
  | k + 1 => by
    obtain ⟨ih0, ih1, ih2, ih3, ih4, ih5⟩ := gleanerref4_depths.mono_l k
    refine ⟨?_, ?_, ?_, ?_, ?_, ?_⟩
    · intro y0 y1 y2 y3 y4 y5 y6 y7 y8 y9 y10 y11
      unfold gleanerref4_depths.l0
      repeat' first
      | (with_reducible exact ih0 _ _ _ _ _ _ _ _ _ _ _ _)
      | (with_reducible exact ih1 _ _ _ _ _ _ _ _ _ _ _)
      | (with_reducible exact ih2 _ _ _ _ _ _ _ _ _ _ _ _)
      | (with_reducible exact ih3 _ _ _ _ _ _ _ _ _ _ _ _ _ _)
      | (with_reducible exact ih4 _ _ _ _ _ _ _ _ _ _ _ _ _ _ _)
      | (with_reducible exact ih5 _ _ _ _ _ _ _ _ _ _ _ _)
      | (with_reducible exact gleanerref1_Next.mono _ _ _ _)
      | (with_reducible exact gleanerref1_Pops.mono _ _ _ _)
      | (with_reducible exact gleanerref1_Pushes.mono _ _ _)
      | (with_reducible exact LeO.refl _)
      | (with_reducible exact LeO.none _)
      | (with_reducible refine LeO.ite ?_ ?_)
      | (with_reducible refine LeO.bind ?_ (fun _ => ?_))
      | exact ih0 _ _ _ _ _ _ _ _ _ _ _ _
      | exact ih1 _ _ _ _ _ _ _ _ _ _ _
      | exact ih2 _ _ _ _ _ _ _ _ _ _ _ _
      | exact ih3 _ _ _ _ _ _ _ _ _ _ _ _ _ _
      | exact ih4 _ _ _ _ _ _ _ _ _ _ _ _ _ _ _
      | exact ih5 _ _ _ _ _ _ _ _ _ _ _ _
      | exact gleanerref1_Next.mono _ _ _ _
      | exact gleanerref1_Pops.mono _ _ _ _
      | exact gleanerref1_Pushes.mono _ _ _
      | exact LeO.none _
      | refine LeO.ite ?_ ?_
      | refine LeO.bind ?_ (fun _ => ?_)
    · intro y0 y1 y2 y3 y4 y5 y6 y7 y8 y9 y10
      unfold gleanerref4_depths.l1
      repeat' first
      | (with_reducible exact ih0 _ _ _ _ _ _ _ _ _ _ _ _)
      | (with_reducible exact ih1 _ _ _ _ _ _ _ _ _ _ _)
      | (with_reducible exact ih2 _ _ _ _ _ _ _ _ _ _ _ _)
      | (with_reducible exact ih3 _ _ _ _ _ _ _ _ _ _ _ _ _ _)
      | (with_reducible exact ih4 _ _ _ _ _ _ _ _ _ _ _ _ _ _ _)
      | (with_reducible exact ih5 _ _ _ _ _ _ _ _ _ _ _ _)
      | (with_reducible exact gleanerref1_Next.mono _ _ _ _)
      | (with_reducible exact gleanerref1_Pops.mono _ _ _ _)
      | (with_reducible exact gleanerref1_Pushes.mono _ _ _)
      | (with_reducible exact LeO.refl _)
      | (with_reducible exact LeO.none _)
      | (with_reducible refine LeO.ite ?_ ?_)
      | (with_reducible refine LeO.bind ?_ (fun _ => ?_))
      | exact ih0 _ _ _ _ _ _ _ _ _ _ _ _
      | exact ih1 _ _ _ _ _ _ _ _ _ _ _
      | exact ih2 _ _ _ _ _ _ _ _ _ _ _ _
      | exact ih3 _ _ _ _ _ _ _ _ _ _ _ _ _ _
      | exact ih4 _ _ _ _ _ _ _ _ _ _ _ _ _ _ _
      | exact ih5 _ _ _ _ _ _ _ _ _ _ _ _
      | exact gleanerref1_Next.mono _ _ _ _
      | exact gleanerref1_Pops.mono _ _ _ _
      | exact gleanerref1_Pushes.mono _ _ _
      | exact LeO.none _
      | refine LeO.ite ?_ ?_
      | refine LeO.bind ?_ (fun _ => ?_)
    · intro y0 y1 y2 y3 y4 y5 y6 y7 y8 y9 y10 y11
      unfold gleanerref4_depths.j3
      repeat' first
      | (with_reducible exact ih0 _ _ _ _ _ _ _ _ _ _ _ _)
      | (with_reducible exact ih1 _ _ _ _ _ _ _ _ _ _ _)
      | (with_reducible exact ih2 _ _ _ _ _ _ _ _ _ _ _ _)
      | (with_reducible exact ih3 _ _ _ _ _ _ _ _ _ _ _ _ _ _)
      | (with_reducible exact ih4 _ _ _ _ _ _ _ _ _ _ _ _ _ _ _)
      | (with_reducible exact ih5 _ _ _ _ _ _ _ _ _ _ _ _)
      | (with_reducible exact gleanerref1_Next.mono _ _ _ _)
      | (with_reducible exact gleanerref1_Pops.mono _ _ _ _)
      | (with_reducible exact gleanerref1_Pushes.mono _ _ _)
      | (with_reducible exact LeO.refl _)
      | (with_reducible exact LeO.none _)
      | (with_reducible refine LeO.ite ?_ ?_)
      | (with_reducible refine LeO.bind ?_ (fun _ => ?_))
      | exact ih0 _ _ _ _ _ _ _ _ _ _ _ _
      | exact ih1 _ _ _ _ _ _ _ _ _ _ _
      | exact ih2 _ _ _ _ _ _ _ _ _ _ _ _
      | exact ih3 _ _ _ _ _ _ _ _ _ _ _ _ _ _
      | exact ih4 _ _ _ _ _ _ _ _ _ _ _ _ _ _ _
      | exact ih5 _ _ _ _ _ _ _ _ _ _ _ _
      | exact gleanerref1_Next.mono _ _ _ _
      | exact gleanerref1_Pops.mono _ _ _ _
      | exact gleanerref1_Pushes.mono _ _ _
      | exact LeO.none _
      | refine LeO.ite ?_ ?_
      | refine LeO.bind ?_ (fun _ => ?_)
    · intro y0 y1 y2 y3 y4 y5 y6 y7 y8 y9 y10 y11 y12 y13
      unfold gleanerref4_depths.j4
      repeat' first
      | (with_reducible exact ih0 _ _ _ _ _ _ _ _ _ _ _ _)
      | (with_reducible exact ih1 _ _ _ _ _ _ _ _ _ _ _)
      | (with_reducible exact ih2 _ _ _ _ _ _ _ _ _ _ _ _)
      | (with_reducible exact ih3 _ _ _ _ _ _ _ _ _ _ _ _ _ _)
      | (with_reducible exact ih4 _ _ _ _ _ _ _ _ _ _ _ _ _ _ _)
      | (with_reducible exact ih5 _ _ _ _ _ _ _ _ _ _ _ _)
      | (with_reducible exact gleanerref1_Next.mono _ _ _ _)
      | (with_reducible exact gleanerref1_Pops.mono _ _ _ _)
      | (with_reducible exact gleanerref1_Pushes.mono _ _ _)
      | (with_reducible exact LeO.refl _)
      | (with_reducible exact LeO.none _)
      | (with_reducible refine LeO.ite ?_ ?_)
      | (with_reducible refine LeO.bind ?_ (fun _ => ?_))
      | exact ih0 _ _ _ _ _ _ _ _ _ _ _ _
      | exact ih1 _ _ _ _ _ _ _ _ _ _ _
      | exact ih2 _ _ _ _ _ _ _ _ _ _ _ _
      | exact ih3 _ _ _ _ _ _ _ _ _ _ _ _ _ _
      | exact ih4 _ _ _ _ _ _ _ _ _ _ _ _ _ _ _
      | exact ih5 _ _ _ _ _ _ _ _ _ _ _ _
      | exact gleanerref1_Next.mono _ _ _ _
      | exact gleanerref1_Pops.mono _ _ _ _
      | exact gleanerref1_Pushes.mono _ _ _
      | exact LeO.none _
      | refine LeO.ite ?_ ?_
      | refine LeO.bind ?_ (fun _ => ?_)
    · intro y0 y1 y2 y3 y4 y5 y6 y7 y8 y9 y10 y11 y12 y13 y14
      unfold gleanerref4_depths.l3
      repeat' first
      | (with_reducible exact ih0 _ _ _ _ _ _ _ _ _ _ _ _)
      | (with_reducible exact ih1 _ _ _ _ _ _ _ _ _ _ _)
      | (with_reducible exact ih2 _ _ _ _ _ _ _ _ _ _ _ _)
      | (with_reducible exact ih3 _ _ _ _ _ _ _ _ _ _ _ _ _ _)
      | (with_reducible exact ih4 _ _ _ _ _ _ _ _ _ _ _ _ _ _ _)
      | (with_reducible exact ih5 _ _ _ _ _ _ _ _ _ _ _ _)
      | (with_reducible exact gleanerref1_Next.mono _ _ _ _)
      | (with_reducible exact gleanerref1_Pops.mono _ _ _ _)
      | (with_reducible exact gleanerref1_Pushes.mono _ _ _)
      | (with_reducible exact LeO.refl _)
      | (with_reducible exact LeO.none _)
      | (with_reducible refine LeO.ite ?_ ?_)
      | (with_reducible refine LeO.bind ?_ (fun _ => ?_))
      | exact ih0 _ _ _ _ _ _ _ _ _ _ _ _
      | exact ih1 _ _ _ _ _ _ _ _ _ _ _
      | exact ih2 _ _ _ _ _ _ _ _ _ _ _ _
      | exact ih3 _ _ _ _ _ _ _ _ _ _ _ _ _ _
      | exact ih4 _ _ _ _ _ _ _ _ _ _ _ _ _ _ _
      | exact ih5 _ _ _ _ _ _ _ _ _ _ _ _
      | exact gleanerref1_Next.mono _ _ _ _
      | exact gleanerref1_Pops.mono _ _ _ _
      | exact gleanerref1_Pushes.mono _ _ _
      | exact LeO.none _
      | refine LeO.ite ?_ ?_
      | refine LeO.bind ?_ (fun _ => ?_)
    · intro y0 y1 y2 y3 y4 y5 y6 y7 y8 y9 y10 y11
      unfold gleanerref4_depths.l2
      repeat' first
      | (with_reducible exact ih0 _ _ _ _ _ _ _ _ _ _ _ _)
      | (with_reducible exact ih1 _ _ _ _ _ _ _ _ _ _ _)
      | (with_reducible exact ih2 _ _ _ _ _ _ _ _ _ _ _ _)
      | (with_reducible exact ih3 _ _ _ _ _ _ _ _ _ _ _ _ _ _)
      | (with_reducible exact ih4 _ _ _ _ _ _ _ _ _ _ _ _ _ _ _)
      | (with_reducible exact ih5 _ _ _ _ _ _ _ _ _ _ _ _)
      | (with_reducible exact gleanerref1_Next.mono _ _ _ _)
      | (with_reducible exact gleanerref1_Pops.mono _ _ _ _)
      | (with_reducible exact gleanerref1_Pushes.mono _ _ _)
      | (with_reducible exact LeO.refl _)
      | (with_reducible exact LeO.none _)
      | (with_reducible refine LeO.ite ?_ ?_)
      | (with_reducible refine LeO.bind ?_ (fun _ => ?_))
      | exact ih0 _ _ _ _ _ _ _ _ _ _ _ _
      | exact ih1 _ _ _ _ _ _ _ _ _ _ _
      | exact ih2 _ _ _ _ _ _ _ _ _ _ _ _
      | exact ih3 _ _ _ _ _ _ _ _ _ _ _ _ _ _
      | exact ih4 _ _ _ _ _ _ _ _ _ _ _ _ _ _ _
      | exact ih5 _ _ _ _ _ _ _ _ _ _ _ _
      | exact gleanerref1_Next.mono _ _ _ _
      | exact gleanerref1_Pops.mono _ _ _ _
      | exact gleanerref1_Pushes.mono _ _ _
      | exact LeO.none _
      | refine LeO.ite ?_ ?_
      | refine LeO.bind ?_ (fun _ => ?_)
theorem gleanerref4_depths.mono : ∀ a0 a1 a2 a3 a4 a5 a6 a7 a8 k, LeO (gleanerref4_depths.f k a0 a1 a2 a3 a4 a5 a6 a7 a8) (gleanerref4_depths.f (k + 1) a0 a1 a2 a3 a4 a5 a6 a7 a8) := by
  intro a0 a1 a2 a3 a4 a5 a6 a7 a8 k
  obtain ⟨ih0, ih1, ih2, ih3, ih4, ih5⟩ := gleanerref4_depths.mono_l k
  unfold gleanerref4_depths.f
  repeat' first
      | (with_reducible exact ih0 _ _ _ _ _ _ _ _ _ _ _ _)
      | (with_reducible exact ih1 _ _ _ _ _ _ _ _ _ _ _)
      | (with_reducible exact ih2 _ _ _ _ _ _ _ _ _ _ _ _)
      | (with_reducible exact ih3 _ _ _ _ _ _ _ _ _ _ _ _ _ _)
      | (with_reducible exact ih4 _ _ _ _ _ _ _ _ _ _ _ _ _ _ _)
      | (with_reducible exact ih5 _ _ _ _ _ _ _ _ _ _ _ _)
      | (with_reducible exact gleanerref1_Next.mono _ _ _ _)
      | (with_reducible exact gleanerref1_Pops.mono _ _ _ _)
      | (with_reducible exact gleanerref1_Pushes.mono _ _ _)
      | (with_reducible exact LeO.refl _)
      | (with_reducible exact LeO.none _)
      | (with_reducible refine LeO.ite ?_ ?_)
      | (with_reducible refine LeO.bind ?_ (fun _ => ?_))
      | exact ih0 _ _ _ _ _ _ _ _ _ _ _ _
      | exact ih1 _ _ _ _ _ _ _ _ _ _ _
      | exact ih2 _ _ _ _ _ _ _ _ _ _ _ _
      | exact ih3 _ _ _ _ _ _ _ _ _ _ _ _ _ _
      | exact ih4 _ _ _ _ _ _ _ _ _ _ _ _ _ _ _
      | exact ih5 _ _ _ _ _ _ _ _ _ _ _ _
      | exact gleanerref1_Next.mono _ _ _ _
      | exact gleanerref1_Pops.mono _ _ _ _
      | exact gleanerref1_Pushes.mono _ _ _
      | exact LeO.none _
      | refine LeO.ite ?_ ?_
      | refine LeO.bind ?_ (fun _ => ?_)
def gleanerref4_depths.T13 : Bool × List (List Nat × List Nat) := (true, [([], []), ([0], [0]), ([], []), ([1, 2], [1, 2]), ([3], [3]), ([], []), ([5], [5]), ([4, 6], [4, 6]), ([7, 7, 0, 1, 2, 3, 4, 5, 6, 7], [7])])
def gleanerref4_depths.B13 : List Nat := [0, 1, 0, 7, 15, 0, 32, 127, 255]
theorem gleanerref4_depths.tab13 : rtab .any (opsOf Try.f24 13) = gleanerref4_depths.T13 := by kernel_rfl
theorem gleanerref4_depths.bits13 : waitsOk gleanerref4_depths.T13.2 gleanerref4_depths.B13 = true := by kernel_rfl
def gleanerref4_depths.T14 : Bool × List (List Nat × List Nat) := (true, [([], []), ([], []), ([0, 1], [0, 1]), ([2], [2]), ([], []), ([3, 4], [3, 4]), ([], []), ([6], [6]), ([], []), ([7, 8], [7, 8]), ([9], [9]), ([10], [10]), ([5, 11], [5, 11]), ([12, 11, 0, 1, 2, 3, 4, 5, 6, 7, 8, 9, 10, 11, 12], [12])])
def gleanerref4_depths.B14 : List Nat := [0, 0, 3, 7, 0, 31, 0, 64, 0, 448, 960, 1984, 4095, 8191]
theorem gleanerref4_depths.tab14 : rtab .any (opsOf Try.f24 14) = gleanerref4_depths.T14 := by kernel_rfl
theorem gleanerref4_depths.bits14 : waitsOk gleanerref4_depths.T14.2 gleanerref4_depths.B14 = true := by kernel_rfl
set_option maxHeartbeats 8000000 in
set_option maxRecDepth 100000 in
theorem gleanerref4_depths.calls (k : Nat) (A0_0 : Option Addr) (c0_0 : Nat) (l0_0 : List (S50)) (a0_1 : Int) (A0_2 : Option Addr) (c0_2 : Nat) (l0_2 : List Int) (a0_3 : Int) (a0_4 : Int) (a1_0 : ByteArray) (a1_1 : Int) (a1_2 : Int) (A1_3 : Option Addr) (c1_3 : Nat) (l1_3 : List (S102)) (r1 : List Int) (r2 : Int) (r3 : Int) (w : World) (hr0_0 : Kd.C k50 w A0_0 l0_0.length l0_0) (hc0_0 : l0_0.length ≤ c0_0) (hr0_2 : Kd.C (Kd.int .i64) w A0_2 l0_2.length l0_2) (hc0_2 : l0_2.length ≤ c0_2) (hr1_3 : Kd.C k102 w A1_3 l1_3.length l1_3) (hc1_3 : l1_3.length ≤ c1_3) (h : gleanerref4_depths.f k l0_0 a0_1 l0_2 a0_3 a0_4 a1_0 a1_1 a1_2 l1_3 = some (r1, r2, r3)) :
    Calls Try.prog 24 #[.agg #[.slice A0_0 l0_0.length c0_0, .int .i64 a0_1, .slice A0_2 l0_2.length c0_2, .int .i64 a0_3, .int .i64 a0_4], .agg #[.string a1_0, .int .i64 a1_1, .int .i64 a1_2, .slice A1_3 l1_3.length c1_3]] w fun e w' => ∃ v0_ : Value, e = .returned (.tuple #[v0_, .int .i64 r2, .int .i64 r3]) ∧ Kd.R (Kd.int .i64) 3 w' w.heap.size (fun _ => True) v0_ r1 ∧ Below w.heap.size w w' := by
  have hu25 := Try.underlying25
  have hu50 := Try.underlying50
  have hu102 := Try.underlying102
  have HR0_0 := Aside0.mk hr0_0
  have HC0_0 := Aside0.mk hc0_0
  clear hr0_0 hc0_0
  have HR0_2 := Aside0.mk hr0_2
  have HC0_2 := Aside0.mk hc0_2
  clear hr0_2 hc0_2
  have HR1_3 := Aside0.mk hr1_3
  have HC1_3 := Aside0.mk hc1_3
  clear hr1_3 hc1_3
  have HB := Aside0.mk (Below.refl w.heap.size w)
  have H : (if 0 ≤ (l1_3.length : Int) then (if ((l1_3.length : Int) : Int).toNat ≤ 35184372088832 then (if ((l1_3.length : Int) : Int).toNat ≤ 281474976710656 then (gleanerref4_depths.l0 k (List.replicate ((l1_3.length : Int) : Int).toNat 0) (List.replicate ((l1_3.length : Int) : Int).toNat false) 1 l0_0 a0_1 l0_2 a0_3 a0_4 a1_0 a1_1 a1_2 l1_3) else (none)) else (none)) else (none)) = some (r1, r2, r3) := h
  clear h
  by_cases c3 : 0 ≤ (l1_3.length : Int)
  · rw [if_pos c3] at H
    have c3b0 := eq_true c3
    have c3b1 : decide (0 ≤ (l1_3.length : Int)) = true := decide_eq_true c3
    clear c3
    by_cases c4 : ((l1_3.length : Int) : Int).toNat ≤ 35184372088832
    · rw [if_pos c4] at H
      have c4b0 := eq_true c4
      have c4b1 : decide (((l1_3.length : Int) : Int).toNat ≤ 35184372088832) = true := decide_eq_true c4
      clear c4
      obtain ⟨y263, hy263⟩ : ∃ y_ : List Int, y_ = (List.replicate ((l1_3.length : Int) : Int).toNat 0) := ⟨_, rfl⟩
      replace H : (if ((l1_3.length : Int) : Int).toNat ≤ 281474976710656 then (gleanerref4_depths.l0 k y263 (List.replicate ((l1_3.length : Int) : Int).toNat false) 1 l0_0 a0_1 l0_2 a0_3 a0_4 a1_0 a1_1 a1_2 l1_3) else (none)) = some (r1, r2, r3) := by first | (rw [hy263]; with_reducible exact H) | (have H2_ := (Option.bind_some _ _).symm.trans H; rw [hy263]; with_reducible exact H2_) | (have H2_ := (Option.bind_some _ _).symm.trans H; with_reducible exact H2_) | with_reducible exact H | (rw [hy263]; exact H) | exact H
      have Ny263 := Aside0.mk hy263
      clear hy263
      by_cases c5 : ((l1_3.length : Int) : Int).toNat ≤ 281474976710656
      · rw [if_pos c5] at H
        have c5b0 := eq_true c5
        have c5b1 : decide (((l1_3.length : Int) : Int).toNat ≤ 281474976710656) = true := decide_eq_true c5
        clear c5
        obtain ⟨y266, hy266⟩ : ∃ y_ : List Bool, y_ = (List.replicate ((l1_3.length : Int) : Int).toNat false) := ⟨_, rfl⟩
        replace H : (gleanerref4_depths.l0 k y263 y266 1 l0_0 a0_1 l0_2 a0_3 a0_4 a1_0 a1_1 a1_2 l1_3) = some (r1, r2, r3) := by first | (rw [hy266]; with_reducible exact H) | (have H2_ := (Option.bind_some _ _).symm.trans H; rw [hy266]; with_reducible exact H2_) | (have H2_ := (Option.bind_some _ _).symm.trans H; with_reducible exact H2_) | with_reducible exact H | (rw [hy266]; exact H) | exact H
        have Ny266 := Aside0.mk hy266
        clear hy266
        have H' := Aside0.mk H
        clear H
        go_enter Try.func24, Try.ntmps24
        go_wp2_with (first | ((with_reducible refine gate_dst (N := 2) rfl ?_); refine box_event ?hg (N := 2) ?hd (cs := #[.slice A0_0 l0_0.length c0_0, .int .i64 a0_1, .slice A0_2 l0_2.length c0_2, .int .i64 a0_3, .int .i64 a0_4]) (t := 25) ?hr ?_; (case hd => rfl); (case hg => rfl); (case hr => first | (go_simp; done) | (go_simp; rfl)); intro gb261 hg w6 hbox hb; have n0_ := Aside0.mk (below_step (by repeat (first | (with_reducible first | exact HB.out | apply below_alloc | apply pw_below_drewN | apply below_drew1) | exact HB.out)) hb); have n1_ := Aside0.mk (hbox); have n2_ := Aside0.mk ((by rw [hg]; exact (below_size (by repeat (first | (with_reducible first | exact HB.out | apply below_alloc | apply pw_below_drewN | apply below_drew1) | exact HB.out))) : w.heap.size ≤ gb261)); have n3_ := Aside0.mk ((by rw [hg]; exact (below_size (by repeat (first | (with_reducible first | exact HB.out | apply below_alloc | apply pw_below_drewN | apply below_drew1) | exact HB.out))) : w.heap.size ≤ gb261)); clear HB; have HB := n0_; have BK261 := n1_; have GW261 := n2_; have GE261 := n3_; clear n0_ n1_ n2_ n3_; clear hb hbox hg) | ((with_reducible refine gate_dst (N := 3) rfl ?_); refine box_event ?hg (N := 3) ?hd (cs := #[.string a1_0, .int .i64 a1_1, .int .i64 a1_2, .slice A1_3 l1_3.length c1_3]) (t := 50) ?hr ?_; (case hd => rfl); (case hg => rfl); (case hr => first | (go_simp; done) | (go_simp; rfl)); intro gb262 hg w7 hbox hb; have n0_ := Aside0.mk (blk_below (g := gb261) (o := .cells #[.slice A0_0 l0_0.length c0_0, .int .i64 a0_1, .slice A0_2 l0_2.length c0_2, .int .i64 a0_3, .int .i64 a0_4] 25 (0, 0)) (by (with_reducible repeat (first | refine blk_drewN ?_ _ | refine blk_drew ?_ | refine blk_alloc ?_ _)); exact BK261.out) hb); have n1_ := Aside0.mk (below_step (by repeat (first | (with_reducible first | exact HB.out | apply below_alloc | apply pw_below_drewN | apply below_drew1 | refine below_set ?_ GE261.out) | exact HB.out)) hb); have n2_ := Aside0.mk (hbox); have n3_ := Aside0.mk ((by rw [hg]; exact (below_size (by repeat (first | (with_reducible first | exact HB.out | apply below_alloc | apply pw_below_drewN | apply below_drew1 | refine below_set ?_ GE261.out) | exact HB.out))) : w.heap.size ≤ gb262)); have n4_ := Aside0.mk ((by rw [hg]; exact (below_size (by repeat (first | (with_reducible first | exact HB.out | apply below_alloc | apply pw_below_drewN | apply below_drew1 | refine below_set ?_ GE261.out) | exact HB.out))) : w.heap.size ≤ gb262)); have n5_ := Aside0.mk ((by rw [hg]; exact Nat.ne_of_lt (blk_lt (g := gb261) (o := .cells #[.slice A0_0 l0_0.length c0_0, .int .i64 a0_1, .slice A0_2 l0_2.length c0_2, .int .i64 a0_3, .int .i64 a0_4] 25 (0, 0)) (by (with_reducible repeat (first | refine blk_drewN ?_ _ | refine blk_drew ?_ | refine blk_alloc ?_ _)); exact BK261.out)) : gb261 ≠ gb262)); have n6_ := Aside0.mk ((by rw [hg]; exact Nat.ne_of_gt (blk_lt (g := gb261) (o := .cells #[.slice A0_0 l0_0.length c0_0, .int .i64 a0_1, .slice A0_2 l0_2.length c0_2, .int .i64 a0_3, .int .i64 a0_4] 25 (0, 0)) (by (with_reducible repeat (first | refine blk_drewN ?_ _ | refine blk_drew ?_ | refine blk_alloc ?_ _)); exact BK261.out)) : gb262 ≠ gb261)); clear BK261; clear HB; have BK261 := n0_; have HB := n1_; have BK262 := n2_; have GW262 := n3_; have GE262 := n4_; have NB261_262 := n5_; have NB262_261 := n6_; clear n0_ n1_ n2_ n3_ n4_ n5_ n6_; clear hb hbox hg; have hnb8 := NB262_261.out; have hnc8 := NB261_262.out; have hcz9_0 : w7.cell? ⟨gb262, 0, none⟩ = some (.string a1_0) := (blk_cell BK262.out 0).trans rfl; have hcz9_1 : w7.cell? ⟨gb262, 1, none⟩ = some (.int .i64 a1_1) := (blk_cell BK262.out 1).trans rfl; have hcz9_2 : w7.cell? ⟨gb262, 2, none⟩ = some (.int .i64 a1_2) := (blk_cell BK262.out 2).trans rfl; have hcz9_3 : w7.cell? ⟨gb262, 3, none⟩ = some (.slice A1_3 l1_3.length c1_3) := (blk_cell BK262.out 3).trans rfl; have hfz9_0 := blk_frozen BK262.out 0; have hfz9_1 := blk_frozen BK262.out 1; have hfz9_2 := blk_frozen BK262.out 2; have hfz9_3 := blk_frozen BK262.out 3) | ((with_reducible refine gate_dst (N := 18) rfl ?_); refine Kd.R_make (Kd.int .i64) _ 3 rfl (N := 18) rfl 23 _ _ rfl (l1_3.length : Int) rfl rfl Try.underlying23 (.int .i64 0) 8 info3 rfl (by decide) (by omega) 0 (ok := fun _ => True) (okp := fun _ => True) rfl (fun _ hk => hk) trivial (of_decide_eq_true (by first | (with_reducible assumption) | assumption)) (Nat.le_trans (Nat.mul_le_mul_right _ (of_decide_eq_true (by first | (with_reducible assumption) | assumption) : (l1_3.length : Int).toNat ≤ 35184372088832)) (by omega)) (Below.refl _ _) (Nat.le_refl _) ?_; intro v264 w10 ho11 hb hg_ hnew_; clear hg_ hnew_; (first | rw [← Ny263.out] at ho11 | (simp only [Int.reduceToNat] at ho11; rw [← Ny263.out] at ho11)); have n0_ := Aside0.mk (Kd.R_lower ho11 (below_size (by repeat (first | (with_reducible first | exact HB.out | apply below_alloc | apply pw_below_drewN | apply below_drew1 | refine below_set ?_ GE261.out | refine below_set ?_ GE262.out) | exact HB.out)))); have n1_ := Aside0.mk (blk_below (g := gb261) (o := .cells #[.slice A0_0 l0_0.length c0_0, .int .i64 a0_1, .slice A0_2 l0_2.length c0_2, .int .i64 a0_3, .int .i64 a0_4] 25 (0, 0)) (by (with_reducible repeat (first | refine blk_drewN ?_ _ | refine blk_drew ?_ | refine blk_alloc ?_ _)); exact BK261.out) hb); have n2_ := Aside0.mk (blk_below (g := gb262) (o := .cells #[.string a1_0, .int .i64 a1_1, .int .i64 a1_2, .slice A1_3 l1_3.length c1_3] 50 (0, 0)) (by (with_reducible repeat (first | refine blk_drewN ?_ _ | refine blk_drew ?_ | refine blk_alloc ?_ _)); exact BK262.out) hb); have n3_ := Aside0.mk (below_step (by repeat (first | (with_reducible first | exact HB.out | apply below_alloc | apply pw_below_drewN | apply below_drew1 | refine below_set ?_ GE261.out | refine below_set ?_ GE262.out) | exact HB.out)) hb); clear BK261; clear BK262; clear HB; have HO265 := n0_; have BK261 := n1_; have BK262 := n2_; have HB := n3_; clear n0_ n1_ n2_ n3_; clear hb ho11; have hcz12_0 : w10.cell? ⟨gb262, 0, none⟩ = some (.string a1_0) := (blk_cell BK262.out 0).trans rfl; have hcz12_1 : w10.cell? ⟨gb262, 1, none⟩ = some (.int .i64 a1_1) := (blk_cell BK262.out 1).trans rfl; have hcz12_2 : w10.cell? ⟨gb262, 2, none⟩ = some (.int .i64 a1_2) := (blk_cell BK262.out 2).trans rfl; have hcz12_3 : w10.cell? ⟨gb262, 3, none⟩ = some (.slice A1_3 l1_3.length c1_3) := (blk_cell BK262.out 3).trans rfl; have hfz12_0 := blk_frozen BK262.out 0; have hfz12_1 := blk_frozen BK262.out 1; have hfz12_2 := blk_frozen BK262.out 2; have hfz12_3 := blk_frozen BK262.out 3) | ((with_reducible refine gate_dst (N := 22) rfl ?_); refine Kd.R_make Kd.bool _ 4 rfl (N := 22) rfl 99 _ _ rfl (l1_3.length : Int) rfl rfl Try.underlying99 (.bool false) 1 info4 rfl (by decide) (by omega) false (ok := fun _ => True) (okp := fun _ => True) rfl (fun _ hk => hk) trivial (of_decide_eq_true (by first | (with_reducible assumption) | assumption)) (Nat.le_trans (Nat.mul_le_mul_right _ (of_decide_eq_true (by first | (with_reducible assumption) | assumption) : (l1_3.length : Int).toNat ≤ 281474976710656)) (by omega)) (Below.refl _ _) (Nat.le_refl _) ?_; intro v267 w13 ho14 hb hg_ hnew_; clear hg_ hnew_; (first | rw [← Ny266.out] at ho14 | (simp only [Int.reduceToNat] at ho14; rw [← Ny266.out] at ho14)); have n0_ := Aside0.mk (Kd.R_below (by (with_reducible repeat (first | apply Kd.R_alloc | apply Kd.R_drewN | apply Kd.R_drew)); exact HO265.out) hb); have n1_ := Aside0.mk (Kd.R_lower ho14 (below_size (by repeat (first | (with_reducible first | exact HB.out | apply below_alloc | apply pw_below_drewN | apply below_drew1 | refine below_set ?_ GE261.out | refine below_set ?_ GE262.out) | exact HB.out)))); have n2_ := Aside0.mk (blk_below (g := gb261) (o := .cells #[.slice A0_0 l0_0.length c0_0, .int .i64 a0_1, .slice A0_2 l0_2.length c0_2, .int .i64 a0_3, .int .i64 a0_4] 25 (0, 0)) (by (with_reducible repeat (first | refine blk_drewN ?_ _ | refine blk_drew ?_ | refine blk_alloc ?_ _)); exact BK261.out) hb); have n3_ := Aside0.mk (blk_below (g := gb262) (o := .cells #[.string a1_0, .int .i64 a1_1, .int .i64 a1_2, .slice A1_3 l1_3.length c1_3] 50 (0, 0)) (by (with_reducible repeat (first | refine blk_drewN ?_ _ | refine blk_drew ?_ | refine blk_alloc ?_ _)); exact BK262.out) hb); have n4_ := Aside0.mk (below_step (by repeat (first | (with_reducible first | exact HB.out | apply below_alloc | apply pw_below_drewN | apply below_drew1 | refine below_set ?_ GE261.out | refine below_set ?_ GE262.out) | exact HB.out)) hb); clear HO265; clear BK261; clear BK262; clear HB; have HO265 := n0_; have HO268 := n1_; have BK261 := n2_; have BK262 := n3_; have HB := n4_; clear n0_ n1_ n2_ n3_ n4_; clear hb ho14))
        go_loopg [9] k (fun kq v9 w' => ∃ (x7_1 : List Int) (x9_1 : Int), v9 = .int .i64 x9_1 ∧ Aside0 (gleanerref4_depths.l0 kq x7_1 y266 x9_1 l0_0 a0_1 l0_2 a0_3 a0_4 a1_0 a1_1 a1_2 l1_3 = some (r1, r2, r3)) ∧ Aside0 (kq ≤ k) ∧ Aside0 (Kd.R (Kd.int .i64) 3 w' w.heap.size (fun _ => True) v264 x7_1) ∧ Aside0 (Kd.R Kd.bool 4 w' w.heap.size (fun _ => True) v267 y266) ∧ Aside0 (w'.heap[gb261]? = some (.cells #[(.slice A0_0 l0_0.length c0_0), .int .i64 a0_1, (.slice A0_2 l0_2.length c0_2), .int .i64 a0_3, .int .i64 a0_4] 25 (0, 0))) ∧ Aside0 (w'.heap[gb262]? = some (.cells #[.string a1_0, .int .i64 a1_1, .int .i64 a1_2, (.slice A1_3 l1_3.length c1_3)] 50 (0, 0))) ∧ Aside0 (Below w.heap.size w w'))
        case atStart => exact ⟨(y263), (1), (by first | rfl | (simp; done) | (simp [*]; done)), H', ⟨Nat.le_refl _⟩, ⟨by (with_reducible repeat (first | apply Kd.R_alloc | apply Kd.R_drewN | apply Kd.R_drew)); exact HO265.out⟩, ⟨by (with_reducible repeat (first | apply Kd.R_alloc | apply Kd.R_drewN | apply Kd.R_drew)); exact HO268.out⟩, ⟨by (with_reducible repeat (first | refine blk_drewN ?_ _ | refine blk_drew ?_ | refine blk_alloc ?_ _)); exact BK261.out⟩, ⟨by (with_reducible repeat (first | refine blk_drewN ?_ _ | refine blk_drew ?_ | refine blk_alloc ?_ _)); exact BK262.out⟩, ⟨by repeat (first | (with_reducible first | exact HB.out | apply below_alloc | apply pw_below_drewN | apply below_drew1 | refine below_set ?_ GE261.out | refine below_set ?_ GE262.out) | exact HB.out)⟩⟩
        case round =>
          clear H'
          try clear c1
          try clear c2
          try clear p2
          try clear c3
          try clear c3b0
          try clear c3b1
          try clear c4
          try clear c4b0
          try clear c4b1
          try clear c5
          try clear c5b0
          try clear c5b1
          try clear c8
          try clear hcz12_0
          try clear hcz12_1
          try clear hcz12_2
          try clear hcz12_3
          try clear hcz9_0
          try clear hcz9_1
          try clear hcz9_2
          try clear hcz9_3
          try clear hfz12_0
          try clear hfz12_1
          try clear hfz12_2
          try clear hfz12_3
          try clear hfz9_0
          try clear hfz9_1
          try clear hfz9_2
          try clear hfz9_3
          obtain ⟨x7_1, x9_1, rfl, HA, HK1, HO_7, HO_8, BK261, BK262, HB⟩ := hrel
          cases gk with
          | zero => exact absurd HA.out (by simp [gleanerref4_depths.l0])
          | succ k1 =>
            have H := HA.out
            clear HA
            simp only [gleanerref4_depths.l0] at H
            by_cases c15 : x9_1 < (x7_1.length : Int)
            · rw [if_pos c15] at H
              have c15b0 : decide (x9_1 < (x7_1.length : Int)) = true := decide_eq_true c15
              clear c15
              by_cases c16 : 0 ≤ x9_1
              · rw [if_pos c16] at H
                have c16b0 : decide (0 ≤ x9_1) = true := decide_eq_true c16
                clear c16
                obtain ⟨y269, hy269⟩ : ∃ y_ : List Int, y_ = (x7_1.set (x9_1 : Int).toNat (-1)) := ⟨_, rfl⟩
                replace H : (gleanerref4_depths.l0 k1 y269 y266 (wrap64 (x9_1 + 1)) l0_0 a0_1 l0_2 a0_3 a0_4 a1_0 a1_1 a1_2 l1_3) = some (r1, r2, r3) := by first | (rw [hy269]; with_reducible exact H) | (have H2_ := (Option.bind_some _ _).symm.trans H; rw [hy269]; with_reducible exact H2_) | (have H2_ := (Option.bind_some _ _).symm.trans H; with_reducible exact H2_) | with_reducible exact H | (rw [hy269]; exact H) | exact H
                have Ny269 := Aside0.mk hy269
                clear hy269
                have H' := Aside0.mk H
                clear H
                obtain ⟨Ao18, co18, eo18⟩ := Kd.R_slice HO_7.out
                subst eo18
                have p17 : 0 ≤ (x9_1 : Int) := of_decide_eq_true (by first | (with_reducible assumption) | assumption)
                have q17 : (x9_1 : Int) < ((x7_1.length : Int) : Int) := of_decide_eq_true (by first | (with_reducible assumption) | assumption)
                obtain ⟨go17, co17, eo17, gb17, gl17, cl17, HG17⟩ := Kd.R_form HO_7.out (by omega)
                (first | cases eo17 | (injection eo17 with ea_ en_ ec_; (first | subst ea_ | (injection ea_ with ea_; subst ea_)); subst ec_; clear en_))
                have GB17 := Aside0.mk gb17
                have GG17 := Aside0.mk HG17
                clear gb17 gl17 HG17
                obtain ⟨hx17_0, hf17_0⟩ := Kd.R_celln 0 HO_7.out (x9_1 : Int) p17 q17
                replace p17 := eq_true p17
                replace q17 := eq_true q17
                have HP19 := Kd.R_putg HO_7.out (x9_1 : Int) (-1)
                go_wp2_with (first | ((with_reducible refine gate_store (t := 3) (p := 31) rfl ?_); refine store_event (t := 3) (p := 31) (v := ?vo_w20) (w1 := (wr.setCell ⟨go17, (x9_1 : Int).toNat, none⟩ (.int .i64 (-1)))) ?hg ?ho ?hn ?hr ?_; (case ho => rfl); (case hg => rfl); (case hn => rfl); (case hr => first | (go_simp; done) | (go_simp; rfl)); intro w20 hw; have hg : wr.grownBy w20 (some go17) := (by rw [hw]; exact HP19.2); have hp_ : Kd.R (Kd.int .i64) 3 w20 w.heap.size (fun _ => True) (.slice (some ⟨go17, 0, none⟩) x7_1.length co18) y269 := (by rw [hw, Ny269.out]; exact HP19.1); clear HP19; have n0_ := Aside0.mk (hp_); have n1_ := Aside0.mk (Kd.R_over' (v := (.slice (some ⟨go17, 0, none⟩) x7_1.length co18)) (by (with_reducible repeat (first | apply Kd.R_alloc | apply Kd.R_drewN | apply Kd.R_drew)); exact HO_8.out) (Kd.R_typed HO_7.out) (by decide) hg); have n2_ := Aside0.mk (blk_grown (g := gb261) (o := .cells #[.slice A0_0 l0_0.length c0_0, .int .i64 a0_1, .slice A0_2 l0_2.length c0_2, .int .i64 a0_3, .int .i64 a0_4] 25 (0, 0)) (by (with_reducible repeat (first | refine blk_drewN ?_ _ | refine blk_drew ?_ | refine blk_alloc ?_ _)); exact BK261.out) hg (Kd.R_ne HO_7.out BK261.out (by decide))); have n3_ := Aside0.mk (blk_grown (g := gb262) (o := .cells #[.string a1_0, .int .i64 a1_1, .int .i64 a1_2, .slice A1_3 l1_3.length c1_3] 50 (0, 0)) (by (with_reducible repeat (first | refine blk_drewN ?_ _ | refine blk_drew ?_ | refine blk_alloc ?_ _)); exact BK262.out) hg (Kd.R_ne HO_7.out BK262.out (by decide))); have n4_ := Aside0.mk ((by rw [hw]; exact below_set (HB.out) GB17.out : Below w.heap.size w w20)); clear HO_7; clear HO_8; clear BK261; clear BK262; clear HB; have HO_7 := n0_; have HO_8 := n1_; have BK261 := n2_; have BK262 := n3_; have HB := n4_; clear n0_ n1_ n2_ n3_ n4_; clear hg hw hp_))
                go_roundg k1
                case measure => have := HK1.out; omega
                case rel => exact ⟨(y269), (wrap64 (x9_1 + 1)), (by first | rfl | (simp; done) | (simp [*]; done)), H', ⟨by have := HK1.out; omega⟩, ⟨by (with_reducible repeat (first | apply Kd.R_alloc | apply Kd.R_drewN | apply Kd.R_drew)); exact HO_7.out⟩, ⟨by (with_reducible repeat (first | apply Kd.R_alloc | apply Kd.R_drewN | apply Kd.R_drew)); exact HO_8.out⟩, ⟨by (with_reducible repeat (first | refine blk_drewN ?_ _ | refine blk_drew ?_ | refine blk_alloc ?_ _)); exact BK261.out⟩, ⟨by (with_reducible repeat (first | refine blk_drewN ?_ _ | refine blk_drew ?_ | refine blk_alloc ?_ _)); exact BK262.out⟩, ⟨by repeat (first | (with_reducible first | exact HB.out | apply below_alloc | apply pw_below_drewN | apply below_drew1 | refine below_set ?_ GE261.out | refine below_set ?_ GE262.out) | exact HB.out)⟩⟩
              · rw [if_neg c16] at H
                exact absurd H (by simp)
            · rw [if_neg c15] at H
              have c15b0 : decide (x9_1 < (x7_1.length : Int)) = false := decide_eq_false c15
              clear c15
              have H' := Aside0.mk H
              clear H
              obtain ⟨Ao21, co21, eo21⟩ := Kd.R_slice HO_7.out
              subst eo21
              go_wp2
              go_loopg [] k1 (fun kq w' => ∃ (x7_2 : List Int) (x8_2 : List Bool), Aside0 (gleanerref4_depths.l1 kq x7_2 x8_2 l0_0 a0_1 l0_2 a0_3 a0_4 a1_0 a1_1 a1_2 l1_3 = some (r1, r2, r3)) ∧ Aside0 (kq ≤ k1) ∧ Aside0 (Kd.R (Kd.int .i64) 3 w' w.heap.size (fun _ => True) (.slice Ao21 x7_1.length co21) x7_2) ∧ Aside0 (Kd.R Kd.bool 4 w' w.heap.size (fun _ => True) v267 x8_2) ∧ Aside0 (w'.heap[gb261]? = some (.cells #[(.slice A0_0 l0_0.length c0_0), .int .i64 a0_1, (.slice A0_2 l0_2.length c0_2), .int .i64 a0_3, .int .i64 a0_4] 25 (0, 0))) ∧ Aside0 (w'.heap[gb262]? = some (.cells #[.string a1_0, .int .i64 a1_1, .int .i64 a1_2, (.slice A1_3 l1_3.length c1_3)] 50 (0, 0))) ∧ Aside0 (Below w.heap.size w w'))
              case atStart => exact ⟨(x7_1), (y266), H', ⟨Nat.le_refl _⟩, ⟨by (with_reducible repeat (first | apply Kd.R_alloc | apply Kd.R_drewN | apply Kd.R_drew)); exact HO_7.out⟩, ⟨by (with_reducible repeat (first | apply Kd.R_alloc | apply Kd.R_drewN | apply Kd.R_drew)); exact HO_8.out⟩, ⟨by (with_reducible repeat (first | refine blk_drewN ?_ _ | refine blk_drew ?_ | refine blk_alloc ?_ _)); exact BK261.out⟩, ⟨by (with_reducible repeat (first | refine blk_drewN ?_ _ | refine blk_drew ?_ | refine blk_alloc ?_ _)); exact BK262.out⟩, ⟨by repeat (first | (with_reducible first | exact HB.out | apply below_alloc | apply pw_below_drewN | apply below_drew1 | refine below_set ?_ GE261.out | refine below_set ?_ GE262.out) | exact HB.out)⟩⟩
              case round =>
                clear H'
                try clear c1
                try clear p1
                try clear q1
                try clear hx1
                try clear c2
                try clear p2
                try clear c3
                try clear c3b0
                try clear c3b1
                try clear c4
                try clear c4b0
                try clear c4b1
                try clear c5
                try clear c5b0
                try clear c5b1
                try clear p6
                try clear c8
                try clear c15
                try clear c15b0
                try clear c16
                try clear c16b0
                try clear p17
                try clear q17
                try clear hx17
                try clear hf17
                try clear hcz12_0
                try clear hcz12_1
                try clear hcz12_2
                try clear hcz12_3
                try clear hcz9_0
                try clear hcz9_1
                try clear hcz9_2
                try clear hcz9_3
                try clear hfz12_0
                try clear hfz12_1
                try clear hfz12_2
                try clear hfz12_3
                try clear hfz9_0
                try clear hfz9_1
                try clear hfz9_2
                try clear hfz9_3
                try clear hx17_0
                try clear p17
                try clear p2
                try clear q17
                obtain ⟨x7_2, x8_2, HA, HK2, HO_7, HO_8, BK261, BK262, HB⟩ := hrel
                have hl7_2 := (Kd.R_reads' HO_7.out).1
                rw [hl7_2] at HO_7
                (try simp only [hl7_2])
                (try simp only [hl7_2] at BK261)
                (try simp only [hl7_2] at BK262)
                (try simp only [hl7_2] at HO_8)
                cases gk with
                | zero => exact absurd HA.out (by simp [gleanerref4_depths.l1])
                | succ k2 =>
                  have H := HA.out
                  clear HA
                  simp only [gleanerref4_depths.l1] at H
                  have HC22 := Aside0.mk H
                  clear H
                  go_upto_block 4 with (fail)
                  go_cut [10] (fun v10 wc => ∃ (kq : Nat) (x10_21 : Int), v10 = .int .i64 x10_21 ∧ Aside0 (gleanerref4_depths.j3 kq x7_2 x8_2 x10_21 l0_0 a0_1 l0_2 a0_3 a0_4 a1_0 a1_1 a1_2 l1_3 = some (r1, r2, r3)) ∧ Aside0 (kq ≤ k2) ∧ Aside0 (Kd.R (Kd.int .i64) 3 wc w.heap.size (fun _ => True) (.slice Ao21 x7_2.length co21) x7_2) ∧ Aside0 (Kd.R Kd.bool 4 wc w.heap.size (fun _ => True) v267 x8_2) ∧ Aside0 (wc.heap[gb261]? = some (.cells #[(.slice A0_0 l0_0.length c0_0), .int .i64 a0_1, (.slice A0_2 l0_2.length c0_2), .int .i64 a0_3, .int .i64 a0_4] 25 (0, 0))) ∧ Aside0 (wc.heap[gb262]? = some (.cells #[.string a1_0, .int .i64 a1_1, .int .i64 a1_2, (.slice A1_3 l1_3.length c1_3)] 50 (0, 0))) ∧ Aside0 (Below w.heap.size w wc))
                  case first =>
                    have H := HC22.out
                    clear HC22
                    have H' := Aside0.mk H
                    clear H
                    go_wp2
                    go_loopg [10] k2 (fun kq v10 w' => ∃ (x10_3 : Int), v10 = .int .i64 x10_3 ∧ Aside0 (gleanerref4_depths.l2 kq x7_2 x8_2 x10_3 l0_0 a0_1 l0_2 a0_3 a0_4 a1_0 a1_1 a1_2 l1_3 = some (r1, r2, r3)) ∧ Aside0 (kq ≤ k2) ∧ Aside0 (Kd.R (Kd.int .i64) 3 w' w.heap.size (fun _ => True) (.slice Ao21 x7_2.length co21) x7_2) ∧ Aside0 (Kd.R Kd.bool 4 w' w.heap.size (fun _ => True) v267 x8_2) ∧ Aside0 (w'.heap[gb261]? = some (.cells #[(.slice A0_0 l0_0.length c0_0), .int .i64 a0_1, (.slice A0_2 l0_2.length c0_2), .int .i64 a0_3, .int .i64 a0_4] 25 (0, 0))) ∧ Aside0 (w'.heap[gb262]? = some (.cells #[.string a1_0, .int .i64 a1_1, .int .i64 a1_2, (.slice A1_3 l1_3.length c1_3)] 50 (0, 0))) ∧ Aside0 (Below w.heap.size w w'))
                    case atStart => exact ⟨(0), (by first | rfl | (simp; done) | (simp [*]; done)), H', ⟨Nat.le_refl _⟩, ⟨by (try simp only [hl7_2]); (with_reducible repeat (first | apply Kd.R_alloc | apply Kd.R_drewN | apply Kd.R_drew)); exact HO_7.out⟩, ⟨by (try simp only [hl7_2]); (with_reducible repeat (first | apply Kd.R_alloc | apply Kd.R_drewN | apply Kd.R_drew)); exact HO_8.out⟩, ⟨by (try simp only [hl7_2]); (with_reducible repeat (first | refine blk_drewN ?_ _ | refine blk_drew ?_ | refine blk_alloc ?_ _)); exact BK261.out⟩, ⟨by (try simp only [hl7_2]); (with_reducible repeat (first | refine blk_drewN ?_ _ | refine blk_drew ?_ | refine blk_alloc ?_ _)); exact BK262.out⟩, ⟨by repeat (first | (with_reducible first | exact HB.out | apply below_alloc | apply pw_below_drewN | apply below_drew1 | refine below_set ?_ GE261.out | refine below_set ?_ GE262.out) | exact HB.out)⟩⟩
                    case round =>
                      clear H'
                      try clear c1
                      try clear p1
                      try clear q1
                      try clear hx1
                      try clear c2
                      try clear p2
                      try clear c3
                      try clear c3b0
                      try clear c3b1
                      try clear c4
                      try clear c4b0
                      try clear c4b1
                      try clear c5
                      try clear c5b0
                      try clear c5b1
                      try clear p6
                      try clear c8
                      try clear c15
                      try clear c15b0
                      try clear c16
                      try clear c16b0
                      try clear p17
                      try clear q17
                      try clear hx17
                      try clear hf17
                      try clear hcz12_0
                      try clear hcz12_1
                      try clear hcz12_2
                      try clear hcz12_3
                      try clear hcz9_0
                      try clear hcz9_1
                      try clear hcz9_2
                      try clear hcz9_3
                      try clear hfz12_0
                      try clear hfz12_1
                      try clear hfz12_2
                      try clear hfz12_3
                      try clear hfz9_0
                      try clear hfz9_1
                      try clear hfz9_2
                      try clear hfz9_3
                      try clear hx17_0
                      try clear p1
                      try clear p17
                      try clear p2
                      try clear p6
                      try clear q1
                      try clear q17
                      obtain ⟨x10_3, rfl, HA, HK3, HO_7, HO_8, BK261, BK262, HB⟩ := hrel
                      cases gk with
                      | zero => exact absurd HA.out (by simp [gleanerref4_depths.l2])
                      | succ k3 =>
                        have H := HA.out
                        clear HA
                        simp only [gleanerref4_depths.l2] at H
                        by_cases c23 : x10_3 < (x7_2.length : Int)
                        · rw [if_pos c23] at H
                          have c23b0 : decide (x10_3 < (x7_2.length : Int)) = true := decide_eq_true c23
                          clear c23
                          (first | rw [c23b0] | (simp only [i64_w, i32_w]; rw [c23b0]) | skip)
                          by_cases c24 : 0 ≤ x10_3
                          · rw [if_pos c24] at H
                            have c24b0 : decide (0 ≤ x10_3) = true := decide_eq_true c24
                            clear c24
                            by_cases c25 : (rd x7_2 x10_3) < 0
                            · rw [if_pos c25] at H
                              have c25b0 : decide ((rd x7_2 x10_3) < 0) = true := decide_eq_true c25
                              clear c25
                              have H' := Aside0.mk H
                              clear H
                              have p270 : 0 ≤ (x10_3 : Int) := of_decide_eq_true (by first | (with_reducible assumption) | assumption)
                              have q270 : x10_3 < (x7_2.length : Int) := of_decide_eq_true (by first | (with_reducible assumption) | assumption)
                              obtain ⟨ad270, e270, hx270_0⟩ := Kd.at_int (Kd.R_reads' HO_7.out).2.2 x10_3 p270 q270
                              cases e270
                              replace p270 := eq_true p270
                              replace q270 := eq_true q270
                              go_wp2
                              go_roundg k3
                              case measure => have := HK1.out; have := HK2.out; have := HK3.out; omega
                              case rel => exact ⟨(wrap64 (x10_3 + 1)), (by first | rfl | (simp; done) | (simp [*]; done)), H', ⟨by have := HK1.out; have := HK2.out; have := HK3.out; omega⟩, ⟨by (try simp only [hl7_2]); (with_reducible repeat (first | apply Kd.R_alloc | apply Kd.R_drewN | apply Kd.R_drew)); exact HO_7.out⟩, ⟨by (try simp only [hl7_2]); (with_reducible repeat (first | apply Kd.R_alloc | apply Kd.R_drewN | apply Kd.R_drew)); exact HO_8.out⟩, ⟨by (try simp only [hl7_2]); (with_reducible repeat (first | refine blk_drewN ?_ _ | refine blk_drew ?_ | refine blk_alloc ?_ _)); exact BK261.out⟩, ⟨by (try simp only [hl7_2]); (with_reducible repeat (first | refine blk_drewN ?_ _ | refine blk_drew ?_ | refine blk_alloc ?_ _)); exact BK262.out⟩, ⟨by repeat (first | (with_reducible first | exact HB.out | apply below_alloc | apply pw_below_drewN | apply below_drew1 | refine below_set ?_ GE261.out | refine below_set ?_ GE262.out) | exact HB.out)⟩⟩
                            · rw [if_neg c25] at H
                              have c25b0 : decide ((rd x7_2 x10_3) < 0) = false := decide_eq_false c25
                              clear c25
                              by_cases c26 : x10_3 < (x8_2.length : Int)
                              · rw [if_pos c26] at H
                                have c26b0 : decide (x10_3 < (x8_2.length : Int)) = true := decide_eq_true c26
                                clear c26
                                obtain ⟨bq27, hbq27⟩ : ∃ b_ : Bool, b_ = (rdOf false x8_2 x10_3) := ⟨_, rfl⟩
                                replace H : (if bq27 = true then (gleanerref4_depths.l2 k3 x7_2 x8_2 (wrap64 (x10_3 + 1)) l0_0 a0_1 l0_2 a0_3 a0_4 a1_0 a1_1 a1_2 l1_3) else (gleanerref4_depths.j3 k3 x7_2 x8_2 x10_3 l0_0 a0_1 l0_2 a0_3 a0_4 a1_0 a1_1 a1_2 l1_3)) = some (r1, r2, r3) := by rw [← hbq27] at H; exact H
                                have Nbq27 := Aside0.mk hbq27
                                clear hbq27
                                by_cases c28 : bq27 = true
                                · subst c28
                                  have H1 : (gleanerref4_depths.l2 k3 x7_2 x8_2 (wrap64 (x10_3 + 1)) l0_0 a0_1 l0_2 a0_3 a0_4 a1_0 a1_1 a1_2 l1_3) = some (r1, r2, r3) := by rw [if_pos rfl] at H; exact H
                                  clear H
                                  have H := H1
                                  clear H1
                                  have H' := Aside0.mk H
                                  clear H
                                  have p270 : 0 ≤ (x10_3 : Int) := of_decide_eq_true (by first | (with_reducible assumption) | assumption)
                                  have q270 : x10_3 < (x7_2.length : Int) := of_decide_eq_true (by first | (with_reducible assumption) | assumption)
                                  obtain ⟨ad270, e270, hx270_0⟩ := Kd.at_int (Kd.R_reads' HO_7.out).2.2 x10_3 p270 q270
                                  cases e270
                                  replace p270 := eq_true p270
                                  replace q270 := eq_true q270
                                  obtain ⟨Ao29, co29, eo29⟩ := Kd.R_slice HO_8.out
                                  subst eo29
                                  have p271 : 0 ≤ (x10_3 : Int) := of_decide_eq_true (by first | (with_reducible assumption) | assumption)
                                  have q271 : x10_3 < (x8_2.length : Int) := of_decide_eq_true (by first | (with_reducible assumption) | assumption)
                                  obtain ⟨ad271, e271, hx271_0⟩ := Kd.at_bool (Kd.R_reads' HO_8.out).2.2 x10_3 p271 q271
                                  (try rw [← Nbq27.out] at hx271_0)
                                  cases e271
                                  replace p271 := eq_true p271
                                  replace q271 := eq_true q271
                                  go_wp2
                                  go_roundg k3
                                  case measure => have := HK1.out; have := HK2.out; have := HK3.out; omega
                                  case rel => exact ⟨(wrap64 (x10_3 + 1)), (by first | rfl | (simp; done) | (simp [*]; done)), H', ⟨by have := HK1.out; have := HK2.out; have := HK3.out; omega⟩, ⟨by (try simp only [hl7_2]); (with_reducible repeat (first | apply Kd.R_alloc | apply Kd.R_drewN | apply Kd.R_drew)); exact HO_7.out⟩, ⟨by (try simp only [hl7_2]); (with_reducible repeat (first | apply Kd.R_alloc | apply Kd.R_drewN | apply Kd.R_drew)); exact HO_8.out⟩, ⟨by (try simp only [hl7_2]); (with_reducible repeat (first | refine blk_drewN ?_ _ | refine blk_drew ?_ | refine blk_alloc ?_ _)); exact BK261.out⟩, ⟨by (try simp only [hl7_2]); (with_reducible repeat (first | refine blk_drewN ?_ _ | refine blk_drew ?_ | refine blk_alloc ?_ _)); exact BK262.out⟩, ⟨by repeat (first | (with_reducible first | exact HB.out | apply below_alloc | apply pw_below_drewN | apply below_drew1 | refine below_set ?_ GE261.out | refine below_set ?_ GE262.out) | exact HB.out)⟩⟩
                                · replace c28 := Bool.eq_false_iff.mpr c28
                                  subst c28
                                  have H1 : (gleanerref4_depths.j3 k3 x7_2 x8_2 x10_3 l0_0 a0_1 l0_2 a0_3 a0_4 a1_0 a1_1 a1_2 l1_3) = some (r1, r2, r3) := by rw [if_neg (show ¬ (false = true) by decide)] at H; exact H
                                  clear H
                                  have H := H1
                                  clear H1
                                  have H' := Aside0.mk H
                                  clear H
                                  have p270 : 0 ≤ (x10_3 : Int) := of_decide_eq_true (by first | (with_reducible assumption) | assumption)
                                  have q270 : x10_3 < (x7_2.length : Int) := of_decide_eq_true (by first | (with_reducible assumption) | assumption)
                                  obtain ⟨ad270, e270, hx270_0⟩ := Kd.at_int (Kd.R_reads' HO_7.out).2.2 x10_3 p270 q270
                                  cases e270
                                  replace p270 := eq_true p270
                                  replace q270 := eq_true q270
                                  obtain ⟨Ao30, co30, eo30⟩ := Kd.R_slice HO_8.out
                                  subst eo30
                                  have p271 : 0 ≤ (x10_3 : Int) := of_decide_eq_true (by first | (with_reducible assumption) | assumption)
                                  have q271 : x10_3 < (x8_2.length : Int) := of_decide_eq_true (by first | (with_reducible assumption) | assumption)
                                  obtain ⟨ad271, e271, hx271_0⟩ := Kd.at_bool (Kd.R_reads' HO_8.out).2.2 x10_3 p271 q271
                                  (try rw [← Nbq27.out] at hx271_0)
                                  cases e271
                                  replace p271 := eq_true p271
                                  replace q271 := eq_true q271
                                  go_wp2
                                  go_meet
                                  case rel => exact ⟨_, (x10_3), (by first | rfl | (simp; done) | (simp [*]; done)), H', ⟨by have := HK1.out; have := HK2.out; have := HK3.out; first | omega | exact Nat.le_refl _⟩, ⟨by (try simp only [hl7_2]); (with_reducible repeat (first | apply Kd.R_alloc | apply Kd.R_drewN | apply Kd.R_drew)); exact HO_7.out⟩, ⟨by (try simp only [hl7_2]); (with_reducible repeat (first | apply Kd.R_alloc | apply Kd.R_drewN | apply Kd.R_drew)); exact HO_8.out⟩, ⟨by (try simp only [hl7_2]); (with_reducible repeat (first | refine blk_drewN ?_ _ | refine blk_drew ?_ | refine blk_alloc ?_ _)); exact BK261.out⟩, ⟨by (try simp only [hl7_2]); (with_reducible repeat (first | refine blk_drewN ?_ _ | refine blk_drew ?_ | refine blk_alloc ?_ _)); exact BK262.out⟩, ⟨by repeat (first | (with_reducible first | exact HB.out | apply below_alloc | apply pw_below_drewN | apply below_drew1 | refine below_set ?_ GE261.out | refine below_set ?_ GE262.out) | exact HB.out)⟩⟩
                              · rw [if_neg c26] at H
                                exact absurd H (by simp)
                          · rw [if_neg c24] at H
                            exact absurd H (by simp)
                        · rw [if_neg c23] at H
                          have c23b0 : decide (x10_3 < (x7_2.length : Int)) = false := decide_eq_false c23
                          clear c23
                          (first | rw [c23b0] | (simp only [i64_w, i32_w]; rw [c23b0]) | skip)
                          have H' := Aside0.mk H
                          clear H
                          go_wp2
                          go_meet
                          case rel => exact ⟨_, (x10_3), (by first | rfl | (simp; done) | (simp [*]; done)), H', ⟨by have := HK1.out; have := HK2.out; have := HK3.out; first | omega | exact Nat.le_refl _⟩, ⟨by (try simp only [hl7_2]); (with_reducible repeat (first | apply Kd.R_alloc | apply Kd.R_drewN | apply Kd.R_drew)); exact HO_7.out⟩, ⟨by (try simp only [hl7_2]); (with_reducible repeat (first | apply Kd.R_alloc | apply Kd.R_drewN | apply Kd.R_drew)); exact HO_8.out⟩, ⟨by (try simp only [hl7_2]); (with_reducible repeat (first | refine blk_drewN ?_ _ | refine blk_drew ?_ | refine blk_alloc ?_ _)); exact BK261.out⟩, ⟨by (try simp only [hl7_2]); (with_reducible repeat (first | refine blk_drewN ?_ _ | refine blk_drew ?_ | refine blk_alloc ?_ _)); exact BK262.out⟩, ⟨by repeat (first | (with_reducible first | exact HB.out | apply below_alloc | apply pw_below_drewN | apply below_drew1 | refine below_set ?_ GE261.out | refine below_set ?_ GE262.out) | exact HB.out)⟩⟩
                  case rest =>
                    clear HC22
                    try clear c1
                    try clear p1
                    try clear q1
                    try clear hx1
                    try clear c2
                    try clear p2
                    try clear q2
                    try clear hx2
                    try clear c3
                    try clear c3b0
                    try clear c3b1
                    try clear c4
                    try clear c4b0
                    try clear c4b1
                    try clear c5
                    try clear c5b0
                    try clear c5b1
                    try clear p6
                    try clear c8
                    try clear c15
                    try clear c15b0
                    try clear c16
                    try clear c16b0
                    try clear p17
                    try clear q17
                    try clear hx17
                    try clear hf17
                    try clear c23
                    try clear c23b0
                    try clear c24
                    try clear c24b0
                    try clear c25
                    try clear c25b0
                    try clear c26
                    try clear c26b0
                    try clear p27
                    try clear q27
                    try clear hx27
                    try clear c28
                    try clear hcz12_0
                    try clear hcz12_1
                    try clear hcz12_2
                    try clear hcz12_3
                    try clear hcz9_0
                    try clear hcz9_1
                    try clear hcz9_2
                    try clear hcz9_3
                    try clear hfz12_0
                    try clear hfz12_1
                    try clear hfz12_2
                    try clear hfz12_3
                    try clear hfz9_0
                    try clear hfz9_1
                    try clear hfz9_2
                    try clear hfz9_3
                    try clear hx17_0
                    try clear hx270_0
                    try clear hx271_0
                    try clear p1
                    try clear p17
                    try clear p2
                    try clear p270
                    try clear p271
                    try clear p6
                    try clear q1
                    try clear q17
                    try clear q270
                    try clear q271
                    obtain ⟨kq, x10_21, rfl, HA, HJ21, HO_7, HO_8, BK261, BK262, HB⟩ := hcut
                    cases kq with
                    | zero => exact absurd HA.out (by simp [gleanerref4_depths.j3])
                    | succ kj21 =>
                      have H := HA.out
                      clear HA
                      simp only [gleanerref4_depths.j3] at H
                      by_cases c31 : x10_21 = (x7_2.length : Int)
                      · rw [if_pos c31] at H
                        have c31b0 : (x10_21 == (x7_2.length : Int)) = true := beq_iff_eq.mpr c31
                        have c31b1 : (x10_21 != (x7_2.length : Int)) = false := bne_eq_false_iff_eq.mpr c31
                        clear c31
                        simp only [Option.some.injEq, Prod.mk.injEq] at H
                        obtain ⟨rfl, rfl, rfl⟩ := H
                        go_wp2
                        go_ret3
                        exact ⟨_, by first | rfl | (simp [errW_none, errW_some] <;> rfl) | (simp [*, errW_none, errW_some] <;> rfl), by (with_reducible repeat (first | apply Kd.R_alloc | apply Kd.R_drewN | apply Kd.R_drew)); exact HO_7.out, by repeat (first | (with_reducible first | exact HB.out | apply below_alloc | apply pw_below_drewN | apply below_drew1 | refine below_set ?_ GE261.out | refine below_set ?_ GE262.out) | exact HB.out)⟩
                      · rw [if_neg c31] at H
                        have c31b0 : (x10_21 == (x7_2.length : Int)) = false := beq_eq_false_iff_ne.mpr c31
                        have c31b1 : (x10_21 != (x7_2.length : Int)) = true := bne_iff_ne.mpr c31
                        by_cases c32 : 0 ≤ x10_21
                        · rw [if_pos c32] at H
                          have c32b0 : decide (0 ≤ x10_21) = true := decide_eq_true c32
                          clear c32
                          by_cases c33 : x10_21 < (x8_2.length : Int)
                          · rw [if_pos c33] at H
                            have c33b0 : decide (x10_21 < (x8_2.length : Int)) = true := decide_eq_true c33
                            clear c33
                            obtain ⟨y272, hy272⟩ : ∃ y_ : List Bool, y_ = (x8_2.set (x10_21 : Int).toNat true) := ⟨_, rfl⟩
                            replace H : (if x10_21 < (l1_3.length : Int) then ((gleanerref1_Pops.f kj21 ((rd_T102 l1_3 x10_21).f0) ((rd_T102 l1_3 x10_21).f1) l0_0).bind fun t274 => (if x10_21 < (x7_2.length : Int) then ((gleanerref1_Pushes.f kj21 ((rd_T102 l1_3 x10_21).f0) ((rd_T102 l1_3 x10_21).f1)).bind fun t277 => (if (rd x7_2 x10_21) < t274 then (gleanerref4_depths.j4 kj21 x7_2 y272 x10_21 (wrap64 ((wrap64 ((rd x7_2 x10_21) - t274)) + t277)) true l0_0 a0_1 l0_2 a0_3 a0_4 a1_0 a1_1 a1_2 l1_3) else (if t274 < (-32) then (gleanerref4_depths.j4 kj21 x7_2 y272 x10_21 (wrap64 ((wrap64 ((rd x7_2 x10_21) - t274)) + t277)) true l0_0 a0_1 l0_2 a0_3 a0_4 a1_0 a1_1 a1_2 l1_3) else (gleanerref4_depths.j4 kj21 x7_2 y272 x10_21 (wrap64 ((wrap64 ((rd x7_2 x10_21) - t274)) + t277)) (decide ((wrap64 ((wrap64 ((rd x7_2 x10_21) - t274)) + t277)) > 32)) l0_0 a0_1 l0_2 a0_3 a0_4 a1_0 a1_1 a1_2 l1_3)))) else (none))) else (none)) = some (r1, r2, r3) := by first | (rw [hy272]; with_reducible exact H) | (have H2_ := (Option.bind_some _ _).symm.trans H; rw [hy272]; with_reducible exact H2_) | (have H2_ := (Option.bind_some _ _).symm.trans H; with_reducible exact H2_) | with_reducible exact H | (rw [hy272]; exact H) | exact H
                            have Ny272 := Aside0.mk hy272
                            clear hy272
                            by_cases c35 : x10_21 < (l1_3.length : Int)
                            · rw [if_pos c35] at H
                              have c35b0 : decide (x10_21 < (l1_3.length : Int)) = true := decide_eq_true c35
                              clear c35
                              replace H := Option.bind_eq_some_iff.mp H
                              obtain ⟨t274, A360, H⟩ := H
                              replace H : (if x10_21 < (x7_2.length : Int) then ((gleanerref1_Pushes.f kj21 ((rd_T102 l1_3 x10_21).f0) ((rd_T102 l1_3 x10_21).f1)).bind fun t277 => (if (rd x7_2 x10_21) < t274 then (gleanerref4_depths.j4 kj21 x7_2 y272 x10_21 (wrap64 ((wrap64 ((rd x7_2 x10_21) - t274)) + t277)) true l0_0 a0_1 l0_2 a0_3 a0_4 a1_0 a1_1 a1_2 l1_3) else (if t274 < (-32) then (gleanerref4_depths.j4 kj21 x7_2 y272 x10_21 (wrap64 ((wrap64 ((rd x7_2 x10_21) - t274)) + t277)) true l0_0 a0_1 l0_2 a0_3 a0_4 a1_0 a1_1 a1_2 l1_3) else (gleanerref4_depths.j4 kj21 x7_2 y272 x10_21 (wrap64 ((wrap64 ((rd x7_2 x10_21) - t274)) + t277)) (decide ((wrap64 ((wrap64 ((rd x7_2 x10_21) - t274)) + t277)) > 32)) l0_0 a0_1 l0_2 a0_3 a0_4 a1_0 a1_1 a1_2 l1_3)))) else (none)) = some (r1, r2, r3) := H
                              have A36 := Aside0.mk A360
                              clear A360
                              by_cases c37 : x10_21 < (x7_2.length : Int)
                              · rw [if_pos c37] at H
                                have c37b0 : decide (x10_21 < (x7_2.length : Int)) = true := decide_eq_true c37
                                clear c37
                                replace H := Option.bind_eq_some_iff.mp H
                                obtain ⟨t277, A380, H⟩ := H
                                replace H : (if (rd x7_2 x10_21) < t274 then (gleanerref4_depths.j4 kj21 x7_2 y272 x10_21 (wrap64 ((wrap64 ((rd x7_2 x10_21) - t274)) + t277)) true l0_0 a0_1 l0_2 a0_3 a0_4 a1_0 a1_1 a1_2 l1_3) else (if t274 < (-32) then (gleanerref4_depths.j4 kj21 x7_2 y272 x10_21 (wrap64 ((wrap64 ((rd x7_2 x10_21) - t274)) + t277)) true l0_0 a0_1 l0_2 a0_3 a0_4 a1_0 a1_1 a1_2 l1_3) else (gleanerref4_depths.j4 kj21 x7_2 y272 x10_21 (wrap64 ((wrap64 ((rd x7_2 x10_21) - t274)) + t277)) (decide ((wrap64 ((wrap64 ((rd x7_2 x10_21) - t274)) + t277)) > 32)) l0_0 a0_1 l0_2 a0_3 a0_4 a1_0 a1_1 a1_2 l1_3))) = some (r1, r2, r3) := H
                                have A38 := Aside0.mk A380
                                clear A380
                                have HC39 := Aside0.mk H
                                clear H
                                have p34 : 0 ≤ (x10_21 : Int) := of_decide_eq_true (by first | (with_reducible assumption) | assumption)
                                have q34 : (x10_21 : Int) < ((x8_2.length : Int) : Int) := of_decide_eq_true (by first | (with_reducible assumption) | assumption)
                                obtain ⟨go34, co34, eo34, gb34, gl34, cl34, HG34⟩ := Kd.R_form HO_8.out (by omega)
                                (first | cases eo34 | (injection eo34 with ea_ en_ ec_; (first | subst ea_ | (injection ea_ with ea_; subst ea_)); subst ec_; clear en_))
                                have GB34 := Aside0.mk gb34
                                have GG34 := Aside0.mk HG34
                                clear gb34 gl34 HG34
                                obtain ⟨hx34_0, hf34_0⟩ := Kd.R_celln false HO_8.out (x10_21 : Int) p34 q34
                                replace p34 := eq_true p34
                                replace q34 := eq_true q34
                                have HP40 := Kd.R_putg HO_8.out (x10_21 : Int) true
                                try go_wp2_with (first | ((with_reducible refine gate_store (t := 4) (p := 58) rfl ?_); refine store_event (t := 4) (p := 58) (v := ?vo_w41) (w1 := (wc.setCell ⟨go34, (x10_21 : Int).toNat, none⟩ (.bool true))) ?hg ?ho ?hn ?hr ?_; (case ho => rfl); (case hg => rfl); (case hn => rfl); (case hr => first | (go_simp; done) | (go_simp; rfl)); intro w41 hw; have hg : wc.grownBy w41 (some go34) := (by rw [hw]; exact HP40.2); have hp_ : Kd.R Kd.bool 4 w41 w.heap.size (fun _ => True) (.slice (some ⟨go34, 0, none⟩) x8_2.length co34) y272 := (by rw [hw, Ny272.out]; exact HP40.1); clear HP40; have n0_ := Aside0.mk (Kd.R_over' (v := (.slice (some ⟨go34, 0, none⟩) x8_2.length co34)) (by (with_reducible repeat (first | apply Kd.R_alloc | apply Kd.R_drewN | apply Kd.R_drew)); exact HO_7.out) (Kd.R_typed HO_8.out) (by decide) hg); have n1_ := Aside0.mk (hp_); have n2_ := Aside0.mk (blk_grown (g := gb261) (o := .cells #[.slice A0_0 l0_0.length c0_0, .int .i64 a0_1, .slice A0_2 l0_2.length c0_2, .int .i64 a0_3, .int .i64 a0_4] 25 (0, 0)) (by (with_reducible repeat (first | refine blk_drewN ?_ _ | refine blk_drew ?_ | refine blk_alloc ?_ _)); exact BK261.out) hg (Kd.R_ne HO_8.out BK261.out (by decide))); have n3_ := Aside0.mk (blk_grown (g := gb262) (o := .cells #[.string a1_0, .int .i64 a1_1, .int .i64 a1_2, .slice A1_3 l1_3.length c1_3] 50 (0, 0)) (by (with_reducible repeat (first | refine blk_drewN ?_ _ | refine blk_drew ?_ | refine blk_alloc ?_ _)); exact BK262.out) hg (Kd.R_ne HO_8.out BK262.out (by decide))); have n4_ := Aside0.mk ((by rw [hw]; exact below_set (HB.out) GB34.out : Below w.heap.size w w41)); clear HO_7; clear HO_8; clear BK261; clear BK262; clear HB; have HO_7 := n0_; have HO_8 := n1_; have BK261 := n2_; have BK262 := n3_; have HB := n4_; clear n0_ n1_ n2_ n3_ n4_; clear hg hw hp_))
                                have n0_ := Aside0.mk (Kd.R_drew HO_7.out)
                                have n1_ := Aside0.mk (Kd.R_drew HO_8.out)
                                have n2_ := Aside0.mk (blk_drew BK261.out)
                                have n3_ := Aside0.mk (blk_drew BK262.out)
                                have n4_ := Aside0.mk (below_drew1 HB.out)
                                clear HO_7
                                clear HO_8
                                clear BK261
                                clear BK262
                                clear HB
                                have HO_7 := n0_
                                have HO_8 := n1_
                                have BK261 := n2_
                                have BK262 := n3_
                                have HB := n4_
                                clear n0_ n1_ n2_ n3_ n4_
                                have p273 : 0 ≤ (x10_21 : Int) := of_decide_eq_true (by first | (with_reducible assumption) | assumption)
                                have q273 : x10_21 < (l1_3.length : Int) := of_decide_eq_true (by first | (with_reducible assumption) | assumption)
                                obtain ⟨ad273, e273, hx273_0, hx273_1⟩ := at_T102 HR1_3.out x10_21 p273 q273
                                have hw273_1 := hx273_1
                                have hw273_0 := hx273_0
                                cases e273
                                replace hx273_0 := (HB.out.cell (World.block_lt_of_cell? w _ hx273_0)).trans hx273_0
                                replace hx273_1 := (HB.out.cell (World.block_lt_of_cell? w _ hx273_1)).trans hx273_1
                                replace p273 := eq_true p273
                                replace q273 := eq_true q273
                                refine start_ (n := 9) (S := fun w' => w'.cell? ⟨gb262, 0, none⟩ = some (.string a1_0) ∧ w'.cell? ⟨gb262, 1, none⟩ = some (.int .i64 a1_1) ∧ w'.cell? ⟨gb262, 2, none⟩ = some (.int .i64 a1_2) ∧ w'.cell? ⟨gb262, 3, none⟩ = some (.slice (some ad273) l1_3.length c1_3) ∧ w'.cell? ⟨gb261, 0, none⟩ = some (.slice A0_0 l0_0.length c0_0) ∧ w'.cell? ⟨gb261, 1, none⟩ = some (.int .i64 a0_1) ∧ w'.cell? ⟨gb261, 2, none⟩ = some (.slice A0_2 l0_2.length c0_2) ∧ w'.cell? ⟨gb261, 3, none⟩ = some (.int .i64 a0_3) ∧ w'.cell? ⟨gb261, 4, none⟩ = some (.int .i64 a0_4) ∧ w'.cell? (ad273.add ((x10_21).toNat * 2)) = some (.int .i64 ((rd_T102 l1_3 x10_21).f0)) ∧ w'.cell? ⟨(ad273.add ((x10_21).toNat * 2)).block, (ad273.add ((x10_21).toNat * 2)).off + 1, none⟩ = some (.int .i64 ((rd_T102 l1_3 x10_21).f1))) (ds := []) #[false, false, false, false, false, false, false, false, false] (by kernel_rfl) rfl rfl ⟨(blk_cell BK262.out 0).trans rfl, (blk_cell BK262.out 1).trans rfl, (blk_cell BK262.out 2).trans rfl, (blk_cell BK262.out 3).trans rfl, (blk_cell BK261.out 0).trans rfl, (blk_cell BK261.out 1).trans rfl, (blk_cell BK261.out 2).trans rfl, (blk_cell BK261.out 3).trans rfl, (blk_cell BK261.out 4).trans rfl, ((HB.out.cell (World.block_lt_of_cell? w _ hw273_0)).trans hw273_0), ((HB.out.cell (World.block_lt_of_cell? w _ hw273_1)).trans hw273_1)⟩ (fun hHeld => ?_); refine with_tabW gleanerref4_depths.tab13 gleanerref4_depths.bits13 (fun HT_ HW_ => ?_)
                                generalize w41.drew = w42 at HO_7 HO_8 BK261 BK262 HB hx273_0 hx273_1 hHeld ⊢
                                refine pure_ (i := 0) (N := some 59) (v := ?_) (a' := ?_) #[true, false, false, false, false, false, false, false, false] rfl rfl (any_of HT_.out (by kernel_rfl)) (fun _ _ _ h => h) (Or.inl ⟨by rfl, ?_⟩) ?_ ?_
                                rotate_left
                                · intro w'
                                  go_simp
                                  with_reducible rfl
                                rotate_left
                                · simp only [Act.put, List.setIfInBounds_toArray, List.set_cons_zero, List.set_cons_succ, i64_w, i32_w]
                                  rfl
                                refine pure_ (i := 2) (N := some 61) (v := ?_) (a' := ?_) #[true, false, true, false, false, false, false, false, false] rfl rfl (any_of HT_.out (by kernel_rfl)) (fun _ _ _ h => h) (Or.inl ⟨by rfl, ?_⟩) ?_ ?_
                                rotate_left
                                · intro w'
                                  go_simp
                                  with_reducible rfl
                                rotate_left
                                · simp only [Act.put, List.setIfInBounds_toArray, List.set_cons_zero, List.set_cons_succ, i64_w, i32_w]
                                  rfl
                                refine pure_ (i := 5) (N := some 64) (v := ?_) (a' := ?_) #[true, false, true, false, false, true, false, false, false] rfl rfl (any_of HT_.out (by kernel_rfl)) (fun _ _ _ h => h) (Or.inl ⟨by rfl, ?_⟩) ?_ ?_
                                rotate_left
                                · intro w'
                                  go_simp
                                  with_reducible rfl
                                rotate_left
                                · simp only [Act.put, List.setIfInBounds_toArray, List.set_cons_zero, List.set_cons_succ, i64_w, i32_w]
                                  rfl
                                refine take_ (i := 1) (N := some 60) (v := ?_) (a' := ?_) #[true, true, true, false, false, true, false, false, false] rfl rfl (take_ofW HT_.out HW_.out (by kernel_rfl)) (fun _ _ _ h => h) (Or.inl ⟨by rfl, ?_⟩) hHeld ?_ ?_
                                rotate_left
                                · rintro w' ⟨s0, s1, s2, s3, s4, s5, s6, s7, s8, s9, s10⟩
                                  go_simp
                                  with_reducible rfl
                                rotate_left
                                · simp only [Act.put, List.setIfInBounds_toArray, List.set_cons_zero, List.set_cons_succ, i64_w, i32_w]
                                  rfl
                                refine pure_ (i := 3) (N := some 62) (v := ?_) (a' := ?_) #[true, true, true, true, false, true, false, false, false] rfl rfl (any_of HT_.out (by kernel_rfl)) (fun _ _ _ h => h) (Or.inl ⟨by rfl, ?_⟩) ?_ ?_
                                rotate_left
                                · intro w'
                                  go_simp
                                  with_reducible rfl
                                rotate_left
                                · simp only [Act.put, List.setIfInBounds_toArray, List.set_cons_zero, List.set_cons_succ, i64_w, i32_w]
                                  rfl
                                refine take_ (i := 4) (N := some 63) (v := ?_) (a' := ?_) #[true, true, true, true, true, true, false, false, false] rfl rfl (take_ofW HT_.out HW_.out (by kernel_rfl)) (fun _ _ _ h => h) (Or.inl ⟨by rfl, ?_⟩) hHeld ?_ ?_
                                rotate_left
                                · rintro w' ⟨s0, s1, s2, s3, s4, s5, s6, s7, s8, s9, s10⟩
                                  go_simp
                                  with_reducible rfl
                                rotate_left
                                · simp only [Act.put, List.setIfInBounds_toArray, List.set_cons_zero, List.set_cons_succ, i64_w, i32_w]
                                  rfl
                                refine take_ (i := 6) (N := some 65) (v := ?_) (a' := ?_) #[true, true, true, true, true, true, true, false, false] rfl rfl (take_ofW HT_.out HW_.out (by kernel_rfl)) (fun _ _ _ h => h) (Or.inl ⟨by rfl, ?_⟩) hHeld ?_ ?_
                                rotate_left
                                · rintro w' ⟨s0, s1, s2, s3, s4, s5, s6, s7, s8, s9, s10⟩
                                  go_simp
                                  with_reducible rfl
                                rotate_left
                                · simp only [Act.put, List.setIfInBounds_toArray, List.set_cons_zero, List.set_cons_succ, i64_w, i32_w]
                                  rfl
                                refine one_ (i := 7) (N := some 66) #[true, true, true, true, true, true, true, true, false] rfl rfl (one_of HT_.out (by kernel_rfl)) (by decide) (fun K hK => ?_)
                                refine goes_ Try.func41 (by kernel_rfl) rfl #[.agg #[.int .i64 ((rd_T102 l1_3 x10_21).f0), .int .i64 ((rd_T102 l1_3 x10_21).f1)], .slice A0_0 l0_0.length c0_0] (by rfl) rfl rfl (by (try simp only [List.map_toArray, List.map_cons, List.map_nil]); first | done | rfl | (simp only [List.length_drop, List.length_take]; rfl)) ?_
                                with_reducible refine (gleanerref1_Pops.calls kj21 ((rd_T102 l1_3 x10_21).f0) ((rd_T102 l1_3 x10_21).f1) _ _ l0_0 t274 _ ?side1 ?side2 A36.out).mono ?_
                                (case side1 => repeat (first | exact (Kd.C_below HR0_0.out HB.out) | (with_reducible refine Kd.C_alloc ?_ _) | (with_reducible refine Kd.C_drewN ?_ _) | (with_reducible refine Kd.C_drew ?_)))
                                (case side2 => exact HC0_0.out)
                                rintro e w43 ⟨rfl, hb⟩
                                refine ⟨_, rfl, ?_⟩
                                have n0_ := Aside0.mk (Kd.R_below (by (with_reducible repeat (first | apply Kd.R_alloc | apply Kd.R_drewN | apply Kd.R_drew)); exact HO_7.out) hb)
                                have n1_ := Aside0.mk (Kd.R_below (by (with_reducible repeat (first | apply Kd.R_alloc | apply Kd.R_drewN | apply Kd.R_drew)); exact HO_8.out) hb)
                                have n2_ := Aside0.mk (blk_below (g := gb261) (o := .cells #[.slice A0_0 l0_0.length c0_0, .int .i64 a0_1, .slice A0_2 l0_2.length c0_2, .int .i64 a0_3, .int .i64 a0_4] 25 (0, 0)) (by (with_reducible repeat (first | refine blk_drewN ?_ _ | refine blk_drew ?_ | refine blk_alloc ?_ _)); exact BK261.out) hb)
                                have n3_ := Aside0.mk (blk_below (g := gb262) (o := .cells #[.string a1_0, .int .i64 a1_1, .int .i64 a1_2, .slice (some ad273) l1_3.length c1_3] 50 (0, 0)) (by (with_reducible repeat (first | refine blk_drewN ?_ _ | refine blk_drew ?_ | refine blk_alloc ?_ _)); exact BK262.out) hb)
                                have n4_ := Aside0.mk (below_step (by repeat (first | (with_reducible first | exact HB.out | apply below_alloc | apply pw_below_drewN | apply below_drew1 | refine below_set ?_ GE261.out | refine below_set ?_ GE262.out) | exact HB.out)) hb)
                                clear HO_7
                                clear HO_8
                                clear BK261
                                clear BK262
                                clear HB
                                have HO_7 := n0_
                                have HO_8 := n1_
                                have BK261 := n2_
                                have BK262 := n3_
                                have HB := n4_
                                clear n0_ n1_ n2_ n3_ n4_
                                (try clear hb)
                                (try clear hb2)
                                (try clear hk)
                                (try clear hi)
                                refine hK.out _ _ ⟨(blk_cell BK262.out 0).trans rfl, (blk_cell BK262.out 1).trans rfl, (blk_cell BK262.out 2).trans rfl, (blk_cell BK262.out 3).trans rfl, (blk_cell BK261.out 0).trans rfl, (blk_cell BK261.out 1).trans rfl, (blk_cell BK261.out 2).trans rfl, (blk_cell BK261.out 3).trans rfl, (blk_cell BK261.out 4).trans rfl, ((HB.out.cell (World.block_lt_of_cell? w _ hw273_0)).trans hw273_0), ((HB.out.cell (World.block_lt_of_cell? w _ hw273_1)).trans hw273_1)⟩ (fun hHeld => ?_)
                                clear hK K
                                refine norm_ (a' := ?_) ?_ ?_
                                rotate_left
                                · show Act.put _ (some 66) _ = _
                                  simp only [Act.put, List.setIfInBounds_toArray, List.set_cons_zero, List.set_cons_succ, i64_w, i32_w]
                                  rfl
                                refine pure_ (i := 8) (N := some 11) (v := ?_) (a' := ?_) #[true, true, true, true, true, true, true, true, true] rfl rfl (any_of HT_.out (by kernel_rfl)) (fun _ _ _ h => h) (Or.inl ⟨by rfl, ?_⟩) ?_ ?_
                                rotate_left
                                · intro w'
                                  go_simp
                                  with_reducible rfl
                                rotate_left
                                · simp only [Act.put, List.setIfInBounds_toArray, List.set_cons_zero, List.set_cons_succ, i64_w, i32_w]
                                  rfl
                                refine done_ (done_of HT_.out (by kernel_rfl)) ?_
                                try go_wp2
                                have n0_ := Aside0.mk (Kd.R_drew HO_7.out)
                                have n1_ := Aside0.mk (Kd.R_drew HO_8.out)
                                have n2_ := Aside0.mk (blk_drew BK261.out)
                                have n3_ := Aside0.mk (blk_drew BK262.out)
                                have n4_ := Aside0.mk (below_drew1 HB.out)
                                clear HO_7
                                clear HO_8
                                clear BK261
                                clear BK262
                                clear HB
                                have HO_7 := n0_
                                have HO_8 := n1_
                                have BK261 := n2_
                                have BK262 := n3_
                                have HB := n4_
                                clear n0_ n1_ n2_ n3_ n4_
                                have p275 : 0 ≤ (x10_21 : Int) := of_decide_eq_true (by first | (with_reducible assumption) | assumption)
                                have q275 : x10_21 < (x7_2.length : Int) := of_decide_eq_true (by first | (with_reducible assumption) | assumption)
                                obtain ⟨ad275, e275, hx275_0⟩ := Kd.at_int (Kd.R_reads' HO_7.out).2.2 x10_21 p275 q275
                                cases e275
                                replace p275 := eq_true p275
                                replace q275 := eq_true q275
                                have p276 : 0 ≤ (x10_21 : Int) := of_decide_eq_true (by first | (with_reducible assumption) | assumption)
                                have q276 : x10_21 < (l1_3.length : Int) := of_decide_eq_true (by first | (with_reducible assumption) | assumption)
                                obtain ⟨ad276, e276, hx276_0, hx276_1⟩ := at_T102 HR1_3.out x10_21 p276 q276
                                have hw276_1 := hx276_1
                                have hw276_0 := hx276_0
                                obtain rfl : ad273 = ad276 := (by injection e276)
                                replace hx276_0 := (HB.out.cell (World.block_lt_of_cell? w _ hx276_0)).trans hx276_0
                                replace hx276_1 := (HB.out.cell (World.block_lt_of_cell? w _ hx276_1)).trans hx276_1
                                replace p276 := eq_true p276
                                replace q276 := eq_true q276
                                refine start_ (n := 14) (S := fun w' => w'.cell? ⟨gb262, 0, none⟩ = some (.string a1_0) ∧ w'.cell? ⟨gb262, 1, none⟩ = some (.int .i64 a1_1) ∧ w'.cell? ⟨gb262, 2, none⟩ = some (.int .i64 a1_2) ∧ w'.cell? ⟨gb262, 3, none⟩ = some (.slice (some ad273) l1_3.length c1_3) ∧ w'.cell? (ad275.add (x10_21).toNat) = some (.int .i64 (rd x7_2 x10_21)) ∧ w'.cell? (ad273.add ((x10_21).toNat * 2)) = some (.int .i64 ((rd_T102 l1_3 x10_21).f0)) ∧ w'.cell? ⟨(ad273.add ((x10_21).toNat * 2)).block, (ad273.add ((x10_21).toNat * 2)).off + 1, none⟩ = some (.int .i64 ((rd_T102 l1_3 x10_21).f1))) (ds := []) #[false, false, false, false, false, false, false, false, false, false, false, false, false, false] (by kernel_rfl) rfl rfl ⟨(blk_cell BK262.out 0).trans rfl, (blk_cell BK262.out 1).trans rfl, (blk_cell BK262.out 2).trans rfl, (blk_cell BK262.out 3).trans rfl, hx275_0, ((HB.out.cell (World.block_lt_of_cell? w _ hw276_0)).trans hw276_0), ((HB.out.cell (World.block_lt_of_cell? w _ hw276_1)).trans hw276_1)⟩ (fun hHeld => ?_); refine with_tabW gleanerref4_depths.tab14 gleanerref4_depths.bits14 (fun HT_ HW_ => ?_)
                                generalize w43.drew = w44 at HO_7 HO_8 BK261 BK262 HB hx275_0 hx276_0 hx276_1 hHeld ⊢
                                refine pure_ (i := 0) (N := some 67) (v := ?_) (a' := ?_) #[true, false, false, false, false, false, false, false, false, false, false, false, false, false] rfl rfl (any_of HT_.out (by kernel_rfl)) (fun _ _ _ h => h) (Or.inl ⟨by rfl, ?_⟩) ?_ ?_
                                rotate_left
                                · intro w'
                                  go_simp
                                  with_reducible rfl
                                rotate_left
                                · simp only [Act.put, List.setIfInBounds_toArray, List.set_cons_zero, List.set_cons_succ, i64_w, i32_w]
                                  rfl
                                refine pure_ (i := 1) (N := some 68) (v := ?_) (a' := ?_) #[true, true, false, false, false, false, false, false, false, false, false, false, false, false] rfl rfl (any_of HT_.out (by kernel_rfl)) (fun _ _ _ h => h) (Or.inl ⟨by rfl, ?_⟩) ?_ ?_
                                rotate_left
                                · intro w'
                                  go_simp
                                  with_reducible rfl
                                rotate_left
                                · simp only [Act.put, List.setIfInBounds_toArray, List.set_cons_zero, List.set_cons_succ, i64_w, i32_w]
                                  rfl
                                refine pure_ (i := 2) (N := some 69) (v := ?_) (a' := ?_) #[true, true, true, false, false, false, false, false, false, false, false, false, false, false] rfl rfl (any_of HT_.out (by kernel_rfl)) (fun _ _ _ h => h) (Or.inl ⟨by rfl, ?_⟩) ?_ ?_
                                rotate_left
                                · intro w'
                                  go_simp
                                  with_reducible rfl
                                rotate_left
                                · simp only [Act.put, List.setIfInBounds_toArray, List.set_cons_zero, List.set_cons_succ, i64_w, i32_w]
                                  rfl
                                refine pure_ (i := 4) (N := some 71) (v := ?_) (a' := ?_) #[true, true, true, false, true, false, false, false, false, false, false, false, false, false] rfl rfl (any_of HT_.out (by kernel_rfl)) (fun _ _ _ h => h) (Or.inl ⟨by rfl, ?_⟩) ?_ ?_
                                rotate_left
                                · intro w'
                                  go_simp
                                  with_reducible rfl
                                rotate_left
                                · simp only [Act.put, List.setIfInBounds_toArray, List.set_cons_zero, List.set_cons_succ, i64_w, i32_w]
                                  rfl
                                refine pure_ (i := 6) (N := some 73) (v := ?_) (a' := ?_) #[true, true, true, false, true, false, true, false, false, false, false, false, false, false] rfl rfl (any_of HT_.out (by kernel_rfl)) (fun _ _ _ h => h) (Or.inl ⟨by rfl, ?_⟩) ?_ ?_
                                rotate_left
                                · intro w'
                                  go_simp
                                  with_reducible rfl
                                rotate_left
                                · simp only [Act.put, List.setIfInBounds_toArray, List.set_cons_zero, List.set_cons_succ, i64_w, i32_w]
                                  rfl
                                refine pure_ (i := 8) (N := some 75) (v := ?_) (a' := ?_) #[true, true, true, false, true, false, true, false, true, false, false, false, false, false] rfl rfl (any_of HT_.out (by kernel_rfl)) (fun _ _ _ h => h) (Or.inl ⟨by rfl, ?_⟩) ?_ ?_
                                rotate_left
                                · intro w'
                                  go_simp
                                  with_reducible rfl
                                rotate_left
                                · simp only [Act.put, List.setIfInBounds_toArray, List.set_cons_zero, List.set_cons_succ, i64_w, i32_w]
                                  rfl
                                refine take_ (i := 3) (N := some 70) (v := ?_) (a' := ?_) #[true, true, true, true, true, false, true, false, true, false, false, false, false, false] rfl rfl (take_ofW HT_.out HW_.out (by kernel_rfl)) (fun _ _ _ h => h) (Or.inl ⟨by rfl, ?_⟩) hHeld ?_ ?_
                                rotate_left
                                · rintro w' ⟨s0, s1, s2, s3, s4, s5, s6⟩
                                  go_simp
                                  with_reducible rfl
                                rotate_left
                                · simp only [Act.put, List.setIfInBounds_toArray, List.set_cons_zero, List.set_cons_succ, i64_w, i32_w]
                                  rfl
                                refine pure_ (i := 5) (N := some 72) (v := ?_) (a' := ?_) #[true, true, true, true, true, true, true, false, true, false, false, false, false, false] rfl rfl (any_of HT_.out (by kernel_rfl)) (fun _ _ _ h => h) (Or.inl ⟨by rfl, ?_⟩) ?_ ?_
                                rotate_left
                                · intro w'
                                  go_simp
                                  with_reducible rfl
                                rotate_left
                                · simp only [Act.put, List.setIfInBounds_toArray, List.set_cons_zero, List.set_cons_succ, i64_w, i32_w]
                                  rfl
                                refine take_ (i := 7) (N := some 74) (v := ?_) (a' := ?_) #[true, true, true, true, true, true, true, true, true, false, false, false, false, false] rfl rfl (take_ofW HT_.out HW_.out (by kernel_rfl)) (fun _ _ _ h => h) (Or.inl ⟨by rfl, ?_⟩) hHeld ?_ ?_
                                rotate_left
                                · rintro w' ⟨s0, s1, s2, s3, s4, s5, s6⟩
                                  go_simp
                                  with_reducible rfl
                                rotate_left
                                · simp only [Act.put, List.setIfInBounds_toArray, List.set_cons_zero, List.set_cons_succ, i64_w, i32_w]
                                  rfl
                                refine pure_ (i := 9) (N := some 76) (v := ?_) (a' := ?_) #[true, true, true, true, true, true, true, true, true, true, false, false, false, false] rfl rfl (any_of HT_.out (by kernel_rfl)) (fun _ _ _ h => h) (Or.inl ⟨by rfl, ?_⟩) ?_ ?_
                                rotate_left
                                · intro w'
                                  go_simp
                                  with_reducible rfl
                                rotate_left
                                · simp only [Act.put, List.setIfInBounds_toArray, List.set_cons_zero, List.set_cons_succ, i64_w, i32_w]
                                  rfl
                                refine take_ (i := 10) (N := some 77) (v := ?_) (a' := ?_) #[true, true, true, true, true, true, true, true, true, true, true, false, false, false] rfl rfl (take_ofW HT_.out HW_.out (by kernel_rfl)) (fun _ _ _ h => h) (Or.inl ⟨by rfl, ?_⟩) hHeld ?_ ?_
                                rotate_left
                                · rintro w' ⟨s0, s1, s2, s3, s4, s5, s6⟩
                                  go_simp
                                  with_reducible rfl
                                rotate_left
                                · simp only [Act.put, List.setIfInBounds_toArray, List.set_cons_zero, List.set_cons_succ, i64_w, i32_w]
                                  rfl
                                refine one_ (i := 11) (N := some 78) #[true, true, true, true, true, true, true, true, true, true, true, true, false, false] rfl rfl (one_of HT_.out (by kernel_rfl)) (by decide) (fun K hK => ?_)
                                refine goes_ Try.func42 (by kernel_rfl) rfl #[.agg #[.int .i64 ((rd_T102 l1_3 x10_21).f0), .int .i64 ((rd_T102 l1_3 x10_21).f1)]] (by rfl) rfl rfl (by (try simp only [List.map_toArray, List.map_cons, List.map_nil]); first | done | rfl | (simp only [List.length_drop, List.length_take]; rfl)) ?_
                                with_reducible refine (gleanerref1_Pushes.calls kj21 ((rd_T102 l1_3 x10_21).f0) ((rd_T102 l1_3 x10_21).f1) t277 _ A38.out).mono ?_
                                rintro e w45 ⟨rfl, hb⟩
                                have HS4_ := (hb.cell (World.block_lt_of_cell? _ _ (hHeld.2.2.2.2.1))).trans (hHeld.2.2.2.2.1)
                                refine ⟨_, rfl, ?_⟩
                                have n0_ := Aside0.mk (Kd.R_below (by (with_reducible repeat (first | apply Kd.R_alloc | apply Kd.R_drewN | apply Kd.R_drew)); exact HO_7.out) hb)
                                have n1_ := Aside0.mk (Kd.R_below (by (with_reducible repeat (first | apply Kd.R_alloc | apply Kd.R_drewN | apply Kd.R_drew)); exact HO_8.out) hb)
                                have n2_ := Aside0.mk (blk_below (g := gb261) (o := .cells #[.slice A0_0 l0_0.length c0_0, .int .i64 a0_1, .slice A0_2 l0_2.length c0_2, .int .i64 a0_3, .int .i64 a0_4] 25 (0, 0)) (by (with_reducible repeat (first | refine blk_drewN ?_ _ | refine blk_drew ?_ | refine blk_alloc ?_ _)); exact BK261.out) hb)
                                have n3_ := Aside0.mk (blk_below (g := gb262) (o := .cells #[.string a1_0, .int .i64 a1_1, .int .i64 a1_2, .slice (some ad273) l1_3.length c1_3] 50 (0, 0)) (by (with_reducible repeat (first | refine blk_drewN ?_ _ | refine blk_drew ?_ | refine blk_alloc ?_ _)); exact BK262.out) hb)
                                have n4_ := Aside0.mk (below_step (by repeat (first | (with_reducible first | exact HB.out | apply below_alloc | apply pw_below_drewN | apply below_drew1 | refine below_set ?_ GE261.out | refine below_set ?_ GE262.out) | exact HB.out)) hb)
                                clear HO_7
                                clear HO_8
                                clear BK261
                                clear BK262
                                clear HB
                                have HO_7 := n0_
                                have HO_8 := n1_
                                have BK261 := n2_
                                have BK262 := n3_
                                have HB := n4_
                                clear n0_ n1_ n2_ n3_ n4_
                                (try clear hb)
                                (try clear hb2)
                                (try clear hk)
                                (try clear hi)
                                refine hK.out _ _ ⟨(blk_cell BK262.out 0).trans rfl, (blk_cell BK262.out 1).trans rfl, (blk_cell BK262.out 2).trans rfl, (blk_cell BK262.out 3).trans rfl, HS4_, ((HB.out.cell (World.block_lt_of_cell? w _ hw276_0)).trans hw276_0), ((HB.out.cell (World.block_lt_of_cell? w _ hw276_1)).trans hw276_1)⟩ (fun hHeld => ?_)
                                clear hK K
                                refine norm_ (a' := ?_) ?_ ?_
                                rotate_left
                                · show Act.put _ (some 78) _ = _
                                  simp only [Act.put, List.setIfInBounds_toArray, List.set_cons_zero, List.set_cons_succ, i64_w, i32_w]
                                  rfl
                                refine pure_ (i := 12) (N := some 79) (v := ?_) (a' := ?_) #[true, true, true, true, true, true, true, true, true, true, true, true, true, false] rfl rfl (any_of HT_.out (by kernel_rfl)) (fun _ _ _ h => h) (Or.inl ⟨by rfl, ?_⟩) ?_ ?_
                                rotate_left
                                · intro w'
                                  go_simp
                                  with_reducible rfl
                                rotate_left
                                · simp only [Act.put, List.setIfInBounds_toArray, List.set_cons_zero, List.set_cons_succ, i64_w, i32_w]
                                  rfl
                                refine pure_ (i := 13) (N := some 12) (v := ?_) (a' := ?_) #[true, true, true, true, true, true, true, true, true, true, true, true, true, true] rfl rfl (any_of HT_.out (by kernel_rfl)) (fun _ _ _ h => h) (Or.inl ⟨by rfl, ?_⟩) ?_ ?_
                                rotate_left
                                · intro w'
                                  go_simp
                                  with_reducible rfl
                                rotate_left
                                · simp only [Act.put, List.setIfInBounds_toArray, List.set_cons_zero, List.set_cons_succ, i64_w, i32_w]
                                  rfl
                                refine done_ (done_of HT_.out (by kernel_rfl)) ?_
                                go_upto_region 15 with (fail)
                                go_cut [93] (fun v93 wc => ∃ (kq : Nat) (x93_38 : Bool), v93 = .bool x93_38 ∧ Aside0 (gleanerref4_depths.j4 kq x7_2 y272 x10_21 (wrap64 ((wrap64 ((rd x7_2 x10_21) - t274)) + t277)) x93_38 l0_0 a0_1 l0_2 a0_3 a0_4 a1_0 a1_1 a1_2 l1_3 = some (r1, r2, r3)) ∧ Aside0 (kq ≤ kj21) ∧ Aside0 (Kd.R (Kd.int .i64) 3 wc w.heap.size (fun _ => True) (.slice (some ad275) x7_2.length co21) x7_2) ∧ Aside0 (Kd.R Kd.bool 4 wc w.heap.size (fun _ => True) (.slice (some ⟨go34, 0, none⟩) x8_2.length co34) y272) ∧ Aside0 (wc.heap[gb261]? = some (.cells #[(.slice A0_0 l0_0.length c0_0), .int .i64 a0_1, (.slice A0_2 l0_2.length c0_2), .int .i64 a0_3, .int .i64 a0_4] 25 (0, 0))) ∧ Aside0 (wc.heap[gb262]? = some (.cells #[.string a1_0, .int .i64 a1_1, .int .i64 a1_2, (.slice (some ad273) l1_3.length c1_3)] 50 (0, 0))) ∧ Aside0 (Below w.heap.size w wc))
                                case first =>
                                  have H := HC39.out
                                  clear HC39
                                  by_cases c46 : (rd x7_2 x10_21) < t274
                                  · rw [if_pos c46] at H
                                    have c46b0 : decide ((rd x7_2 x10_21) < t274) = true := decide_eq_true c46
                                    clear c46
                                    (first | rw [c46b0] | (simp only [i64_w, i32_w]; rw [c46b0]) | skip)
                                    have H' := Aside0.mk H
                                    clear H
                                    have p278 : 0 ≤ (x10_21 : Int) := of_decide_eq_true (by first | (with_reducible assumption) | assumption)
                                    have q278 : x10_21 < (x7_2.length : Int) := of_decide_eq_true (by first | (with_reducible assumption) | assumption)
                                    obtain ⟨ad278, e278, hx278_0⟩ := Kd.at_int (Kd.R_reads' HO_7.out).2.2 x10_21 p278 q278
                                    obtain rfl : ad275 = ad278 := (by injection e278)
                                    replace p278 := eq_true p278
                                    replace q278 := eq_true q278
                                    go_wp2
                                    go_meet
                                    case rel => exact ⟨_, (true), (by first | rfl | (simp; done) | (simp [*]; done)), H', ⟨by have := HK1.out; have := HK2.out; have := HJ21.out; first | omega | exact Nat.le_refl _⟩, ⟨by (try simp only [hl7_2]); (with_reducible repeat (first | apply Kd.R_alloc | apply Kd.R_drewN | apply Kd.R_drew)); exact HO_7.out⟩, ⟨by (try simp only [hl7_2]); (with_reducible repeat (first | apply Kd.R_alloc | apply Kd.R_drewN | apply Kd.R_drew)); exact HO_8.out⟩, ⟨by (try simp only [hl7_2]); (with_reducible repeat (first | refine blk_drewN ?_ _ | refine blk_drew ?_ | refine blk_alloc ?_ _)); exact BK261.out⟩, ⟨by (try simp only [hl7_2]); (with_reducible repeat (first | refine blk_drewN ?_ _ | refine blk_drew ?_ | refine blk_alloc ?_ _)); exact BK262.out⟩, ⟨by repeat (first | (with_reducible first | exact HB.out | apply below_alloc | apply pw_below_drewN | apply below_drew1 | refine below_set ?_ GE261.out | refine below_set ?_ GE262.out) | exact HB.out)⟩⟩
                                  · rw [if_neg c46] at H
                                    have c46b0 : decide ((rd x7_2 x10_21) < t274) = false := decide_eq_false c46
                                    clear c46
                                    (first | rw [c46b0] | (simp only [i64_w, i32_w]; rw [c46b0]) | skip)
                                    by_cases c47 : t274 < (-32)
                                    · rw [if_pos c47] at H
                                      have c47b0 : decide (t274 < (-32)) = true := decide_eq_true c47
                                      clear c47
                                      have H' := Aside0.mk H
                                      clear H
                                      have p278 : 0 ≤ (x10_21 : Int) := of_decide_eq_true (by first | (with_reducible assumption) | assumption)
                                      have q278 : x10_21 < (x7_2.length : Int) := of_decide_eq_true (by first | (with_reducible assumption) | assumption)
                                      obtain ⟨ad278, e278, hx278_0⟩ := Kd.at_int (Kd.R_reads' HO_7.out).2.2 x10_21 p278 q278
                                      obtain rfl : ad275 = ad278 := (by injection e278)
                                      replace p278 := eq_true p278
                                      replace q278 := eq_true q278
                                      go_wp2
                                      go_meet
                                      case rel => exact ⟨_, (true), (by first | rfl | (simp; done) | (simp [*]; done)), H', ⟨by have := HK1.out; have := HK2.out; have := HJ21.out; first | omega | exact Nat.le_refl _⟩, ⟨by (try simp only [hl7_2]); (with_reducible repeat (first | apply Kd.R_alloc | apply Kd.R_drewN | apply Kd.R_drew)); exact HO_7.out⟩, ⟨by (try simp only [hl7_2]); (with_reducible repeat (first | apply Kd.R_alloc | apply Kd.R_drewN | apply Kd.R_drew)); exact HO_8.out⟩, ⟨by (try simp only [hl7_2]); (with_reducible repeat (first | refine blk_drewN ?_ _ | refine blk_drew ?_ | refine blk_alloc ?_ _)); exact BK261.out⟩, ⟨by (try simp only [hl7_2]); (with_reducible repeat (first | refine blk_drewN ?_ _ | refine blk_drew ?_ | refine blk_alloc ?_ _)); exact BK262.out⟩, ⟨by repeat (first | (with_reducible first | exact HB.out | apply below_alloc | apply pw_below_drewN | apply below_drew1 | refine below_set ?_ GE261.out | refine below_set ?_ GE262.out) | exact HB.out)⟩⟩
                                    · rw [if_neg c47] at H
                                      have c47b0 : decide (t274 < (-32)) = false := decide_eq_false c47
                                      clear c47
                                      have H' := Aside0.mk H
                                      clear H
                                      have p278 : 0 ≤ (x10_21 : Int) := of_decide_eq_true (by first | (with_reducible assumption) | assumption)
                                      have q278 : x10_21 < (x7_2.length : Int) := of_decide_eq_true (by first | (with_reducible assumption) | assumption)
                                      obtain ⟨ad278, e278, hx278_0⟩ := Kd.at_int (Kd.R_reads' HO_7.out).2.2 x10_21 p278 q278
                                      obtain rfl : ad275 = ad278 := (by injection e278)
                                      replace p278 := eq_true p278
                                      replace q278 := eq_true q278
                                      go_wp2
                                      go_meet
                                      case rel => exact ⟨_, (decide ((wrap64 ((wrap64 ((rd x7_2 x10_21) - t274)) + t277)) > 32)), (by first | rfl | (simp; done) | (simp [*]; done)), H', ⟨by have := HK1.out; have := HK2.out; have := HJ21.out; first | omega | exact Nat.le_refl _⟩, ⟨by (try simp only [hl7_2]); (with_reducible repeat (first | apply Kd.R_alloc | apply Kd.R_drewN | apply Kd.R_drew)); exact HO_7.out⟩, ⟨by (try simp only [hl7_2]); (with_reducible repeat (first | apply Kd.R_alloc | apply Kd.R_drewN | apply Kd.R_drew)); exact HO_8.out⟩, ⟨by (try simp only [hl7_2]); (with_reducible repeat (first | refine blk_drewN ?_ _ | refine blk_drew ?_ | refine blk_alloc ?_ _)); exact BK261.out⟩, ⟨by (try simp only [hl7_2]); (with_reducible repeat (first | refine blk_drewN ?_ _ | refine blk_drew ?_ | refine blk_alloc ?_ _)); exact BK262.out⟩, ⟨by repeat (first | (with_reducible first | exact HB.out | apply below_alloc | apply pw_below_drewN | apply below_drew1 | refine below_set ?_ GE261.out | refine below_set ?_ GE262.out) | exact HB.out)⟩⟩
                                case rest =>
                                  clear HC39
                                  try clear c1
                                  try clear p1
                                  try clear q1
                                  try clear hx1
                                  try clear c2
                                  try clear p2
                                  try clear q2
                                  try clear hx2
                                  try clear c3
                                  try clear c3b0
                                  try clear c3b1
                                  try clear p3
                                  try clear q3
                                  try clear hx3
                                  try clear hf3
                                  try clear c4
                                  try clear c4b0
                                  try clear c4b1
                                  try clear c5
                                  try clear c5b0
                                  try clear c5b1
                                  try clear p6
                                  try clear c8
                                  try clear c15
                                  try clear c15b0
                                  try clear c16
                                  try clear c16b0
                                  try clear p17
                                  try clear q17
                                  try clear hx17
                                  try clear hf17
                                  try clear c23
                                  try clear c23b0
                                  try clear c24
                                  try clear c24b0
                                  try clear c25
                                  try clear c25b0
                                  try clear c26
                                  try clear c26b0
                                  try clear p27
                                  try clear q27
                                  try clear hx27
                                  try clear c28
                                  try clear c31
                                  try clear c31b0
                                  try clear c31b1
                                  try clear c32
                                  try clear c32b0
                                  try clear c33
                                  try clear c33b0
                                  try clear p34
                                  try clear q34
                                  try clear hx34
                                  try clear hf34
                                  try clear c35
                                  try clear c35b0
                                  try clear c37
                                  try clear c37b0
                                  try clear c41
                                  try clear c42
                                  try clear c46
                                  try clear c46b0
                                  try clear c47
                                  try clear c47b0
                                  try clear hcz12_0
                                  try clear hcz12_1
                                  try clear hcz12_2
                                  try clear hcz12_3
                                  try clear hcz9_0
                                  try clear hcz9_1
                                  try clear hcz9_2
                                  try clear hcz9_3
                                  try clear hfz12_0
                                  try clear hfz12_1
                                  try clear hfz12_2
                                  try clear hfz12_3
                                  try clear hfz9_0
                                  try clear hfz9_1
                                  try clear hfz9_2
                                  try clear hfz9_3
                                  try clear hx17_0
                                  try clear hx270_0
                                  try clear hx271_0
                                  try clear hx273_0
                                  try clear hx273_1
                                  try clear hx275_0
                                  try clear hx276_0
                                  try clear hx276_1
                                  try clear hx278_0
                                  try clear hx34_0
                                  try clear p1
                                  try clear p17
                                  try clear p2
                                  try clear p27
                                  try clear p270
                                  try clear p271
                                  try clear p273
                                  try clear p275
                                  try clear p276
                                  try clear p278
                                  try clear p34
                                  try clear p6
                                  try clear q1
                                  try clear q17
                                  try clear q2
                                  try clear q27
                                  try clear q270
                                  try clear q271
                                  try clear q273
                                  try clear q275
                                  try clear q276
                                  try clear q278
                                  try clear q34
                                  obtain ⟨kq, x93_38, rfl, HA, HJ38, HO_7, HO_8, BK261, BK262, HB⟩ := hcut
                                  have hl8_38 := (Kd.R_reads' HO_8.out).1
                                  rw [hl8_38] at HO_8
                                  (try simp only [hl8_38])
                                  (try simp only [hl8_38] at BK261)
                                  (try simp only [hl8_38] at BK262)
                                  (try simp only [hl8_38] at HO_7)
                                  cases kq with
                                  | zero => exact absurd HA.out (by simp [gleanerref4_depths.j4])
                                  | succ kj38 =>
                                    have H := HA.out
                                    clear HA
                                    simp only [gleanerref4_depths.j4] at H
                                    by_cases c48 : x93_38 = true
                                    · subst c48
                                      have H1 : (some (([] : List Int), x10_21, 12)) = some (r1, r2, r3) := by rw [if_pos rfl] at H; exact H
                                      clear H
                                      have H := H1
                                      clear H1
                                      simp only [Option.some.injEq, Prod.mk.injEq] at H
                                      obtain ⟨rfl, rfl, rfl⟩ := H
                                      go_wp2
                                      go_ret3
                                      exact ⟨_, by first | rfl | (simp [errW_none, errW_some] <;> rfl) | (simp [*, errW_none, errW_some] <;> rfl), by first | exact Kd.R_nil _ _ _ _ _ | exact Kd.N_nil _ _ _ _ _ | exact Kd.V_nil _ _ _ _ _ | exact Kd.Q_nil _ _ _ _ _ | exact Kd.S_nil _ _ _ _ _, by repeat (first | (with_reducible first | exact HB.out | apply below_alloc | apply pw_below_drewN | apply below_drew1 | refine below_set ?_ GE261.out | refine below_set ?_ GE262.out) | exact HB.out)⟩
                                    · replace c48 := Bool.eq_false_iff.mpr c48
                                      subst c48
                                      have H1 : (if 0 ≤ x10_21 then (if x10_21 < (l1_3.length : Int) then ((gleanerref1_Next.f kj38 ((rd_T102 l1_3 x10_21).f0) ((rd_T102 l1_3 x10_21).f1) x10_21).bind fun t280 => (gleanerref4_depths.l3 kj38 x7_2 y272 x10_21 (wrap64 ((wrap64 ((rd x7_2 x10_21) - t274)) + t277)) t280 0 l0_0 a0_1 l0_2 a0_3 a0_4 a1_0 a1_1 a1_2 l1_3)) else (none)) else (none)) = some (r1, r2, r3) := by rw [if_neg (show ¬ (false = true) by decide)] at H; exact H
                                      clear H
                                      have H := H1
                                      clear H1
                                      by_cases c49 : 0 ≤ x10_21
                                      · rw [if_pos c49] at H
                                        have c49b0 : decide (0 ≤ x10_21) = true := decide_eq_true c49
                                        clear c49
                                        by_cases c50 : x10_21 < (l1_3.length : Int)
                                        · rw [if_pos c50] at H
                                          have c50b0 : decide (x10_21 < (l1_3.length : Int)) = true := decide_eq_true c50
                                          clear c50
                                          replace H := Option.bind_eq_some_iff.mp H
                                          obtain ⟨t280, A510, H⟩ := H
                                          replace H : (gleanerref4_depths.l3 kj38 x7_2 y272 x10_21 (wrap64 ((wrap64 ((rd x7_2 x10_21) - t274)) + t277)) t280 0 l0_0 a0_1 l0_2 a0_3 a0_4 a1_0 a1_1 a1_2 l1_3) = some (r1, r2, r3) := H
                                          have A51 := Aside0.mk A510
                                          clear A510
                                          have H' := Aside0.mk H
                                          clear H
                                          have hnb52 := NB262_261.out
                                          have hnc52 := NB261_262.out
                                          have hcz53_0 : wc.cell? ⟨gb262, 0, none⟩ = some (.string a1_0) := (blk_cell BK262.out 0).trans rfl
                                          have hcz53_1 : wc.cell? ⟨gb262, 1, none⟩ = some (.int .i64 a1_1) := (blk_cell BK262.out 1).trans rfl
                                          have hcz53_2 : wc.cell? ⟨gb262, 2, none⟩ = some (.int .i64 a1_2) := (blk_cell BK262.out 2).trans rfl
                                          have hcz53_3 : wc.cell? ⟨gb262, 3, none⟩ = some (.slice (some ad273) l1_3.length c1_3) := (blk_cell BK262.out 3).trans rfl
                                          have hfz53_0 := blk_frozen BK262.out 0
                                          have hfz53_1 := blk_frozen BK262.out 1
                                          have hfz53_2 := blk_frozen BK262.out 2
                                          have hfz53_3 := blk_frozen BK262.out 3
                                          have p279 : 0 ≤ (x10_21 : Int) := of_decide_eq_true (by first | (with_reducible assumption) | assumption)
                                          have q279 : x10_21 < (l1_3.length : Int) := of_decide_eq_true (by first | (with_reducible assumption) | assumption)
                                          obtain ⟨ad279, e279, hx279_0, hx279_1⟩ := at_T102 HR1_3.out x10_21 p279 q279
                                          obtain rfl : ad273 = ad279 := (by injection e279)
                                          replace hx279_0 := (HB.out.cell (World.block_lt_of_cell? w _ hx279_0)).trans hx279_0
                                          replace hx279_1 := (HB.out.cell (World.block_lt_of_cell? w _ hx279_1)).trans hx279_1
                                          replace p279 := eq_true p279
                                          replace q279 := eq_true q279
                                          go_wp2_with (first | ((with_reducible refine gate_callee (f := 43) rfl ?_); refine goesL_ (some 101) rfl rfl Try.func43 (by kernel_rfl) rfl #[.agg #[.int .i64 ((rd_T102 l1_3 x10_21).f0), .int .i64 ((rd_T102 l1_3 x10_21).f1)], .int .i64 x10_21] rfl (by (try simp only [List.map_toArray, List.map_cons, List.map_nil]); first | done | rfl | (simp only [List.length_drop, List.length_take]; rfl)) ?_; (with_reducible refine (gleanerref1_Next.calls kj38 ((rd_T102 l1_3 x10_21).f0) ((rd_T102 l1_3 x10_21).f1) x10_21 t280 _ A51.out).mono ?_); rintro e w54 ⟨v281, rfl, ho0, hb⟩; refine ⟨_, rfl, ?_⟩; have n0_ := Aside0.mk (Kd.R_elder' (by (with_reducible repeat (first | apply Kd.R_alloc | apply Kd.R_drewN | apply Kd.R_drew)); exact HO_7.out) (Kd.R_base ho0) hb); have n1_ := Aside0.mk (Kd.R_below (by (with_reducible repeat (first | apply Kd.R_alloc | apply Kd.R_drewN | apply Kd.R_drew)); exact HO_8.out) hb); have n2_ := Aside0.mk (Kd.R_lower (Kd.R_new' ho0 (Kd.R_lt (by (with_reducible repeat (first | apply Kd.R_alloc | apply Kd.R_drewN | apply Kd.R_drew)); exact HO_7.out))) (below_size (by repeat (first | (with_reducible first | exact HB.out | apply below_alloc | apply pw_below_drewN | apply below_drew1 | refine below_set ?_ GE261.out | refine below_set ?_ GE262.out) | exact HB.out)))); have n3_ := Aside0.mk (blk_below (g := gb261) (o := .cells #[.slice A0_0 l0_0.length c0_0, .int .i64 a0_1, .slice A0_2 l0_2.length c0_2, .int .i64 a0_3, .int .i64 a0_4] 25 (0, 0)) (by (with_reducible repeat (first | refine blk_drewN ?_ _ | refine blk_drew ?_ | refine blk_alloc ?_ _)); exact BK261.out) hb); have n4_ := Aside0.mk (blk_below (g := gb262) (o := .cells #[.string a1_0, .int .i64 a1_1, .int .i64 a1_2, .slice (some ad273) l1_3.length c1_3] 50 (0, 0)) (by (with_reducible repeat (first | refine blk_drewN ?_ _ | refine blk_drew ?_ | refine blk_alloc ?_ _)); exact BK262.out) hb); have n5_ := Aside0.mk (below_step (by repeat (first | (with_reducible first | exact HB.out | apply below_alloc | apply pw_below_drewN | apply below_drew1 | refine below_set ?_ GE261.out | refine below_set ?_ GE262.out) | exact HB.out)) hb); clear HO_7; clear HO_8; clear BK261; clear BK262; clear HB; have HO_7 := n0_; have HO_8 := n1_; have HO282 := n2_; have BK261 := n3_; have BK262 := n4_; have HB := n5_; clear n0_ n1_ n2_ n3_ n4_ n5_; (try clear hb); (try clear hb2); (try clear hk); (try clear hi); (try clear ho0)))
                                          go_loopg [14] kj38 (fun kq v14 w' => ∃ (x7_5 : List Int) (x14_5 : Int), v14 = .int .i64 x14_5 ∧ Aside0 (gleanerref4_depths.l3 kq x7_5 y272 x10_21 (wrap64 ((wrap64 ((rd x7_2 x10_21) - t274)) + t277)) t280 x14_5 l0_0 a0_1 l0_2 a0_3 a0_4 a1_0 a1_1 a1_2 l1_3 = some (r1, r2, r3)) ∧ Aside0 (kq ≤ kj38) ∧ Aside0 (Kd.R (Kd.int .i64) 3 w' w.heap.size (fun k_ => some k_ ≠ (v281 : Value).ownBlock) (.slice (some ad275) x7_2.length co21) x7_5) ∧ Aside0 (Kd.R Kd.bool 4 w' w.heap.size (fun _ => True) (.slice (some ⟨go34, 0, none⟩) y272.length co34) y272) ∧ Aside0 (Kd.R (Kd.int .i64) 3 w' w.heap.size (fun k_ => some k_ ≠ ((.slice (some ad275) x7_2.length co21) : Value).ownBlock) v281 t280) ∧ Aside0 (w'.heap[gb261]? = some (.cells #[(.slice A0_0 l0_0.length c0_0), .int .i64 a0_1, (.slice A0_2 l0_2.length c0_2), .int .i64 a0_3, .int .i64 a0_4] 25 (0, 0))) ∧ Aside0 (w'.heap[gb262]? = some (.cells #[.string a1_0, .int .i64 a1_1, .int .i64 a1_2, (.slice (some ad273) l1_3.length c1_3)] 50 (0, 0))) ∧ Aside0 (Below w.heap.size w w'))
                                          case atStart => exact ⟨(x7_2), (0), (by first | rfl | (simp; done) | (simp [*]; done)), H', ⟨Nat.le_refl _⟩, ⟨by (try simp only [hl7_2]); (try simp only [hl8_38]); (with_reducible repeat (first | apply Kd.R_alloc | apply Kd.R_drewN | apply Kd.R_drew)); exact Kd.R_mono HO_7.out (fun _ hk => hk.2)⟩, ⟨by (try simp only [hl7_2]); (try simp only [hl8_38]); (with_reducible repeat (first | apply Kd.R_alloc | apply Kd.R_drewN | apply Kd.R_drew)); exact HO_8.out⟩, ⟨by (try simp only [hl7_2]); (try simp only [hl8_38]); (with_reducible repeat (first | apply Kd.R_alloc | apply Kd.R_drewN | apply Kd.R_drew)); exact Kd.R_mono HO282.out (fun _ hk => hk.2)⟩, ⟨by (try simp only [hl7_2]); (try simp only [hl8_38]); (with_reducible repeat (first | refine blk_drewN ?_ _ | refine blk_drew ?_ | refine blk_alloc ?_ _)); exact BK261.out⟩, ⟨by (try simp only [hl7_2]); (try simp only [hl8_38]); (with_reducible repeat (first | refine blk_drewN ?_ _ | refine blk_drew ?_ | refine blk_alloc ?_ _)); exact BK262.out⟩, ⟨by repeat (first | (with_reducible first | exact HB.out | apply below_alloc | apply pw_below_drewN | apply below_drew1 | refine below_set ?_ GE261.out | refine below_set ?_ GE262.out) | exact HB.out)⟩⟩
                                          case round =>
                                            clear H'
                                            try clear c1
                                            try clear p1
                                            try clear q1
                                            try clear hx1
                                            try clear c2
                                            try clear p2
                                            try clear q2
                                            try clear hx2
                                            try clear c3
                                            try clear c3b0
                                            try clear c3b1
                                            try clear p3
                                            try clear q3
                                            try clear hx3
                                            try clear hf3
                                            try clear c4
                                            try clear c4b0
                                            try clear c4b1
                                            try clear c5
                                            try clear c5b0
                                            try clear c5b1
                                            try clear p6
                                            try clear c8
                                            try clear c15
                                            try clear c15b0
                                            try clear c16
                                            try clear c16b0
                                            try clear p17
                                            try clear q17
                                            try clear hx17
                                            try clear hf17
                                            try clear c23
                                            try clear c23b0
                                            try clear c24
                                            try clear c24b0
                                            try clear c25
                                            try clear c25b0
                                            try clear c26
                                            try clear c26b0
                                            try clear p27
                                            try clear q27
                                            try clear hx27
                                            try clear c28
                                            try clear c31
                                            try clear c31b0
                                            try clear c31b1
                                            try clear c32
                                            try clear c32b0
                                            try clear c33
                                            try clear c33b0
                                            try clear p34
                                            try clear q34
                                            try clear hx34
                                            try clear hf34
                                            try clear c35
                                            try clear c35b0
                                            try clear c37
                                            try clear c37b0
                                            try clear c41
                                            try clear c42
                                            try clear c43
                                            try clear c46
                                            try clear c46b0
                                            try clear c47
                                            try clear c47b0
                                            try clear c48
                                            try clear c49
                                            try clear c49b0
                                            try clear c50
                                            try clear c50b0
                                            try clear c52
                                            try clear hcz12_0
                                            try clear hcz12_1
                                            try clear hcz12_2
                                            try clear hcz12_3
                                            try clear hcz53_0
                                            try clear hcz53_1
                                            try clear hcz53_2
                                            try clear hcz53_3
                                            try clear hcz9_0
                                            try clear hcz9_1
                                            try clear hcz9_2
                                            try clear hcz9_3
                                            try clear hfz12_0
                                            try clear hfz12_1
                                            try clear hfz12_2
                                            try clear hfz12_3
                                            try clear hfz53_0
                                            try clear hfz53_1
                                            try clear hfz53_2
                                            try clear hfz53_3
                                            try clear hfz9_0
                                            try clear hfz9_1
                                            try clear hfz9_2
                                            try clear hfz9_3
                                            try clear hx17_0
                                            try clear hx270_0
                                            try clear hx271_0
                                            try clear hx273_0
                                            try clear hx273_1
                                            try clear hx275_0
                                            try clear hx276_0
                                            try clear hx276_1
                                            try clear hx278_0
                                            try clear hx279_0
                                            try clear hx279_1
                                            try clear hx34_0
                                            try clear p1
                                            try clear p17
                                            try clear p2
                                            try clear p27
                                            try clear p270
                                            try clear p271
                                            try clear p273
                                            try clear p275
                                            try clear p276
                                            try clear p278
                                            try clear p279
                                            try clear p3
                                            try clear p34
                                            try clear p6
                                            try clear q1
                                            try clear q17
                                            try clear q2
                                            try clear q27
                                            try clear q270
                                            try clear q271
                                            try clear q273
                                            try clear q275
                                            try clear q276
                                            try clear q278
                                            try clear q279
                                            try clear q3
                                            try clear q34
                                            obtain ⟨x7_5, x14_5, rfl, HA, HK5, HO_7, HO_8, HO_13, BK261, BK262, HB⟩ := hrel
                                            have hl7_5 := (Kd.R_reads' HO_7.out).1
                                            rw [hl7_5] at HO_7
                                            (try simp only [hl7_5])
                                            (try simp only [hl7_5] at BK261)
                                            (try simp only [hl7_5] at BK262)
                                            (try simp only [hl7_5] at HO_8)
                                            (try simp only [hl7_5] at HO_13)
                                            cases gk with
                                            | zero => exact absurd HA.out (by simp [gleanerref4_depths.l3])
                                            | succ k5 =>
                                              have H := HA.out
                                              clear HA
                                              simp only [gleanerref4_depths.l3] at H
                                              by_cases c55 : x14_5 < (t280.length : Int)
                                              · rw [if_pos c55] at H
                                                have c55b0 : decide (x14_5 < (t280.length : Int)) = true := decide_eq_true c55
                                                clear c55
                                                by_cases c56 : 0 ≤ x14_5
                                                · rw [if_pos c56] at H
                                                  have c56b0 : decide (0 ≤ x14_5) = true := decide_eq_true c56
                                                  clear c56
                                                  by_cases c57 : (rd t280 x14_5) ≥ (x7_5.length : Int)
                                                  · rw [if_pos c57] at H
                                                    have c57b0 : decide ((x7_5.length : Int) ≤ (rd t280 x14_5)) = true := decide_eq_true c57
                                                    clear c57
                                                    simp only [Option.some.injEq, Prod.mk.injEq] at H
                                                    obtain ⟨rfl, rfl, rfl⟩ := H
                                                    obtain ⟨Ao58, co58, eo58⟩ := Kd.R_slice HO_13.out
                                                    subst eo58
                                                    have p283 : 0 ≤ (x14_5 : Int) := of_decide_eq_true (by first | (with_reducible assumption) | assumption)
                                                    have q283 : x14_5 < (t280.length : Int) := of_decide_eq_true (by first | (with_reducible assumption) | assumption)
                                                    obtain ⟨ad283, e283, hx283_0⟩ := Kd.at_int (Kd.R_reads' HO_13.out).2.2 x14_5 p283 q283
                                                    cases e283
                                                    replace p283 := eq_true p283
                                                    replace q283 := eq_true q283
                                                    go_wp2
                                                    go_ret3
                                                    exact ⟨_, by first | rfl | (simp [errW_none, errW_some] <;> rfl) | (simp [*, errW_none, errW_some] <;> rfl), by first | exact Kd.R_nil _ _ _ _ _ | exact Kd.N_nil _ _ _ _ _ | exact Kd.V_nil _ _ _ _ _ | exact Kd.Q_nil _ _ _ _ _ | exact Kd.S_nil _ _ _ _ _, by repeat (first | (with_reducible first | exact HB.out | apply below_alloc | apply pw_below_drewN | apply below_drew1 | refine below_set ?_ GE261.out | refine below_set ?_ GE262.out) | exact HB.out)⟩
                                                  · rw [if_neg c57] at H
                                                    have c57b0 : decide ((x7_5.length : Int) ≤ (rd t280 x14_5)) = false := decide_eq_false c57
                                                    clear c57
                                                    by_cases c59 : 0 ≤ (rd t280 x14_5)
                                                    · rw [if_pos c59] at H
                                                      have c59b0 : decide (0 ≤ (rd t280 x14_5)) = true := decide_eq_true c59
                                                      clear c59
                                                      by_cases c60 : (rd t280 x14_5) < (x7_5.length : Int)
                                                      · rw [if_pos c60] at H
                                                        have c60b0 : decide ((rd t280 x14_5) < (x7_5.length : Int)) = true := decide_eq_true c60
                                                        clear c60
                                                        by_cases c61 : (rd x7_5 (rd t280 x14_5)) ≥ 0
                                                        · rw [if_pos c61] at H
                                                          have c61b0 : decide (0 ≤ (rd x7_5 (rd t280 x14_5))) = true := decide_eq_true c61
                                                          clear c61
                                                          by_cases c62 : (rd x7_5 (rd t280 x14_5)) = (wrap64 ((wrap64 ((rd x7_2 x10_21) - t274)) + t277))
                                                          · rw [if_pos c62] at H
                                                            have c62b0 : ((rd x7_5 (rd t280 x14_5)) == (wrap64 ((wrap64 ((rd x7_2 x10_21) - t274)) + t277))) = true := beq_iff_eq.mpr c62
                                                            have c62b1 : ((rd x7_5 (rd t280 x14_5)) != (wrap64 ((wrap64 ((rd x7_2 x10_21) - t274)) + t277))) = false := bne_eq_false_iff_eq.mpr c62
                                                            clear c62
                                                            obtain ⟨y289, hy289⟩ : ∃ y_ : List Int, y_ = (x7_5.set ((rd t280 x14_5) : Int).toNat (wrap64 ((wrap64 ((rd x7_2 x10_21) - t274)) + t277))) := ⟨_, rfl⟩
                                                            replace H : (gleanerref4_depths.l3 k5 y289 y272 x10_21 (wrap64 ((wrap64 ((rd x7_2 x10_21) - t274)) + t277)) t280 (wrap64 (x14_5 + 1)) l0_0 a0_1 l0_2 a0_3 a0_4 a1_0 a1_1 a1_2 l1_3) = some (r1, r2, r3) := by first | (rw [hy289]; with_reducible exact H) | (have H2_ := (Option.bind_some _ _).symm.trans H; rw [hy289]; with_reducible exact H2_) | (have H2_ := (Option.bind_some _ _).symm.trans H; with_reducible exact H2_) | with_reducible exact H | (rw [hy289]; exact H) | exact H
                                                            have Ny289 := Aside0.mk hy289
                                                            clear hy289
                                                            have H' := Aside0.mk H
                                                            clear H
                                                            obtain ⟨Ao64, co64, eo64⟩ := Kd.R_slice HO_13.out
                                                            subst eo64
                                                            have p283 : 0 ≤ (x14_5 : Int) := of_decide_eq_true (by first | (with_reducible assumption) | assumption)
                                                            have q283 : x14_5 < (t280.length : Int) := of_decide_eq_true (by first | (with_reducible assumption) | assumption)
                                                            obtain ⟨ad283, e283, hx283_0⟩ := Kd.at_int (Kd.R_reads' HO_13.out).2.2 x14_5 p283 q283
                                                            cases e283
                                                            replace p283 := eq_true p283
                                                            replace q283 := eq_true q283
                                                            have p284 : 0 ≤ (x14_5 : Int) := of_decide_eq_true (by first | (with_reducible assumption) | assumption)
                                                            have q284 : x14_5 < (t280.length : Int) := of_decide_eq_true (by first | (with_reducible assumption) | assumption)
                                                            obtain ⟨ad284, e284, hx284_0⟩ := Kd.at_int (Kd.R_reads' HO_13.out).2.2 x14_5 p284 q284
                                                            obtain rfl : ad283 = ad284 := (by injection e284)
                                                            replace p284 := eq_true p284
                                                            replace q284 := eq_true q284
                                                            have p285 : 0 ≤ ((rd t280 x14_5) : Int) := of_decide_eq_true (by first | (with_reducible assumption) | assumption)
                                                            have q285 : (rd t280 x14_5) < (x7_5.length : Int) := of_decide_eq_true (by first | (with_reducible assumption) | assumption)
                                                            obtain ⟨ad285, e285, hx285_0⟩ := Kd.at_int (Kd.R_reads' HO_7.out).2.2 (rd t280 x14_5) p285 q285
                                                            obtain rfl : ad275 = ad285 := (by injection e285)
                                                            replace p285 := eq_true p285
                                                            replace q285 := eq_true q285
                                                            have p286 : 0 ≤ (x14_5 : Int) := of_decide_eq_true (by first | (with_reducible assumption) | assumption)
                                                            have q286 : x14_5 < (t280.length : Int) := of_decide_eq_true (by first | (with_reducible assumption) | assumption)
                                                            obtain ⟨ad286, e286, hx286_0⟩ := Kd.at_int (Kd.R_reads' HO_13.out).2.2 x14_5 p286 q286
                                                            obtain rfl : ad283 = ad286 := (by injection e286)
                                                            replace p286 := eq_true p286
                                                            replace q286 := eq_true q286
                                                            have p287 : 0 ≤ ((rd t280 x14_5) : Int) := of_decide_eq_true (by first | (with_reducible assumption) | assumption)
                                                            have q287 : (rd t280 x14_5) < (x7_5.length : Int) := of_decide_eq_true (by first | (with_reducible assumption) | assumption)
                                                            obtain ⟨ad287, e287, hx287_0⟩ := Kd.at_int (Kd.R_reads' HO_7.out).2.2 (rd t280 x14_5) p287 q287
                                                            obtain rfl : ad275 = ad287 := (by injection e287)
                                                            replace p287 := eq_true p287
                                                            replace q287 := eq_true q287
                                                            have p288 : 0 ≤ (x14_5 : Int) := of_decide_eq_true (by first | (with_reducible assumption) | assumption)
                                                            have q288 : x14_5 < (t280.length : Int) := of_decide_eq_true (by first | (with_reducible assumption) | assumption)
                                                            obtain ⟨ad288, e288, hx288_0⟩ := Kd.at_int (Kd.R_reads' HO_13.out).2.2 x14_5 p288 q288
                                                            obtain rfl : ad283 = ad288 := (by injection e288)
                                                            replace p288 := eq_true p288
                                                            replace q288 := eq_true q288
                                                            have p63 : 0 ≤ ((rd t280 x14_5) : Int) := of_decide_eq_true (by first | (with_reducible assumption) | assumption)
                                                            have q63 : ((rd t280 x14_5) : Int) < ((x7_5.length : Int) : Int) := of_decide_eq_true (by first | (with_reducible assumption) | assumption)
                                                            obtain ⟨go63, co63, eo63, gb63, gl63, cl63, HG63⟩ := Kd.R_form HO_7.out (by omega)
                                                            (first | cases eo63 | (injection eo63 with ea_ en_ ec_; (first | subst ea_ | (injection ea_ with ea_; subst ea_)); subst ec_; clear en_))
                                                            have GB63 := Aside0.mk gb63
                                                            have GG63 := Aside0.mk HG63
                                                            clear gb63 gl63 HG63
                                                            (first | simp only [add_plain] at hx275_0 | skip)
                                                            (first | simp only [add_plain] at hx278_0 | skip)
                                                            (first | simp only [add_plain] at hx285_0 | skip)
                                                            (first | simp only [add_plain] at hx287_0 | skip)
                                                            obtain ⟨hx63_0, hf63_0⟩ := Kd.R_celln 0 HO_7.out ((rd t280 x14_5) : Int) p63 q63
                                                            replace p63 := eq_true p63
                                                            replace q63 := eq_true q63
                                                            have HP65 := Kd.R_putg HO_7.out ((rd t280 x14_5) : Int) (wrap64 ((wrap64 ((rd x7_2 x10_21) - t274)) + t277))
                                                            go_wp2_with (first | ((with_reducible refine gate_store (t := 3) (p := 142) rfl ?_); refine store_event (t := 3) (p := 142) (v := ?vo_w66) (w1 := (wr.setCell ⟨go63, ((rd t280 x14_5) : Int).toNat, none⟩ (.int .i64 (wrap64 ((wrap64 ((rd x7_2 x10_21) - t274)) + t277))))) ?hg ?ho ?hn ?hr ?_; (case ho => rfl); (case hg => rfl); (case hn => rfl); (case hr => first | (go_simp; done) | (go_simp; rfl)); intro w66 hw; have hg : wr.grownBy w66 (some go63) := (by rw [hw]; exact HP65.2); have hp_ : Kd.R (Kd.int .i64) 3 w66 w.heap.size (fun k_ => some k_ ≠ (.slice (some ad283) t280.length co64 : Value).ownBlock) (.slice (some ⟨go63, 0, none⟩) x7_5.length co21) y289 := (by rw [hw, Ny289.out]; exact HP65.1); clear HP65; have n0_ := Aside0.mk (hp_); have n1_ := Aside0.mk (Kd.R_over' (v := (.slice (some ⟨go63, 0, none⟩) x7_5.length co21)) (by (with_reducible repeat (first | apply Kd.R_alloc | apply Kd.R_drewN | apply Kd.R_drew)); exact HO_8.out) (Kd.R_typed HO_7.out) (by decide) hg); have n2_ := Aside0.mk (Kd.R_after (v := (.slice (some ⟨go63, 0, none⟩) x7_5.length co21)) (v1 := (.slice (some ⟨go63, 0, none⟩) x7_5.length co21)) (ok := (fun _ => True)) (by (with_reducible repeat (first | apply Kd.R_alloc | apply Kd.R_drewN | apply Kd.R_drew)); exact Kd.R_mono HO_13.out (fun _ hk => ⟨trivial, hk⟩)) hg (.inl rfl)); have n3_ := Aside0.mk (blk_grown (g := gb261) (o := .cells #[.slice A0_0 l0_0.length c0_0, .int .i64 a0_1, .slice A0_2 l0_2.length c0_2, .int .i64 a0_3, .int .i64 a0_4] 25 (0, 0)) (by (with_reducible repeat (first | refine blk_drewN ?_ _ | refine blk_drew ?_ | refine blk_alloc ?_ _)); exact BK261.out) hg (Kd.R_ne HO_7.out BK261.out (by decide))); have n4_ := Aside0.mk (blk_grown (g := gb262) (o := .cells #[.string a1_0, .int .i64 a1_1, .int .i64 a1_2, .slice (some ad273) l1_3.length c1_3] 50 (0, 0)) (by (with_reducible repeat (first | refine blk_drewN ?_ _ | refine blk_drew ?_ | refine blk_alloc ?_ _)); exact BK262.out) hg (Kd.R_ne HO_7.out BK262.out (by decide))); have n5_ := Aside0.mk ((by rw [hw]; exact below_set (HB.out) GB63.out : Below w.heap.size w w66)); clear HO_7; clear HO_8; clear HO_13; clear BK261; clear BK262; clear HB; have HO_7 := n0_; have HO_8 := n1_; have HO_13 := n2_; have BK261 := n3_; have BK262 := n4_; have HB := n5_; clear n0_ n1_ n2_ n3_ n4_ n5_; clear hg hw hp_))
                                                            (try simp only [← hl7_5])
                                                            go_roundg k5
                                                            case measure => have := HK1.out; have := HK2.out; have := HJ21.out; have := HJ38.out; have := HK5.out; omega
                                                            case rel => exact ⟨(y289), (wrap64 (x14_5 + 1)), (by first | rfl | (simp; done) | (simp [*]; done)), H', ⟨by have := HK1.out; have := HK2.out; have := HJ21.out; have := HJ38.out; have := HK5.out; omega⟩, ⟨by (try simp only [hl7_2]); (try simp only [hl8_38]); (try simp only [hl7_5]); (with_reducible repeat (first | apply Kd.R_alloc | apply Kd.R_drewN | apply Kd.R_drew)); exact HO_7.out⟩, ⟨by (try simp only [hl7_2]); (try simp only [hl8_38]); (try simp only [hl7_5]); (with_reducible repeat (first | apply Kd.R_alloc | apply Kd.R_drewN | apply Kd.R_drew)); exact HO_8.out⟩, ⟨by (try simp only [hl7_2]); (try simp only [hl8_38]); (try simp only [hl7_5]); (with_reducible repeat (first | apply Kd.R_alloc | apply Kd.R_drewN | apply Kd.R_drew)); exact Kd.R_mono HO_13.out (fun _ hk => hk.2)⟩, ⟨by (try simp only [hl7_2]); (try simp only [hl8_38]); (try simp only [hl7_5]); (with_reducible repeat (first | refine blk_drewN ?_ _ | refine blk_drew ?_ | refine blk_alloc ?_ _)); exact BK261.out⟩, ⟨by (try simp only [hl7_2]); (try simp only [hl8_38]); (try simp only [hl7_5]); (with_reducible repeat (first | refine blk_drewN ?_ _ | refine blk_drew ?_ | refine blk_alloc ?_ _)); exact BK262.out⟩, ⟨by repeat (first | (with_reducible first | exact HB.out | apply below_alloc | apply pw_below_drewN | apply below_drew1 | refine below_set ?_ GE261.out | refine below_set ?_ GE262.out) | exact HB.out)⟩⟩
                                                          · rw [if_neg c62] at H
                                                            have c62b0 : ((rd x7_5 (rd t280 x14_5)) == (wrap64 ((wrap64 ((rd x7_2 x10_21) - t274)) + t277))) = false := beq_eq_false_iff_ne.mpr c62
                                                            have c62b1 : ((rd x7_5 (rd t280 x14_5)) != (wrap64 ((wrap64 ((rd x7_2 x10_21) - t274)) + t277))) = true := bne_iff_ne.mpr c62
                                                            simp only [Option.some.injEq, Prod.mk.injEq] at H
                                                            obtain ⟨rfl, rfl, rfl⟩ := H
                                                            obtain ⟨Ao67, co67, eo67⟩ := Kd.R_slice HO_13.out
                                                            subst eo67
                                                            have p283 : 0 ≤ (x14_5 : Int) := of_decide_eq_true (by first | (with_reducible assumption) | assumption)
                                                            have q283 : x14_5 < (t280.length : Int) := of_decide_eq_true (by first | (with_reducible assumption) | assumption)
                                                            obtain ⟨ad283, e283, hx283_0⟩ := Kd.at_int (Kd.R_reads' HO_13.out).2.2 x14_5 p283 q283
                                                            cases e283
                                                            replace p283 := eq_true p283
                                                            replace q283 := eq_true q283
                                                            have p284 : 0 ≤ (x14_5 : Int) := of_decide_eq_true (by first | (with_reducible assumption) | assumption)
                                                            have q284 : x14_5 < (t280.length : Int) := of_decide_eq_true (by first | (with_reducible assumption) | assumption)
                                                            obtain ⟨ad284, e284, hx284_0⟩ := Kd.at_int (Kd.R_reads' HO_13.out).2.2 x14_5 p284 q284
                                                            obtain rfl : ad283 = ad284 := (by injection e284)
                                                            replace p284 := eq_true p284
                                                            replace q284 := eq_true q284
                                                            have p285 : 0 ≤ ((rd t280 x14_5) : Int) := of_decide_eq_true (by first | (with_reducible assumption) | assumption)
                                                            have q285 : (rd t280 x14_5) < (x7_5.length : Int) := of_decide_eq_true (by first | (with_reducible assumption) | assumption)
                                                            obtain ⟨ad285, e285, hx285_0⟩ := Kd.at_int (Kd.R_reads' HO_7.out).2.2 (rd t280 x14_5) p285 q285
                                                            obtain rfl : ad275 = ad285 := (by injection e285)
                                                            replace p285 := eq_true p285
                                                            replace q285 := eq_true q285
                                                            have p286 : 0 ≤ (x14_5 : Int) := of_decide_eq_true (by first | (with_reducible assumption) | assumption)
                                                            have q286 : x14_5 < (t280.length : Int) := of_decide_eq_true (by first | (with_reducible assumption) | assumption)
                                                            obtain ⟨ad286, e286, hx286_0⟩ := Kd.at_int (Kd.R_reads' HO_13.out).2.2 x14_5 p286 q286
                                                            obtain rfl : ad283 = ad286 := (by injection e286)
                                                            replace p286 := eq_true p286
                                                            replace q286 := eq_true q286
                                                            have p287 : 0 ≤ ((rd t280 x14_5) : Int) := of_decide_eq_true (by first | (with_reducible assumption) | assumption)
                                                            have q287 : (rd t280 x14_5) < (x7_5.length : Int) := of_decide_eq_true (by first | (with_reducible assumption) | assumption)
                                                            obtain ⟨ad287, e287, hx287_0⟩ := Kd.at_int (Kd.R_reads' HO_7.out).2.2 (rd t280 x14_5) p287 q287
                                                            obtain rfl : ad275 = ad287 := (by injection e287)
                                                            replace p287 := eq_true p287
                                                            replace q287 := eq_true q287
                                                            go_wp2
                                                            go_ret3
                                                            exact ⟨_, by first | rfl | (simp [errW_none, errW_some] <;> rfl) | (simp [*, errW_none, errW_some] <;> rfl), by first | exact Kd.R_nil _ _ _ _ _ | exact Kd.N_nil _ _ _ _ _ | exact Kd.V_nil _ _ _ _ _ | exact Kd.Q_nil _ _ _ _ _ | exact Kd.S_nil _ _ _ _ _, by repeat (first | (with_reducible first | exact HB.out | apply below_alloc | apply pw_below_drewN | apply below_drew1 | refine below_set ?_ GE261.out | refine below_set ?_ GE262.out) | exact HB.out)⟩
                                                        · rw [if_neg c61] at H
                                                          have c61b0 : decide (0 ≤ (rd x7_5 (rd t280 x14_5))) = false := decide_eq_false c61
                                                          clear c61
                                                          obtain ⟨y291, hy291⟩ : ∃ y_ : List Int, y_ = (x7_5.set ((rd t280 x14_5) : Int).toNat (wrap64 ((wrap64 ((rd x7_2 x10_21) - t274)) + t277))) := ⟨_, rfl⟩
                                                          replace H : (gleanerref4_depths.l3 k5 y291 y272 x10_21 (wrap64 ((wrap64 ((rd x7_2 x10_21) - t274)) + t277)) t280 (wrap64 (x14_5 + 1)) l0_0 a0_1 l0_2 a0_3 a0_4 a1_0 a1_1 a1_2 l1_3) = some (r1, r2, r3) := by first | (rw [hy291]; with_reducible exact H) | (have H2_ := (Option.bind_some _ _).symm.trans H; rw [hy291]; with_reducible exact H2_) | (have H2_ := (Option.bind_some _ _).symm.trans H; with_reducible exact H2_) | with_reducible exact H | (rw [hy291]; exact H) | exact H
                                                          have Ny291 := Aside0.mk hy291
                                                          clear hy291
                                                          have H' := Aside0.mk H
                                                          clear H
                                                          obtain ⟨Ao69, co69, eo69⟩ := Kd.R_slice HO_13.out
                                                          subst eo69
                                                          have p283 : 0 ≤ (x14_5 : Int) := of_decide_eq_true (by first | (with_reducible assumption) | assumption)
                                                          have q283 : x14_5 < (t280.length : Int) := of_decide_eq_true (by first | (with_reducible assumption) | assumption)
                                                          obtain ⟨ad283, e283, hx283_0⟩ := Kd.at_int (Kd.R_reads' HO_13.out).2.2 x14_5 p283 q283
                                                          cases e283
                                                          replace p283 := eq_true p283
                                                          replace q283 := eq_true q283
                                                          have p284 : 0 ≤ (x14_5 : Int) := of_decide_eq_true (by first | (with_reducible assumption) | assumption)
                                                          have q284 : x14_5 < (t280.length : Int) := of_decide_eq_true (by first | (with_reducible assumption) | assumption)
                                                          obtain ⟨ad284, e284, hx284_0⟩ := Kd.at_int (Kd.R_reads' HO_13.out).2.2 x14_5 p284 q284
                                                          obtain rfl : ad283 = ad284 := (by injection e284)
                                                          replace p284 := eq_true p284
                                                          replace q284 := eq_true q284
                                                          have p285 : 0 ≤ ((rd t280 x14_5) : Int) := of_decide_eq_true (by first | (with_reducible assumption) | assumption)
                                                          have q285 : (rd t280 x14_5) < (x7_5.length : Int) := of_decide_eq_true (by first | (with_reducible assumption) | assumption)
                                                          obtain ⟨ad285, e285, hx285_0⟩ := Kd.at_int (Kd.R_reads' HO_7.out).2.2 (rd t280 x14_5) p285 q285
                                                          obtain rfl : ad275 = ad285 := (by injection e285)
                                                          replace p285 := eq_true p285
                                                          replace q285 := eq_true q285
                                                          have p290 : 0 ≤ (x14_5 : Int) := of_decide_eq_true (by first | (with_reducible assumption) | assumption)
                                                          have q290 : x14_5 < (t280.length : Int) := of_decide_eq_true (by first | (with_reducible assumption) | assumption)
                                                          obtain ⟨ad290, e290, hx290_0⟩ := Kd.at_int (Kd.R_reads' HO_13.out).2.2 x14_5 p290 q290
                                                          obtain rfl : ad283 = ad290 := (by injection e290)
                                                          replace p290 := eq_true p290
                                                          replace q290 := eq_true q290
                                                          have p68 : 0 ≤ ((rd t280 x14_5) : Int) := of_decide_eq_true (by first | (with_reducible assumption) | assumption)
                                                          have q68 : ((rd t280 x14_5) : Int) < ((x7_5.length : Int) : Int) := of_decide_eq_true (by first | (with_reducible assumption) | assumption)
                                                          obtain ⟨go68, co68, eo68, gb68, gl68, cl68, HG68⟩ := Kd.R_form HO_7.out (by omega)
                                                          (first | cases eo68 | (injection eo68 with ea_ en_ ec_; (first | subst ea_ | (injection ea_ with ea_; subst ea_)); subst ec_; clear en_))
                                                          have GB68 := Aside0.mk gb68
                                                          have GG68 := Aside0.mk HG68
                                                          clear gb68 gl68 HG68
                                                          (first | simp only [add_plain] at hx285_0 | skip)
                                                          (first | simp only [add_plain] at hx287_0 | skip)
                                                          obtain ⟨hx68_0, hf68_0⟩ := Kd.R_celln 0 HO_7.out ((rd t280 x14_5) : Int) p68 q68
                                                          replace p68 := eq_true p68
                                                          replace q68 := eq_true q68
                                                          have HP70 := Kd.R_putg HO_7.out ((rd t280 x14_5) : Int) (wrap64 ((wrap64 ((rd x7_2 x10_21) - t274)) + t277))
                                                          go_wp2_with (first | ((with_reducible refine gate_store (t := 3) (p := 142) rfl ?_); refine store_event (t := 3) (p := 142) (v := ?vo_w71) (w1 := (wr.setCell ⟨go68, ((rd t280 x14_5) : Int).toNat, none⟩ (.int .i64 (wrap64 ((wrap64 ((rd x7_2 x10_21) - t274)) + t277))))) ?hg ?ho ?hn ?hr ?_; (case ho => rfl); (case hg => rfl); (case hn => rfl); (case hr => first | (go_simp; done) | (go_simp; rfl)); intro w71 hw; have hg : wr.grownBy w71 (some go68) := (by rw [hw]; exact HP70.2); have hp_ : Kd.R (Kd.int .i64) 3 w71 w.heap.size (fun k_ => some k_ ≠ (.slice (some ad283) t280.length co69 : Value).ownBlock) (.slice (some ⟨go68, 0, none⟩) x7_5.length co21) y291 := (by rw [hw, Ny291.out]; exact HP70.1); clear HP70; have n0_ := Aside0.mk (hp_); have n1_ := Aside0.mk (Kd.R_over' (v := (.slice (some ⟨go68, 0, none⟩) x7_5.length co21)) (by (with_reducible repeat (first | apply Kd.R_alloc | apply Kd.R_drewN | apply Kd.R_drew)); exact HO_8.out) (Kd.R_typed HO_7.out) (by decide) hg); have n2_ := Aside0.mk (Kd.R_after (v := (.slice (some ⟨go68, 0, none⟩) x7_5.length co21)) (v1 := (.slice (some ⟨go68, 0, none⟩) x7_5.length co21)) (ok := (fun _ => True)) (by (with_reducible repeat (first | apply Kd.R_alloc | apply Kd.R_drewN | apply Kd.R_drew)); exact Kd.R_mono HO_13.out (fun _ hk => ⟨trivial, hk⟩)) hg (.inl rfl)); have n3_ := Aside0.mk (blk_grown (g := gb261) (o := .cells #[.slice A0_0 l0_0.length c0_0, .int .i64 a0_1, .slice A0_2 l0_2.length c0_2, .int .i64 a0_3, .int .i64 a0_4] 25 (0, 0)) (by (with_reducible repeat (first | refine blk_drewN ?_ _ | refine blk_drew ?_ | refine blk_alloc ?_ _)); exact BK261.out) hg (Kd.R_ne HO_7.out BK261.out (by decide))); have n4_ := Aside0.mk (blk_grown (g := gb262) (o := .cells #[.string a1_0, .int .i64 a1_1, .int .i64 a1_2, .slice (some ad273) l1_3.length c1_3] 50 (0, 0)) (by (with_reducible repeat (first | refine blk_drewN ?_ _ | refine blk_drew ?_ | refine blk_alloc ?_ _)); exact BK262.out) hg (Kd.R_ne HO_7.out BK262.out (by decide))); have n5_ := Aside0.mk ((by rw [hw]; exact below_set (HB.out) GB68.out : Below w.heap.size w w71)); clear HO_7; clear HO_8; clear HO_13; clear BK261; clear BK262; clear HB; have HO_7 := n0_; have HO_8 := n1_; have HO_13 := n2_; have BK261 := n3_; have BK262 := n4_; have HB := n5_; clear n0_ n1_ n2_ n3_ n4_ n5_; clear hg hw hp_))
                                                          (try simp only [← hl7_5])
                                                          go_roundg k5
                                                          case measure => have := HK1.out; have := HK2.out; have := HJ21.out; have := HJ38.out; have := HK5.out; omega
                                                          case rel => exact ⟨(y291), (wrap64 (x14_5 + 1)), (by first | rfl | (simp; done) | (simp [*]; done)), H', ⟨by have := HK1.out; have := HK2.out; have := HJ21.out; have := HJ38.out; have := HK5.out; omega⟩, ⟨by (try simp only [hl7_2]); (try simp only [hl8_38]); (try simp only [hl7_5]); (with_reducible repeat (first | apply Kd.R_alloc | apply Kd.R_drewN | apply Kd.R_drew)); exact HO_7.out⟩, ⟨by (try simp only [hl7_2]); (try simp only [hl8_38]); (try simp only [hl7_5]); (with_reducible repeat (first | apply Kd.R_alloc | apply Kd.R_drewN | apply Kd.R_drew)); exact HO_8.out⟩, ⟨by (try simp only [hl7_2]); (try simp only [hl8_38]); (try simp only [hl7_5]); (with_reducible repeat (first | apply Kd.R_alloc | apply Kd.R_drewN | apply Kd.R_drew)); exact Kd.R_mono HO_13.out (fun _ hk => hk.2)⟩, ⟨by (try simp only [hl7_2]); (try simp only [hl8_38]); (try simp only [hl7_5]); (with_reducible repeat (first | refine blk_drewN ?_ _ | refine blk_drew ?_ | refine blk_alloc ?_ _)); exact BK261.out⟩, ⟨by (try simp only [hl7_2]); (try simp only [hl8_38]); (try simp only [hl7_5]); (with_reducible repeat (first | refine blk_drewN ?_ _ | refine blk_drew ?_ | refine blk_alloc ?_ _)); exact BK262.out⟩, ⟨by repeat (first | (with_reducible first | exact HB.out | apply below_alloc | apply pw_below_drewN | apply below_drew1 | refine below_set ?_ GE261.out | refine below_set ?_ GE262.out) | exact HB.out)⟩⟩
                                                      · rw [if_neg c60] at H
                                                        exact absurd H (by simp)
                                                    · rw [if_neg c59] at H
                                                      exact absurd H (by simp)
                                                · rw [if_neg c56] at H
                                                  exact absurd H (by simp)
                                              · rw [if_neg c55] at H
                                                have c55b0 : decide (x14_5 < (t280.length : Int)) = false := decide_eq_false c55
                                                clear c55
                                                have H' := Aside0.mk H
                                                clear H
                                                obtain ⟨Ao72, co72, eo72⟩ := Kd.R_slice HO_13.out
                                                subst eo72
                                                go_wp2
                                                (try simp only [← hl7_2, ← hl8_38, ← hl7_5])
                                                go_roundg k5
                                                case measure => have := HK1.out; have := HK2.out; have := HJ21.out; have := HJ38.out; have := HK5.out; omega
                                                case rel => exact ⟨(x7_5), (y272), H', ⟨by have := HK1.out; have := HK2.out; have := HJ21.out; have := HJ38.out; have := HK5.out; omega⟩, ⟨by (try simp only [hl7_2]); (try simp only [hl8_38]); (try simp only [hl7_5]); (with_reducible repeat (first | apply Kd.R_alloc | apply Kd.R_drewN | apply Kd.R_drew)); exact Kd.R_mono HO_7.out (fun _ hk => trivial)⟩, ⟨by (try simp only [hl7_2]); (try simp only [hl8_38]); (try simp only [hl7_5]); (with_reducible repeat (first | apply Kd.R_alloc | apply Kd.R_drewN | apply Kd.R_drew)); exact HO_8.out⟩, ⟨by (try simp only [hl7_2]); (try simp only [hl8_38]); (try simp only [hl7_5]); (with_reducible repeat (first | refine blk_drewN ?_ _ | refine blk_drew ?_ | refine blk_alloc ?_ _)); exact BK261.out⟩, ⟨by (try simp only [hl7_2]); (try simp only [hl8_38]); (try simp only [hl7_5]); (with_reducible repeat (first | refine blk_drewN ?_ _ | refine blk_drew ?_ | refine blk_alloc ?_ _)); exact BK262.out⟩, ⟨by repeat (first | (with_reducible first | exact HB.out | apply below_alloc | apply pw_below_drewN | apply below_drew1 | refine below_set ?_ GE261.out | refine below_set ?_ GE262.out) | exact HB.out)⟩⟩
                                        · rw [if_neg c50] at H
                                          exact absurd H (by simp)
                                      · rw [if_neg c49] at H
                                        exact absurd H (by simp)
                              · rw [if_neg c37] at H
                                exact absurd H (by simp)
                            · rw [if_neg c35] at H
                              exact absurd H (by simp)
                          · rw [if_neg c33] at H
                            exact absurd H (by simp)
                        · rw [if_neg c32] at H
                          exact absurd H (by simp)
      · rw [if_neg c5] at H
        exact absurd H (by simp)
    · rw [if_neg c4] at H
      exact absurd H (by simp)
  · rw [if_neg c3] at H
    exact absurd H (by simp)
end Go.Proofs.Ytakdckaplmoklaa.PTraceDeep
end
