/- Lemmas out of the texts that print.sh printed for this seat (PTraceDeepx14): those that the theorem uses; laid together by merge2.py. -/
import Derived.Test.YtakdckaplmoklaaZP0
import Derived.Test.YtakdckaplmoklaaZP11
import Derived.Test.YtakdckaplmoklaaZP12
section
namespace Go.Proofs.Ytakdckaplmoklaa.PTraceDeep
open Go.RowKit Go.Proofs.YtakdckaplmoklaaW.PrintWords Go.Proofs.YtakdckaplmoklaaW.PrintLast Go.Proofs.YtakdckaplmoklaaW.PrintMore
attribute [local go_sem] max2_int min2_int max_two min_two max_three min_three max_four min_four
set_option linter.unusedVariables false
set_option linter.unusedSimpArgs false
mutual
def gleanerref4_checkFunc.l0 : Nat → Int → Bool → Int → List (S50) → Int → List Int → Int → Int → ByteArray → Int → Int → List (S102) → Option (Int × Int)
  | 0, _, _, _, _, _, _, _, _, _, _, _, _ => none
  | k + 1, x1, x7, x8, x302000, x302001, x302002, x302003, x302004, x304000, x304001, x304002, x304003 => if x8 < x1 then (if x7 = true then (if 0 ≤ x8 then (if x8 < (x302000.length : Int) then (gleanerref4_checkFunc.l0 k x1 (((rd_T50 x302000 x8).f0).toList != x304000.toList) (wrap64 (x8 + 1)) x302000 x302001 x302002 x302003 x302004 x304000 x304001 x304002 x304003) else (none)) else (none)) else (gleanerref4_checkFunc.l0 k x1 false (wrap64 (x8 + 1)) x302000 x302001 x302002 x302003 x302004 x304000 x304001 x304002 x304003)) else (if x7 = true then (if x304001 < 0 then (gleanerref4_checkFunc.j1 k true x302000 x302001 x302002 x302003 x302004 x304000 x304001 x304002 x304003) else (gleanerref4_checkFunc.j1 k (decide (x304001 > 8)) x302000 x302001 x302002 x302003 x302004 x304000 x304001 x304002 x304003)) else (some (0, 6)))
def gleanerref4_checkFunc.j1 : Nat → Bool → List (S50) → Int → List Int → Int → Int → ByteArray → Int → Int → List (S102) → Option (Int × Int)
  | 0, _, _, _, _, _, _, _, _, _, _ => none
  | k + 1, x42, x302000, x302001, x302002, x302003, x302004, x304000, x304001, x304002, x304003 => if x42 = true then (some (0, 15)) else (if x304002 < x304001 then (gleanerref4_checkFunc.j2 k true x302000 x302001 x302002 x302003 x302004 x304000 x304001 x304002 x304003) else (gleanerref4_checkFunc.j2 k (decide (x304002 > 16)) x302000 x302001 x302002 x302003 x302004 x304000 x304001 x304002 x304003))
def gleanerref4_checkFunc.j2 : Nat → Bool → List (S50) → Int → List Int → Int → Int → ByteArray → Int → Int → List (S102) → Option (Int × Int)
  | 0, _, _, _, _, _, _, _, _, _, _ => none
  | k + 1, x51, x302000, x302001, x302002, x302003, x302004, x304000, x304001, x304002, x304003 => if x51 = true then (some (0, 13)) else (if (x304003.length : Int) = 0 then (some (0, 3)) else (if (x304003.length : Int) > 256 then (some (0, 3)) else (gleanerref4_checkFunc.l1 k 0 x302000 x302001 x302002 x302003 x302004 x304000 x304001 x304002 x304003)))
def gleanerref4_checkFunc.l1 : Nat → Int → List (S50) → Int → List Int → Int → Int → ByteArray → Int → Int → List (S102) → Option (Int × Int)
  | 0, _, _, _, _, _, _, _, _, _, _ => none
  | k + 1, x9, x302000, x302001, x302002, x302003, x302004, x304000, x304001, x304002, x304003 => if x9 < (x304003.length : Int) then (if 0 ≤ x9 then ((gleanerref4_checkIns.f k x302000 x302001 x302002 x302003 x302004 x304000 x304001 x304002 x304003 ((rd_T102 x304003 x9).f0) ((rd_T102 x304003 x9).f1)).bind fun t307 => (if t307 = 0 then (gleanerref4_checkFunc.l1 k (wrap64 (x9 + 1)) x302000 x302001 x302002 x302003 x302004 x304000 x304001 x304002 x304003) else (some (x9, t307)))) else (none)) else ((gleanerref4_depths.f k x302000 x302001 x302002 x302003 x302004 x304000 x304001 x304002 x304003).bind fun bt308 => (some (bt308.2.1, bt308.2.2)))
end
def gleanerref4_checkFunc.f (k : Nat) (l0_0 : List (S50)) (a0_1 : Int) (l0_2 : List Int) (a0_3 : Int) (a0_4 : Int) (a1 : Int) : Option (Int × Int) := if 0 ≤ a1 then (if a1 < (l0_0.length : Int) then ((gleanerref4_name.f k ((rd_T50 l0_0 a1).f0)).bind fun t304 => (gleanerref4_checkFunc.l0 k a1 t304 0 l0_0 a0_1 l0_2 a0_3 a0_4 ((rd_T50 l0_0 a1).f0) ((rd_T50 l0_0 a1).f1) ((rd_T50 l0_0 a1).f2) ((rd_T50 l0_0 a1).f3))) else (none)) else (none)
theorem gleanerref4_checkFunc.mono_l : ∀ k, (∀ y0 y1 y2 y3 y4 y5 y6 y7 y8 y9 y10 y11, LeO (gleanerref4_checkFunc.l0 k y0 y1 y2 y3 y4 y5 y6 y7 y8 y9 y10 y11) (gleanerref4_checkFunc.l0 (k + 1) y0 y1 y2 y3 y4 y5 y6 y7 y8 y9 y10 y11)) ∧ (∀ y0 y1 y2 y3 y4 y5 y6 y7 y8 y9, LeO (gleanerref4_checkFunc.j1 k y0 y1 y2 y3 y4 y5 y6 y7 y8 y9) (gleanerref4_checkFunc.j1 (k + 1) y0 y1 y2 y3 y4 y5 y6 y7 y8 y9)) ∧ (∀ y0 y1 y2 y3 y4 y5 y6 y7 y8 y9, LeO (gleanerref4_checkFunc.j2 k y0 y1 y2 y3 y4 y5 y6 y7 y8 y9) (gleanerref4_checkFunc.j2 (k + 1) y0 y1 y2 y3 y4 y5 y6 y7 y8 y9)) ∧ (∀ y0 y1 y2 y3 y4 y5 y6 y7 y8 y9, LeO (gleanerref4_checkFunc.l1 k y0 y1 y2 y3 y4 y5 y6 y7 y8 y9) (gleanerref4_checkFunc.l1 (k + 1) y0 y1 y2 y3 y4 y5 y6 y7 y8 y9))
  | 0 => ⟨fun _ _ _ _ _ _ _ _ _ _ _ _ r h => by simp [gleanerref4_checkFunc.l0] at h, fun _ _ _ _ _ _ _ _ _ _ r h => by simp [gleanerref4_checkFunc.j1] at h, fun _ _ _ _ _ _ _ _ _ _ r h => by simp [gleanerref4_checkFunc.j2] at h, fun _ _ _ _ _ _ _ _ _ _ r h => by simp [gleanerref4_checkFunc.l1] at h⟩
  | k + 1 => by
    obtain ⟨ih0, ih1, ih2, ih3⟩ := gleanerref4_checkFunc.mono_l k
    refine ⟨?_, ?_, ?_, ?_⟩
    · intro y0 y1 y2 y3 y4 y5 y6 y7 y8 y9 y10 y11
      unfold gleanerref4_checkFunc.l0
      repeat' first
      | (with_reducible exact ih0 _ _ _ _ _ _ _ _ _ _ _ _)
      | (with_reducible exact ih1 _ _ _ _ _ _ _ _ _ _)
      | (with_reducible exact ih2 _ _ _ _ _ _ _ _ _ _)
      | (with_reducible exact ih3 _ _ _ _ _ _ _ _ _ _)
      | (with_reducible exact gleanerref4_checkIns.mono _ _ _ _ _ _ _ _ _ _ _ _)
      | (with_reducible exact gleanerref4_depths.mono _ _ _ _ _ _ _ _ _ _)
      | (with_reducible exact gleanerref4_name.mono _ _)
      | (with_reducible exact LeO.refl _)
      | (with_reducible exact LeO.none _)
      | (with_reducible refine LeO.ite ?_ ?_)
      | (with_reducible refine LeO.bind ?_ (fun _ => ?_))
      | exact ih0 _ _ _ _ _ _ _ _ _ _ _ _
      | exact ih1 _ _ _ _ _ _ _ _ _ _
      | exact ih2 _ _ _ _ _ _ _ _ _ _
      | exact ih3 _ _ _ _ _ _ _ _ _ _
      | exact gleanerref4_checkIns.mono _ _ _ _ _ _ _ _ _ _ _ _
      | exact gleanerref4_depths.mono _ _ _ _ _ _ _ _ _ _
      | exact gleanerref4_name.mono _ _
      | exact LeO.none _
      | refine LeO.ite ?_ ?_
      | refine LeO.bind ?_ (fun _ => ?_)
    · intro y0 y1 y2 y3 y4 y5 y6 y7 y8 y9
      unfold gleanerref4_checkFunc.j1
      repeat' first
      | (with_reducible exact ih0 _ _ _ _ _ _ _ _ _ _ _ _)
      | (with_reducible exact ih1 _ _ _ _ _ _ _ _ _ _)
      | (with_reducible exact ih2 _ _ _ _ _ _ _ _ _ _)
      | (with_reducible exact ih3 _ _ _ _ _ _ _ _ _ _)
      | (with_reducible exact gleanerref4_checkIns.mono _ _ _ _ _ _ _ _ _ _ _ _)
      | (with_reducible exact gleanerref4_depths.mono _ _ _ _ _ _ _ _ _ _)
      | (with_reducible exact gleanerref4_name.mono _ _)
      | (with_reducible exact LeO.refl _)
      | (with_reducible exact LeO.none _)
      | (with_reducible refine LeO.ite ?_ ?_)
      | (with_reducible refine LeO.bind ?_ (fun _ => ?_))
      | exact ih0 _ _ _ _ _ _ _ _ _ _ _ _
      | exact ih1 _ _ _ _ _ _ _ _ _ _
      | exact ih2 _ _ _ _ _ _ _ _ _ _
      | exact ih3 _ _ _ _ _ _ _ _ _ _
      | exact gleanerref4_checkIns.mono _ _ _ _ _ _ _ _ _ _ _ _
      | exact gleanerref4_depths.mono _ _ _ _ _ _ _ _ _ _
      | exact gleanerref4_name.mono _ _
      | exact LeO.none _
      | refine LeO.ite ?_ ?_
      | refine LeO.bind ?_ (fun _ => ?_)
    · intro y0 y1 y2 y3 y4 y5 y6 y7 y8 y9
      unfold gleanerref4_checkFunc.j2
      repeat' first
      | (with_reducible exact ih0 _ _ _ _ _ _ _ _ _ _ _ _)
      | (with_reducible exact ih1 _ _ _ _ _ _ _ _ _ _)
      | (with_reducible exact ih2 _ _ _ _ _ _ _ _ _ _)
      | (with_reducible exact ih3 _ _ _ _ _ _ _ _ _ _)
      | (with_reducible exact gleanerref4_checkIns.mono _ _ _ _ _ _ _ _ _ _ _ _)
      | (with_reducible exact gleanerref4_depths.mono _ _ _ _ _ _ _ _ _ _)
      | (with_reducible exact gleanerref4_name.mono _ _)
      | (with_reducible exact LeO.refl _)
      | (with_reducible exact LeO.none _)
      | (with_reducible refine LeO.ite ?_ ?_)
      | (with_reducible refine LeO.bind ?_ (fun _ => ?_))
      | exact ih0 _ _ _ _ _ _ _ _ _ _ _ _
      | exact ih1 _ _ _ _ _ _ _ _ _ _
      | exact ih2 _ _ _ _ _ _ _ _ _ _
      | exact ih3 _ _ _ _ _ _ _ _ _ _
      | exact gleanerref4_checkIns.mono _ _ _ _ _ _ _ _ _ _ _ _
      | exact gleanerref4_depths.mono _ _ _ _ _ _ _ _ _ _
      | exact gleanerref4_name.mono _ _
      | exact LeO.none _
      | refine LeO.ite ?_ ?_
      | refine LeO.bind ?_ (fun _ => ?_)
    · intro y0 y1 y2 y3 y4 y5 y6 y7 y8 y9
      unfold gleanerref4_checkFunc.l1
      repeat' first
      | (with_reducible exact ih0 _ _ _ _ _ _ _ _ _ _ _ _)
      | (with_reducible exact ih1 _ _ _ _ _ _ _ _ _ _)
      | (with_reducible exact ih2 _ _ _ _ _ _ _ _ _ _)
      | (with_reducible exact ih3 _ _ _ _ _ _ _ _ _ _)
      | (with_reducible exact gleanerref4_checkIns.mono _ _ _ _ _ _ _ _ _ _ _ _)
      | (with_reducible exact gleanerref4_depths.mono _ _ _ _ _ _ _ _ _ _)
      | (with_reducible exact gleanerref4_name.mono _ _)
      | (with_reducible exact LeO.refl _)
      | (with_reducible exact LeO.none _)
      | (with_reducible refine LeO.ite ?_ ?_)
      | (with_reducible refine LeO.bind ?_ (fun _ => ?_))
      | exact ih0 _ _ _ _ _ _ _ _ _ _ _ _
      | exact ih1 _ _ _ _ _ _ _ _ _ _
      | exact ih2 _ _ _ _ _ _ _ _ _ _
      | exact ih3 _ _ _ _ _ _ _ _ _ _
      | exact gleanerref4_checkIns.mono _ _ _ _ _ _ _ _ _ _ _ _
      | exact gleanerref4_depths.mono _ _ _ _ _ _ _ _ _ _
      | exact gleanerref4_name.mono _ _
      | exact LeO.none _
      | refine LeO.ite ?_ ?_
      | refine LeO.bind ?_ (fun _ => ?_)
theorem gleanerref4_checkFunc.mono : ∀ a0 a1 a2 a3 a4 a5 k, LeO (gleanerref4_checkFunc.f k a0 a1 a2 a3 a4 a5) (gleanerref4_checkFunc.f (k + 1) a0 a1 a2 a3 a4 a5) := by
  intro a0 a1 a2 a3 a4 a5 k
  obtain ⟨ih0, ih1, ih2, ih3⟩ := gleanerref4_checkFunc.mono_l k
  unfold gleanerref4_checkFunc.f
  repeat' first
      | (with_reducible exact ih0 _ _ _ _ _ _ _ _ _ _ _ _)
      | (with_reducible exact ih1 _ _ _ _ _ _ _ _ _ _)
      | (with_reducible exact ih2 _ _ _ _ _ _ _ _ _ _)
      | (with_reducible exact ih3 _ _ _ _ _ _ _ _ _ _)
      | (with_reducible exact gleanerref4_checkIns.mono _ _ _ _ _ _ _ _ _ _ _ _)
      | (with_reducible exact gleanerref4_depths.mono _ _ _ _ _ _ _ _ _ _)
      | (with_reducible exact gleanerref4_name.mono _ _)
      | (with_reducible exact LeO.refl _)
      | (with_reducible exact LeO.none _)
      | (with_reducible refine LeO.ite ?_ ?_)
      | (with_reducible refine LeO.bind ?_ (fun _ => ?_))
      | exact ih0 _ _ _ _ _ _ _ _ _ _ _ _
      | exact ih1 _ _ _ _ _ _ _ _ _ _
      | exact ih2 _ _ _ _ _ _ _ _ _ _
      | exact ih3 _ _ _ _ _ _ _ _ _ _
      | exact gleanerref4_checkIns.mono _ _ _ _ _ _ _ _ _ _ _ _
      | exact gleanerref4_depths.mono _ _ _ _ _ _ _ _ _ _
      | exact gleanerref4_name.mono _ _
      | exact LeO.none _
      | refine LeO.ite ?_ ?_
      | refine LeO.bind ?_ (fun _ => ?_)
def gleanerref4_checkFunc.T6 : Bool × List (List Nat × List Nat) := (true, [([], []), ([0], [0]), ([1], [1]), ([2, 1], [1, 2]), ([1], [1]), ([3, 4, 1], [1, 3, 4]), ([5, 1], [1, 5]), ([6, 1], [1, 6]), ([1], [1]), ([8, 1], [1, 8]), ([7, 9, 1], [1, 7, 9]), ([1, 10], [1, 10]), ([11, 1, 0, 1, 2, 3, 4, 5, 6, 7, 8, 9, 10, 11], [0, 11])])
def gleanerref4_checkFunc.B6 : List Nat := [0, 1, 3, 7, 3, 31, 63, 127, 3, 259, 1023, 2047, 4095]
theorem gleanerref4_checkFunc.tab6 : rtab .any (opsOf Try.f40 6) = gleanerref4_checkFunc.T6 := by kernel_rfl
theorem gleanerref4_checkFunc.bits6 : waitsOk gleanerref4_checkFunc.T6.2 gleanerref4_checkFunc.B6 = true := by kernel_rfl
def gleanerref4_checkFunc.T18 : Bool × List (List Nat × List Nat) := (true, [([], []), ([], []), ([], []), ([2], [2]), ([], []), ([3, 4], [3, 4]), ([5], [5]), ([0, 1, 6], [0, 1, 6]), ([7, 7, 0, 1, 2, 3, 4, 5, 6, 7], [7])])
def gleanerref4_checkFunc.B18 : List Nat := [0, 0, 0, 4, 0, 28, 60, 127, 255]
theorem gleanerref4_checkFunc.tab18 : rtab .any (opsOf Try.f40 18) = gleanerref4_checkFunc.T18 := by kernel_rfl
theorem gleanerref4_checkFunc.bits18 : waitsOk gleanerref4_checkFunc.T18.2 gleanerref4_checkFunc.B18 = true := by kernel_rfl
set_option maxHeartbeats 8000000 in
set_option maxRecDepth 100000 in
theorem gleanerref4_checkFunc.calls (k : Nat) (A0_0 : Option Addr) (c0_0 : Nat) (l0_0 : List (S50)) (a0_1 : Int) (A0_2 : Option Addr) (c0_2 : Nat) (l0_2 : List Int) (a0_3 : Int) (a0_4 : Int) (a1 : Int) (r1 : Int) (r2 : Int) (w : World) (hr0_0 : Kd.C k50 w A0_0 l0_0.length l0_0) (hc0_0 : l0_0.length ≤ c0_0) (hr0_2 : Kd.C (Kd.int .i64) w A0_2 l0_2.length l0_2) (hc0_2 : l0_2.length ≤ c0_2) (h : gleanerref4_checkFunc.f k l0_0 a0_1 l0_2 a0_3 a0_4 a1 = some (r1, r2)) :
    Calls Try.prog 40 #[.agg #[.slice A0_0 l0_0.length c0_0, .int .i64 a0_1, .slice A0_2 l0_2.length c0_2, .int .i64 a0_3, .int .i64 a0_4], .int .i64 a1] w fun e w' => e = .returned (.tuple #[.int .i64 r1, .int .i64 r2]) ∧ Below w.heap.size w w' := by
  have hu25 := Try.underlying25
  have hu50 := Try.underlying50
  have hu102 := Try.underlying102
  have HR0_0 := Aside0.mk hr0_0
  have HC0_0 := Aside0.mk hc0_0
  clear hr0_0 hc0_0
  have HR0_2 := Aside0.mk hr0_2
  have HC0_2 := Aside0.mk hc0_2
  clear hr0_2 hc0_2
  have HB := Aside0.mk (Below.refl w.heap.size w)
  have H : (if 0 ≤ a1 then (if a1 < (l0_0.length : Int) then ((gleanerref4_name.f k ((rd_T50 l0_0 a1).f0)).bind fun t304 => (gleanerref4_checkFunc.l0 k a1 t304 0 l0_0 a0_1 l0_2 a0_3 a0_4 ((rd_T50 l0_0 a1).f0) ((rd_T50 l0_0 a1).f1) ((rd_T50 l0_0 a1).f2) ((rd_T50 l0_0 a1).f3))) else (none)) else (none)) = some (r1, r2) := h
  clear h
  by_cases c3 : 0 ≤ a1
  · rw [if_pos c3] at H
    have c3b0 : decide (0 ≤ a1) = true := decide_eq_true c3
    clear c3
    by_cases c4 : a1 < (l0_0.length : Int)
    · rw [if_pos c4] at H
      have c4b0 : decide (a1 < (l0_0.length : Int)) = true := decide_eq_true c4
      clear c4
      replace H := Option.bind_eq_some_iff.mp H
      obtain ⟨t304, A50, H⟩ := H
      replace H : (gleanerref4_checkFunc.l0 k a1 t304 0 l0_0 a0_1 l0_2 a0_3 a0_4 ((rd_T50 l0_0 a1).f0) ((rd_T50 l0_0 a1).f1) ((rd_T50 l0_0 a1).f2) ((rd_T50 l0_0 a1).f3)) = some (r1, r2) := H
      have A5 := Aside0.mk A50
      clear A50
      have H' := Aside0.mk H
      clear H
      go_enter Try.func40, Try.ntmps40
      go_wp2_with (first | ((with_reducible refine gate_dst (N := 2) rfl ?_); (try (refine gate_guard (by rfl) ?_; dsimp only)); refine box_event ?hg (N := 2) ?hd (cs := #[.slice A0_0 l0_0.length c0_0, .int .i64 a0_1, .slice A0_2 l0_2.length c0_2, .int .i64 a0_3, .int .i64 a0_4]) (t := 25) ?hr ?_; (case hd => rfl); (case hg => rfl); (case hr => first | (go_simp; done) | (go_simp; rfl)); intro gb301 hg w6 hbox hb; have n0_ := Aside0.mk (below_step (by repeat (first | (with_reducible first | exact HB.out | apply below_alloc | apply pw_below_drewN | apply below_drew1) | exact HB.out)) hb); have n1_ := Aside0.mk (hbox); have n2_ := Aside0.mk ((by rw [hg]; exact (below_size (by repeat (first | (with_reducible first | exact HB.out | apply below_alloc | apply pw_below_drewN | apply below_drew1) | exact HB.out))) : w.heap.size ≤ gb301)); have n3_ := Aside0.mk ((by rw [hg]; exact (below_size (by repeat (first | (with_reducible first | exact HB.out | apply below_alloc | apply pw_below_drewN | apply below_drew1) | exact HB.out))) : w.heap.size ≤ gb301)); clear HB; have HB := n0_; have BK301 := n1_; have GW301 := n2_; have GE301 := n3_; clear n0_ n1_ n2_ n3_; clear hb hbox hg; have hcz7_0 : w6.cell? ⟨gb301, 0, none⟩ = some (.slice A0_0 l0_0.length c0_0) := (blk_cell BK301.out 0).trans rfl; have hcz7_1 : w6.cell? ⟨gb301, 1, none⟩ = some (.int .i64 a0_1) := (blk_cell BK301.out 1).trans rfl; have hcz7_2 : w6.cell? ⟨gb301, 2, none⟩ = some (.slice A0_2 l0_2.length c0_2) := (blk_cell BK301.out 2).trans rfl; have hcz7_3 : w6.cell? ⟨gb301, 3, none⟩ = some (.int .i64 a0_3) := (blk_cell BK301.out 3).trans rfl; have hcz7_4 : w6.cell? ⟨gb301, 4, none⟩ = some (.int .i64 a0_4) := (blk_cell BK301.out 4).trans rfl; have hfz7_0 := blk_frozen BK301.out 0; have hfz7_1 := blk_frozen BK301.out 1; have hfz7_2 := blk_frozen BK301.out 2; have hfz7_3 := blk_frozen BK301.out 3; have hfz7_4 := blk_frozen BK301.out 4; have p302 : 0 ≤ (a1 : Int) := of_decide_eq_true (by first | (with_reducible assumption) | assumption); have q302 : a1 < (l0_0.length : Int) := of_decide_eq_true (by first | (with_reducible assumption) | assumption); obtain ⟨ad302, A302_3, c302_3, e302, hx302_0, hx302_1, hx302_2, hx302_3, hl302_3, hi302_3⟩ := at_T50 HR0_0.out a1 p302 q302; cases e302; replace hx302_0 := (HB.out.cell (World.block_lt_of_cell? w _ hx302_0)).trans hx302_0; replace hx302_1 := (HB.out.cell (World.block_lt_of_cell? w _ hx302_1)).trans hx302_1; replace hx302_2 := (HB.out.cell (World.block_lt_of_cell? w _ hx302_2)).trans hx302_2; replace hx302_3 := (HB.out.cell (World.block_lt_of_cell? w _ hx302_3)).trans hx302_3; have HR302_3 := Aside0.mk hi302_3; have HC302_3 := Aside0.mk hl302_3; clear hi302_3 hl302_3; replace p302 := eq_true p302; replace q302 := eq_true q302) | ((with_reducible refine gate_dst (N := 6) rfl ?_); (try (refine gate_guard (by rfl) ?_; dsimp only)); refine box_event ?hg (N := 6) ?hd (cs := #[.string (⟨#[]⟩ : ByteArray), .int .i64 0, .int .i64 0, .slice none 0 0]) (t := 50) ?hr ?_; (case hd => rfl); (case hg => rfl); (case hr => first | (go_simp; done) | (go_simp; rfl)); intro gb303 hg w8 hbox hb; have n0_ := Aside0.mk (blk_below (g := gb301) (o := .cells #[.slice (some ad302) l0_0.length c0_0, .int .i64 a0_1, .slice A0_2 l0_2.length c0_2, .int .i64 a0_3, .int .i64 a0_4] 25 (0, 0)) (by (with_reducible repeat (first | refine blk_drewN ?_ _ | refine blk_drew ?_ | refine blk_alloc ?_ _)); exact BK301.out) hb); have n1_ := Aside0.mk (below_step (by repeat (first | (with_reducible first | exact HB.out | apply below_alloc | apply pw_below_drewN | apply below_drew1 | refine below_set ?_ GE301.out) | exact HB.out)) hb); have n2_ := Aside0.mk (hbox); have n3_ := Aside0.mk ((by rw [hg]; exact (below_size (by repeat (first | (with_reducible first | exact HB.out | apply below_alloc | apply pw_below_drewN | apply below_drew1 | refine below_set ?_ GE301.out) | exact HB.out))) : w.heap.size ≤ gb303)); have n4_ := Aside0.mk ((by rw [hg]; exact (below_size (by repeat (first | (with_reducible first | exact HB.out | apply below_alloc | apply pw_below_drewN | apply below_drew1 | refine below_set ?_ GE301.out) | exact HB.out))) : w.heap.size ≤ gb303)); have n5_ := Aside0.mk ((by rw [hg]; exact Nat.ne_of_lt (blk_lt (g := gb301) (o := .cells #[.slice (some ad302) l0_0.length c0_0, .int .i64 a0_1, .slice A0_2 l0_2.length c0_2, .int .i64 a0_3, .int .i64 a0_4] 25 (0, 0)) (by (with_reducible repeat (first | refine blk_drewN ?_ _ | refine blk_drew ?_ | refine blk_alloc ?_ _)); exact BK301.out)) : gb301 ≠ gb303)); have n6_ := Aside0.mk ((by rw [hg]; exact Nat.ne_of_gt (blk_lt (g := gb301) (o := .cells #[.slice (some ad302) l0_0.length c0_0, .int .i64 a0_1, .slice A0_2 l0_2.length c0_2, .int .i64 a0_3, .int .i64 a0_4] 25 (0, 0)) (by (with_reducible repeat (first | refine blk_drewN ?_ _ | refine blk_drew ?_ | refine blk_alloc ?_ _)); exact BK301.out)) : gb303 ≠ gb301)); clear BK301; clear HB; have BK301 := n0_; have HB := n1_; have BK303 := n2_; have GW303 := n3_; have GE303 := n4_; have NB301_303 := n5_; have NB303_301 := n6_; clear n0_ n1_ n2_ n3_ n4_ n5_ n6_; clear hb hbox hg; have hnb9 := NB303_301.out; have hnc9 := NB301_303.out; have hcz10_0 : w8.cell? ⟨gb303, 0, none⟩ = some (.string (⟨#[]⟩ : ByteArray)) := (blk_cell BK303.out 0).trans rfl; have hcz10_1 : w8.cell? ⟨gb303, 1, none⟩ = some (.int .i64 0) := (blk_cell BK303.out 1).trans rfl; have hcz10_2 : w8.cell? ⟨gb303, 2, none⟩ = some (.int .i64 0) := (blk_cell BK303.out 2).trans rfl; have hcz10_3 : w8.cell? ⟨gb303, 3, none⟩ = some (.slice none 0 0) := (blk_cell BK303.out 3).trans rfl; have hfz10_0 := blk_frozen BK303.out 0; have hfz10_1 := blk_frozen BK303.out 1; have hfz10_2 := blk_frozen BK303.out 2; have hfz10_3 := blk_frozen BK303.out 3) | ((with_reducible refine gate_callee (f := 55) rfl ?_); refine goesL_ (some 21) rfl rfl Try.func55 (by kernel_rfl) rfl #[.string ((rd_T50 l0_0 a1).f0)] rfl (by (try simp only [List.map_toArray, List.map_cons, List.map_nil]); first | done | rfl | (simp only [List.length_drop, List.length_take]; rfl)) ?_; (with_reducible refine (gleanerref4_name.calls k ((rd_T50 l0_0 a1).f0) t304 _ A5.out).mono ?_); rintro e w' ⟨rfl, ⟨nd, rfl⟩⟩; refine ⟨_, rfl, ?_⟩))
      go_loopg [7, 8] k (fun kq v7 v8 w' => ∃ (x7_1 : Bool) (x8_1 : Int), v7 = .bool x7_1 ∧ v8 = .int .i64 x8_1 ∧ Aside0 (gleanerref4_checkFunc.l0 kq a1 x7_1 x8_1 l0_0 a0_1 l0_2 a0_3 a0_4 ((rd_T50 l0_0 a1).f0) ((rd_T50 l0_0 a1).f1) ((rd_T50 l0_0 a1).f2) ((rd_T50 l0_0 a1).f3) = some (r1, r2)) ∧ Aside0 (kq ≤ k) ∧ Aside0 (w'.heap[gb301]? = some (.cells #[(.slice (some ad302) l0_0.length c0_0), .int .i64 a0_1, (.slice A0_2 l0_2.length c0_2), .int .i64 a0_3, .int .i64 a0_4] 25 (0, 0))) ∧ Aside0 (w'.heap[gb303]? = some (.cells #[.string ((rd_T50 l0_0 a1).f0), .int .i64 ((rd_T50 l0_0 a1).f1), .int .i64 ((rd_T50 l0_0 a1).f2), (.slice A302_3 ((rd_T50 l0_0 a1).f3).length c302_3)] 50 (0, 0))) ∧ Aside0 (Below w.heap.size w w'))
      case atStart => exact ⟨(t304), (0), (by first | rfl | (simp; done) | (simp [*]; done)), (by first | rfl | (simp; done) | (simp [*]; done)), H', ⟨Nat.le_refl _⟩, ⟨by (with_reducible repeat (first | refine blk_drewN ?_ _ | refine blk_drew ?_ | refine blk_alloc ?_ _)); refine blk_far ?_ NB301_303.out _; (with_reducible repeat (first | refine blk_drewN ?_ _ | refine blk_drew ?_ | refine blk_alloc ?_ _)); refine blk_far ?_ NB301_303.out _; (with_reducible repeat (first | refine blk_drewN ?_ _ | refine blk_drew ?_ | refine blk_alloc ?_ _)); refine blk_far ?_ NB301_303.out _; (with_reducible repeat (first | refine blk_drewN ?_ _ | refine blk_drew ?_ | refine blk_alloc ?_ _)); refine blk_far ?_ NB301_303.out _; (with_reducible repeat (first | refine blk_drewN ?_ _ | refine blk_drew ?_ | refine blk_alloc ?_ _)); exact BK301.out⟩, ⟨by (with_reducible repeat (first | refine blk_drewN ?_ _ | refine blk_drew ?_ | refine blk_alloc ?_ _)); refine blk_put (cs := #[.string ((rd_T50 l0_0 a1).f0), .int .i64 ((rd_T50 l0_0 a1).f1), .int .i64 ((rd_T50 l0_0 a1).f2), .slice none 0 0]) ?_ 3 _ rfl; (with_reducible repeat (first | refine blk_drewN ?_ _ | refine blk_drew ?_ | refine blk_alloc ?_ _)); refine blk_put (cs := #[.string ((rd_T50 l0_0 a1).f0), .int .i64 ((rd_T50 l0_0 a1).f1), .int .i64 0, .slice none 0 0]) ?_ 2 _ rfl; (with_reducible repeat (first | refine blk_drewN ?_ _ | refine blk_drew ?_ | refine blk_alloc ?_ _)); refine blk_put (cs := #[.string ((rd_T50 l0_0 a1).f0), .int .i64 0, .int .i64 0, .slice none 0 0]) ?_ 1 _ rfl; (with_reducible repeat (first | refine blk_drewN ?_ _ | refine blk_drew ?_ | refine blk_alloc ?_ _)); refine blk_put (cs := #[.string (⟨#[]⟩ : ByteArray), .int .i64 0, .int .i64 0, .slice none 0 0]) ?_ 0 _ rfl; (with_reducible repeat (first | refine blk_drewN ?_ _ | refine blk_drew ?_ | refine blk_alloc ?_ _)); exact BK303.out⟩, ⟨by repeat (first | (with_reducible first | exact HB.out | apply below_alloc | apply pw_below_drewN | apply below_drew1 | refine below_set ?_ GE301.out | refine below_set ?_ GE303.out) | exact HB.out)⟩⟩
      case round =>
        clear H'
        try clear p2
        try clear c3
        try clear c3b0
        try clear p3
        try clear q3
        try clear hx3
        try clear c4
        try clear c4b0
        try clear c5
        try clear c9
        try clear hcz10_0
        try clear hcz10_1
        try clear hcz10_2
        try clear hcz10_3
        try clear hcz7_0
        try clear hcz7_1
        try clear hcz7_2
        try clear hcz7_3
        try clear hcz7_4
        try clear hfz10_0
        try clear hfz10_1
        try clear hfz10_2
        try clear hfz10_3
        try clear hfz7_0
        try clear hfz7_1
        try clear hfz7_2
        try clear hfz7_3
        try clear hfz7_4
        try clear hx302_0
        try clear hx302_1
        try clear hx302_2
        try clear hx302_3
        try clear p302
        try clear q302
        obtain ⟨x7_1, x8_1, rfl, rfl, HA, HK1, BK301, BK303, HB⟩ := hrel
        cases gk with
        | zero => exact absurd HA.out (by simp [gleanerref4_checkFunc.l0])
        | succ k1 =>
          have H := HA.out
          clear HA
          simp only [gleanerref4_checkFunc.l0] at H
          by_cases c11 : x8_1 < a1
          · rw [if_pos c11] at H
            have c11b0 : decide (x8_1 < a1) = true := decide_eq_true c11
            clear c11
            by_cases c12 : x7_1 = true
            · subst c12
              have H1 : (if 0 ≤ x8_1 then (if x8_1 < (l0_0.length : Int) then (gleanerref4_checkFunc.l0 k1 a1 (((rd_T50 l0_0 x8_1).f0).toList != ((rd_T50 l0_0 a1).f0).toList) (wrap64 (x8_1 + 1)) l0_0 a0_1 l0_2 a0_3 a0_4 ((rd_T50 l0_0 a1).f0) ((rd_T50 l0_0 a1).f1) ((rd_T50 l0_0 a1).f2) ((rd_T50 l0_0 a1).f3)) else (none)) else (none)) = some (r1, r2) := by rw [if_pos rfl] at H; exact H
              clear H
              have H := H1
              clear H1
              by_cases c13 : 0 ≤ x8_1
              · rw [if_pos c13] at H
                have c13b0 : decide (0 ≤ x8_1) = true := decide_eq_true c13
                clear c13
                by_cases c14 : x8_1 < (l0_0.length : Int)
                · rw [if_pos c14] at H
                  have c14b0 : decide (x8_1 < (l0_0.length : Int)) = true := decide_eq_true c14
                  clear c14
                  have H' := Aside0.mk H
                  clear H
                  try go_wp2
                  have n0_ := Aside0.mk (blk_drew BK301.out)
                  have n1_ := Aside0.mk (blk_drew BK303.out)
                  have n2_ := Aside0.mk (below_drew1 HB.out)
                  clear BK301
                  clear BK303
                  clear HB
                  have BK301 := n0_
                  have BK303 := n1_
                  have HB := n2_
                  clear n0_ n1_ n2_
                  have p305 : 0 ≤ (x8_1 : Int) := of_decide_eq_true (by first | (with_reducible assumption) | assumption)
                  have q305 : x8_1 < (l0_0.length : Int) := of_decide_eq_true (by first | (with_reducible assumption) | assumption)
                  obtain ⟨ad305, A305_3, c305_3, e305, hx305_0, hx305_1, hx305_2, hx305_3, hl305_3, hi305_3⟩ := at_T50 HR0_0.out x8_1 p305 q305
                  have hw305_3 := hx305_3
                  have hw305_2 := hx305_2
                  have hw305_1 := hx305_1
                  have hw305_0 := hx305_0
                  obtain rfl : ad302 = ad305 := (by injection e305)
                  replace hx305_0 := (HB.out.cell (World.block_lt_of_cell? w _ hx305_0)).trans hx305_0
                  replace hx305_1 := (HB.out.cell (World.block_lt_of_cell? w _ hx305_1)).trans hx305_1
                  replace hx305_2 := (HB.out.cell (World.block_lt_of_cell? w _ hx305_2)).trans hx305_2
                  replace hx305_3 := (HB.out.cell (World.block_lt_of_cell? w _ hx305_3)).trans hx305_3
                  have HR305_3 := Aside0.mk hi305_3
                  have HC305_3 := Aside0.mk hl305_3
                  clear hi305_3 hl305_3
                  replace p305 := eq_true p305
                  replace q305 := eq_true q305
                  refine start_ (n := 13) (S := fun w' => w'.cell? ⟨gb301, 0, none⟩ = some (.slice (some ad302) l0_0.length c0_0) ∧ w'.cell? ⟨gb301, 1, none⟩ = some (.int .i64 a0_1) ∧ w'.cell? ⟨gb301, 2, none⟩ = some (.slice A0_2 l0_2.length c0_2) ∧ w'.cell? ⟨gb301, 3, none⟩ = some (.int .i64 a0_3) ∧ w'.cell? ⟨gb301, 4, none⟩ = some (.int .i64 a0_4) ∧ w'.cell? ⟨gb303, 0, none⟩ = some (.string ((rd_T50 l0_0 a1).f0)) ∧ w'.cell? ⟨gb303, 1, none⟩ = some (.int .i64 ((rd_T50 l0_0 a1).f1)) ∧ w'.cell? ⟨gb303, 2, none⟩ = some (.int .i64 ((rd_T50 l0_0 a1).f2)) ∧ w'.cell? ⟨gb303, 3, none⟩ = some (.slice A302_3 ((rd_T50 l0_0 a1).f3).length c302_3) ∧ w'.cell? (ad302.add ((x8_1).toNat * 4)) = some (.string ((rd_T50 l0_0 x8_1).f0)) ∧ w'.cell? ⟨(ad302.add ((x8_1).toNat * 4)).block, (ad302.add ((x8_1).toNat * 4)).off + 1, none⟩ = some (.int .i64 ((rd_T50 l0_0 x8_1).f1)) ∧ w'.cell? ⟨(ad302.add ((x8_1).toNat * 4)).block, (ad302.add ((x8_1).toNat * 4)).off + 2, none⟩ = some (.int .i64 ((rd_T50 l0_0 x8_1).f2)) ∧ w'.cell? ⟨(ad302.add ((x8_1).toNat * 4)).block, (ad302.add ((x8_1).toNat * 4)).off + 3, none⟩ = some (.slice A305_3 ((rd_T50 l0_0 x8_1).f3).length c305_3)) (ds := []) #[false, false, false, false, false, false, false, false, false, false, false, false, false] (by kernel_rfl) rfl rfl ⟨(blk_cell BK301.out 0).trans rfl, (blk_cell BK301.out 1).trans rfl, (blk_cell BK301.out 2).trans rfl, (blk_cell BK301.out 3).trans rfl, (blk_cell BK301.out 4).trans rfl, (blk_cell BK303.out 0).trans rfl, (blk_cell BK303.out 1).trans rfl, (blk_cell BK303.out 2).trans rfl, (blk_cell BK303.out 3).trans rfl, ((HB.out.cell (World.block_lt_of_cell? w _ hw305_0)).trans hw305_0), ((HB.out.cell (World.block_lt_of_cell? w _ hw305_1)).trans hw305_1), ((HB.out.cell (World.block_lt_of_cell? w _ hw305_2)).trans hw305_2), ((HB.out.cell (World.block_lt_of_cell? w _ hw305_3)).trans hw305_3)⟩ (fun hHeld => ?_); refine with_tabW gleanerref4_checkFunc.tab6 gleanerref4_checkFunc.bits6 (fun HT_ HW_ => ?_)
                  generalize wr.drew = w15 at BK301 BK303 HB HR305_3 hx305_0 hx305_1 hx305_2 hx305_3 hHeld ⊢
                  refine pure_ (i := 0) (N := some 27) (v := ?_) (a' := ?_) #[true, false, false, false, false, false, false, false, false, false, false, false, false] rfl rfl (any_of HT_.out (by kernel_rfl)) (fun _ _ _ h => h) (Or.inl ⟨by rfl, ?_⟩) ?_ ?_
                  rotate_left
                  · intro w'
                    go_simp
                    with_reducible rfl
                  rotate_left
                  · simp only [Act.put, List.setIfInBounds_toArray, List.set_cons_zero, List.set_cons_succ, i64_w, i32_w]
                    rfl
                  refine pure_ (i := 1) (N := some 28) (v := ?_) (a' := ?_) #[true, true, false, false, false, false, false, false, false, false, false, false, false] rfl rfl (any_of HT_.out (by kernel_rfl)) (fun _ _ _ h => h) (Or.inl ⟨by rfl, ?_⟩) ?_ ?_
                  rotate_left
                  · intro w'
                    go_simp
                    with_reducible rfl
                  rotate_left
                  · simp only [Act.put, List.setIfInBounds_toArray, List.set_cons_zero, List.set_cons_succ, i64_w, i32_w]
                    rfl
                  refine pure_ (i := 2) (N := some 29) (v := ?_) (a' := ?_) #[true, true, true, false, false, false, false, false, false, false, false, false, false] rfl rfl (any_of HT_.out (by kernel_rfl)) (fun _ _ _ h => h) (Or.inl ⟨by rfl, ?_⟩) ?_ ?_
                  rotate_left
                  · intro w'
                    go_simp
                    with_reducible rfl
                  rotate_left
                  · simp only [Act.put, List.setIfInBounds_toArray, List.set_cons_zero, List.set_cons_succ, i64_w, i32_w]
                    rfl
                  refine pure_ (i := 4) (N := some 31) (v := ?_) (a' := ?_) #[true, true, true, false, true, false, false, false, false, false, false, false, false] rfl rfl (any_of HT_.out (by kernel_rfl)) (fun _ _ _ h => h) (Or.inl ⟨by rfl, ?_⟩) ?_ ?_
                  rotate_left
                  · intro w'
                    go_simp
                    with_reducible rfl
                  rotate_left
                  · simp only [Act.put, List.setIfInBounds_toArray, List.set_cons_zero, List.set_cons_succ, i64_w, i32_w]
                    rfl
                  refine pure_ (i := 8) (N := some 35) (v := ?_) (a' := ?_) #[true, true, true, false, true, false, false, false, true, false, false, false, false] rfl rfl (any_of HT_.out (by kernel_rfl)) (fun _ _ _ h => h) (Or.inl ⟨by rfl, ?_⟩) ?_ ?_
                  rotate_left
                  · intro w'
                    go_simp
                    with_reducible rfl
                  rotate_left
                  · simp only [Act.put, List.setIfInBounds_toArray, List.set_cons_zero, List.set_cons_succ, i64_w, i32_w]
                    rfl
                  refine take_ (i := 3) (N := some 30) (v := ?_) (a' := ?_) #[true, true, true, true, true, false, false, false, true, false, false, false, false] rfl rfl (take_ofW HT_.out HW_.out (by kernel_rfl)) (fun _ _ _ h => h) (Or.inl ⟨by rfl, ?_⟩) hHeld ?_ ?_
                  rotate_left
                  · rintro w' ⟨s0, s1, s2, s3, s4, s5, s6, s7, s8, s9, s10, s11, s12⟩
                    go_simp
                    with_reducible rfl
                  rotate_left
                  · simp only [Act.put, List.setIfInBounds_toArray, List.set_cons_zero, List.set_cons_succ, i64_w, i32_w]
                    rfl
                  refine pure_ (i := 5) (N := some 32) (v := ?_) (a' := ?_) #[true, true, true, true, true, true, false, false, true, false, false, false, false] rfl rfl (any_of HT_.out (by kernel_rfl)) (fun _ _ _ h => h) (Or.inl ⟨by rfl, ?_⟩) ?_ ?_
                  rotate_left
                  · intro w'
                    go_simp
                    with_reducible rfl
                  rotate_left
                  · simp only [Act.put, List.setIfInBounds_toArray, List.set_cons_zero, List.set_cons_succ, i64_w, i32_w]
                    rfl
                  refine pure_ (i := 6) (N := some 33) (v := ?_) (a' := ?_) #[true, true, true, true, true, true, true, false, true, false, false, false, false] rfl rfl (any_of HT_.out (by kernel_rfl)) (fun _ _ _ h => h) (Or.inl ⟨by rfl, ?_⟩) ?_ ?_
                  rotate_left
                  · intro w'
                    go_simp
                    with_reducible rfl
                  rotate_left
                  · simp only [Act.put, List.setIfInBounds_toArray, List.set_cons_zero, List.set_cons_succ, i64_w, i32_w]
                    rfl
                  refine take_ (i := 7) (N := some 34) (v := ?_) (a' := ?_) #[true, true, true, true, true, true, true, true, true, false, false, false, false] rfl rfl (take_ofW HT_.out HW_.out (by kernel_rfl)) (fun _ _ _ h => h) (Or.inl ⟨by rfl, ?_⟩) hHeld ?_ ?_
                  rotate_left
                  · rintro w' ⟨s0, s1, s2, s3, s4, s5, s6, s7, s8, s9, s10, s11, s12⟩
                    go_simp
                    with_reducible rfl
                  rotate_left
                  · simp only [Act.put, List.setIfInBounds_toArray, List.set_cons_zero, List.set_cons_succ, i64_w, i32_w]
                    rfl
                  refine take_ (i := 9) (N := some 36) (v := ?_) (a' := ?_) #[true, true, true, true, true, true, true, true, true, true, false, false, false] rfl rfl (take_ofW HT_.out HW_.out (by kernel_rfl)) (fun _ _ _ h => h) (Or.inl ⟨by rfl, ?_⟩) hHeld ?_ ?_
                  rotate_left
                  · rintro w' ⟨s0, s1, s2, s3, s4, s5, s6, s7, s8, s9, s10, s11, s12⟩
                    go_simp
                    with_reducible rfl
                  rotate_left
                  · simp only [Act.put, List.setIfInBounds_toArray, List.set_cons_zero, List.set_cons_succ, i64_w, i32_w]
                    rfl
                  refine pure_ (i := 10) (N := some 37) (v := ?_) (a' := ?_) #[true, true, true, true, true, true, true, true, true, true, true, false, false] rfl rfl (any_of HT_.out (by kernel_rfl)) (fun _ _ _ h => h) (Or.inl ⟨by rfl, ?_⟩) ?_ ?_
                  rotate_left
                  · intro w'
                    go_simp
                    with_reducible rfl
                  rotate_left
                  · simp only [Act.put, List.setIfInBounds_toArray, List.set_cons_zero, List.set_cons_succ, i64_w, i32_w]
                    rfl
                  refine pure_ (i := 11) (N := some 38) (v := ?_) (a' := ?_) #[true, true, true, true, true, true, true, true, true, true, true, true, false] rfl rfl (any_of HT_.out (by kernel_rfl)) (fun _ _ _ h => h) (Or.inl ⟨by rfl, ?_⟩) ?_ ?_
                  rotate_left
                  · intro w'
                    go_simp
                    with_reducible rfl
                  rotate_left
                  · simp only [Act.put, List.setIfInBounds_toArray, List.set_cons_zero, List.set_cons_succ, i64_w, i32_w]
                    rfl
                  refine pure_ (i := 12) (N := some 7) (v := ?_) (a' := ?_) #[true, true, true, true, true, true, true, true, true, true, true, true, true] rfl rfl (any_of HT_.out (by kernel_rfl)) (fun _ _ _ h => h) (Or.inl ⟨by rfl, ?_⟩) ?_ ?_
                  rotate_left
                  · intro w'
                    go_simp
                    with_reducible rfl
                  rotate_left
                  · simp only [Act.put, List.setIfInBounds_toArray, List.set_cons_zero, List.set_cons_succ, i64_w, i32_w]
                    rfl
                  refine done_ (done_of HT_.out (by kernel_rfl)) ?_
                  try go_wp2
                  go_roundg k1
                  case measure => have := HK1.out; omega
                  case rel => exact ⟨((((rd_T50 l0_0 x8_1).f0).toList != ((rd_T50 l0_0 a1).f0).toList)), (wrap64 (x8_1 + 1)), (by first | rfl | (simp; done) | (simp [*]; done)), (by first | rfl | (simp; done) | (simp [*]; done)), H', ⟨by have := HK1.out; omega⟩, ⟨by (with_reducible repeat (first | refine blk_drewN ?_ _ | refine blk_drew ?_ | refine blk_alloc ?_ _)); exact BK301.out⟩, ⟨by (with_reducible repeat (first | refine blk_drewN ?_ _ | refine blk_drew ?_ | refine blk_alloc ?_ _)); exact BK303.out⟩, ⟨by repeat (first | (with_reducible first | exact HB.out | apply below_alloc | apply pw_below_drewN | apply below_drew1 | refine below_set ?_ GE301.out | refine below_set ?_ GE303.out) | exact HB.out)⟩⟩
                · rw [if_neg c14] at H
                  exact absurd H (by simp)
              · rw [if_neg c13] at H
                exact absurd H (by simp)
            · replace c12 := Bool.eq_false_iff.mpr c12
              subst c12
              have H1 : (gleanerref4_checkFunc.l0 k1 a1 false (wrap64 (x8_1 + 1)) l0_0 a0_1 l0_2 a0_3 a0_4 ((rd_T50 l0_0 a1).f0) ((rd_T50 l0_0 a1).f1) ((rd_T50 l0_0 a1).f2) ((rd_T50 l0_0 a1).f3)) = some (r1, r2) := by rw [if_neg (show ¬ (false = true) by decide)] at H; exact H
              clear H
              have H := H1
              clear H1
              have H' := Aside0.mk H
              clear H
              try go_wp2
              have n0_ := Aside0.mk (blk_drew BK301.out)
              have n1_ := Aside0.mk (blk_drew BK303.out)
              have n2_ := Aside0.mk (below_drew1 HB.out)
              clear BK301
              clear BK303
              clear HB
              have BK301 := n0_
              have BK303 := n1_
              have HB := n2_
              clear n0_ n1_ n2_
              refine start_ (n := 13) (S := fun w' => True) (ds := []) #[false, false, false, false, false, false, false, false, false, false, false, false, false] (by kernel_rfl) rfl rfl trivial (fun hHeld => ?_); refine with_tabW gleanerref4_checkFunc.tab6 gleanerref4_checkFunc.bits6 (fun HT_ HW_ => ?_)
              generalize wr.drew = w16 at BK301 BK303 HB hHeld ⊢
              refine pure_ (i := 0) (N := some 27) (v := ?_) (a' := ?_) #[true, false, false, false, false, false, false, false, false, false, false, false, false] rfl rfl (any_of HT_.out (by kernel_rfl)) (fun _ _ _ h => h) (Or.inl ⟨by rfl, ?_⟩) ?_ ?_
              rotate_left
              · intro w'
                go_simp
                with_reducible rfl
              rotate_left
              · simp only [Act.put, List.setIfInBounds_toArray, List.set_cons_zero, List.set_cons_succ, i64_w, i32_w]
                rfl
              refine pure_ (i := 1) (N := some 28) (v := ?_) (a' := ?_) #[true, true, false, false, false, false, false, false, false, false, false, false, false] rfl rfl (any_of HT_.out (by kernel_rfl)) (fun _ _ _ h => h) (Or.inl ⟨by rfl, ?_⟩) ?_ ?_
              rotate_left
              · intro w'
                go_simp
                with_reducible rfl
              rotate_left
              · simp only [Act.put, List.setIfInBounds_toArray, List.set_cons_zero, List.set_cons_succ, i64_w, i32_w]
                rfl
              refine pure_ (i := 2) (N := some 29) (v := undef) (a' := ?_) #[true, true, true, false, false, false, false, false, false, false, false, false, false] rfl rfl (any_of HT_.out (by kernel_rfl)) (fun _ _ _ h => h) (Or.inr ⟨by rfl, rfl⟩) ?_ ?_
              rotate_left
              · simp only [Act.put, List.setIfInBounds_toArray, List.set_cons_zero, List.set_cons_succ, i64_w, i32_w]
                rfl
              refine pure_ (i := 3) (N := some 30) (v := undef) (a' := ?_) #[true, true, true, true, false, false, false, false, false, false, false, false, false] rfl rfl (any_of HT_.out (by kernel_rfl)) (fun _ _ _ h => h) (Or.inr ⟨by rfl, rfl⟩) ?_ ?_
              rotate_left
              · simp only [Act.put, List.setIfInBounds_toArray, List.set_cons_zero, List.set_cons_succ, i64_w, i32_w]
                rfl
              refine pure_ (i := 4) (N := some 31) (v := undef) (a' := ?_) #[true, true, true, true, true, false, false, false, false, false, false, false, false] rfl rfl (any_of HT_.out (by kernel_rfl)) (fun _ _ _ h => h) (Or.inr ⟨by rfl, rfl⟩) ?_ ?_
              rotate_left
              · simp only [Act.put, List.setIfInBounds_toArray, List.set_cons_zero, List.set_cons_succ, i64_w, i32_w]
                rfl
              refine pure_ (i := 5) (N := some 32) (v := undef) (a' := ?_) #[true, true, true, true, true, true, false, false, false, false, false, false, false] rfl rfl (any_of HT_.out (by kernel_rfl)) (fun _ _ _ h => h) (Or.inr ⟨by rfl, rfl⟩) ?_ ?_
              rotate_left
              · simp only [Act.put, List.setIfInBounds_toArray, List.set_cons_zero, List.set_cons_succ, i64_w, i32_w]
                rfl
              refine pure_ (i := 6) (N := some 33) (v := undef) (a' := ?_) #[true, true, true, true, true, true, true, false, false, false, false, false, false] rfl rfl (any_of HT_.out (by kernel_rfl)) (fun _ _ _ h => h) (Or.inr ⟨by rfl, rfl⟩) ?_ ?_
              rotate_left
              · simp only [Act.put, List.setIfInBounds_toArray, List.set_cons_zero, List.set_cons_succ, i64_w, i32_w]
                rfl
              refine pure_ (i := 7) (N := some 34) (v := undef) (a' := ?_) #[true, true, true, true, true, true, true, true, false, false, false, false, false] rfl rfl (any_of HT_.out (by kernel_rfl)) (fun _ _ _ h => h) (Or.inr ⟨by rfl, rfl⟩) ?_ ?_
              rotate_left
              · simp only [Act.put, List.setIfInBounds_toArray, List.set_cons_zero, List.set_cons_succ, i64_w, i32_w]
                rfl
              refine pure_ (i := 8) (N := some 35) (v := undef) (a' := ?_) #[true, true, true, true, true, true, true, true, true, false, false, false, false] rfl rfl (any_of HT_.out (by kernel_rfl)) (fun _ _ _ h => h) (Or.inr ⟨by rfl, rfl⟩) ?_ ?_
              rotate_left
              · simp only [Act.put, List.setIfInBounds_toArray, List.set_cons_zero, List.set_cons_succ, i64_w, i32_w]
                rfl
              refine pure_ (i := 9) (N := some 36) (v := undef) (a' := ?_) #[true, true, true, true, true, true, true, true, true, true, false, false, false] rfl rfl (any_of HT_.out (by kernel_rfl)) (fun _ _ _ h => h) (Or.inr ⟨by rfl, rfl⟩) ?_ ?_
              rotate_left
              · simp only [Act.put, List.setIfInBounds_toArray, List.set_cons_zero, List.set_cons_succ, i64_w, i32_w]
                rfl
              refine pure_ (i := 10) (N := some 37) (v := undef) (a' := ?_) #[true, true, true, true, true, true, true, true, true, true, true, false, false] rfl rfl (any_of HT_.out (by kernel_rfl)) (fun _ _ _ h => h) (Or.inr ⟨by rfl, rfl⟩) ?_ ?_
              rotate_left
              · simp only [Act.put, List.setIfInBounds_toArray, List.set_cons_zero, List.set_cons_succ, i64_w, i32_w]
                rfl
              refine pure_ (i := 11) (N := some 38) (v := ?_) (a' := ?_) #[true, true, true, true, true, true, true, true, true, true, true, true, false] rfl rfl (any_of HT_.out (by kernel_rfl)) (fun _ _ _ h => h) (Or.inl ⟨by rfl, ?_⟩) ?_ ?_
              rotate_left
              · intro w'
                go_simp
                with_reducible rfl
              rotate_left
              · simp only [Act.put, List.setIfInBounds_toArray, List.set_cons_zero, List.set_cons_succ, i64_w, i32_w]
                rfl
              refine pure_ (i := 12) (N := some 7) (v := ?_) (a' := ?_) #[true, true, true, true, true, true, true, true, true, true, true, true, true] rfl rfl (any_of HT_.out (by kernel_rfl)) (fun _ _ _ h => h) (Or.inl ⟨by rfl, ?_⟩) ?_ ?_
              rotate_left
              · intro w'
                go_simp
                with_reducible rfl
              rotate_left
              · simp only [Act.put, List.setIfInBounds_toArray, List.set_cons_zero, List.set_cons_succ, i64_w, i32_w]
                rfl
              refine done_ (done_of HT_.out (by kernel_rfl)) ?_
              try go_wp2
              go_roundg k1
              case measure => have := HK1.out; omega
              case rel => exact ⟨(false), (wrap64 (x8_1 + 1)), (by first | rfl | (simp; done) | (simp [*]; done)), (by first | rfl | (simp; done) | (simp [*]; done)), H', ⟨by have := HK1.out; omega⟩, ⟨by (with_reducible repeat (first | refine blk_drewN ?_ _ | refine blk_drew ?_ | refine blk_alloc ?_ _)); exact BK301.out⟩, ⟨by (with_reducible repeat (first | refine blk_drewN ?_ _ | refine blk_drew ?_ | refine blk_alloc ?_ _)); exact BK303.out⟩, ⟨by repeat (first | (with_reducible first | exact HB.out | apply below_alloc | apply pw_below_drewN | apply below_drew1 | refine below_set ?_ GE301.out | refine below_set ?_ GE303.out) | exact HB.out)⟩⟩
          · rw [if_neg c11] at H
            have c11b0 : decide (x8_1 < a1) = false := decide_eq_false c11
            clear c11
            by_cases c17 : x7_1 = true
            · subst c17
              have H1 : (if ((rd_T50 l0_0 a1).f1) < 0 then (gleanerref4_checkFunc.j1 k1 true l0_0 a0_1 l0_2 a0_3 a0_4 ((rd_T50 l0_0 a1).f0) ((rd_T50 l0_0 a1).f1) ((rd_T50 l0_0 a1).f2) ((rd_T50 l0_0 a1).f3)) else (gleanerref4_checkFunc.j1 k1 (decide (((rd_T50 l0_0 a1).f1) > 8)) l0_0 a0_1 l0_2 a0_3 a0_4 ((rd_T50 l0_0 a1).f0) ((rd_T50 l0_0 a1).f1) ((rd_T50 l0_0 a1).f2) ((rd_T50 l0_0 a1).f3))) = some (r1, r2) := by rw [if_pos rfl] at H; exact H
              clear H
              have H := H1
              clear H1
              have HC18 := Aside0.mk H
              clear H
              go_upto_region 9 with (fail)
              go_cut [42] (fun v42 wc => ∃ (kq : Nat) (x42_17 : Bool), v42 = .bool x42_17 ∧ Aside0 (gleanerref4_checkFunc.j1 kq x42_17 l0_0 a0_1 l0_2 a0_3 a0_4 ((rd_T50 l0_0 a1).f0) ((rd_T50 l0_0 a1).f1) ((rd_T50 l0_0 a1).f2) ((rd_T50 l0_0 a1).f3) = some (r1, r2)) ∧ Aside0 (kq ≤ k1) ∧ Aside0 (wc.heap[gb301]? = some (.cells #[(.slice (some ad302) l0_0.length c0_0), .int .i64 a0_1, (.slice A0_2 l0_2.length c0_2), .int .i64 a0_3, .int .i64 a0_4] 25 (0, 0))) ∧ Aside0 (wc.heap[gb303]? = some (.cells #[.string ((rd_T50 l0_0 a1).f0), .int .i64 ((rd_T50 l0_0 a1).f1), .int .i64 ((rd_T50 l0_0 a1).f2), (.slice A302_3 ((rd_T50 l0_0 a1).f3).length c302_3)] 50 (0, 0))) ∧ Aside0 (Below w.heap.size w wc))
              case first =>
                have H := HC18.out
                clear HC18
                by_cases c19 : ((rd_T50 l0_0 a1).f1) < 0
                · rw [if_pos c19] at H
                  have c19b0 : decide (((rd_T50 l0_0 a1).f1) < 0) = true := decide_eq_true c19
                  clear c19
                  (first | rw [c19b0] | (simp only [i64_w, i32_w]; rw [c19b0]) | skip)
                  have H' := Aside0.mk H
                  clear H
                  have hnb20 := NB303_301.out
                  have hnc20 := NB301_303.out
                  have hcz21_0 : wr.cell? ⟨gb303, 0, none⟩ = some (.string ((rd_T50 l0_0 a1).f0)) := (blk_cell BK303.out 0).trans rfl
                  have hcz21_1 : wr.cell? ⟨gb303, 1, none⟩ = some (.int .i64 ((rd_T50 l0_0 a1).f1)) := (blk_cell BK303.out 1).trans rfl
                  have hcz21_2 : wr.cell? ⟨gb303, 2, none⟩ = some (.int .i64 ((rd_T50 l0_0 a1).f2)) := (blk_cell BK303.out 2).trans rfl
                  have hcz21_3 : wr.cell? ⟨gb303, 3, none⟩ = some (.slice A302_3 ((rd_T50 l0_0 a1).f3).length c302_3) := (blk_cell BK303.out 3).trans rfl
                  have hfz21_0 := blk_frozen BK303.out 0
                  have hfz21_1 := blk_frozen BK303.out 1
                  have hfz21_2 := blk_frozen BK303.out 2
                  have hfz21_3 := blk_frozen BK303.out 3
                  go_wp2
                  go_meet
                  case rel => exact ⟨_, (true), (by first | rfl | (simp; done) | (simp [*]; done)), H', ⟨by have := HK1.out; first | omega | exact Nat.le_refl _⟩, ⟨by (with_reducible repeat (first | refine blk_drewN ?_ _ | refine blk_drew ?_ | refine blk_alloc ?_ _)); exact BK301.out⟩, ⟨by (with_reducible repeat (first | refine blk_drewN ?_ _ | refine blk_drew ?_ | refine blk_alloc ?_ _)); exact BK303.out⟩, ⟨by repeat (first | (with_reducible first | exact HB.out | apply below_alloc | apply pw_below_drewN | apply below_drew1 | refine below_set ?_ GE301.out | refine below_set ?_ GE303.out) | exact HB.out)⟩⟩
                · rw [if_neg c19] at H
                  have c19b0 : decide (((rd_T50 l0_0 a1).f1) < 0) = false := decide_eq_false c19
                  clear c19
                  (first | rw [c19b0] | (simp only [i64_w, i32_w]; rw [c19b0]) | skip)
                  have H' := Aside0.mk H
                  clear H
                  have hnb22 := NB303_301.out
                  have hnc22 := NB301_303.out
                  have hcz23_0 : wr.cell? ⟨gb303, 0, none⟩ = some (.string ((rd_T50 l0_0 a1).f0)) := (blk_cell BK303.out 0).trans rfl
                  have hcz23_1 : wr.cell? ⟨gb303, 1, none⟩ = some (.int .i64 ((rd_T50 l0_0 a1).f1)) := (blk_cell BK303.out 1).trans rfl
                  have hcz23_2 : wr.cell? ⟨gb303, 2, none⟩ = some (.int .i64 ((rd_T50 l0_0 a1).f2)) := (blk_cell BK303.out 2).trans rfl
                  have hcz23_3 : wr.cell? ⟨gb303, 3, none⟩ = some (.slice A302_3 ((rd_T50 l0_0 a1).f3).length c302_3) := (blk_cell BK303.out 3).trans rfl
                  have hfz23_0 := blk_frozen BK303.out 0
                  have hfz23_1 := blk_frozen BK303.out 1
                  have hfz23_2 := blk_frozen BK303.out 2
                  have hfz23_3 := blk_frozen BK303.out 3
                  go_wp2
                  go_meet
                  case rel => exact ⟨_, (decide (((rd_T50 l0_0 a1).f1) > 8)), (by first | rfl | (simp; done) | (simp [*]; done)), H', ⟨by have := HK1.out; first | omega | exact Nat.le_refl _⟩, ⟨by (with_reducible repeat (first | refine blk_drewN ?_ _ | refine blk_drew ?_ | refine blk_alloc ?_ _)); exact BK301.out⟩, ⟨by (with_reducible repeat (first | refine blk_drewN ?_ _ | refine blk_drew ?_ | refine blk_alloc ?_ _)); exact BK303.out⟩, ⟨by repeat (first | (with_reducible first | exact HB.out | apply below_alloc | apply pw_below_drewN | apply below_drew1 | refine below_set ?_ GE301.out | refine below_set ?_ GE303.out) | exact HB.out)⟩⟩
              case rest =>
                clear HC18
                try clear c1
                try clear c2
                try clear p2
                try clear c3
                try clear c3b0
                try clear p3
                try clear q3
                try clear hx3
                try clear c4
                try clear c4b0
                try clear c5
                try clear p6
                try clear c9
                try clear c11
                try clear c11b0
                try clear c12
                try clear c13
                try clear c13b0
                try clear c14
                try clear c14b0
                try clear c17
                try clear c19
                try clear c19b0
                try clear c20
                try clear c22
                try clear hcz10_0
                try clear hcz10_1
                try clear hcz10_2
                try clear hcz10_3
                try clear hcz21_0
                try clear hcz21_1
                try clear hcz21_2
                try clear hcz21_3
                try clear hcz23_0
                try clear hcz23_1
                try clear hcz23_2
                try clear hcz23_3
                try clear hcz7_0
                try clear hcz7_1
                try clear hcz7_2
                try clear hcz7_3
                try clear hcz7_4
                try clear hfz10_0
                try clear hfz10_1
                try clear hfz10_2
                try clear hfz10_3
                try clear hfz21_0
                try clear hfz21_1
                try clear hfz21_2
                try clear hfz21_3
                try clear hfz23_0
                try clear hfz23_1
                try clear hfz23_2
                try clear hfz23_3
                try clear hfz7_0
                try clear hfz7_1
                try clear hfz7_2
                try clear hfz7_3
                try clear hfz7_4
                try clear hx302_0
                try clear hx302_1
                try clear hx302_2
                try clear hx302_3
                try clear hx305_0
                try clear hx305_1
                try clear hx305_2
                try clear hx305_3
                try clear p2
                try clear p3
                try clear p302
                try clear p305
                try clear q3
                try clear q302
                try clear q305
                obtain ⟨kq, x42_17, rfl, HA, HJ17, BK301, BK303, HB⟩ := hcut
                cases kq with
                | zero => exact absurd HA.out (by simp [gleanerref4_checkFunc.j1])
                | succ kj17 =>
                  have H := HA.out
                  clear HA
                  simp only [gleanerref4_checkFunc.j1] at H
                  by_cases c24 : x42_17 = true
                  · subst c24
                    have H1 : (some (0, 15)) = some (r1, r2) := by rw [if_pos rfl] at H; exact H
                    clear H
                    have H := H1
                    clear H1
                    simp only [Option.some.injEq, Prod.mk.injEq] at H
                    obtain ⟨rfl, rfl⟩ := H
                    go_wp2
                    go_ret2
                    exact ⟨by first | rfl | (simp [errW_none, errW_some] <;> rfl) | (simp [*, errW_none, errW_some] <;> rfl), by repeat (first | (with_reducible first | exact HB.out | apply below_alloc | apply pw_below_drewN | apply below_drew1 | refine below_set ?_ GE301.out | refine below_set ?_ GE303.out) | exact HB.out)⟩
                  · replace c24 := Bool.eq_false_iff.mpr c24
                    subst c24
                    have H1 : (if ((rd_T50 l0_0 a1).f2) < ((rd_T50 l0_0 a1).f1) then (gleanerref4_checkFunc.j2 kj17 true l0_0 a0_1 l0_2 a0_3 a0_4 ((rd_T50 l0_0 a1).f0) ((rd_T50 l0_0 a1).f1) ((rd_T50 l0_0 a1).f2) ((rd_T50 l0_0 a1).f3)) else (gleanerref4_checkFunc.j2 kj17 (decide (((rd_T50 l0_0 a1).f2) > 16)) l0_0 a0_1 l0_2 a0_3 a0_4 ((rd_T50 l0_0 a1).f0) ((rd_T50 l0_0 a1).f1) ((rd_T50 l0_0 a1).f2) ((rd_T50 l0_0 a1).f3))) = some (r1, r2) := by rw [if_neg (show ¬ (false = true) by decide)] at H; exact H
                    clear H
                    have H := H1
                    clear H1
                    have HC25 := Aside0.mk H
                    clear H
                    go_upto_region 11 with (fail)
                    go_cut [51] (fun v51 wc => ∃ (kq : Nat) (x51_24 : Bool), v51 = .bool x51_24 ∧ Aside0 (gleanerref4_checkFunc.j2 kq x51_24 l0_0 a0_1 l0_2 a0_3 a0_4 ((rd_T50 l0_0 a1).f0) ((rd_T50 l0_0 a1).f1) ((rd_T50 l0_0 a1).f2) ((rd_T50 l0_0 a1).f3) = some (r1, r2)) ∧ Aside0 (kq ≤ kj17) ∧ Aside0 (wc.heap[gb301]? = some (.cells #[(.slice (some ad302) l0_0.length c0_0), .int .i64 a0_1, (.slice A0_2 l0_2.length c0_2), .int .i64 a0_3, .int .i64 a0_4] 25 (0, 0))) ∧ Aside0 (wc.heap[gb303]? = some (.cells #[.string ((rd_T50 l0_0 a1).f0), .int .i64 ((rd_T50 l0_0 a1).f1), .int .i64 ((rd_T50 l0_0 a1).f2), (.slice A302_3 ((rd_T50 l0_0 a1).f3).length c302_3)] 50 (0, 0))) ∧ Aside0 (Below w.heap.size w wc))
                    case first =>
                      have H := HC25.out
                      clear HC25
                      by_cases c26 : ((rd_T50 l0_0 a1).f2) < ((rd_T50 l0_0 a1).f1)
                      · rw [if_pos c26] at H
                        have c26b0 : decide (((rd_T50 l0_0 a1).f2) < ((rd_T50 l0_0 a1).f1)) = true := decide_eq_true c26
                        clear c26
                        (first | rw [c26b0] | (simp only [i64_w, i32_w]; rw [c26b0]) | skip)
                        have H' := Aside0.mk H
                        clear H
                        have hnb27 := NB303_301.out
                        have hnc27 := NB301_303.out
                        have hcz28_0 : wc.cell? ⟨gb303, 0, none⟩ = some (.string ((rd_T50 l0_0 a1).f0)) := (blk_cell BK303.out 0).trans rfl
                        have hcz28_1 : wc.cell? ⟨gb303, 1, none⟩ = some (.int .i64 ((rd_T50 l0_0 a1).f1)) := (blk_cell BK303.out 1).trans rfl
                        have hcz28_2 : wc.cell? ⟨gb303, 2, none⟩ = some (.int .i64 ((rd_T50 l0_0 a1).f2)) := (blk_cell BK303.out 2).trans rfl
                        have hcz28_3 : wc.cell? ⟨gb303, 3, none⟩ = some (.slice A302_3 ((rd_T50 l0_0 a1).f3).length c302_3) := (blk_cell BK303.out 3).trans rfl
                        have hfz28_0 := blk_frozen BK303.out 0
                        have hfz28_1 := blk_frozen BK303.out 1
                        have hfz28_2 := blk_frozen BK303.out 2
                        have hfz28_3 := blk_frozen BK303.out 3
                        go_wp2
                        go_meet
                        case rel => exact ⟨_, (true), (by first | rfl | (simp; done) | (simp [*]; done)), H', ⟨by have := HK1.out; have := HJ17.out; first | omega | exact Nat.le_refl _⟩, ⟨by (with_reducible repeat (first | refine blk_drewN ?_ _ | refine blk_drew ?_ | refine blk_alloc ?_ _)); exact BK301.out⟩, ⟨by (with_reducible repeat (first | refine blk_drewN ?_ _ | refine blk_drew ?_ | refine blk_alloc ?_ _)); exact BK303.out⟩, ⟨by repeat (first | (with_reducible first | exact HB.out | apply below_alloc | apply pw_below_drewN | apply below_drew1 | refine below_set ?_ GE301.out | refine below_set ?_ GE303.out) | exact HB.out)⟩⟩
                      · rw [if_neg c26] at H
                        have c26b0 : decide (((rd_T50 l0_0 a1).f2) < ((rd_T50 l0_0 a1).f1)) = false := decide_eq_false c26
                        clear c26
                        (first | rw [c26b0] | (simp only [i64_w, i32_w]; rw [c26b0]) | skip)
                        have H' := Aside0.mk H
                        clear H
                        have hnb29 := NB303_301.out
                        have hnc29 := NB301_303.out
                        have hcz30_0 : wc.cell? ⟨gb303, 0, none⟩ = some (.string ((rd_T50 l0_0 a1).f0)) := (blk_cell BK303.out 0).trans rfl
                        have hcz30_1 : wc.cell? ⟨gb303, 1, none⟩ = some (.int .i64 ((rd_T50 l0_0 a1).f1)) := (blk_cell BK303.out 1).trans rfl
                        have hcz30_2 : wc.cell? ⟨gb303, 2, none⟩ = some (.int .i64 ((rd_T50 l0_0 a1).f2)) := (blk_cell BK303.out 2).trans rfl
                        have hcz30_3 : wc.cell? ⟨gb303, 3, none⟩ = some (.slice A302_3 ((rd_T50 l0_0 a1).f3).length c302_3) := (blk_cell BK303.out 3).trans rfl
                        have hfz30_0 := blk_frozen BK303.out 0
                        have hfz30_1 := blk_frozen BK303.out 1
                        have hfz30_2 := blk_frozen BK303.out 2
                        have hfz30_3 := blk_frozen BK303.out 3
                        go_wp2
                        go_meet
                        case rel => exact ⟨_, (decide (((rd_T50 l0_0 a1).f2) > 16)), (by first | rfl | (simp; done) | (simp [*]; done)), H', ⟨by have := HK1.out; have := HJ17.out; first | omega | exact Nat.le_refl _⟩, ⟨by (with_reducible repeat (first | refine blk_drewN ?_ _ | refine blk_drew ?_ | refine blk_alloc ?_ _)); exact BK301.out⟩, ⟨by (with_reducible repeat (first | refine blk_drewN ?_ _ | refine blk_drew ?_ | refine blk_alloc ?_ _)); exact BK303.out⟩, ⟨by repeat (first | (with_reducible first | exact HB.out | apply below_alloc | apply pw_below_drewN | apply below_drew1 | refine below_set ?_ GE301.out | refine below_set ?_ GE303.out) | exact HB.out)⟩⟩
                    case rest =>
                      clear HC25
                      try clear c1
                      try clear c2
                      try clear p2
                      try clear c3
                      try clear c3b0
                      try clear p3
                      try clear q3
                      try clear hx3
                      try clear c4
                      try clear c4b0
                      try clear c5
                      try clear p6
                      try clear c9
                      try clear c11
                      try clear c11b0
                      try clear c12
                      try clear c13
                      try clear c13b0
                      try clear c14
                      try clear c14b0
                      try clear c17
                      try clear c19
                      try clear c19b0
                      try clear c20
                      try clear c22
                      try clear c24
                      try clear c26
                      try clear c26b0
                      try clear c27
                      try clear c29
                      try clear c30
                      try clear p30
                      try clear q30
                      try clear hx30
                      try clear hcz10_0
                      try clear hcz10_1
                      try clear hcz10_2
                      try clear hcz10_3
                      try clear hcz21_0
                      try clear hcz21_1
                      try clear hcz21_2
                      try clear hcz21_3
                      try clear hcz23_0
                      try clear hcz23_1
                      try clear hcz23_2
                      try clear hcz23_3
                      try clear hcz28_0
                      try clear hcz28_1
                      try clear hcz28_2
                      try clear hcz28_3
                      try clear hcz30_0
                      try clear hcz30_1
                      try clear hcz30_2
                      try clear hcz30_3
                      try clear hcz7_0
                      try clear hcz7_1
                      try clear hcz7_2
                      try clear hcz7_3
                      try clear hcz7_4
                      try clear hfz10_0
                      try clear hfz10_1
                      try clear hfz10_2
                      try clear hfz10_3
                      try clear hfz21_0
                      try clear hfz21_1
                      try clear hfz21_2
                      try clear hfz21_3
                      try clear hfz23_0
                      try clear hfz23_1
                      try clear hfz23_2
                      try clear hfz23_3
                      try clear hfz28_0
                      try clear hfz28_1
                      try clear hfz28_2
                      try clear hfz28_3
                      try clear hfz30_0
                      try clear hfz30_1
                      try clear hfz30_2
                      try clear hfz30_3
                      try clear hfz7_0
                      try clear hfz7_1
                      try clear hfz7_2
                      try clear hfz7_3
                      try clear hfz7_4
                      try clear hx302_0
                      try clear hx302_1
                      try clear hx302_2
                      try clear hx302_3
                      try clear hx305_0
                      try clear hx305_1
                      try clear hx305_2
                      try clear hx305_3
                      try clear p2
                      try clear p3
                      try clear p302
                      try clear p305
                      try clear p6
                      try clear q3
                      try clear q302
                      try clear q305
                      obtain ⟨kq, x51_24, rfl, HA, HJ24, BK301, BK303, HB⟩ := hcut
                      cases kq with
                      | zero => exact absurd HA.out (by simp [gleanerref4_checkFunc.j2])
                      | succ kj24 =>
                        have H := HA.out
                        clear HA
                        simp only [gleanerref4_checkFunc.j2] at H
                        by_cases c31 : x51_24 = true
                        · subst c31
                          have H1 : (some (0, 13)) = some (r1, r2) := by rw [if_pos rfl] at H; exact H
                          clear H
                          have H := H1
                          clear H1
                          simp only [Option.some.injEq, Prod.mk.injEq] at H
                          obtain ⟨rfl, rfl⟩ := H
                          go_wp2
                          go_ret2
                          exact ⟨by first | rfl | (simp [errW_none, errW_some] <;> rfl) | (simp [*, errW_none, errW_some] <;> rfl), by repeat (first | (with_reducible first | exact HB.out | apply below_alloc | apply pw_below_drewN | apply below_drew1 | refine below_set ?_ GE301.out | refine below_set ?_ GE303.out) | exact HB.out)⟩
                        · replace c31 := Bool.eq_false_iff.mpr c31
                          subst c31
                          have H1 : (if (((rd_T50 l0_0 a1).f3).length : Int) = 0 then (some (0, 3)) else (if (((rd_T50 l0_0 a1).f3).length : Int) > 256 then (some (0, 3)) else (gleanerref4_checkFunc.l1 kj24 0 l0_0 a0_1 l0_2 a0_3 a0_4 ((rd_T50 l0_0 a1).f0) ((rd_T50 l0_0 a1).f1) ((rd_T50 l0_0 a1).f2) ((rd_T50 l0_0 a1).f3)))) = some (r1, r2) := by rw [if_neg (show ¬ (false = true) by decide)] at H; exact H
                          clear H
                          have H := H1
                          clear H1
                          by_cases c32 : (((rd_T50 l0_0 a1).f3).length : Int) = 0
                          · rw [if_pos c32] at H
                            have c32b0 : ((((rd_T50 l0_0 a1).f3).length : Int) == 0) = true := beq_iff_eq.mpr c32
                            have c32b1 : ((((rd_T50 l0_0 a1).f3).length : Int) != 0) = false := bne_eq_false_iff_eq.mpr c32
                            clear c32
                            simp only [Option.some.injEq, Prod.mk.injEq] at H
                            obtain ⟨rfl, rfl⟩ := H
                            have hnb33 := NB303_301.out
                            have hnc33 := NB301_303.out
                            have hcz34_0 : wc.cell? ⟨gb303, 0, none⟩ = some (.string ((rd_T50 l0_0 a1).f0)) := (blk_cell BK303.out 0).trans rfl
                            have hcz34_1 : wc.cell? ⟨gb303, 1, none⟩ = some (.int .i64 ((rd_T50 l0_0 a1).f1)) := (blk_cell BK303.out 1).trans rfl
                            have hcz34_2 : wc.cell? ⟨gb303, 2, none⟩ = some (.int .i64 ((rd_T50 l0_0 a1).f2)) := (blk_cell BK303.out 2).trans rfl
                            have hcz34_3 : wc.cell? ⟨gb303, 3, none⟩ = some (.slice A302_3 ((rd_T50 l0_0 a1).f3).length c302_3) := (blk_cell BK303.out 3).trans rfl
                            have hfz34_0 := blk_frozen BK303.out 0
                            have hfz34_1 := blk_frozen BK303.out 1
                            have hfz34_2 := blk_frozen BK303.out 2
                            have hfz34_3 := blk_frozen BK303.out 3
                            go_wp2
                            go_ret2
                            exact ⟨by first | rfl | (simp [errW_none, errW_some] <;> rfl) | (simp [*, errW_none, errW_some] <;> rfl), by repeat (first | (with_reducible first | exact HB.out | apply below_alloc | apply pw_below_drewN | apply below_drew1 | refine below_set ?_ GE301.out | refine below_set ?_ GE303.out) | exact HB.out)⟩
                          · rw [if_neg c32] at H
                            have c32b0 : ((((rd_T50 l0_0 a1).f3).length : Int) == 0) = false := beq_eq_false_iff_ne.mpr c32
                            have c32b1 : ((((rd_T50 l0_0 a1).f3).length : Int) != 0) = true := bne_iff_ne.mpr c32
                            have c32b2 : ¬ (((rd_T50 l0_0 a1).f3) = []) := fun h_ => c32 (by rw [h_]; rfl)
                            by_cases c35 : (((rd_T50 l0_0 a1).f3).length : Int) > 256
                            · rw [if_pos c35] at H
                              have c35b0 : decide (256 < (((rd_T50 l0_0 a1).f3).length : Int)) = true := decide_eq_true c35
                              have c35b1 : decide (256 < ((rd_T50 l0_0 a1).f3).length) = true := decide_eq_true (by omega)
                              clear c35
                              simp only [Option.some.injEq, Prod.mk.injEq] at H
                              obtain ⟨rfl, rfl⟩ := H
                              have hnb36 := NB303_301.out
                              have hnc36 := NB301_303.out
                              have hcz37_0 : wc.cell? ⟨gb303, 0, none⟩ = some (.string ((rd_T50 l0_0 a1).f0)) := (blk_cell BK303.out 0).trans rfl
                              have hcz37_1 : wc.cell? ⟨gb303, 1, none⟩ = some (.int .i64 ((rd_T50 l0_0 a1).f1)) := (blk_cell BK303.out 1).trans rfl
                              have hcz37_2 : wc.cell? ⟨gb303, 2, none⟩ = some (.int .i64 ((rd_T50 l0_0 a1).f2)) := (blk_cell BK303.out 2).trans rfl
                              have hcz37_3 : wc.cell? ⟨gb303, 3, none⟩ = some (.slice A302_3 ((rd_T50 l0_0 a1).f3).length c302_3) := (blk_cell BK303.out 3).trans rfl
                              have hfz37_0 := blk_frozen BK303.out 0
                              have hfz37_1 := blk_frozen BK303.out 1
                              have hfz37_2 := blk_frozen BK303.out 2
                              have hfz37_3 := blk_frozen BK303.out 3
                              go_wp2
                              go_ret2
                              exact ⟨by first | rfl | (simp [errW_none, errW_some] <;> rfl) | (simp [*, errW_none, errW_some] <;> rfl), by repeat (first | (with_reducible first | exact HB.out | apply below_alloc | apply pw_below_drewN | apply below_drew1 | refine below_set ?_ GE301.out | refine below_set ?_ GE303.out) | exact HB.out)⟩
                            · rw [if_neg c35] at H
                              have c35b0 : decide (256 < (((rd_T50 l0_0 a1).f3).length : Int)) = false := decide_eq_false c35
                              have c35b1 : decide (256 < ((rd_T50 l0_0 a1).f3).length) = false := decide_eq_false (by omega)
                              clear c35
                              have H' := Aside0.mk H
                              clear H
                              have hnb38 := NB303_301.out
                              have hnc38 := NB301_303.out
                              have hcz39_0 : wc.cell? ⟨gb303, 0, none⟩ = some (.string ((rd_T50 l0_0 a1).f0)) := (blk_cell BK303.out 0).trans rfl
                              have hcz39_1 : wc.cell? ⟨gb303, 1, none⟩ = some (.int .i64 ((rd_T50 l0_0 a1).f1)) := (blk_cell BK303.out 1).trans rfl
                              have hcz39_2 : wc.cell? ⟨gb303, 2, none⟩ = some (.int .i64 ((rd_T50 l0_0 a1).f2)) := (blk_cell BK303.out 2).trans rfl
                              have hcz39_3 : wc.cell? ⟨gb303, 3, none⟩ = some (.slice A302_3 ((rd_T50 l0_0 a1).f3).length c302_3) := (blk_cell BK303.out 3).trans rfl
                              have hfz39_0 := blk_frozen BK303.out 0
                              have hfz39_1 := blk_frozen BK303.out 1
                              have hfz39_2 := blk_frozen BK303.out 2
                              have hfz39_3 := blk_frozen BK303.out 3
                              go_wp2
                              go_loopg [9] kj24 (fun kq v9 w' => ∃ (x9_4 : Int), v9 = .int .i64 x9_4 ∧ Aside0 (gleanerref4_checkFunc.l1 kq x9_4 l0_0 a0_1 l0_2 a0_3 a0_4 ((rd_T50 l0_0 a1).f0) ((rd_T50 l0_0 a1).f1) ((rd_T50 l0_0 a1).f2) ((rd_T50 l0_0 a1).f3) = some (r1, r2)) ∧ Aside0 (kq ≤ kj24) ∧ Aside0 (w'.heap[gb301]? = some (.cells #[(.slice (some ad302) l0_0.length c0_0), .int .i64 a0_1, (.slice A0_2 l0_2.length c0_2), .int .i64 a0_3, .int .i64 a0_4] 25 (0, 0))) ∧ Aside0 (w'.heap[gb303]? = some (.cells #[.string ((rd_T50 l0_0 a1).f0), .int .i64 ((rd_T50 l0_0 a1).f1), .int .i64 ((rd_T50 l0_0 a1).f2), (.slice A302_3 ((rd_T50 l0_0 a1).f3).length c302_3)] 50 (0, 0))) ∧ Aside0 (Below w.heap.size w w'))
                              case atStart => exact ⟨(0), (by first | rfl | (simp; done) | (simp [*]; done)), H', ⟨Nat.le_refl _⟩, ⟨by (with_reducible repeat (first | refine blk_drewN ?_ _ | refine blk_drew ?_ | refine blk_alloc ?_ _)); exact BK301.out⟩, ⟨by (with_reducible repeat (first | refine blk_drewN ?_ _ | refine blk_drew ?_ | refine blk_alloc ?_ _)); exact BK303.out⟩, ⟨by repeat (first | (with_reducible first | exact HB.out | apply below_alloc | apply pw_below_drewN | apply below_drew1 | refine below_set ?_ GE301.out | refine below_set ?_ GE303.out) | exact HB.out)⟩⟩
                              case round =>
                                clear H'
                                try clear c1
                                try clear c2
                                try clear p2
                                try clear c3
                                try clear c3b0
                                try clear p3
                                try clear q3
                                try clear hx3
                                try clear c4
                                try clear c4b0
                                try clear c5
                                try clear p6
                                try clear c9
                                try clear c11
                                try clear c11b0
                                try clear c12
                                try clear c13
                                try clear c13b0
                                try clear c14
                                try clear c14b0
                                try clear c17
                                try clear c19
                                try clear c19b0
                                try clear c20
                                try clear c22
                                try clear c24
                                try clear c26
                                try clear c26b0
                                try clear c27
                                try clear c29
                                try clear c30
                                try clear p30
                                try clear q30
                                try clear hx30
                                try clear c31
                                try clear c32
                                try clear c32b0
                                try clear c32b1
                                try clear c32b2
                                try clear c33
                                try clear c35
                                try clear c35b0
                                try clear c35b1
                                try clear c36
                                try clear c38
                                try clear hcz10_0
                                try clear hcz10_1
                                try clear hcz10_2
                                try clear hcz10_3
                                try clear hcz21_0
                                try clear hcz21_1
                                try clear hcz21_2
                                try clear hcz21_3
                                try clear hcz23_0
                                try clear hcz23_1
                                try clear hcz23_2
                                try clear hcz23_3
                                try clear hcz28_0
                                try clear hcz28_1
                                try clear hcz28_2
                                try clear hcz28_3
                                try clear hcz30_0
                                try clear hcz30_1
                                try clear hcz30_2
                                try clear hcz30_3
                                try clear hcz34_0
                                try clear hcz34_1
                                try clear hcz34_2
                                try clear hcz34_3
                                try clear hcz37_0
                                try clear hcz37_1
                                try clear hcz37_2
                                try clear hcz37_3
                                try clear hcz39_0
                                try clear hcz39_1
                                try clear hcz39_2
                                try clear hcz39_3
                                try clear hcz7_0
                                try clear hcz7_1
                                try clear hcz7_2
                                try clear hcz7_3
                                try clear hcz7_4
                                try clear hfz10_0
                                try clear hfz10_1
                                try clear hfz10_2
                                try clear hfz10_3
                                try clear hfz21_0
                                try clear hfz21_1
                                try clear hfz21_2
                                try clear hfz21_3
                                try clear hfz23_0
                                try clear hfz23_1
                                try clear hfz23_2
                                try clear hfz23_3
                                try clear hfz28_0
                                try clear hfz28_1
                                try clear hfz28_2
                                try clear hfz28_3
                                try clear hfz30_0
                                try clear hfz30_1
                                try clear hfz30_2
                                try clear hfz30_3
                                try clear hfz34_0
                                try clear hfz34_1
                                try clear hfz34_2
                                try clear hfz34_3
                                try clear hfz37_0
                                try clear hfz37_1
                                try clear hfz37_2
                                try clear hfz37_3
                                try clear hfz39_0
                                try clear hfz39_1
                                try clear hfz39_2
                                try clear hfz39_3
                                try clear hfz7_0
                                try clear hfz7_1
                                try clear hfz7_2
                                try clear hfz7_3
                                try clear hfz7_4
                                try clear hx302_0
                                try clear hx302_1
                                try clear hx302_2
                                try clear hx302_3
                                try clear hx305_0
                                try clear hx305_1
                                try clear hx305_2
                                try clear hx305_3
                                try clear p2
                                try clear p3
                                try clear p30
                                try clear p302
                                try clear p305
                                try clear p6
                                try clear q3
                                try clear q30
                                try clear q302
                                try clear q305
                                obtain ⟨x9_4, rfl, HA, HK4, BK301, BK303, HB⟩ := hrel
                                cases gk with
                                | zero => exact absurd HA.out (by simp [gleanerref4_checkFunc.l1])
                                | succ k4 =>
                                  have H := HA.out
                                  clear HA
                                  simp only [gleanerref4_checkFunc.l1] at H
                                  by_cases c40 : x9_4 < (((rd_T50 l0_0 a1).f3).length : Int)
                                  · rw [if_pos c40] at H
                                    have c40b0 : decide (x9_4 < (((rd_T50 l0_0 a1).f3).length : Int)) = true := decide_eq_true c40
                                    clear c40
                                    by_cases c41 : 0 ≤ x9_4
                                    · rw [if_pos c41] at H
                                      have c41b0 : decide (0 ≤ x9_4) = true := decide_eq_true c41
                                      clear c41
                                      replace H := Option.bind_eq_some_iff.mp H
                                      obtain ⟨t307, A420, H⟩ := H
                                      replace H : (if t307 = 0 then (gleanerref4_checkFunc.l1 k4 (wrap64 (x9_4 + 1)) l0_0 a0_1 l0_2 a0_3 a0_4 ((rd_T50 l0_0 a1).f0) ((rd_T50 l0_0 a1).f1) ((rd_T50 l0_0 a1).f2) ((rd_T50 l0_0 a1).f3)) else (some (x9_4, t307))) = some (r1, r2) := H
                                      have A42 := Aside0.mk A420
                                      clear A420
                                      by_cases c43 : t307 = 0
                                      · rw [if_pos c43] at H
                                        have c43b0 : (t307 == 0) = true := beq_iff_eq.mpr c43
                                        have c43b1 : (t307 != 0) = false := bne_eq_false_iff_eq.mpr c43
                                        clear c43
                                        have H' := Aside0.mk H
                                        clear H
                                        have hnb44 := NB303_301.out
                                        have hnc44 := NB301_303.out
                                        have hcz45_0 : wr.cell? ⟨gb303, 0, none⟩ = some (.string ((rd_T50 l0_0 a1).f0)) := (blk_cell BK303.out 0).trans rfl
                                        have hcz45_1 : wr.cell? ⟨gb303, 1, none⟩ = some (.int .i64 ((rd_T50 l0_0 a1).f1)) := (blk_cell BK303.out 1).trans rfl
                                        have hcz45_2 : wr.cell? ⟨gb303, 2, none⟩ = some (.int .i64 ((rd_T50 l0_0 a1).f2)) := (blk_cell BK303.out 2).trans rfl
                                        have hcz45_3 : wr.cell? ⟨gb303, 3, none⟩ = some (.slice A302_3 ((rd_T50 l0_0 a1).f3).length c302_3) := (blk_cell BK303.out 3).trans rfl
                                        have hfz45_0 := blk_frozen BK303.out 0
                                        have hfz45_1 := blk_frozen BK303.out 1
                                        have hfz45_2 := blk_frozen BK303.out 2
                                        have hfz45_3 := blk_frozen BK303.out 3
                                        try go_wp2
                                        have n0_ := Aside0.mk (blk_drew BK301.out)
                                        have n1_ := Aside0.mk (blk_drew BK303.out)
                                        have n2_ := Aside0.mk (below_drew1 HB.out)
                                        clear BK301
                                        clear BK303
                                        clear HB
                                        have BK301 := n0_
                                        have BK303 := n1_
                                        have HB := n2_
                                        clear n0_ n1_ n2_
                                        have p306 : 0 ≤ (x9_4 : Int) := of_decide_eq_true (by first | (with_reducible assumption) | assumption)
                                        have q306 : x9_4 < (((rd_T50 l0_0 a1).f3).length : Int) := of_decide_eq_true (by first | (with_reducible assumption) | assumption)
                                        obtain ⟨ad306, e306, hx306_0, hx306_1⟩ := at_T102 HR302_3.out x9_4 p306 q306
                                        have hw306_1 := hx306_1
                                        have hw306_0 := hx306_0
                                        cases e306
                                        replace hx306_0 := (HB.out.cell (World.block_lt_of_cell? w _ hx306_0)).trans hx306_0
                                        replace hx306_1 := (HB.out.cell (World.block_lt_of_cell? w _ hx306_1)).trans hx306_1
                                        replace p306 := eq_true p306
                                        replace q306 := eq_true q306
                                        refine start_ (n := 9) (S := fun w' => w'.cell? ⟨gb301, 0, none⟩ = some (.slice (some ad302) l0_0.length c0_0) ∧ w'.cell? ⟨gb301, 1, none⟩ = some (.int .i64 a0_1) ∧ w'.cell? ⟨gb301, 2, none⟩ = some (.slice A0_2 l0_2.length c0_2) ∧ w'.cell? ⟨gb301, 3, none⟩ = some (.int .i64 a0_3) ∧ w'.cell? ⟨gb301, 4, none⟩ = some (.int .i64 a0_4) ∧ w'.cell? ⟨gb303, 0, none⟩ = some (.string ((rd_T50 l0_0 a1).f0)) ∧ w'.cell? ⟨gb303, 1, none⟩ = some (.int .i64 ((rd_T50 l0_0 a1).f1)) ∧ w'.cell? ⟨gb303, 2, none⟩ = some (.int .i64 ((rd_T50 l0_0 a1).f2)) ∧ w'.cell? ⟨gb303, 3, none⟩ = some (.slice (some ad306) ((rd_T50 l0_0 a1).f3).length c302_3) ∧ w'.cell? (ad306.add ((x9_4).toNat * 2)) = some (.int .i64 ((rd_T102 ((rd_T50 l0_0 a1).f3) x9_4).f0)) ∧ w'.cell? ⟨(ad306.add ((x9_4).toNat * 2)).block, (ad306.add ((x9_4).toNat * 2)).off + 1, none⟩ = some (.int .i64 ((rd_T102 ((rd_T50 l0_0 a1).f3) x9_4).f1))) (ds := []) #[false, false, false, false, false, false, false, false, false] (by kernel_rfl) rfl rfl ⟨(blk_cell BK301.out 0).trans rfl, (blk_cell BK301.out 1).trans rfl, (blk_cell BK301.out 2).trans rfl, (blk_cell BK301.out 3).trans rfl, (blk_cell BK301.out 4).trans rfl, (blk_cell BK303.out 0).trans rfl, (blk_cell BK303.out 1).trans rfl, (blk_cell BK303.out 2).trans rfl, (blk_cell BK303.out 3).trans rfl, ((HB.out.cell (World.block_lt_of_cell? w _ hw306_0)).trans hw306_0), ((HB.out.cell (World.block_lt_of_cell? w _ hw306_1)).trans hw306_1)⟩ (fun hHeld => ?_); refine with_tabW gleanerref4_checkFunc.tab18 gleanerref4_checkFunc.bits18 (fun HT_ HW_ => ?_)
                                        generalize wr.drew = w46 at BK301 BK303 HB hx306_0 hx306_1 hHeld ⊢
                                        refine pure_ (i := 2) (N := some 82) (v := ?_) (a' := ?_) #[false, false, true, false, false, false, false, false, false] rfl rfl (any_of HT_.out (by kernel_rfl)) (fun _ _ _ h => h) (Or.inl ⟨by rfl, ?_⟩) ?_ ?_
                                        rotate_left
                                        · intro w'
                                          go_simp
                                          with_reducible rfl
                                        rotate_left
                                        · simp only [Act.put, List.setIfInBounds_toArray, List.set_cons_zero, List.set_cons_succ, i64_w, i32_w]
                                          rfl
                                        refine pure_ (i := 4) (N := some 84) (v := ?_) (a' := ?_) #[false, false, true, false, true, false, false, false, false] rfl rfl (any_of HT_.out (by kernel_rfl)) (fun _ _ _ h => h) (Or.inl ⟨by rfl, ?_⟩) ?_ ?_
                                        rotate_left
                                        · intro w'
                                          go_simp
                                          with_reducible rfl
                                        rotate_left
                                        · simp only [Act.put, List.setIfInBounds_toArray, List.set_cons_zero, List.set_cons_succ, i64_w, i32_w]
                                          rfl
                                        refine take_ (i := 0) (N := some 80) (v := ?_) (a' := ?_) #[true, false, true, false, true, false, false, false, false] rfl rfl (take_ofW HT_.out HW_.out (by kernel_rfl)) (fun _ _ _ h => h) (Or.inl ⟨by rfl, ?_⟩) hHeld ?_ ?_
                                        rotate_left
                                        · rintro w' ⟨s0, s1, s2, s3, s4, s5, s6, s7, s8, s9, s10⟩
                                          go_simp
                                          with_reducible rfl
                                        rotate_left
                                        · simp only [Act.put, List.setIfInBounds_toArray, List.set_cons_zero, List.set_cons_succ, i64_w, i32_w]
                                          rfl
                                        refine take_ (i := 1) (N := some 81) (v := ?_) (a' := ?_) #[true, true, true, false, true, false, false, false, false] rfl rfl (take_ofW HT_.out HW_.out (by kernel_rfl)) (fun _ _ _ h => h) (Or.inl ⟨by rfl, ?_⟩) hHeld ?_ ?_
                                        rotate_left
                                        · rintro w' ⟨s0, s1, s2, s3, s4, s5, s6, s7, s8, s9, s10⟩
                                          go_simp
                                          with_reducible rfl
                                        rotate_left
                                        · simp only [Act.put, List.setIfInBounds_toArray, List.set_cons_zero, List.set_cons_succ, i64_w, i32_w]
                                          rfl
                                        refine take_ (i := 3) (N := some 83) (v := ?_) (a' := ?_) #[true, true, true, true, true, false, false, false, false] rfl rfl (take_ofW HT_.out HW_.out (by kernel_rfl)) (fun _ _ _ h => h) (Or.inl ⟨by rfl, ?_⟩) hHeld ?_ ?_
                                        rotate_left
                                        · rintro w' ⟨s0, s1, s2, s3, s4, s5, s6, s7, s8, s9, s10⟩
                                          go_simp
                                          with_reducible rfl
                                        rotate_left
                                        · simp only [Act.put, List.setIfInBounds_toArray, List.set_cons_zero, List.set_cons_succ, i64_w, i32_w]
                                          rfl
                                        refine pure_ (i := 5) (N := some 85) (v := ?_) (a' := ?_) #[true, true, true, true, true, true, false, false, false] rfl rfl (any_of HT_.out (by kernel_rfl)) (fun _ _ _ h => h) (Or.inl ⟨by rfl, ?_⟩) ?_ ?_
                                        rotate_left
                                        · intro w'
                                          go_simp
                                          with_reducible rfl
                                        rotate_left
                                        · simp only [Act.put, List.setIfInBounds_toArray, List.set_cons_zero, List.set_cons_succ, i64_w, i32_w]
                                          rfl
                                        refine take_ (i := 6) (N := some 86) (v := ?_) (a' := ?_) #[true, true, true, true, true, true, true, false, false] rfl rfl (take_ofW HT_.out HW_.out (by kernel_rfl)) (fun _ _ _ h => h) (Or.inl ⟨by rfl, ?_⟩) hHeld ?_ ?_
                                        rotate_left
                                        · rintro w' ⟨s0, s1, s2, s3, s4, s5, s6, s7, s8, s9, s10⟩
                                          go_simp
                                          with_reducible rfl
                                        rotate_left
                                        · simp only [Act.put, List.setIfInBounds_toArray, List.set_cons_zero, List.set_cons_succ, i64_w, i32_w]
                                          rfl
                                        refine one_ (i := 7) (N := some 87) #[true, true, true, true, true, true, true, true, false] rfl rfl (one_of HT_.out (by kernel_rfl)) (by decide) (fun K hK => ?_)
                                        refine goes_ Try.func56 (by kernel_rfl) rfl #[.agg #[.slice (some ad302) l0_0.length c0_0, .int .i64 a0_1, .slice A0_2 l0_2.length c0_2, .int .i64 a0_3, .int .i64 a0_4], .agg #[.string ((rd_T50 l0_0 a1).f0), .int .i64 ((rd_T50 l0_0 a1).f1), .int .i64 ((rd_T50 l0_0 a1).f2), .slice (some ad306) ((rd_T50 l0_0 a1).f3).length c302_3], .agg #[.int .i64 ((rd_T102 ((rd_T50 l0_0 a1).f3) x9_4).f0), .int .i64 ((rd_T102 ((rd_T50 l0_0 a1).f3) x9_4).f1)]] (by rfl) rfl rfl (by (try simp only [List.map_toArray, List.map_cons, List.map_nil]); first | done | rfl | (simp only [List.length_drop, List.length_take]; rfl)) ?_
                                        with_reducible refine (gleanerref4_checkIns.calls k4 _ _ l0_0 a0_1 _ _ l0_2 a0_3 a0_4 ((rd_T50 l0_0 a1).f0) ((rd_T50 l0_0 a1).f1) ((rd_T50 l0_0 a1).f2) _ _ ((rd_T50 l0_0 a1).f3) ((rd_T102 ((rd_T50 l0_0 a1).f3) x9_4).f0) ((rd_T102 ((rd_T50 l0_0 a1).f3) x9_4).f1) t307 _ ?side1 ?side2 ?side3 ?side4 ?side5 ?side6 A42.out).mono ?_
                                        (case side1 => repeat (first | exact (Kd.C_below HR0_0.out HB.out) | (with_reducible refine Kd.C_alloc ?_ _) | (with_reducible refine Kd.C_drewN ?_ _) | (with_reducible refine Kd.C_drew ?_)))
                                        (case side2 => exact HC0_0.out)
                                        (case side3 => repeat (first | exact (Kd.C_below HR0_2.out HB.out) | (with_reducible refine Kd.C_alloc ?_ _) | (with_reducible refine Kd.C_drewN ?_ _) | (with_reducible refine Kd.C_drew ?_)))
                                        (case side4 => exact HC0_2.out)
                                        (case side5 => repeat (first | exact (Kd.C_below HR302_3.out HB.out) | (with_reducible refine Kd.C_alloc ?_ _) | (with_reducible refine Kd.C_drewN ?_ _) | (with_reducible refine Kd.C_drew ?_)))
                                        (case side6 => exact HC302_3.out)
                                        rintro e w47 ⟨rfl, hb⟩
                                        refine ⟨_, rfl, ?_⟩
                                        have n0_ := Aside0.mk (blk_below (g := gb301) (o := .cells #[.slice (some ad302) l0_0.length c0_0, .int .i64 a0_1, .slice A0_2 l0_2.length c0_2, .int .i64 a0_3, .int .i64 a0_4] 25 (0, 0)) (by (with_reducible repeat (first | refine blk_drewN ?_ _ | refine blk_drew ?_ | refine blk_alloc ?_ _)); exact BK301.out) hb)
                                        have n1_ := Aside0.mk (blk_below (g := gb303) (o := .cells #[.string ((rd_T50 l0_0 a1).f0), .int .i64 ((rd_T50 l0_0 a1).f1), .int .i64 ((rd_T50 l0_0 a1).f2), .slice (some ad306) ((rd_T50 l0_0 a1).f3).length c302_3] 50 (0, 0)) (by (with_reducible repeat (first | refine blk_drewN ?_ _ | refine blk_drew ?_ | refine blk_alloc ?_ _)); exact BK303.out) hb)
                                        have n2_ := Aside0.mk (below_step (by repeat (first | (with_reducible first | exact HB.out | apply below_alloc | apply pw_below_drewN | apply below_drew1 | refine below_set ?_ GE301.out | refine below_set ?_ GE303.out) | exact HB.out)) hb)
                                        clear BK301
                                        clear BK303
                                        clear HB
                                        have BK301 := n0_
                                        have BK303 := n1_
                                        have HB := n2_
                                        clear n0_ n1_ n2_
                                        (try clear hb)
                                        (try clear hb2)
                                        (try clear hk)
                                        (try clear hi)
                                        refine hK.out _ _ ⟨(blk_cell BK301.out 0).trans rfl, (blk_cell BK301.out 1).trans rfl, (blk_cell BK301.out 2).trans rfl, (blk_cell BK301.out 3).trans rfl, (blk_cell BK301.out 4).trans rfl, (blk_cell BK303.out 0).trans rfl, (blk_cell BK303.out 1).trans rfl, (blk_cell BK303.out 2).trans rfl, (blk_cell BK303.out 3).trans rfl, ((HB.out.cell (World.block_lt_of_cell? w _ hw306_0)).trans hw306_0), ((HB.out.cell (World.block_lt_of_cell? w _ hw306_1)).trans hw306_1)⟩ (fun hHeld => ?_)
                                        clear hK K
                                        refine norm_ (a' := ?_) ?_ ?_
                                        rotate_left
                                        · show Act.put _ (some 87) _ = _
                                          simp only [Act.put, List.setIfInBounds_toArray, List.set_cons_zero, List.set_cons_succ, i64_w, i32_w]
                                          rfl
                                        refine pure_ (i := 8) (N := some 10) (v := ?_) (a' := ?_) #[true, true, true, true, true, true, true, true, true] rfl rfl (any_of HT_.out (by kernel_rfl)) (fun _ _ _ h => h) (Or.inl ⟨by rfl, ?_⟩) ?_ ?_
                                        rotate_left
                                        · intro w'
                                          go_simp
                                          with_reducible rfl
                                        rotate_left
                                        · simp only [Act.put, List.setIfInBounds_toArray, List.set_cons_zero, List.set_cons_succ, i64_w, i32_w]
                                          rfl
                                        refine done_ (done_of HT_.out (by kernel_rfl)) ?_
                                        try go_wp2
                                        go_roundg k4
                                        case measure => have := HK1.out; have := HJ17.out; have := HJ24.out; have := HK4.out; omega
                                        case rel => exact ⟨(wrap64 (x9_4 + 1)), (by first | rfl | (simp; done) | (simp [*]; done)), H', ⟨by have := HK1.out; have := HJ17.out; have := HJ24.out; have := HK4.out; omega⟩, ⟨by (with_reducible repeat (first | refine blk_drewN ?_ _ | refine blk_drew ?_ | refine blk_alloc ?_ _)); exact BK301.out⟩, ⟨by (with_reducible repeat (first | refine blk_drewN ?_ _ | refine blk_drew ?_ | refine blk_alloc ?_ _)); exact BK303.out⟩, ⟨by repeat (first | (with_reducible first | exact HB.out | apply below_alloc | apply pw_below_drewN | apply below_drew1 | refine below_set ?_ GE301.out | refine below_set ?_ GE303.out) | exact HB.out)⟩⟩
                                      · rw [if_neg c43] at H
                                        have c43b0 : (t307 == 0) = false := beq_eq_false_iff_ne.mpr c43
                                        have c43b1 : (t307 != 0) = true := bne_iff_ne.mpr c43
                                        simp only [Option.some.injEq, Prod.mk.injEq] at H
                                        obtain ⟨rfl, rfl⟩ := H
                                        have hnb48 := NB303_301.out
                                        have hnc48 := NB301_303.out
                                        have hcz49_0 : wr.cell? ⟨gb303, 0, none⟩ = some (.string ((rd_T50 l0_0 a1).f0)) := (blk_cell BK303.out 0).trans rfl
                                        have hcz49_1 : wr.cell? ⟨gb303, 1, none⟩ = some (.int .i64 ((rd_T50 l0_0 a1).f1)) := (blk_cell BK303.out 1).trans rfl
                                        have hcz49_2 : wr.cell? ⟨gb303, 2, none⟩ = some (.int .i64 ((rd_T50 l0_0 a1).f2)) := (blk_cell BK303.out 2).trans rfl
                                        have hcz49_3 : wr.cell? ⟨gb303, 3, none⟩ = some (.slice A302_3 ((rd_T50 l0_0 a1).f3).length c302_3) := (blk_cell BK303.out 3).trans rfl
                                        have hfz49_0 := blk_frozen BK303.out 0
                                        have hfz49_1 := blk_frozen BK303.out 1
                                        have hfz49_2 := blk_frozen BK303.out 2
                                        have hfz49_3 := blk_frozen BK303.out 3
                                        try go_wp2
                                        have n0_ := Aside0.mk (blk_drew BK301.out)
                                        have n1_ := Aside0.mk (blk_drew BK303.out)
                                        have n2_ := Aside0.mk (below_drew1 HB.out)
                                        clear BK301
                                        clear BK303
                                        clear HB
                                        have BK301 := n0_
                                        have BK303 := n1_
                                        have HB := n2_
                                        clear n0_ n1_ n2_
                                        have p306 : 0 ≤ (x9_4 : Int) := of_decide_eq_true (by first | (with_reducible assumption) | assumption)
                                        have q306 : x9_4 < (((rd_T50 l0_0 a1).f3).length : Int) := of_decide_eq_true (by first | (with_reducible assumption) | assumption)
                                        obtain ⟨ad306, e306, hx306_0, hx306_1⟩ := at_T102 HR302_3.out x9_4 p306 q306
                                        have hw306_1 := hx306_1
                                        have hw306_0 := hx306_0
                                        cases e306
                                        replace hx306_0 := (HB.out.cell (World.block_lt_of_cell? w _ hx306_0)).trans hx306_0
                                        replace hx306_1 := (HB.out.cell (World.block_lt_of_cell? w _ hx306_1)).trans hx306_1
                                        replace p306 := eq_true p306
                                        replace q306 := eq_true q306
                                        refine start_ (n := 9) (S := fun w' => w'.cell? ⟨gb301, 0, none⟩ = some (.slice (some ad302) l0_0.length c0_0) ∧ w'.cell? ⟨gb301, 1, none⟩ = some (.int .i64 a0_1) ∧ w'.cell? ⟨gb301, 2, none⟩ = some (.slice A0_2 l0_2.length c0_2) ∧ w'.cell? ⟨gb301, 3, none⟩ = some (.int .i64 a0_3) ∧ w'.cell? ⟨gb301, 4, none⟩ = some (.int .i64 a0_4) ∧ w'.cell? ⟨gb303, 0, none⟩ = some (.string ((rd_T50 l0_0 a1).f0)) ∧ w'.cell? ⟨gb303, 1, none⟩ = some (.int .i64 ((rd_T50 l0_0 a1).f1)) ∧ w'.cell? ⟨gb303, 2, none⟩ = some (.int .i64 ((rd_T50 l0_0 a1).f2)) ∧ w'.cell? ⟨gb303, 3, none⟩ = some (.slice (some ad306) ((rd_T50 l0_0 a1).f3).length c302_3) ∧ w'.cell? (ad306.add ((x9_4).toNat * 2)) = some (.int .i64 ((rd_T102 ((rd_T50 l0_0 a1).f3) x9_4).f0)) ∧ w'.cell? ⟨(ad306.add ((x9_4).toNat * 2)).block, (ad306.add ((x9_4).toNat * 2)).off + 1, none⟩ = some (.int .i64 ((rd_T102 ((rd_T50 l0_0 a1).f3) x9_4).f1))) (ds := []) #[false, false, false, false, false, false, false, false, false] (by kernel_rfl) rfl rfl ⟨(blk_cell BK301.out 0).trans rfl, (blk_cell BK301.out 1).trans rfl, (blk_cell BK301.out 2).trans rfl, (blk_cell BK301.out 3).trans rfl, (blk_cell BK301.out 4).trans rfl, (blk_cell BK303.out 0).trans rfl, (blk_cell BK303.out 1).trans rfl, (blk_cell BK303.out 2).trans rfl, (blk_cell BK303.out 3).trans rfl, ((HB.out.cell (World.block_lt_of_cell? w _ hw306_0)).trans hw306_0), ((HB.out.cell (World.block_lt_of_cell? w _ hw306_1)).trans hw306_1)⟩ (fun hHeld => ?_); refine with_tabW gleanerref4_checkFunc.tab18 gleanerref4_checkFunc.bits18 (fun HT_ HW_ => ?_)
                                        generalize wr.drew = w50 at BK301 BK303 HB hx306_0 hx306_1 hHeld ⊢
                                        refine pure_ (i := 2) (N := some 82) (v := ?_) (a' := ?_) #[false, false, true, false, false, false, false, false, false] rfl rfl (any_of HT_.out (by kernel_rfl)) (fun _ _ _ h => h) (Or.inl ⟨by rfl, ?_⟩) ?_ ?_
                                        rotate_left
                                        · intro w'
                                          go_simp
                                          with_reducible rfl
                                        rotate_left
                                        · simp only [Act.put, List.setIfInBounds_toArray, List.set_cons_zero, List.set_cons_succ, i64_w, i32_w]
                                          rfl
                                        refine pure_ (i := 4) (N := some 84) (v := ?_) (a' := ?_) #[false, false, true, false, true, false, false, false, false] rfl rfl (any_of HT_.out (by kernel_rfl)) (fun _ _ _ h => h) (Or.inl ⟨by rfl, ?_⟩) ?_ ?_
                                        rotate_left
                                        · intro w'
                                          go_simp
                                          with_reducible rfl
                                        rotate_left
                                        · simp only [Act.put, List.setIfInBounds_toArray, List.set_cons_zero, List.set_cons_succ, i64_w, i32_w]
                                          rfl
                                        refine take_ (i := 0) (N := some 80) (v := ?_) (a' := ?_) #[true, false, true, false, true, false, false, false, false] rfl rfl (take_ofW HT_.out HW_.out (by kernel_rfl)) (fun _ _ _ h => h) (Or.inl ⟨by rfl, ?_⟩) hHeld ?_ ?_
                                        rotate_left
                                        · rintro w' ⟨s0, s1, s2, s3, s4, s5, s6, s7, s8, s9, s10⟩
                                          go_simp
                                          with_reducible rfl
                                        rotate_left
                                        · simp only [Act.put, List.setIfInBounds_toArray, List.set_cons_zero, List.set_cons_succ, i64_w, i32_w]
                                          rfl
                                        refine take_ (i := 1) (N := some 81) (v := ?_) (a' := ?_) #[true, true, true, false, true, false, false, false, false] rfl rfl (take_ofW HT_.out HW_.out (by kernel_rfl)) (fun _ _ _ h => h) (Or.inl ⟨by rfl, ?_⟩) hHeld ?_ ?_
                                        rotate_left
                                        · rintro w' ⟨s0, s1, s2, s3, s4, s5, s6, s7, s8, s9, s10⟩
                                          go_simp
                                          with_reducible rfl
                                        rotate_left
                                        · simp only [Act.put, List.setIfInBounds_toArray, List.set_cons_zero, List.set_cons_succ, i64_w, i32_w]
                                          rfl
                                        refine take_ (i := 3) (N := some 83) (v := ?_) (a' := ?_) #[true, true, true, true, true, false, false, false, false] rfl rfl (take_ofW HT_.out HW_.out (by kernel_rfl)) (fun _ _ _ h => h) (Or.inl ⟨by rfl, ?_⟩) hHeld ?_ ?_
                                        rotate_left
                                        · rintro w' ⟨s0, s1, s2, s3, s4, s5, s6, s7, s8, s9, s10⟩
                                          go_simp
                                          with_reducible rfl
                                        rotate_left
                                        · simp only [Act.put, List.setIfInBounds_toArray, List.set_cons_zero, List.set_cons_succ, i64_w, i32_w]
                                          rfl
                                        refine pure_ (i := 5) (N := some 85) (v := ?_) (a' := ?_) #[true, true, true, true, true, true, false, false, false] rfl rfl (any_of HT_.out (by kernel_rfl)) (fun _ _ _ h => h) (Or.inl ⟨by rfl, ?_⟩) ?_ ?_
                                        rotate_left
                                        · intro w'
                                          go_simp
                                          with_reducible rfl
                                        rotate_left
                                        · simp only [Act.put, List.setIfInBounds_toArray, List.set_cons_zero, List.set_cons_succ, i64_w, i32_w]
                                          rfl
                                        refine take_ (i := 6) (N := some 86) (v := ?_) (a' := ?_) #[true, true, true, true, true, true, true, false, false] rfl rfl (take_ofW HT_.out HW_.out (by kernel_rfl)) (fun _ _ _ h => h) (Or.inl ⟨by rfl, ?_⟩) hHeld ?_ ?_
                                        rotate_left
                                        · rintro w' ⟨s0, s1, s2, s3, s4, s5, s6, s7, s8, s9, s10⟩
                                          go_simp
                                          with_reducible rfl
                                        rotate_left
                                        · simp only [Act.put, List.setIfInBounds_toArray, List.set_cons_zero, List.set_cons_succ, i64_w, i32_w]
                                          rfl
                                        refine one_ (i := 7) (N := some 87) #[true, true, true, true, true, true, true, true, false] rfl rfl (one_of HT_.out (by kernel_rfl)) (by decide) (fun K hK => ?_)
                                        refine goes_ Try.func56 (by kernel_rfl) rfl #[.agg #[.slice (some ad302) l0_0.length c0_0, .int .i64 a0_1, .slice A0_2 l0_2.length c0_2, .int .i64 a0_3, .int .i64 a0_4], .agg #[.string ((rd_T50 l0_0 a1).f0), .int .i64 ((rd_T50 l0_0 a1).f1), .int .i64 ((rd_T50 l0_0 a1).f2), .slice (some ad306) ((rd_T50 l0_0 a1).f3).length c302_3], .agg #[.int .i64 ((rd_T102 ((rd_T50 l0_0 a1).f3) x9_4).f0), .int .i64 ((rd_T102 ((rd_T50 l0_0 a1).f3) x9_4).f1)]] (by rfl) rfl rfl (by (try simp only [List.map_toArray, List.map_cons, List.map_nil]); first | done | rfl | (simp only [List.length_drop, List.length_take]; rfl)) ?_
                                        with_reducible refine (gleanerref4_checkIns.calls k4 _ _ l0_0 a0_1 _ _ l0_2 a0_3 a0_4 ((rd_T50 l0_0 a1).f0) ((rd_T50 l0_0 a1).f1) ((rd_T50 l0_0 a1).f2) _ _ ((rd_T50 l0_0 a1).f3) ((rd_T102 ((rd_T50 l0_0 a1).f3) x9_4).f0) ((rd_T102 ((rd_T50 l0_0 a1).f3) x9_4).f1) t307 _ ?side1 ?side2 ?side3 ?side4 ?side5 ?side6 A42.out).mono ?_
                                        (case side1 => repeat (first | exact (Kd.C_below HR0_0.out HB.out) | (with_reducible refine Kd.C_alloc ?_ _) | (with_reducible refine Kd.C_drewN ?_ _) | (with_reducible refine Kd.C_drew ?_)))
                                        (case side2 => exact HC0_0.out)
                                        (case side3 => repeat (first | exact (Kd.C_below HR0_2.out HB.out) | (with_reducible refine Kd.C_alloc ?_ _) | (with_reducible refine Kd.C_drewN ?_ _) | (with_reducible refine Kd.C_drew ?_)))
                                        (case side4 => exact HC0_2.out)
                                        (case side5 => repeat (first | exact (Kd.C_below HR302_3.out HB.out) | (with_reducible refine Kd.C_alloc ?_ _) | (with_reducible refine Kd.C_drewN ?_ _) | (with_reducible refine Kd.C_drew ?_)))
                                        (case side6 => exact HC302_3.out)
                                        rintro e w51 ⟨rfl, hb⟩
                                        refine ⟨_, rfl, ?_⟩
                                        have n0_ := Aside0.mk (blk_below (g := gb301) (o := .cells #[.slice (some ad302) l0_0.length c0_0, .int .i64 a0_1, .slice A0_2 l0_2.length c0_2, .int .i64 a0_3, .int .i64 a0_4] 25 (0, 0)) (by (with_reducible repeat (first | refine blk_drewN ?_ _ | refine blk_drew ?_ | refine blk_alloc ?_ _)); exact BK301.out) hb)
                                        have n1_ := Aside0.mk (blk_below (g := gb303) (o := .cells #[.string ((rd_T50 l0_0 a1).f0), .int .i64 ((rd_T50 l0_0 a1).f1), .int .i64 ((rd_T50 l0_0 a1).f2), .slice (some ad306) ((rd_T50 l0_0 a1).f3).length c302_3] 50 (0, 0)) (by (with_reducible repeat (first | refine blk_drewN ?_ _ | refine blk_drew ?_ | refine blk_alloc ?_ _)); exact BK303.out) hb)
                                        have n2_ := Aside0.mk (below_step (by repeat (first | (with_reducible first | exact HB.out | apply below_alloc | apply pw_below_drewN | apply below_drew1 | refine below_set ?_ GE301.out | refine below_set ?_ GE303.out) | exact HB.out)) hb)
                                        clear BK301
                                        clear BK303
                                        clear HB
                                        have BK301 := n0_
                                        have BK303 := n1_
                                        have HB := n2_
                                        clear n0_ n1_ n2_
                                        (try clear hb)
                                        (try clear hb2)
                                        (try clear hk)
                                        (try clear hi)
                                        refine hK.out _ _ ⟨(blk_cell BK301.out 0).trans rfl, (blk_cell BK301.out 1).trans rfl, (blk_cell BK301.out 2).trans rfl, (blk_cell BK301.out 3).trans rfl, (blk_cell BK301.out 4).trans rfl, (blk_cell BK303.out 0).trans rfl, (blk_cell BK303.out 1).trans rfl, (blk_cell BK303.out 2).trans rfl, (blk_cell BK303.out 3).trans rfl, ((HB.out.cell (World.block_lt_of_cell? w _ hw306_0)).trans hw306_0), ((HB.out.cell (World.block_lt_of_cell? w _ hw306_1)).trans hw306_1)⟩ (fun hHeld => ?_)
                                        clear hK K
                                        refine norm_ (a' := ?_) ?_ ?_
                                        rotate_left
                                        · show Act.put _ (some 87) _ = _
                                          simp only [Act.put, List.setIfInBounds_toArray, List.set_cons_zero, List.set_cons_succ, i64_w, i32_w]
                                          rfl
                                        refine pure_ (i := 8) (N := some 10) (v := ?_) (a' := ?_) #[true, true, true, true, true, true, true, true, true] rfl rfl (any_of HT_.out (by kernel_rfl)) (fun _ _ _ h => h) (Or.inl ⟨by rfl, ?_⟩) ?_ ?_
                                        rotate_left
                                        · intro w'
                                          go_simp
                                          with_reducible rfl
                                        rotate_left
                                        · simp only [Act.put, List.setIfInBounds_toArray, List.set_cons_zero, List.set_cons_succ, i64_w, i32_w]
                                          rfl
                                        refine done_ (done_of HT_.out (by kernel_rfl)) ?_
                                        try go_wp2
                                        go_ret2
                                        exact ⟨by first | rfl | (simp [errW_none, errW_some] <;> rfl) | (simp [*, errW_none, errW_some] <;> rfl), by repeat (first | (with_reducible first | exact HB.out | apply below_alloc | apply pw_below_drewN | apply below_drew1 | refine below_set ?_ GE301.out | refine below_set ?_ GE303.out) | exact HB.out)⟩
                                    · rw [if_neg c41] at H
                                      exact absurd H (by simp)
                                  · rw [if_neg c40] at H
                                    have c40b0 : decide (x9_4 < (((rd_T50 l0_0 a1).f3).length : Int)) = false := decide_eq_false c40
                                    clear c40
                                    replace H := Option.bind_eq_some_iff.mp H
                                    obtain ⟨⟨t308, t311, t312⟩, A520, H⟩ := H
                                    replace H : (some (t311, t312)) = some (r1, r2) := H
                                    have A52 := Aside0.mk A520
                                    clear A520
                                    simp only [Option.some.injEq, Prod.mk.injEq] at H
                                    obtain ⟨rfl, rfl⟩ := H
                                    have hnb53 := NB303_301.out
                                    have hnc53 := NB301_303.out
                                    have hcz54_0 : wr.cell? ⟨gb303, 0, none⟩ = some (.string ((rd_T50 l0_0 a1).f0)) := (blk_cell BK303.out 0).trans rfl
                                    have hcz54_1 : wr.cell? ⟨gb303, 1, none⟩ = some (.int .i64 ((rd_T50 l0_0 a1).f1)) := (blk_cell BK303.out 1).trans rfl
                                    have hcz54_2 : wr.cell? ⟨gb303, 2, none⟩ = some (.int .i64 ((rd_T50 l0_0 a1).f2)) := (blk_cell BK303.out 2).trans rfl
                                    have hcz54_3 : wr.cell? ⟨gb303, 3, none⟩ = some (.slice A302_3 ((rd_T50 l0_0 a1).f3).length c302_3) := (blk_cell BK303.out 3).trans rfl
                                    have hfz54_0 := blk_frozen BK303.out 0
                                    have hfz54_1 := blk_frozen BK303.out 1
                                    have hfz54_2 := blk_frozen BK303.out 2
                                    have hfz54_3 := blk_frozen BK303.out 3
                                    have hcz55_0 : wr.cell? ⟨gb301, 0, none⟩ = some (.slice (some ad302) l0_0.length c0_0) := (blk_cell BK301.out 0).trans rfl
                                    have hcz55_1 : wr.cell? ⟨gb301, 1, none⟩ = some (.int .i64 a0_1) := (blk_cell BK301.out 1).trans rfl
                                    have hcz55_2 : wr.cell? ⟨gb301, 2, none⟩ = some (.slice A0_2 l0_2.length c0_2) := (blk_cell BK301.out 2).trans rfl
                                    have hcz55_3 : wr.cell? ⟨gb301, 3, none⟩ = some (.int .i64 a0_3) := (blk_cell BK301.out 3).trans rfl
                                    have hcz55_4 : wr.cell? ⟨gb301, 4, none⟩ = some (.int .i64 a0_4) := (blk_cell BK301.out 4).trans rfl
                                    have hfz55_0 := blk_frozen BK301.out 0
                                    have hfz55_1 := blk_frozen BK301.out 1
                                    have hfz55_2 := blk_frozen BK301.out 2
                                    have hfz55_3 := blk_frozen BK301.out 3
                                    have hfz55_4 := blk_frozen BK301.out 4
                                    go_wp2_with (first | ((with_reducible refine gate_callee (f := 24) rfl ?_); refine goesL_ (some 95) rfl rfl Try.func24 (by kernel_rfl) rfl #[.agg #[.slice (some ad302) l0_0.length c0_0, .int .i64 a0_1, .slice A0_2 l0_2.length c0_2, .int .i64 a0_3, .int .i64 a0_4], .agg #[.string ((rd_T50 l0_0 a1).f0), .int .i64 ((rd_T50 l0_0 a1).f1), .int .i64 ((rd_T50 l0_0 a1).f2), .slice A302_3 ((rd_T50 l0_0 a1).f3).length c302_3]] rfl (by (try simp only [List.map_toArray, List.map_cons, List.map_nil]); first | done | rfl | (simp only [List.length_drop, List.length_take]; rfl)) ?_; (with_reducible refine (gleanerref4_depths.calls k4 _ _ l0_0 a0_1 _ _ l0_2 a0_3 a0_4 ((rd_T50 l0_0 a1).f0) ((rd_T50 l0_0 a1).f1) ((rd_T50 l0_0 a1).f2) _ _ ((rd_T50 l0_0 a1).f3) t308 t311 t312 _ ?side1 ?side2 ?side3 ?side4 ?side5 ?side6 A52.out).mono ?_); (case side1 => repeat (first | exact (Kd.C_below HR0_0.out HB.out) | (with_reducible refine Kd.C_alloc ?_ _) | (with_reducible refine Kd.C_drewN ?_ _) | (with_reducible refine Kd.C_drew ?_))); (case side2 => exact HC0_0.out); (case side3 => repeat (first | exact (Kd.C_below HR0_2.out HB.out) | (with_reducible refine Kd.C_alloc ?_ _) | (with_reducible refine Kd.C_drewN ?_ _) | (with_reducible refine Kd.C_drew ?_))); (case side4 => exact HC0_2.out); (case side5 => repeat (first | exact (Kd.C_below HR302_3.out HB.out) | (with_reducible refine Kd.C_alloc ?_ _) | (with_reducible refine Kd.C_drewN ?_ _) | (with_reducible refine Kd.C_drew ?_))); (case side6 => exact HC302_3.out); rintro e w56 ⟨v309, rfl, ho0, hb⟩; refine ⟨_, rfl, ?_⟩; have n0_ := Aside0.mk (Kd.R_lower ho0 (below_size (by repeat (first | (with_reducible first | exact HB.out | apply below_alloc | apply pw_below_drewN | apply below_drew1 | refine below_set ?_ GE301.out | refine below_set ?_ GE303.out) | exact HB.out)))); have n1_ := Aside0.mk (blk_below (g := gb301) (o := .cells #[.slice (some ad302) l0_0.length c0_0, .int .i64 a0_1, .slice A0_2 l0_2.length c0_2, .int .i64 a0_3, .int .i64 a0_4] 25 (0, 0)) (by (with_reducible repeat (first | refine blk_drewN ?_ _ | refine blk_drew ?_ | refine blk_alloc ?_ _)); exact BK301.out) hb); have n2_ := Aside0.mk (blk_below (g := gb303) (o := .cells #[.string ((rd_T50 l0_0 a1).f0), .int .i64 ((rd_T50 l0_0 a1).f1), .int .i64 ((rd_T50 l0_0 a1).f2), .slice A302_3 ((rd_T50 l0_0 a1).f3).length c302_3] 50 (0, 0)) (by (with_reducible repeat (first | refine blk_drewN ?_ _ | refine blk_drew ?_ | refine blk_alloc ?_ _)); exact BK303.out) hb); have n3_ := Aside0.mk (below_step (by repeat (first | (with_reducible first | exact HB.out | apply below_alloc | apply pw_below_drewN | apply below_drew1 | refine below_set ?_ GE301.out | refine below_set ?_ GE303.out) | exact HB.out)) hb); clear BK301; clear BK303; clear HB; have HO310 := n0_; have BK301 := n1_; have BK303 := n2_; have HB := n3_; clear n0_ n1_ n2_ n3_; (try clear hb); (try clear hb2); (try clear hk); (try clear hi); (try clear ho0)))
                                    go_ret2
                                    exact ⟨by first | rfl | (simp [errW_none, errW_some] <;> rfl) | (simp [*, errW_none, errW_some] <;> rfl), by repeat (first | (with_reducible first | exact HB.out | apply below_alloc | apply pw_below_drewN | apply below_drew1 | refine below_set ?_ GE301.out | refine below_set ?_ GE303.out) | exact HB.out)⟩
            · replace c17 := Bool.eq_false_iff.mpr c17
              subst c17
              have H1 : (some (0, 6)) = some (r1, r2) := by rw [if_neg (show ¬ (false = true) by decide)] at H; exact H
              clear H
              have H := H1
              clear H1
              simp only [Option.some.injEq, Prod.mk.injEq] at H
              obtain ⟨rfl, rfl⟩ := H
              go_wp2
              go_ret2
              exact ⟨by first | rfl | (simp [errW_none, errW_some] <;> rfl) | (simp [*, errW_none, errW_some] <;> rfl), by repeat (first | (with_reducible first | exact HB.out | apply below_alloc | apply pw_below_drewN | apply below_drew1 | refine below_set ?_ GE301.out | refine below_set ?_ GE303.out) | exact HB.out)⟩
    · rw [if_neg c4] at H
      exact absurd H (by simp)
  · rw [if_neg c3] at H
    exact absurd H (by simp)
end Go.Proofs.Ytakdckaplmoklaa.PTraceDeep
end
