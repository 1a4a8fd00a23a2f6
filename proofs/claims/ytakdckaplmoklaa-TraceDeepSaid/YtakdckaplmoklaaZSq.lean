/- A part of the proof of TraceDeepSaid (Sq Sr Ss Sv); laid together by merge2.py. -/
import Derived.Shelf.SlSortCmp.WholeK
import Derived.Ground.SlsfProg
import Derived.Test.YtakdckaplmoklaaProg
import Derived.Test.YtakdckaplmoklaaZE
import Derived.Laws.Cover1
import Derived.Test.YtakdckaplmoklaaZH
import Derived.Test.YtakdckaplmoklaaZP0
section
namespace Go.Proofs
open Go.Shelf
def Try.sortCommits_ren : Go.Shelf.Ren := ⟨fun | 6 => 34 | 15 => 50 | 14 => 51 | 28 => 68 | 29 => 69 | 20 => 70 | 21 => 71 | 22 => 72 | 23 => 73 | 24 => 74 | 25 => 75 | 26 => 76 | 27 => 77 | 46 => 85 | 47 => 81 | 48 => 82 | 49 => 86 | 50 => 87 | 57 => 89 | n => n, fun | 22 => 31 | 24 => 39 | 25 => 96 | 3 => 3 | 39 => 113 | 0 => 0 | 53 => 130 | 55 => 132 | 4 => 4 | 46 => 123 | 45 => 122 | 50 => 40 | 5 => 5 | 9 => 9 | 66 => 139 | 70 => 143 | 76 => 148 | 77 => 97 | n => n, fun | n => n⟩
theorem Try.sortCommits : Go.Proofs.SlLaysF0.n6 Try.prog Try.sortCommits_ren := {
  mixed := by kernel_rfl
  f6 := ⟨Try.f34.name, by decide, Try.func34.trans (congrArg some (by kernel_rfl))⟩
  f14 := ⟨Try.f51.name, by decide, Try.func51.trans (congrArg some (by kernel_rfl))⟩
  f15 := Try.func50.trans (congrArg some (by kernel_rfl))
  f20 := ⟨Try.f70.name, by decide, Try.func70.trans (congrArg some (by kernel_rfl))⟩
  f21 := ⟨Try.f71.name, by decide, Try.func71.trans (congrArg some (by kernel_rfl))⟩
  f22 := ⟨Try.f72.name, by decide, Try.func72.trans (congrArg some (by kernel_rfl))⟩
  f23 := ⟨Try.f73.name, by decide, Try.func73.trans (congrArg some (by kernel_rfl))⟩
  f24 := ⟨Try.f74.name, by decide, Try.func74.trans (congrArg some (by kernel_rfl))⟩
  f25 := ⟨Try.f75.name, by decide, Try.func75.trans (congrArg some (by kernel_rfl))⟩
  f26 := ⟨Try.f76.name, by decide, Try.func76.trans (congrArg some (by kernel_rfl))⟩
  f27 := ⟨Try.f77.name, by decide, Try.func77.trans (congrArg some (by kernel_rfl))⟩
  f28 := Try.func68.trans (congrArg some (by kernel_rfl))
  f29 := Try.func69.trans (congrArg some (by kernel_rfl))
  f46 := ⟨Try.f85.name, by decide, Try.func85.trans (congrArg some (by kernel_rfl))⟩
  f47 := Try.func81.trans (congrArg some (by kernel_rfl))
  f48 := Try.func82.trans (congrArg some (by kernel_rfl))
  f49 := ⟨Try.f86.name, by decide, Try.func86.trans (congrArg some (by kernel_rfl))⟩
  f50 := ⟨Try.f87.name, by decide, Try.func87.trans (congrArg some (by kernel_rfl))⟩
  f57 := ⟨Try.f89.name, by decide, Try.func89.trans (congrArg some (by kernel_rfl))⟩
  t0 := Try.underlying0
  a0 := Try.isAgg0
  z0 := Try.sizeOf0
  v0 := Try.zeroValue0
  t3 := Try.underlying3
  a3 := Try.isAgg3
  z3 := Try.sizeOf3
  v3 := Try.zeroValue3
  t4 := Try.underlying4
  a4 := Try.isAgg4
  z4 := Try.sizeOf4
  v4 := Try.zeroValue4
  t5 := Try.underlying5
  a5 := Try.isAgg5
  z5 := Try.sizeOf5
  v5 := Try.zeroValue5
  t9 := Try.underlying9
  a9 := Try.isAgg9
  z9 := Try.sizeOf9
  v9 := Try.zeroValue9
  t22 := Try.underlying31
  a22 := Try.isAgg31
  z22 := Try.sizeOf31
  v22 := Try.zeroValue31
  t25 := Try.underlying96
  a25 := Try.isAgg96
  z25 := Try.sizeOf96
  v25 := Try.zeroValue96
  t39 := Try.underlying113
  a39 := Try.isAgg113
  z39 := Try.sizeOf113
  v39 := Try.zeroValue113
  t45 := Try.underlying122
  a45 := Try.isAgg122
  z45 := Try.sizeOf122
  v45 := Try.zeroValue122
  t46 := Try.underlying123
  a46 := Try.isAgg123
  z46 := Try.sizeOf123
  v46 := Try.zeroValue123
  t50 := Try.underlying40
  a50 := Try.isAgg40
  z50 := Try.sizeOf40
  v50 := Try.zeroValue40
  t53 := Try.underlying130
  a53 := Try.isAgg130
  z53 := Try.sizeOf130
  v53 := Try.zeroValue130
  t55 := Try.underlying132
  a55 := Try.isAgg132
  z55 := Try.sizeOf132
  v55 := Try.zeroValue132
  t66 := Try.underlying139
  a66 := Try.isAgg139
  z66 := Try.sizeOf139
  v66 := Try.zeroValue139
  t70 := Try.underlying143
  a70 := Try.isAgg143
  z70 := Try.sizeOf143
  v70 := Try.zeroValue143
  t76 := Try.underlying148
  a76 := Try.isAgg148
  z76 := Try.sizeOf148
  v76 := Try.zeroValue148
  t77 := Try.underlying97
  a77 := Try.isAgg97
  z77 := Try.sizeOf97
  v77 := Try.zeroValue97 }
end Go.Proofs
end
section
namespace Go.Proofs.Ytakdckaplmoklaa.Ev
open Go.Proofs.YtakdckaplmoklaaHt Go.Sort
open Go.RowKit Go.Proofs.YtakdckaplmoklaaW.PrintWords Go.Proofs.YtakdckaplmoklaaW.PrintLast Go.Proofs.YtakdckaplmoklaaW.PrintMore Go.Proofs.Ytakdckaplmoklaa.PTraceDeep
set_option linter.unusedVariables false
set_option linter.unusedSimpArgs false
def cmpS (a b : ByteArray) : Int := if Op.bytesLess a.toList b.toList = true then -1 else if Op.bytesLess b.toList a.toList = true then 1 else 0
def cmpI (a b : Int) : Int := if a < b then -1 else if b < a then 1 else 0
def or3 (a b c : Int) : Int := if a ≠ 0 then a else if b ≠ 0 then b else c
set_option maxHeartbeats 4000000 in
set_option maxRecDepth 100000 in
theorem cmp37 (a b : ByteArray) (w : World) : Calls Try.prog 37 #[.string a, .string b] w fun e w' => e = .returned (.int .i64 (cmpS a b)) ∧ w' = w := by
  have h1 : decide (a ≠ a) = false := by simp
  have h2 : decide (b ≠ b) = false := by simp
  unfold cmpS
  by_cases p : Op.bytesLess a.toList b.toList = true
  · go_enter Try.func37, Try.ntmps37
    go_wp2
    go_ret
    simp [p]
  · by_cases q : Op.bytesLess b.toList a.toList = true
    · have e : (a.toList == b.toList) = false := by
        cases h : a.toList == b.toList
        · rfl
        · rw [eq_of_beq h] at q p; exact absurd q p
      go_enter Try.func37, Try.ntmps37
      go_wp2
      go_ret
      simp [p, q]
    · have e : (a.toList == b.toList) = true := by
        by_cases h : a = b
        · subst h; simp
        · exact absurd (lessId_total (show ¬ lessId a b from p) h) q
      go_enter Try.func37, Try.ntmps37
      go_wp2
      go_ret
      simp [p, q]
set_option maxHeartbeats 4000000 in
set_option maxRecDepth 100000 in
theorem cmp38 (a b : Int) (w : World) : Calls Try.prog 38 #[.int .i64 a, .int .i64 b] w fun e w' => e = .returned (.int .i64 (cmpI a b)) ∧ w' = w := by
  have h1 : decide (a ≠ a) = false := by simp
  have h2 : decide (b ≠ b) = false := by simp
  unfold cmpI
  by_cases p : a < b
  · go_enter Try.func38, Try.ntmps38
    go_wp2
    go_ret
    simp [p]
  · by_cases q : b < a
    · go_enter Try.func38, Try.ntmps38
      go_wp2
      go_ret
      simp [p, q]
    · go_enter Try.func38, Try.ntmps38
      go_wp2
      go_ret
      simp [p, q]
set_option maxHeartbeats 4000000 in
set_option maxRecDepth 100000 in
theorem cmp39 (a b : Int) (w : World) : Calls Try.prog 39 #[.int .i64 a, .int .i64 b] w fun e w' => e = .returned (.int .i64 (cmpI a b)) ∧ w' = w := by
  have h1 : decide (a ≠ a) = false := by simp
  have h2 : decide (b ≠ b) = false := by simp
  unfold cmpI
  by_cases p : a < b
  · go_enter Try.func39, Try.ntmps39
    go_wp2
    go_ret
    simp [p]
  · by_cases q : b < a
    · go_enter Try.func39, Try.ntmps39
      go_wp2
      go_ret
      simp [p, q]
    · go_enter Try.func39, Try.ntmps39
      go_wp2
      go_ret
      simp [p, q]
set_option maxHeartbeats 4000000 in
set_option maxRecDepth 100000 in
theorem or36 (g : Nat) (a b c : Int) (w : World) (h0 : w.cell? ⟨g, 0, none⟩ = some (.int .i64 a)) (h1 : w.cell? ⟨g, 1, none⟩ = some (.int .i64 b)) (h2 : w.cell? ⟨g, 2, none⟩ = some (.int .i64 c)) :
    Calls Try.prog 36 #[.slice (some ⟨g, 0, none⟩) 3 3] w fun e w' => e = .returned (.int .i64 (or3 a b c)) ∧ w' = w := by
  have C0 := Aside0.mk h0
  have C1 := Aside0.mk h1
  have C2 := Aside0.mk h2
  clear h0 h1 h2
  go_enter Try.func36, Try.ntmps36
  go_wp2
  go_loopg [8] 3 (fun k v8 w' => ∃ (i : Nat), v8 = .int .i64 (i : Int) ∧ Aside0 (i + k = 3 ∧ (1 ≤ i → a = 0) ∧ (2 ≤ i → b = 0) ∧ (3 ≤ i → c = 0)) ∧ w' = w)
  case atStart => exact ⟨0, rfl, ⟨by omega, by omega, by omega, by omega⟩, rfl⟩
  case round =>
    obtain ⟨i, rfl, hk, rfl⟩ := hrel
    rcases i with _ | _ | _ | _ | i
    · have m := C0.out
      by_cases p : a = 0
      · go_wp2
        go_roundg (gk - 1)
        case measure => have := hk.out; omega
        case rel => exact ⟨1, rfl, ⟨by have := hk.out; omega, fun _ => p, by omega, by omega⟩, rfl⟩
      · go_wp2
        go_ret
        simp [or3, p]
    · have m := C1.out
      by_cases p : b = 0
      · go_wp2
        go_roundg (gk - 1)
        case measure => have := hk.out; omega
        case rel => exact ⟨2, rfl, ⟨by have := hk.out; omega, fun _ => hk.out.2.1 (by omega), fun _ => p, by omega⟩, rfl⟩
      · go_wp2
        go_ret
        simp [or3, p, hk.out.2.1]
    · have m := C2.out
      by_cases p : c = 0
      · go_wp2
        go_roundg (gk - 1)
        case measure => have := hk.out; omega
        case rel => exact ⟨3, rfl, ⟨by have := hk.out; omega, fun _ => hk.out.2.1 (by omega), fun _ => hk.out.2.2.1 (by omega), fun _ => p⟩, rfl⟩
      · go_wp2
        go_ret
        simp [or3, p, hk.out.2.1, hk.out.2.2.1]
    · go_wp2
      go_ret
      simp [or3, hk.out.2.1, hk.out.2.2.1, hk.out.2.2.2]
    · have := hk.out; omega
end Go.Proofs.Ytakdckaplmoklaa.Ev
end
section
namespace Go.Proofs.Ytakdckaplmoklaa.Ev
open Go.Proofs.YtakdckaplmoklaaHt Go.Sort
open Go.RowKit Go.Proofs.YtakdckaplmoklaaW.PrintWords Go.Proofs.YtakdckaplmoklaaW.PrintLast Go.Proofs.YtakdckaplmoklaaW.PrintMore Go.Proofs.Ytakdckaplmoklaa.PTraceDeep
set_option linter.unusedVariables false
set_option linter.unusedSimpArgs false
def encC (x : S39) : List Value := [.string x.f0, .int .i64 x.f1.f0, .int .i64 x.f1.f1]
def cfC (x y : S39) : Int := or3 (cmpS x.f0 y.f0) (cmpI x.f1.f0 y.f1.f0) (cmpI x.f1.f1 y.f1.f1)
set_option maxHeartbeats 4000000 in
set_option maxRecDepth 100000 in
theorem closure35 (x y : S39) (w : World) : Calls Try.prog 35 #[.agg #[.string x.f0, .int .i64 x.f1.f0, .int .i64 x.f1.f1], .agg #[.string y.f0, .int .i64 y.f1.f0, .int .i64 y.f1.f1]] w fun e w' => e = .returned (.int .i64 (cfC x y)) ∧ ∃ q os', w' = grow (w.drewN q) os' := by
  go_enter Try.func35, Try.ntmps35
  go_upto_region 1 with fail
  have e1 : (w.alloc (.cells #[.string x.f0, .int .i64 x.f1.f0, .int .i64 x.f1.f1] 39 (0, 0))).alloc (.cells #[.string y.f0, .int .i64 y.f1.f0, .int .i64 y.f1.f1] 39 (0, 0)) = grow (w.drewN 0) #[.cells #[.string x.f0, .int .i64 x.f1.f0, .int .i64 x.f1.f1] 39 (0, 0), .cells #[.string y.f0, .int .i64 y.f1.f0, .int .i64 y.f1.f1] 39 (0, 0)] := by rw [alloc_eq_grow, alloc_eq_grow, grow_grow]; rfl
  rw [e1]
  have bx : (grow (w.drewN 0) #[.cells #[.string x.f0, .int .i64 x.f1.f0, .int .i64 x.f1.f1] 39 (0, 0), .cells #[.string y.f0, .int .i64 y.f1.f0, .int .i64 y.f1.f1] 39 (0, 0)]).heap[w.heap.size]? = some (.cells #[.string x.f0, .int .i64 x.f1.f0, .int .i64 x.f1.f1] 39 (0, 0)) := by
    show (w.heap ++ _)[w.heap.size]? = _
    rw [Array.getElem?_append_right (Nat.le_refl _), Nat.sub_self]
    rfl
  have gy : (grow (w.drewN 0) #[.cells #[.string x.f0, .int .i64 x.f1.f0, .int .i64 x.f1.f1] 39 (0, 0), .cells #[.string y.f0, .int .i64 y.f1.f0, .int .i64 y.f1.f1] 39 (0, 0)]).heap[w.heap.size + 1]? = some (.cells #[.string y.f0, .int .i64 y.f1.f0, .int .i64 y.f1.f1] 39 (0, 0)) := by
    show (w.heap ++ _)[w.heap.size + 1]? = _
    rw [Array.getElem?_append_right (Nat.le_add_right _ _), Nat.add_sub_cancel_left]
    rfl
  have E1 := Aside0.mk (show ∃ q os', grow (w.drewN 0) #[.cells #[.string x.f0, .int .i64 x.f1.f0, .int .i64 x.f1.f1] 39 (0, 0), .cells #[.string y.f0, .int .i64 y.f1.f0, .int .i64 y.f1.f1] 39 (0, 0)] = grow (w.drewN q) os' from ⟨_, _, rfl⟩)
  clear e1
  generalize grow (w.drewN 0) #[.cells #[.string x.f0, .int .i64 x.f1.f0, .int .i64 x.f1.f1] 39 (0, 0), .cells #[.string y.f0, .int .i64 y.f1.f0, .int .i64 y.f1.f1] 39 (0, 0)] = w1 at bx gy E1 ⊢
  generalize w.heap.size + 1 = gY at gy ⊢
  generalize w.heap.size = gX at bx ⊢
  have X0 := blk_gr bx
  have Y0 := blk_gr gy
  clear bx gy
  refine wp_region_sp (fun p : GrownN => grow (w1.drewN p.n) p.os) [0, 1, 2, 3, 5, 6, 7, 8, 9, 10, 12, 13, 14, 15, 16, 17] [4, 11, 18, 19, 20, 21] (by kernel_rfl) (by kernel_rfl) rfl rfl (fun c a d v w h => ?hQ) ⟨⟨1, #[]⟩, by simp; rfl⟩ ?_
  case hQ => cases d <;> exact h
  simp only [pick, List.getElem?_cons_zero, List.getElem?_cons_succ, List.nil_append, List.cons_append]
  repeat (quiet_step (fail))
  refine wpQuiet_nil ?_
  clear X0 Y0
  have E2 : Aside0 (∃ q os', w1.drew = grow (w.drewN q) os') := ⟨by obtain ⟨q, os, h⟩ := E1.out; rw [h]; exact ⟨q + 1, os, by rfl⟩⟩
  clear E1
  have S1 : ∃ p : GrownN, w1.drew = grow (w1.drewN p.n) p.os := ⟨⟨1, #[]⟩, by simp; rfl⟩
  have S2 := Aside0.mk S1
  clear S1
  generalize w1.drew = w2 at E2 S2 ⊢
  show wpTailS _ _ _ _ _ _ _ _ _
  refine tailS_one 4 (by decide +kernel) rfl rfl ?_
  go_wp2_with (go_at_call 37; refine (cmp37 _ _ _).mono ?_; rintro e_ w' ⟨rfl, rfl⟩)
  refine ⟨S2.out, ?_⟩
  show wpTailS _ _ _ _ _ _ _ _ _
  refine tailS_one 11 (by decide +kernel) rfl rfl ?_
  go_wp2_with (go_at_call 38; refine (cmp38 _ _ _).mono ?_; rintro e_ w' ⟨rfl, rfl⟩)
  refine ⟨S2.out, ?_⟩
  show wpTailS _ _ _ _ _ _ _ _ _
  refine tailS_one 18 (by decide +kernel) rfl rfl ?_
  go_wp2_with (go_at_call 39; refine (cmp39 _ _ _).mono ?_; rintro e_ w' ⟨rfl, rfl⟩)
  refine ⟨S2.out, ?_⟩
  show wpTailS _ _ _ _ _ _ _ _ _
  refine tailS_free 19 (by decide +kernel) (by decide +kernel) rfl rfl ?_
  generalize hc1 : cmpS x.f0 y.f0 = c1
  have HC1 := Aside0.mk hc1
  clear hc1
  generalize hc2 : cmpI x.f1.f0 y.f1.f0 = c2
  have HC2 := Aside0.mk hc2
  clear hc2
  generalize hc3 : cmpI x.f1.f1 y.f1.f1 = c3
  have HC3 := Aside0.mk hc3
  clear hc3
  go_wp2_with (fail)
  have k0 := blk_cell (blk_new w' (.cells #[.int .i64 c1, .int .i64 c2, .int .i64 c3] 3 (0, 0))) 0
  have k1 := blk_cell (blk_new w' (.cells #[.int .i64 c1, .int .i64 c2, .int .i64 c3] 3 (0, 0))) 1
  have k2 := blk_cell (blk_new w' (.cells #[.int .i64 c1, .int .i64 c2, .int .i64 c3] 3 (0, 0))) 2
  have E3 : Aside0 (∃ q os', w'.alloc (.cells #[.int .i64 c1, .int .i64 c2, .int .i64 c3] 3 (0, 0)) = grow (w.drewN q) os') := ⟨by obtain ⟨q, os, h⟩ := E2.out; rw [h, alloc_eq_grow, grow_grow]; exact ⟨q, _, rfl⟩⟩
  clear E2 S2
  generalize w'.alloc (.cells #[.int .i64 c1, .int .i64 c2, .int .i64 c3] 3 (0, 0)) = w3 at k0 k1 k2 E3 ⊢
  generalize w'.heap.size = g at k0 k1 k2 ⊢
  show wpTailS _ _ _ _ _ _ _ _ _
  refine tailS_free 20 (by decide +kernel) (by decide +kernel) rfl rfl ?_
  go_wp2_with (go_at_call 36; refine (or36 _ _ _ _ _ k0 k1 k2).mono ?_; rintro e_ w' ⟨rfl, rfl⟩)
  show wpTailS _ _ _ _ _ _ _ _ _
  refine tailS_free 21 (by decide +kernel) (by decide +kernel) rfl rfl ?_
  go_wp2_with fail
  show wpTailS _ _ _ _ _ _ _ _ _
  refine tailS_nil ?_
  go_wp2_with fail
  go_ret
  exact ⟨by rw [cfC, HC1.out, HC2.out, HC3.out]; rfl, E3.out⟩
end Go.Proofs.Ytakdckaplmoklaa.Ev
end
section
namespace Go.Proofs.Ytakdckaplmoklaa.Ev
open Go.Proofs.YtakdckaplmoklaaHt Go.Sort
open Go.RowKit Go.Proofs.YtakdckaplmoklaaW.PrintWords Go.Proofs.YtakdckaplmoklaaW.PrintLast Go.Proofs.YtakdckaplmoklaaW.PrintMore Go.Proofs.Ytakdckaplmoklaa.PTraceDeep
set_option linter.unusedVariables false
set_option linter.unusedSimpArgs false
instance : Inhabited S39 := ⟨z39⟩
def ltC (x y : S39) : Prop := lessId x.f0 y.f0 ∨ (x.f0 = y.f0 ∧ (x.f1.f0 < y.f1.f0 ∨ (x.f1.f0 = y.f1.f0 ∧ x.f1.f1 < y.f1.f1)))
theorem cfC_lt (x y : S39) : cfC x y < 0 ↔ ltC x y := by
  obtain ⟨x0, x1, x2⟩ := x
  obtain ⟨y0, y1, y2⟩ := y
  unfold cfC cmpS ltC
  simp only
  by_cases p : lessId x0 y0
  · have p' : Op.bytesLess x0.toList y0.toList = true := p
    simp [p, p', or3]
  · by_cases e : x0 = y0
    · subst e
      have q : ¬ Op.bytesLess x0.toList x0.toList = true := lessId_irrefl x0
      simp only [p, q, or3, cmpI, if_false, false_or, true_and, ne_eq, not_true_eq_false]
      by_cases a1 : x1 < y1
      · simp [a1]
      · by_cases a2 : y1 < x1
        · have : ¬ x1 = y1 := by omega
          simp [a1, a2, this]
        · have : x1 = y1 := by omega
          by_cases a3 : x2 < y2
          · simp [a1, a2, this, a3]
          · by_cases a4 : y2 < x2
            · simp [a1, a2, this, a3, a4]
            · simp [a1, a2, this, a3, a4]
    · have p' : ¬ Op.bytesLess x0.toList y0.toList = true := p
      have q : Op.bytesLess y0.toList x0.toList = true := lessId_total p e
      simp [p, p', q, e, or3]
theorem ltC_irrefl (x : S39) : ¬ ltC x x := by
  unfold ltC
  have := lessId_irrefl x.f0
  simp [this]
theorem ltC_trans {x y z : S39} (h : ltC x y) (k : ltC y z) : ltC x z := by
  unfold ltC at *
  rcases h with h | ⟨e, h⟩ <;> rcases k with k | ⟨e', k⟩
  · exact .inl (lessId_trans h k)
  · exact .inl (e' ▸ h)
  · exact .inl (e ▸ k)
  · exact .inr ⟨e.trans e', by omega⟩
theorem ltC_total {x y : S39} (h : ¬ ltC x y) : ltC y x ∨ x = y := by
  unfold ltC at *
  by_cases e : x.f0 = y.f0
  · have hh : ¬ (x.f1.f0 < y.f1.f0 ∨ (x.f1.f0 = y.f1.f0 ∧ x.f1.f1 < y.f1.f1)) := fun k => h (.inr ⟨e, k⟩)
    by_cases a : y.f1.f0 < x.f1.f0 ∨ (y.f1.f0 = x.f1.f0 ∧ y.f1.f1 < x.f1.f1)
    · exact .inl (.inr ⟨e.symm, a⟩)
    · right
      obtain ⟨x0, x1, x2⟩ := x
      obtain ⟨y0, y1, y2⟩ := y
      simp only at e hh a
      have h1 : x1 = y1 := by omega
      have h2 : x2 = y2 := by omega
      subst e h1 h2
      rfl
  · exact .inl (.inl (lessId_total (fun k => h (.inl k)) e))
theorem ltOf_iff (x y : S39) : ltOf cfC x y = true ↔ ltC x y := by unfold ltOf; simp [cfC_lt]
theorem ltOf_not (x y : S39) : ltOf cfC x y = false ↔ ¬ ltC x y := by rw [← ltOf_iff]; simp
theorem swoC : SWO (ltOf cfC) where
  irrefl x := (ltOf_not x x).2 (ltC_irrefl x)
  trans x y z h k := (ltOf_iff x z).2 (ltC_trans ((ltOf_iff x y).1 h) ((ltOf_iff y z).1 k))
  ntrans x y z h k := by
    rw [ltOf_not] at *
    intro c
    rcases ltC_total h with h | rfl
    · rcases ltC_total k with k | rfl
      · exact ltC_irrefl _ (ltC_trans c (ltC_trans k h))
      · exact ltC_irrefl _ (ltC_trans c h)
    · exact k c
theorem totC (x y : S39) (h : ltOf cfC x y = false) (k : ltOf cfC y x = false) : x = y := by
  rw [ltOf_not] at *
  rcases ltC_total h with h | h
  · exact absurd h k
  · exact h
def sortC (l : List S39) : List S39 := l.mergeSort (fun x y => !(ltOf cfC) y x)
theorem sortC_perm {l m : List S39} (h : l.Perm m) : sortC l = sortC m := by
  have tr : ∀ a b c : S39, (!(ltOf cfC) b a) = true → (!(ltOf cfC) c b) = true → (!(ltOf cfC) c a) = true := fun a b c h k => by
    simp only [Bool.not_eq_true'] at *
    exact swoC.ntrans _ _ _ k h
  have tt : ∀ a b : S39, ((!(ltOf cfC) b a) || (!(ltOf cfC) a b)) = true := fun a b => by
    cases h : ltOf cfC b a
    · rfl
    · cases k : ltOf cfC a b
      · rfl
      · have := swoC.trans _ _ _ h k
        rw [swoC.irrefl] at this
        cases this
  refine List.Perm.eq_of_pairwise (le := fun a b => (!(ltOf cfC) b a) = true) (fun a b _ _ h k => ?_) (List.pairwise_mergeSort tr tt l) (List.pairwise_mergeSort tr tt m) (((List.mergeSort_perm l _).trans h).trans (List.mergeSort_perm m _).symm)
  simp only [Bool.not_eq_true'] at h k
  exact totC a b k h
theorem sortC_length (l : List S39) : (sortC l).length = l.length := by unfold sortC; exact List.length_mergeSort l
def encCs (l : List S39) : List Value := l.flatMap encC
theorem encCs_cons (x : S39) (l : List S39) : encCs (x :: l) = encC x ++ encCs l := by simp [encCs]
theorem encCs_append (a b : List S39) : encCs (a ++ b) = encCs a ++ encCs b := by simp [encCs]
theorem encCs_length : ∀ l : List S39, (encCs l).length = l.length * 3
  | [] => rfl
  | x :: l => by rw [encCs_cons, List.length_append, encCs_length l]; simp [encC]; omega
theorem encCs_one (l : List S39) : ∀ u ∈ encCs l, u.oneCell' = true := by
  intro u hu
  unfold encCs at hu
  rw [List.mem_flatMap] at hu
  obtain ⟨e, _, h⟩ := hu
  simp [encC] at h
  rcases h with rfl | rfl | rfl <;> rfl
theorem encCs_get : ∀ (l : List S39) (j : Nat), j < l.length * 3 → (encCs l)[j]? = some (encC l[j / 3]!)[j % 3]!
  | [], j, h => by simp at h
  | x :: l, j, h => by
    rw [encCs_cons]
    rcases Nat.lt_or_ge j 3 with hj | hj
    · rw [List.getElem?_append_left (by simpa [encC] using hj), Nat.div_eq_of_lt hj, Nat.mod_eq_of_lt hj]
      have : j < (encC x).length := by simpa [encC] using hj
      simp [List.getElem?_eq_getElem this, getElem!_pos, this]
    · obtain ⟨i, rfl⟩ : ∃ i, j = i + 3 := ⟨j - 3, by omega⟩
      rw [List.getElem?_append_right (by simp [encC]), show (i + 3) / 3 = i / 3 + 1 by omega, show (i + 3) % 3 = i % 3 by omega, show i + 3 - (encC x).length = i by simp [encC]]
      rw [encCs_get l i (by simp at h; omega)]
      simp
theorem reps_C (w : World) : ∀ l : List S39, Reps (k39.K w) 3 l (encCs l)
  | l => by
    refine ⟨encCs_length l, fun j p hj => ?_⟩
    have hl : j < l.length := (List.getElem?_eq_some_iff.1 hj).1
    have hs : l = l.take j ++ p :: l.drop (j + 1) := by
      have : l[j] = p := by rw [List.getElem?_eq_getElem hl] at hj; exact Option.some.inj hj
      rw [← this, ← List.drop_eq_getElem_cons hl, List.take_append_drop]
    have hv : ((encCs l).drop (j * 3)).take 3 = encC p := by
      conv => lhs; rw [hs]
      have hl : (encCs (l.take j)).length = j * 3 := by rw [encCs_length, List.length_take]; omega
      rw [encCs_append, encCs_cons, ← hl, List.drop_left, List.take_left' (by rfl)]
    rw [hv]
    exact k39_mk w p
theorem reps_C_eq (w : World) : ∀ (l : List S39) (cs : List Value), Reps (k39.K w) 3 l cs → cs = encCs l := by
  intro l
  induction l with
  | nil => intro cs h; have := h.1; simp at this; rw [this]; rfl
  | cons x l ih =>
    intro cs h
    have h0 := k39_open (h.2 0 x rfl)
    simp at h0
    have h1 := ih (cs.drop 3) ⟨by rw [List.length_drop, h.1]; simp; omega, fun j p hj => by
      have := h.2 (j + 1) p (by simpa using hj)
      rw [List.drop_drop]
      rwa [show (j + 1) * 3 = 3 + j * 3 by omega] at this⟩
    rw [encCs_cons, ← h1]
    conv => lhs; rw [← List.take_append_drop 3 cs, h0]
    rfl
theorem C_cells {w : World} {ad : Addr} {n : Nat} {l : List S39} (h : Kd.C k39 w (some ad) n l) : l.length = n ∧ ∀ j u, (encCs l)[j]? = some u → w.cell? (ad.add j) = some u := by
  obtain ⟨cs, h1, h2⟩ := ReadsRow.inner_ h
  rw [reps_C_eq w l cs h1] at h2
  exact ⟨h.1, h2⟩
theorem C_own {w : World} {b n c : Nat} {A : Option Addr} {l : List S39} (h : w.ownsRow b 39 3 (.slice A n c) n (encCs l)) (hn : l.length = n) : Kd.C k39 w A n l := by
  obtain ⟨A', c', e', h'⟩ := own_reads_row h (reps_C w l) hn
  injection e' with e1 e2 e3
  subst e1
  exact h'
theorem add0 (g j : Nat) : (⟨g, 0, none⟩ : Addr).add j = ⟨g, j, none⟩ := by cases j <;> simp [Addr.add]
theorem holds_own {w : World} {b g n c : Nat} {l : List S39} (h : w.ownsRow b 39 3 (.slice (some ⟨g, 0, none⟩) n c) n (encCs l)) (hn : l.length = n) : HoldsK encC 3 w g 0 l.toArray := by
  intro j hj
  have hj : j < l.length * 3 := by simpa using hj
  have hc := h.cells (g := g) rfl j _ (encCs_get l j hj)
  refine ⟨?_, ?_⟩
  · rw [get_flatK _ _ _ _ (by simpa using hj)]
    rw [add0] at hc
    simpa using hc
  · rcases h.2 with ⟨h0, _⟩ | ⟨g', cap, cur, h2, h3, h4, _⟩
    · cases h0
    · injection h2 with e1 e2 e3
      injection e1 with e1
      injection e1 with e1
      subst e1
      exact blk_frozen h4 _
theorem C_holds {w : World} {g : Nat} {d : Array S39} (h : HoldsK encC 3 w g 0 d) (hn : d.size ≤ 9223372036854775807) : Kd.C k39 w (some ⟨g, 0, none⟩) d.size d.toList := by
  refine ⟨by simp, hn, fun _ => ⟨_, rfl, fun j p hj => ⟨encC p, rfl, k39_mk w p, fun i u hi => ?_⟩⟩⟩
  have hjl : j < d.size := by simpa using (List.getElem?_eq_some_iff.1 hj).1
  have hp : d[j]! = p := by
    rw [getElem!_pos d j hjl]
    simpa [hjl] using hj
  have hil : i < 3 := by simpa [encC] using (List.getElem?_eq_some_iff.1 hi).1
  have := (h.cell hjl hil).1
  rw [hp] at this
  have e : (encC p)[i]! = u := by
    have hl : i < (encC p).length := by simpa [encC] using hil
    rw [getElem!_pos _ i hl]
    rw [List.getElem?_eq_getElem hl] at hi
    exact Option.some.inj hi
  rw [e] at this
  show w.cell? ((⟨g, 0, none⟩ : Addr).add (j * 3 + i)) = _
  rw [add0]
  simpa using this
theorem sort_below {w : World} {b g n : Nat} {d : Array S39} {os : Array Obj} (hb : b ≤ g) (hbs : b ≤ w.heap.size) : Go.RowKit.Below b w (sortWorldK encC 3 w g 0 n d os) := by
  refine ⟨rfl, rfl, rfl, ?_, fun k hk => ?_⟩
  · exact size_sortWorldK_c encC 3 w g 0 n d os
  · show ((w.heap.modify g _) ++ os)[k]? = _
    rw [Array.getElem?_append_left (by simp; omega), Array.getElem?_modify, if_neg (by omega)]
theorem eq21_self (l : List S39) (hl : l.length ≤ 100000) : ∃ k, api_Commit_21.f k l l = some true := by
  have key : ∀ n i : Nat, i + n = l.length → api_Commit_21.l0 (n + 1) l l (l.length : Int) (i : Int) = some true := by
    intro n
    induction n with
    | zero => intro i hi; unfold api_Commit_21.l0; rw [if_neg (by omega)]
    | succ n ih =>
      intro i hi
      have := ih (i + 1) (by omega)
      unfold api_Commit_21.l0
      rw [if_pos (by omega), if_pos (by omega), if_pos (by omega), if_pos (by omega)]
      have e : wrap64 ((i : Int) + 1) = ((i + 1 : Nat) : Int) := by unfold wrap64; omega
      rw [e]
      simp
      simpa using this
  refine ⟨l.length + 1, ?_⟩
  unfold api_Commit_21.f
  rw [if_pos rfl]
  exact key l.length 0 (by omega)
end Go.Proofs.Ytakdckaplmoklaa.Ev
end
