/- A part of the proof of TraceDeepSaid (Ma); laid together by merge2.py. -/
import Derived.Test.YtakdckaplmoklaaZT
import Derived.Outline
import Derived.BigQuiet
section
namespace Go.Proofs.Ytakdckaplmoklaa.Ev
open Go.Proofs.YtakdckaplmoklaaHt Go.Sort
open Go.RowKit Go.Proofs.YtakdckaplmoklaaW.PrintWords Go.Proofs.YtakdckaplmoklaaW.PrintLast Go.Proofs.YtakdckaplmoklaaW.PrintMore Go.Proofs.Ytakdckaplmoklaa.PTraceDeep
set_option linter.unusedVariables false
set_option linter.unusedSimpArgs false
theorem lex44_4 : Region.lexB .any (opsOf Try.f44 4) = true := by kernel_rfl
set_option maxHeartbeats 2000000 in
set_option maxRecDepth 100000 in
theorem may_any (w : World) (kb : Nat) (fs : List S50) (D : List (List Int)) (main jfuel tasks : Int) (jargs : List Int) (hk : Kn w kb fs D main jfuel tasks jargs) (hg : KG fs D)
    (func pc fuel kids : Int) (wt : Bool) (A B : Option Addr) (c d : Nat) (st lo : List Int) (hA : ReadsInt w .i64 A st.length st) (hB : ReadsInt w .i64 B lo.length lo) (hst : st.length ≤ 100000) (hlo : lo.length ≤ 100000) (hf1 : 0 ≤ func) (hf2 : func < fs.length) :
    Calls Try.prog 44 #[.pointer (some ⟨kb, 0, none⟩), .agg #[.int .i64 func, .int .i64 pc, .int .i64 fuel, .slice A st.length c, .slice B lo.length d, .int .i64 kids, .bool wt]] w fun e w' =>
      e = .returned (.bool (mayB fs D jfuel func pc fuel st lo kids wt)) ∧ Below w.heap.size w w' := by
  have HA := Aside0.mk hA
  have HB := Aside0.mk hB
  have HK := Aside0.mk hk
  have HG := Aside0.mk hg
  clear hA hB hk hg
  obtain ⟨AF, cF, AA, cA, AD, cD, k1, k2, k3, k4, k5, k6, k7⟩ := HK.out.out
  obtain ⟨ad1, A3, c3, ea1, q10, q11, q12, q13, q14, q15⟩ := at_T50 k3 func hf1 hf2
  subst ea1
  obtain ⟨ad2, A4, c4, ea2, q20, q21, q22⟩ := at_L7 k7 func hf1 (by rw [HG.out.len]; exact hf2)
  subst ea2
  obtain ⟨ck, fk⟩ := blk_cells k1
  have K1 := Aside0.mk k1
  have K3 := Aside0.mk k3
  have K5 := Aside0.mk k5
  have K7 := Aside0.mk k7
  have Q15 := Aside0.mk q15
  have Q22 := Aside0.mk q22
  clear k1 k3 k5 k7 q15 q22
  have b1 : decide (func < 0) = false := by simpa using hf1
  have b2 : decide ((fs.length : Int) ≤ func) = false := by simpa using hf2
  have d2 : func < (D.length : Int) := by rw [HG.out.len]; exact hf2
  go_enter Try.func44, Try.ntmps44
  go_wp2_with (first
    | ((with_reducible refine gate_dst (N := 3) rfl ?_); refine new_law 3 rfl rfl #[.int .i64 func, .int .i64 pc, .int .i64 fuel, .slice A st.length c, .slice B lo.length d, .int .i64 kids, .bool wt] 78 ?hr1 ?_; (case hr1 => first | (go_simp; done) | (go_simp; rfl)); intro g1 e1 w1 B1 G1; have E1 := Aside0.mk e1; have HL1 := Aside0.mk (below_grown0 (Below.refl w.heap.size w) (Nat.le_refl _) G1 (fun k hk => by cases hk)); have BB1 := Aside0.mk B1; have K1' := Aside0.mk (blk_below K1.out HL1.out); clear e1 B1 G1 ck fk; obtain ⟨c1, f1⟩ := blk_cells BB1.out; obtain ⟨ck, fk⟩ := blk_cells K1'.out))
  go_quiet (fail)
  go_wp2_with fail
  have BB2 := Aside0.mk (blk_drewN BB1.out nq)
  have K2 := Aside0.mk (blk_drewN K1'.out nq)
  have HL2 := Aside0.mk (pw_below_drewN HL1.out nq)
  have r10 := Aside0.mk (pw_cell_below HL2.out q10)
  have r11 := Aside0.mk (pw_cell_below HL2.out q11)
  have r12 := Aside0.mk (pw_cell_below HL2.out q12)
  have r13 := Aside0.mk (pw_cell_below HL2.out q13)
  have E2 : Aside0 (w.heap.size ≤ g1) := ⟨by have := E1.out; omega⟩
  clear q10 q11 q12 q13 c1 f1 ck fk BB1 K1' HL1 E1
  generalize w1.drewN nq = w2 at BB2 K2 HL2 r10 r11 r12 r13 ⊢
  have gB := blk_gr BB2.out
  have gK := blk_gr K2.out
  have g10 := cell_gr r10.out
  have g11 := cell_gr r11.out
  have g12 := cell_gr r12.out
  have g13 := cell_gr r13.out
  refine wp_region_hp [0, 1, 2, 3, 4, 5, 6, 7, 8] [9, 10] (by kernel_rfl) (by kernel_rfl) rfl rfl rfl (fun c a d v w h => ?hQ) ?_
  case hQ => cases d <;> exact h
  simp only [pick, List.getElem?_cons_zero, List.getElem?_cons_succ, List.nil_append, List.cons_append]
  repeat (quiet_step (fail))
  refine wpQuiet_nil ?_
  clear gB gK g10 g11 g12 g13
  have HL2' := Aside0.mk (below_drew HL2.out)
  have BB2' := Aside0.mk (blk_drew BB2.out)
  have K2' := Aside0.mk (blk_drew K2.out)
  clear HL2 BB2 K2 r10 r11 r12 r13
  generalize w2.drew = w3 at HL2' BB2' K2' ⊢
  go_wp2_with (first
    | ((with_reducible refine gate_dst (N := 5) rfl ?_); refine new_law 5 rfl rfl #[.string ⟨#[]⟩, .int .i64 0, .int .i64 0, .slice none 0 0] 50 ?hr5 ?_; (case hr5 => first | (go_simp; done) | (go_simp; rfl)); intro g5 e5 w4 B5 G5; have E5 : Aside0 (g1 ≠ g5) := ⟨by have := blk_lt BB2'.out; omega⟩; have E5' : Aside0 (w.heap.size ≤ g5) := ⟨by have := HL2'.out.size; omega⟩; have HL4 := Aside0.mk (below_grown0 HL2'.out HL2'.out.size G5 (fun k hk => by cases hk)); have BB4 := Aside0.mk (blk_grown BB2'.out G5 (by simp)); have BB5 := Aside0.mk B5; clear e5 B5 G5 HL2' BB2' K2')
    | ((with_reducible refine gate_store (t := 50) (p := 5) rfl ?_); refine st_law g5 0 rfl 50 _ _ rfl rfl _ #[.string (rd_T50 fs func).f0, .int .i64 (rd_T50 fs func).f1, .int .i64 (rd_T50 fs func).f2, .slice A3 (rd_T50 fs func).f3.length c3] 50 (.agg #[.string (rd_T50 fs func).f0, .int .i64 (rd_T50 fs func).f1, .int .i64 (rd_T50 fs func).f2, .slice A3 (rd_T50 fs func).f3.length c3]) [.string (rd_T50 fs func).f0, .int .i64 (rd_T50 fs func).f1, .int .i64 (rd_T50 fs func).f2, .slice A3 (rd_T50 fs func).f3.length c3] rfl rfl rfl sz50 (by simp [Value.oneCell']) BB5.out (by simp) rfl ?_; intro w5 B6 G6 _; have HL5 := Aside0.mk (below_grown0 HL4.out HL4.out.size G6 (fun k hk => by cases hk; exact E5'.out)); have B7 := Aside0.mk (blk_grown BB4.out G6 (by simp; exact E5.out)); have B8 := Aside0.mk B6; have K8 := Aside0.mk (blk_below K1.out HL5.out); have Q15' := Kd.C_below Q15.out HL5.out; have Q22' := Kd.C_below Q22.out HL5.out; have Q15'' := Aside0.mk Q15'; have Q22'' := Aside0.mk Q22'; clear Q15' Q22' B6 G6 HL4 BB4 BB5; obtain ⟨c1, f1⟩ := blk_cells B7.out; obtain ⟨c5, f5⟩ := blk_cells B8.out; obtain ⟨ck, fk⟩ := blk_cells K8.out; have r20 := pw_cell_below HL5.out q20))
  clear q20
  try simp only [List.append_eq, List.cons_append, List.nil_append, Act.put, List.setIfInBounds_toArray, List.set_cons_zero, List.set_cons_succ]
  by_cases p1 : pc < 0
  · have t1 : decide (pc < 0) = true := by simpa using p1
    have hm : mayB fs D jfuel func pc fuel st lo kids wt = false := by
      have : decide (0 ≤ pc ∧ pc < ((rd_T50 fs func).f3.length : Int)) = false := by simp; omega
      simp [mayB, this]
    have HM := Aside0.mk hm
    clear hm
    refine wp_region_quiet_lit (by kernel_rfl) ?hlex_1 ?_
    case hlex_1 => exact lex44_4
    repeat (go_big_quiet_step (fail))
    refine wpQuiet_nil ?_
    intro _ hw'
    obtain ⟨nq, hw''⟩ := hw'
    subst hw''
    go_wp2_with fail
    go_ret
    exact ⟨by rw [HM.out]; rfl, pw_below_drewN HL5.out _⟩
  by_cases p2 : ((rd_T50 fs func).f3.length : Int) ≤ pc
  · have t1 : decide (pc < 0) = false := by simpa using p1
    have t2 : decide (((rd_T50 fs func).f3.length : Int) ≤ pc) = true := by simpa using p2
    have hm : mayB fs D jfuel func pc fuel st lo kids wt = false := by
      have : decide (0 ≤ pc ∧ pc < ((rd_T50 fs func).f3.length : Int)) = false := by simp; omega
      simp [mayB, this]
    have HM := Aside0.mk hm
    clear hm
    refine wp_region_quiet_lit (by kernel_rfl) ?hlex_2 ?_
    case hlex_2 => exact lex44_4
    repeat (go_big_quiet_step (fail))
    refine wpQuiet_nil ?_
    intro _ hw'
    obtain ⟨nq, hw''⟩ := hw'
    subst hw''
    go_wp2_with fail
    go_ret
    exact ⟨by rw [HM.out]; rfl, pw_below_drewN HL5.out _⟩
  have t1 : decide (pc < 0) = false := by simpa using p1
  have t2 : decide (((rd_T50 fs func).f3.length : Int) ≤ pc) = false := by simpa using p2
  have z1 : 0 ≤ pc := by omega
  have z2 : pc < ((rd_T50 fs func).f3.length : Int) := by omega
  have z3 : pc < ((rd_L7 D func).length : Int) := by rw [(HG.out.row func hf1 hf2).1]; exact z2
  have Z0 := Aside0.mk p1
  clear p1 p2
  obtain ⟨ad3, ea3, q30, q31⟩ := at_T102 Q15.out pc z1 z2
  subst ea3
  obtain ⟨ad4, ea4, q40⟩ := Kd.at_int Q22.out pc z1 z3
  subst ea4
  have r30 := pw_cell_below HL5.out q30
  have r31 := pw_cell_below HL5.out q31
  have r40 := pw_cell_below HL5.out q40
  clear q30 q31 q40
  by_cases p3 : rd (rd_L7 D func) pc < 0
  · have t3 : decide (rd (rd_L7 D func) pc < 0) = true := by simpa using p3
    have hm : mayB fs D jfuel func pc fuel st lo kids wt = false := by
      have : decide (0 ≤ depAt D func pc ∧ (st.length : Int) = depAt D func pc ∧ (lo.length : Int) = (rd_T50 fs func).f2) = false := by apply decide_eq_false; rintro ⟨a1, a2, a3⟩; (try unfold depAt at a1 a2); omega
      simp [mayB, this]
    have HM := Aside0.mk hm
    have HP := Aside0.mk p3
    clear hm p3
    refine wp_region_quiet_lit (by kernel_rfl) ?hlex_3 ?_
    case hlex_3 => exact lex44_4
    repeat (go_big_quiet_step (fail))
    refine wpQuiet_nil ?_
    intro _ hw'
    obtain ⟨nq, hw''⟩ := hw'
    subst hw''
    go_wp2_with fail
    go_ret
    exact ⟨by rw [HM.out]; rfl, pw_below_drewN HL5.out _⟩
  have t3 : decide (rd (rd_L7 D func) pc < 0) = false := by simpa using p3
  by_cases p4 : ¬ (st.length : Int) = rd (rd_L7 D func) pc
  · have t4 : ((st.length : Int) != rd (rd_L7 D func) pc) = true := by simpa using p4
    have t4' : ((st.length : Int) == rd (rd_L7 D func) pc) = false := by simpa using p4
    have hm : mayB fs D jfuel func pc fuel st lo kids wt = false := by
      have : decide (0 ≤ depAt D func pc ∧ (st.length : Int) = depAt D func pc ∧ (lo.length : Int) = (rd_T50 fs func).f2) = false := by apply decide_eq_false; rintro ⟨a1, a2, a3⟩; (try unfold depAt at a1 a2); omega
      simp [mayB, this]
    have HM := Aside0.mk hm
    have HP := Aside0.mk p4
    clear hm p4
    refine wp_region_quiet_lit (by kernel_rfl) ?hlex_4 ?_
    case hlex_4 => exact lex44_4
    repeat (go_big_quiet_step (fail))
    refine wpQuiet_nil ?_
    intro _ hw'
    obtain ⟨nq, hw''⟩ := hw'
    subst hw''
    go_wp2_with fail
    go_ret
    exact ⟨by rw [HM.out]; rfl, pw_below_drewN HL5.out _⟩
  have t4 : ((st.length : Int) != rd (rd_L7 D func) pc) = false := by simpa using p4
  have t4' : ((st.length : Int) == rd (rd_L7 D func) pc) = true := by simpa using p4
  by_cases p5 : ¬ (lo.length : Int) = (rd_T50 fs func).f2
  · have t5 : ((lo.length : Int) != (rd_T50 fs func).f2) = true := by simpa using p5
    have t5' : ((lo.length : Int) == (rd_T50 fs func).f2) = false := by simpa using p5
    have hm : mayB fs D jfuel func pc fuel st lo kids wt = false := by
      have : decide (0 ≤ depAt D func pc ∧ (st.length : Int) = depAt D func pc ∧ (lo.length : Int) = (rd_T50 fs func).f2) = false := by apply decide_eq_false; rintro ⟨a1, a2, a3⟩; (try unfold depAt at a1 a2); omega
      simp [mayB, this]
    have HM := Aside0.mk hm
    have HP := Aside0.mk p5
    clear hm p5
    refine wp_region_quiet_lit (by kernel_rfl) ?hlex_5 ?_
    case hlex_5 => exact lex44_4
    repeat (go_big_quiet_step (fail))
    refine wpQuiet_nil ?_
    intro _ hw'
    obtain ⟨nq, hw''⟩ := hw'
    subst hw''
    go_wp2_with fail
    go_ret
    exact ⟨by rw [HM.out]; rfl, pw_below_drewN HL5.out _⟩
  have t5 : ((lo.length : Int) != (rd_T50 fs func).f2) = false := by simpa using p5
  have t5' : ((lo.length : Int) == (rd_T50 fs func).f2) = true := by simpa using p5
  by_cases p6 : kids < 0
  · have t6 : decide (kids < 0) = true := by simpa using p6
    have hm : mayB fs D jfuel func pc fuel st lo kids wt = false := by
      have : decide (0 ≤ kids ∧ kids ≤ 16 ∧ 0 ≤ fuel ∧ fuel ≤ jfuel) = false := by apply decide_eq_false; rintro ⟨a1, a2, a3⟩; (try unfold depAt at a1 a2); omega
      simp [mayB, this]
    have HM := Aside0.mk hm
    have HP := Aside0.mk p6
    clear hm p6
    refine wp_region_quiet_lit (by kernel_rfl) ?hlex_6 ?_
    case hlex_6 => exact lex44_4
    repeat (go_big_quiet_step (fail))
    refine wpQuiet_nil ?_
    intro _ hw'
    obtain ⟨nq, hw''⟩ := hw'
    subst hw''
    go_wp2_with fail
    go_ret
    exact ⟨by rw [HM.out]; rfl, pw_below_drewN HL5.out _⟩
  have t6 : decide (kids < 0) = false := by simpa using p6
  by_cases p7 : 16 < kids
  · have t7 : decide (16 < kids) = true := by simpa using p7
    have hm : mayB fs D jfuel func pc fuel st lo kids wt = false := by
      have : decide (0 ≤ kids ∧ kids ≤ 16 ∧ 0 ≤ fuel ∧ fuel ≤ jfuel) = false := by apply decide_eq_false; rintro ⟨a1, a2, a3⟩; (try unfold depAt at a1 a2); omega
      simp [mayB, this]
    have HM := Aside0.mk hm
    have HP := Aside0.mk p7
    clear hm p7
    refine wp_region_quiet_lit (by kernel_rfl) ?hlex_7 ?_
    case hlex_7 => exact lex44_4
    repeat (go_big_quiet_step (fail))
    refine wpQuiet_nil ?_
    intro _ hw'
    obtain ⟨nq, hw''⟩ := hw'
    subst hw''
    go_wp2_with fail
    go_ret
    exact ⟨by rw [HM.out]; rfl, pw_below_drewN HL5.out _⟩
  have t7 : decide (16 < kids) = false := by simpa using p7
  by_cases p8 : fuel < 0
  · have t8 : decide (fuel < 0) = true := by simpa using p8
    have hm : mayB fs D jfuel func pc fuel st lo kids wt = false := by
      have : decide (0 ≤ kids ∧ kids ≤ 16 ∧ 0 ≤ fuel ∧ fuel ≤ jfuel) = false := by apply decide_eq_false; rintro ⟨a1, a2, a3⟩; (try unfold depAt at a1 a2); omega
      simp [mayB, this]
    have HM := Aside0.mk hm
    have HP := Aside0.mk p8
    clear hm p8
    refine wp_region_quiet_lit (by kernel_rfl) ?hlex_8 ?_
    case hlex_8 => exact lex44_4
    repeat (go_big_quiet_step (fail))
    refine wpQuiet_nil ?_
    intro _ hw'
    obtain ⟨nq, hw''⟩ := hw'
    subst hw''
    go_wp2_with fail
    go_ret
    exact ⟨by rw [HM.out]; rfl, pw_below_drewN HL5.out _⟩
  have t8 : decide (fuel < 0) = false := by simpa using p8
  by_cases p9 : jfuel < fuel
  · have t9 : decide (jfuel < fuel) = true := by simpa using p9
    have hm : mayB fs D jfuel func pc fuel st lo kids wt = false := by
      have : decide (0 ≤ kids ∧ kids ≤ 16 ∧ 0 ≤ fuel ∧ fuel ≤ jfuel) = false := by apply decide_eq_false; rintro ⟨a1, a2, a3⟩; (try unfold depAt at a1 a2); omega
      simp [mayB, this]
    have HM := Aside0.mk hm
    have HP := Aside0.mk p9
    clear hm p9
    refine wp_region_quiet_lit (by kernel_rfl) ?hlex_9 ?_
    case hlex_9 => exact lex44_4
    repeat (go_big_quiet_step (fail))
    refine wpQuiet_nil ?_
    intro _ hw'
    obtain ⟨nq, hw''⟩ := hw'
    subst hw''
    go_wp2_with fail
    go_ret
    exact ⟨by rw [HM.out]; rfl, pw_below_drewN HL5.out _⟩
  have t9 : decide (jfuel < fuel) = false := by simpa using p9
  have E1_ : (decide (0 ≤ func ∧ func < (fs.length : Int)) && decide (0 ≤ pc ∧ pc < ((rd_T50 fs func).f3.length : Int)) && decide (0 ≤ depAt D func pc ∧ (st.length : Int) = depAt D func pc ∧ (lo.length : Int) = (rd_T50 fs func).f2) && decide (0 ≤ kids ∧ kids ≤ 16 ∧ 0 ≤ fuel ∧ fuel ≤ jfuel)) = true := by
    have e1 : decide (0 ≤ func ∧ func < (fs.length : Int)) = true := decide_eq_true ⟨hf1, hf2⟩
    have e2 : decide (0 ≤ pc ∧ pc < ((rd_T50 fs func).f3.length : Int)) = true := decide_eq_true ⟨z1, z2⟩
    have e3 : decide (0 ≤ depAt D func pc ∧ (st.length : Int) = depAt D func pc ∧ (lo.length : Int) = (rd_T50 fs func).f2) = true := decide_eq_true (by unfold depAt; omega)
    have e4 : decide (0 ≤ kids ∧ kids ≤ 16 ∧ 0 ≤ fuel ∧ fuel ≤ jfuel) = true := decide_eq_true (by omega)
    rw [e1, e2, e3, e4]; rfl
  have HD : Aside0 ((st.length : Int) = depAt D func pc) := ⟨by unfold depAt; omega⟩
  have HD0 : Aside0 (0 ≤ depAt D func pc) := ⟨by unfold depAt; omega⟩
  have HE := Aside0.mk E1_
  clear p3 p4 p5 p6 p7 p8 p9 E1_
  by_cases pw : wt = false
  · subst pw
    have HM : Aside0 (mayB fs D jfuel func pc fuel st lo kids false = true) := ⟨by simp only [mayB, HE.out, Bool.not_false, Bool.true_or, Bool.and_true]⟩
    refine wp_region_quiet_lit (by kernel_rfl) ?hlex_10 ?_
    case hlex_10 => exact lex44_4
    repeat (go_big_quiet_step (fail))
    refine wpQuiet_nil ?_
    intro _ hw'
    obtain ⟨nq, hw''⟩ := hw'
    subst hw''
    go_wp2_with fail
    go_ret
    exact ⟨by rw [HM.out]; rfl, pw_below_drewN HL5.out _⟩
  obtain rfl : wt = true := by simpa using pw
  by_cases p17 : ¬ (rd_T102 (rd_T50 fs func).f3 pc).f0 = 17
  · have t17 : ((rd_T102 (rd_T50 fs func).f3 pc).f0 == 17) = false := by simpa using p17
    have HM : Aside0 (mayB fs D jfuel func pc fuel st lo kids true = false) := by
      have : decide ((insAt fs func pc).f0 = 17) = false := decide_eq_false p17
      exact ⟨by simp [mayB, this]⟩
    have HP := Aside0.mk p17
    clear p17
    refine wp_region_quiet_lit (by kernel_rfl) ?hlex_11 ?_
    case hlex_11 => exact lex44_4
    repeat (go_big_quiet_step (fail))
    refine wpQuiet_nil ?_
    intro _ hw'
    obtain ⟨nq, hw''⟩ := hw'
    subst hw''
    go_wp2_with fail
    go_ret
    exact ⟨by rw [HM.out]; rfl, pw_below_drewN HL5.out _⟩
  have t17 : ((rd_T102 (rd_T50 fs func).f3 pc).f0 == 17) = true := by simpa using p17
  have HI : Aside0 (decide ((insAt fs func pc).f0 = 17) = true) := ⟨decide_eq_true (by simpa [insAt] using p17)⟩
  have hs1 : 1 ≤ st.length := by
    have := HG.out.top func pc hf1 hf2 z1 z2 HD0.out (by simpa using HI.out)
    have := HD.out
    omega
  obtain ⟨ad5, ea5, q50⟩ := HA.out.at_ ((st.length : Int) - 1) (by omega) (by omega)
  subst ea5
  rw [show ((st.length : Int) - 1).toNat = st.length - 1 by omega] at q50
  have HP17 := Aside0.mk p17
  have r50 := pw_cell_below HL5.out q50
  clear p17 q50
  by_cases pa : rd st ((st.length : Int) - 1) < 0
  · have ta : decide (0 ≤ rd st ((st.length : Int) - 1)) = false := by simpa using pa
    have HM : Aside0 (mayB fs D jfuel func pc fuel st lo kids true = false) := by
      have : decide (0 ≤ rd st ((st.length : Int) - 1) ∧ rd st ((st.length : Int) - 1) < kids) = false := by apply decide_eq_false; rintro ⟨a1, a2⟩; omega
      exact ⟨by simp [mayB, this]⟩
    have HP := Aside0.mk pa
    clear pa
    refine wp_region_quiet_lit (by kernel_rfl) ?hlex_12 ?_
    case hlex_12 => exact lex44_4
    repeat (go_big_quiet_step (fail))
    refine wpQuiet_nil ?_
    intro _ hw'
    obtain ⟨nq, hw''⟩ := hw'
    subst hw''
    go_wp2_with fail
    go_ret
    exact ⟨by rw [HM.out]; rfl, pw_below_drewN HL5.out _⟩
  by_cases pb : kids ≤ rd st ((st.length : Int) - 1)
  · have ta : decide (0 ≤ rd st ((st.length : Int) - 1)) = true := by simp; omega
    have tb : decide (rd st ((st.length : Int) - 1) < kids) = false := by simpa using pb
    have HM : Aside0 (mayB fs D jfuel func pc fuel st lo kids true = false) := by
      have : decide (0 ≤ rd st ((st.length : Int) - 1) ∧ rd st ((st.length : Int) - 1) < kids) = false := by apply decide_eq_false; rintro ⟨a1, a2⟩; omega
      exact ⟨by simp [mayB, this]⟩
    have HP := Aside0.mk pb
    clear pb
    refine wp_region_quiet_lit (by kernel_rfl) ?hlex_13 ?_
    case hlex_13 => exact lex44_4
    repeat (go_big_quiet_step (fail))
    refine wpQuiet_nil ?_
    intro _ hw'
    obtain ⟨nq, hw''⟩ := hw'
    subst hw''
    go_wp2_with fail
    go_ret
    exact ⟨by rw [HM.out]; rfl, pw_below_drewN HL5.out _⟩
  have ta : decide (0 ≤ rd st ((st.length : Int) - 1)) = true := by simp; omega
  have tb : decide (rd st ((st.length : Int) - 1) < kids) = true := by simp; omega
  have HM : Aside0 (mayB fs D jfuel func pc fuel st lo kids true = true) := by
    have : decide (0 ≤ rd st ((st.length : Int) - 1) ∧ rd st ((st.length : Int) - 1) < kids) = true := by apply decide_eq_true; omega
    exact ⟨by simp only [mayB, HE.out, HI.out, this, Bool.not_true, Bool.false_or, Bool.and_true]⟩
  have HP := Aside0.mk pa
  have HP' := Aside0.mk pb
  clear pa pb
  refine wp_region_quiet_lit (by kernel_rfl) ?hlex_14 ?_
  case hlex_14 => exact lex44_4
  repeat (go_big_quiet_step (fail))
  refine wpQuiet_nil ?_
  intro _ hw'
  obtain ⟨nq, hw''⟩ := hw'
  subst hw''
  go_wp2_with fail
  go_ret
  exact ⟨by rw [HM.out]; rfl, pw_below_drewN HL5.out _⟩
end Go.Proofs.Ytakdckaplmoklaa.Ev
end
