/- A part of the proof of TraceDeepSaid (St); laid together by merge2.py. -/
import Derived.Test.YtakdckaplmoklaaZSp
import Derived.Test.YtakdckaplmoklaaZT
section
namespace Go.Proofs.Ytakdckaplmoklaa.Ev
open Go.Proofs.YtakdckaplmoklaaHt Go.Sort
open Go.RowKit Go.Proofs.YtakdckaplmoklaaW.PrintWords Go.Proofs.YtakdckaplmoklaaW.PrintLast Go.Proofs.YtakdckaplmoklaaW.PrintMore Go.Proofs.Ytakdckaplmoklaa.PTraceDeep
set_option linter.unusedVariables false
set_option linter.unusedSimpArgs false
theorem do_some (a b c : Int) : ∃ r1 r2, gleanerref4_do.f a b c = some (r1, r2) := by
  unfold gleanerref4_do.f
  repeat' split
  all_goals exact ⟨_, _, rfl⟩
def StepPost (fs : List S50) (D : List (List Int)) (base g : Nat) (func pc fuel : Int) (st lo : List Int) (kids : Int) (wt : Bool) (deep : Int) (w : World) (e : Ending) (w' : World) : Prop :=
  ∃ kind ef ek AE cE ar er ev b pc' st' lo' kids' wt', e = .returned (.tuple #[EvV kind ef ek 0 AE (List.length ar) cE er ev, .bool b]) ∧ Row w' base (.slice AE ar.length cE) ar ∧ FrS base g w w' ∧
    StM w' base g func pc' fuel st' lo' kids' wt' ∧ StepR fs D func pc st lo kids wt deep kind ef ek ar b pc' st' lo' kids' wt'
set_option maxHeartbeats 8000000 in
set_option maxRecDepth 100000 in
theorem step_any (w0 w : World) (kb : Nat) (fs : List S50) (D : List (List Int)) (main jfuel tasks : Int) (jargs : List Int) (hk : Kn w0 kb fs D main jfuel tasks jargs) (hl : Below w0.heap.size w0 w) (hg : KG fs D)
    (g : Nat) (func pc fuel kids : Int) (wt : Bool) (st lo : List Int) (hs : StM w w0.heap.size g func pc fuel st lo kids wt) (deep : Int) (hf1 : 0 ≤ func) (hf2 : func < fs.length) (hgd : Gd fs D func pc st lo) (hk1 : 0 ≤ kids) (hk2 : kids ≤ 16) :
    Calls Try.prog 47 #[.pointer (some ⟨kb, 0, none⟩), .pointer (some ⟨g, 0, none⟩), .int .i64 deep] w (StepPost fs D w0.heap.size g func pc fuel st lo kids wt deep w) := by
  have HK := Aside0.mk hk
  have HL := Aside0.mk hl
  have HS := Aside0.mk hs
  have OK := Aside0.mk (hg.ins func pc hf1 hf2 hgd.pc0 hgd.pc1 hgd.dep)
  have HG := Aside0.mk hg
  have GD := Aside0.mk hgd
  have hp0 := hgd.pc0
  have hp1 := hgd.pc1
  have hd0 := hgd.dep
  have hsl := Aside0.mk hgd.st
  have hll := Aside0.mk hgd.lo
  have hcode := (hg.row func hf1 hf2).2.1
  have hhi := hg.high func pc hf1 hf2 hp0 hp1
  have hloc := (hg.row func hf1 hf2).2.2.2.2
  obtain ⟨A1, c1, A2, c2, T_, FR⟩ := hs.tr
  have T0 := Aside0.mk T_
  obtain ⟨AF, cF, AA, cA, AD, cD, k1, k2, k3, k4, k5, k6, k7⟩ := hk.out
  obtain ⟨ad1, A3, c3, ea1, q10, q11, q12, q13, q14, q15⟩ := at_T50 k3 func hf1 hf2
  subst ea1
  obtain ⟨ad3, ea3, q30, q31⟩ := at_T102 q15 pc hp0 hp1
  subst ea3
  have eop : Aside0 ((rd_T102 (rd_T50 fs func).f3 pc).f0 = (insAt fs func pc).f0 ∧ (rd_T102 (rd_T50 fs func).f3 pc).f1 = (insAt fs func pc).f1) := ⟨rfl, rfl⟩
  have BW : Aside0 (Below w.heap.size w w) := ⟨Below.refl _ _⟩
  have hop1 := OK.out.op1
  have hop2 := OK.out.op2
  generalize hopE : (rd_T102 (rd_T50 fs func).f3 pc).f0 = op at q30 eop
  generalize hNE : (rd_T102 (rd_T50 fs func).f3 pc).f1 = N at q31 eop
  have eo1 := eop.out.1
  have eo2 := eop.out.2
  rw [← eo1] at hop1 hop2
  have EO := Aside0.mk eop.out
  clear hk hl hs hg hgd k2 k3 k4 k5 k6 k7 q10 q11 q12 q14 q15 T_ hopE hNE eop eo1 eo2
  have K1 := Aside0.mk k1
  have Q13 := Aside0.mk q13
  have Q30 := Aside0.mk q30
  have Q31 := Aside0.mk q31
  clear k1 q13 q30 q31
  obtain ⟨⟨c_g, f_g⟩, _⟩ := T0.out.cells
  go_enter Try.func47, Try.ntmps47
  go_wp2_with (first
    | ((with_reducible refine gate_dst (N := 6) rfl ?_); refine tr_new 6 rfl rfl T0 #[.int .i64 0, .int .i64 0, .int .i64 0, .int .i64 0, .slice none 0 0, .int .i64 0, .int .i64 0] 83 (by decide) ?h6_1 ?_; (case h6_1 => first | (go_simp; done) | (go_simp; rfl)); intro e w101 T1; clear c_g f_g; clear T0; obtain ⟨⟨c_e, f_e⟩, ⟨c_g, f_g⟩, _⟩ := T1.out.cells))
  have HB := Aside0.mk (HL.out.trans (T1.out.below FR.out.1 HL.out.size))
  have gK := blk_gr (blk_below K1.out HB.out)
  obtain ⟨g_e, g_g, _⟩ := T1.out.gr
  have g13 := cell_gr (pw_cell_below HB.out Q13.out)
  have g30 := cell_gr (pw_cell_below HB.out Q30.out)
  have g31 := cell_gr (pw_cell_below HB.out Q31.out)
  refine wp_region_hp [0, 1, 2, 3, 4, 5, 6, 7, 8, 9, 10, 11, 12, 13, 14, 15, 16, 17] [18, 19] (by kernel_rfl) (by kernel_rfl) rfl rfl rfl (fun c a d v w h => ?hQ) ?_
  case hQ => cases d <;> exact h
  simp only [pick, List.getElem?_cons_zero, List.getElem?_cons_succ, List.nil_append, List.cons_append]
  repeat (quiet_step (fail))
  refine wpQuiet_nil ?_
  clear gK g_e g_g g13 g30 g31 HB
  clear c_e f_e c_g f_g
  have T2 := Aside0.mk (T1.out.drew)
  clear T1
  generalize w101.drew = w102 at T2 ⊢
  obtain ⟨⟨c_e, f_e⟩, ⟨c_g, f_g⟩, _⟩ := T2.out.cells
  refine tr_new 8 rfl rfl T2 #[.int .i64 0, .int .i64 0] 102 (by decide) ?h8_2 ?_
  (case h8_2 => first | (go_simp; done) | (go_simp; rfl))
  intro i w103 T3
  clear c_e f_e c_g f_g
  clear T2
  obtain ⟨⟨c_i, f_i⟩, ⟨c_e, f_e⟩, ⟨c_g, f_g⟩, _⟩ := T3.out.cells
  refine tr_st [] T3 0 rfl 102 rfl rfl #[_, _] (.agg #[.int .i64 op, .int .i64 N]) [_, _] sz102 rfl rfl rfl rfl (by simp) rfl ?_
  intro w104 T4
  simp only [List.cons_append, List.nil_append] at T4
  clear c_i f_i c_e f_e c_g f_g
  clear T3
  obtain ⟨⟨c_i, f_i⟩, ⟨c_e, f_e⟩, ⟨c_g, f_g⟩, _⟩ := T4.out.cells
  try simp only [List.append_eq, List.cons_append, List.nil_append, Act.put, List.setIfInBounds_toArray, List.set_cons_zero, List.set_cons_succ]
  have h32 : (st.length : Int) ≤ 32 := by have := hsl.out; omega
  have hpN : (pc : Int) + 1 ≤ 1000 := by omega
  clear Q13 Q30 Q31
  have hops : op = 1 ∨ op = 5 ∨ op = 14 ∨ op = 16 ∨ op = 2 ∨ op = 3 ∨ op = 4 ∨ op = 6 ∨ (7 ≤ op ∧ op ≤ 13) ∨ op = 15 ∨ op = 17 ∨ op = 18 ∨ op = 19 := by omega
  clear hop1 hop2
  rcases hops with rfl | rfl | rfl | rfl | rfl | rfl | rfl | rfl | hA | rfl | rfl | rfl | rfl
  · skip
    have hn := OK.out.next EO.out (pc + 1) (by simp [nextOf]) 0 1 (by simp [popsOf]) (by simp [pushOf])
    by_cases hpos : 0 < st.length
    focus
      have hi0 : 0 ≤ (st.length : Int) - 1 := by have := hsl.out; omega
      have hi1 : (st.length : Int) - 1 < st.length := by omega
      have hi2 : (1 : Int) ≤ (st.length : Int) := by omega
      have b1 : decide ((0 : Int) < (st.length : Int)) = true := by rw [decide_eq_true_eq]; omega
      obtain ⟨adS, eS, cS⟩ := (row_reads (T4.out.row _ (.head _)).1).at_ _ hi0 hi1
      subst eS
      rw [show ((st.length : Int) - 1).toNat = st.length - 1 by omega] at cS
    rotate_left 1
    focus
      have b1 : decide ((0 : Int) < (st.length : Int)) = false := by rw [decide_eq_false_iff_not]; omega
    all_goals
      go_wp2_with fail
      obtain ⟨g_i, g_e, g_g, _⟩ := T4.out.gr
      refine wp_region_hp [0, 1, 2, 3, 4, 5, 6] [7, 8, 9, 10, 11] (by kernel_rfl) (by kernel_rfl) rfl rfl rfl (fun c a d v w h => ?hQ1) ?_
      case hQ1 => cases d <;> exact h
      simp only [pick, List.getElem?_cons_zero, List.getElem?_cons_succ, List.nil_append, List.cons_append]
      repeat (quiet_step (fail))
      refine wpQuiet_nil ?_
      clear g_i g_e g_g
      try clear cS
      clear c_i f_i c_e f_e c_g f_g
      have T5 := Aside0.mk (T4.out.drew)
      clear T4
      generalize w104.drew = w105 at T5 ⊢
      obtain ⟨⟨c_i, f_i⟩, ⟨c_e, f_e⟩, ⟨c_g, f_g⟩, _⟩ := T5.out.cells
      go_wp2_with (first
        | ((with_reducible refine gate_dst (N := 63) rfl ?_); refine tr_one T5 63 rfl rfl (N) ?h63_3 ?_; (case h63_3 => first | (go_simp; done) | (go_simp; rfl)); intro A_o c_o_ w106 T6; clear c_i f_i c_e f_e c_g f_g; clear T5; obtain ⟨⟨c_i, f_i⟩, ⟨c_e, f_e⟩, ⟨c_g, f_g⟩, _⟩ := T6.out.cells)
        | ((with_reducible refine gate_dst (N := 64) rfl ?_); refine tr_app [_] T6 64 rfl rfl rfl [N] A_o [N].length c_o_ rfl rfl (row_reads (T6.out.row _ (.head _)).1) (by simp; omega) ?_; intro A_n c_n_ z_n w107 E_n T7; simp only [List.cons_append, List.nil_append] at T7; clear c_i f_i c_e f_e c_g f_g; clear T6; have T8 := Aside0.mk T7.out.drow; clear T7; obtain ⟨⟨c_i, f_i⟩, ⟨c_e, f_e⟩, ⟨c_g, f_g⟩, _⟩ := T8.out.cells)
        | ((with_reducible refine gate_store (t := 23) (p := 66) rfl ?_); refine tr_st [_, _] T8 3 rfl 23 rfl rfl #[_, _, _, _, _, _, _] (.slice A_n z_n.length c_n_) [_] sz23 rfl rfl rfl rfl (by simp) rfl ?_; intro w108 T9; simp only [List.cons_append, List.nil_append] at T9; clear c_i f_i c_e f_e c_g f_g; clear T8; obtain ⟨⟨c_i, f_i⟩, ⟨c_e, f_e⟩, ⟨c_g, f_g⟩, _⟩ := T9.out.cells)
        | ((with_reducible refine gate_store (t := 3) (p := 258) rfl ?_); refine tr_st [_, _] T9 1 rfl 3 rfl rfl #[_, _, _, _, _, _, _] (.int .i64 (pc + 1)) [_] sz3 rfl rfl rfl rfl (by simp) rfl ?_; intro w109 T10; simp only [List.cons_append, List.nil_append] at T10; clear c_i f_i c_e f_e c_g f_g; clear T9; obtain ⟨⟨c_i, f_i⟩, ⟨c_e, f_e⟩, ⟨c_g, f_g⟩, _⟩ := T10.out.cells)
        | ((with_reducible refine gate_store (t := 83) (p := 6) rfl ?_); refine tr_st [_] T10 0 rfl 83 rfl rfl #[_, _, _, _, _, _, _] (.agg #[.int .i64 0, .int .i64 0, .int .i64 0, .int .i64 0, .slice none 0 0, .int .i64 0, .int .i64 0]) [_, _, _, _, _, _, _] sz83 rfl rfl rfl rfl (by simp) rfl ?_; intro w110 T11; simp only [List.cons_append, List.nil_append] at T11; clear c_i f_i c_e f_e c_g f_g; clear T10; obtain ⟨⟨c_i, f_i⟩, ⟨c_e, f_e⟩, ⟨c_g, f_g⟩, _⟩ := T11.out.cells))
      refine bodyPost_ret (results_ct rfl _ _ e 83 _ (0, 0) _ rfl (T11.out.blk _ (.tail _ (.head _))).1 Try.underlying83 rfl (by kernel_rfl)) rfl ?_
      unfold StepPost
      exact ⟨0, 0, 0, none, 0, [], 0, 0, false, (pc + 1), z_n, lo, kids, wt, rfl, row_nil _ _, FR.out.2 _ _ _ T11.out, T11.out.stm FR.out.1 HL.out.size rfl rfl (.tail _ (.tail _ (.head _))) (.head _) (.tail _ (.head _)) ((List.pairwise_cons.1 T11.out.ap).1 _ (.head _)), .inl ⟨rfl, ⟨hn.1, hn.2.1, by omega, by have h1 := hsl.out; have h2 := congrArg List.length E_n.out; simp only [List.length_append, List.length_cons, List.length_nil] at h2; omega, by have := hll.out; omega⟩, rfl, rfl⟩⟩
  · skip
    have hn := OK.out.next EO.out (pc + 1) (by simp [nextOf]) 0 1 (by simp [popsOf]) (by simp [pushOf])
    have hl0 := (OK.out.loc (by rw [← EO.out.1]; simp)).1
    have hl1 := (OK.out.loc (by rw [← EO.out.1]; simp)).2
    rw [← EO.out.2] at hl0 hl1
    have hl2 : N < (lo.length : Int) := by have := hll.out; omega
    obtain ⟨adL, eL, cL⟩ := (row_reads (T4.out.row _ (.tail _ (.head _))).1).at_ N hl0 hl2
    subst eL
    by_cases hpos : 0 < st.length
    focus
      have hi0 : 0 ≤ (st.length : Int) - 1 := by have := hsl.out; omega
      have hi1 : (st.length : Int) - 1 < st.length := by omega
      have hi2 : (1 : Int) ≤ (st.length : Int) := by omega
      have b1 : decide ((0 : Int) < (st.length : Int)) = true := by rw [decide_eq_true_eq]; omega
      obtain ⟨adS, eS, cS⟩ := (row_reads (T4.out.row _ (.head _)).1).at_ _ hi0 hi1
      subst eS
      rw [show ((st.length : Int) - 1).toNat = st.length - 1 by omega] at cS
    rotate_left 1
    focus
      have b1 : decide ((0 : Int) < (st.length : Int)) = false := by rw [decide_eq_false_iff_not]; omega
    all_goals
      go_wp2_with fail
      obtain ⟨g_i, g_e, g_g, _⟩ := T4.out.gr
      have gL := cell_gr cL
      refine wp_region_hp [0, 1, 2, 3, 4, 5, 6, 7, 8, 9, 10, 11, 12] [13, 14, 15, 16, 17] (by kernel_rfl) (by kernel_rfl) rfl rfl rfl (fun c a d v w h => ?hQ5) ?_
      case hQ5 => cases d <;> exact h
      simp only [pick, List.getElem?_cons_zero, List.getElem?_cons_succ, List.nil_append, List.cons_append]
      repeat (quiet_step (fail))
      refine wpQuiet_nil ?_
      clear g_i g_e g_g
      clear cL gL
      try clear cS
      clear c_i f_i c_e f_e c_g f_g
      have T5 := Aside0.mk (T4.out.drew)
      clear T4
      generalize w104.drew = w105 at T5 ⊢
      obtain ⟨⟨c_i, f_i⟩, ⟨c_e, f_e⟩, ⟨c_g, f_g⟩, _⟩ := T5.out.cells
      go_wp2_with (first
        | ((with_reducible refine gate_dst (N := 131) rfl ?_); refine tr_one T5 131 rfl rfl (rd lo N) ?h131_3 ?_; (case h131_3 => first | (go_simp; done) | (go_simp; rfl)); intro A_o c_o_ w106 T6; clear c_i f_i c_e f_e c_g f_g; clear T5; obtain ⟨⟨c_i, f_i⟩, ⟨c_e, f_e⟩, ⟨c_g, f_g⟩, _⟩ := T6.out.cells)
        | ((with_reducible refine gate_dst (N := 132) rfl ?_); refine tr_app [_] T6 132 rfl rfl rfl [rd lo N] A_o [rd lo N].length c_o_ rfl rfl (row_reads (T6.out.row _ (.head _)).1) (by simp; omega) ?_; intro A_n c_n_ z_n w107 E_n T7; simp only [List.cons_append, List.nil_append] at T7; clear c_i f_i c_e f_e c_g f_g; clear T6; have T8 := Aside0.mk T7.out.drow; clear T7; obtain ⟨⟨c_i, f_i⟩, ⟨c_e, f_e⟩, ⟨c_g, f_g⟩, _⟩ := T8.out.cells)
        | ((with_reducible refine gate_store (t := 23) (p := 134) rfl ?_); refine tr_st [_, _] T8 3 rfl 23 rfl rfl #[_, _, _, _, _, _, _] (.slice A_n z_n.length c_n_) [_] sz23 rfl rfl rfl rfl (by simp) rfl ?_; intro w108 T9; simp only [List.cons_append, List.nil_append] at T9; clear c_i f_i c_e f_e c_g f_g; clear T8; obtain ⟨⟨c_i, f_i⟩, ⟨c_e, f_e⟩, ⟨c_g, f_g⟩, _⟩ := T9.out.cells)
        | ((with_reducible refine gate_store (t := 3) (p := 258) rfl ?_); refine tr_st [_, _] T9 1 rfl 3 rfl rfl #[_, _, _, _, _, _, _] (.int .i64 (pc + 1)) [_] sz3 rfl rfl rfl rfl (by simp) rfl ?_; intro w109 T10; simp only [List.cons_append, List.nil_append] at T10; clear c_i f_i c_e f_e c_g f_g; clear T9; obtain ⟨⟨c_i, f_i⟩, ⟨c_e, f_e⟩, ⟨c_g, f_g⟩, _⟩ := T10.out.cells)
        | ((with_reducible refine gate_store (t := 83) (p := 6) rfl ?_); refine tr_st [_] T10 0 rfl 83 rfl rfl #[_, _, _, _, _, _, _] (.agg #[.int .i64 0, .int .i64 0, .int .i64 0, .int .i64 0, .slice none 0 0, .int .i64 0, .int .i64 0]) [_, _, _, _, _, _, _] sz83 rfl rfl rfl rfl (by simp) rfl ?_; intro w110 T11; simp only [List.cons_append, List.nil_append] at T11; clear c_i f_i c_e f_e c_g f_g; clear T10; obtain ⟨⟨c_i, f_i⟩, ⟨c_e, f_e⟩, ⟨c_g, f_g⟩, _⟩ := T11.out.cells))
      refine bodyPost_ret (results_ct rfl _ _ e 83 _ (0, 0) _ rfl (T11.out.blk _ (.tail _ (.head _))).1 Try.underlying83 rfl (by kernel_rfl)) rfl ?_
      unfold StepPost
      exact ⟨0, 0, 0, none, 0, [], 0, 0, false, (pc + 1), z_n, lo, kids, wt, rfl, row_nil _ _, FR.out.2 _ _ _ T11.out, T11.out.stm FR.out.1 HL.out.size rfl rfl (.tail _ (.tail _ (.head _))) (.head _) (.tail _ (.head _)) ((List.pairwise_cons.1 T11.out.ap).1 _ (.head _)), .inl ⟨rfl, ⟨hn.1, hn.2.1, by omega, by have h1 := hsl.out; have h2 := congrArg List.length E_n.out; simp only [List.length_append, List.length_cons, List.length_nil] at h2; omega, by have := hll.out; omega⟩, rfl, rfl⟩⟩
  · skip
    have hn := OK.out.next EO.out N (by simp [nextOf]) 0 0 (by simp [popsOf]) (by simp [pushOf])
    by_cases hpos : 0 < st.length
    focus
      have hi0 : 0 ≤ (st.length : Int) - 1 := by have := hsl.out; omega
      have hi1 : (st.length : Int) - 1 < st.length := by omega
      have hi2 : (1 : Int) ≤ (st.length : Int) := by omega
      have b1 : decide ((0 : Int) < (st.length : Int)) = true := by rw [decide_eq_true_eq]; omega
      obtain ⟨adS, eS, cS⟩ := (row_reads (T4.out.row _ (.head _)).1).at_ _ hi0 hi1
      subst eS
      rw [show ((st.length : Int) - 1).toNat = st.length - 1 by omega] at cS
    rotate_left 1
    focus
      have b1 : decide ((0 : Int) < (st.length : Int)) = false := by rw [decide_eq_false_iff_not]; omega
    all_goals
      go_wp2_with (first
        | ((with_reducible refine gate_store (t := 3) (p := 258) rfl ?_); refine tr_st [_, _] T4 1 rfl 3 rfl rfl #[_, _, _, _, _, _, _] (.int .i64 N) [_] sz3 rfl rfl rfl rfl (by simp) rfl ?_; intro w105 T5; simp only [List.cons_append, List.nil_append] at T5; clear c_i f_i c_e f_e c_g f_g; clear T4; obtain ⟨⟨c_i, f_i⟩, ⟨c_e, f_e⟩, ⟨c_g, f_g⟩, _⟩ := T5.out.cells)
        | ((with_reducible refine gate_store (t := 83) (p := 6) rfl ?_); refine tr_st [_] T5 0 rfl 83 rfl rfl #[_, _, _, _, _, _, _] (.agg #[.int .i64 0, .int .i64 0, .int .i64 0, .int .i64 0, .slice none 0 0, .int .i64 0, .int .i64 0]) [_, _, _, _, _, _, _] sz83 rfl rfl rfl rfl (by simp) rfl ?_; intro w106 T6; simp only [List.cons_append, List.nil_append] at T6; clear c_i f_i c_e f_e c_g f_g; clear T5; obtain ⟨⟨c_i, f_i⟩, ⟨c_e, f_e⟩, ⟨c_g, f_g⟩, _⟩ := T6.out.cells))
      refine bodyPost_ret (results_ct rfl _ _ e 83 _ (0, 0) _ rfl (T6.out.blk _ (.tail _ (.head _))).1 Try.underlying83 rfl (by kernel_rfl)) rfl ?_
      unfold StepPost
      exact ⟨0, 0, 0, none, 0, [], 0, 0, false, N, st, lo, kids, wt, rfl, row_nil _ _, FR.out.2 _ _ _ T6.out, T6.out.stm FR.out.1 HL.out.size rfl rfl (.tail _ (.tail _ (.head _))) (.head _) (.tail _ (.head _)) ((List.pairwise_cons.1 T6.out.ap).1 _ (.head _)), .inl ⟨rfl, ⟨hn.1, hn.2.1, by omega, by have := hsl.out; omega, by have := hll.out; omega⟩, rfl, rfl⟩⟩
  · skip
    have hs0 := (OK.out.sp (by rw [← EO.out.1])).1
    have hs1 := (OK.out.sp (by rw [← EO.out.1])).2
    rw [← EO.out.2] at hs0 hs1
    have hpp := OK.out.pop EO.out (rd_T50 fs N).f1 (by simp [popsOf])
    have hn := OK.out.next EO.out (pc + 1) (by simp [nextOf]) (rd_T50 fs N).f1 1 (by simp [popsOf]) (by simp [pushOf])
    have ha0 := (HG.out.row N hs0 hs1).2.2.1
    by_cases hpos : 0 < st.length
    focus
      have hi0 : 0 ≤ (st.length : Int) - 1 := by have := hsl.out; omega
      have hi1 : (st.length : Int) - 1 < st.length := by omega
      have hi2 : (1 : Int) ≤ (st.length : Int) := by omega
      have b1 : decide ((0 : Int) < (st.length : Int)) = true := by rw [decide_eq_true_eq]; omega
      obtain ⟨adS, eS, cS⟩ := (row_reads (T4.out.row _ (.head _)).1).at_ _ hi0 hi1
      subst eS
      rw [show ((st.length : Int) - 1).toNat = st.length - 1 by omega] at cS
    rotate_left 1
    focus
      have b1 : decide ((0 : Int) < (st.length : Int)) = false := by rw [decide_eq_false_iff_not]; omega
    all_goals
      go_wp2_with fail
      have hne : e ≠ g := (List.pairwise_cons.1 (List.pairwise_cons.1 T4.out.dist).2).1 _ (.head _)
      have hew := T4.out.newb (.tail _ (.head _)) hne (.head _) (.tail _ (.head _))
      have hbe := (T4.out.blk _ (.tail _ (.head _))).1
      have hfr0 := FR.out.2 _ _ _ T4.out
      try clear cS
      clear c_i f_i c_e f_e c_g f_g
      refine (spawn_any w0 _ kb fs D main jfuel tasks jargs HK.out (HL.out.trans (T4.out.below FR.out.1 HL.out.size)) g func pc fuel kids wt st lo (T4.out.stm FR.out.1 HL.out.size rfl rfl (.tail _ (.tail _ (.head _))) (.head _) (.tail _ (.head _)) ((List.pairwise_cons.1 T4.out.ap).1 _ (.head _))) N deep hs0 hs1 ha0 (by have := hsl.out; omega) (by have := hsl.out; omega) hk1 hk2 hp0 (by omega)).mono ?_
      rintro e_ w201 ⟨kind, ef, ek, AE, cE, ar, er, ev, rfl, hr, hf, hcase⟩
      have hbe2 := hf.blk hbe hne (by decide : (83 : TypeId) ≠ 3)
      have hff := hfr0.trans hf
      have HB2 := Aside0.mk hbe2
      have HFF := Aside0.mk hff
      have HR := Aside0.mk hr
      have HC := Aside0.mk hcase
      have HNE := Aside0.mk hne
      have HEW := Aside0.mk hew
      clear hbe hbe2 hfr0 hff hf hr hcase hne hew
      unfold EvV
      go_wp2_with (first
        | ((with_reducible refine gate_store (t := 83) (p := 6) rfl ?_); refine st_law e 0 rfl 83 _ _ rfl rfl _ #[_, _, _, _, _, _, _] 83 (.agg #[.int .i64 kind, .int .i64 ef, .int .i64 ek, .int .i64 0, .slice AE ar.length cE, .int .i64 er, .int .i64 ev]) [_, _, _, _, _, _, _] rfl rfl rfl sz83 (by simp [Value.oneCell']) HB2.out (by simp) rfl ?_; intro w202 b_ G_ s_; have B9 := Aside0.mk b_; have G9 := Aside0.mk G_; clear b_ G_ s_))
      refine bodyPost_ret (results_ct rfl _ _ e 83 _ (0, 0) _ rfl B9.out Try.underlying83 rfl (by kernel_rfl)) rfl ?_
      unfold StepPost
      have hrow := row_grown HR.out G9.out (row_blk HR.out HB2.out (by decide : (3 : TypeId) ≠ 83))
      rcases HC.out with ⟨hk3, hst⟩ | ⟨hk1_, hd12, hk16, hef, hek, har, st', hstl, hst⟩
      · exact ⟨kind, ef, ek, AE, cE, ar, er, ev, true, pc, st, lo, kids, wt, rfl, hrow, HFF.out.new G9.out HEW.out, hst.grown HB2.out (by decide : (3 : TypeId) ≠ 83) HNE.out G9.out, .inr (.inr (.inr ⟨rfl, hk3⟩))⟩
      · exact ⟨kind, ef, ek, AE, cE, ar, er, ev, true, pc + 1, st', lo, kids + 1, wt, rfl, hrow, HFF.out.new G9.out HEW.out, hst.grown HB2.out (by decide : (3 : TypeId) ≠ 83) HNE.out G9.out, .inr (.inl ⟨rfl, hk1_, hd12, hk16, by rw [hef]; exact hs0, by rw [hef]; exact hs1, hek, by rw [hef]; exact har, ⟨hn.1, hn.2.1, by omega, by have := hsl.out; omega, hll.out⟩, rfl, rfl⟩)⟩
  · skip
    have hpp := OK.out.pop EO.out 1 (by simp [popsOf])
    have hi0 : 0 ≤ (st.length : Int) - 1 := by have := hsl.out; omega
    have hi1 : (st.length : Int) - 1 < st.length := by omega
    have hi2 : (1 : Int) ≤ (st.length : Int) := by omega
    have b1 : decide ((0 : Int) < (st.length : Int)) = true := by rw [decide_eq_true_eq]; omega
    obtain ⟨adS, eS, cS⟩ := (row_reads (T4.out.row _ (.head _)).1).at_ _ hi0 hi1
    subst eS
    rw [show ((st.length : Int) - 1).toNat = st.length - 1 by omega] at cS
    obtain ⟨tk, etk, htl, htake, htr⟩ := take3 (some adS) c1 st _ hi0 (Int.le_of_lt hi1) (row_cap (T4.out.row _ (.head _)).1)
    have T5 := Aside0.mk (T4.out.rtake [] (htr _ _ (T4.out.row _ (.head _)).1) (fun k hk => hk))
    simp only [List.nil_append] at T5
    clear htr etk T4
    have hn := OK.out.next EO.out (pc + 1) (by simp [nextOf]) 1 0 (by simp [popsOf]) (by simp [pushOf])
    go_wp2_with (first
      | ((with_reducible refine gate_store (t := 23) (p := 78) rfl ?_); refine tr_st [_, _] T5 3 rfl 23 rfl rfl #[_, _, _, _, _, _, _] (.slice (some adS) tk.length c1) [_] sz23 rfl rfl rfl rfl (by simp) rfl ?_; intro w105 T6; simp only [List.cons_append, List.nil_append] at T6; clear c_i f_i c_e f_e c_g f_g; clear T5; obtain ⟨⟨c_i, f_i⟩, ⟨c_e, f_e⟩, ⟨c_g, f_g⟩, _⟩ := T6.out.cells)
      | ((with_reducible refine gate_store (t := 3) (p := 258) rfl ?_); refine tr_st [_, _] T6 1 rfl 3 rfl rfl #[_, _, _, _, _, _, _] (.int .i64 (pc + 1)) [_] sz3 rfl rfl rfl rfl (by simp) rfl ?_; intro w106 T7; simp only [List.cons_append, List.nil_append] at T7; clear c_i f_i c_e f_e c_g f_g; clear T6; obtain ⟨⟨c_i, f_i⟩, ⟨c_e, f_e⟩, ⟨c_g, f_g⟩, _⟩ := T7.out.cells)
      | ((with_reducible refine gate_store (t := 83) (p := 6) rfl ?_); refine tr_st [_] T7 0 rfl 83 rfl rfl #[_, _, _, _, _, _, _] (.agg #[.int .i64 0, .int .i64 0, .int .i64 0, .int .i64 0, .slice none 0 0, .int .i64 0, .int .i64 0]) [_, _, _, _, _, _, _] sz83 rfl rfl rfl rfl (by simp) rfl ?_; intro w107 T8; simp only [List.cons_append, List.nil_append] at T8; clear c_i f_i c_e f_e c_g f_g; clear T7; obtain ⟨⟨c_i, f_i⟩, ⟨c_e, f_e⟩, ⟨c_g, f_g⟩, _⟩ := T8.out.cells))
    refine bodyPost_ret (results_ct rfl _ _ e 83 _ (0, 0) _ rfl (T8.out.blk _ (.tail _ (.head _))).1 Try.underlying83 rfl (by kernel_rfl)) rfl ?_
    unfold StepPost
    exact ⟨0, 0, 0, none, 0, [], 0, 0, false, (pc + 1), tk, lo, kids, wt, rfl, row_nil _ _, FR.out.2 _ _ _ T8.out, T8.out.stm FR.out.1 HL.out.size rfl rfl (.tail _ (.tail _ (.head _))) (.head _) (.tail _ (.head _)) ((List.pairwise_cons.1 T8.out.ap).1 _ (.head _)), .inl ⟨rfl, ⟨hn.1, hn.2.1, by omega, by have := hsl.out; omega, by have := hll.out; omega⟩, rfl, rfl⟩⟩
  · skip
    have hpp := OK.out.pop EO.out 1 (by simp [popsOf])
    have hi0 : 0 ≤ (st.length : Int) - 1 := by have := hsl.out; omega
    have hi1 : (st.length : Int) - 1 < st.length := by omega
    have hi2 : (1 : Int) ≤ (st.length : Int) := by omega
    have b1 : decide ((0 : Int) < (st.length : Int)) = true := by rw [decide_eq_true_eq]; omega
    obtain ⟨adS, eS, cS⟩ := (row_reads (T4.out.row _ (.head _)).1).at_ _ hi0 hi1
    subst eS
    rw [show ((st.length : Int) - 1).toNat = st.length - 1 by omega] at cS
    have hn := OK.out.next EO.out (pc + 1) (by simp [nextOf]) 1 2 (by simp [popsOf]) (by simp [pushOf])
    go_wp2_with (first
      | ((with_reducible refine gate_dst (N := 87) rfl ?_); refine tr_one T4 87 rfl rfl ((rd st ((st.length : Int) - 1))) ?h87_3 ?_; (case h87_3 => first | (go_simp; done) | (go_simp; rfl)); intro A_o c_o_ w105 T5; clear c_i f_i c_e f_e c_g f_g; clear T4; obtain ⟨⟨c_i, f_i⟩, ⟨c_e, f_e⟩, ⟨c_g, f_g⟩, _⟩ := T5.out.cells)
      | ((with_reducible refine gate_dst (N := 88) rfl ?_); refine tr_app [_] T5 88 rfl rfl rfl [(rd st ((st.length : Int) - 1))] A_o [(rd st ((st.length : Int) - 1))].length c_o_ rfl rfl (row_reads (T5.out.row _ (.head _)).1) (by simp; omega) ?_; intro A_n c_n_ z_n w106 E_n T6; simp only [List.cons_append, List.nil_append] at T6; clear c_i f_i c_e f_e c_g f_g; clear T5; have T7 := Aside0.mk T6.out.drow; clear T6; obtain ⟨⟨c_i, f_i⟩, ⟨c_e, f_e⟩, ⟨c_g, f_g⟩, _⟩ := T7.out.cells)
      | ((with_reducible refine gate_store (t := 23) (p := 90) rfl ?_); refine tr_st [_, _] T7 3 rfl 23 rfl rfl #[_, _, _, _, _, _, _] (.slice A_n z_n.length c_n_) [_] sz23 rfl rfl rfl rfl (by simp) rfl ?_; intro w107 T8; simp only [List.cons_append, List.nil_append] at T8; clear c_i f_i c_e f_e c_g f_g; clear T7; obtain ⟨⟨c_i, f_i⟩, ⟨c_e, f_e⟩, ⟨c_g, f_g⟩, _⟩ := T8.out.cells)
      | ((with_reducible refine gate_store (t := 3) (p := 258) rfl ?_); refine tr_st [_, _] T8 1 rfl 3 rfl rfl #[_, _, _, _, _, _, _] (.int .i64 (pc + 1)) [_] sz3 rfl rfl rfl rfl (by simp) rfl ?_; intro w108 T9; simp only [List.cons_append, List.nil_append] at T9; clear c_i f_i c_e f_e c_g f_g; clear T8; obtain ⟨⟨c_i, f_i⟩, ⟨c_e, f_e⟩, ⟨c_g, f_g⟩, _⟩ := T9.out.cells)
      | ((with_reducible refine gate_store (t := 83) (p := 6) rfl ?_); refine tr_st [_] T9 0 rfl 83 rfl rfl #[_, _, _, _, _, _, _] (.agg #[.int .i64 0, .int .i64 0, .int .i64 0, .int .i64 0, .slice none 0 0, .int .i64 0, .int .i64 0]) [_, _, _, _, _, _, _] sz83 rfl rfl rfl rfl (by simp) rfl ?_; intro w109 T10; simp only [List.cons_append, List.nil_append] at T10; clear c_i f_i c_e f_e c_g f_g; clear T9; obtain ⟨⟨c_i, f_i⟩, ⟨c_e, f_e⟩, ⟨c_g, f_g⟩, _⟩ := T10.out.cells))
    refine bodyPost_ret (results_ct rfl _ _ e 83 _ (0, 0) _ rfl (T10.out.blk _ (.tail _ (.head _))).1 Try.underlying83 rfl (by kernel_rfl)) rfl ?_
    unfold StepPost
    exact ⟨0, 0, 0, none, 0, [], 0, 0, false, (pc + 1), z_n, lo, kids, wt, rfl, row_nil _ _, FR.out.2 _ _ _ T10.out, T10.out.stm FR.out.1 HL.out.size rfl rfl (.tail _ (.tail _ (.head _))) (.head _) (.tail _ (.head _)) ((List.pairwise_cons.1 T10.out.ap).1 _ (.head _)), .inl ⟨rfl, ⟨hn.1, hn.2.1, by omega, by have h1 := hsl.out; have h2 := congrArg List.length E_n.out; simp only [List.length_append, List.length_cons, List.length_nil] at h2; omega, by have := hll.out; omega⟩, rfl, rfl⟩⟩
  · skip
    have hpp := OK.out.pop EO.out 2 (by simp [popsOf])
    have hi0 : 0 ≤ (st.length : Int) - 1 := by have := hsl.out; omega
    have hi1 : (st.length : Int) - 1 < st.length := by omega
    have hi2 : (1 : Int) ≤ (st.length : Int) := by omega
    have b1 : decide ((0 : Int) < (st.length : Int)) = true := by rw [decide_eq_true_eq]; omega
    obtain ⟨adS, eS, cS⟩ := (row_reads (T4.out.row _ (.head _)).1).at_ _ hi0 hi1
    subst eS
    rw [show ((st.length : Int) - 1).toNat = st.length - 1 by omega] at cS
    have hj0 : 0 ≤ (st.length : Int) - 2 := by have := hsl.out; omega
    have hj1 : (st.length : Int) - 2 < st.length := by omega
    have hj2 : (2 : Int) ≤ (st.length : Int) := by omega
    have hj3 : 2 ≤ st.length := by omega
    have hw1 : IntKind.i64.wrap ((st.length : Int) - 1) = (st.length : Int) - 1 := IntWalk.i64_in _ (by omega)
    have hw2 : IntKind.i64.wrap ((st.length : Int) - 2) = (st.length : Int) - 2 := IntWalk.i64_in _ (by omega)
    obtain ⟨_, eS2, cS2⟩ := (row_reads (T4.out.row _ (.head _)).1).at_ _ hj0 hj1
    obtain rfl := Option.some.inj eS2
    have hn := OK.out.next EO.out (pc + 1) (by simp [nextOf]) 2 2 (by simp [popsOf]) (by simp [pushOf])
    go_wp2_with fail
    obtain ⟨g_i, g_e, g_g, _⟩ := T4.out.gr
    have gS := cell_gr cS
    have gS2 := cell_gr cS2
    refine wp_region_hp [0, 1, 2, 3, 4, 5, 6, 7, 8, 9, 10, 11, 12, 13, 14] [15] (by kernel_rfl) (by kernel_rfl) rfl rfl rfl (fun c a d v w h => ?hQ4) ?_
    case hQ4 => cases d <;> exact h
    simp only [pick, List.getElem?_cons_zero, List.getElem?_cons_succ, List.nil_append, List.cons_append]
    repeat (quiet_step (fail))
    refine wpQuiet_nil ?_
    clear g_i g_e g_g
    clear gS gS2 cS cS2
    clear c_i f_i c_e f_e c_g f_g
    have T5 := Aside0.mk (T4.out.drew)
    clear T4
    generalize w104.drew = w105 at T5 ⊢
    obtain ⟨⟨c_i, f_i⟩, ⟨c_e, f_e⟩, ⟨c_g, f_g⟩, _⟩ := T5.out.cells
    go_wp2_with (first
      | ((with_reducible refine gate_store (t := 3) (p := 107) rfl ?_); refine tr_put [] T5 rfl (st.length - 1) (by omega) rfl rfl rfl ((rd st ((st.length : Int) - 2))) rfl rfl ?_; intro z1 w106 E_z1 T6; simp only [List.cons_append, List.nil_append] at T6; clear c_i f_i c_e f_e c_g f_g; clear T5; obtain ⟨⟨c_i, f_i⟩, ⟨c_e, f_e⟩, ⟨c_g, f_g⟩, _⟩ := T6.out.cells)
      | ((with_reducible refine gate_store (t := 3) (p := 115) rfl ?_); refine tr_put [] T6 E_z1.out.2 (st.length - 2) (by have := E_z1.out.2; omega) rfl rfl rfl ((rd st ((st.length : Int) - 1))) rfl rfl ?_; intro z2 w107 E_z2 T7; simp only [List.cons_append, List.nil_append] at T7; clear c_i f_i c_e f_e c_g f_g; clear T6; obtain ⟨⟨c_i, f_i⟩, ⟨c_e, f_e⟩, ⟨c_g, f_g⟩, _⟩ := T7.out.cells)
      | ((with_reducible refine gate_store (t := 3) (p := 258) rfl ?_); refine tr_st [_, _] T7 1 rfl 3 rfl rfl #[_, _, _, _, _, _, _] (.int .i64 (pc + 1)) [_] sz3 rfl rfl rfl rfl (by simp) rfl ?_; intro w108 T8; simp only [List.cons_append, List.nil_append] at T8; clear c_i f_i c_e f_e c_g f_g; clear T7; obtain ⟨⟨c_i, f_i⟩, ⟨c_e, f_e⟩, ⟨c_g, f_g⟩, _⟩ := T8.out.cells)
      | ((with_reducible refine gate_store (t := 83) (p := 6) rfl ?_); refine tr_st [_] T8 0 rfl 83 rfl rfl #[_, _, _, _, _, _, _] (.agg #[.int .i64 0, .int .i64 0, .int .i64 0, .int .i64 0, .slice none 0 0, .int .i64 0, .int .i64 0]) [_, _, _, _, _, _, _] sz83 rfl rfl rfl rfl (by simp) rfl ?_; intro w109 T9; simp only [List.cons_append, List.nil_append] at T9; clear c_i f_i c_e f_e c_g f_g; clear T8; obtain ⟨⟨c_i, f_i⟩, ⟨c_e, f_e⟩, ⟨c_g, f_g⟩, _⟩ := T9.out.cells))
    refine bodyPost_ret (results_ct rfl _ _ e 83 _ (0, 0) _ rfl (T9.out.blk _ (.tail _ (.head _))).1 Try.underlying83 rfl (by kernel_rfl)) rfl ?_
    unfold StepPost
    exact ⟨0, 0, 0, none, 0, [], 0, 0, false, (pc + 1), z2, lo, kids, wt, rfl, row_nil _ _, FR.out.2 _ _ _ T9.out, T9.out.stm FR.out.1 HL.out.size E_z2.out.2 rfl (.tail _ (.tail _ (.head _))) (.head _) (.tail _ (.head _)) ((List.pairwise_cons.1 T9.out.ap).1 _ (.head _)), .inl ⟨rfl, ⟨hn.1, hn.2.1, by omega, by have := hsl.out; have := E_z2.out.2; omega, by have := hll.out; omega⟩, rfl, rfl⟩⟩
  · skip
    have hpp := OK.out.pop EO.out 1 (by simp [popsOf])
    have hi0 : 0 ≤ (st.length : Int) - 1 := by have := hsl.out; omega
    have hi1 : (st.length : Int) - 1 < st.length := by omega
    have hi2 : (1 : Int) ≤ (st.length : Int) := by omega
    have b1 : decide ((0 : Int) < (st.length : Int)) = true := by rw [decide_eq_true_eq]; omega
    obtain ⟨adS, eS, cS⟩ := (row_reads (T4.out.row _ (.head _)).1).at_ _ hi0 hi1
    subst eS
    rw [show ((st.length : Int) - 1).toNat = st.length - 1 by omega] at cS
    have hl0 := (OK.out.loc (by rw [← EO.out.1]; simp)).1
    have hl1 := (OK.out.loc (by rw [← EO.out.1]; simp)).2
    rw [← EO.out.2] at hl0 hl1
    have hl2 : N < (lo.length : Int) := by have := hll.out; omega
    obtain ⟨adL, eL, cL⟩ := (row_reads (T4.out.row _ (.tail _ (.head _))).1).at_ N hl0 hl2
    subst eL
    have hn := OK.out.next EO.out (pc + 1) (by simp [nextOf]) 1 0 (by simp [popsOf]) (by simp [pushOf])
    go_wp2_with fail
    obtain ⟨g_i, g_e, g_g, _⟩ := T4.out.gr
    refine wp_region_hp [0, 1, 2, 3, 4, 5, 6, 7] [8] (by kernel_rfl) (by kernel_rfl) rfl rfl rfl (fun c a d v w h => ?hQ6) ?_
    case hQ6 => cases d <;> exact h
    simp only [pick, List.getElem?_cons_zero, List.getElem?_cons_succ, List.nil_append, List.cons_append]
    repeat (quiet_step (fail))
    refine wpQuiet_nil ?_
    clear g_i g_e g_g
    clear cS cL
    clear c_i f_i c_e f_e c_g f_g
    have T5 := Aside0.mk (T4.out.drew)
    clear T4
    generalize w104.drew = w105 at T5 ⊢
    obtain ⟨⟨c_i, f_i⟩, ⟨c_e, f_e⟩, ⟨c_g, f_g⟩, _⟩ := T5.out.cells
    obtain ⟨tk, etk, htl, htake, htr⟩ := take3 (some adS) c1 st _ hi0 (Int.le_of_lt hi1) (row_cap (T5.out.row _ (.head _)).1)
    have T6 := Aside0.mk (T5.out.rtake [] (htr _ _ (T5.out.row _ (.head _)).1) (fun k hk => hk))
    simp only [List.nil_append] at T6
    clear htr etk T5
    go_wp2_with (first
      | ((with_reducible refine gate_store (t := 3) (p := 144) rfl ?_); refine tr_put [_] T6 rfl (N.toNat) (by omega) rfl rfl rfl ((rd st ((st.length : Int) - 1))) rfl rfl ?_; intro z1 w106 E_z1 T7; simp only [List.cons_append, List.nil_append] at T7; clear c_i f_i c_e f_e c_g f_g; clear T6; obtain ⟨⟨c_i, f_i⟩, ⟨c_e, f_e⟩, ⟨c_g, f_g⟩, _⟩ := T7.out.cells)
      | ((with_reducible refine gate_store (t := 23) (p := 154) rfl ?_); refine tr_st [_, _] T7 3 rfl 23 rfl rfl #[_, _, _, _, _, _, _] (.slice (some adS) tk.length c1) [_] sz23 rfl rfl rfl rfl (by simp) rfl ?_; intro w107 T8; simp only [List.cons_append, List.nil_append] at T8; clear c_i f_i c_e f_e c_g f_g; clear T7; obtain ⟨⟨c_i, f_i⟩, ⟨c_e, f_e⟩, ⟨c_g, f_g⟩, _⟩ := T8.out.cells)
      | ((with_reducible refine gate_store (t := 3) (p := 258) rfl ?_); refine tr_st [_, _] T8 1 rfl 3 rfl rfl #[_, _, _, _, _, _, _] (.int .i64 (pc + 1)) [_] sz3 rfl rfl rfl rfl (by simp) rfl ?_; intro w108 T9; simp only [List.cons_append, List.nil_append] at T9; clear c_i f_i c_e f_e c_g f_g; clear T8; obtain ⟨⟨c_i, f_i⟩, ⟨c_e, f_e⟩, ⟨c_g, f_g⟩, _⟩ := T9.out.cells)
      | ((with_reducible refine gate_store (t := 83) (p := 6) rfl ?_); refine tr_st [_] T9 0 rfl 83 rfl rfl #[_, _, _, _, _, _, _] (.agg #[.int .i64 0, .int .i64 0, .int .i64 0, .int .i64 0, .slice none 0 0, .int .i64 0, .int .i64 0]) [_, _, _, _, _, _, _] sz83 rfl rfl rfl rfl (by simp) rfl ?_; intro w109 T10; simp only [List.cons_append, List.nil_append] at T10; clear c_i f_i c_e f_e c_g f_g; clear T9; obtain ⟨⟨c_i, f_i⟩, ⟨c_e, f_e⟩, ⟨c_g, f_g⟩, _⟩ := T10.out.cells))
    refine bodyPost_ret (results_ct rfl _ _ e 83 _ (0, 0) _ rfl (T10.out.blk _ (.tail _ (.head _))).1 Try.underlying83 rfl (by kernel_rfl)) rfl ?_
    unfold StepPost
    exact ⟨0, 0, 0, none, 0, [], 0, 0, false, (pc + 1), tk, z1, kids, wt, rfl, row_nil _ _, FR.out.2 _ _ _ T10.out, T10.out.stm FR.out.1 HL.out.size rfl E_z1.out.2 (.tail _ (.tail _ (.head _))) (.head _) (.tail _ (.head _)) ((List.pairwise_cons.1 T10.out.ap).1 _ (.head _)), .inl ⟨rfl, ⟨hn.1, hn.2.1, by omega, by have := hsl.out; omega, by have := hll.out; have := E_z1.out.2; omega⟩, rfl, rfl⟩⟩
  · skip
    have hpp := OK.out.pop EO.out 2 (by unfold popsOf; rw [if_neg (by omega), if_pos (by omega)])
    have hi0 : 0 ≤ (st.length : Int) - 1 := by have := hsl.out; omega
    have hi1 : (st.length : Int) - 1 < st.length := by omega
    have hi2 : (1 : Int) ≤ (st.length : Int) := by omega
    have b1 : decide ((0 : Int) < (st.length : Int)) = true := by rw [decide_eq_true_eq]; omega
    obtain ⟨adS, eS, cS⟩ := (row_reads (T4.out.row _ (.head _)).1).at_ _ hi0 hi1
    subst eS
    rw [show ((st.length : Int) - 1).toNat = st.length - 1 by omega] at cS
    have hj0 : 0 ≤ (st.length : Int) - 2 := by have := hsl.out; omega
    have hj1 : (st.length : Int) - 2 < st.length := by omega
    have hj2 : (2 : Int) ≤ (st.length : Int) := by omega
    have hj3 : 2 ≤ st.length := by omega
    have hw1 : IntKind.i64.wrap ((st.length : Int) - 1) = (st.length : Int) - 1 := IntWalk.i64_in _ (by omega)
    have hw2 : IntKind.i64.wrap ((st.length : Int) - 2) = (st.length : Int) - 2 := IntWalk.i64_in _ (by omega)
    obtain ⟨_, eS2, cS2⟩ := (row_reads (T4.out.row _ (.head _)).1).at_ _ hj0 hj1
    obtain rfl := Option.some.inj eS2
    have hn := OK.out.next EO.out (pc + 1) (by unfold nextOf; rw [if_neg (by omega), if_neg (by omega), if_pos (by omega)]; simp) 2 1 (by unfold popsOf; rw [if_neg (by omega), if_pos (by omega)]) (by unfold pushOf; rw [if_pos (by omega)])
    have h7 : op = 7 ∨ op = 8 ∨ op = 9 ∨ op = 10 ∨ op = 11 ∨ op = 12 ∨ op = 13 := by omega
    obtain ⟨r1, r2, hdo⟩ := do_some op (rd st ((st.length : Int) - 2)) (rd st ((st.length : Int) - 1))
    rcases h7 with rfl | rfl | rfl | rfl | rfl | rfl | rfl
    all_goals
      go_wp2_with fail
      go_quiet (first | (go_at_call 57; exact Calls.quiet_of ((gleanerref4_do.calls _ _ _ _ _ _ hdo).mono fun _ _ h_ => ⟨h_.1, h_.2.out⟩)))
      clear cS cS2 c_i f_i c_e f_e c_g f_g
      have T5 := Aside0.mk (T4.out.drewN nq)
      clear T4
      generalize w104.drewN nq = w105 at T5 ⊢
      obtain ⟨⟨c_i, f_i⟩, ⟨c_e, f_e⟩, ⟨c_g, f_g⟩, _⟩ := T5.out.cells
      cases r2
      focus
        go_wp2_with fail
        clear c_i f_i c_e f_e c_g f_g
        refine (gleanerref4_ended.calls 0 20 0 _ _ _ _ _ _ _ _ rfl).mono ?_
        rintro e_ w106 ⟨v4_, rfl, r_, b_⟩
        obtain ⟨A9, c9, e9, r9⟩ := row_of_R0 r_
        subst e9
        have T6 := Aside0.mk (T5.out.nrow (grown_of_below b_ none) r9 (row_own r9))
        clear r_ r9 b_ T5
        obtain ⟨⟨c_i, f_i⟩, ⟨c_e, f_e⟩, ⟨c_g, f_g⟩, _⟩ := T6.out.cells
        go_wp2_with (first
          | ((with_reducible refine gate_store (t := 83) (p := 6) rfl ?_); refine tr_st [_] T6 0 rfl 83 rfl rfl #[_, _, _, _, _, _, _] (.agg #[.int .i64 3, .int .i64 0, .int .i64 0, .int .i64 0, .slice A9 ([] : List Int).length c9, .int .i64 20, .int .i64 0]) [_, _, _, _, _, _, _] sz83 rfl rfl rfl rfl (by simp) rfl ?_; intro w107 T7; simp only [List.cons_append, List.nil_append] at T7; clear c_i f_i c_e f_e c_g f_g; clear T6; obtain ⟨⟨c_i, f_i⟩, ⟨c_e, f_e⟩, ⟨c_g, f_g⟩, _⟩ := T7.out.cells))
        refine bodyPost_ret (results_ct rfl _ _ e 83 _ (0, 0) _ rfl (T7.out.blk _ (.tail _ (.head _))).1 Try.underlying83 rfl (by kernel_rfl)) rfl ?_
        unfold StepPost
        exact ⟨3, 0, 0, A9, c9, [], 20, 0, true, pc, st, lo, kids, wt, rfl, T7.out.rowb FR.out.1 HL.out.size (.head _), FR.out.2 _ _ _ T7.out, T7.out.stm FR.out.1 HL.out.size rfl rfl (.tail _ (.tail _ (.head _))) (.tail _ (.head _)) (.tail _ (.tail _ (.head _))) ((List.pairwise_cons.1 (List.pairwise_cons.1 T7.out.ap).2).1 _ (.head _)), .inr (.inr (.inr ⟨rfl, rfl⟩))⟩
      focus
        obtain ⟨tk, etk, htl, htake, htr⟩ := take3 (some adS) c1 st _ hi0 (Int.le_of_lt hi1) (row_cap (T5.out.row _ (.head _)).1)
        clear etk htr
        go_wp2_with (first
          | ((with_reducible refine gate_store (t := 3) (p := 188) rfl ?_); refine tr_put [] T5 rfl (st.length - 2) (by omega) rfl rfl rfl (r1) rfl rfl ?_; intro z1 w106 E_z1 T6; simp only [List.cons_append, List.nil_append] at T6; clear c_i f_i c_e f_e c_g f_g; clear T5; obtain ⟨⟨c_i, f_i⟩, ⟨c_e, f_e⟩, ⟨c_g, f_g⟩, _⟩ := T6.out.cells)
          | ((with_reducible refine gate_store (t := 23) (p := 198) rfl ?_); refine tr_st [_, _] T6 3 rfl 23 rfl rfl #[_, _, _, _, _, _, _] (.slice (some adS) tk.length c1) [_] sz23 rfl rfl rfl rfl (by simp) rfl ?_; intro w107 T7; simp only [List.cons_append, List.nil_append] at T7; clear c_i f_i c_e f_e c_g f_g; clear T6; obtain ⟨⟨c_i, f_i⟩, ⟨c_e, f_e⟩, ⟨c_g, f_g⟩, _⟩ := T7.out.cells)
          | ((with_reducible refine gate_store (t := 3) (p := 258) rfl ?_); refine tr_st [_, _] T7 1 rfl 3 rfl rfl #[_, _, _, _, _, _, _] (.int .i64 (pc + 1)) [_] sz3 rfl rfl rfl rfl (by simp) rfl ?_; intro w108 T8; simp only [List.cons_append, List.nil_append] at T8; clear c_i f_i c_e f_e c_g f_g; clear T7; obtain ⟨⟨c_i, f_i⟩, ⟨c_e, f_e⟩, ⟨c_g, f_g⟩, _⟩ := T8.out.cells)
          | ((with_reducible refine gate_store (t := 83) (p := 6) rfl ?_); refine tr_st [_] T8 0 rfl 83 rfl rfl #[_, _, _, _, _, _, _] (.agg #[.int .i64 0, .int .i64 0, .int .i64 0, .int .i64 0, .slice none 0 0, .int .i64 0, .int .i64 0]) [_, _, _, _, _, _, _] sz83 rfl rfl rfl rfl (by simp) rfl ?_; intro w109 T9; simp only [List.cons_append, List.nil_append] at T9; clear c_i f_i c_e f_e c_g f_g; clear T8; obtain ⟨⟨c_i, f_i⟩, ⟨c_e, f_e⟩, ⟨c_g, f_g⟩, _⟩ := T9.out.cells))
        have T10 := Aside0.mk (T9.out.rtake [] (row_take' (m := tk.length) (T9.out.row _ (.head _)).1 E_z1.out.2 (by omega)) (fun k hk => hk))
        simp only [List.nil_append] at T10
        refine bodyPost_ret (results_ct rfl _ _ e 83 _ (0, 0) _ rfl (T10.out.blk _ (.tail _ (.head _))).1 Try.underlying83 rfl (by kernel_rfl)) rfl ?_
        unfold StepPost
        exact ⟨0, 0, 0, none, 0, [], 0, 0, false, (pc + 1), (z1.take tk.length), lo, kids, wt, rfl, row_nil _ _, FR.out.2 _ _ _ T10.out, T10.out.stm FR.out.1 HL.out.size (by rw [List.length_take]; have := E_z1.out.2; have := hsl.out; omega) rfl (.tail _ (.tail _ (.head _))) (.head _) (.tail _ (.head _)) ((List.pairwise_cons.1 T10.out.ap).1 _ (.head _)), .inl ⟨rfl, ⟨hn.1, hn.2.1, by omega, by rw [List.length_take]; have := E_z1.out.2; have := hsl.out; omega, by have := hll.out; omega⟩, rfl, rfl⟩⟩
  · skip
    have hpp := OK.out.pop EO.out 1 (by simp [popsOf])
    have hi0 : 0 ≤ (st.length : Int) - 1 := by have := hsl.out; omega
    have hi1 : (st.length : Int) - 1 < st.length := by omega
    have hi2 : (1 : Int) ≤ (st.length : Int) := by omega
    have b1 : decide ((0 : Int) < (st.length : Int)) = true := by rw [decide_eq_true_eq]; omega
    obtain ⟨adS, eS, cS⟩ := (row_reads (T4.out.row _ (.head _)).1).at_ _ hi0 hi1
    subst eS
    rw [show ((st.length : Int) - 1).toNat = st.length - 1 by omega] at cS
    obtain ⟨tk, etk, htl, htake, htr⟩ := take3 (some adS) c1 st _ hi0 (Int.le_of_lt hi1) (row_cap (T4.out.row _ (.head _)).1)
    have T5 := Aside0.mk (T4.out.rtake [] (htr _ _ (T4.out.row _ (.head _)).1) (fun k hk => hk))
    simp only [List.nil_append] at T5
    clear htr etk T4
    by_cases p1 : (rd st ((st.length : Int) - 1)) = 0
    · have b2 : ((rd st ((st.length : Int) - 1)) == 0) = true := by simpa using p1
      have hn := OK.out.next EO.out N (by simp [nextOf]) 1 0 (by simp [popsOf]) (by simp [pushOf])
      go_wp2_with (first
        | ((with_reducible refine gate_store (t := 23) (p := 218) rfl ?_); refine tr_st [_, _] T5 3 rfl 23 rfl rfl #[_, _, _, _, _, _, _] (.slice (some adS) tk.length c1) [_] sz23 rfl rfl rfl rfl (by simp) rfl ?_; intro w105 T6; simp only [List.cons_append, List.nil_append] at T6; clear c_i f_i c_e f_e c_g f_g; clear T5; obtain ⟨⟨c_i, f_i⟩, ⟨c_e, f_e⟩, ⟨c_g, f_g⟩, _⟩ := T6.out.cells)
        | ((with_reducible refine gate_store (t := 3) (p := 258) rfl ?_); refine tr_st [_, _] T6 1 rfl 3 rfl rfl #[_, _, _, _, _, _, _] (.int .i64 N) [_] sz3 rfl rfl rfl rfl (by simp) rfl ?_; intro w106 T7; simp only [List.cons_append, List.nil_append] at T7; clear c_i f_i c_e f_e c_g f_g; clear T6; obtain ⟨⟨c_i, f_i⟩, ⟨c_e, f_e⟩, ⟨c_g, f_g⟩, _⟩ := T7.out.cells)
        | ((with_reducible refine gate_store (t := 83) (p := 6) rfl ?_); refine tr_st [_] T7 0 rfl 83 rfl rfl #[_, _, _, _, _, _, _] (.agg #[.int .i64 0, .int .i64 0, .int .i64 0, .int .i64 0, .slice none 0 0, .int .i64 0, .int .i64 0]) [_, _, _, _, _, _, _] sz83 rfl rfl rfl rfl (by simp) rfl ?_; intro w107 T8; simp only [List.cons_append, List.nil_append] at T8; clear c_i f_i c_e f_e c_g f_g; clear T7; obtain ⟨⟨c_i, f_i⟩, ⟨c_e, f_e⟩, ⟨c_g, f_g⟩, _⟩ := T8.out.cells))
      refine bodyPost_ret (results_ct rfl _ _ e 83 _ (0, 0) _ rfl (T8.out.blk _ (.tail _ (.head _))).1 Try.underlying83 rfl (by kernel_rfl)) rfl ?_
      unfold StepPost
      exact ⟨0, 0, 0, none, 0, [], 0, 0, false, N, tk, lo, kids, wt, rfl, row_nil _ _, FR.out.2 _ _ _ T8.out, T8.out.stm FR.out.1 HL.out.size rfl rfl (.tail _ (.tail _ (.head _))) (.head _) (.tail _ (.head _)) ((List.pairwise_cons.1 T8.out.ap).1 _ (.head _)), .inl ⟨rfl, ⟨hn.1, hn.2.1, by omega, by have := hsl.out; omega, by have := hll.out; omega⟩, rfl, rfl⟩⟩
    · have b2 : ((rd st ((st.length : Int) - 1)) == 0) = false := by simpa using p1
      have hn := OK.out.next EO.out (pc + 1) (by simp [nextOf]) 1 0 (by simp [popsOf]) (by simp [pushOf])
      go_wp2_with (first
        | ((with_reducible refine gate_store (t := 23) (p := 218) rfl ?_); refine tr_st [_, _] T5 3 rfl 23 rfl rfl #[_, _, _, _, _, _, _] (.slice (some adS) tk.length c1) [_] sz23 rfl rfl rfl rfl (by simp) rfl ?_; intro w105 T6; simp only [List.cons_append, List.nil_append] at T6; clear c_i f_i c_e f_e c_g f_g; clear T5; obtain ⟨⟨c_i, f_i⟩, ⟨c_e, f_e⟩, ⟨c_g, f_g⟩, _⟩ := T6.out.cells)
        | ((with_reducible refine gate_store (t := 3) (p := 258) rfl ?_); refine tr_st [_, _] T6 1 rfl 3 rfl rfl #[_, _, _, _, _, _, _] (.int .i64 (pc + 1)) [_] sz3 rfl rfl rfl rfl (by simp) rfl ?_; intro w106 T7; simp only [List.cons_append, List.nil_append] at T7; clear c_i f_i c_e f_e c_g f_g; clear T6; obtain ⟨⟨c_i, f_i⟩, ⟨c_e, f_e⟩, ⟨c_g, f_g⟩, _⟩ := T7.out.cells)
        | ((with_reducible refine gate_store (t := 83) (p := 6) rfl ?_); refine tr_st [_] T7 0 rfl 83 rfl rfl #[_, _, _, _, _, _, _] (.agg #[.int .i64 0, .int .i64 0, .int .i64 0, .int .i64 0, .slice none 0 0, .int .i64 0, .int .i64 0]) [_, _, _, _, _, _, _] sz83 rfl rfl rfl rfl (by simp) rfl ?_; intro w107 T8; simp only [List.cons_append, List.nil_append] at T8; clear c_i f_i c_e f_e c_g f_g; clear T7; obtain ⟨⟨c_i, f_i⟩, ⟨c_e, f_e⟩, ⟨c_g, f_g⟩, _⟩ := T8.out.cells))
      refine bodyPost_ret (results_ct rfl _ _ e 83 _ (0, 0) _ rfl (T8.out.blk _ (.tail _ (.head _))).1 Try.underlying83 rfl (by kernel_rfl)) rfl ?_
      unfold StepPost
      exact ⟨0, 0, 0, none, 0, [], 0, 0, false, (pc + 1), tk, lo, kids, wt, rfl, row_nil _ _, FR.out.2 _ _ _ T8.out, T8.out.stm FR.out.1 HL.out.size rfl rfl (.tail _ (.tail _ (.head _))) (.head _) (.tail _ (.head _)) ((List.pairwise_cons.1 T8.out.ap).1 _ (.head _)), .inl ⟨rfl, ⟨hn.1, hn.2.1, by omega, by have := hsl.out; omega, by have := hll.out; omega⟩, rfl, rfl⟩⟩
  · skip
    have hpp := OK.out.pop EO.out 1 (by simp [popsOf])
    have hi0 : 0 ≤ (st.length : Int) - 1 := by have := hsl.out; omega
    have hi1 : (st.length : Int) - 1 < st.length := by omega
    have hi2 : (1 : Int) ≤ (st.length : Int) := by omega
    have b1 : decide ((0 : Int) < (st.length : Int)) = true := by rw [decide_eq_true_eq]; omega
    obtain ⟨adS, eS, cS⟩ := (row_reads (T4.out.row _ (.head _)).1).at_ _ hi0 hi1
    subst eS
    rw [show ((st.length : Int) - 1).toNat = st.length - 1 by omega] at cS
    by_cases p1 : (rd st ((st.length : Int) - 1)) < 0
    · have b2 : decide ((rd st ((st.length : Int) - 1)) < 0) = true := by simpa using p1
      go_wp2_with fail
      clear cS c_i f_i c_e f_e c_g f_g
      refine (gleanerref4_ended.calls 0 24 0 _ _ _ _ _ _ _ _ rfl).mono ?_
      rintro e_ w105 ⟨v4_, rfl, r_, b_⟩
      obtain ⟨A9, c9, e9, r9⟩ := row_of_R0 r_
      subst e9
      have T5 := Aside0.mk (T4.out.nrow (grown_of_below b_ none) r9 (row_own r9))
      clear r_ r9 b_ T4
      obtain ⟨⟨c_i, f_i⟩, ⟨c_e, f_e⟩, ⟨c_g, f_g⟩, _⟩ := T5.out.cells
      go_wp2_with (first
        | ((with_reducible refine gate_store (t := 83) (p := 6) rfl ?_); refine tr_st [_] T5 0 rfl 83 rfl rfl #[_, _, _, _, _, _, _] (.agg #[.int .i64 3, .int .i64 0, .int .i64 0, .int .i64 0, .slice A9 ([] : List Int).length c9, .int .i64 24, .int .i64 0]) [_, _, _, _, _, _, _] sz83 rfl rfl rfl rfl (by simp) rfl ?_; intro w106 T6; simp only [List.cons_append, List.nil_append] at T6; clear c_i f_i c_e f_e c_g f_g; clear T5; obtain ⟨⟨c_i, f_i⟩, ⟨c_e, f_e⟩, ⟨c_g, f_g⟩, _⟩ := T6.out.cells))
      refine bodyPost_ret (results_ct rfl _ _ e 83 _ (0, 0) _ rfl (T6.out.blk _ (.tail _ (.head _))).1 Try.underlying83 rfl (by kernel_rfl)) rfl ?_
      unfold StepPost
      exact ⟨3, 0, 0, A9, c9, [], 24, 0, true, pc, st, lo, kids, wt, rfl, T6.out.rowb FR.out.1 HL.out.size (.head _), FR.out.2 _ _ _ T6.out, T6.out.stm FR.out.1 HL.out.size rfl rfl (.tail _ (.tail _ (.head _))) (.tail _ (.head _)) (.tail _ (.tail _ (.head _))) ((List.pairwise_cons.1 (List.pairwise_cons.1 T6.out.ap).2).1 _ (.head _)), .inr (.inr (.inr ⟨rfl, rfl⟩))⟩
    have b2 : decide ((rd st ((st.length : Int) - 1)) < 0) = false := by simpa using p1
    by_cases p2 : kids ≤ (rd st ((st.length : Int) - 1))
    · have b3 : decide (kids ≤ (rd st ((st.length : Int) - 1))) = true := by simpa using p2
      go_wp2_with fail
      clear cS c_i f_i c_e f_e c_g f_g
      refine (gleanerref4_ended.calls 0 24 0 _ _ _ _ _ _ _ _ rfl).mono ?_
      rintro e_ w105 ⟨v4_, rfl, r_, b_⟩
      obtain ⟨A9, c9, e9, r9⟩ := row_of_R0 r_
      subst e9
      have T5 := Aside0.mk (T4.out.nrow (grown_of_below b_ none) r9 (row_own r9))
      clear r_ r9 b_ T4
      obtain ⟨⟨c_i, f_i⟩, ⟨c_e, f_e⟩, ⟨c_g, f_g⟩, _⟩ := T5.out.cells
      go_wp2_with (first
        | ((with_reducible refine gate_store (t := 83) (p := 6) rfl ?_); refine tr_st [_] T5 0 rfl 83 rfl rfl #[_, _, _, _, _, _, _] (.agg #[.int .i64 3, .int .i64 0, .int .i64 0, .int .i64 0, .slice A9 ([] : List Int).length c9, .int .i64 24, .int .i64 0]) [_, _, _, _, _, _, _] sz83 rfl rfl rfl rfl (by simp) rfl ?_; intro w106 T6; simp only [List.cons_append, List.nil_append] at T6; clear c_i f_i c_e f_e c_g f_g; clear T5; obtain ⟨⟨c_i, f_i⟩, ⟨c_e, f_e⟩, ⟨c_g, f_g⟩, _⟩ := T6.out.cells))
      refine bodyPost_ret (results_ct rfl _ _ e 83 _ (0, 0) _ rfl (T6.out.blk _ (.tail _ (.head _))).1 Try.underlying83 rfl (by kernel_rfl)) rfl ?_
      unfold StepPost
      exact ⟨3, 0, 0, A9, c9, [], 24, 0, true, pc, st, lo, kids, wt, rfl, T6.out.rowb FR.out.1 HL.out.size (.head _), FR.out.2 _ _ _ T6.out, T6.out.stm FR.out.1 HL.out.size rfl rfl (.tail _ (.tail _ (.head _))) (.tail _ (.head _)) (.tail _ (.tail _ (.head _))) ((List.pairwise_cons.1 (List.pairwise_cons.1 T6.out.ap).2).1 _ (.head _)), .inr (.inr (.inr ⟨rfl, rfl⟩))⟩
    have b3 : decide (kids ≤ (rd st ((st.length : Int) - 1))) = false := by simpa using p2
    go_wp2_with (first
      | ((with_reducible refine gate_store (t := 4) (p := 244) rfl ?_); refine tr_st [_, _] T4 6 rfl 4 rfl rfl #[_, _, _, _, _, _, _] (.bool true) [_] sz4 rfl rfl rfl rfl (by simp) rfl ?_; intro w105 T5; simp only [List.cons_append, List.nil_append] at T5; clear c_i f_i c_e f_e c_g f_g; clear T4; obtain ⟨⟨c_i, f_i⟩, ⟨c_e, f_e⟩, ⟨c_g, f_g⟩, _⟩ := T5.out.cells)
      | ((with_reducible refine gate_store (t := 83) (p := 6) rfl ?_); refine tr_st [_] T5 0 rfl 83 rfl rfl #[_, _, _, _, _, _, _] (.agg #[.int .i64 2, .int .i64 0, .int .i64 (rd st ((st.length : Int) - 1)), .int .i64 0, .slice none 0 0, .int .i64 0, .int .i64 0]) [_, _, _, _, _, _, _] sz83 rfl rfl rfl rfl (by simp) rfl ?_; intro w106 T6; simp only [List.cons_append, List.nil_append] at T6; clear c_i f_i c_e f_e c_g f_g; clear T5; obtain ⟨⟨c_i, f_i⟩, ⟨c_e, f_e⟩, ⟨c_g, f_g⟩, _⟩ := T6.out.cells))
    refine bodyPost_ret (results_ct rfl _ _ e 83 _ (0, 0) _ rfl (T6.out.blk _ (.tail _ (.head _))).1 Try.underlying83 rfl (by kernel_rfl)) rfl ?_
    unfold StepPost
    exact ⟨2, 0, (rd st ((st.length : Int) - 1)), none, 0, [], 0, 0, true, pc, st, lo, kids, true, rfl, row_nil _ _, FR.out.2 _ _ _ T6.out, T6.out.stm FR.out.1 HL.out.size rfl rfl (.tail _ (.tail _ (.head _))) (.head _) (.tail _ (.head _)) ((List.pairwise_cons.1 T6.out.ap).1 _ (.head _)), .inr (.inr (.inl ⟨rfl, rfl, EO.out.1.symm, by omega, by omega, rfl, rfl, rfl, rfl, rfl, rfl⟩))⟩
  · skip
    have hpp := OK.out.pop EO.out 1 (by simp [popsOf])
    have hi0 : 0 ≤ (st.length : Int) - 1 := by have := hsl.out; omega
    have hi1 : (st.length : Int) - 1 < st.length := by omega
    have hi2 : (1 : Int) ≤ (st.length : Int) := by omega
    have b1 : decide ((0 : Int) < (st.length : Int)) = true := by rw [decide_eq_true_eq]; omega
    obtain ⟨adS, eS, cS⟩ := (row_reads (T4.out.row _ (.head _)).1).at_ _ hi0 hi1
    subst eS
    rw [show ((st.length : Int) - 1).toNat = st.length - 1 by omega] at cS
    go_wp2_with fail
    clear cS c_i f_i c_e f_e c_g f_g
    refine (gleanerref4_ended.calls 0 0 (rd st ((st.length : Int) - 1)) _ _ _ _ _ _ _ _ rfl).mono ?_
    rintro e_ w105 ⟨v4_, rfl, r_, b_⟩
    obtain ⟨A9, c9, e9, r9⟩ := row_of_R0 r_
    subst e9
    have T5 := Aside0.mk (T4.out.nrow (grown_of_below b_ none) r9 (row_own r9))
    clear r_ r9 b_ T4
    obtain ⟨⟨c_i, f_i⟩, ⟨c_e, f_e⟩, ⟨c_g, f_g⟩, _⟩ := T5.out.cells
    go_wp2_with (first
      | ((with_reducible refine gate_store (t := 83) (p := 6) rfl ?_); refine tr_st [_] T5 0 rfl 83 rfl rfl #[_, _, _, _, _, _, _] (.agg #[.int .i64 3, .int .i64 0, .int .i64 0, .int .i64 0, .slice A9 ([] : List Int).length c9, .int .i64 0, .int .i64 (rd st ((st.length : Int) - 1))]) [_, _, _, _, _, _, _] sz83 rfl rfl rfl rfl (by simp) rfl ?_; intro w106 T6; simp only [List.cons_append, List.nil_append] at T6; clear c_i f_i c_e f_e c_g f_g; clear T5; obtain ⟨⟨c_i, f_i⟩, ⟨c_e, f_e⟩, ⟨c_g, f_g⟩, _⟩ := T6.out.cells))
    refine bodyPost_ret (results_ct rfl _ _ e 83 _ (0, 0) _ rfl (T6.out.blk _ (.tail _ (.head _))).1 Try.underlying83 rfl (by kernel_rfl)) rfl ?_
    unfold StepPost
    exact ⟨3, 0, 0, A9, c9, [], 0, (rd st ((st.length : Int) - 1)), true, pc, st, lo, kids, wt, rfl, T6.out.rowb FR.out.1 HL.out.size (.head _), FR.out.2 _ _ _ T6.out, T6.out.stm FR.out.1 HL.out.size rfl rfl (.tail _ (.tail _ (.head _))) (.tail _ (.head _)) (.tail _ (.tail _ (.head _))) ((List.pairwise_cons.1 (List.pairwise_cons.1 T6.out.ap).2).1 _ (.head _)), .inr (.inr (.inr ⟨rfl, rfl⟩))⟩
  · skip
    have hpp := OK.out.pop EO.out 1 (by simp [popsOf])
    have hi0 : 0 ≤ (st.length : Int) - 1 := by have := hsl.out; omega
    have hi1 : (st.length : Int) - 1 < st.length := by omega
    have hi2 : (1 : Int) ≤ (st.length : Int) := by omega
    have b1 : decide ((0 : Int) < (st.length : Int)) = true := by rw [decide_eq_true_eq]; omega
    obtain ⟨adS, eS, cS⟩ := (row_reads (T4.out.row _ (.head _)).1).at_ _ hi0 hi1
    subst eS
    rw [show ((st.length : Int) - 1).toNat = st.length - 1 by omega] at cS
    go_wp2_with fail
    clear cS c_i f_i c_e f_e c_g f_g
    refine (gleanerref4_ended.calls 0 25 (rd st ((st.length : Int) - 1)) _ _ _ _ _ _ _ _ rfl).mono ?_
    rintro e_ w105 ⟨v4_, rfl, r_, b_⟩
    obtain ⟨A9, c9, e9, r9⟩ := row_of_R0 r_
    subst e9
    have T5 := Aside0.mk (T4.out.nrow (grown_of_below b_ none) r9 (row_own r9))
    clear r_ r9 b_ T4
    obtain ⟨⟨c_i, f_i⟩, ⟨c_e, f_e⟩, ⟨c_g, f_g⟩, _⟩ := T5.out.cells
    go_wp2_with (first
      | ((with_reducible refine gate_store (t := 83) (p := 6) rfl ?_); refine tr_st [_] T5 0 rfl 83 rfl rfl #[_, _, _, _, _, _, _] (.agg #[.int .i64 3, .int .i64 0, .int .i64 0, .int .i64 0, .slice A9 ([] : List Int).length c9, .int .i64 25, .int .i64 (rd st ((st.length : Int) - 1))]) [_, _, _, _, _, _, _] sz83 rfl rfl rfl rfl (by simp) rfl ?_; intro w106 T6; simp only [List.cons_append, List.nil_append] at T6; clear c_i f_i c_e f_e c_g f_g; clear T5; obtain ⟨⟨c_i, f_i⟩, ⟨c_e, f_e⟩, ⟨c_g, f_g⟩, _⟩ := T6.out.cells))
    refine bodyPost_ret (results_ct rfl _ _ e 83 _ (0, 0) _ rfl (T6.out.blk _ (.tail _ (.head _))).1 Try.underlying83 rfl (by kernel_rfl)) rfl ?_
    unfold StepPost
    exact ⟨3, 0, 0, A9, c9, [], 25, (rd st ((st.length : Int) - 1)), true, pc, st, lo, kids, wt, rfl, T6.out.rowb FR.out.1 HL.out.size (.head _), FR.out.2 _ _ _ T6.out, T6.out.stm FR.out.1 HL.out.size rfl rfl (.tail _ (.tail _ (.head _))) (.tail _ (.head _)) (.tail _ (.tail _ (.head _))) ((List.pairwise_cons.1 (List.pairwise_cons.1 T6.out.ap).2).1 _ (.head _)), .inr (.inr (.inr ⟨rfl, rfl⟩))⟩
end Go.Proofs.Ytakdckaplmoklaa.Ev
end
