/- A part of the proof of TraceDeepSaid (Cp Be); laid together by merge2.py. -/
import Derived.Test.YtakdckaplmoklaaZT
import Derived.Deep.LoopGhost
section
namespace Go.Proofs.Ytakdckaplmoklaa.Ev
open Go.Proofs.YtakdckaplmoklaaHt Go.Sort
open Go.RowKit Go.Proofs.YtakdckaplmoklaaW.PrintWords Go.Proofs.YtakdckaplmoklaaW.PrintLast Go.Proofs.YtakdckaplmoklaaW.PrintMore Go.Proofs.Ytakdckaplmoklaa.PTraceDeep
set_option linter.unusedVariables false
set_option linter.unusedSimpArgs false
theorem Tr.two {ws W W' : World} {M : Nat → Prop} {bs : List (Nat × Array Value × TypeId)} {rs : List (Value × List Int)} (h : Tr ws M bs rs W) (b : Below W.heap.size W W') {v u : Value} {xs ys : List Int} (r1 : Row W' W.heap.size v xs) (r2 : Row W' W.heap.size u ys) (ap : Ap v u) : Tr ws M bs ((v, xs) :: (u, ys) :: rs) W' := by
  refine (h.nrow (grown_of_below b Option.none) r2 (row_own r2)).arow r1 (fun k hk => .inr ?_) (fun r hr => ?_)
  · have := row_base r1 k hk
    have := h.size
    omega
  · rcases List.mem_cons.1 hr with rfl | hr
    · exact ap
    · exact Ap.symm (Ap.new (h.row r hr).1 (row_own r1))
theorem mayB_of {fs : List S50} {D : List (List Int)} {jfuel func pc fuel : Int} {st lo : List Int} {kids : Int} {wt : Bool} (hf1 : 0 ≤ func) (hf2 : func < fs.length) (hg : Gd fs D func pc st lo) (hk1 : 0 ≤ kids) (hk2 : kids ≤ 16) (hu1 : 0 ≤ fuel) (hu2 : fuel ≤ jfuel)
    (hw : wt = true → (insAt fs func pc).f0 = 17 ∧ 0 ≤ rd st (st.length - 1) ∧ rd st (st.length - 1) < kids) : mayB fs D jfuel func pc fuel st lo kids wt = true := by
  have h1 : decide (0 ≤ func ∧ func < (fs.length : Int)) = true := by simp; omega
  have h2 : decide (0 ≤ pc ∧ pc < ((rd_T50 fs func).f3.length : Int)) = true := by simpa using ⟨hg.pc0, hg.pc1⟩
  have h3 : decide (0 ≤ depAt D func pc ∧ (st.length : Int) = depAt D func pc ∧ (lo.length : Int) = (rd_T50 fs func).f2) = true := by simpa using ⟨hg.dep, hg.st, hg.lo⟩
  have h4 : decide (0 ≤ kids ∧ kids ≤ 16 ∧ 0 ≤ fuel ∧ fuel ≤ jfuel) = true := by simpa using ⟨hk1, hk2, hu1, hu2⟩
  unfold mayB
  rw [h1, h2, h3, h4]
  cases wt with
  | false => rfl
  | true =>
    obtain ⟨a, b, c⟩ := hw rfl
    simp [a]
    exact ⟨by simpa using b, by simpa using c⟩
def StV (f pc fuel : Int) (A1 : Option Addr) (n1 c1 : Nat) (A2 : Option Addr) (n2 c2 : Nat) (kids : Int) (wt : Bool) : Value := .agg #[.int .i64 f, .int .i64 pc, .int .i64 fuel, .slice A1 n1 c1, .slice A2 n2 c2, .int .i64 kids, .bool wt]
set_option maxHeartbeats 1000000 in
theorem copied_any (w : World) (f pc fuel kids : Int) (wt : Bool) (A B : Option Addr) (c d : Nat) (xs ys : List Int) (hA : ReadsInt w .i64 A xs.length xs) (hB : ReadsInt w .i64 B ys.length ys) (hx : xs.length ≤ 100000) (hy : ys.length ≤ 100000) :
    Calls Try.prog 45 #[StV f pc fuel A xs.length c B ys.length d kids wt] w fun e w' =>
      ∃ A1 c1 A2 c2, e = .returned (StV f pc fuel A1 xs.length c1 A2 ys.length c2 kids wt) ∧ Row w' w.heap.size (.slice A1 xs.length c1) xs ∧ Row w' w.heap.size (.slice A2 ys.length c2) ys ∧ Ap (.slice A1 xs.length c1) (.slice A2 ys.length c2) ∧ Below w.heap.size w w' := by
  have HA := Aside0.mk hA
  have HB := Aside0.mk hB
  have T0 := Aside0.mk (Tr.start w (fun _ => False))
  clear hA hB
  unfold StV
  go_enter Try.func45, Try.ntmps45
  go_wp2_with (first
    | ((with_reducible refine gate_dst (N := 1) rfl ?_); refine tr_new 1 rfl rfl T0 #[.int .i64 f, .int .i64 pc, .int .i64 fuel, .slice A xs.length c, .slice B ys.length d, .int .i64 kids, .bool wt] 78 (by decide) ?h1_1 ?_; (case h1_1 => first | (go_simp; done) | (go_simp; rfl)); intro p w101 T1; clear T0; obtain ⟨⟨c_p, f_p⟩, _⟩ := T1.out.cells)
    | ((with_reducible refine gate_dst (N := 2) rfl ?_); refine tr_new 2 rfl rfl T1 #[.int .i64 0, .int .i64 0, .int .i64 0, .slice none 0 0, .slice none 0 0, .int .i64 0, .bool false] 78 (by decide) ?h2_2 ?_; (case h2_2 => first | (go_simp; done) | (go_simp; rfl)); intro q w102 T2; clear c_p f_p; clear T1; obtain ⟨⟨c_q, f_q⟩, ⟨c_p, f_p⟩, _⟩ := T2.out.cells)
    | ((with_reducible refine gate_dst (N := 5) rfl ?_); refine tr_nil T2 5 rfl rfl rfl xs A xs.length c rfl rfl (HA.out.below T2.out.fresh) (by omega) ?_; intro A_s c_s_ w103 T3; clear c_q f_q c_p f_p; clear T2; obtain ⟨⟨c_q, f_q⟩, ⟨c_p, f_p⟩, _⟩ := T3.out.cells)
    | ((with_reducible refine gate_store (t := 23) (p := 6) rfl ?_); refine tr_st [_] T3 3 rfl 23 rfl rfl #[_, _, _, _, _, _, _] (.slice A_s xs.length c_s_) [_] sz23 rfl rfl rfl rfl (by simp) rfl ?_; intro w104 T4; simp only [List.cons_append, List.nil_append] at T4; clear c_q f_q c_p f_p; clear T3; obtain ⟨⟨c_q, f_q⟩, ⟨c_p, f_p⟩, _⟩ := T4.out.cells)
    | ((with_reducible refine gate_dst (N := 9) rfl ?_); refine tr_nil T4 9 rfl rfl rfl ys B ys.length d rfl rfl (HB.out.below T4.out.fresh) (by omega) ?_; intro A_l c_l_ w105 T5; clear c_q f_q c_p f_p; clear T4; obtain ⟨⟨c_q, f_q⟩, ⟨c_p, f_p⟩, _⟩ := T5.out.cells)
    | ((with_reducible refine gate_store (t := 23) (p := 10) rfl ?_); refine tr_st [_] T5 4 rfl 23 rfl rfl #[_, _, _, _, _, _, _] (.slice A_l ys.length c_l_) [_] sz23 rfl rfl rfl rfl (by simp) rfl ?_; intro w106 T6; simp only [List.cons_append, List.nil_append] at T6; clear c_q f_q c_p f_p; clear T5; obtain ⟨⟨c_q, f_q⟩, ⟨c_p, f_p⟩, _⟩ := T6.out.cells)
    | ((with_reducible refine gate_store (t := 78) (p := 2) rfl ?_); refine tr_st [] T6 0 rfl 78 rfl rfl #[_, _, _, _, _, _, _] (.agg #[.int .i64 f, .int .i64 pc, .int .i64 fuel, .slice A_s xs.length c_s_, .slice A_l ys.length c_l_, .int .i64 kids, .bool wt]) [_, _, _, _, _, _, _] sz78 rfl rfl rfl rfl (by simp) rfl ?_; intro w107 T7; simp only [List.cons_append, List.nil_append] at T7; clear c_q f_q c_p f_p; clear T6; obtain ⟨⟨c_q, f_q⟩, ⟨c_p, f_p⟩, _⟩ := T7.out.cells))
  refine bodyPost_ret (results_cell_row rfl _ _ q 78 _ (0, 0) _ rfl (T7.out.blk _ (.head _)).1 Try.underlying78 rfl (by kernel_rfl)) rfl ?_
  exact ⟨A_s, c_s_, A_l, c_l_, rfl, T7.out.rowb (fun _ h => h.elim) (Nat.le_refl _) (.tail _ (.head _)), T7.out.rowb (fun _ h => h.elim) (Nat.le_refl _) (.head _), Ap.symm ((List.pairwise_cons.1 T7.out.ap).1 _ (.head _)), T7.out.fresh⟩
end Go.Proofs.Ytakdckaplmoklaa.Ev
end
section
namespace Go.Proofs.Ytakdckaplmoklaa.Ev
open Go.Proofs.YtakdckaplmoklaaHt Go.Sort
open Go.RowKit Go.Proofs.YtakdckaplmoklaaW.PrintWords Go.Proofs.YtakdckaplmoklaaW.PrintLast Go.Proofs.YtakdckaplmoklaaW.PrintMore Go.Proofs.Ytakdckaplmoklaa.PTraceDeep
set_option linter.unusedVariables false
set_option linter.unusedSimpArgs false
set_option maxHeartbeats 2000000 in
set_option maxRecDepth 100000 in
theorem begin_any (w : World) (kb : Nat) (fs : List S50) (D : List (List Int)) (main jfuel tasks : Int) (jargs : List Int) (hk : Kn w kb fs D main jfuel tasks jargs) (hg : KG fs D)
    (f : Int) (A : Option Addr) (c : Nat) (args : List Int) (hA : ReadsInt w .i64 A args.length args) (hf1 : 0 ≤ f) (hf2 : f < fs.length) (ha : (args.length : Int) = (rd_T50 fs f).f1) :
    Calls Try.prog 25 #[.pointer (some ⟨kb, 0, none⟩), .int .i64 f, .slice A args.length c] w fun e w' =>
      ∃ A1 c1 lo, e = .returned (.tuple #[StV f 0 0 none 0 0 A1 (List.length lo) c1 0 false, .int .i64 0]) ∧ (lo.length : Int) = (rd_T50 fs f).f2 ∧ Row w' w.heap.size (.slice A1 lo.length c1) lo ∧ Below w.heap.size w w' := by
  have HA := Aside0.mk hA
  have HG := Aside0.mk hg
  have hr := (hg.row f hf1 hf2).2.2
  have HB := Aside0.mk hr
  have T0 := Aside0.mk (Tr.start w (fun _ => False))
  obtain ⟨AF, cF, AA, cA, AD, cD, k1, k2, k3, k4, k5, k6, k7⟩ := hk.out
  obtain ⟨ad1, A3, c3, ea1, q10, q11, q12, q13, q14, q15⟩ := at_T50 k3 f hf1 hf2
  subst ea1
  have K1 := Aside0.mk k1
  have Q11 := Aside0.mk q11
  have Q12 := Aside0.mk q12
  have b1 : decide (f < 0) = false := by simpa using hf1
  have b2 : decide ((fs.length : Int) ≤ f) = false := by simpa using hf2
  have b3 : ((args.length : Int) != (rd_T50 fs f).f1) = false := by simpa using ha
  have HE := Aside0.mk ha
  clear hA hg hr hk k1 k3 k5 k7 q10 q11 q12 q13 q15 ha
  unfold StV
  go_enter Try.func25, Try.ntmps25
  go_upto_region 1 with (((with_reducible refine gate_dst (N := 6) rfl ?_); refine tr_new 6 rfl rfl T0 #[.int .i64 0, .int .i64 0, .int .i64 0, .slice none 0 0, .slice none 0 0, .int .i64 0, .bool false] 78 (by decide) ?h6_1 ?_; (case h6_1 => first | (go_simp; done) | (go_simp; rfl)); intro q w101 T1; clear T0; obtain ⟨⟨c_q, f_q⟩, _⟩ := T1.out.cells))
  obtain ⟨ck, fk⟩ := blk_cells (blk_below K1.out T1.out.fresh)
  have q11 := pw_cell_below T1.out.fresh Q11.out
  go_upto_region 5 with (fail)
  clear ck fk q11
  go_wp2_with (first
    | ((with_reducible refine gate_dst (N := 37) rfl ?_); refine tr_nil T1 37 rfl rfl rfl args A args.length c rfl rfl (HA.out.below T1.out.fresh) (by have := HE.out; have := HB.out; omega) ?_; intro A_l c_l_ w102 T2; clear c_q f_q; clear T1; obtain ⟨⟨c_q, f_q⟩, _⟩ := T2.out.cells)
    | ((with_reducible refine gate_dst (N := 8) rfl ?_); refine tr_new 8 rfl rfl T2 #[.int .i64 0, .int .i64 0, .int .i64 0, .slice none 0 0, .slice none 0 0, .int .i64 0, .bool false] 78 (by decide) ?h8_2 ?_; (case h8_2 => first | (go_simp; done) | (go_simp; rfl)); intro s w103 T3; clear c_q f_q; clear T2; obtain ⟨⟨c_s, f_s⟩, ⟨c_q, f_q⟩, _⟩ := T3.out.cells)
    | ((with_reducible refine gate_store (t := 78) (p := 8) rfl ?_); refine tr_st [] T3 0 rfl 78 rfl rfl #[_, _, _, _, _, _, _] (.agg #[.int .i64 f, .int .i64 0, .int .i64 0, .slice none 0 0, .slice A_l args.length c_l_, .int .i64 0, .bool false]) [_, _, _, _, _, _, _] sz78 rfl rfl rfl rfl (by simp) rfl ?_; intro w104 T4; simp only [List.cons_append, List.nil_append] at T4; clear c_s f_s c_q f_q; clear T3; obtain ⟨⟨c_s, f_s⟩, ⟨c_q, f_q⟩, _⟩ := T4.out.cells))
  have TL := T4
  clear c_s f_s c_q f_q T4
  simp only [List.append_eq, List.cons_append, List.nil_append, Act.put, List.setIfInBounds_toArray, List.set_cons_zero, List.set_cons_succ]
  go_loopg [] ((rd_T50 fs f).f2 - args.length).toNat (fun k w' => ∃ A2 c2 lo, Aside0 ((k : Int) = (rd_T50 fs f).f2 - (List.length lo : Int)) ∧ Aside0 (Tr w (fun _ => False) [(s, #[.int .i64 f, .int .i64 0, .int .i64 0, .slice none 0 0, .slice A2 (List.length lo) c2, .int .i64 0, .bool false], 78), (q, #[.int .i64 0, .int .i64 0, .int .i64 0, .slice none 0 0, .slice none 0 0, .int .i64 0, .bool false], 78)] [(.slice A2 (List.length lo) c2, lo)] w'))
  case atStart => exact ⟨_, _, args, ⟨by have := HE.out; have := HB.out; omega⟩, TL⟩
  case round =>
    clear TL
    obtain ⟨A2, c2, lo, hk, T50⟩ := hrel
    obtain ⟨ck, fk⟩ := blk_cells (blk_below K1.out T50.out.fresh)
    have q12 := pw_cell_below T50.out.fresh Q12.out
    obtain ⟨⟨c_s, f_s⟩, ⟨c_q, f_q⟩, _⟩ := T50.out.cells
    go_upto_region 6 with (fail)
    go_quiet (fail)
    clear c_s f_s c_q f_q
    have T51 := Aside0.mk (T50.out.drewN nq)
    clear T50
    generalize wr.drewN nq = w121 at T51 ⊢
    obtain ⟨⟨c_s, f_s⟩, ⟨c_q, f_q⟩, _⟩ := T51.out.cells
    clear ck fk q12
    by_cases p : (lo.length : Int) < (rd_T50 fs f).f2
    · have b4 : decide ((lo.length : Int) < (rd_T50 fs f).f2) = true := decide_eq_true p
      go_wp2_with (first
          | ((with_reducible refine gate_dst (N := 54) rfl ?_); refine tr_one T51 54 rfl rfl (0) ?h54_3 ?_; (case h54_3 => first | (go_simp; done) | (go_simp; rfl)); intro A_o c_o_ w122 T52; clear c_s f_s c_q f_q; clear T51; obtain ⟨⟨c_s, f_s⟩, ⟨c_q, f_q⟩, _⟩ := T52.out.cells)
          | ((with_reducible refine gate_dst (N := 55) rfl ?_); refine tr_app [_] T52 55 rfl rfl rfl [0] A_o [0].length c_o_ rfl rfl (row_reads (T52.out.row _ (.head _)).1) (by have := HB.out; simp; omega) ?_; intro A_m c_m_ z_m w123 E_m T53; simp only [List.cons_append, List.nil_append] at T53; clear c_s f_s c_q f_q; clear T52; have T54 := Aside0.mk T53.out.drow; clear T53; obtain ⟨⟨c_s, f_s⟩, ⟨c_q, f_q⟩, _⟩ := T54.out.cells)
          | ((with_reducible refine gate_store (t := 23) (p := 56) rfl ?_); refine tr_st [] T54 4 rfl 23 rfl rfl #[_, _, _, _, _, _, _] (.slice A_m z_m.length c_m_) [_] sz23 rfl rfl rfl rfl (by simp) rfl ?_; intro w124 T55; simp only [List.cons_append, List.nil_append] at T55; clear c_s f_s c_q f_q; clear T54; obtain ⟨⟨c_s, f_s⟩, ⟨c_q, f_q⟩, _⟩ := T55.out.cells))
      go_roundg (gk - 1)
      case measure => have := hk.out; omega
      case rel => exact ⟨A_m, c_m_, z_m, ⟨by have := hk.out; have := E_m.out; subst this; simp; omega⟩, T55⟩
    · have b4 : decide ((lo.length : Int) < (rd_T50 fs f).f2) = false := decide_eq_false p
      go_wp2_with (first
          | ((with_reducible refine gate_store (t := 78) (p := 6) rfl ?_); refine tr_st [_] T51 0 rfl 78 rfl rfl #[_, _, _, _, _, _, _] (.agg #[.int .i64 f, .int .i64 0, .int .i64 0, .slice none 0 0, .slice A2 (List.length lo) c2, .int .i64 0, .bool false]) [_, _, _, _, _, _, _] sz78 rfl rfl rfl rfl (by simp) rfl ?_; intro w122 T52; simp only [List.cons_append, List.nil_append] at T52; clear c_s f_s c_q f_q; clear T51; obtain ⟨⟨c_s, f_s⟩, ⟨c_q, f_q⟩, _⟩ := T52.out.cells))
      refine bodyPost_ret (results_ct rfl _ _ q 78 _ (0, 0) _ rfl (T52.out.blk _ (.tail _ (.head _))).1 Try.underlying78 rfl (by kernel_rfl)) rfl ?_
      exact ⟨A2, c2, lo, rfl, by have := hk.out; omega, T52.out.rowb (fun _ h => h.elim) (Nat.le_refl _) (.head _), T52.out.fresh⟩
end Go.Proofs.Ytakdckaplmoklaa.Ev
end
