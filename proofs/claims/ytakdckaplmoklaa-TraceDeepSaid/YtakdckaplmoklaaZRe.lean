/- A part of the proof of TraceDeepSaid (Re); laid together by merge2.py. -/
import Derived.Test.YtakdckaplmoklaaZMa
import Derived.Test.YtakdckaplmoklaaZCp
section
namespace Go.Proofs.Ytakdckaplmoklaa.Ev
open Go.Proofs.YtakdckaplmoklaaHt Go.Sort
open Go.RowKit Go.Proofs.YtakdckaplmoklaaW.PrintWords Go.Proofs.YtakdckaplmoklaaW.PrintLast Go.Proofs.YtakdckaplmoklaaW.PrintMore Go.Proofs.Ytakdckaplmoklaa.PTraceDeep
set_option linter.unusedVariables false
set_option linter.unusedSimpArgs false
def ResPost (fs : List S50) (D : List (List Int)) (func pc fuel : Int) (st lo : List Int) (kids er : Int) (w : World) (e : Ending) (w' : World) : Prop :=
  ∃ pc' A1 c1 A2 c2 st' wt' kind ev1 ev2, e = .returned (.tuple #[StV func pc' fuel A1 (List.length st') c1 A2 lo.length c2 kids wt', EvV kind 0 0 0 none 0 0 ev1 ev2]) ∧ Below w.heap.size w w' ∧
    Row w' w.heap.size (.slice A1 st'.length c1) st' ∧ Row w' w.heap.size (.slice A2 lo.length c2) lo ∧ Ap (.slice A1 st'.length c1) (.slice A2 lo.length c2) ∧
    ((kind = 3) ∨ (kind = 0 ∧ wt' = false ∧ Gd fs D func pc' st' lo))
set_option maxHeartbeats 4000000 in
set_option maxRecDepth 100000 in
theorem resume_any (w : World) (kb : Nat) (fs : List S50) (D : List (List Int)) (main jfuel tasks : Int) (jargs : List Int) (hk : Kn w kb fs D main jfuel tasks jargs) (hg : KG fs D)
    (func pc fuel kids : Int) (A B : Option Addr) (c d : Nat) (st lo : List Int) (hA : ReadsInt w .i64 A st.length st) (hB : ReadsInt w .i64 B lo.length lo) (hf1 : 0 ≤ func) (hf2 : func < fs.length) (hgd : Gd fs D func pc st lo) (hk1 : 0 ≤ kids) (hk2 : kids ≤ 16) (hu1 : 0 ≤ fuel) (hu2 : fuel ≤ jfuel)
    (h17 : (insAt fs func pc).f0 = 17) (hv1 : 0 ≤ rd st (st.length - 1)) (hv2 : rd st (st.length - 1) < kids) (er rv : Int) :
    Calls Try.prog 27 #[.pointer (some ⟨kb, 0, none⟩), StV func pc fuel A st.length c B lo.length d kids true, .agg #[.int .i64 er, .int .i64 rv]] w (ResPost fs D func pc fuel st lo kids er w) := by
  have hm := Aside0.mk (mayB_of (jfuel := jfuel) (wt := true) hf1 hf2 hgd hk1 hk2 hu1 hu2 (fun _ => ⟨h17, hv1, hv2⟩))
  have HK := Aside0.mk hk
  have HG := Aside0.mk hg
  have HA := Aside0.mk hA
  have HB := Aside0.mk hB
  have GD := Aside0.mk hgd
  have ok := hg.ins func pc hf1 hf2 hgd.pc0 hgd.pc1 hgd.dep
  have hn := Aside0.mk (ok.next (op := 17) ⟨h17.symm, rfl⟩ (pc + 1) (by simp [nextOf]) 1 1 (by simp [popsOf]) (by simp [pushOf]))
  have hs1 : 1 ≤ st.length := by have := ok.pop (op := 17) ⟨h17.symm, rfl⟩ 1 (by simp [popsOf]); have := hgd.st; omega
  have hs2 : st.length ≤ 32 := by have := hg.high func pc hf1 hf2 hgd.pc0 hgd.pc1; have := hgd.st; omega
  have hl2 : lo.length ≤ 16 := by have := (hg.row func hf1 hf2).2.2.2.2; have := hgd.lo; omega
  have hp0 := hgd.pc0
  have hp1 : pc ≤ 256 := by have := hgd.pc1; have := (hg.row func hf1 hf2).2.1; omega
  have hi0 : 0 ≤ (st.length : Int) - 1 := by omega
  have hi1 : (st.length : Int) - 1 < st.length := by omega
  have hi2 : (1 : Int) ≤ (st.length : Int) := by omega
  have T0 := Aside0.mk (Tr.start w (fun _ => False))
  clear hA hB hk hg hgd h17 hv1 hv2 ok
  unfold StV
  go_enter Try.func27, Try.ntmps27
  go_wp2_with (first
    | ((with_reducible refine gate_dst (N := 4) rfl ?_); refine tr_new 4 rfl rfl T0 #[.int .i64 func, .int .i64 pc, .int .i64 fuel, .slice A st.length c, .slice B lo.length d, .int .i64 kids, .bool true] 78 (by decide) ?h4_1 ?_; (case h4_1 => first | (go_simp; done) | (go_simp; rfl)); intro p w101 T1; clear T0; obtain ⟨⟨c_p, f_p⟩, _⟩ := T1.out.cells)
    | ((with_reducible refine gate_dst (N := 5) rfl ?_); refine tr_new 5 rfl rfl T1 #[.int .i64 er, .int .i64 rv] 35 (by decide) ?h5_2 ?_; (case h5_2 => first | (go_simp; done) | (go_simp; rfl)); intro r w102 T2; clear c_p f_p; clear T1; obtain ⟨⟨c_r, f_r⟩, ⟨c_p, f_p⟩, _⟩ := T2.out.cells)
    | ((with_reducible refine gate_dst (N := 6) rfl ?_); refine tr_new 6 rfl rfl T2 #[.int .i64 0, .int .i64 0, .int .i64 0, .slice none 0 0, .slice none 0 0, .int .i64 0, .bool false] 78 (by decide) ?h6_3 ?_; (case h6_3 => first | (go_simp; done) | (go_simp; rfl)); intro q w103 T3; clear c_r f_r c_p f_p; clear T2; obtain ⟨⟨c_q, f_q⟩, ⟨c_r, f_r⟩, ⟨c_p, f_p⟩, _⟩ := T3.out.cells)
    | ((with_reducible refine gate_dst (N := 7) rfl ?_); refine tr_new 7 rfl rfl T3 #[.int .i64 0, .int .i64 0, .int .i64 0, .int .i64 0, .slice none 0 0, .int .i64 0, .int .i64 0] 83 (by decide) ?h7_4 ?_; (case h7_4 => first | (go_simp; done) | (go_simp; rfl)); intro x w104 T4; clear c_q f_q c_r f_r c_p f_p; clear T3; obtain ⟨⟨c_x, f_x⟩, ⟨c_q, f_q⟩, ⟨c_r, f_r⟩, ⟨c_p, f_p⟩, _⟩ := T4.out.cells))
  refine (may_any _ kb fs D main jfuel tasks jargs (HK.out.below T4.out.fresh) HG.out func pc fuel kids true A B c d st lo (HA.out.below T4.out.fresh) (HB.out.below T4.out.fresh) (by omega) (by omega) hf1 hf2).mono ?_
  rintro e_ w105 ⟨e1_, b_⟩
  rw [hm.out] at e1_
  subst e1_
  have T5 := Aside0.mk (T4.out.call b_)
  clear b_
  clear c_x f_x c_q f_q c_r f_r c_p f_p T4
  obtain ⟨⟨c_x, f_x⟩, ⟨c_q, f_q⟩, ⟨c_r, f_r⟩, ⟨c_p, f_p⟩, _⟩ := T5.out.cells
  go_wp2_with fail
  refine (copied_any _ func pc fuel kids true A B c d st lo (HA.out.below T5.out.fresh) (HB.out.below T5.out.fresh) (by omega) (by omega)).mono ?_
  rintro e_ w106 ⟨A1, c1, A2, c2, rfl, r1_, r2_, ap_, b_⟩
  have T6 := Aside0.mk (T5.out.two b_ r1_ r2_ ap_)
  clear b_ r1_ r2_ ap_
  unfold StV
  clear c_x f_x c_q f_q c_r f_r c_p f_p T5
  obtain ⟨⟨c_x, f_x⟩, ⟨c_q, f_q⟩, ⟨c_r, f_r⟩, ⟨c_p, f_p⟩, _⟩ := T6.out.cells
  by_cases p1 : er = 0
  focus
    have b1 : (er != 0) = false := by simpa using p1
    obtain ⟨adS, eS, cS⟩ := (row_reads (T6.out.row _ (.head _)).1).at_ _ hi0 hi1
    subst eS
    clear cS
    go_wp2_with (first
      | ((with_reducible refine gate_store (t := 78) (p := 4) rfl ?_); refine tr_st [_, _, _] T6 0 rfl 78 rfl rfl #[_, _, _, _, _, _, _] (.agg #[.int .i64 func, .int .i64 pc, .int .i64 fuel, .slice (some adS) st.length c1, .slice A2 lo.length c2, .int .i64 kids, .bool true]) [_, _, _, _, _, _, _] sz78 rfl rfl rfl rfl (by simp) rfl ?_; intro w107 T7; simp only [List.cons_append, List.nil_append] at T7; clear c_x f_x c_q f_q c_r f_r c_p f_p; clear T6; obtain ⟨⟨c_x, f_x⟩, ⟨c_q, f_q⟩, ⟨c_r, f_r⟩, ⟨c_p, f_p⟩, _⟩ := T7.out.cells)
      | ((with_reducible refine gate_store (t := 3) (p := 37) rfl ?_); refine tr_put [] T7 rfl (st.length - 1) (by omega) rfl rfl rfl (rv) rfl rfl ?_; intro z1 w108 E_z1 T8; simp only [List.cons_append, List.nil_append] at T8; clear c_x f_x c_q f_q c_r f_r c_p f_p; clear T7; obtain ⟨⟨c_x, f_x⟩, ⟨c_q, f_q⟩, ⟨c_r, f_r⟩, ⟨c_p, f_p⟩, _⟩ := T8.out.cells)
      | ((with_reducible refine gate_store (t := 3) (p := 41) rfl ?_); refine tr_st [_, _, _] T8 1 rfl 3 rfl rfl #[_, _, _, _, _, _, _] (.int .i64 (pc + 1)) [_] sz3 rfl rfl rfl rfl (by simp) rfl ?_; intro w109 T9; simp only [List.cons_append, List.nil_append] at T9; clear c_x f_x c_q f_q c_r f_r c_p f_p; clear T8; obtain ⟨⟨c_x, f_x⟩, ⟨c_q, f_q⟩, ⟨c_r, f_r⟩, ⟨c_p, f_p⟩, _⟩ := T9.out.cells)
      | ((with_reducible refine gate_store (t := 4) (p := 42) rfl ?_); refine tr_st [_, _, _] T9 6 rfl 4 rfl rfl #[_, _, _, _, _, _, _] (.bool false) [_] sz4 rfl rfl rfl rfl (by simp) rfl ?_; intro w110 T10; simp only [List.cons_append, List.nil_append] at T10; clear c_x f_x c_q f_q c_r f_r c_p f_p; clear T9; obtain ⟨⟨c_x, f_x⟩, ⟨c_q, f_q⟩, ⟨c_r, f_r⟩, ⟨c_p, f_p⟩, _⟩ := T10.out.cells)
      | ((with_reducible refine gate_store (t := 78) (p := 6) rfl ?_); refine tr_st [_] T10 0 rfl 78 rfl rfl #[_, _, _, _, _, _, _] (.agg #[.int .i64 func, .int .i64 (pc + 1), .int .i64 fuel, .slice (some adS) st.length c1, .slice A2 lo.length c2, .int .i64 kids, .bool false]) [_, _, _, _, _, _, _] sz78 rfl rfl rfl rfl (by simp) rfl ?_; intro w111 T11; simp only [List.cons_append, List.nil_append] at T11; clear c_x f_x c_q f_q c_r f_r c_p f_p; clear T10; obtain ⟨⟨c_x, f_x⟩, ⟨c_q, f_q⟩, ⟨c_r, f_r⟩, ⟨c_p, f_p⟩, _⟩ := T11.out.cells)
      | ((with_reducible refine gate_store (t := 83) (p := 7) rfl ?_); refine tr_st [] T11 0 rfl 83 rfl rfl #[_, _, _, _, _, _, _] (.agg #[.int .i64 0, .int .i64 0, .int .i64 0, .int .i64 0, .slice none 0 0, .int .i64 0, .int .i64 0]) [_, _, _, _, _, _, _] sz83 rfl rfl rfl rfl (by simp) rfl ?_; intro w112 T12; simp only [List.cons_append, List.nil_append] at T12; clear c_x f_x c_q f_q c_r f_r c_p f_p; clear T11; obtain ⟨⟨c_x, f_x⟩, ⟨c_q, f_q⟩, ⟨c_r, f_r⟩, ⟨c_p, f_p⟩, _⟩ := T12.out.cells))
    refine bodyPost_ret (results_cc rfl _ _ q x 78 83 _ _ (0, 0) (0, 0) _ _ rfl (T12.out.blk _ (.tail _ (.head _))).1 Try.underlying78 rfl (by kernel_rfl) rfl (T12.out.blk _ (.head _)).1 Try.underlying83 rfl (by kernel_rfl)) rfl ?_
    unfold ResPost
    exact ⟨pc + 1, some adS, c1, A2, c2, z1, false, 0, 0, 0, by rw [E_z1.out.2]; rfl, T12.out.fresh, by rw [E_z1.out.2]; exact T12.out.rowb (fun _ h => h.elim) (Nat.le_refl _) (.head _), T12.out.rowb (fun _ h => h.elim) (Nat.le_refl _) (.tail _ (.head _)), by rw [E_z1.out.2]; exact (List.pairwise_cons.1 T12.out.ap).1 _ (.head _), .inr ⟨rfl, rfl, hn.out.1, hn.out.2.1, by have := hn.out.2.2; have := GD.out.dep; omega, by have := hn.out.2.2; have := GD.out.st; have := E_z1.out.2; omega, GD.out.lo⟩⟩
  focus
    have b1 : (er != 0) = true := by simpa using p1
    go_wp2_with (first | ((with_reducible refine gate_store (t := 78) (p := 4) rfl ?_); refine tr_st [_, _, _] T6 0 rfl 78 rfl rfl #[_, _, _, _, _, _, _] (.agg #[.int .i64 func, .int .i64 pc, .int .i64 fuel, .slice A1 st.length c1, .slice A2 lo.length c2, .int .i64 kids, .bool true]) [_, _, _, _, _, _, _] sz78 rfl rfl rfl rfl (by simp) rfl ?_; intro w107 T7; simp only [List.cons_append, List.nil_append] at T7; clear c_x f_x c_q f_q c_r f_r c_p f_p; clear T6; obtain ⟨⟨c_x, f_x⟩, ⟨c_q, f_q⟩, ⟨c_r, f_r⟩, ⟨c_p, f_p⟩, _⟩ := T7.out.cells))
    refine wp_region_tp [] [0, 1, 2, 3, 4] (by kernel_rfl) (by kernel_rfl) rfl rfl (fun c a d v w h => ?hQt) ?_
    case hQt => cases d <;> exact h
    simp only [pick]
    refine wpQuiet_nil ?_
    clear c_x f_x c_q f_q c_r f_r c_p f_p
    have T8 := Aside0.mk (T7.out.drew)
    clear T7
    generalize w107.drew = w108 at T8 ⊢
    obtain ⟨⟨c_x, f_x⟩, ⟨c_q, f_q⟩, ⟨c_r, f_r⟩, ⟨c_p, f_p⟩, _⟩ := T8.out.cells
    iterate 5
      all_goals show wpTail _ _ _ _ _ _ _
      all_goals first | refine tail_one 0 (by decide +kernel) rfl rfl ?_ | refine tail_one 1 (by decide +kernel) rfl rfl ?_ | refine tail_one 2 (by decide +kernel) rfl rfl ?_ | refine tail_one 3 (by decide +kernel) rfl rfl ?_ | refine tail_one 4 (by decide +kernel) rfl rfl ?_ | refine tail_two 0 1 (by decide +kernel) rfl rfl rfl rfl ?_ ?_ | refine tail_two 1 3 (by decide +kernel) rfl rfl rfl rfl ?_ ?_ | refine tail_two 0 2 (by decide +kernel) rfl rfl rfl rfl ?_ ?_ | refine tail_two 2 3 (by decide +kernel) rfl rfl rfl rfl ?_ ?_
      all_goals go_wp2_with (first | ((with_reducible refine gate_store (t := 78) (p := 6) rfl ?_); refine tr_st [_] T8 0 rfl 78 rfl rfl #[_, _, _, _, _, _, _] (.agg #[.int .i64 func, .int .i64 pc, .int .i64 fuel, .slice A1 st.length c1, .slice A2 lo.length c2, .int .i64 kids, .bool true]) [_, _, _, _, _, _, _] sz78 rfl rfl rfl rfl (by simp) rfl ?_; intro w109 T9; simp only [List.cons_append, List.nil_append] at T9; clear c_x f_x c_q f_q c_r f_r c_p f_p; clear T8; obtain ⟨⟨c_x, f_x⟩, ⟨c_q, f_q⟩, ⟨c_r, f_r⟩, ⟨c_p, f_p⟩, _⟩ := T9.out.cells) | ((with_reducible refine gate_store (t := 83) (p := 7) rfl ?_); refine tr_st [] T9 0 rfl 83 rfl rfl #[_, _, _, _, _, _, _] (.agg #[.int .i64 3, .int .i64 0, .int .i64 0, .int .i64 0, .slice none 0 0, .int .i64 er, .int .i64 rv]) [_, _, _, _, _, _, _] sz83 rfl rfl rfl rfl (by simp) rfl ?_; intro w110 T10; simp only [List.cons_append, List.nil_append] at T10; clear c_x f_x c_q f_q c_r f_r c_p f_p; clear T9; obtain ⟨⟨c_x, f_x⟩, ⟨c_q, f_q⟩, ⟨c_r, f_r⟩, ⟨c_p, f_p⟩, _⟩ := T10.out.cells))
    all_goals show wpTail _ _ _ _ _ _ _
    all_goals refine tail_nil ?_
    all_goals go_wp2_with fail
    all_goals
      refine bodyPost_ret (results_cc rfl _ _ q x 78 83 _ _ (0, 0) (0, 0) _ _ rfl (T10.out.blk _ (.tail _ (.head _))).1 Try.underlying78 rfl (by kernel_rfl) rfl (T10.out.blk _ (.head _)).1 Try.underlying83 rfl (by kernel_rfl)) rfl ?_
      unfold ResPost
      exact ⟨pc, A1, c1, A2, c2, st, true, 3, er, rv, rfl, T10.out.fresh, T10.out.rowb (fun _ h => h.elim) (Nat.le_refl _) (.head _), T10.out.rowb (fun _ h => h.elim) (Nat.le_refl _) (.tail _ (.head _)), (List.pairwise_cons.1 T10.out.ap).1 _ (.head _), .inl rfl⟩
end Go.Proofs.Ytakdckaplmoklaa.Ev
end
