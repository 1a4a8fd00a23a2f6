/- A part of the proof of TraceDeepSaid (Ru); laid together by merge2.py. -/
import Derived.Test.YtakdckaplmoklaaZMa
import Derived.Test.YtakdckaplmoklaaZSt
import Derived.Test.YtakdckaplmoklaaZCp
section
namespace Go.Proofs.Ytakdckaplmoklaa.Ev
open Go.Proofs.YtakdckaplmoklaaHt Go.Sort
open Go.RowKit Go.Proofs.YtakdckaplmoklaaW.PrintWords Go.Proofs.YtakdckaplmoklaaW.PrintLast Go.Proofs.YtakdckaplmoklaaW.PrintMore Go.Proofs.Ytakdckaplmoklaa.PTraceDeep
set_option linter.unusedVariables false
set_option linter.unusedSimpArgs false
def RunPost (fs : List S50) (D : List (List Int)) (func fuel jfuel kids deep : Int) (w : World) (e : Ending) (w' : World) : Prop :=
  ∃ pc' fuel' A1 c1 A2 c2 st' lo' kids' wt' kind ef ek steps AE cE ar er ev, e = .returned (.tuple #[StV func pc' fuel' A1 (List.length st') c1 A2 (List.length lo') c2 kids' wt', EvV kind ef ek steps AE (List.length ar) cE er ev]) ∧ Below w.heap.size w w' ∧
    Row w' w.heap.size (.slice A1 st'.length c1) st' ∧ Row w' w.heap.size (.slice A2 lo'.length c2) lo' ∧ Row w' w.heap.size (.slice AE ar.length cE) ar ∧
    ((kind = 3) ∨
     (kind = 1 ∧ fuel < fuel' ∧ fuel' ≤ jfuel ∧ deep < 12 ∧ kids < 16 ∧ 0 ≤ ef ∧ ef < fs.length ∧ ek = kids ∧ (ar.length : Int) = (rd_T50 fs ef).f1 ∧ Gd fs D func pc' st' lo' ∧ kids' = kids + 1 ∧ wt' = false) ∨
     (kind = 2 ∧ fuel < fuel' ∧ fuel' ≤ jfuel ∧ (insAt fs func pc').f0 = 17 ∧ 0 ≤ ek ∧ ek < kids ∧ ek = rd st' (st'.length - 1) ∧ Gd fs D func pc' st' lo' ∧ kids' = kids ∧ wt' = true))
theorem Tr.frs {ws W W' : World} {g : Nat} {cs : Array Value} {bs : List (Nat × Array Value × TypeId)} {rs : List (Value × List Int)} (T : Tr ws (fun _ => False) ((g, cs, 78) :: bs) rs W) (F : FrS ws.heap.size g W W')
    {f pc fuel kids : Int} {st lo : List Int} {wt : Bool} (S : StM W' ws.heap.size g f pc fuel st lo kids wt) : ∃ A1 c1 A2 c2, Tr ws (fun _ => False) ((g, #[.int .i64 f, .int .i64 pc, .int .i64 fuel, .slice A1 st.length c1, .slice A2 lo.length c2, .int .i64 kids, .bool wt], 78) :: bs) [(.slice A1 st.length c1, st), (.slice A2 lo.length c2, lo)] W' := by
  obtain ⟨A1, c1, A2, c2, h1, h2, h3, h4, h5⟩ := S
  refine ⟨A1, c1, A2, c2, F.os.trans T.os, F.tape.trans T.tape, F.output.trans T.output, Nat.le_trans T.size F.size, fun k hk hM => ?_, fun b hb => ?_, ?_, fun r hr => ?_, ?_⟩
  · rw [← T.frame k hk hM]
    exact F.block k (Nat.lt_of_lt_of_le hk T.size) (by omega) (fun h => by omega)
  · rcases List.mem_cons.1 hb with rfl | hb
    · exact ⟨h1, (by decide : (78 : TypeId) ≠ 3), .inr h5⟩
    · obtain ⟨k1, k2, k3⟩ := T.blk b (.tail _ hb)
      exact ⟨F.blk k1 (fun e => (List.pairwise_cons.1 T.dist).1 b hb e.symm) k2, k2, k3⟩
  · exact List.pairwise_cons.2 ⟨(List.pairwise_cons.1 T.dist).1, (List.pairwise_cons.1 T.dist).2⟩
  · rcases List.mem_cons.1 hr with rfl | hr
    · exact ⟨row_low h2 (Nat.zero_le _), fun k hk => .inr (row_base h2 k hk)⟩
    · obtain rfl : r = _ := by simpa using hr
      exact ⟨row_low h3 (Nat.zero_le _), fun k hk => .inr (row_base h3 k hk)⟩
  · exact List.pairwise_cons.2 ⟨by simpa using h4, List.pairwise_cons.2 ⟨by simp, .nil⟩⟩
theorem Tr.anew {ws W : World} {bs : List (Nat × Array Value × TypeId)} {rs : List (Value × List Int)} (T : Tr ws (fun _ => False) bs rs W) : Tr W (fun k => k ∈ bs.map (·.1)) bs [] W :=
  ⟨rfl, rfl, rfl, Nat.le_refl _, fun _ _ _ => rfl, fun b hb => ⟨(T.blk b hb).1, (T.blk b hb).2.1, .inl (List.mem_map_of_mem hb)⟩, T.dist, by simp, .nil⟩
theorem Tr.keep_row {ws W : World} {bs0 bs : List (Nat × Array Value × TypeId)} {rs : List (Value × List Int)} {base : Nat} {v : Value} {xs : List Int} (T : Tr ws (fun k => k ∈ bs0.map (·.1)) bs rs W) (r : Row ws base v xs) (h : ∀ b ∈ bs0, ws.heap[b.1]? = some (.cells b.2.1 b.2.2 (0, 0)) ∧ b.2.2 ≠ 3) : Row W base v xs :=
  own_move r fun k hk => T.frame k (row_lt r k hk) fun hm => by
    obtain ⟨b, hb, rfl⟩ := List.mem_map.1 hm
    obtain ⟨h1, h2⟩ := h b hb
    rcases row_blk r h1 (Ne.symm h2) with e | e
    · rw [e] at hk; cases hk
    · exact e hk
theorem Tr.rev3 {ws W : World} {M : Nat → Prop} {a b c : Nat × Array Value × TypeId} {rs : List (Value × List Int)} (T : Tr ws M [a, b, c] rs W) : Tr ws M [c, b, a] rs W := by
  refine ⟨T.os, T.tape, T.output, T.size, T.frame, fun x hx => T.blk x (by simpa [or_comm, or_left_comm, or_assoc] using hx), ?_, T.row, T.ap⟩
  have h := T.dist
  simp only [List.pairwise_cons, List.mem_cons, List.not_mem_nil, or_false, forall_eq_or_imp, forall_eq, false_implies, implies_true, and_true, List.Pairwise.nil] at h ⊢
  obtain ⟨⟨h1, h2⟩, h3⟩ := h
  exact ⟨⟨Ne.symm h3, Ne.symm h2⟩, Ne.symm h1⟩
theorem Tr.anew_row {ws W0 W : World} {bs0 bs : List (Nat × Array Value × TypeId)} {rs0 rs : List (Value × List Int)} (T0 : Tr ws (fun _ => False) bs0 rs0 W0) (T : Tr W0 (fun k => k ∈ bs0.map (·.1)) bs rs W) {base : Nat} {v : Value} {xs : List Int} (r : Row W0 base v xs) : Row W base v xs :=
  T.keep_row r fun b hb => ⟨(T0.blk b hb).1, (T0.blk b hb).2.1⟩
theorem Tr.anew_below {ws W0 W : World} {bs0 bs : List (Nat × Array Value × TypeId)} {rs0 rs : List (Value × List Int)} (T0 : Tr ws (fun _ => False) bs0 rs0 W0) (T : Tr W0 (fun k => k ∈ bs0.map (·.1)) bs rs W) : Below ws.heap.size ws W :=
  T0.fresh.trans (T.below (fun k hk => by
    obtain ⟨b, hb, rfl⟩ := List.mem_map.1 hk
    exact (T0.blk b hb).2.2.elim False.elim id) T0.size)
set_option maxHeartbeats 4000000 in
set_option maxRecDepth 100000 in
theorem run_any (w : World) (kb : Nat) (fs : List S50) (D : List (List Int)) (main jfuel tasks : Int) (jargs : List Int) (hk : Kn w kb fs D main jfuel tasks jargs) (hg : KG fs D) (hj : jfuel ≤ 5000)
    (func pc fuel kids : Int) (A B : Option Addr) (c d : Nat) (st lo : List Int) (hA : ReadsInt w .i64 A st.length st) (hB : ReadsInt w .i64 B lo.length lo) (hf1 : 0 ≤ func) (hf2 : func < fs.length) (hgd : Gd fs D func pc st lo) (hk1 : 0 ≤ kids) (hk2 : kids ≤ 16) (hu1 : 0 ≤ fuel) (hu2 : fuel ≤ jfuel) (deep : Int) :
    Calls Try.prog 26 #[.pointer (some ⟨kb, 0, none⟩), StV func pc fuel A st.length c B lo.length d kids false, .int .i64 deep, .int .i64 6000] w (RunPost fs D func fuel jfuel kids deep w) := by
  have hm := Aside0.mk (mayB_of (jfuel := jfuel) (wt := false) hf1 hf2 hgd hk1 hk2 hu1 hu2 (fun h => by cases h))
  have HK := Aside0.mk hk
  have HG := Aside0.mk hg
  have HA := Aside0.mk hA
  have HB := Aside0.mk hB
  have GD := Aside0.mk hgd
  have hs2 : st.length ≤ 32 := by have := hg.high func pc hf1 hf2 hgd.pc0 hgd.pc1; have := hgd.st; omega
  have hl2 : lo.length ≤ 16 := by have := (hg.row func hf1 hf2).2.2.2.2; have := hgd.lo; omega
  have T0 := Aside0.mk (Tr.start w (fun _ => False))
  obtain ⟨AF, cF, AA, cA, AD, cD, k1, k2, k3, k4, k5, k6, k7⟩ := hk.out
  have K1 := Aside0.mk k1
  have HU := Aside0.mk (And.intro hu1 hu2)
  clear hA hB hk hg hgd k1 k3 k5 k7 hu2
  unfold StV
  go_enter Try.func26, Try.ntmps26
  go_wp2_with (first
    | ((with_reducible refine gate_dst (N := 5) rfl ?_); refine tr_new 5 rfl rfl T0 #[.int .i64 func, .int .i64 pc, .int .i64 fuel, .slice A st.length c, .slice B lo.length d, .int .i64 kids, .bool false] 78 (by decide) ?h5_1 ?_; (case h5_1 => first | (go_simp; done) | (go_simp; rfl)); intro s w101 T1; clear T0; obtain ⟨⟨c_s, f_s⟩, _⟩ := T1.out.cells)
    | ((with_reducible refine gate_dst (N := 8) rfl ?_); refine tr_new 8 rfl rfl T1 #[.int .i64 0, .int .i64 0, .int .i64 0, .slice none 0 0, .slice none 0 0, .int .i64 0, .bool false] 78 (by decide) ?h8_2 ?_; (case h8_2 => first | (go_simp; done) | (go_simp; rfl)); intro q w102 T2; clear c_s f_s; clear T1; obtain ⟨⟨c_q, f_q⟩, ⟨c_s, f_s⟩, _⟩ := T2.out.cells)
    | ((with_reducible refine gate_dst (N := 9) rfl ?_); refine tr_new 9 rfl rfl T2 #[.int .i64 0, .int .i64 0, .int .i64 0, .int .i64 0, .slice none 0 0, .int .i64 0, .int .i64 0] 83 (by decide) ?h9_3 ?_; (case h9_3 => first | (go_simp; done) | (go_simp; rfl)); intro x w103 T3; clear c_q f_q c_s f_s; clear T2; obtain ⟨⟨c_x, f_x⟩, ⟨c_q, f_q⟩, ⟨c_s, f_s⟩, _⟩ := T3.out.cells))
  refine (may_any _ kb fs D main jfuel tasks jargs (HK.out.below T3.out.fresh) HG.out func pc fuel kids false A B c d st lo (HA.out.below T3.out.fresh) (HB.out.below T3.out.fresh) (by omega) (by omega) hf1 hf2).mono ?_
  rintro e_ w104 ⟨e1_, b_⟩
  rw [hm.out] at e1_
  subst e1_
  have T4 := Aside0.mk (T3.out.call b_)
  clear b_
  clear c_x f_x c_q f_q c_s f_s T3
  obtain ⟨⟨c_x, f_x⟩, ⟨c_q, f_q⟩, ⟨c_s, f_s⟩, _⟩ := T4.out.cells
  go_wp2_with fail
  refine (copied_any _ func pc fuel kids false A B c d st lo (HA.out.below T4.out.fresh) (HB.out.below T4.out.fresh) (by omega) (by omega)).mono ?_
  rintro e_ w105 ⟨A1, c1, A2, c2, rfl, r1_, r2_, ap_, b_⟩
  have T5 := Aside0.mk (T4.out.two b_ r1_ r2_ ap_)
  clear b_ r1_ r2_ ap_
  unfold StV
  clear c_x f_x c_q f_q c_s f_s T4
  obtain ⟨⟨c_x, f_x⟩, ⟨c_q, f_q⟩, ⟨c_s, f_s⟩, _⟩ := T5.out.cells
  go_wp2_with (first
    | ((with_reducible refine gate_store (t := 78) (p := 5) rfl ?_); refine tr_st [_, _] T5 0 rfl 78 rfl rfl #[_, _, _, _, _, _, _] (.agg #[.int .i64 func, .int .i64 pc, .int .i64 fuel, .slice A1 st.length c1, .slice A2 lo.length c2, .int .i64 kids, .bool false]) [_, _, _, _, _, _, _] sz78 rfl rfl rfl rfl (by simp) rfl ?_; intro w106 T6; simp only [List.cons_append, List.nil_append] at T6; clear c_x f_x c_q f_q c_s f_s; clear T5; obtain ⟨⟨c_x, f_x⟩, ⟨c_q, f_q⟩, ⟨c_s, f_s⟩, _⟩ := T6.out.cells))
  have TL := T6
  clear c_x f_x c_q f_q c_s f_s T6
  try simp only [List.append_eq, List.cons_append, List.nil_append, Act.put, List.setIfInBounds_toArray, List.set_cons_zero, List.set_cons_succ]
  go_loopg [11] 6000 (fun k v11 w' => ∃ n pc1 fuel1 B1 e1 B2 e2 st1 lo1, v11 = .int .i64 n ∧ Aside0 ((0 : Int) ≤ n ∧ n + (k : Int) = 6000 ∧ fuel1 = fuel + n ∧ fuel1 ≤ jfuel ∧ Gd fs D func pc1 st1 lo1) ∧ Aside0 (Tr w (fun _ => False) [(s, #[.int .i64 func, .int .i64 pc1, .int .i64 fuel1, .slice B1 (List.length st1) e1, .slice B2 (List.length lo1) e2, .int .i64 kids, .bool false], 78), (q, #[.int .i64 0, .int .i64 0, .int .i64 0, .slice none 0 0, .slice none 0 0, .int .i64 0, .bool false], 78), (x, #[.int .i64 0, .int .i64 0, .int .i64 0, .int .i64 0, .slice none 0 0, .int .i64 0, .int .i64 0], 83)] [(.slice B1 (List.length st1) e1, st1), (.slice B2 (List.length lo1) e2, lo1)] w'))
  case atStart => exact ⟨0, pc, fuel, _, _, _, _, st, lo, rfl, ⟨by omega, by omega, by omega, HU.out.2, GD.out⟩, ⟨TL.out.rev3⟩⟩
  case round =>
    clear TL
    obtain ⟨n, pc1, fuel1, B1, e1, B2, e2, st1, lo1, rfl, hk, T50⟩ := hrel
    obtain ⟨ck, fk⟩ := blk_cells (blk_below K1.out T50.out.fresh)
    have bn : decide (n < 6000) = true := by have := hk.out; simp; omega
    have in0 : 0 ≤ n ∧ n ≤ 5000 := by have := hk.out; omega
    have in2 := in0.1
    have in3 := in0.2
    have in1 : 0 ≤ fuel1 ∧ fuel1 ≤ 5000 := by have := hk.out; omega
    have in4 := in1.1
    have in5 := in1.2
    clear in0 in1
    obtain ⟨⟨c_s, f_s⟩, ⟨c_q, f_q⟩, ⟨c_x, f_x⟩, _⟩ := T50.out.cells
    go_upto_region 10 with (fail)
    go_quiet (fail)
    clear c_s f_s c_q f_q c_x f_x
    have T51 := Aside0.mk (T50.out.drewN nq)
    clear T50
    generalize wr.drewN nq = w121 at T51 ⊢
    obtain ⟨⟨c_s, f_s⟩, ⟨c_q, f_q⟩, ⟨c_x, f_x⟩, _⟩ := T51.out.cells
    clear ck fk
    by_cases p : fuel1 = jfuel
    focus
      have b4 : (fuel1 == jfuel) = true := by simpa using p
      have P := Aside0.mk p
      clear p
      go_upto_region 11 with (fail)
      refine wp_region_tp [1] [0, 2, 3, 4] (by kernel_rfl) (by kernel_rfl) rfl rfl (fun c a d v w h => ?hQt) ?_
      case hQt => cases d <;> exact h
      simp only [pick, List.getElem?_cons_zero, List.getElem?_cons_succ, List.nil_append, List.cons_append]
      repeat (quiet_step (fail))
      refine wpQuiet_nil ?_
      clear c_s f_s c_q f_q c_x f_x
      have T52 := Aside0.mk (T51.out.drew)
      clear T51
      generalize w121.drew = w122 at T52 ⊢
      obtain ⟨⟨c_s, f_s⟩, ⟨c_q, f_q⟩, ⟨c_x, f_x⟩, _⟩ := T52.out.cells
      show wpTail _ _ _ _ _ _ _
      refine tail_two 0 2 (by decide +kernel) rfl rfl rfl rfl ?_ ?_
      focus
        go_wp2_with fail
        show wpTail _ _ _ _ _ _ _
        refine tail_one 2 (by decide +kernel) rfl rfl ?_
        go_wp2_with fail
        refine (gleanerref4_ended.calls n 21 0 _ _ _ _ _ _ _ _ rfl).mono ?_
        rintro e_ w123 ⟨v4_, rfl, r_, b_⟩
        obtain ⟨A9, c9, e9, r9⟩ := row_of_R0 r_
        subst e9
        have T53 := Aside0.mk (T52.out.call b_ |>.arow (r9) (fun k hk => .inr (by have := row_base r9 k hk; have := T52.out.size; omega)) (fun r hr => Ap.symm (Ap.new (T52.out.row r hr).1 (row_own r9))))
        clear b_ r_ r9
        clear c_s f_s c_q f_q c_x f_x T52
        obtain ⟨⟨c_s, f_s⟩, ⟨c_q, f_q⟩, ⟨c_x, f_x⟩, _⟩ := T53.out.cells
        go_wp2_with fail
        show wpTail _ _ _ _ _ _ _
        refine tail_one 3 (by decide +kernel) rfl rfl ?_
        go_wp2_with (first | ((with_reducible refine gate_store (t := 78) (p := 8) rfl ?_); refine tr_st [_] T53 0 rfl 78 rfl rfl #[_, _, _, _, _, _, _] (.agg #[.int .i64 func, .int .i64 pc1, .int .i64 fuel1, .slice B1 (List.length st1) e1, .slice B2 (List.length lo1) e2, .int .i64 kids, .bool false]) [_, _, _, _, _, _, _] sz78 rfl rfl rfl rfl (by simp) rfl ?_; intro w124 T54; simp only [List.cons_append, List.nil_append] at T54; clear c_s f_s c_q f_q c_x f_x; clear T53; obtain ⟨⟨c_s, f_s⟩, ⟨c_q, f_q⟩, ⟨c_x, f_x⟩, _⟩ := T54.out.cells))
        show wpTail _ _ _ _ _ _ _
        refine tail_one 4 (by decide +kernel) rfl rfl ?_
        go_wp2_with (first | ((with_reducible refine gate_store (t := 83) (p := 9) rfl ?_); refine tr_st [_, _] T54 0 rfl 83 rfl rfl #[_, _, _, _, _, _, _] (.agg #[.int .i64 3, .int .i64 0, .int .i64 0, .int .i64 n, .slice A9 0 c9, .int .i64 21, .int .i64 0]) [_, _, _, _, _, _, _] sz83 rfl rfl rfl rfl (by simp) rfl ?_; intro w125 T55; simp only [List.cons_append, List.nil_append] at T55; clear c_s f_s c_q f_q c_x f_x; clear T54; obtain ⟨⟨c_s, f_s⟩, ⟨c_q, f_q⟩, ⟨c_x, f_x⟩, _⟩ := T55.out.cells))
        show wpTail _ _ _ _ _ _ _
        refine tail_nil ?_
        go_wp2_with fail
        refine bodyPost_ret (results_cc rfl _ _ q x 78 83 _ _ (0, 0) (0, 0) _ _ rfl (T55.out.blk _ (.tail _ (.head _))).1 Try.underlying78 rfl (by kernel_rfl) rfl (T55.out.blk _ (.tail _ (.tail _ (.head _)))).1 Try.underlying83 rfl (by kernel_rfl)) rfl ?_
        unfold RunPost
        exact ⟨pc1, fuel1, B1, e1, B2, e2, st1, lo1, kids, false, 3, 0, 0, n, A9, c9, [], 21, 0, rfl, T55.out.fresh, T55.out.rowb (fun _ h => h.elim) (Nat.le_refl _) (.tail _ (.head _)), T55.out.rowb (fun _ h => h.elim) (Nat.le_refl _) (.tail _ (.tail _ (.head _))), T55.out.rowb (fun _ h => h.elim) (Nat.le_refl _) (.head _), .inl rfl⟩
      focus
        go_wp2_with fail
        refine (gleanerref4_ended.calls n 21 0 _ _ _ _ _ _ _ _ rfl).mono ?_
        rintro e_ w123 ⟨v4_, rfl, r_, b_⟩
        obtain ⟨A9, c9, e9, r9⟩ := row_of_R0 r_
        subst e9
        have T53 := Aside0.mk (T52.out.call b_ |>.arow (r9) (fun k hk => .inr (by have := row_base r9 k hk; have := T52.out.size; omega)) (fun r hr => Ap.symm (Ap.new (T52.out.row r hr).1 (row_own r9))))
        clear b_ r_ r9
        clear c_s f_s c_q f_q c_x f_x T52
        obtain ⟨⟨c_s, f_s⟩, ⟨c_q, f_q⟩, ⟨c_x, f_x⟩, _⟩ := T53.out.cells
        go_wp2_with fail
        show wpTail _ _ _ _ _ _ _
        refine tail_one 0 (by decide +kernel) rfl rfl ?_
        go_wp2_with fail
        show wpTail _ _ _ _ _ _ _
        refine tail_one 3 (by decide +kernel) rfl rfl ?_
        go_wp2_with (first | ((with_reducible refine gate_store (t := 78) (p := 8) rfl ?_); refine tr_st [_] T53 0 rfl 78 rfl rfl #[_, _, _, _, _, _, _] (.agg #[.int .i64 func, .int .i64 pc1, .int .i64 fuel1, .slice B1 (List.length st1) e1, .slice B2 (List.length lo1) e2, .int .i64 kids, .bool false]) [_, _, _, _, _, _, _] sz78 rfl rfl rfl rfl (by simp) rfl ?_; intro w124 T54; simp only [List.cons_append, List.nil_append] at T54; clear c_s f_s c_q f_q c_x f_x; clear T53; obtain ⟨⟨c_s, f_s⟩, ⟨c_q, f_q⟩, ⟨c_x, f_x⟩, _⟩ := T54.out.cells))
        show wpTail _ _ _ _ _ _ _
        refine tail_one 4 (by decide +kernel) rfl rfl ?_
        go_wp2_with (first | ((with_reducible refine gate_store (t := 83) (p := 9) rfl ?_); refine tr_st [_, _] T54 0 rfl 83 rfl rfl #[_, _, _, _, _, _, _] (.agg #[.int .i64 3, .int .i64 0, .int .i64 0, .int .i64 n, .slice A9 0 c9, .int .i64 21, .int .i64 0]) [_, _, _, _, _, _, _] sz83 rfl rfl rfl rfl (by simp) rfl ?_; intro w125 T55; simp only [List.cons_append, List.nil_append] at T55; clear c_s f_s c_q f_q c_x f_x; clear T54; obtain ⟨⟨c_s, f_s⟩, ⟨c_q, f_q⟩, ⟨c_x, f_x⟩, _⟩ := T55.out.cells))
        show wpTail _ _ _ _ _ _ _
        refine tail_nil ?_
        go_wp2_with fail
        refine bodyPost_ret (results_cc rfl _ _ q x 78 83 _ _ (0, 0) (0, 0) _ _ rfl (T55.out.blk _ (.tail _ (.head _))).1 Try.underlying78 rfl (by kernel_rfl) rfl (T55.out.blk _ (.tail _ (.tail _ (.head _)))).1 Try.underlying83 rfl (by kernel_rfl)) rfl ?_
        unfold RunPost
        exact ⟨pc1, fuel1, B1, e1, B2, e2, st1, lo1, kids, false, 3, 0, 0, n, A9, c9, [], 21, 0, rfl, T55.out.fresh, T55.out.rowb (fun _ h => h.elim) (Nat.le_refl _) (.tail _ (.head _)), T55.out.rowb (fun _ h => h.elim) (Nat.le_refl _) (.tail _ (.tail _ (.head _))), T55.out.rowb (fun _ h => h.elim) (Nat.le_refl _) (.head _), .inl rfl⟩
    have b4 : (fuel1 == jfuel) = false := by simpa using p
    have P := Aside0.mk p
    clear p
    go_wp2_with (first
        | ((with_reducible refine gate_store (t := 3) (p := 54) rfl ?_); refine tr_st [] T51 2 rfl 3 rfl rfl #[_, _, _, _, _, _, _] (.int .i64 (fuel1 + 1)) [_] sz3 rfl rfl rfl rfl (by simp) rfl ?_; intro w122 T52; simp only [List.cons_append, List.nil_append] at T52; clear c_s f_s c_q f_q c_x f_x; clear T51; obtain ⟨⟨c_s, f_s⟩, ⟨c_q, f_q⟩, ⟨c_x, f_x⟩, _⟩ := T52.out.cells))
    refine (step_any w _ kb fs D main jfuel tasks jargs HK.out T52.out.fresh HG.out s func pc1 (fuel1 + 1) kids false st1 lo1 (T52.out.stm (fun _ h => h.elim) (Nat.le_refl _) rfl rfl (.head _) (.head _) (.tail _ (.head _)) ((List.pairwise_cons.1 T52.out.ap).1 _ (.head _))) deep hf1 hf2 hk.out.2.2.2.2 hk1 hk2).mono ?_
    rintro e_ w123 ⟨kind, ef, ek, AE, cE, ar, er, ev, b, pc2, st2, lo2, kids2, wt2, rfl, rE, F, SM, SR⟩
    obtain ⟨C1, d1, C2, d2, TF⟩ := T52.out.frs F SM
    have RE := Aside0.mk rE
    have SR' := Aside0.mk SR
    have T53 := Aside0.mk TF
    clear c_s f_s c_q f_q c_x f_x T52 rE F SM SR TF
    unfold EvV
    cases b with
    | false =>
      obtain ⟨gd2, rfl, rfl⟩ : Gd fs D func pc2 st2 lo2 ∧ kids2 = kids ∧ wt2 = false := by
        rcases SR'.out with ⟨_, h1, h2, h3⟩ | ⟨h, _⟩ | ⟨h, _⟩ | ⟨h, _⟩
        · exact ⟨h1, h2, h3⟩
        all_goals cases h
      have GD2 := Aside0.mk gd2
      clear gd2 SR'
      obtain ⟨⟨c_s, f_s⟩, ⟨c_q, f_q⟩, ⟨c_x, f_x⟩, _⟩ := T53.out.cells
      go_wp2_with (first
          | ((with_reducible refine gate_dst (N := 12) rfl ?_); refine tr_new 12 rfl rfl T53 #[.int .i64 0, .int .i64 0, .int .i64 0, .int .i64 0, .slice none 0 0, .int .i64 0, .int .i64 0] 83 (by decide) ?h12_4 ?_; (case h12_4 => first | (go_simp; done) | (go_simp; rfl)); intro y w124 T54; clear c_s f_s c_q f_q c_x f_x; clear T53; obtain ⟨⟨c_y, f_y⟩, ⟨c_s, f_s⟩, ⟨c_q, f_q⟩, ⟨c_x, f_x⟩, _⟩ := T54.out.cells)
          | ((with_reducible refine gate_store (t := 83) (p := 12) rfl ?_); refine tr_st [] T54 0 rfl 83 rfl rfl #[_, _, _, _, _, _, _] (.agg #[.int .i64 kind, .int .i64 ef, .int .i64 ek, .int .i64 0, .slice AE (List.length ar) cE, .int .i64 er, .int .i64 ev]) [_, _, _, _, _, _, _] sz83 rfl rfl rfl rfl (by simp) rfl ?_; intro w125 T55; simp only [List.cons_append, List.nil_append] at T55; clear c_y f_y c_s f_s c_q f_q c_x f_x; clear T54; obtain ⟨⟨c_y, f_y⟩, ⟨c_s, f_s⟩, ⟨c_q, f_q⟩, ⟨c_x, f_x⟩, _⟩ := T55.out.cells))
      go_roundg (gk - 1)
      case measure => have := hk.out; omega
      case rel => exact ⟨n + 1, pc2, fuel1 + 1, C1, d1, C2, d2, st2, lo2, rfl, ⟨by omega, by have := hk.out; omega, by have := hk.out; omega, by have := hk.out; have := P.out; omega, GD2.out⟩, ⟨T55.out.dblk⟩⟩
    | true =>
      have T54 := Aside0.mk T53.out.anew
      obtain ⟨⟨c_s, f_s⟩, ⟨c_q, f_q⟩, ⟨c_x, f_x⟩, _⟩ := T54.out.cells
      go_upto_region 16 with (first | ((with_reducible refine gate_dst (N := 12) rfl ?_); refine tr_new 12 rfl rfl T54 #[.int .i64 0, .int .i64 0, .int .i64 0, .int .i64 0, .slice none 0 0, .int .i64 0, .int .i64 0] 83 (by decide) ?h12_4 ?_; (case h12_4 => first | (go_simp; done) | (go_simp; rfl)); intro y w124 T55; clear c_s f_s c_q f_q c_x f_x; clear T54; obtain ⟨⟨c_y, f_y⟩, ⟨c_s, f_s⟩, ⟨c_q, f_q⟩, ⟨c_x, f_x⟩, _⟩ := T55.out.cells) | ((with_reducible refine gate_store (t := 83) (p := 12) rfl ?_); refine tr_st [] T55 0 rfl 83 rfl rfl #[_, _, _, _, _, _, _] (.agg #[.int .i64 kind, .int .i64 ef, .int .i64 ek, .int .i64 0, .slice AE (List.length ar) cE, .int .i64 er, .int .i64 ev]) [_, _, _, _, _, _, _] sz83 rfl rfl rfl rfl (by simp) rfl ?_; intro w125 T56; simp only [List.cons_append, List.nil_append] at T56; clear c_y f_y c_s f_s c_q f_q c_x f_x; clear T55; obtain ⟨⟨c_y, f_y⟩, ⟨c_s, f_s⟩, ⟨c_q, f_q⟩, ⟨c_x, f_x⟩, _⟩ := T56.out.cells) | ((with_reducible refine gate_store (t := 3) (p := 64) rfl ?_); refine tr_st [] T56 3 rfl 3 rfl rfl #[_, _, _, _, _, _, _] (.int .i64 (n + 1)) [_] sz3 rfl rfl rfl rfl (by simp) rfl ?_; intro w126 T57; simp only [List.cons_append, List.nil_append] at T57; clear c_y f_y c_s f_s c_q f_q c_x f_x; clear T56; obtain ⟨⟨c_y, f_y⟩, ⟨c_s, f_s⟩, ⟨c_q, f_q⟩, ⟨c_x, f_x⟩, _⟩ := T57.out.cells))
      refine wp_region_tp [] [0, 1, 2, 3] (by kernel_rfl) (by kernel_rfl) rfl rfl (fun c a d v w h => ?hQt) ?_
      case hQt => cases d <;> exact h
      simp only [pick]
      refine wpQuiet_nil ?_
      clear c_y f_y c_s f_s c_q f_q c_x f_x
      have T58 := Aside0.mk (T57.out.drew)
      clear T57
      generalize w126.drew = w127 at T58 ⊢
      obtain ⟨⟨c_y, f_y⟩, ⟨c_s, f_s⟩, ⟨c_q, f_q⟩, ⟨c_x, f_x⟩, _⟩ := T58.out.cells
      iterate 4
        all_goals show wpTail _ _ _ _ _ _ _
        all_goals first | refine tail_one 0 (by decide +kernel) rfl rfl ?_ | refine tail_one 1 (by decide +kernel) rfl rfl ?_ | refine tail_one 2 (by decide +kernel) rfl rfl ?_ | refine tail_one 3 (by decide +kernel) rfl rfl ?_ | refine tail_two 0 1 (by decide +kernel) rfl rfl rfl rfl ?_ ?_ | refine tail_two 1 2 (by decide +kernel) rfl rfl rfl rfl ?_ ?_
        all_goals go_wp2_with (first | ((with_reducible refine gate_store (t := 78) (p := 8) rfl ?_); refine tr_st [_, _] T58 0 rfl 78 rfl rfl #[_, _, _, _, _, _, _] (.agg #[.int .i64 func, .int .i64 pc2, .int .i64 (fuel1 + 1), .slice C1 (List.length st2) d1, .slice C2 (List.length lo2) d2, .int .i64 kids2, .bool wt2]) [_, _, _, _, _, _, _] sz78 rfl rfl rfl rfl (by simp) rfl ?_; intro w128 T59; simp only [List.cons_append, List.nil_append] at T59; clear c_y f_y c_s f_s c_q f_q c_x f_x; clear T58; obtain ⟨⟨c_y, f_y⟩, ⟨c_s, f_s⟩, ⟨c_q, f_q⟩, ⟨c_x, f_x⟩, _⟩ := T59.out.cells) | ((with_reducible refine gate_store (t := 83) (p := 9) rfl ?_); refine tr_st [_, _, _] T59 0 rfl 83 rfl rfl #[_, _, _, _, _, _, _] (.agg #[.int .i64 kind, .int .i64 ef, .int .i64 ek, .int .i64 (n + 1), .slice AE (List.length ar) cE, .int .i64 er, .int .i64 ev]) [_, _, _, _, _, _, _] sz83 rfl rfl rfl rfl (by simp) rfl ?_; intro w129 T60; simp only [List.cons_append, List.nil_append] at T60; clear c_y f_y c_s f_s c_q f_q c_x f_x; clear T59; obtain ⟨⟨c_y, f_y⟩, ⟨c_s, f_s⟩, ⟨c_q, f_q⟩, ⟨c_x, f_x⟩, _⟩ := T60.out.cells))
      all_goals show wpTail _ _ _ _ _ _ _
      all_goals refine tail_nil ?_
      all_goals go_wp2_with fail
      all_goals
        refine bodyPost_ret (results_cc rfl _ _ q x 78 83 _ _ (0, 0) (0, 0) _ _ rfl (T60.out.blk _ (.tail _ (.tail _ (.head _)))).1 Try.underlying78 rfl (by kernel_rfl) rfl (T60.out.blk _ (.tail _ (.tail _ (.tail _ (.head _))))).1 Try.underlying83 rfl (by kernel_rfl)) rfl ?_
        unfold RunPost
        refine ⟨pc2, fuel1 + 1, C1, d1, C2, d2, st2, lo2, kids2, wt2, kind, ef, ek, n + 1, AE, cE, ar, er, ev, rfl, T53.out.anew_below T60.out, T53.out.anew_row T60.out (T53.out.rowb (fun _ h => h.elim) (Nat.le_refl _) (.head _)), T53.out.anew_row T60.out (T53.out.rowb (fun _ h => h.elim) (Nat.le_refl _) (.tail _ (.head _))), T53.out.anew_row T60.out RE.out, ?_⟩
        have h1 := hk.out
        have h2 := P.out
        rcases SR'.out with ⟨h, _⟩ | ⟨_, a1, a2, a3, a4, a5, a6, a7, a8, a9, a10⟩ | ⟨_, a1, a2, a3, a4, a5, rfl, rfl, rfl, a9, a10⟩ | ⟨_, h⟩
        · cases h
        · exact .inr (.inl ⟨a1, by omega, by omega, a2, a3, a4, a5, a6, a7, a8, a9, a10⟩)
        · exact .inr (.inr ⟨a1, by omega, by omega, a2, a3, a4, a5, h1.2.2.2.2, a9, a10⟩)
        · exact .inl h
end Go.Proofs.Ytakdckaplmoklaa.Ev
end
