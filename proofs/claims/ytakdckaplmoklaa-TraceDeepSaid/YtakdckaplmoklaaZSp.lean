/- A part of the proof of TraceDeepSaid (Sp); laid together by merge2.py. -/
import Derived.Test.YtakdckaplmoklaaZT
import Derived.Outline
import Derived.BigQuiet
section
namespace Go.Proofs.Ytakdckaplmoklaa.Ev
open Go.Proofs.YtakdckaplmoklaaHt Go.Sort
open Go.RowKit Go.Proofs.YtakdckaplmoklaaW.PrintWords Go.Proofs.YtakdckaplmoklaaW.PrintLast Go.Proofs.YtakdckaplmoklaaW.PrintMore Go.Proofs.Ytakdckaplmoklaa.PTraceDeep
set_option linter.unusedVariables false
set_option linter.unusedSimpArgs false
set_option maxHeartbeats 2000000 in
set_option maxRecDepth 100000 in
theorem spawn_any (w0 w : World) (kb : Nat) (fs : List S50) (D : List (List Int)) (main jfuel tasks : Int) (jargs : List Int) (hk : Kn w0 kb fs D main jfuel tasks jargs) (hl : Below w0.heap.size w0 w)
    (g : Nat) (func pc fuel kids : Int) (wt : Bool) (st lo : List Int) (hs : StM w w0.heap.size g func pc fuel st lo kids wt) (f deep : Int) (hf1 : 0 ≤ f) (hf2 : f < fs.length) (ha1 : 0 ≤ (rd_T50 fs f).f1) (ha2 : (rd_T50 fs f).f1 ≤ st.length) (hst : st.length ≤ 1000) (hk1 : 0 ≤ kids) (hk2 : kids ≤ 16) (hp1 : 0 ≤ pc) (hp2 : pc ≤ 1000) :
    Calls Try.prog 58 #[.pointer (some ⟨kb, 0, none⟩), .pointer (some ⟨g, 0, none⟩), .int .i64 f, .int .i64 deep] w fun e w' =>
      ∃ kind ef ek AE cE ar er ev, e = .returned (.tuple #[EvV kind ef ek 0 AE (List.length ar) cE er ev, .bool true]) ∧ Row w' w0.heap.size (.slice AE ar.length cE) ar ∧ FrS w0.heap.size g w w' ∧
        ((kind = 3 ∧ StM w' w0.heap.size g func pc fuel st lo kids wt) ∨
         (kind = 1 ∧ deep < 12 ∧ kids < 16 ∧ ef = f ∧ ek = kids ∧ (ar.length : Int) = (rd_T50 fs f).f1 ∧ ∃ st' : List Int, (st'.length : Int) = st.length - (rd_T50 fs f).f1 + 1 ∧ StM w' w0.heap.size g func (pc + 1) fuel st' lo (kids + 1) wt)) := by
  have HK := Aside0.mk hk
  have HL := Aside0.mk hl
  obtain ⟨A1, c1, A2, c2, b_, r1_, r2_, ap_, ge_⟩ := hs
  have Bg := Aside0.mk b_
  have Rs := Aside0.mk r1_
  have Rl := Aside0.mk r2_
  have Psl := Aside0.mk ap_
  have GEg := Aside0.mk ge_
  have SZ := Aside0.mk hl.size
  have SZ0 : Aside0 (w.heap.size ≤ w.heap.size) := ⟨Nat.le_refl _⟩
  have FS := Aside0.mk (FrS.refl w0.heap.size g w)
  clear hk hl b_ r1_ r2_ ap_ ge_
  obtain ⟨c_g, f_g⟩ := blk_cells Bg.out
  go_enter Try.func58, Try.ntmps58
  go_wp2_with (first
    | ((with_reducible refine gate_dst (N := 8) rfl ?_); refine new_law 8 rfl rfl #[.int .i64 0, .int .i64 0, .int .i64 0, .int .i64 0, .slice none 0 0, .int .i64 0, .int .i64 0] 83 ?hr8_1 ?_; (case hr8_1 => first | (go_simp; done) | (go_simp; rfl)); intro e e_ w101 b_ G; have Ng_e : Aside0 (g ≠ e) := ⟨by have := blk_lt Bg.out; omega⟩; have GEe : Aside0 (w0.heap.size ≤ e) := ⟨by rw [e_]; exact SZ.out⟩; have NWe : Aside0 (w.heap.size ≤ e) := ⟨by rw [e_]; exact SZ0.out⟩; clear c_g f_g; have n_SZ := Aside0.mk (Nat.le_trans SZ.out G.size); have n_SZ0 := Aside0.mk (Nat.le_trans SZ0.out G.size); have n_HL := Aside0.mk (below_grown0 HL.out SZ.out G (fun k_ hk_ => by cases hk_)); have n_FS := Aside0.mk (FrS.trans FS.out (FrS.of_none G)); have n_Bg := Aside0.mk (blk_grown Bg.out G (by simp)); have n_Rs := Aside0.mk (row_none Rs.out G); have n_Rl := Aside0.mk (row_none Rl.out G); clear SZ; clear SZ0; clear HL; clear FS; clear Bg; clear Rs; clear Rl; have SZ := n_SZ; clear n_SZ; have SZ0 := n_SZ0; clear n_SZ0; have HL := n_HL; clear n_HL; have FS := n_FS; clear n_FS; have Bg := n_Bg; clear n_Bg; have Rs := n_Rs; clear n_Rs; have Rl := n_Rl; clear n_Rl; have Be := Aside0.mk b_; clear b_ e_ G; obtain ⟨c_g, f_g⟩ := blk_cells Bg.out; obtain ⟨c_e, f_e⟩ := blk_cells Be.out))
  · refine (gleanerref4_ended.calls 0 22 0 _ _ _ _ _ _ _ _ rfl).mono ?_
    rintro e_ w102 ⟨v4_, rfl, r_, b_⟩
    obtain ⟨A9, c9, e9, r9⟩ := row_of_R0 r_
    subst e9
    have R9_ := Aside0.mk (row_low r9 SZ.out)
    clear r_ r9
    have G := grown_of_below b_ none
    clear c_g f_g
    clear c_e f_e
    have n_SZ := Aside0.mk (Nat.le_trans SZ.out G.size)
    have n_SZ0 := Aside0.mk (Nat.le_trans SZ0.out G.size)
    have n_HL := Aside0.mk (below_grown0 HL.out SZ.out G (fun k_ hk_ => by cases hk_))
    have n_FS := Aside0.mk (FrS.trans FS.out (FrS.of_none G))
    have n_Bg := Aside0.mk (blk_grown Bg.out G (by simp))
    have n_Rs := Aside0.mk (row_none Rs.out G)
    have n_Rl := Aside0.mk (row_none Rl.out G)
    have n_Be := Aside0.mk (blk_grown Be.out G (by simp))
    clear SZ
    clear SZ0
    clear HL
    clear FS
    clear Bg
    clear Rs
    clear Rl
    clear Be
    have SZ := n_SZ
    clear n_SZ
    have SZ0 := n_SZ0
    clear n_SZ0
    have HL := n_HL
    clear n_HL
    have FS := n_FS
    clear n_FS
    have Bg := n_Bg
    clear n_Bg
    have Rs := n_Rs
    clear n_Rs
    have Rl := n_Rl
    clear n_Rl
    have Be := n_Be
    clear n_Be
    clear G b_
    have R9 := R9_
    clear R9_
    obtain ⟨c_g, f_g⟩ := blk_cells Bg.out
    obtain ⟨c_e, f_e⟩ := blk_cells Be.out
    go_wp2_with (first
    | ((with_reducible refine gate_store (t := 83) (p := 8) rfl ?_); refine st_law e 0 rfl 83 _ _ rfl rfl _ #[.int .i64 3, .int .i64 0, .int .i64 0, .int .i64 0, .slice A9 ([] : List Int).length c9, .int .i64 22, .int .i64 0] 83 (.agg #[.int .i64 3, .int .i64 0, .int .i64 0, .int .i64 0, .slice A9 ([] : List Int).length c9, .int .i64 22, .int .i64 0]) [.int .i64 3, .int .i64 0, .int .i64 0, .int .i64 0, .slice A9 ([] : List Int).length c9, .int .i64 22, .int .i64 0] rfl rfl rfl sz83 (by simp [Value.oneCell']) Be.out (by simp) rfl ?_; intro w103 b_ G s_; clear s_; clear c_g f_g; clear c_e f_e; have n_SZ := Aside0.mk (Nat.le_trans SZ.out G.size); have n_SZ0 := Aside0.mk (Nat.le_trans SZ0.out G.size); have n_HL := Aside0.mk (below_grown0 HL.out SZ.out G (fun k_ hk_ => by cases hk_; exact GEe.out)); have n_FS := Aside0.mk (FrS.new FS.out G NWe.out); have n_Bg := Aside0.mk (blk_grown Bg.out G (fun e_ => Ng_e.out (Option.some.inj e_))); have n_Rs := Aside0.mk (row_grown Rs.out G (row_blk Rs.out Be.out (by decide))); have n_Rl := Aside0.mk (row_grown Rl.out G (row_blk Rl.out Be.out (by decide))); have n_R9 := Aside0.mk (row_grown R9.out G (row_blk R9.out Be.out (by decide))); clear SZ; clear SZ0; clear HL; clear FS; clear Bg; clear Rs; clear Rl; clear R9; have SZ := n_SZ; clear n_SZ; have SZ0 := n_SZ0; clear n_SZ0; have HL := n_HL; clear n_HL; have FS := n_FS; clear n_FS; have Bg := n_Bg; clear n_Bg; have Rs := n_Rs; clear n_Rs; have Rl := n_Rl; clear n_Rl; have R9 := n_R9; clear n_R9; clear Be; have Be := Aside0.mk b_; clear b_ G; obtain ⟨c_g, f_g⟩ := blk_cells Bg.out; obtain ⟨c_e, f_e⟩ := blk_cells Be.out))
    refine bodyPost_ret (results_ct rfl _ _ e 83 _ (0, 0) _ rfl Be.out Try.underlying83 rfl (by kernel_rfl)) rfl ?_
    exact ⟨3, 0, 0, A9, c9, [], 22, 0, rfl, R9.out, FS.out, .inl ⟨rfl, A1, c1, A2, c2, Bg.out, Rs.out, Rl.out, Psl.out, GEg.out⟩⟩
  · refine (gleanerref4_ended.calls 0 23 0 _ _ _ _ _ _ _ _ rfl).mono ?_
    rintro e_ w102 ⟨v4_, rfl, r_, b_⟩
    obtain ⟨A9, c9, e9, r9⟩ := row_of_R0 r_
    subst e9
    have R9_ := Aside0.mk (row_low r9 SZ.out)
    clear r_ r9
    have G := grown_of_below b_ none
    clear c_g f_g
    clear c_e f_e
    have n_SZ := Aside0.mk (Nat.le_trans SZ.out G.size)
    have n_SZ0 := Aside0.mk (Nat.le_trans SZ0.out G.size)
    have n_HL := Aside0.mk (below_grown0 HL.out SZ.out G (fun k_ hk_ => by cases hk_))
    have n_FS := Aside0.mk (FrS.trans FS.out (FrS.of_none G))
    have n_Bg := Aside0.mk (blk_grown Bg.out G (by simp))
    have n_Rs := Aside0.mk (row_none Rs.out G)
    have n_Rl := Aside0.mk (row_none Rl.out G)
    have n_Be := Aside0.mk (blk_grown Be.out G (by simp))
    clear SZ
    clear SZ0
    clear HL
    clear FS
    clear Bg
    clear Rs
    clear Rl
    clear Be
    have SZ := n_SZ
    clear n_SZ
    have SZ0 := n_SZ0
    clear n_SZ0
    have HL := n_HL
    clear n_HL
    have FS := n_FS
    clear n_FS
    have Bg := n_Bg
    clear n_Bg
    have Rs := n_Rs
    clear n_Rs
    have Rl := n_Rl
    clear n_Rl
    have Be := n_Be
    clear n_Be
    clear G b_
    have R9 := R9_
    clear R9_
    obtain ⟨c_g, f_g⟩ := blk_cells Bg.out
    obtain ⟨c_e, f_e⟩ := blk_cells Be.out
    go_wp2_with (first
    | ((with_reducible refine gate_store (t := 83) (p := 8) rfl ?_); refine st_law e 0 rfl 83 _ _ rfl rfl _ #[.int .i64 3, .int .i64 0, .int .i64 0, .int .i64 0, .slice A9 ([] : List Int).length c9, .int .i64 23, .int .i64 0] 83 (.agg #[.int .i64 3, .int .i64 0, .int .i64 0, .int .i64 0, .slice A9 ([] : List Int).length c9, .int .i64 23, .int .i64 0]) [.int .i64 3, .int .i64 0, .int .i64 0, .int .i64 0, .slice A9 ([] : List Int).length c9, .int .i64 23, .int .i64 0] rfl rfl rfl sz83 (by simp [Value.oneCell']) Be.out (by simp) rfl ?_; intro w103 b_ G s_; clear s_; clear c_g f_g; clear c_e f_e; have n_SZ := Aside0.mk (Nat.le_trans SZ.out G.size); have n_SZ0 := Aside0.mk (Nat.le_trans SZ0.out G.size); have n_HL := Aside0.mk (below_grown0 HL.out SZ.out G (fun k_ hk_ => by cases hk_; exact GEe.out)); have n_FS := Aside0.mk (FrS.new FS.out G NWe.out); have n_Bg := Aside0.mk (blk_grown Bg.out G (fun e_ => Ng_e.out (Option.some.inj e_))); have n_Rs := Aside0.mk (row_grown Rs.out G (row_blk Rs.out Be.out (by decide))); have n_Rl := Aside0.mk (row_grown Rl.out G (row_blk Rl.out Be.out (by decide))); have n_R9 := Aside0.mk (row_grown R9.out G (row_blk R9.out Be.out (by decide))); clear SZ; clear SZ0; clear HL; clear FS; clear Bg; clear Rs; clear Rl; clear R9; have SZ := n_SZ; clear n_SZ; have SZ0 := n_SZ0; clear n_SZ0; have HL := n_HL; clear n_HL; have FS := n_FS; clear n_FS; have Bg := n_Bg; clear n_Bg; have Rs := n_Rs; clear n_Rs; have Rl := n_Rl; clear n_Rl; have R9 := n_R9; clear n_R9; clear Be; have Be := Aside0.mk b_; clear b_ G; obtain ⟨c_g, f_g⟩ := blk_cells Bg.out; obtain ⟨c_e, f_e⟩ := blk_cells Be.out))
    refine bodyPost_ret (results_ct rfl _ _ e 83 _ (0, 0) _ rfl Be.out Try.underlying83 rfl (by kernel_rfl)) rfl ?_
    exact ⟨3, 0, 0, A9, c9, [], 23, 0, rfl, R9.out, FS.out, .inl ⟨rfl, A1, c1, A2, c2, Bg.out, Rs.out, Rl.out, Psl.out, GEg.out⟩⟩
  obtain ⟨AF, cF, AA, cA, AD, cD, k1, k2, k3, k4, k5, k6, k7⟩ := (HK.out.below HL.out).out
  obtain ⟨ad1, A3, c3, ea1, q10, q11, q12, q13, q14, q15⟩ := at_T50 k3 f hf1 hf2
  subst ea1
  obtain ⟨ck, fk⟩ := blk_cells k1
  clear k1 k2 k3 k4 k5 k6 k7 q10 q12 q13 q14 q15
  go_quiet (fail)
  go_wp2_with fail
  clear ck fk q11
  have G := grown_drewN w101 nq none
  generalize w101.drewN nq = w102 at G ⊢
  clear c_g f_g
  clear c_e f_e
  have n_SZ := Aside0.mk (Nat.le_trans SZ.out G.size)
  have n_SZ0 := Aside0.mk (Nat.le_trans SZ0.out G.size)
  have n_HL := Aside0.mk (below_grown0 HL.out SZ.out G (fun k_ hk_ => by cases hk_))
  have n_FS := Aside0.mk (FrS.trans FS.out (FrS.of_none G))
  have n_Bg := Aside0.mk (blk_grown Bg.out G (by simp))
  have n_Rs := Aside0.mk (row_none Rs.out G)
  have n_Rl := Aside0.mk (row_none Rl.out G)
  have n_Be := Aside0.mk (blk_grown Be.out G (by simp))
  clear SZ
  clear SZ0
  clear HL
  clear FS
  clear Bg
  clear Rs
  clear Rl
  clear Be
  have SZ := n_SZ
  clear n_SZ
  have SZ0 := n_SZ0
  clear n_SZ0
  have HL := n_HL
  clear n_HL
  have FS := n_FS
  clear n_FS
  have Bg := n_Bg
  clear n_Bg
  have Rs := n_Rs
  clear n_Rs
  have Rl := n_Rl
  clear n_Rl
  have Be := n_Be
  clear n_Be
  clear G
  obtain ⟨c_g, f_g⟩ := blk_cells Bg.out
  obtain ⟨c_e, f_e⟩ := blk_cells Be.out
  have hn0 : 0 ≤ (st.length : Int) - (rd_T50 fs f).f1 := by omega
  have hn1 : (st.length : Int) - (rd_T50 fs f).f1 ≤ st.length := by omega
  obtain ⟨A5, c5, bk, ebk, hbl, hcut, hA5⟩ := cut3 A1 c1 st _ hn0 hn1 (row_cap Rs.out)
  clear ebk
  have gB := blk_gr Bg.out
  refine wp_region_tp [0, 1, 2, 3, 4, 5, 6, 7, 8, 9, 10] [11, 12, 13, 14] (by kernel_rfl) (by kernel_rfl) rfl rfl (fun c a d v w h => ?hQ) ?_
  case hQ => cases d <;> exact h
  simp only [pick, List.getElem?_cons_zero, List.getElem?_cons_succ, List.nil_append, List.cons_append]
  repeat (quiet_step (fail))
  refine wpQuiet_nil ?_
  clear gB
  have G := grown_drew w102 none
  generalize w102.drew = w103 at G ⊢
  clear c_g f_g
  clear c_e f_e
  have n_SZ := Aside0.mk (Nat.le_trans SZ.out G.size)
  have n_SZ0 := Aside0.mk (Nat.le_trans SZ0.out G.size)
  have n_HL := Aside0.mk (below_grown0 HL.out SZ.out G (fun k_ hk_ => by cases hk_))
  have n_FS := Aside0.mk (FrS.trans FS.out (FrS.of_none G))
  have n_Bg := Aside0.mk (blk_grown Bg.out G (by simp))
  have n_Rs := Aside0.mk (row_none Rs.out G)
  have n_Rl := Aside0.mk (row_none Rl.out G)
  have n_Be := Aside0.mk (blk_grown Be.out G (by simp))
  clear SZ
  clear SZ0
  clear HL
  clear FS
  clear Bg
  clear Rs
  clear Rl
  clear Be
  have SZ := n_SZ
  clear n_SZ
  have SZ0 := n_SZ0
  clear n_SZ0
  have HL := n_HL
  clear n_HL
  have FS := n_FS
  clear n_FS
  have Bg := n_Bg
  clear n_Bg
  have Rs := n_Rs
  clear n_Rs
  have Rl := n_Rl
  clear n_Rl
  have Be := n_Be
  clear n_Be
  clear G
  obtain ⟨c_g, f_g⟩ := blk_cells Bg.out
  obtain ⟨c_e, f_e⟩ := blk_cells Be.out
  refine tail_two 11 13 (by kernel_rfl) rfl rfl rfl rfl ?_ ?_
  focus
    go_wp2_with (first | ((with_reducible refine gate_dst (N := 47) rfl ?_); refine app_law w0.heap.size 47 rfl rfl _ _ rfl (.slice none 0 0) ([]) (bk) A5 bk.length c5 rfl rfl (row_nil _ _) (hA5 _ (row_reads Rs.out)) SZ.out (by simp; omega) ?_; intro A_a c_a z_a w104 Ez_a r_ G l_; replace G : World.grownBy _ w104 none := G; have Psa_ := Aside0.mk (Ap.new Rs.out (by rcases l_ with l_ | l_; exact .inl l_; exact .inr l_)); have Pla_ := Aside0.mk (Ap.new Rl.out (by rcases l_ with l_ | l_; exact .inl l_; exact .inr l_)); clear c_g f_g; clear c_e f_e; have n_SZ := Aside0.mk (Nat.le_trans SZ.out G.size); have n_SZ0 := Aside0.mk (Nat.le_trans SZ0.out G.size); have n_HL := Aside0.mk (below_grown0 HL.out SZ.out G (fun k_ hk_ => by cases hk_)); have n_FS := Aside0.mk (FrS.trans FS.out (FrS.of_none G)); have n_Bg := Aside0.mk (blk_grown Bg.out G (by simp)); have n_Rs := Aside0.mk (row_none Rs.out G); have n_Rl := Aside0.mk (row_none Rl.out G); have n_Be := Aside0.mk (blk_grown Be.out G (by simp)); clear SZ; clear SZ0; clear HL; clear FS; clear Bg; clear Rs; clear Rl; clear Be; have SZ := n_SZ; clear n_SZ; have SZ0 := n_SZ0; clear n_SZ0; have HL := n_HL; clear n_HL; have FS := n_FS; clear n_FS; have Bg := n_Bg; clear n_Bg; have Rs := n_Rs; clear n_Rs; have Rl := n_Rl; clear n_Rl; have Be := n_Be; clear n_Be; have Ra := Aside0.mk r_; clear r_ G l_; have Psa := Psa_; clear Psa_; have Pla := Pla_; clear Pla_; obtain ⟨c_g, f_g⟩ := blk_cells Bg.out; obtain ⟨c_e, f_e⟩ := blk_cells Be.out))
    show wpTail _ _ _ _ _ _ _
    refine tail_two 12 13 (by kernel_rfl) rfl rfl rfl rfl ?_ ?_
    focus
      go_wp2_with fail
      show wpTail _ _ _ _ _ _ _
      refine tail_one 13 (by kernel_rfl) rfl rfl ?_
      go_wp2_with (first | ((with_reducible refine gate_dst (N := 11) rfl ?_); refine new_law 11 rfl rfl #[.int .i64 0, .int .i64 0, .int .i64 0, .int .i64 0, .slice none 0 0, .int .i64 0, .int .i64 0] 83 ?hr11_2 ?_; (case hr11_2 => first | (go_simp; done) | (go_simp; rfl)); intro h e_ w105 b_ G; have Ng_h : Aside0 (g ≠ h) := ⟨by have := blk_lt Bg.out; omega⟩; have Ne_h : Aside0 (e ≠ h) := ⟨by have := blk_lt Be.out; omega⟩; have GEh : Aside0 (w0.heap.size ≤ h) := ⟨by rw [e_]; exact SZ.out⟩; have NWh : Aside0 (w.heap.size ≤ h) := ⟨by rw [e_]; exact SZ0.out⟩; clear c_g f_g; clear c_e f_e; have n_SZ := Aside0.mk (Nat.le_trans SZ.out G.size); have n_SZ0 := Aside0.mk (Nat.le_trans SZ0.out G.size); have n_HL := Aside0.mk (below_grown0 HL.out SZ.out G (fun k_ hk_ => by cases hk_)); have n_FS := Aside0.mk (FrS.trans FS.out (FrS.of_none G)); have n_Bg := Aside0.mk (blk_grown Bg.out G (by simp)); have n_Rs := Aside0.mk (row_none Rs.out G); have n_Rl := Aside0.mk (row_none Rl.out G); have n_Be := Aside0.mk (blk_grown Be.out G (by simp)); have n_Ra := Aside0.mk (row_none Ra.out G); clear SZ; clear SZ0; clear HL; clear FS; clear Bg; clear Rs; clear Rl; clear Be; clear Ra; have SZ := n_SZ; clear n_SZ; have SZ0 := n_SZ0; clear n_SZ0; have HL := n_HL; clear n_HL; have FS := n_FS; clear n_FS; have Bg := n_Bg; clear n_Bg; have Rs := n_Rs; clear n_Rs; have Rl := n_Rl; clear n_Rl; have Be := n_Be; clear n_Be; have Ra := n_Ra; clear n_Ra; have Bh := Aside0.mk b_; clear b_ e_ G; obtain ⟨c_g, f_g⟩ := blk_cells Bg.out; obtain ⟨c_e, f_e⟩ := blk_cells Be.out; obtain ⟨c_h, f_h⟩ := blk_cells Bh.out))
      show wpTail _ _ _ _ _ _ _
      refine tail_one 14 (by kernel_rfl) rfl rfl ?_
      go_wp2_with (first | ((with_reducible refine gate_store (t := 83) (p := 11) rfl ?_); refine st_law h 0 rfl 83 _ _ rfl rfl _ #[.int .i64 1, .int .i64 f, .int .i64 kids, .int .i64 0, .slice A_a z_a.length c_a, .int .i64 0, .int .i64 0] 83 (.agg #[.int .i64 1, .int .i64 f, .int .i64 kids, .int .i64 0, .slice A_a z_a.length c_a, .int .i64 0, .int .i64 0]) [.int .i64 1, .int .i64 f, .int .i64 kids, .int .i64 0, .slice A_a z_a.length c_a, .int .i64 0, .int .i64 0] rfl rfl rfl sz83 (by simp [Value.oneCell']) Bh.out (by simp) rfl ?_; intro w120 b_ G s_; clear s_; clear c_g f_g; clear c_e f_e; clear c_h f_h; have n_SZ := Aside0.mk (Nat.le_trans SZ.out G.size); have n_SZ0 := Aside0.mk (Nat.le_trans SZ0.out G.size); have n_HL := Aside0.mk (below_grown0 HL.out SZ.out G (fun k_ hk_ => by cases hk_; exact GEh.out)); have n_FS := Aside0.mk (FrS.new FS.out G NWh.out); have n_Bg := Aside0.mk (blk_grown Bg.out G (fun e_ => Ng_h.out (Option.some.inj e_))); have n_Rs := Aside0.mk (row_grown Rs.out G (row_blk Rs.out Bh.out (by decide))); have n_Rl := Aside0.mk (row_grown Rl.out G (row_blk Rl.out Bh.out (by decide))); have n_Be := Aside0.mk (blk_grown Be.out G (fun e_ => Ne_h.out (Option.some.inj e_))); have n_Ra := Aside0.mk (row_grown Ra.out G (row_blk Ra.out Bh.out (by decide))); clear SZ; clear SZ0; clear HL; clear FS; clear Bg; clear Rs; clear Rl; clear Be; clear Ra; have SZ := n_SZ; clear n_SZ; have SZ0 := n_SZ0; clear n_SZ0; have HL := n_HL; clear n_HL; have FS := n_FS; clear n_FS; have Bg := n_Bg; clear n_Bg; have Rs := n_Rs; clear n_Rs; have Rl := n_Rl; clear n_Rl; have Be := n_Be; clear n_Be; have Ra := n_Ra; clear n_Ra; clear Bh; have Bh := Aside0.mk b_; clear b_ G; obtain ⟨c_g, f_g⟩ := blk_cells Bg.out; obtain ⟨c_e, f_e⟩ := blk_cells Be.out; obtain ⟨c_h, f_h⟩ := blk_cells Bh.out))
      show wpTail _ _ _ _ _ _ _
      refine tail_nil ?_
    rotate_left 1
    focus
      go_wp2_with (first | ((with_reducible refine gate_dst (N := 11) rfl ?_); refine new_law 11 rfl rfl #[.int .i64 0, .int .i64 0, .int .i64 0, .int .i64 0, .slice none 0 0, .int .i64 0, .int .i64 0] 83 ?hr11_2 ?_; (case hr11_2 => first | (go_simp; done) | (go_simp; rfl)); intro h e_ w105 b_ G; have Ng_h : Aside0 (g ≠ h) := ⟨by have := blk_lt Bg.out; omega⟩; have Ne_h : Aside0 (e ≠ h) := ⟨by have := blk_lt Be.out; omega⟩; have GEh : Aside0 (w0.heap.size ≤ h) := ⟨by rw [e_]; exact SZ.out⟩; have NWh : Aside0 (w.heap.size ≤ h) := ⟨by rw [e_]; exact SZ0.out⟩; clear c_g f_g; clear c_e f_e; have n_SZ := Aside0.mk (Nat.le_trans SZ.out G.size); have n_SZ0 := Aside0.mk (Nat.le_trans SZ0.out G.size); have n_HL := Aside0.mk (below_grown0 HL.out SZ.out G (fun k_ hk_ => by cases hk_)); have n_FS := Aside0.mk (FrS.trans FS.out (FrS.of_none G)); have n_Bg := Aside0.mk (blk_grown Bg.out G (by simp)); have n_Rs := Aside0.mk (row_none Rs.out G); have n_Rl := Aside0.mk (row_none Rl.out G); have n_Be := Aside0.mk (blk_grown Be.out G (by simp)); have n_Ra := Aside0.mk (row_none Ra.out G); clear SZ; clear SZ0; clear HL; clear FS; clear Bg; clear Rs; clear Rl; clear Be; clear Ra; have SZ := n_SZ; clear n_SZ; have SZ0 := n_SZ0; clear n_SZ0; have HL := n_HL; clear n_HL; have FS := n_FS; clear n_FS; have Bg := n_Bg; clear n_Bg; have Rs := n_Rs; clear n_Rs; have Rl := n_Rl; clear n_Rl; have Be := n_Be; clear n_Be; have Ra := n_Ra; clear n_Ra; have Bh := Aside0.mk b_; clear b_ e_ G; obtain ⟨c_g, f_g⟩ := blk_cells Bg.out; obtain ⟨c_e, f_e⟩ := blk_cells Be.out; obtain ⟨c_h, f_h⟩ := blk_cells Bh.out))
      show wpTail _ _ _ _ _ _ _
      refine tail_one 12 (by kernel_rfl) rfl rfl ?_
      go_wp2_with fail
      show wpTail _ _ _ _ _ _ _
      refine tail_one 14 (by kernel_rfl) rfl rfl ?_
      go_wp2_with (first | ((with_reducible refine gate_store (t := 83) (p := 11) rfl ?_); refine st_law h 0 rfl 83 _ _ rfl rfl _ #[.int .i64 1, .int .i64 f, .int .i64 kids, .int .i64 0, .slice A_a z_a.length c_a, .int .i64 0, .int .i64 0] 83 (.agg #[.int .i64 1, .int .i64 f, .int .i64 kids, .int .i64 0, .slice A_a z_a.length c_a, .int .i64 0, .int .i64 0]) [.int .i64 1, .int .i64 f, .int .i64 kids, .int .i64 0, .slice A_a z_a.length c_a, .int .i64 0, .int .i64 0] rfl rfl rfl sz83 (by simp [Value.oneCell']) Bh.out (by simp) rfl ?_; intro w120 b_ G s_; clear s_; clear c_g f_g; clear c_e f_e; clear c_h f_h; have n_SZ := Aside0.mk (Nat.le_trans SZ.out G.size); have n_SZ0 := Aside0.mk (Nat.le_trans SZ0.out G.size); have n_HL := Aside0.mk (below_grown0 HL.out SZ.out G (fun k_ hk_ => by cases hk_; exact GEh.out)); have n_FS := Aside0.mk (FrS.new FS.out G NWh.out); have n_Bg := Aside0.mk (blk_grown Bg.out G (fun e_ => Ng_h.out (Option.some.inj e_))); have n_Rs := Aside0.mk (row_grown Rs.out G (row_blk Rs.out Bh.out (by decide))); have n_Rl := Aside0.mk (row_grown Rl.out G (row_blk Rl.out Bh.out (by decide))); have n_Be := Aside0.mk (blk_grown Be.out G (fun e_ => Ne_h.out (Option.some.inj e_))); have n_Ra := Aside0.mk (row_grown Ra.out G (row_blk Ra.out Bh.out (by decide))); clear SZ; clear SZ0; clear HL; clear FS; clear Bg; clear Rs; clear Rl; clear Be; clear Ra; have SZ := n_SZ; clear n_SZ; have SZ0 := n_SZ0; clear n_SZ0; have HL := n_HL; clear n_HL; have FS := n_FS; clear n_FS; have Bg := n_Bg; clear n_Bg; have Rs := n_Rs; clear n_Rs; have Rl := n_Rl; clear n_Rl; have Be := n_Be; clear n_Be; have Ra := n_Ra; clear n_Ra; clear Bh; have Bh := Aside0.mk b_; clear b_ G; obtain ⟨c_g, f_g⟩ := blk_cells Bg.out; obtain ⟨c_e, f_e⟩ := blk_cells Be.out; obtain ⟨c_h, f_h⟩ := blk_cells Bh.out))
      show wpTail _ _ _ _ _ _ _
      refine tail_nil ?_
  rotate_left 2
  focus
    go_wp2_with (first | ((with_reducible refine gate_dst (N := 11) rfl ?_); refine new_law 11 rfl rfl #[.int .i64 0, .int .i64 0, .int .i64 0, .int .i64 0, .slice none 0 0, .int .i64 0, .int .i64 0] 83 ?hr11_2 ?_; (case hr11_2 => first | (go_simp; done) | (go_simp; rfl)); intro h e_ w104 b_ G; have Ng_h : Aside0 (g ≠ h) := ⟨by have := blk_lt Bg.out; omega⟩; have Ne_h : Aside0 (e ≠ h) := ⟨by have := blk_lt Be.out; omega⟩; have GEh : Aside0 (w0.heap.size ≤ h) := ⟨by rw [e_]; exact SZ.out⟩; have NWh : Aside0 (w.heap.size ≤ h) := ⟨by rw [e_]; exact SZ0.out⟩; clear c_g f_g; clear c_e f_e; have n_SZ := Aside0.mk (Nat.le_trans SZ.out G.size); have n_SZ0 := Aside0.mk (Nat.le_trans SZ0.out G.size); have n_HL := Aside0.mk (below_grown0 HL.out SZ.out G (fun k_ hk_ => by cases hk_)); have n_FS := Aside0.mk (FrS.trans FS.out (FrS.of_none G)); have n_Bg := Aside0.mk (blk_grown Bg.out G (by simp)); have n_Rs := Aside0.mk (row_none Rs.out G); have n_Rl := Aside0.mk (row_none Rl.out G); have n_Be := Aside0.mk (blk_grown Be.out G (by simp)); clear SZ; clear SZ0; clear HL; clear FS; clear Bg; clear Rs; clear Rl; clear Be; have SZ := n_SZ; clear n_SZ; have SZ0 := n_SZ0; clear n_SZ0; have HL := n_HL; clear n_HL; have FS := n_FS; clear n_FS; have Bg := n_Bg; clear n_Bg; have Rs := n_Rs; clear n_Rs; have Rl := n_Rl; clear n_Rl; have Be := n_Be; clear n_Be; have Bh := Aside0.mk b_; clear b_ e_ G; obtain ⟨c_g, f_g⟩ := blk_cells Bg.out; obtain ⟨c_e, f_e⟩ := blk_cells Be.out; obtain ⟨c_h, f_h⟩ := blk_cells Bh.out))
    show wpTail _ _ _ _ _ _ _
    refine tail_one 11 (by kernel_rfl) rfl rfl ?_
    go_wp2_with (first | ((with_reducible refine gate_dst (N := 47) rfl ?_); refine app_law w0.heap.size 47 rfl rfl _ _ rfl (.slice none 0 0) ([]) (bk) A5 bk.length c5 rfl rfl (row_nil _ _) (hA5 _ (row_reads Rs.out)) SZ.out (by simp; omega) ?_; intro A_a c_a z_a w105 Ez_a r_ G l_; replace G : World.grownBy _ w105 none := G; have Psa_ := Aside0.mk (Ap.new Rs.out (by rcases l_ with l_ | l_; exact .inl l_; exact .inr l_)); have Pla_ := Aside0.mk (Ap.new Rl.out (by rcases l_ with l_ | l_; exact .inl l_; exact .inr l_)); clear c_g f_g; clear c_e f_e; clear c_h f_h; have n_SZ := Aside0.mk (Nat.le_trans SZ.out G.size); have n_SZ0 := Aside0.mk (Nat.le_trans SZ0.out G.size); have n_HL := Aside0.mk (below_grown0 HL.out SZ.out G (fun k_ hk_ => by cases hk_)); have n_FS := Aside0.mk (FrS.trans FS.out (FrS.of_none G)); have n_Bg := Aside0.mk (blk_grown Bg.out G (by simp)); have n_Rs := Aside0.mk (row_none Rs.out G); have n_Rl := Aside0.mk (row_none Rl.out G); have n_Be := Aside0.mk (blk_grown Be.out G (by simp)); have n_Bh := Aside0.mk (blk_grown Bh.out G (by simp)); clear SZ; clear SZ0; clear HL; clear FS; clear Bg; clear Rs; clear Rl; clear Be; clear Bh; have SZ := n_SZ; clear n_SZ; have SZ0 := n_SZ0; clear n_SZ0; have HL := n_HL; clear n_HL; have FS := n_FS; clear n_FS; have Bg := n_Bg; clear n_Bg; have Rs := n_Rs; clear n_Rs; have Rl := n_Rl; clear n_Rl; have Be := n_Be; clear n_Be; have Bh := n_Bh; clear n_Bh; have Ra := Aside0.mk r_; clear r_ G l_; have Psa := Psa_; clear Psa_; have Pla := Pla_; clear Pla_; obtain ⟨c_g, f_g⟩ := blk_cells Bg.out; obtain ⟨c_e, f_e⟩ := blk_cells Be.out; obtain ⟨c_h, f_h⟩ := blk_cells Bh.out))
    show wpTail _ _ _ _ _ _ _
    refine tail_one 12 (by kernel_rfl) rfl rfl ?_
    go_wp2_with fail
    show wpTail _ _ _ _ _ _ _
    refine tail_one 14 (by kernel_rfl) rfl rfl ?_
    go_wp2_with (first | ((with_reducible refine gate_store (t := 83) (p := 11) rfl ?_); refine st_law h 0 rfl 83 _ _ rfl rfl _ #[.int .i64 1, .int .i64 f, .int .i64 kids, .int .i64 0, .slice A_a z_a.length c_a, .int .i64 0, .int .i64 0] 83 (.agg #[.int .i64 1, .int .i64 f, .int .i64 kids, .int .i64 0, .slice A_a z_a.length c_a, .int .i64 0, .int .i64 0]) [.int .i64 1, .int .i64 f, .int .i64 kids, .int .i64 0, .slice A_a z_a.length c_a, .int .i64 0, .int .i64 0] rfl rfl rfl sz83 (by simp [Value.oneCell']) Bh.out (by simp) rfl ?_; intro w120 b_ G s_; clear s_; clear c_g f_g; clear c_e f_e; clear c_h f_h; have n_SZ := Aside0.mk (Nat.le_trans SZ.out G.size); have n_SZ0 := Aside0.mk (Nat.le_trans SZ0.out G.size); have n_HL := Aside0.mk (below_grown0 HL.out SZ.out G (fun k_ hk_ => by cases hk_; exact GEh.out)); have n_FS := Aside0.mk (FrS.new FS.out G NWh.out); have n_Bg := Aside0.mk (blk_grown Bg.out G (fun e_ => Ng_h.out (Option.some.inj e_))); have n_Rs := Aside0.mk (row_grown Rs.out G (row_blk Rs.out Bh.out (by decide))); have n_Rl := Aside0.mk (row_grown Rl.out G (row_blk Rl.out Bh.out (by decide))); have n_Be := Aside0.mk (blk_grown Be.out G (fun e_ => Ne_h.out (Option.some.inj e_))); have n_Ra := Aside0.mk (row_grown Ra.out G (row_blk Ra.out Bh.out (by decide))); clear SZ; clear SZ0; clear HL; clear FS; clear Bg; clear Rs; clear Rl; clear Be; clear Ra; have SZ := n_SZ; clear n_SZ; have SZ0 := n_SZ0; clear n_SZ0; have HL := n_HL; clear n_HL; have FS := n_FS; clear n_FS; have Bg := n_Bg; clear n_Bg; have Rs := n_Rs; clear n_Rs; have Rl := n_Rl; clear n_Rl; have Be := n_Be; clear n_Be; have Ra := n_Ra; clear n_Ra; clear Bh; have Bh := Aside0.mk b_; clear b_ G; obtain ⟨c_g, f_g⟩ := blk_cells Bg.out; obtain ⟨c_e, f_e⟩ := blk_cells Be.out; obtain ⟨c_h, f_h⟩ := blk_cells Bh.out))
    show wpTail _ _ _ _ _ _ _
    refine tail_nil ?_
  all_goals
    go_wp2_with fail
    obtain ⟨tk, etk, htl, htake, htr⟩ := take3 A1 c1 st _ hn0 hn1 (row_cap Rs.out)
    have Rt := Aside0.mk (htr _ _ Rs.out)
    have Plt : Aside0 (Ap (.slice A2 lo.length c2) (.slice A1 tk.length c1)) := ⟨Ap.take (Ap.symm Psl.out)⟩
    have Pat : Aside0 (Ap (.slice A_a z_a.length c_a) (.slice A1 tk.length c1)) := ⟨Ap.take (Ap.symm Psa.out)⟩
    clear etk htr Psa Psl
    clear Rs
    have gB := blk_gr Bg.out
    refine wp_region_hp [0, 1, 2, 3, 4, 5, 6, 7, 8, 9, 10] [11, 12, 13, 14, 15] (by kernel_rfl) (by kernel_rfl) rfl rfl rfl (fun c a d v w h => ?hQ2) ?_
    case hQ2 => cases d <;> exact h
    simp only [pick, List.getElem?_cons_zero, List.getElem?_cons_succ, List.nil_append, List.cons_append]
    repeat (quiet_step (fail))
    refine wpQuiet_nil ?_
    clear gB
    have G := grown_drew w120 none
    generalize w120.drew = w141 at G ⊢
    clear c_g f_g
    clear c_e f_e
    clear c_h f_h
    have n_SZ := Aside0.mk (Nat.le_trans SZ.out G.size)
    have n_SZ0 := Aside0.mk (Nat.le_trans SZ0.out G.size)
    have n_HL := Aside0.mk (below_grown0 HL.out SZ.out G (fun k_ hk_ => by cases hk_))
    have n_FS := Aside0.mk (FrS.trans FS.out (FrS.of_none G))
    have n_Bg := Aside0.mk (blk_grown Bg.out G (by simp))
    have n_Rl := Aside0.mk (row_none Rl.out G)
    have n_Be := Aside0.mk (blk_grown Be.out G (by simp))
    have n_Ra := Aside0.mk (row_none Ra.out G)
    have n_Bh := Aside0.mk (blk_grown Bh.out G (by simp))
    have n_Rt := Aside0.mk (row_none Rt.out G)
    clear SZ
    clear SZ0
    clear HL
    clear FS
    clear Bg
    clear Rl
    clear Be
    clear Ra
    clear Bh
    clear Rt
    have SZ := n_SZ
    clear n_SZ
    have SZ0 := n_SZ0
    clear n_SZ0
    have HL := n_HL
    clear n_HL
    have FS := n_FS
    clear n_FS
    have Bg := n_Bg
    clear n_Bg
    have Rl := n_Rl
    clear n_Rl
    have Be := n_Be
    clear n_Be
    have Ra := n_Ra
    clear n_Ra
    have Bh := n_Bh
    clear n_Bh
    have Rt := n_Rt
    clear n_Rt
    clear G
    obtain ⟨c_g, f_g⟩ := blk_cells Bg.out
    obtain ⟨c_e, f_e⟩ := blk_cells Be.out
    obtain ⟨c_h, f_h⟩ := blk_cells Bh.out
    go_wp2_with (first
      | ((with_reducible refine gate_dst (N := 60) rfl ?_); refine one_law w0.heap.size 60 rfl rfl (kids) SZ.out ?ho60_3 ?_; (case ho60_3 => first | (go_simp; done) | (go_simp; rfl)); intro A_o c_o w142 r_ G l_; clear c_g f_g; clear c_e f_e; clear c_h f_h; have n_SZ := Aside0.mk (Nat.le_trans SZ.out G.size); have n_SZ0 := Aside0.mk (Nat.le_trans SZ0.out G.size); have n_HL := Aside0.mk (below_grown0 HL.out SZ.out G (fun k_ hk_ => by cases hk_)); have n_FS := Aside0.mk (FrS.trans FS.out (FrS.of_none G)); have n_Bg := Aside0.mk (blk_grown Bg.out G (by simp)); have n_Rl := Aside0.mk (row_none Rl.out G); have n_Be := Aside0.mk (blk_grown Be.out G (by simp)); have n_Ra := Aside0.mk (row_none Ra.out G); have n_Bh := Aside0.mk (blk_grown Bh.out G (by simp)); have n_Rt := Aside0.mk (row_none Rt.out G); clear SZ; clear SZ0; clear HL; clear FS; clear Bg; clear Rl; clear Be; clear Ra; clear Bh; clear Rt; have SZ := n_SZ; clear n_SZ; have SZ0 := n_SZ0; clear n_SZ0; have HL := n_HL; clear n_HL; have FS := n_FS; clear n_FS; have Bg := n_Bg; clear n_Bg; have Rl := n_Rl; clear n_Rl; have Be := n_Be; clear n_Be; have Ra := n_Ra; clear n_Ra; have Bh := n_Bh; clear n_Bh; have Rt := n_Rt; clear n_Rt; have Ro := Aside0.mk r_; clear r_ G l_; obtain ⟨c_g, f_g⟩ := blk_cells Bg.out; obtain ⟨c_e, f_e⟩ := blk_cells Be.out; obtain ⟨c_h, f_h⟩ := blk_cells Bh.out)
      | ((with_reducible refine gate_dst (N := 61) rfl ?_); refine app_law w0.heap.size 61 rfl rfl _ _ rfl (.slice A1 tk.length c1) (tk) ([kids]) A_o [kids].length c_o rfl rfl Rt.out (row_reads Ro.out) SZ.out (by simp; omega) ?_; intro A_n c_n z_n w143 Ez_n r_ G l_; clear Ro; have Pln_ := Aside0.mk (Ap.app Plt.out Rl.out l_); have Pan_ := Aside0.mk (Ap.app Pat.out Ra.out l_); clear c_g f_g; clear c_e f_e; clear c_h f_h; have n_SZ := Aside0.mk (Nat.le_trans SZ.out G.size); have n_SZ0 := Aside0.mk (Nat.le_trans SZ0.out G.size); have n_HL := Aside0.mk (below_grown0 HL.out SZ.out G (fun k_ hk_ => row_base Rt.out k_ hk_)); have n_FS := Aside0.mk (FrS.trans FS.out (FrS.of_row G Rt.out)); have n_Bg := Aside0.mk (blk_row Bg.out Rt.out (by decide) G); have n_Rl := Aside0.mk (row_grown Rl.out G (Ap.ne Plt.out)); have n_Be := Aside0.mk (blk_row Be.out Rt.out (by decide) G); have n_Ra := Aside0.mk (row_grown Ra.out G (Ap.ne Pat.out)); have n_Bh := Aside0.mk (blk_row Bh.out Rt.out (by decide) G); clear SZ; clear SZ0; clear HL; clear FS; clear Bg; clear Rl; clear Be; clear Ra; clear Bh; have SZ := n_SZ; clear n_SZ; have SZ0 := n_SZ0; clear n_SZ0; have HL := n_HL; clear n_HL; have FS := n_FS; clear n_FS; have Bg := n_Bg; clear n_Bg; have Rl := n_Rl; clear n_Rl; have Be := n_Be; clear n_Be; have Ra := n_Ra; clear n_Ra; have Bh := n_Bh; clear n_Bh; clear Rt; have Rn := Aside0.mk r_; clear r_ G l_; clear Plt; have Pln := Pln_; clear Pln_; clear Pat; have Pan := Pan_; clear Pan_; obtain ⟨c_g, f_g⟩ := blk_cells Bg.out; obtain ⟨c_e, f_e⟩ := blk_cells Be.out; obtain ⟨c_h, f_h⟩ := blk_cells Bh.out)
      | ((with_reducible refine gate_store (t := 23) (p := 63) rfl ?_); refine st_law g 3 rfl 23 _ _ rfl rfl _ #[.int .i64 func, .int .i64 pc, .int .i64 fuel, .slice A_n z_n.length c_n, .slice A2 lo.length c2, .int .i64 kids, .bool wt] 78 (.slice A_n z_n.length c_n) [.slice A_n z_n.length c_n] rfl rfl rfl sz23 (by simp [Value.oneCell']) Bg.out (by simp) rfl ?_; intro w144 b_ G s_; clear s_; clear c_g f_g; clear c_e f_e; clear c_h f_h; have n_SZ := Aside0.mk (Nat.le_trans SZ.out G.size); have n_SZ0 := Aside0.mk (Nat.le_trans SZ0.out G.size); have n_HL := Aside0.mk (below_grown0 HL.out SZ.out G (fun k_ hk_ => by cases hk_; exact GEg.out)); have n_FS := Aside0.mk (FrS.trans FS.out (FrS.of_blk G)); have n_Rl := Aside0.mk (row_grown Rl.out G (row_blk Rl.out Bg.out (by decide))); have n_Be := Aside0.mk (blk_grown Be.out G (fun e_ => (Ne.symm Ng_e.out) (Option.some.inj e_))); have n_Ra := Aside0.mk (row_grown Ra.out G (row_blk Ra.out Bg.out (by decide))); have n_Bh := Aside0.mk (blk_grown Bh.out G (fun e_ => (Ne.symm Ng_h.out) (Option.some.inj e_))); have n_Rn := Aside0.mk (row_grown Rn.out G (row_blk Rn.out Bg.out (by decide))); clear SZ; clear SZ0; clear HL; clear FS; clear Rl; clear Be; clear Ra; clear Bh; clear Rn; have SZ := n_SZ; clear n_SZ; have SZ0 := n_SZ0; clear n_SZ0; have HL := n_HL; clear n_HL; have FS := n_FS; clear n_FS; have Rl := n_Rl; clear n_Rl; have Be := n_Be; clear n_Be; have Ra := n_Ra; clear n_Ra; have Bh := n_Bh; clear n_Bh; have Rn := n_Rn; clear n_Rn; clear Bg; have Bg := Aside0.mk b_; clear b_ G; obtain ⟨c_g, f_g⟩ := blk_cells Bg.out; obtain ⟨c_e, f_e⟩ := blk_cells Be.out; obtain ⟨c_h, f_h⟩ := blk_cells Bh.out)
      | ((with_reducible refine gate_store (t := 3) (p := 70) rfl ?_); refine st_law g 5 rfl 3 _ _ rfl rfl _ #[.int .i64 func, .int .i64 pc, .int .i64 fuel, .slice A_n z_n.length c_n, .slice A2 lo.length c2, .int .i64 (kids + 1), .bool wt] 78 (.int .i64 (kids + 1)) [.int .i64 (kids + 1)] rfl rfl rfl sz3 (by simp [Value.oneCell']) Bg.out (by simp) rfl ?_; intro w145 b_ G s_; clear s_; clear c_g f_g; clear c_e f_e; clear c_h f_h; have n_SZ := Aside0.mk (Nat.le_trans SZ.out G.size); have n_SZ0 := Aside0.mk (Nat.le_trans SZ0.out G.size); have n_HL := Aside0.mk (below_grown0 HL.out SZ.out G (fun k_ hk_ => by cases hk_; exact GEg.out)); have n_FS := Aside0.mk (FrS.trans FS.out (FrS.of_blk G)); have n_Rl := Aside0.mk (row_grown Rl.out G (row_blk Rl.out Bg.out (by decide))); have n_Be := Aside0.mk (blk_grown Be.out G (fun e_ => (Ne.symm Ng_e.out) (Option.some.inj e_))); have n_Ra := Aside0.mk (row_grown Ra.out G (row_blk Ra.out Bg.out (by decide))); have n_Bh := Aside0.mk (blk_grown Bh.out G (fun e_ => (Ne.symm Ng_h.out) (Option.some.inj e_))); have n_Rn := Aside0.mk (row_grown Rn.out G (row_blk Rn.out Bg.out (by decide))); clear SZ; clear SZ0; clear HL; clear FS; clear Rl; clear Be; clear Ra; clear Bh; clear Rn; have SZ := n_SZ; clear n_SZ; have SZ0 := n_SZ0; clear n_SZ0; have HL := n_HL; clear n_HL; have FS := n_FS; clear n_FS; have Rl := n_Rl; clear n_Rl; have Be := n_Be; clear n_Be; have Ra := n_Ra; clear n_Ra; have Bh := n_Bh; clear n_Bh; have Rn := n_Rn; clear n_Rn; clear Bg; have Bg := Aside0.mk b_; clear b_ G; obtain ⟨c_g, f_g⟩ := blk_cells Bg.out; obtain ⟨c_e, f_e⟩ := blk_cells Be.out; obtain ⟨c_h, f_h⟩ := blk_cells Bh.out)
      | ((with_reducible refine gate_store (t := 3) (p := 77) rfl ?_); refine st_law g 1 rfl 3 _ _ rfl rfl _ #[.int .i64 func, .int .i64 (pc + 1), .int .i64 fuel, .slice A_n z_n.length c_n, .slice A2 lo.length c2, .int .i64 (kids + 1), .bool wt] 78 (.int .i64 (pc + 1)) [.int .i64 (pc + 1)] rfl rfl rfl sz3 (by simp [Value.oneCell']) Bg.out (by simp) rfl ?_; intro w146 b_ G s_; clear s_; clear c_g f_g; clear c_e f_e; clear c_h f_h; have n_SZ := Aside0.mk (Nat.le_trans SZ.out G.size); have n_SZ0 := Aside0.mk (Nat.le_trans SZ0.out G.size); have n_HL := Aside0.mk (below_grown0 HL.out SZ.out G (fun k_ hk_ => by cases hk_; exact GEg.out)); have n_FS := Aside0.mk (FrS.trans FS.out (FrS.of_blk G)); have n_Rl := Aside0.mk (row_grown Rl.out G (row_blk Rl.out Bg.out (by decide))); have n_Be := Aside0.mk (blk_grown Be.out G (fun e_ => (Ne.symm Ng_e.out) (Option.some.inj e_))); have n_Ra := Aside0.mk (row_grown Ra.out G (row_blk Ra.out Bg.out (by decide))); have n_Bh := Aside0.mk (blk_grown Bh.out G (fun e_ => (Ne.symm Ng_h.out) (Option.some.inj e_))); have n_Rn := Aside0.mk (row_grown Rn.out G (row_blk Rn.out Bg.out (by decide))); clear SZ; clear SZ0; clear HL; clear FS; clear Rl; clear Be; clear Ra; clear Bh; clear Rn; have SZ := n_SZ; clear n_SZ; have SZ0 := n_SZ0; clear n_SZ0; have HL := n_HL; clear n_HL; have FS := n_FS; clear n_FS; have Rl := n_Rl; clear n_Rl; have Be := n_Be; clear n_Be; have Ra := n_Ra; clear n_Ra; have Bh := n_Bh; clear n_Bh; have Rn := n_Rn; clear n_Rn; clear Bg; have Bg := Aside0.mk b_; clear b_ G; obtain ⟨c_g, f_g⟩ := blk_cells Bg.out; obtain ⟨c_e, f_e⟩ := blk_cells Be.out; obtain ⟨c_h, f_h⟩ := blk_cells Bh.out)
      | ((with_reducible refine gate_store (t := 83) (p := 8) rfl ?_); refine st_law e 0 rfl 83 _ _ rfl rfl _ #[.int .i64 1, .int .i64 f, .int .i64 kids, .int .i64 0, .slice A_a z_a.length c_a, .int .i64 0, .int .i64 0] 83 (.agg #[.int .i64 1, .int .i64 f, .int .i64 kids, .int .i64 0, .slice A_a z_a.length c_a, .int .i64 0, .int .i64 0]) [.int .i64 1, .int .i64 f, .int .i64 kids, .int .i64 0, .slice A_a z_a.length c_a, .int .i64 0, .int .i64 0] rfl rfl rfl sz83 (by simp [Value.oneCell']) Be.out (by simp) rfl ?_; intro w147 b_ G s_; clear s_; clear c_g f_g; clear c_e f_e; clear c_h f_h; have n_SZ := Aside0.mk (Nat.le_trans SZ.out G.size); have n_SZ0 := Aside0.mk (Nat.le_trans SZ0.out G.size); have n_HL := Aside0.mk (below_grown0 HL.out SZ.out G (fun k_ hk_ => by cases hk_; exact GEe.out)); have n_FS := Aside0.mk (FrS.new FS.out G NWe.out); have n_Bg := Aside0.mk (blk_grown Bg.out G (fun e_ => Ng_e.out (Option.some.inj e_))); have n_Rl := Aside0.mk (row_grown Rl.out G (row_blk Rl.out Be.out (by decide))); have n_Ra := Aside0.mk (row_grown Ra.out G (row_blk Ra.out Be.out (by decide))); have n_Bh := Aside0.mk (blk_grown Bh.out G (fun e_ => (Ne.symm Ne_h.out) (Option.some.inj e_))); have n_Rn := Aside0.mk (row_grown Rn.out G (row_blk Rn.out Be.out (by decide))); clear SZ; clear SZ0; clear HL; clear FS; clear Bg; clear Rl; clear Ra; clear Bh; clear Rn; have SZ := n_SZ; clear n_SZ; have SZ0 := n_SZ0; clear n_SZ0; have HL := n_HL; clear n_HL; have FS := n_FS; clear n_FS; have Bg := n_Bg; clear n_Bg; have Rl := n_Rl; clear n_Rl; have Ra := n_Ra; clear n_Ra; have Bh := n_Bh; clear n_Bh; have Rn := n_Rn; clear n_Rn; clear Be; have Be := Aside0.mk b_; clear b_ G; obtain ⟨c_g, f_g⟩ := blk_cells Bg.out; obtain ⟨c_e, f_e⟩ := blk_cells Be.out; obtain ⟨c_h, f_h⟩ := blk_cells Bh.out))
    refine bodyPost_ret (results_ct rfl _ _ e 83 _ (0, 0) _ rfl Be.out Try.underlying83 rfl (by kernel_rfl)) rfl ?_
    exact ⟨1, f, kids, A_a, c_a, z_a, 0, 0, rfl, Ra.out, FS.out, .inr ⟨rfl, by omega, by simp at *; omega, rfl, rfl, by rw [Ez_a.out]; simp; omega, z_n, by rw [Ez_n.out]; simp; omega, A_n, c_n, A2, c2, Bg.out, Rn.out, Rl.out, Ap.symm Pln.out, GEg.out⟩⟩
end Go.Proofs.Ytakdckaplmoklaa.Ev
end
