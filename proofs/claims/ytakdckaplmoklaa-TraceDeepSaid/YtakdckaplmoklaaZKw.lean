/- A part of the proof of TraceDeepSaid (Kw); laid together by merge2.py. -/
import Derived.Test.YtakdckaplmoklaaZT
import Derived.Test.YtakdckaplmoklaaZH
import Derived.Test.YtakdckaplmoklaaZP11
import Derived.Test.YtakdckaplmoklaaZP15
import Derived.Deep.LoopGhost
section
namespace Go.Proofs.Ytakdckaplmoklaa.Ev
open Go.Proofs.YtakdckaplmoklaaHt Go.Sort
open Go.RowKit Go.Proofs.YtakdckaplmoklaaW.PrintWords Go.Proofs.YtakdckaplmoklaaW.PrintLast Go.Proofs.YtakdckaplmoklaaW.PrintMore Go.Proofs.Ytakdckaplmoklaa.PTraceDeep
set_option linter.unusedVariables false
set_option linter.unusedSimpArgs false
theorem box_news {W : World} {ad : Addr} {t : TypeId} {sz : Nat} {cs : List Value} (h : W.ownsRow 0 t sz (.slice (some ad) 1 1) 1 cs) : cs.length = 1 * sz ∧ ∀ j u, cs[j]? = some u → W.cell? (ad.add j) = some u := by
  refine ⟨h.1, fun j u hj => ?_⟩
  rcases h.2 with ⟨h0, _⟩ | ⟨g, cap, cur, h2, _⟩
  · cases h0
  · injection h2 with e1
    injection e1 with e1
    subst e1
    exact h.cells (g := g) rfl j u hj
theorem rows_read {ws W : World} {M : Nat → Prop} {bs : List (Nat × Array Value × TypeId)} {hs : List (Value × List Int)} {vD : Value} {is : List It} (T : Tg ws M bs (It.gen vD 23 1 hs.length (hs.map (·.1)) :: (hs.map (fun h => It.row h.1 h.2) ++ is)) W) :
    ∃ AD cD, vD = .slice AD hs.length cD ∧ hs.length ≤ cD ∧ Kd.C (Kd.slice 3 (Kd.int .i64)) W AD hs.length (hs.map (·.2)) := by
  have h0 := T.own (.head _)
  obtain ⟨AD, cD, rfl⟩ := own_slice h0
  refine ⟨AD, cD, rfl, own_le h0, ?_⟩
  have hr : Reps ((Kd.slice 3 (Kd.int .i64)).K W) 1 (hs.map (·.2)) (hs.map (·.1)) := by
    refine ⟨by simp, fun j p hj => ?_⟩
    rw [List.getElem?_map, Option.map_eq_some_iff] at hj
    obtain ⟨h, hh, rfl⟩ := hj
    have hm : It.row h.1 h.2 ∈ (It.gen (.slice AD hs.length cD) 23 1 hs.length (hs.map (·.1)) :: (hs.map (fun h => It.row h.1 h.2) ++ is)) := .tail _ (List.mem_append_left _ (List.mem_map_of_mem (List.mem_of_getElem? hh)))
    have hr := T.own hm
    obtain ⟨A, c, e⟩ := own_slice hr
    have hj : j < hs.length := (List.getElem?_eq_some_iff.1 hh).1
    have hv : ((hs.map (·.1)).drop (j * 1)).take 1 = [h.1] := by
      rw [Nat.mul_one, List.drop_eq_getElem_cons (by simpa using hj)]
      have : hs[j] = h := by rw [List.getElem?_eq_getElem hj] at hh; exact Option.some.inj hh
      simp [this]
    rw [hv]
    refine ⟨A, c, by rw [e], ?_, ?_⟩
    · rw [e] at hr; exact own_le hr
    · rw [e] at hr
      obtain ⟨A', c', e', h'⟩ := own_reads_row hr (Kd.reps_scalar (enc := Value.int .i64) h.2) rfl
      injection e' with e1 e2 e3
      subst e1
      exact h'
  obtain ⟨A', c', e', hr'⟩ := own_reads_row h0 hr (by simp)
  injection e' with e1 e2 e3
  subst e1
  exact hr'
set_option maxHeartbeats 4000000 in
set_option maxRecDepth 100000 in
theorem know_any (w : World) (AF : Option Addr) (cF : Nat) (fs : List S50) (main : Int) (AA : Option Addr) (cA : Nat) (args : List Int) (fuel tasks : Int) (hF : Kd.C k50 w AF fs.length fs) (hFc : fs.length ≤ cF) (hA : Kd.C (Kd.int .i64) w AA args.length args) (hAc : args.length ≤ cA)
    (kC : Nat) (r1 r2 e : Int) (hC : gleanerref4_Check.f kC fs main args fuel tasks = some (r1, r2, e)) (D : List (List Int)) (hD : e = 0 → fs.length ≤ 1000 ∧ D.length = fs.length ∧ ∀ i : Nat, i < fs.length → ∃ k a b, gleanerref4_depths.f k fs main args fuel tasks (rd_T50 fs i).f0 (rd_T50 fs i).f1 (rd_T50 fs i).f2 (rd_T50 fs i).f3 = some (rd_L7 D i, a, b)) :
    Calls Try.prog 12 #[.agg #[.slice AF fs.length cF, .int .i64 main, .slice AA args.length cA, .int .i64 fuel, .int .i64 tasks]] w fun e' w' =>
      ∃ kb : Option Addr, e' = .returned (.tuple #[.pointer kb, .int .i64 e]) ∧ Below w.heap.size w w' ∧ (e = 0 → ∃ b, kb = some ⟨b, 0, none⟩ ∧ w.heap.size ≤ b ∧ Kn w' b fs D main fuel tasks args) := by
  have HF := Aside0.mk hF
  have HA := Aside0.mk hA
  have HC := Aside0.mk hC
  have HD := Aside0.mk hD
  have T0 := Aside0.mk (Tg.start w (fun _ => False))
  clear hF hA hC hD
  go_enter Try.func12, Try.ntmps12
  go_wp2_with (first
    | ((with_reducible refine gate_dst (N := 1) rfl ?_); refine tg_new 1 rfl rfl T0 #[.slice AF fs.length cF, .int .i64 main, .slice AA args.length cA, .int .i64 fuel, .int .i64 tasks] 25 ?h1_1 ?_; (case h1_1 => first | (go_simp; done) | (go_simp; rfl)); intro j w101 T1; clear T0; obtain ⟨⟨c_j, f_j⟩, _⟩ := T1.out.cells))
  refine (gleanerref4_Check.calls kC AF cF fs main AA cA args fuel tasks r1 r2 e _ (Kd.C_below HF.out T1.out.fresh) hFc (Kd.C_below HA.out T1.out.fresh) hAc HC.out).mono ?_
  rintro e_ w102 ⟨rfl, b_⟩
  have T2 := Aside0.mk (T1.out.call b_)
  clear b_
  clear c_j f_j T1
  obtain ⟨⟨c_j, f_j⟩, _⟩ := T2.out.cells
  by_cases p : e = 0
  focus
    have b1 : (e != 0) = false := by simpa using p
    have P := Aside0.mk p
    clear p
    go_wp2_with (first
        | ((with_reducible refine gate_dst (N := 23) rfl ?_); refine tg_new 23 rfl rfl T2 #[.slice AF fs.length cF, .int .i64 main, .slice AA args.length cA, .int .i64 fuel, .int .i64 tasks, .slice none 0 0] 74 ?h23_2 ?_; (case h23_2 => first | (go_simp; done) | (go_simp; rfl)); intro g w103 T3; clear c_j f_j; clear T2; obtain ⟨⟨c_g, f_g⟩, ⟨c_j, f_j⟩, _⟩ := T3.out.cells))
    have TL := T3
    clear c_g f_g c_j f_j T3
    have hD0 := HD.out P.out
    have hn := hD0.1
    have HD0 := Aside0.mk hD0
    clear hD0 HD
    go_loopg [8] fs.length (fun k v8 w' => ∃ (i : Nat) (vD : Value) (hs : List (Value × List Int)), v8 = .int .i64 (i : Int) ∧ Aside0 (i + k = fs.length ∧ hs.length = i ∧ hs.map (·.2) = D.take i) ∧ Aside0 (Tg w (fun _ => False) [(g, #[.slice AF fs.length cF, .int .i64 main, .slice AA args.length cA, .int .i64 fuel, .int .i64 tasks, vD], 74), (j, #[.slice AF fs.length cF, .int .i64 main, .slice AA args.length cA, .int .i64 fuel, .int .i64 tasks], 25)] (It.gen vD 23 1 i (hs.map (·.1)) :: hs.map (fun h => It.row h.1 h.2)) w'))
    case atStart => exact ⟨0, .slice none 0 0, [], rfl, ⟨by omega, rfl, rfl⟩, ⟨TL.out.aitem [] (ItOk.gen (World.ownsRow_nil _ 0 23 1)) (fun k hk => by cases hk) (by simp) (fun b hb hk => by cases hk)⟩⟩
    case round =>
      clear TL
      obtain ⟨i, vD, hs, rfl, hk, T50⟩ := hrel
      obtain ⟨⟨c_g, f_g⟩, ⟨c_j, f_j⟩, _⟩ := T50.out.cells
      by_cases p : i < fs.length
      focus
        have b2 : decide ((i : Int) < (fs.length : Int)) = true := by simpa using p
        have P2 := Aside0.mk p
        have i0 : (0 : Int) ≤ (i : Int) := by omega
        have i1 : (i : Int) < (fs.length : Int) := by omega
        obtain ⟨ad1, A3, c3, ea1, q10, q11, q12, q13, q14, q15⟩ := at_T50 HF.out i i0 i1
        subst ea1
        simp only [Int.toNat_natCast] at q10 q11 q12 q13
        obtain ⟨kd, da, db, hd⟩ := HD0.out.2.2 i P2.out
        have Hd := Aside0.mk hd
        have Q15 := Aside0.mk q15
        clear p hd q15
        have r10 := pw_cell_below T50.out.fresh q10
        have r11 := pw_cell_below T50.out.fresh q11
        have r12 := pw_cell_below T50.out.fresh q12
        have r13 := pw_cell_below T50.out.fresh q13
        clear q10 q11 q12 q13
        go_upto_region 8 with (fail)
        refine wp_region_tp [0, 1, 2, 3, 4, 5] [6, 7, 8, 9, 10, 11, 12, 13] (by kernel_rfl) (by kernel_rfl) rfl rfl (fun c a d v w h => ?hQt) ?_
        case hQt => cases d <;> exact h
        obtain ⟨g_g, g_j, _⟩ := T50.out.gr
        have s10 := cell_gr r10
        have s11 := cell_gr r11
        have s12 := cell_gr r12
        have s13 := cell_gr r13
        simp only [pick, List.getElem?_cons_zero, List.getElem?_cons_succ, List.nil_append, List.cons_append]
        repeat (quiet_step (fail))
        refine wpQuiet_nil ?_
        clear g_g g_j s10 s11 s12 s13 r10 r11 r12 r13
        clear c_g f_g c_j f_j
        have T51 := Aside0.mk (T50.out.drew)
        clear T50
        generalize wr.drew = w121 at T51 ⊢
        obtain ⟨⟨c_g, f_g⟩, ⟨c_j, f_j⟩, _⟩ := T51.out.cells
        show wpTail _ _ _ _ _ _ _
        refine tail_one 6 (by decide +kernel) rfl rfl ?_
        go_wp2_with fail
        refine (gleanerref4_depths.calls kd (some ad1) cF fs main AA cA args fuel tasks _ _ _ A3 c3 _ (rd_L7 D i) da db _ (Kd.C_below HF.out T51.out.fresh) hFc (Kd.C_below HA.out T51.out.fresh) hAc (Kd.C_below Q15.out T51.out.fresh) q14 Hd.out).mono ?_
        rintro e_ w122 ⟨v0_, rfl, r_, b_⟩
        obtain ⟨A9, c9, e9⟩ := Kd.R_slice r_
        subst e9
        have r9 := Kd.own_of_R r_
        have RI : It.row (.slice A9 (rd_L7 D i).length c9) (rd_L7 D i) = It.row (.slice A9 (rd_L7 D i).length c9) (rd_L7 D i) := rfl
        have T52 := Aside0.mk ((T51.out.call b_).aitem [_] (ItOk.gen r9) (fun k hk => .inr (by have := own_base r9 k hk; have := T51.out.chg.size; omega)) (fun x hx k hk hk' => by have := own_base r9 k hk; have := (T51.out.it x hx).1.lt k hk'; omega) (fun b hb hk => by have := own_base r9 _ hk; have := blk_lt (T51.out.blk b hb).1; omega))
        clear b_ r_ r9 RI
        clear c_g f_g c_j f_j T51
        obtain ⟨⟨c_g, f_g⟩, ⟨c_j, f_j⟩, _⟩ := T52.out.cells
        go_wp2_with fail
        show wpTail _ _ _ _ _ _ _
        refine tail_one 7 (by decide +kernel) rfl rfl ?_
        go_wp2_with fail
        show wpTail _ _ _ _ _ _ _
        refine tail_calm 8 (by decide +kernel) (by decide +kernel) rfl rfl rfl (fun c a d v w h => by cases d <;> exact h) ?_
        go_wp2_with fail
        show wpTail _ _ _ _ _ _ _
        refine tail_calm 9 (by decide +kernel) (by decide +kernel) rfl rfl rfl (fun c a d v w h => by cases d <;> exact h) ?_
        go_wp2_with fail
        show wpTail _ _ _ _ _ _ _
        refine tail_calm 10 (by decide +kernel) (by decide +kernel) rfl rfl rfl (fun c a d v w h => by cases d <;> exact h) ?_
        go_wp2_with fail
        show wpTail _ _ _ _ _ _ _
        refine tail_one 11 (by decide +kernel) rfl rfl ?_
        go_wp2_with fail
        show wpTail _ _ _ _ _ _ _
        refine tail_one 12 (by decide +kernel) rfl rfl ?_
        go_wp2_with fail
        show wpTail _ _ _ _ _ _ _
        refine tail_one 13 (by decide +kernel) rfl rfl ?_
        go_wp2_with fail
        show wpTail _ _ _ _ _ _ _
        refine tail_nil ?_
        go_wp2_with (first
            | ((with_reducible refine gate_dst (N := 48) rfl ?_); refine tg_box T52 48 rfl rfl [.slice A9 (List.length (rd_L7 D i)) c9] 23 1 rfl ?h48_3 ?_; (case h48_3 => first | (go_simp; done) | (go_simp; rfl)); intro a_o w123 T53; clear c_g f_g c_j f_j; clear T52; obtain ⟨⟨c_g, f_g⟩, ⟨c_j, f_j⟩, _⟩ := T53.out.cells)
            | ((with_reducible refine gate_dst (N := 49) rfl ?_); refine tg_push [_] T53 49 rfl rfl rfl Try.underlying72 (.slice none 0 0) 24 (by kernel_rfl) rfl (by decide) (by decide) rfl a_o 1 1 _ rfl (box_news (T53.out.own (.head _))) (by simp [Value.oneCell']) (by omega) ?_; intro A_m c_m_ w124 T54; simp only [List.cons_append, List.nil_append] at T54; clear c_g f_g c_j f_j; clear T53; have T55 := Aside0.mk T54.out.ditem; clear T54; obtain ⟨⟨c_g, f_g⟩, ⟨c_j, f_j⟩, _⟩ := T55.out.cells)
            | ((with_reducible refine gate_store (t := 72) (p := 51) rfl ?_); refine tg_st [] T55 5 rfl 72 rfl rfl #[_, _, _, _, _, _] (.slice A_m (i + 1) c_m_) [_] sz72 rfl rfl rfl rfl (by simp) rfl ?_; intro w125 T56; simp only [List.cons_append, List.nil_append] at T56; clear c_g f_g c_j f_j; clear T55; obtain ⟨⟨c_g, f_g⟩, ⟨c_j, f_j⟩, _⟩ := T56.out.cells))
        go_roundg (gk - 1)
        case measure => have := hk.out; have := P2.out; omega
        case rel =>
          refine ⟨i + 1, .slice A_m (i + 1) c_m_, hs ++ [(.slice A9 (List.length (rd_L7 D i)) c9, rd_L7 D i)], by simp, ⟨by have := hk.out; have := P2.out; omega, by have := hk.out; simp; omega, ?_⟩, ⟨?_⟩⟩
          · have h1 := hk.out.2.2
            have h2 : i < D.length := by have := HD0.out.2.1; have := P2.out; omega
            rw [List.map_append, h1, List.take_succ_eq_append_getElem h2]
            simp [rd_L7, List.getD_eq_getElem?_getD, List.getElem?_eq_getElem h2]
          · have h2 := T56.out
            rw [List.map_append, List.map_append]
            exact h2.iperm (List.Perm.cons _ List.perm_append_comm)
      have b2 : decide ((i : Int) < (fs.length : Int)) = false := by simp; omega
      have b3 : decide (i < fs.length) = false := by simp; omega
      have P2 := Aside0.mk p
      clear p
      go_wp2_with fail
      go_ret2
      have TZ := T50.out
      have e1 : i = hs.length := hk.out.2.1.symm
      have e2 : hs.map (·.2) = D := by
        have h1 := hk.out.2.2
        have h2 : i = D.length := by have := hk.out.1; have := HD0.out.2.1; have := P2.out; omega
        rw [h1, h2, List.take_length]
      rw [e1] at TZ
      have TZ' := Eq.subst (motive := fun l => Tg w (fun _ => False) _ (It.gen vD 23 1 hs.length (hs.map (·.1)) :: l) wr) (List.append_nil _).symm TZ
      obtain ⟨AD, cD, rfl, h2, h3⟩ := rows_read TZ'
      rw [e2] at h3
      have e3 : hs.length = D.length := by rw [← e2, List.length_map]
      rw [e3] at h2 h3 TZ
      have h4 := (TZ.blk _ (.head _)).2.elim False.elim id
      exact ⟨some ⟨g, 0, none⟩, by rw [P.out]; rfl, TZ.fresh, fun _ => ⟨g, rfl, h4, ⟨AF, cF, AA, cA, AD, cD, (TZ.blk _ (.head _)).1, hFc, Kd.C_below HF.out TZ.fresh, hAc, Kd.C_below HA.out TZ.fresh, h2, h3⟩⟩⟩
  have b1 : (e != 0) = true := by simpa using p
  have P := Aside0.mk p
  clear p
  go_wp2_with fail
  go_ret2
  exact ⟨none, rfl, T2.out.fresh, fun h => absurd h P.out⟩
end Go.Proofs.Ytakdckaplmoklaa.Ev
end
