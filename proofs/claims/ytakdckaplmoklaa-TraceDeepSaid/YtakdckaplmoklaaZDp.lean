/- A part of the proof of TraceDeepSaid (Dp); laid together by merge2.py. -/
import Derived.Test.YtakdckaplmoklaaZAl
import Derived.Test.YtakdckaplmoklaaZRc
import Derived.Test.YtakdckaplmoklaaZEv
section
namespace Go.Proofs.Ytakdckaplmoklaa.Ev
open Go.Proofs.YtakdckaplmoklaaHt Go.Sort
open Go.RowKit Go.Proofs.YtakdckaplmoklaaW.PrintWords Go.Proofs.YtakdckaplmoklaaW.PrintLast Go.Proofs.YtakdckaplmoklaaW.PrintMore Go.Proofs.Ytakdckaplmoklaa.PTraceDeep
set_option linter.unusedVariables false
set_option linter.unusedSimpArgs false
set_option maxHeartbeats 4000000 in
set_option maxRecDepth 100000 in
theorem deep_any (w : World) (AF : Option Addr) (cF : Nat) (fs : List S50) (main : Int) (AA : Option Addr) (cA : Nat) (args : List Int) (fuel tasks a b : Int) (hF : Kd.C k50 w AF fs.length fs) (hFc : fs.length ≤ cF) (hA : Kd.C (Kd.int .i64) w AA args.length args) (hAc : args.length ≤ cA)
    (ha : -9223372036854775808 ≤ a ∧ a ≤ 9223372036854775807) (hb : -9223372036854775808 ≤ b ∧ b ≤ 9223372036854775807)
    (kB : Nat) (big : Bool) (hB : gleanerlaw4_Big.f kB fs main args fuel tasks = some big)
    (kC : Nat) (r1 r2 e : Int) (hC : gleanerref4_Check.f kC fs main args fuel tasks = some (r1, r2, e)) (D : List (List Int)) (hD : e = 0 → fs.length ≤ 1000 ∧ D.length = fs.length ∧ ∀ i : Nat, i < fs.length → ∃ k a b, gleanerref4_depths.f k fs main args fuel tasks (rd_T50 fs i).f0 (rd_T50 fs i).f1 (rd_T50 fs i).f2 (rd_T50 fs i).f3 = some (rd_L7 D i, a, b))
    (hG : e = 0 → KG fs D ∧ 0 ≤ fuel ∧ fuel ≤ 5000 ∧ tasks ≤ 500 ∧ 0 ≤ main ∧ main < fs.length ∧ (args.length : Int) = (rd_T50 fs main).f1) :
    Calls Try.prog 3 #[.agg #[.slice AF fs.length cF, .int .i64 main, .slice AA args.length cA, .int .i64 fuel, .int .i64 tasks], .int .i64 a, .int .i64 b] w fun e' w' => e' = .returned (.bool true) ∧ Below w.heap.size w w' := by
  have HF := Aside0.mk hF
  have HA := Aside0.mk hA
  have HB := Aside0.mk hB
  have HC := Aside0.mk hC
  have HD := Aside0.mk hD
  have HG := Aside0.mk hG
  have HFc := Aside0.mk hFc
  have HAc := Aside0.mk hAc
  have Ha := Aside0.mk ha
  have Hb := Aside0.mk hb
  have T0 := Aside0.mk (Tg.start w (fun _ => False))
  clear hF hA hB hC hD hG hFc hAc ha hb
  go_enter Try.func3, Try.ntmps3
  go_wp2_with ((with_reducible refine gate_dst (N := 3) rfl ?_); refine tg_new 3 rfl rfl T0 #[.slice AF fs.length cF, .int .i64 main, .slice AA args.length cA, .int .i64 fuel, .int .i64 tasks] 25 ?h1_1 ?_; (case h1_1 => first | (go_simp; done) | (go_simp; rfl)); intro j w101 T1; clear T0; obtain ⟨⟨c_j, f_j⟩, _⟩ := T1.out.cells)
  refine (alive_any _).mono ?_
  rintro e_ w102 ⟨rfl, b_⟩
  have T2 := Aside0.mk (T1.out.call b_)
  clear b_ T1 c_j f_j
  obtain ⟨⟨c_j, f_j⟩, _⟩ := T2.out.cells
  go_wp2_with fail
  refine (gleanerlaw4_Big.calls kB AF cF fs main AA cA args fuel tasks big w102 (Kd.C_below HF.out T2.out.fresh) HFc.out (Kd.C_below HA.out T2.out.fresh) HAc.out HB.out).mono ?_
  rintro e_ w103 ⟨rfl, b_⟩
  have T3 := Aside0.mk (T2.out.call b_)
  clear b_ T2 c_j f_j HB
  obtain ⟨⟨c_j, f_j⟩, _⟩ := T3.out.cells
  go_wp2_with fail
  refine (eval_any w103 AF cF fs main AA cA args fuel tasks (Kd.C_below HF.out T3.out.fresh) HFc.out (Kd.C_below HA.out T3.out.fresh) HAc.out kC r1 r2 e HC.out D HD.out HG.out).mono ?_
  rintro e_ w104 ⟨A, n, c, x, rfl, b_, ev_⟩
  have T4 := Aside0.mk (T3.out.call b_)
  have EV := Aside0.mk ev_
  clear ev_ b_ T3 c_j f_j HC HD HG HF HA HFc HAc
  go_upto_region 4 with fail
  cases big
  case true =>
    go_wp2_with fail
    go_ret
    exact ⟨rfl, T4.out.fresh⟩
  by_cases p1 : x = 0
  case neg =>
    have d1 : decide (x = 0) = false := by simpa using p1
    have d2 : decide (x ≠ 0) = true := by simpa using p1
    go_wp2_with fail
    go_ret
    exact ⟨rfl, T4.out.fresh⟩
  subst p1
  obtain ⟨es, e1_, e2_, e3_, e4_⟩ := EV.out rfl
  clear EV
  by_cases p2 : n ≤ 100
  case neg =>
    have d1 : (100 : Int) < (n : Int) := by omega
    have d2 : 100 < n := by omega
    have d3 : decide ((100 : Int) < (n : Int)) = true := by simpa using d1
    have d4 : decide (100 < n) = true := by simpa using d2
    clear e1_ e2_ e3_ e4_
    go_wp2_with fail
    go_ret
    exact ⟨rfl, T4.out.fresh⟩
  have d1 : ¬ (100 : Int) < (n : Int) := by omega
  have d2 : ¬ 100 < n := by omega
  have d3 : decide ((100 : Int) < (n : Int)) = false := by simp; omega
  have d4 : decide (100 < n) = false := by simpa using p2
  have E1 := Aside0.mk e1_
  have E2 := Aside0.mk e2_
  have E3 := Aside0.mk e3_
  have E4 := Aside0.mk e4_
  clear e1_ e2_ e3_ e4_
  by_cases p3 : a < 0
  case pos =>
    have d5 : decide (a < 0) = true := by simpa using p3
    go_wp2_with fail
    go_ret
    exact ⟨rfl, T4.out.fresh⟩
  have d5 : decide (a < 0) = false := by simpa using p3
  by_cases p4 : b < 0
  case pos =>
    have d6 : decide (b < 0) = true := by simpa using p4
    go_wp2_with fail
    go_ret
    exact ⟨rfl, T4.out.fresh⟩
  have d6 : decide (b < 0) = false := by simpa using p4
  go_upto_region 6 with fail
  clear d1 d2 d3 d4 d5 d6
  obtain ⟨ens, he, hR⟩ := RE.of E3.out
  obtain ⟨ck, ok, n1⟩ := chk_all he E4.out
  rw [hR.len] at n1
  have HE := Aside0.mk he
  have RR := Aside0.mk hR
  have CK := Aside0.mk ck
  have OK := Aside0.mk ok
  clear he hR ck ok E1 E4
  have B4 := Aside0.mk T4.out.fresh
  have TL : Aside0 (Tg w104 (fun _ => False) [] [It.gen (.slice none 0 0) 39 3 0 (encCs [])] w104) := ⟨(Tg.start w104 (fun _ => False)).aitem [] (post := []) (j := It.gen (.slice none 0 0) 39 3 0 (encCs [])) (ItOk.gen (b := 0) ⟨rfl, .inl ⟨rfl, rfl⟩⟩) (fun k hk => by cases hk) (fun _ _ k hk => by cases hk) (fun _ _ hk => by cases hk)⟩
  have n2 : (1 : Int) ≤ (n : Int) := by omega
  have n3 : (n : Int) ≤ 100 := by omega
  have HN := Aside0.mk n1
  have HN2 := Aside0.mk p2
  clear T4
  go_wp2_with fail
  try simp only [List.append_eq, List.cons_append, List.nil_append, Act.put, List.setIfInBounds_toArray, List.set_cons_zero, List.set_cons_succ]
  clear n1 n2 n3
  go_loopg [12, 11] n (fun k v12 v11 w' => ∃ (z : Int) (m : Nat) (A' : Option Addr) (c' : Nat), v12 = .int .i64 z ∧ v11 = .slice A' m c' ∧ Aside0 (m + k = n ∧ z = (k : Int) - 1) ∧ Aside0 (Tg w104 (fun _ => False) [] [It.gen (.slice A' m c') 39 3 m (encCs ((comL ens).take m))] w'))
  case atStart => exact ⟨_, 0, none, 0, rfl, rfl, ⟨by omega, by have := HN.out; omega⟩, TL⟩
  case round =>
    clear TL
    obtain ⟨z, m, A1, c1, rfl, rfl, hk, T50⟩ := hrel
    by_cases p : 0 ≤ z
    focus
      obtain ⟨q, rfl⟩ : ∃ q : Nat, z = q := ⟨z.toNat, by omega⟩
      have hq : q < n := by have := hk.out; omega
      have b1 : (0 : Int) ≤ (q : Int) := by omega
      have b2 : (q : Int) < (n : Int) := by omega
      have b3 : (q : Int) ≤ 100 := by have := HN2.out; omega
      have b4 : decide ((0 : Int) ≤ (q : Int)) = true := by simp
      have hql : q < ens.length := by rw [RR.out.len]; exact hq
      obtain ⟨en, hen⟩ : ∃ en, ens[q]? = some en := ⟨_, List.getElem?_eq_getElem hql⟩
      obtain ⟨ad, ea, ec⟩ := (RR.out.below T50.out.fresh).cells q en hen
      subst ea
      obtain ⟨m0, m1, m2, m3, m4, m5, m6, m7⟩ := ec
      have HEN := Aside0.mk hen
      have HQ := Aside0.mk hq
      clear hen hql m1 m2 m5 m6 m7
      go_upto_region 10 with fail
      have s0 := cell_gr m0
      have s3 := cell_gr m3
      have s4 := cell_gr m4
      refine wp_region_hp [0, 1, 2, 3, 4, 5, 6, 7, 8, 9, 10, 11] [12, 13, 14] (by kernel_rfl) (by kernel_rfl) rfl rfl rfl (fun c a d v w h => ?hQ) ?_
      case hQ => cases d <;> exact h
      simp only [pick, List.getElem?_cons_zero, List.getElem?_cons_succ, List.nil_append, List.cons_append]
      repeat (quiet_step (fail))
      refine wpQuiet_nil ?_
      clear s0 s3 s4 m0 m3 m4
      have T51 := Aside0.mk T50.out.drew
      clear T50
      generalize wr.drew = w151 at T51 ⊢
      have hk2 : m ≤ 100 := by have := hk.out; have := HN2.out; omega
      go_wp2_with (first
        | ((with_reducible refine gate_dst (N := 72) rfl ?_); refine tg_box T51 72 rfl rfl [.string en.id, .int .i64 en.er, .int .i64 en.v] 39 3 rfl ?h72 ?_; (case h72 => first | (go_simp; done) | (go_simp; rfl)); intro a72 w152 T52; clear T51)
        | ((with_reducible refine gate_dst (N := 73) rfl ?_); refine tg_push [_] T52 73 rfl rfl rfl Try.underlying31 _ _ info39 rfl (by decide) (by decide) rfl a72 1 1 _ rfl (box_news (T52.out.own (.head _))) (by simp [Value.oneCell']) (by omega) ?_; intro A2 c2 w153 T53; simp only [List.cons_append, List.nil_append] at T53; clear T52; have T54 := Aside0.mk T53.out.ditem; clear T53))
      go_roundg (gk - 1)
      case measure => have := hk.out; omega
      case rel =>
        have hz : gk = q + 1 := by have := hk.out; omega
        have hrow : encCs ((comL ens).take (m + 1)) = encCs ((comL ens).take m) ++ [.string en.id, .int .i64 en.er, .int .i64 en.v] := by
          have hml : m < (comL ens).length := by rw [comL_length, RR.out.len]; have := hk.out; omega
          rw [List.take_succ_eq_append_getElem hml, encCs_append]
          have hg : (comL ens)[m] = comC en := by
            have h1 : ens[q]? = some en := HEN.out
            have h2 : ens.length = n := RR.out.len
            have h3 := hk.out
            simp only [comL, List.getElem_map, List.getElem_reverse]
            congr 1
            have h4 : ens.length - 1 - m = q := by omega
            have h5 := List.getElem?_eq_getElem (l := ens) (i := ens.length - 1 - m) (by omega)
            have h6 : ens[ens.length - 1 - m]? = some en := by rw [h4]; exact h1
            exact Option.some.inj (h5.symm.trans h6)
          rw [hg]
          rfl
        exact ⟨_, m + 1, A2, c2, rfl, rfl, ⟨by have := hk.out; omega, by have := hk.out; omega⟩, ⟨by rw [hrow]; exact T54.out⟩⟩
    have hm : n = m := by have := hk.out; omega
    have b4 : decide (0 ≤ z) = false := by simpa using p
    subst hm
    have hk' : (comL ens).take n = comL ens := List.take_of_length_le (by rw [comL_length, RR.out.len]; exact Nat.le_refl _)
    rw [hk'] at T50
    clear hk' hk
    obtain ⟨al, rfl⟩ : ∃ al, A1 = some al := by
      have h := T50.out.own (.head _)
      obtain ⟨ga, cap, e_, _⟩ := World.ownsRow.form h (by have := HN.out; omega)
      injection e_ with e1_ e2_ e3_
      exact ⟨_, e1_⟩
    have LC : Aside0 (n ≤ c1 ∧ (comL ens).length = n) := ⟨own_le (T50.out.own (.head _)), by rw [comL_length]; exact RR.out.len⟩
    have n100 : n ≤ 100000 := by have := HN2.out; omega
    have N100 := Aside0.mk n100
    clear n100
    go_wp2_with fail
    refine (check_any wr A (some al) n c n c1 ens (comL ens) (RR.out.below T50.out.fresh) N100.out (C_own (T50.out.own (.head _)) LC.out.2) N100.out OK.out).mono ?_
    rintro e_ w201 ⟨rfl, b_⟩
    rw [CK.out]
    have T51 := Aside0.mk (T50.out.call b_)
    clear b_ T50
    go_wp2_with fail
    refine (whole_any w201 A (some al) n c n c1 ens (comL ens) (RR.out.below T51.out.fresh) N100.out (C_own (T51.out.own (.head _)) LC.out.2) N100.out OK.out (comL_ids ens) (by rw [CK.out])).mono ?_
    rintro e_ w202 ⟨rfl, b_⟩
    have T52 := Aside0.mk (T51.out.call b_)
    clear b_ T51
    go_wp2_with fail
    refine (left_any w202 A (some al) n c n c1 ens (comL ens) (RR.out.below T52.out.fresh) N100.out (C_own (T52.out.own (.head _)) LC.out.2) N100.out (comL_ids ens)).mono ?_
    rintro e_ w203 ⟨rfl, b_⟩
    have T53 := Aside0.mk (T52.out.call b_)
    clear b_ T52
    go_upto_region 14 with fail
    have T54 : Aside0 (Tg w104 (fun _ => False) [] [It.gen (.slice none 0 0) 39 3 0 [], It.gen (.slice (some al) n c1) 39 3 n (encCs (comL ens))] w203) := ⟨T53.out.aitem [] (j := It.gen (.slice none 0 0) 39 3 0 []) (ItOk.gen (b := 0) ⟨rfl, .inl ⟨rfl, rfl⟩⟩) (fun k hk => by cases hk) (fun _ _ k hk => by cases hk) (fun _ _ hk => by cases hk)⟩
    clear T53
    have n5 : n ≤ 100 := HN2.out
    go_upto_region 15 with ((with_reducible refine gate_dst (N := 96) rfl ?_); refine tg_push [] T54 96 rfl rfl rfl Try.underlying31 _ _ info39 rfl (by decide) (by decide) rfl al n c1 (encCs (comL ens)) rfl ⟨by rw [encCs_length, LC.out.2], (C_cells (C_own (T54.out.own (.tail _ (.head _))) LC.out.2)).2⟩ (encCs_one _) (by omega) ?_; intro A2 c2 w204 T55; simp only [List.nil_append, Nat.zero_add] at T55; clear T54)
    obtain ⟨am, rfl⟩ : ∃ am, A2 = some am := by
      have h := T55.out.own (.head _)
      obtain ⟨ga, cap, e_, _⟩ := World.ownsRow.form h (by have := HN.out; omega)
      injection e_ with e1_ e2_ e3_
      exact ⟨_, e1_⟩
    have n6 : (n : Int) ≤ 100 := by omega
    have n7 : (1 : Int) ≤ (n : Int) := by have := HN.out; omega
    have n8 : ¬ (n : Int) = 0 := by omega
    have n9 : ¬ n = 0 := by omega
    go_upto_region 17 with fail
    obtain ⟨ia, hia, hia2⟩ : ∃ ia : Nat, a % (n : Int) = (ia : Int) ∧ ia < n := by
      have h1 := Int.emod_nonneg a (b := (n : Int)) (by omega)
      have h2 := Int.emod_lt_of_pos a (b := (n : Int)) (by omega)
      exact ⟨(a % (n : Int)).toNat, by omega, by omega⟩
    obtain ⟨ib, hib, hib2⟩ : ∃ ib : Nat, b % (n : Int) = (ib : Int) ∧ ib < n := by
      have h1 := Int.emod_nonneg b (b := (n : Int)) (by omega)
      have h2 := Int.emod_lt_of_pos b (b := (n : Int)) (by omega)
      exact ⟨(b % (n : Int)).toNat, by omega, by omega⟩
    rw [hia, hib]
    have IA := Aside0.mk hia2
    have IB := Aside0.mk hib2
    have a0 : (0 : Int) ≤ (ia : Int) := by omega
    have a1 : (ia : Int) < (n : Int) := by omega
    have a2 : (ia : Int) ≤ 100 := by omega
    have b0 : (0 : Int) ≤ (ib : Int) := by omega
    have b1 : (ib : Int) < (n : Int) := by omega
    have b2 : (ib : Int) ≤ 100 := by omega
    clear hia hib n5 n6 n7 n8 n9
    obtain ⟨gm, rfl, _⟩ := own_addr (T55.out.own (.head _))
    obtain ⟨_, e1, q0, q1, q2⟩ := at_T39 (C_own (T55.out.own (.tail _ (.head _))) LC.out.2) (ib : Int) b0 b1
    injection e1 with e1
    subst e1
    simp only [Int.toNat_natCast] at q0 q1 q2
    generalize hxb : rd_T39 (comL ens) (ib : Int) = xb at q0 q1 q2
    have XB := Aside0.mk hxb
    clear hxb
    go_upto_region 18 with ((with_reducible refine gate_store (t := 39) (p := 111) rfl ?_); refine tg_set [] T55 (ia * 3) rfl 39 rfl rfl (.agg #[.string xb.f0, .int .i64 xb.f1.f0, .int .i64 xb.f1.f1]) [.string xb.f0, .int .i64 xb.f1.f0, .int .i64 xb.f1.f1] sz39 ?hadr rfl rfl rfl (by rw [encCs_length, LC.out.2]; show ia * 3 + 3 ≤ n * 3; omega) ?_; (case hadr => show Value.pointer (some ⟨gm, ia * 3, none⟩) = Value.pointer (some ⟨gm, 0 + ia * 3, none⟩); rw [Nat.zero_add]); intro cs1 w205 C1 T56; clear T55)
    clear q0 q1 q2
    have E5 : cs1 = encCs ((comL ens).set ia xb) := C1.out.trans (encCs_set (comL ens) ia xb (by rw [LC.out.2]; exact IA.out))
    subst E5
    clear C1
    obtain ⟨_, e1, q0, q1, q2⟩ := at_T39 (C_own (T56.out.own (.tail _ (.head _))) LC.out.2) (ia : Int) a0 a1
    injection e1 with e1
    subst e1
    simp only [Int.toNat_natCast] at q0 q1 q2
    generalize hxa : rd_T39 (comL ens) (ia : Int) = xa at q0 q1 q2
    have XA := Aside0.mk hxa
    clear hxa
    go_upto_region 19 with ((with_reducible refine gate_store (t := 39) (p := 118) rfl ?_); refine tg_set [] T56 (ib * 3) rfl 39 rfl rfl (.agg #[.string xa.f0, .int .i64 xa.f1.f0, .int .i64 xa.f1.f1]) [.string xa.f0, .int .i64 xa.f1.f0, .int .i64 xa.f1.f1] sz39 ?hadr rfl rfl rfl (by rw [encCs_length, List.length_set, LC.out.2]; show ib * 3 + 3 ≤ n * 3; omega) ?_; (case hadr => show Value.pointer (some ⟨gm, ib * 3, none⟩) = Value.pointer (some ⟨gm, 0 + ib * 3, none⟩); rw [Nat.zero_add]); intro cs2 w206 C2 T57; clear T56)
    clear q0 q1 q2
    have E6 : cs2 = encCs (swpL (comL ens) ia ib) := by
      have h1 := XA.out
      have h2 := XB.out
      unfold rd_T39 at h1 h2
      rw [Int.toNat_natCast] at h1 h2
      refine C2.out.trans ((encCs_set ((comL ens).set ia xb) ib xa (by rw [List.length_set, LC.out.2]; exact IB.out)).trans ?_)
      unfold swpL
      rw [h1, h2]
    subst E6
    clear C2
    have P2 : Aside0 ((swpL (comL ens) ia ib).Perm (comL ens) ∧ (swpL (comL ens) ia ib).length = n) := ⟨swpL_perm (by rw [LC.out.2]; exact IA.out) (by rw [LC.out.2]; exact IB.out), by rw [swpL_length]; exact LC.out.2⟩
    generalize swpL (comL ens) ia ib = l2 at P2 T57
    have MC : Aside0 (n ≤ c2) := ⟨own_le (T57.out.own (.head _))⟩
    go_wp2_with fail
    refine (check_any w206 A (some ⟨gm, 0, none⟩) n c n c2 ens l2 (RR.out.below T57.out.fresh) N100.out (C_own (T57.out.own (.head _)) P2.out.2) N100.out OK.out).mono ?_
    rintro e_ w207 ⟨rfl, b_⟩
    have T58 := Aside0.mk (T57.out.call b_)
    clear b_ T57
    go_wp2_with fail
    refine (refcheck_any w207 A (some ⟨gm, 0, none⟩) n c n c2 ens l2 (RR.out.below T58.out.fresh) (by rw [HE.out]; exact Kd.C_below E3.out T58.out.fresh) E2.out N100.out (C_own (T58.out.own (.head _)) P2.out.2) MC.out N100.out OK.out).mono ?_
    rintro e_ w208 ⟨rfl, b_⟩
    have T59 := Aside0.mk (T58.out.call b_)
    clear b_ T58
    go_wp2_with fail
    refine (same_any w208 al ⟨gm, 0, none⟩ n c1 c2 (comL ens) l2 (C_own (T59.out.own (.tail _ (.head _))) LC.out.2) (C_own (T59.out.own (.head _)) P2.out.2) N100.out HN.out P2.out.1).mono ?_
    rintro e_ w209 ⟨rfl, b_⟩
    have T60 := Aside0.mk (T59.out.call b_)
    clear b_ T59
    go_wp2_with fail
    go_ret
    exact ⟨rfl, below_step B4.out T60.out.fresh⟩
end Go.Proofs.Ytakdckaplmoklaa.Ev
end
