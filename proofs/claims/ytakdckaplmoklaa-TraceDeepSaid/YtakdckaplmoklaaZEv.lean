/- A part of the proof of TraceDeepSaid (Ev); laid together by merge2.py. -/
import Derived.Test.YtakdckaplmoklaaZDo
import Derived.Test.YtakdckaplmoklaaZE
import Derived.Laws.Cover1
section
namespace Go.Proofs.Ytakdckaplmoklaa.Ev
open Go.Proofs.YtakdckaplmoklaaHt Go.Sort
open Go.RowKit Go.Proofs.YtakdckaplmoklaaW.PrintWords Go.Proofs.YtakdckaplmoklaaW.PrintLast Go.Proofs.YtakdckaplmoklaaW.PrintMore Go.Proofs.Ytakdckaplmoklaa.PTraceDeep
set_option linter.unusedVariables false
set_option linter.unusedSimpArgs false
section
variable {ws W : World} {M : Nat → Prop} {bs : List (Nat × Array Value × TypeId)} {ops : Array Oper} {rest : List Oper} {o : Oper} {a : Act} {Q : Exit → Act → World → Prop}
theorem tgE_all (pi : List It) {qi : List It} {ad : Addr} {n nn c : Nat} {pre post : List En} {e : En} (T : Aside0 (Tg ws M bs (pi ++ It.gen (.slice (some ad) nn c) 37 8 n (encE (pre ++ e :: post)) :: qi) W)) (m : Nat) (hm : pre.length = m) (hgd : o.guard = none) {p x : Operand} (ho : o.op = .store 37 p x) (hN : o.dst = none) (e' : En)
    (haddr : a.eval p = .pointer (some (ad.add (m * 8)))) (hx : a.eval x = .agg e'.cs.toArray)
    (h : ∀ w1, Aside0 (Tg ws M bs (pi ++ It.gen (.slice (some ad) nn c) 37 8 n (encE (pre ++ e' :: post)) :: qi) w1) → wpList Try.prog ops Q rest a w1) : wpList Try.prog ops Q (o :: rest) a W := by
  obtain ⟨g, rfl, rfl⟩ := own_addr (T.out.own (List.mem_append_right _ (.head _)))
  refine tgE_set pi T m hm 0 hgd 37 ho hN (.agg e'.cs.toArray) e'.cs sz37 ?_ hx (by simp [Value.cells]) ?_ e' (by simp [En.cs]) ?_ h
  · rw [haddr]
    unfold Addr.add
    split <;> simp_all
  · refine List.all_eq_true.2 fun u hu => encE_one [e'] u (by simpa [encE] using hu)
  · simp [En.cs]
end
theorem ints_of_C {W : World} {A : Option Addr} {n : Nat} {xs : List Int} (h : (Kd.int .i64).C W A n xs) : ReadsInt W .i64 A n xs := by
  refine ⟨h.1, h.2.1, fun hn => ?_⟩
  obtain ⟨ad, e, hc⟩ := h.2.2 hn
  refine ⟨ad, e, fun j hj => ?_⟩
  have hl : j < xs.length := by have := h.1; omega
  obtain ⟨c, _, hr, hcell⟩ := hc j _ (List.getElem?_eq_getElem hl)
  have hr : c = [Value.int .i64 xs[j]] := hr
  subst hr
  have := hcell 0 _ rfl
  have e1 : j * (Kd.int .i64).sz + 0 = j := by show j * 1 + 0 = j; omega
  rw [e1] at this
  simpa [List.getD_eq_getElem?_getD, List.getElem?_eq_getElem hl] using this
theorem rd_int {W : World} {b c : Nat} {A : Option Addr} {xs : List Int} (h : W.ownsRow b 3 1 (.slice A xs.length c) xs.length (nums .i64 xs)) : (Kd.int .i64).C W A xs.length xs := by
  obtain ⟨A', c', e', h'⟩ := own_reads_row h (Kd.reps_scalar (enc := Value.int .i64) xs) rfl
  injection e' with e1 e2 e3
  subst e1
  exact h'
theorem ev_reads {ws W : World} {M : Nat → Prop} {bs : List (Nat × Array Value × TypeId)} {ad : Addr} {N c : Nat} {es new : List En} (T : Tg ws M bs (It.gen (.slice (some ad) N c) 37 8 N (encE es) :: itsE new) W) (hp : es.Perm new) (hN : es.length = N) : N ≤ c ∧ Kd.C k37 W (some ad) N (es.map toS) := by
  have h0 := T.own (.head _)
  refine ⟨own_le h0, ?_⟩
  have hr : Reps (k37.K W) 8 (es.map toS) (encE es) := by
    refine ⟨by rw [encE_length, List.length_map], fun j p hj => ?_⟩
    rw [List.getElem?_map, Option.map_eq_some_iff] at hj
    obtain ⟨e, he, rfl⟩ := hj
    have hj : j < es.length := (List.getElem?_eq_some_iff.1 he).1
    have hm : e ∈ new := hp.mem_iff.1 (List.mem_of_getElem? he)
    have hs : es = es.take j ++ e :: es.drop (j + 1) := by
      have : es[j] = e := by rw [List.getElem?_eq_getElem hj] at he; exact Option.some.inj he
      rw [← this, ← List.drop_eq_getElem_cons hj, List.take_append_drop]
    have hv : ((encE es).drop (j * 8)).take 8 = e.cs := by
      conv => lhs; rw [hs]
      have hl : (encE (es.take j)).length = j * 8 := by rw [encE_length, List.length_take]; omega
      rw [encE_append, encE_cons, ← hl, List.drop_left, List.take_left' (by rfl)]
    rw [hv]
    have hi : ∀ i ∈ itE e, i ∈ itsE new := fun i hi => by unfold itsE; exact List.mem_flatMap.2 ⟨e, hm, hi⟩
    have r1 := T.own (.tail _ (hi _ (.head _)))
    have r2 := T.own (.tail _ (hi _ (.tail _ (.head _))))
    exact k37_mk W (toS e) (A2 := e.A) (c2 := e.c) (own_le r1) (rd_int r1) (A7 := e.B) (c7 := e.d) (own_le r2) (rd_int r2)
  obtain ⟨A', c', e', hr'⟩ := own_reads_row h0 hr (by simpa using hN)
  injection e' with e1 e2 e3
  subst e1
  exact hr'
set_option maxHeartbeats 8000000 in
set_option maxRecDepth 100000 in
theorem eval_any (w : World) (AF : Option Addr) (cF : Nat) (fs : List S50) (main : Int) (AA : Option Addr) (cA : Nat) (args : List Int) (fuel tasks : Int) (hF : Kd.C k50 w AF fs.length fs) (hFc : fs.length ≤ cF) (hA : Kd.C (Kd.int .i64) w AA args.length args) (hAc : args.length ≤ cA)
    (kC : Nat) (r1 r2 e : Int) (hC : gleanerref4_Check.f kC fs main args fuel tasks = some (r1, r2, e)) (D : List (List Int)) (hD : e = 0 → fs.length ≤ 1000 ∧ D.length = fs.length ∧ ∀ i : Nat, i < fs.length → ∃ k a b, gleanerref4_depths.f k fs main args fuel tasks (rd_T50 fs i).f0 (rd_T50 fs i).f1 (rd_T50 fs i).f2 (rd_T50 fs i).f3 = some (rd_L7 D i, a, b))
    (hG : e = 0 → KG fs D ∧ 0 ≤ fuel ∧ fuel ≤ 5000 ∧ tasks ≤ 500 ∧ 0 ≤ main ∧ main < fs.length ∧ (args.length : Int) = (rd_T50 fs main).f1) :
    Calls Try.prog 6 #[.agg #[.slice AF fs.length cF, .int .i64 main, .slice AA args.length cA, .int .i64 fuel, .int .i64 tasks]] w fun e' w' =>
      ∃ A n c x, e' = .returned (.tuple #[.slice A n c, .int .i64 x]) ∧ Below w.heap.size w w' ∧ (x = 0 → ∃ es : List S37, es.length = n ∧ n ≤ c ∧ Kd.C k37 w' A n es ∧ EvOk es) := by
  have HF := Aside0.mk hF
  have HA := Aside0.mk hA
  have HC := Aside0.mk hC
  have HD := Aside0.mk hD
  have HG := Aside0.mk hG
  have T0 := Aside0.mk (Tg.start w (fun _ => False))
  clear hF hA hC hD hG
  go_enter Try.func6, Try.ntmps6
  go_wp2_with (first
    | ((with_reducible refine gate_dst (N := 1) rfl ?_); refine tg_new 1 rfl rfl T0 #[.slice AF fs.length cF, .int .i64 main, .slice AA args.length cA, .int .i64 fuel, .int .i64 tasks] 25 ?h1_1 ?_; (case h1_1 => first | (go_simp; done) | (go_simp; rfl)); intro j w101 T1; clear T0; obtain ⟨⟨c_j, f_j⟩, _⟩ := T1.out.cells))
  refine (know_any _ AF cF fs main AA cA args fuel tasks (Kd.C_below HF.out T1.out.fresh) hFc (Kd.C_below HA.out T1.out.fresh) hAc kC r1 r2 e HC.out D HD.out).mono ?_
  rintro e_ w102 ⟨kb_, rfl, b_, kn_⟩
  have T2 := Aside0.mk (T1.out.call b_)
  have KN := Aside0.mk kn_
  clear b_ kn_
  clear c_j f_j T1
  obtain ⟨⟨c_j, f_j⟩, _⟩ := T2.out.cells
  by_cases p : e = 0
  focus
    have b1 : (e != 0) = false := by simpa using p
    have P := Aside0.mk p
    clear p
    obtain ⟨kb, rfl, hkb, hkn⟩ := KN.out P.out
    obtain ⟨hkg, hfu0, hfu1, hta, hm0, hm1, har⟩ := HG.out P.out
    have HKN := Aside0.mk hkn
    have HKG := Aside0.mk hkg
    have HAR := Aside0.mk har
    have KJ := Aside0.mk (T2.out.blk _ (.head _)).1
    have HB0 := Aside0.mk T2.out.fresh
    have HA1 : Aside0 (Kd.C (Kd.int .i64) w102 AA args.length args) := ⟨Kd.C_below HA.out T2.out.fresh⟩
    have T10 := Aside0.mk (Tg.start w102 (fun _ => False))
    clear c_j f_j T2 KN HG hkn hkg har
    go_upto_region 5 with (((with_reducible refine gate_dst (N := 19) rfl ?_); refine tg_new 19 rfl rfl T10 #[.pointer (some ⟨kb, 0, none⟩), .slice none 0 0, .bool false] 56 ?h19_2 ?_; (case h19_2 => first | (go_simp; done) | (go_simp; rfl)); intro ab w103 T11; clear T10; obtain ⟨⟨c_ab, f_ab⟩, _⟩ := T11.out.cells))
    obtain ⟨cj, fj⟩ := blk_cells (blk_below KJ.out T11.out.fresh)
    go_wp2_with fail
    have habn := (T11.out.blk _ (.head _)).2.elim False.elim id
    refine (do_any w102 kb fs D main fuel tasks args HKN.out HKG.out hfu0 hfu1 hta 12 _ ab (.slice none 0 0) [] false ⟨#[]⟩ main AA cA args rfl ⟨by decide, fun i h0 h1 => by have : (⟨#[]⟩ : ByteArray).size = 0 := rfl; omega⟩ T11.out.fresh habn (fun k hk => by cases hk) (T11.out.blk _ (.head _)).1 (World.ownsRow_nil _ 0 37 8) (by simp) hm0 hm1 HAR.out (fun W' C => ints_of_C (Kd.C_below HA1.out (T11.out.fresh.trans ⟨C.os, C.tape, C.output, C.size, fun k hk => C.frame k (Nat.lt_of_lt_of_le hk T11.out.fresh.size) (fun h => h.elim (fun e_ => by omega) (fun h => by cases h))⟩)))).mono ?_
    rintro e_ w104 ⟨er, rv, vE, new, ov, rfl, C_, hl2, DP, hfi⟩
    have TC := Tg.sub_call (bs := []) (i0 := It.gen (.slice none 0 0) 37 8 0 []) (is := []) (T11.out.aitem [] (post := []) (ItOk.gen (World.ownsRow_nil _ 0 37 8)) (fun k hk => by cases hk) (by simp) (fun b hb hk => by cases hk)) C_
    simp only [List.nil_append, List.length_nil, Nat.zero_add] at TC hl2
    have T12 := Aside0.mk TC
    have DPP := Aside0.mk DP
    have HFI := Aside0.mk hfi
    clear c_ab f_ab cj fj T11 TC C_ DP hfi
    obtain ⟨⟨c_ab, f_ab⟩, _⟩ := T12.out.cells
    cases ov with
    | true =>
      go_wp2_with fail
      go_ret2
      exact ⟨none, 0, 0, 30, rfl, HB0.out.trans (T12.out.below (fun _ h => h.elim) HB0.out.size), fun h => by cases h⟩
    | false =>
      go_wp2_with fail
      obtain ⟨adn, cn, rfl, hN1⟩ : ∃ ad c, vE = .slice (some ad) new.length c ∧ 1 ≤ new.length := by
        have h1 : 1 ≤ new.length := by obtain ⟨x, hx, _⟩ := HFI.out (by simp); exact List.length_pos_of_mem hx
        obtain ⟨g, cap, e_, _⟩ := World.ownsRow.form (T12.out.own (.head _)) (by omega)
        exact ⟨_, _, e_, h1⟩
      have TL := T12
      clear c_ab f_ab T12
      try simp only [List.append_eq, List.cons_append, List.nil_append, Act.put, List.setIfInBounds_toArray, List.set_cons_zero, List.set_cons_succ]
      go_loopg [7] (new.length - 1) (fun k v7 w' => ∃ (i : Nat) (es : List En), v7 = .int .i64 (i : Int) ∧ Aside0 (1 ≤ i ∧ i + k = new.length ∧ es.Perm new ∧ es.length = new.length ∧ (es.take i).Pairwise ltE) ∧ Aside0 (Tg w102 (fun _ => False) [(ab, #[.pointer (some ⟨kb, 0, none⟩), .slice (some adn) (List.length new) cn, .bool false], 56)] (It.gen (.slice (some adn) (List.length new) cn) 37 8 (List.length new) (encE (es)) :: itsE new) w'))
      case atStart =>
        refine ⟨1, new, rfl, ⟨by omega, by omega, .refl _, rfl, ?_⟩, TL⟩
        match new, hN1 with
        | x :: _, _ => simp
      case round =>
        clear TL
        obtain ⟨i, es, rfl, hk, T50⟩ := hrel
        obtain ⟨k1, hk1⟩ : ∃ k1, k1 = gk := ⟨_, rfl⟩
        have HK1 := Aside0.mk hk1
        clear hk1
        obtain ⟨⟨c_ab, f_ab⟩, _⟩ := T50.out.cells
        by_cases p : i < new.length
        focus
          have b2 : decide ((i : Int) < (new.length : Int)) = true := by simpa using p
          have b3 : decide (i < new.length) = true := by simpa using p
          have P2 := Aside0.mk p
          clear p
          have hib : (i : Int) ≤ 500 := by have := P2.out; omega
          have hI : i < es.length := by have := hk.out.2.2.2.1; have := P2.out; omega
          have hs : es = es.take i ++ es[i] :: es.drop (i + 1) := by rw [← List.drop_eq_getElem_cons hI, List.take_append_drop]
          have INS : InsP new (es.take i) [] (es.drop (i + 1)) es[i] := ⟨by have h := hk.out.2.2.1; rw [hs] at h; simpa using h, by simpa using hk.out.2.2.2.2, by simp⟩
          have hPl : (es.take i).length = i := by rw [List.length_take]; omega
          have TLB : Aside0 (Tg w102 (fun _ => False) [(ab, #[.pointer (some ⟨kb, 0, none⟩), .slice (some adn) (List.length new) cn, .bool false], 56)] (It.gen (.slice (some adn) (List.length new) cn) 37 8 (List.length new) (encE (es.take i ++ es[i] :: ([] ++ es.drop (i + 1)))) :: itsE new) _) := ⟨by have h := T50.out; rw [hs] at h; simpa using h⟩
          have INS0 := Aside0.mk (And.intro INS hPl)
          generalize es.take i = P0 at INS0 TLB
          generalize es.drop (i + 1) = R0 at INS0 TLB
          generalize es[i] = x0 at INS0 TLB
          clear INS hPl hs T50  c_ab f_ab
          have hi1 := hk.out.1
          have HIK := Aside0.mk hk.out.2.1
          clear hI hk
          obtain ⟨⟨c_ab, f_ab⟩, _⟩ := TLB.out.cells
          go_wp2_with fail
          clear c_ab f_ab
          try simp only [List.append_eq, List.cons_append, List.nil_append, Act.put, List.setIfInBounds_toArray, List.set_cons_zero, List.set_cons_succ]
          go_loopg [8] i (fun k v8 w' => ∃ (m : Int) (P Q R : List En) (x : En), v8 = .int .i64 m ∧ Aside0 ((k : Int) = m ∧ P.length = m.toNat ∧ 0 ≤ m ∧ P.length + Q.length = i ∧ InsP new P Q R x) ∧ Aside0 (Tg w102 (fun _ => False) [(ab, #[.pointer (some ⟨kb, 0, none⟩), .slice (some adn) (List.length new) cn, .bool false], 56)] (It.gen (.slice (some adn) (List.length new) cn) 37 8 (List.length new) (encE (P ++ x :: (Q ++ R))) :: itsE new) w'))
          case atStart => exact ⟨i, P0, [], R0, x0, rfl, ⟨rfl, by have := INS0.out.2; omega, by omega, by have := INS0.out.2; simpa using this, INS0.out.1⟩, TLB⟩
          case round =>
            clear TLB INS0
            obtain ⟨m, P, Q, R, x, rfl, hk, T70⟩ := hrel
            obtain ⟨⟨c_ab, f_ab⟩, _⟩ := T70.out.cells
            rcases List.eq_nil_or_concat P with rfl | ⟨P', p, rfl⟩
            · have hm0 : m = 0 := by have h1 := hk.out.2.1; have h2 := hk.out.2.2.1; have h3 : ([] : List En).length = 0 := rfl; omega
              subst hm0
              go_upto_region 12 with (fail)
              go_quiet (fail)
              clear c_ab f_ab
              have T71 := Aside0.mk (T70.out.drewN nq)
              clear T70
              generalize wr.drewN nq = w171 at T71 ⊢
              obtain ⟨⟨c_ab, f_ab⟩, _⟩ := T71.out.cells
              go_wp2_with fail
              go_roundg (k1 - 1)
              case measure => have := HK1.out; have := HIK.out; have := P2.out; omega
              case rel =>
                refine ⟨i + 1, [] ++ x :: (Q ++ R), by simp, ⟨by omega, by have := HK1.out; have := HIK.out; have := P2.out; omega, ?_, ?_, ?_⟩, T71⟩
                · have h := hk.out.2.2.2.2.perm; simpa using h
                · have h := hk.out.2.2.2.2.perm.length_eq; simpa using h
                · have h := hk.out.2.2.2.2.done (by simp); have h2 := hk.out.2.2.2.1; simp at h2; have e3 : (([] : List En) ++ x :: (Q ++ R)).take (i + 1) = x :: Q := by simp [← h2]
                  rw [e3]; simpa using h
            · simp only [List.concat_eq_append] at hk T70
              have hlen : P'.length + 1 = m.toNat := by have := hk.out.2.1; simpa using this
              have hm1 : 0 < m := by omega
              have hPQ : P'.length + 1 + Q.length = i := by have := hk.out.2.2.2.1; simpa using this
              have PP := P2.out
              have hm2 : m < (new.length : Int) := by omega
              have hm3 : m - 1 < (new.length : Int) := by omega
              have hm4 : 0 ≤ m - 1 := by omega
              have hm5 : 0 ≤ m := by omega
              have hm6 : m ≤ 500 := by omega
              have hm7 : 1 ≤ m := by omega
              have hwr : IntKind.i64.wrap (m - 1) = m - 1 := IntWalk.i64_in _ (by omega)
              have b4 : decide (0 < m) = true := by simpa using hm1
              have INS := Aside0.mk hk.out.2.2.2.2
              have HKm : Aside0 ((gk : Int) = m) := ⟨hk.out.1⟩
              have LEN := Aside0.mk (And.intro hlen hPQ)
              clear hk hlen hPQ PP
              have T71 : Aside0 (Tg w102 (fun _ => False) [(ab, #[.pointer (some ⟨kb, 0, none⟩), .slice (some adn) (List.length new) cn, .bool false], 56)] (It.gen (.slice (some adn) (List.length new) cn) 37 8 (List.length new) (encE (P' ++ p :: (x :: (Q ++ R)))) :: itsE new) wr) := ⟨by have h := T70.out; rw [List.append_assoc] at h; exact h⟩
              clear c_ab f_ab T70
              obtain ⟨⟨c_ab, f_ab⟩, _⟩ := T71.out.cells
              have ECx := E_cells (pre := P' ++ [p]) (e := x) (post := Q ++ R) (m := m.toNat) (by have h := T71.out.own (.head _); rw [show P' ++ p :: (x :: (Q ++ R)) = (P' ++ [p]) ++ x :: (Q ++ R) by simp] at h; exact h) (by have := LEN.out.1; simpa using this)
              have ECp := E_cells (pre := P') (e := p) (post := x :: (Q ++ R)) (m := m.toNat - 1) (T71.out.own (.head _)) (by have := LEN.out.1; omega)
              obtain ⟨x0, _⟩ := ECx
              obtain ⟨p0, _⟩ := ECp
              have hne : x.id ≠ p.id := INS.out.ne DPP.out.nodup
              have c2 : (p.id.toList == x.id.toList) = false := by
                refine Bool.eq_false_iff.2 fun h => hne ?_
                have h := eq_of_beq h
                rw [toList_data, toList_data] at h
                exact (ba_ext h).symm
              have HNE := Aside0.mk hne
              clear hne
              by_cases hlt : lessId x.id p.id
              · have c1 : Op.bytesLess p.id.toList x.id.toList = false := Bool.eq_false_iff.2 fun h => lessId_irrefl _ (lessId_trans hlt h)
                have HLT := Aside0.mk hlt
                clear hlt
                go_upto_region 12 with (fail)
                go_quiet (fail)
                clear c_ab f_ab
                have T72 := Aside0.mk (T71.out.drewN nq)
                clear T71
                generalize wr.drewN nq = w171 at T72 ⊢
                obtain ⟨⟨c_ab, f_ab⟩, _⟩ := T72.out.cells
                clear x0 p0
                go_upto_region 14 with (fail)
                refine wp_region_tp [0, 1, 2, 3, 4, 5, 6, 7, 8, 9, 11, 12, 13, 14, 15, 16, 17, 18, 19, 20, 21, 22, 23, 24, 25] [10, 26, 27, 28, 29] (by kernel_rfl) (by kernel_rfl) rfl rfl (fun c a d v w h => ?hQt) ?_
                case hQt => cases d <;> exact h
                obtain ⟨g_ab, _⟩ := T72.out.gr
                have ECx := E_cells (pre := P' ++ [p]) (e := x) (post := Q ++ R) (m := m.toNat) (by have h := T72.out.own (.head _); rw [show P' ++ p :: (x :: (Q ++ R)) = (P' ++ [p]) ++ x :: (Q ++ R) by simp] at h; exact h) (by have := LEN.out.1; simpa using this)
                have ECp := E_cells (pre := P') (e := p) (post := x :: (Q ++ R)) (m := m.toNat - 1) (T72.out.own (.head _)) (by have := LEN.out.1; omega)
                obtain ⟨x0, x1, x2, x3, x4, x5, x6, x7⟩ := ECx
                obtain ⟨p0, p1, p2, p3, p4, p5, p6, p7⟩ := ECp
                have sx0 := cell_gr x0
                clear x0
                have sx1 := cell_gr x1
                clear x1
                have sx2 := cell_gr x2
                clear x2
                have sx3 := cell_gr x3
                clear x3
                have sx4 := cell_gr x4
                clear x4
                have sx5 := cell_gr x5
                clear x5
                have sx6 := cell_gr x6
                clear x6
                have sx7 := cell_gr x7
                clear x7
                have sp0 := cell_gr p0
                clear p0
                have sp1 := cell_gr p1
                clear p1
                have sp2 := cell_gr p2
                clear p2
                have sp3 := cell_gr p3
                clear p3
                have sp4 := cell_gr p4
                clear p4
                have sp5 := cell_gr p5
                clear p5
                have sp6 := cell_gr p6
                clear p6
                have sp7 := cell_gr p7
                clear p7
                simp only [pick, List.getElem?_cons_zero, List.getElem?_cons_succ, List.nil_append, List.cons_append]
                repeat (quiet_step (fail))
                refine wpQuiet_nil ?_
                clear g_ab sx0 sp0 sx1 sp1 sx2 sp2 sx3 sp3 sx4 sp4 sx5 sp5 sx6 sp6 sx7 sp7
                clear c_ab f_ab
                have T73 := Aside0.mk (T72.out.drew)
                clear T72
                generalize w171.drew = w172 at T73 ⊢
                obtain ⟨⟨c_ab, f_ab⟩, _⟩ := T73.out.cells
                show wpTail _ _ _ _ _ _ _
                refine tail_calm 10 (by decide +kernel) (by decide +kernel) rfl rfl rfl (fun c a d v w h => by cases d <;> exact h) ?_
                go_wp2_with fail
                show wpTail _ _ _ _ _ _ _
                refine tail_one 26 (by decide +kernel) rfl rfl ?_
                go_wp2_with fail
                show wpTail _ _ _ _ _ _ _
                refine tail_one 27 (by decide +kernel) rfl rfl ?_
                go_wp2_with (first | ((with_reducible refine gate_store (t := 37) (p := 90) rfl ?_); refine tgE_all [] (pre := P') (post := x :: (Q ++ R)) (e := p) T73 (m.toNat - 1) (by have := LEN.out.1; omega) rfl rfl rfl x rfl rfl ?_; intro w173 Tn; have T74 : Aside0 (Tg w102 (fun _ => False) [(ab, #[.pointer (some ⟨kb, 0, none⟩), .slice (some adn) (List.length new) cn, .bool false], 56)] (It.gen (.slice (some adn) (List.length new) cn) 37 8 (List.length new) (encE ((P' ++ [x]) ++ x :: (Q ++ R))) :: itsE new) w173) := ⟨by have h := Tn.out; rw [List.append_assoc]; exact h⟩; clear Tn  c_ab f_ab T73; obtain ⟨⟨c_ab, f_ab⟩, _⟩ := T74.out.cells))
                show wpTail _ _ _ _ _ _ _
                refine tail_one 28 (by decide +kernel) rfl rfl ?_
                go_wp2_with fail
                show wpTail _ _ _ _ _ _ _
                refine tail_one 29 (by decide +kernel) rfl rfl ?_
                go_wp2_with (first | ((with_reducible refine gate_store (t := 37) (p := 91) rfl ?_); refine tgE_all [] (pre := P' ++ [x]) (post := Q ++ R) (e := x) T74 (m.toNat) (by have := LEN.out.1; simpa using this) rfl rfl rfl p rfl rfl ?_; intro w174 Tn; have T75 : Aside0 (Tg w102 (fun _ => False) [(ab, #[.pointer (some ⟨kb, 0, none⟩), .slice (some adn) (List.length new) cn, .bool false], 56)] (It.gen (.slice (some adn) (List.length new) cn) 37 8 (List.length new) (encE (P' ++ x :: ((p :: Q) ++ R))) :: itsE new) w174) := ⟨by have h := Tn.out; rw [List.nil_append, List.append_assoc] at h; exact h⟩; clear Tn  c_ab f_ab T74; obtain ⟨⟨c_ab, f_ab⟩, _⟩ := T75.out.cells))
                show wpTail _ _ _ _ _ _ _
                refine tail_nil ?_
                go_wp2_with fail
                go_roundg (m.toNat - 1)
                case measure => have := HKm.out; omega
                case rel => exact ⟨m - 1, P', p :: Q, R, x, rfl, ⟨by omega, by have := LEN.out.1; omega, by omega, by have := LEN.out.2; simp; omega, INS.out.swap HLT.out⟩, T75⟩
              · have c1 : Op.bytesLess p.id.toList x.id.toList = true := lessId_total hlt HNE.out
                have HLT := Aside0.mk hlt
                clear hlt
                go_upto_region 12 with (fail)
                go_quiet (fail)
                clear c_ab f_ab
                have T72 := Aside0.mk (T71.out.drewN nq)
                clear T71
                generalize wr.drewN nq = w171 at T72 ⊢
                obtain ⟨⟨c_ab, f_ab⟩, _⟩ := T72.out.cells
                clear x0 p0
                go_wp2_with fail
                go_roundg (k1 - 1)
                case measure => have := HK1.out; have := HIK.out; have := P2.out; omega
                case rel =>
                  refine ⟨i + 1, P' ++ p :: (x :: (Q ++ R)), by simp, ⟨by omega, by have := HK1.out; have := HIK.out; have := P2.out; omega, ?_, ?_, ?_⟩, T72⟩
                  · have h := INS.out.perm; simpa using h
                  · have h := INS.out.perm.length_eq; simpa using h
                  · have h := INS.out.stop DPP.out.nodup HLT.out; have h2 := LEN.out.2
                    have e3 : (P' ++ p :: (x :: (Q ++ R))).take (i + 1) = (P' ++ [p]) ++ x :: Q := by
                      rw [show P' ++ p :: (x :: (Q ++ R)) = (P' ++ [p] ++ x :: Q) ++ R by simp]
                      exact List.take_left' (by simp; omega)
                    rw [e3]; exact h
        have b2 : decide ((i : Int) < (new.length : Int)) = false := by simp; omega
        have b3 : decide (i < new.length) = false := by simp; omega
        have P2 := Aside0.mk p
        clear p
        go_wp2_with fail
        go_ret2
        have hi : i = es.length := by have := hk.out.2.1; have := hk.out.2.2.2.1; have := P2.out; omega
        have hs := hk.out.2.2.2.2
        rw [hi, List.take_length] at hs
        obtain ⟨q1, q2⟩ := ev_reads T50.out hk.out.2.2.1 hk.out.2.2.2.1
        exact ⟨_, _, _, 0, rfl, HB0.out.trans (T50.out.below (fun _ h => h.elim) HB0.out.size), fun _ => ⟨es.map toS, by rw [List.length_map]; exact hk.out.2.2.2.1, q1, q2, EvOk.of hk.out.2.2.1 hs DPP.out (HFI.out (by simp))⟩⟩
  have b1 : (e != 0) = true := by simpa using p
  have P := Aside0.mk p
  clear p
  go_wp2_with fail
  go_ret2
  exact ⟨none, 0, 0, e, rfl, T2.out.fresh, fun h => absurd h P.out⟩
end Go.Proofs.Ytakdckaplmoklaa.Ev
end
