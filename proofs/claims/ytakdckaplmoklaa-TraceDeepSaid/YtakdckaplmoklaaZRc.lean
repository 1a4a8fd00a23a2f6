/- A part of the proof of TraceDeepSaid (Rc); laid together by merge2.py. -/
import Derived.Test.YtakdckaplmoklaaZCk
import Derived.Test.YtakdckaplmoklaaZH
section
namespace Go.Proofs.Ytakdckaplmoklaa.Ev
open Go.Proofs.YtakdckaplmoklaaHt Go.Sort
open Go.RowKit Go.Proofs.YtakdckaplmoklaaW.PrintWords Go.Proofs.YtakdckaplmoklaaW.PrintLast Go.Proofs.YtakdckaplmoklaaW.PrintMore Go.Proofs.Ytakdckaplmoklaa.PTraceDeep
set_option linter.unusedVariables false
set_option linter.unusedSimpArgs false
theorem same_id {a b : ByteArray} : a.toList = b.toList ↔ a = b := by
  rw [toList_data, toList_data]
  exact ⟨ba_ext, fun h => by rw [h]⟩
theorem find_from (ens : List En) (s : ByteArray) (hl : ens.length ≤ 100000) : ∀ (n i : Nat), i + n = ens.length → (∀ j, j < i → ∀ e, ens[j]? = some e → e.id ≠ s) →
    (fstE ens s = none → gleanerref14_find.l0 (n + 1) (ens.map toS) s i = some (-1)) ∧ ∀ e, fstE ens s = some e → ∃ j : Nat, ens[j]? = some e ∧ gleanerref14_find.l0 (n + 1) (ens.map toS) s i = some (j : Int)
  | 0, i, h, hno => by
    have h1 : ¬ (i : Int) < ((ens.map toS).length : Int) := by rw [List.length_map]; omega
    refine ⟨fun _ => by unfold gleanerref14_find.l0; rw [if_neg h1], fun e he => ?_⟩
    obtain ⟨hm, hid⟩ := fstE_mem he
    obtain ⟨j, hj⟩ := List.mem_iff_getElem?.1 hm
    have := (List.getElem?_eq_some_iff.1 hj).1
    exact absurd hid (hno j (by omega) e hj)
  | n + 1, i, h, hno => by
    have h1 : (i : Int) < ((ens.map toS).length : Int) := by rw [List.length_map]; omega
    have hi : i < ens.length := by omega
    have h2 : (0 : Int) ≤ (i : Int) := by omega
    have hr : (rd_T37 (ens.map toS) (i : Int)).f0 = ens[i].id := by simp [rd_T37, List.getD_eq_getElem?_getD, List.getElem?_eq_getElem hi, toS]
    have hw : wrap64 ((i : Int) + 1) = ((i + 1 : Nat) : Int) := by rw [wrap_succ' _ h2 (by omega)]; rfl
    by_cases hs : ens[i].id = s
    · have h3 : (rd_T37 (ens.map toS) (i : Int)).f0.toList = s.toList := same_id.2 (hr.trans hs)
      have hstep : gleanerref14_find.l0 (n + 1 + 1) (ens.map toS) s i = some (i : Int) := by
        unfold gleanerref14_find.l0
        rw [if_pos h1, if_pos h2, if_pos h3]
      have hf : fstE ens s = some ens[i] := by
        unfold fstE
        rw [List.find?_eq_some_iff_append]
        refine ⟨by simpa using hs, ens.take i, ens.drop (i + 1), by rw [← List.drop_eq_getElem_cons hi, List.take_append_drop], fun a ha => ?_⟩
        obtain ⟨j, hj⟩ := List.mem_iff_getElem?.1 ha
        rw [List.getElem?_take] at hj
        split at hj
        · rename_i hlt
          simpa using hno j hlt a hj
        · cases hj
      refine ⟨fun hn => (by rw [hf] at hn; cases hn), fun e he => ?_⟩
      rw [hf] at he
      injection he with he
      subst he
      exact ⟨i, List.getElem?_eq_getElem hi, hstep⟩
    · have h3 : ¬ (rd_T37 (ens.map toS) (i : Int)).f0.toList = s.toList := fun h => hs (hr ▸ same_id.1 h)
      have hstep : gleanerref14_find.l0 (n + 1 + 1) (ens.map toS) s i = gleanerref14_find.l0 (n + 1) (ens.map toS) s ((i + 1 : Nat) : Int) := by
        conv => lhs; unfold gleanerref14_find.l0
        rw [if_pos h1, if_pos h2, if_neg h3, hw]
      rw [hstep]
      refine find_from ens s hl n (i + 1) (by omega) fun j hj e he => ?_
      by_cases hji : j = i
      · subst hji
        rw [List.getElem?_eq_getElem hi] at he
        injection he with he
        rw [← he]
        exact hs
      · exact hno j (by omega) e he
theorem comm_from (l : List S39) (s : ByteArray) (hl : l.length ≤ 100000) : ∀ (n i : Nat), i + n = l.length → gleanerref14_committed.l0 (n + 1) l s i = some (decide (s ∈ (l.drop i).map S39.f0))
  | 0, i, h => by
    have h1 : ¬ (i : Int) < (l.length : Int) := by omega
    unfold gleanerref14_committed.l0
    rw [if_neg h1, List.drop_eq_nil_of_le (by omega)]
    simp
  | n + 1, i, h => by
    have h1 : (i : Int) < (l.length : Int) := by omega
    have hi : i < l.length := by omega
    have h2 : (0 : Int) ≤ (i : Int) := by omega
    have hr : (rd_T39 l (i : Int)) = l[i] := by simp [rd_T39, List.getD_eq_getElem?_getD, List.getElem?_eq_getElem hi]
    have hw : wrap64 ((i : Int) + 1) = ((i + 1 : Nat) : Int) := by rw [wrap_succ' _ h2 (by omega)]; rfl
    have hd : l.drop i = l[i] :: l.drop (i + 1) := List.drop_eq_getElem_cons hi
    unfold gleanerref14_committed.l0
    rw [if_pos h1, if_pos h2, hr, hw, comm_from l s hl n (i + 1) (by omega), hd]
    by_cases hs : l[i].f0 = s
    · rw [if_pos (same_id.2 hs), List.map_cons]
      exact congrArg some (decide_eq_true (by rw [hs]; exact List.mem_cons_self)).symm
    · rw [if_neg (fun h => hs (same_id.1 h))]
      have : ¬ s = l[i].f0 := fun h => hs h.symm
      congr 1
      rw [List.map_cons]
      exact decide_eq_decide.2 (by simp [this])
theorem comm_ok (l : List S39) (s : ByteArray) (hl : l.length ≤ 100000) : gleanerref14_committed.f (l.length + 1) l s = some (decide (s ∈ l.map S39.f0)) := comm_from l s hl l.length 0 (by omega)
theorem same_ok (a b c d : Int) : gleanerref14_sameResult.f a b c d = some (decide (a = c ∧ b = d)) := by
  unfold gleanerref14_sameResult.f
  by_cases h : a = c
  · rw [if_pos h]
    by_cases h2 : b = d <;> simp [h, h2]
  · rw [if_neg h]; simp [h]
theorem C_take {α : Type} {d : Kd α} {W : World} {A : Option Addr} {n m : Nat} {xs : List α} (h : Kd.C d W A n xs) (hm : m ≤ n) : Kd.C d W A (xs.take m).length (xs.take m) := by
  have hl : (xs.take m).length = m := by rw [List.length_take, h.1]; omega
  refine ⟨rfl, by rw [hl]; exact Nat.le_trans hm h.2.1, fun hn => ?_⟩
  rw [hl] at hn
  obtain ⟨ad, e, hc⟩ := h.2.2 (by omega)
  refine ⟨ad, e, fun j p hj => hc j p ?_⟩
  rw [List.getElem?_take] at hj
  split at hj
  · exact hj
  · cases hj
theorem slice_run (t e : TypeId) (i : TypeInfo) (hi : Try.prog.info? e = some i) (ht : Try.prog.underlying t = some (.slice e)) (A : Option Addr) (n c j : Nat) (hj : j ≤ n) (hc : n ≤ c) (W : World) : (Instr.slice t (.slice A n c) none (some (.int .i64 (j : Int))) none).run Try.prog W = .ok (.slice A j c) W := by
  have hel : Try.prog.elem t = e := by simp [Program.elem, ht]
  have hu : Try.prog.underlying t = some (.slice (Try.prog.elem t)) := by rw [hel]; exact ht
  have ha : (A.map fun x => x.add 0) = A := by cases A <;> simp [Addr.add]
  rw [run_slice_h W t A n c hu .i64 (j : Int) (by omega) (by omega), hel]
  simp [sizeOf, typeInfo, hi, sliced, Result.andThen, ha]
theorem slice31 (A : Option Addr) (n c j : Nat) (hj : j ≤ n) (hc : n ≤ c) (W : World) : (Instr.slice 31 (.slice A n c) none (some (.int .i64 (j : Int))) none).run Try.prog W = .ok (.slice A j c) W := by
  obtain ⟨i, hi, hs⟩ := Option.map_eq_some_iff.1 sz39
  exact slice_run 31 39 i hi Try.underlying31 A n c j hj hc W
set_option maxHeartbeats 8000000 in
set_option maxRecDepth 100000 in
theorem refcheck_any (w : World) (A B : Option Addr) (n c m d : Nat) (ens : List En) (l : List S39) (hR : RE w A n ens) (hC : Kd.C k37 w A n (ens.map toS)) (hnc : n ≤ c) (hn : n ≤ 100000) (hL : Kd.C k39 w B m l) (hmd : m ≤ d) (hm : m ≤ 100000) (hok : ∀ e ∈ ens, EntOk e ∧ e.aw.length ≤ 100000) :
    Calls Try.prog 10 #[.slice A n c, .slice B m d] w fun r w' => r = .returned (.tuple #[.int .i64 (chk ens [] 0 l).1, .bool (chk ens [] 0 l).2]) ∧ Below w.heap.size w w' := by
  have HR := Aside0.mk hR
  have HL := Aside0.mk hL
  have OK := Aside0.mk hok
  have HLL : Aside0 (l.length = m) := ⟨hL.1⟩
  have HEL : Aside0 (ens.length = n) := ⟨hR.len⟩
  have FC : Aside0 (∀ (K : Nat) (r : Int) (s : ByteArray) (W : World), Below w.heap.size w W → gleanerref14_find.f K (ens.map toS) s = some r → Calls Try.prog 17 #[.slice A n c, .string s] W fun e w' => e = .returned (.int .i64 r) ∧ Drawn0 W w') := ⟨fun K r s W b h => by
    have hl : (ens.map toS).length = n := hC.1
    have h1 := gleanerref14_find.calls K A c (ens.map toS) s r W (by rw [hl]; exact Kd.C_below hC b) (by rw [hl]; exact hnc) h
    rw [hl] at h1
    exact h1⟩
  have CC : Aside0 (∀ (i : Nat) (s : ByteArray) (W : World), i ≤ m → Below w.heap.size w W → Calls Try.prog 19 #[.slice B i d, .string s] W fun e w' => e = .returned (.bool (decide (s ∈ (l.take i).map S39.f0))) ∧ Drawn0 W w') := ⟨fun i s W hi b => by
    have hl : (l.take i).length = i := by rw [List.length_take, hL.1]; omega
    have h1 := gleanerref14_committed.calls ((l.take i).length + 1) B d (l.take i) s _ W (C_take (Kd.C_below hL b) hi) (by rw [hl]; omega) (comm_ok (l.take i) s (by rw [hl]; omega))
    rw [hl] at h1
    exact h1⟩
  have B0 := Aside0.mk (Below.refl w.heap.size w)
  clear hR hL hok hC
  go_enter Try.func10, Try.ntmps10
  go_wp2_with fail
  try simp only [List.append_eq, List.cons_append, List.nil_append, Act.put, List.setIfInBounds_toArray, List.set_cons_zero, List.set_cons_succ]
  go_loopg [6] m (fun k v6 w' => ∃ (i : Nat), v6 = .int .i64 (i : Int) ∧ Aside0 (i + k = m ∧ chk ens [] 0 l = chk ens ((l.take i).map S39.f0) i (l.drop i)) ∧ Aside0 (Below w.heap.size w w'))
  case atStart => exact ⟨0, rfl, ⟨by omega, rfl⟩, B0⟩
  case round =>
    clear B0
    obtain ⟨i, rfl, hk, B1⟩ := hrel
    by_cases p : i < m
    focus
      have b1 : decide ((i : Int) < (m : Int)) = true := by simpa using p
      have b2 : decide (i < m) = true := by simpa using p
      have i0 : (0 : Int) ≤ (i : Int) := by omega
      have i1 : (i : Int) < (m : Int) := by omega
      have i2 : (i : Int) ≤ 100000 := by omega
      have hil : i < l.length := by have := HLL.out; omega
      obtain ⟨ad, eb, m0, m1, m2⟩ := at_T39 HL.out (i : Int) i0 i1
      subst eb
      have er : rd_T39 l (i : Int) = l[i] := by simp [rd_T39, List.getD_eq_getElem?_getD, List.getElem?_eq_getElem hil]
      simp only [Int.toNat_natCast, er] at m0 m1 m2
      have htk : (l.take (i + 1)).map S39.f0 = (l.take i).map S39.f0 ++ [l[i].f0] := by rw [List.take_succ_eq_append_getElem hil, List.map_append]; rfl
      have hdr : l.drop i = l[i] :: l.drop (i + 1) := List.drop_eq_getElem_cons hil
      generalize l[i] = x at m0 m1 m2 htk hdr er
      have HT := Aside0.mk (And.intro htk hdr)
      have P := Aside0.mk p
      have M0 := Aside0.mk m0
      have M1 := Aside0.mk m1
      have M2 := Aside0.mk m2
      clear p htk hdr er hil m0 m1 m2
      obtain ⟨hk1, hk2⟩ := hk.out
      rw [HT.out.2] at hk2
      rw [chk_cons] at hk2
      have HC := Aside0.mk hk2
      clear hk2
      have hi2 : i ≤ m := by omega
      have hid1 : i ≤ d := by omega
      have hid2 : (i : Int) ≤ (d : Int) := by omega
      have HSL : Aside0 (∀ W, (Instr.slice 31 (.slice (some ad) m d) none (some (.int .i64 (i : Int))) none).run Try.prog W = .ok (.slice (some ad) i d) W) := ⟨fun W => slice31 _ m d i (by omega) hmd W⟩
      have q0 := pw_cell_below B1.out M0.out
      have hfind := find_from ens x.f0 (by have := HEL.out; omega) ens.length 0 (by omega) (by intro j hj; omega)
      go_wp2_with fail
      cases hf : fstE ens x.f0 with
      | none =>
        refine (FC.out _ _ x.f0 _ B1.out (hfind.1 hf)).mono ?_
        rintro e_ w1 ⟨rfl, nq1, rfl⟩
        have B2 := Aside0.mk (pw_below_drewN B1.out nq1)
        have HFI := Aside0.mk hf
        clear hf hfind q0 B1
        generalize wr.drewN nq1 = w1 at B2 ⊢
        go_upto_region 5 with (fail)
        go_quiet (fail)
        go_wp2_with fail
        go_ret2
        have hc : okC ens ((l.take i).map S39.f0) x = false := by unfold okC; rw [HFI.out]
        have h := HC.out
        rw [if_neg (by rw [hc]; simp)] at h
        exact ⟨by rw [h]; rfl, pw_below_drewN B2.out _⟩
      | some e =>
        obtain ⟨j, hj, hfj⟩ := hfind.2 e hf
        refine (FC.out _ _ x.f0 _ B1.out hfj).mono ?_
        rintro e_ w1 ⟨rfl, nq1, rfl⟩
        have B2 := Aside0.mk (pw_below_drewN B1.out nq1)
        have HFI := Aside0.mk hf
        have HJ := Aside0.mk hj
        have hjl : j < n := by have := (List.getElem?_eq_some_iff.1 hj).1; have := HEL.out; omega
        have j0 : (0 : Int) ≤ (j : Int) := by omega
        have j1 : (j : Int) < (n : Int) := by omega
        have j2 : decide ((j : Int) < 0) = false := by simp
        obtain ⟨ad2, ea, ec⟩ := HR.out.cells j e hj
        subst ea
        obtain ⟨hem, hid⟩ := fstE_mem hf
        have EC := Aside0.mk ec
        have HEM := Aside0.mk (And.intro hem hid)
        clear hf hfind q0 B1 hj hfj ec hem hid
        generalize wr.drewN nq1 = w1 at B2 ⊢
        go_upto_region 5 with (fail)
        by_cases h1 : e.er = x.f1.f0 ∧ e.v = x.f1.f1
        focus
          have H1 := Aside0.mk h1
          clear h1
          by_cases hs : x.f0 ∈ (l.take i).map S39.f0
          focus
            have HS := Aside0.mk hs
            clear hs
            refine wp_region_tp [0, 1, 2, 3, 4, 5, 6, 7, 8, 9, 10, 11, 12] [13, 14, 15, 16, 17, 18, 19, 20, 21, 22, 23, 24, 25, 26] (by kernel_rfl) (by kernel_rfl) rfl rfl (fun c a d v w h => ?hQt) ?_
            case hQt => cases d <;> exact h
            have s1 := cell_gr (pw_cell_below B2.out M1.out)
            have s2 := cell_gr (pw_cell_below B2.out M2.out)
            have t3 := cell_gr (pw_cell_below B2.out EC.out.2.2.2.1)
            have t4 := cell_gr (pw_cell_below B2.out EC.out.2.2.2.2.1)
            simp only [pick, List.getElem?_cons_zero, List.getElem?_cons_succ, List.nil_append, List.cons_append]
            repeat (quiet_step (fail))
            refine wpQuiet_nil ?_
            clear s1 s2 t3 t4
            have B := Aside0.mk (below_drew B2.out)
            clear B2
            generalize w1.drew = w2 at B ⊢
            show wpTail _ _ _ _ _ _ _
            refine tail_one 13 (by decide +kernel) rfl rfl ?_
            go_wp2_with fail
            refine (gleanerref14_sameResult.calls e.er e.v x.f1.f0 x.f1.f1 _ _ (same_ok _ _ _ _)).mono ?_
            rintro e_ wn ⟨rfl, b_⟩
            rw [decide_eq_true H1.out]
            have Bn := Aside0.mk (below_step B.out b_)
            clear B b_
            have B := Bn
            clear Bn
            have q0 := pw_cell_below B.out M0.out
            have sl := HSL.out wn
            go_wp2_with fail
            show wpTail _ _ _ _ _ _ _
            refine tail_one 14 (by decide +kernel) rfl rfl ?_
            go_wp2_with fail
            show wpTail _ _ _ _ _ _ _
            refine tail_one 15 (by decide +kernel) rfl rfl ?_
            go_wp2_with fail
            show wpTail _ _ _ _ _ _ _
            refine tail_one 16 (by decide +kernel) rfl rfl ?_
            go_wp2_with fail
            show wpTail _ _ _ _ _ _ _
            refine tail_mid [17, 18, 19, 20, 21, 22, 23, 24] [25, 26] (by kernel_rfl) (List.Perm.refl _) rfl rfl rfl ?_
            simp only [pick, List.getElem?_cons_zero, List.getElem?_cons_succ, List.nil_append, List.cons_append]
            repeat (quiet_step (fail))
            refine wpQuiet_nil ?_
            show wpTail _ _ _ _ _ _ _
            refine tail_one 25 (by decide +kernel) rfl rfl ?_
            go_wp2_with fail
            refine (CC.out i x.f0 _ hi2 B.out).mono ?_
            rintro e_ wn ⟨rfl, nq3, rfl⟩
            rw [decide_eq_true HS.out]
            have Bn := Aside0.mk (pw_below_drewN B.out nq3)
            clear B
            have B := Bn
            clear Bn
            go_wp2_with fail
            show wpTail _ _ _ _ _ _ _
            refine tail_one 26 (by decide +kernel) rfl rfl ?_
            go_wp2_with fail
            show wpTail _ _ _ _ _ _ _
            refine tail_nil ?_
            go_wp2_with fail
            go_ret2
            have hc : okC ens ((l.take i).map S39.f0) x = false := by rw [okC_some HFI.out, decide_eq_true HS.out]; simp only [Bool.not_true, Bool.and_false, Bool.false_and]
            have h := HC.out
            rw [if_neg (by rw [hc]; simp)] at h
            exact ⟨by rw [h]; rfl, B.out⟩
          have HS := Aside0.mk hs
          clear hs
          refine wp_region_tp [0, 1, 2, 3, 4, 5, 6, 7, 8, 9, 10, 11, 12] [13, 14, 15, 16, 17, 18, 19, 20, 21, 22, 23, 24, 25, 26] (by kernel_rfl) (by kernel_rfl) rfl rfl (fun c a d v w h => ?hQt) ?_
          case hQt => cases d <;> exact h
          have s1 := cell_gr (pw_cell_below B2.out M1.out)
          have s2 := cell_gr (pw_cell_below B2.out M2.out)
          have t3 := cell_gr (pw_cell_below B2.out EC.out.2.2.2.1)
          have t4 := cell_gr (pw_cell_below B2.out EC.out.2.2.2.2.1)
          simp only [pick, List.getElem?_cons_zero, List.getElem?_cons_succ, List.nil_append, List.cons_append]
          repeat (quiet_step (fail))
          refine wpQuiet_nil ?_
          clear s1 s2 t3 t4
          have B := Aside0.mk (below_drew B2.out)
          clear B2
          generalize w1.drew = w2 at B ⊢
          show wpTail _ _ _ _ _ _ _
          refine tail_one 13 (by decide +kernel) rfl rfl ?_
          go_wp2_with fail
          refine (gleanerref14_sameResult.calls e.er e.v x.f1.f0 x.f1.f1 _ _ (same_ok _ _ _ _)).mono ?_
          rintro e_ wn ⟨rfl, b_⟩
          rw [decide_eq_true H1.out]
          have Bn := Aside0.mk (below_step B.out b_)
          clear B b_
          have B := Bn
          clear Bn
          have q0 := pw_cell_below B.out M0.out
          have sl := HSL.out wn
          go_wp2_with fail
          show wpTail _ _ _ _ _ _ _
          refine tail_one 14 (by decide +kernel) rfl rfl ?_
          go_wp2_with fail
          show wpTail _ _ _ _ _ _ _
          refine tail_one 15 (by decide +kernel) rfl rfl ?_
          go_wp2_with fail
          show wpTail _ _ _ _ _ _ _
          refine tail_one 16 (by decide +kernel) rfl rfl ?_
          go_wp2_with fail
          show wpTail _ _ _ _ _ _ _
          refine tail_mid [17, 18, 19, 20, 21, 22, 23, 24] [25, 26] (by kernel_rfl) (List.Perm.refl _) rfl rfl rfl ?_
          simp only [pick, List.getElem?_cons_zero, List.getElem?_cons_succ, List.nil_append, List.cons_append]
          repeat (quiet_step (fail))
          refine wpQuiet_nil ?_
          show wpTail _ _ _ _ _ _ _
          refine tail_one 25 (by decide +kernel) rfl rfl ?_
          go_wp2_with fail
          refine (CC.out i x.f0 _ hi2 B.out).mono ?_
          rintro e_ wn ⟨rfl, nq3, rfl⟩
          rw [decide_eq_false HS.out]
          have Bn := Aside0.mk (pw_below_drewN B.out nq3)
          clear B
          have B := Bn
          clear Bn
          go_wp2_with fail
          show wpTail _ _ _ _ _ _ _
          refine tail_one 26 (by decide +kernel) rfl rfl ?_
          go_wp2_with fail
          show wpTail _ _ _ _ _ _ _
          refine tail_nil ?_
          clear q0 sl
          obtain ⟨k1, hk1'⟩ : ∃ k1, k1 = gk := ⟨_, rfl⟩
          have HK1 := Aside0.mk (And.intro hk1' hk1)
          clear hk1' hk1
          have E7 := Aside0.mk EC.out.2.2.2.2.2.2.2
          go_wp2_with fail
          try simp only [List.append_eq, List.cons_append, List.nil_append, Act.put, List.setIfInBounds_toArray, List.set_cons_zero, List.set_cons_succ]
          have BL := B
          clear B
          go_loopg [8] e.aw.length (fun k v8 w' => ∃ (a : Nat), v8 = .int .i64 (a : Int) ∧ Aside0 (a + k = e.aw.length ∧ ∀ q ∈ e.aw.take a, kidId e.id q ∈ (l.take i).map S39.f0) ∧ Aside0 (Below w.heap.size w w'))
          case atStart => exact ⟨0, rfl, ⟨by omega, by simp⟩, BL⟩
          case round =>
            clear BL
            obtain ⟨a, rfl, ha, B3⟩ := hrel
            have haw := (OK.out e HEM.out.1).2
            have t7 := pw_cell_below B3.out E7.out
            by_cases p2 : a < e.aw.length
            focus
              have c1 : decide ((a : Int) < (e.aw.length : Int)) = true := by simpa using p2
              have c2 : decide (a < e.aw.length) = true := by simpa using p2
              have a0 : (0 : Int) ≤ (a : Int) := by omega
              have a1 : (a : Int) < (e.aw.length : Int) := by omega
              have a2 : (a : Int) ≤ 100000 := by omega
              obtain ⟨ad3, ea3, n0⟩ := (HR.out.aw e HEM.out.1).1.at_ (a : Int) a0 a1
              have er : rd e.aw (a : Int) = e.aw[a] := by simp [rd, List.getD_eq_getElem?_getD, List.getElem?_eq_getElem p2]
              simp only [Int.toNat_natCast, er] at n0
              have hmem : e.aw[a] ∈ e.aw := List.getElem_mem p2
              obtain ⟨q0, q1, q2⟩ := (OK.out e HEM.out.1).1.aw _ hmem
              obtain ⟨K_, hK⟩ := kid1 (OK.out e HEM.out.1).1.vid q2 q0 q1
              rw [HEM.out.2] at hK
              have htk : e.aw.take (a + 1) = e.aw.take a ++ [e.aw[a]] := List.take_succ_eq_append_getElem p2
              generalize e.aw[a] = kv at n0 hmem q0 q1 hK htk er
              have HK := Aside0.mk hK
              have HM := Aside0.mk (And.intro hmem htk)
              have N0 := Aside0.mk n0
              have P2 := Aside0.mk p2
              have HBB := Aside0.mk ea3
              clear hK hmem htk er p2 n0
              rw [ea3] at t7
              clear ea3
              go_upto_region 10 with (fail)
              refine wp_region_tp [0, 1, 2, 3, 4, 5, 6, 7, 8, 9, 10, 11, 12] [13, 14, 15, 16, 17, 18] (by kernel_rfl) (by kernel_rfl) rfl rfl (fun c a d v w h => ?hQt) ?_
              case hQt => cases d <;> exact h
              have s0 := cell_gr (pw_cell_below B3.out M0.out)
              have s7 := cell_gr t7
              have s8 := cell_gr (pw_cell_below B3.out N0.out)
              simp only [pick, List.getElem?_cons_zero, List.getElem?_cons_succ, List.nil_append, List.cons_append]
              repeat (quiet_step (fail))
              refine wpQuiet_nil ?_
              clear s0 s7 s8 t7
              have B := Aside0.mk (below_drew B3.out)
              clear B3
              generalize wr.drew = w4 at B ⊢
              show wpTail _ _ _ _ _ _ _
              refine tail_one 13 (by decide +kernel) rfl rfl ?_
              go_wp2_with fail
              refine (gleanerref1_Kid.calls K_ x.f0 kv _ true _ HK.out).mono ?_
              rintro e_ w5 ⟨rfl, b_⟩
              have B5 := Aside0.mk (below_step B.out b_)
              clear B b_
              go_wp2_with fail
              show wpTail _ _ _ _ _ _ _
              refine tail_one 14 (by decide +kernel) rfl rfl ?_
              go_wp2_with fail
              show wpTail _ _ _ _ _ _ _
              refine tail_calm 15 (by decide +kernel) (by decide +kernel) rfl rfl rfl (fun c a d v w h => by cases d <;> exact h) ?_
              go_wp2_with fail
              show wpTail _ _ _ _ _ _ _
              refine tail_calm 16 (by decide +kernel) (by decide +kernel) rfl rfl rfl (fun c a d v w h => by cases d <;> exact h) ?_
              go_wp2_with fail
              show wpTail _ _ _ _ _ _ _
              refine tail_one 17 (by decide +kernel) rfl rfl ?_
              go_wp2_with fail
              show wpTail _ _ _ _ _ _ _
              refine tail_one 18 (by decide +kernel) rfl rfl ?_
              go_wp2_with fail
              show wpTail _ _ _ _ _ _ _
              refine tail_nil ?_
              have sl := HSL.out w5
              go_wp2_with fail
              refine (CC.out i _ _ hi2 B5.out).mono ?_
              rintro e_ w6 ⟨rfl, nq6, rfl⟩
              have B6 := Aside0.mk (pw_below_drewN B5.out nq6)
              clear B5 sl
              generalize w5.drewN nq6 = w6 at B6 ⊢
              by_cases hs2 : kidId x.f0 kv ∈ (l.take i).map S39.f0
              focus
                rw [decide_eq_true hs2]
                have HS2 := Aside0.mk hs2
                clear hs2
                go_wp2_with fail
                go_roundg (gk - 1)
                case measure => have := ha.out.1; have := P2.out; omega
                case rel => exact ⟨a + 1, by simp, ⟨by have := ha.out.1; have := P2.out; omega, by rw [HM.out.2]; intro q hq; rcases List.mem_append.1 hq with hq | hq; exact ha.out.2 q hq; obtain rfl := List.mem_singleton.1 hq; rw [HEM.out.2]; exact HS2.out⟩, B6⟩
              rw [decide_eq_false hs2]
              have HS2 := Aside0.mk hs2
              clear hs2
              go_wp2_with fail
              go_ret2
              have hc : okC ens ((l.take i).map S39.f0) x = false := by rw [okC_some HFI.out, decide_eq_false (p := ∀ k ∈ e.aw, kidId e.id k ∈ (l.take i).map S39.f0) (fun h => HS2.out (by have := h _ HM.out.1; rwa [HEM.out.2] at this))]; simp only [Bool.and_false]
              have h := HC.out
              rw [if_neg (by rw [hc]; simp)] at h
              exact ⟨by rw [h]; rfl, B6.out⟩
            have c1 : decide ((a : Int) < (e.aw.length : Int)) = false := by simp; omega
            have c2 : decide (a < e.aw.length) = false := by simp; omega
            have P2 := Aside0.mk p2
            clear p2
            go_wp2_with fail
            have hi : e.aw.take a = e.aw := List.take_of_length_le (by have := ha.out.1; have := P2.out; omega)
            have hall := ha.out.2
            rw [hi] at hall
            have HALL := Aside0.mk hall
            clear hall hi
            go_roundg (k1 - 1)
            case measure => have := HK1.out; have := P.out; omega
            case rel => exact ⟨i + 1, by simp, ⟨by have := HK1.out; have := P.out; omega, by have h := HC.out; rw [if_pos (by rw [okC_some HFI.out, decide_eq_true H1.out, decide_eq_false HS.out, decide_eq_true HALL.out]; rfl)] at h; rw [h, HT.out.1]⟩, B3⟩
        have H1 := Aside0.mk h1
        clear h1
        refine wp_region_tp [0, 1, 2, 3, 4, 5, 6, 7, 8, 9, 10, 11, 12] [13, 14, 15, 16, 17, 18, 19, 20, 21, 22, 23, 24, 25, 26] (by kernel_rfl) (by kernel_rfl) rfl rfl (fun c a d v w h => ?hQt) ?_
        case hQt => cases d <;> exact h
        have s1 := cell_gr (pw_cell_below B2.out M1.out)
        have s2 := cell_gr (pw_cell_below B2.out M2.out)
        have t3 := cell_gr (pw_cell_below B2.out EC.out.2.2.2.1)
        have t4 := cell_gr (pw_cell_below B2.out EC.out.2.2.2.2.1)
        simp only [pick, List.getElem?_cons_zero, List.getElem?_cons_succ, List.nil_append, List.cons_append]
        repeat (quiet_step (fail))
        refine wpQuiet_nil ?_
        clear s1 s2 t3 t4
        have B := Aside0.mk (below_drew B2.out)
        clear B2
        generalize w1.drew = w2 at B ⊢
        show wpTail _ _ _ _ _ _ _
        refine tail_one 13 (by decide +kernel) rfl rfl ?_
        go_wp2_with fail
        refine (gleanerref14_sameResult.calls e.er e.v x.f1.f0 x.f1.f1 _ _ (same_ok _ _ _ _)).mono ?_
        rintro e_ wn ⟨rfl, b_⟩
        rw [decide_eq_false H1.out]
        have Bn := Aside0.mk (below_step B.out b_)
        clear B b_
        have B := Bn
        clear Bn
        have q0 := pw_cell_below B.out M0.out
        have sl := HSL.out wn
        go_wp2_with fail
        show wpTail _ _ _ _ _ _ _
        refine tail_one 14 (by decide +kernel) rfl rfl ?_
        go_wp2_with fail
        show wpTail _ _ _ _ _ _ _
        refine tail_one 15 (by decide +kernel) rfl rfl ?_
        go_wp2_with fail
        show wpTail _ _ _ _ _ _ _
        refine tail_one 16 (by decide +kernel) rfl rfl ?_
        go_wp2_with fail
        show wpTail _ _ _ _ _ _ _
        refine tail_mid [17, 18, 19, 20, 21, 22, 23, 24] [25, 26] (by kernel_rfl) (List.Perm.refl _) rfl rfl rfl ?_
        simp only [pick, List.getElem?_cons_zero, List.getElem?_cons_succ, List.nil_append, List.cons_append]
        repeat (quiet_step (fail))
        refine wpQuiet_nil ?_
        show wpTail _ _ _ _ _ _ _
        refine tail_one 25 (by decide +kernel) rfl rfl ?_
        go_wp2_with fail
        show wpTail _ _ _ _ _ _ _
        refine tail_one 26 (by decide +kernel) rfl rfl ?_
        go_wp2_with fail
        show wpTail _ _ _ _ _ _ _
        refine tail_nil ?_
        go_wp2_with fail
        go_ret2
        have hc : okC ens ((l.take i).map S39.f0) x = false := by rw [okC_some HFI.out, decide_eq_false H1.out]; simp only [Bool.false_and]
        have h := HC.out
        rw [if_neg (by rw [hc]; simp)] at h
        exact ⟨by rw [h]; rfl, B.out⟩
    have b1 : decide ((i : Int) < (m : Int)) = false := by simp; omega
    have b2 : decide (i < m) = false := by simp; omega
    have P := Aside0.mk p
    clear p
    go_wp2_with fail
    go_ret2
    have hi : l.drop i = [] := List.drop_eq_nil_of_le (by have := hk.out.1; have := P.out; have := HLL.out; omega)
    have h := hk.out.2
    rw [hi] at h
    exact ⟨by rw [h]; rfl, B1.out⟩
end Go.Proofs.Ytakdckaplmoklaa.Ev
end
