/- A part of the proof of TraceDeepSaid (Sw Al Lg); laid together by merge2.py. -/
import Derived.Test.YtakdckaplmoklaaZSq
import Derived.Test.YtakdckaplmoklaaZT
import Derived.Lib.SliceRun
import Derived.Test.YtakdckaplmoklaaZLe
section
namespace Go.Proofs.Ytakdckaplmoklaa.Ev
open Go.Proofs.YtakdckaplmoklaaHt Go.Sort
open Go.RowKit Go.Proofs.YtakdckaplmoklaaW.PrintWords Go.Proofs.YtakdckaplmoklaaW.PrintLast Go.Proofs.YtakdckaplmoklaaW.PrintMore Go.Proofs.Ytakdckaplmoklaa.PTraceDeep
set_option linter.unusedVariables false
set_option linter.unusedSimpArgs false
section
variable {ops : Array Oper} {rest : List Oper} {o : Oper} {a : Act} {Q : Exit → Act → World → Prop} {W ws : World} {M : Nat → Prop} {bs : List (Nat × Array Value × TypeId)} {is : List It}
theorem tg_zero (T : Aside0 (Tg ws M bs is W)) (N : Tmp) (hd : o.dst = some N) (hgd : o.guard = Option.none) (t : TypeId) (sz : Nat)
    (hrun : (execOp a.eval o).run Try.prog W = .ok (.value (.slice (some ⟨W.heap.size, 0, Option.none⟩) 0 0)) (W.alloc (.cells #[] t (0, 0))))
    (h : ∀ ad w1, Aside0 (Tg ws M bs (It.gen (.slice (some ad) 0 0) t sz 0 [] :: is) w1) → wpList Try.prog ops Q rest (a.put (some N) (.slice (some ad) 0 0)) w1) : wpList Try.prog ops Q (o :: rest) a W := by
  refine Kd.event_run hgd hrun ?_
  rw [hd]
  refine h ⟨W.heap.size, 0, Option.none⟩ _ ⟨T.out.nitem (World.grownBy_alloc W _ Option.none) (ItOk.gen (b := 0) ?_) ?_⟩
  · exact ⟨by simp, .inr ⟨W.heap.size, 0, #[], rfl, Nat.zero_le _, blk_new W _, Nat.le_refl _, by decide, by simp, by simp⟩⟩
  · intro k hk
    have hk : some W.heap.size = some k := hk
    injection hk with hk
    omega
end
set_option maxHeartbeats 4000000 in
set_option maxRecDepth 100000 in
theorem clone33 (w : World) (ad : Addr) (m d : Nat) (l : List S39) (hL : Kd.C k39 w (some ad) m l) (hm : m ≤ 100000) (hm1 : 1 ≤ m) :
    Calls Try.prog 33 #[.slice (some ad) m d] w fun r w' => ∃ A c, r = .returned (.slice A m c) ∧ Aside0 (Tg w (fun _ => False) [] [It.gen (.slice A m c) 39 3 m (encCs l)] w') := by
  have HL := Aside0.mk hL
  have T0 := Aside0.mk (Tg.start w (fun _ => False))
  have h := Go.Lib.run_eql_slice_nil (P := Try.prog) w 31 39 (some ad) m d 0 0 Try.underlying31
  clear hL
  go_enter Try.func33, Try.ntmps33
  go_wp2_with (first
    | ((with_reducible refine gate_dst (N := 5) rfl ?_); refine tg_zero T0 5 rfl rfl 39 3 ?hz ?_; (case hz => first | (go_simp; done) | (go_simp; rfl)); intro a0 w1 T1; clear T0)
    | ((with_reducible refine gate_dst (N := 7) rfl ?_); refine tg_push [] T1 7 rfl rfl rfl Try.underlying31 _ _ info39 rfl (by decide) (by decide) rfl ad m d (encCs l) rfl ⟨by rw [encCs_length, HL.out.1], (C_cells (Kd.C_below HL.out T1.out.fresh)).2⟩ (encCs_one l) (by omega) ?_; intro A1 c1 w2 T2; simp only [List.nil_append, Nat.zero_add] at T2; clear T1))
  go_ret
  exact ⟨A1, c1, by simp, T2⟩
set_option maxHeartbeats 4000000 in
set_option maxRecDepth 100000 in
theorem sort34 (w : World) (g m c : Nat) (l : List S39) (hH : HoldsK encC 3 w g 0 l.toArray) (hg : g < w.heap.size) (hl : l.length = m) (hm : m ≤ 100000) :
    Calls Try.prog 34 #[.slice (some ⟨g, 0, none⟩) m c, .func (.func 35) #[] #[]] w fun e w' => e = .returned (.tuple #[]) ∧ ∃ n os, w' = sortWorldK encC 3 w g 0 n (sortC l).toArray os := by
  subst hl
  have eg : ∀ args w, (callFunc 35 args).run Try.prog w = .ok (.enter 35 args) w := enters_of Try.func35 (by kernel_rfl) rfl
  have hcon := AnyQ.slices_SortFunc Try.sortCommits 3 Try.isAgg39 Try.sizeOf39 encC (fun _ => rfl) (fun x v hv => by simp [encC] at hv; rcases hv with rfl | rfl | rfl <;> rfl) cfC swoC 35 #[] g 0 c l.toArray w eg (fun _ _ _ _ x y => closure35 x y _) hH hg (by simp; omega)
  have e0 : l.toArray.size = l.length := by simp
  rw [e0] at hcon
  refine hcon.mono ?_
  rintro e w' ⟨rfl, d', n, os, hp, hs, rfl⟩
  refine ⟨rfl, n, os, ?_⟩
  have := sorted_unique_holds (lt := ltOf cfC) swoC totC l.toArray d' (by rw [e0]; exact hp) (by rw [e0]; exact hs)
  have e : d' = (sortC l).toArray := by
    apply Array.ext'
    simpa [sortC] using this
  rw [e]
set_option maxHeartbeats 4000000 in
set_option maxRecDepth 100000 in
theorem sorted_any (w : World) (ad : Addr) (m d : Nat) (l : List S39) (hL : Kd.C k39 w (some ad) m l) (hm : m ≤ 100000) (hm1 : 1 ≤ m) :
    Calls Try.prog 22 #[.slice (some ad) m d] w fun r w' => ∃ A c, r = .returned (.slice A m c) ∧ m ≤ c ∧ Kd.C k39 w' A m (sortC l) ∧ Below w.heap.size w w' := by
  have HL := Aside0.mk hL
  clear hL
  go_enter Try.func22, Try.ntmps22
  go_upto_region 2 with (go_at_call 33; refine (clone33 _ ad m d l HL.out hm hm1).mono ?_; rintro e_ w1 ⟨A, c, rfl, T1⟩)
  have hown := T1.out.ownb (base := w.heap.size) (.head _) (by simp) (Nat.le_refl _)
  obtain ⟨g, hg⟩ : ∃ g, A = some ⟨g, 0, none⟩ := by
    obtain ⟨ga, cap, e_, _⟩ := World.ownsRow.form hown (by omega)
    injection e_ with e1_ e2_ e3_
    exact ⟨_, e1_⟩
  subst hg
  have hge : w.heap.size ≤ g := own_base hown _ rfl
  have hlt : g < w1.heap.size := own_lt hown _ rfl
  have hc := own_le hown
  have hH := holds_own hown HL.out.1
  have B1 := Aside0.mk T1.out.fresh
  have S := Aside0.mk (sort34 w1 g m c l hH hlt HL.out.1 hm)
  have HH := Aside0.mk hH
  clear hown hH T1
  go_wp2_with (go_at_call 34; refine (S.out).mono ?_; rintro e_ w2 ⟨rfl, n, os, e2⟩)
  go_ret
  subst e2
  refine ⟨_, c, rfl, hc, ?_, B1.out.trans (sort_below hge B1.out.size)⟩
  have h1 := holdsK_sortWorldK_c encC 3 w1 g 0 l.toArray (sortC l).toArray n os HH.out hlt (by simp [sortC_length])
  have h2 := C_holds h1 (by simp [sortC_length]; have := HL.out.1; omega)
  simpa [sortC_length, HL.out.1] using h2
set_option maxHeartbeats 4000000 in
set_option maxRecDepth 100000 in
theorem same_any (w : World) (ad bd : Addr) (m d d2 : Nat) (l l2 : List S39) (hL : Kd.C k39 w (some ad) m l) (hL2 : Kd.C k39 w (some bd) m l2) (hm : m ≤ 100000) (hm1 : 1 ≤ m) (hp : l2.Perm l) :
    Calls Try.prog 11 #[.slice (some ad) m d, .slice (some bd) m d2] w fun r w' => r = .returned (.bool true) ∧ Below w.heap.size w w' := by
  have HL := Aside0.mk hL
  have HL2 := Aside0.mk hL2
  have HP := Aside0.mk (sortC_perm hp)
  clear hL hL2 hp
  go_enter Try.func11, Try.ntmps11
  go_wp2_with fail
  refine (sorted_any _ ad m d l HL.out hm hm1).mono ?_
  rintro e_ w1 ⟨A1, c1, rfl, h1c, h1, b1⟩
  have C1 := Aside0.mk h1c
  have H1 := Aside0.mk h1
  have B1 := Aside0.mk b1
  clear h1c h1 b1
  go_wp2_with fail
  refine (sorted_any _ bd m d2 l2 (Kd.C_below HL2.out B1.out) hm hm1).mono ?_
  rintro e_ w2 ⟨A2, c2, rfl, h2c, h2, b2⟩
  have C2 := Aside0.mk h2c
  have H2 := Aside0.mk h2
  have B2 := Aside0.mk b2
  clear h2c h2 b2
  have E : Aside0 (∃ k, Calls Try.prog 21 #[.slice A1 m c1, .slice A2 m c2] w2 fun e w' => e = .returned (.bool true) ∧ Drawn0 w2 w') := ⟨by
    obtain ⟨k, hk⟩ := eq21_self (sortC l) (by rw [sortC_length, HL.out.1]; exact hm)
    have hl : (sortC l).length = m := by rw [sortC_length, HL.out.1]
    have h2 := H2.out
    rw [HP.out] at h2
    have := api_Commit_21.calls k A1 c1 (sortC l) A2 c2 (sortC l) true w2 (by rw [hl]; exact Kd.C_below H1.out B2.out) (by rw [hl]; exact C1.out) (by rw [hl]; exact h2) (by rw [hl]; exact C2.out) hk
    rw [hl] at this
    exact ⟨k, this⟩⟩
  obtain ⟨k, hk⟩ := E.out
  clear E
  have HK := Aside0.mk hk
  clear hk
  go_wp2_with fail
  refine HK.out.mono ?_
  rintro e_ w3 ⟨rfl, D3⟩
  have B3 := Aside0.mk D3
  clear D3
  go_wp2_with fail
  go_ret
  exact ⟨rfl, below_step (below_step B1.out B2.out) B3.out.below⟩
end Go.Proofs.Ytakdckaplmoklaa.Ev
end
section
namespace Go.Proofs.Ytakdckaplmoklaa.Ev
open Go.Proofs.YtakdckaplmoklaaHt Go.Sort
open Go.RowKit Go.Proofs.YtakdckaplmoklaaW.PrintWords Go.Proofs.YtakdckaplmoklaaW.PrintLast Go.Proofs.YtakdckaplmoklaaW.PrintMore Go.Proofs.Ytakdckaplmoklaa.PTraceDeep
set_option linter.unusedVariables false
set_option linter.unusedSimpArgs false
theorem RE_nil (w : World) : RE w none 0 [] := ⟨rfl, by simp, by simp, by simp⟩
theorem C_nil (w : World) : Kd.C k39 w none 0 [] := ⟨rfl, by omega, fun h => absurd h (by omega)⟩
theorem chk_none : chk [] [] 0 [z39] = (0, false) := by simp [chk, okC, fstE]
set_option maxHeartbeats 4000000 in
set_option maxRecDepth 100000 in
theorem alive_any (w : World) : Calls Try.prog 4 #[] w fun r w' => r = .returned (.bool true) ∧ Below w.heap.size w w' := by
  have T0 := Aside0.mk (Tg.start w (fun _ => False))
  go_enter Try.func4, Try.ntmps4
  go_wp2_with ((with_reducible refine gate_dst (N := 7) rfl ?_); refine tg_box T0 7 rfl rfl [.string ⟨#[]⟩, .int .i64 0, .int .i64 0] 39 3 rfl ?h7 ?_; (case h7 => first | (go_simp; done) | (go_simp; rfl)); intro a0 w1 T1; clear T0)
  have L1 : Aside0 (Kd.C k39 w1 (some a0) 1 [z39]) := ⟨C_own (T1.out.own (.head _)) rfl⟩
  have c1 := chk_none
  refine (check_any w1 none (some a0) 0 0 1 1 [] [z39] (RE_nil _) (by omega) L1.out (by omega) (by simp)).mono ?_
  rintro e_ w2 ⟨rfl, b2⟩
  rw [c1]
  have T2 := Aside0.mk (T1.out.call b2)
  clear b2 T1 L1
  go_wp2_with fail
  refine (check_any w2 none none 0 0 0 0 [] [] (RE_nil _) (by omega) (C_nil _) (by omega) (by simp)).mono ?_
  rintro e_ w3 ⟨rfl, b3⟩
  have T3 := Aside0.mk (T2.out.call b3)
  clear b3 T2
  go_wp2_with fail
  refine (whole_any w3 none none 0 0 0 0 [] [] (RE_nil _) (by omega) (C_nil _) (by omega) (by simp) (by simp) rfl).mono ?_
  rintro e_ w4 ⟨rfl, b4⟩
  have T4 := Aside0.mk (T3.out.call b4)
  clear b4 T3
  go_wp2_with fail
  go_ret
  exact ⟨rfl, T4.out.fresh⟩
end Go.Proofs.Ytakdckaplmoklaa.Ev
end
section
namespace Go.Proofs.Ytakdckaplmoklaa.Ev
open Go.RowKit Go.Proofs.YtakdckaplmoklaaW.PrintWords Go.Proofs.YtakdckaplmoklaaW.PrintLast Go.Proofs.YtakdckaplmoklaaW.PrintMore Go.Proofs.Ytakdckaplmoklaa.PTraceDeep
set_option linter.unusedVariables false
set_option linter.unusedSimpArgs false
def comC (e : En) : S39 := ⟨e.id, ⟨e.er, e.v⟩⟩
def comL (ens : List En) : List S39 := ens.reverse.map comC
theorem comL_length (ens : List En) : (comL ens).length = ens.length := by simp [comL]
theorem comL_ids (ens : List En) : ∀ e ∈ ens, e.id ∈ (comL ens).map S39.f0 := by
  intro e he
  simp only [comL, List.map_map, List.mem_map, List.mem_reverse]
  exact ⟨e, he, rfl⟩
theorem lt_snoc (l : List UInt8) (x : UInt8) : l < l ++ [x] := by
  induction l with
  | nil => simp
  | cons a l ih => rw [List.cons_append, List.cons_lt_cons_iff]; exact .inr ⟨rfl, ih⟩
theorem kid_less (id : ByteArray) {k : Int} (h0 : 0 ≤ k) (h1 : k < 16) : lessId id (kidId id k) := by
  rw [lessId_iff, kidId_data id h0 h1]
  exact lt_snoc _ _
theorem fstE_of {ens : List En} {e : En} (hs : ens.Pairwise ltE) (he : e ∈ ens) : fstE ens e.id = some e := by
  unfold fstE
  induction ens with
  | nil => cases he
  | cons a l ih =>
    rw [List.find?_cons]
    have hp := List.pairwise_cons.1 hs
    rcases List.mem_cons.1 he with rfl | he
    · simp
    · have hne : a.id ≠ e.id := fun h => lessId_irrefl e.id (by have := hp.1 e he; unfold ltE at this; rwa [h] at this)
      simp only [hne, decide_false]
      exact ih hp.2 he
theorem chk_com {ens : List En} (hs : ens.Pairwise ltE) (ha : ∀ e ∈ ens, ∀ k ∈ e.aw, 0 ≤ k ∧ k < 16 ∧ ∃ e' ∈ ens, e'.id = kidId e.id k) :
    ∀ (B A : List En) (i : Nat), ens.reverse = A ++ B → chk ens (A.map (·.id)) i (B.map comC) = (0, true) := by
  intro B
  induction B with
  | nil => intro A i _; rfl
  | cons e B ih =>
    intro A i hAB
    have hrev : (A ++ e :: B).Pairwise (fun a b => ltE b a) := by rw [← hAB]; exact List.pairwise_reverse.2 hs
    have hmem : ∀ x, x ∈ ens ↔ x ∈ A ++ e :: B := fun x => by rw [← hAB, List.mem_reverse]
    have he : e ∈ ens := (hmem e).2 (by simp)
    have hp := List.pairwise_append.1 hrev
    have hok : okC ens (A.map (·.id)) (comC e) = true := by
      rw [okC_some (fstE_of hs he)]
      have h1 : ¬ (comC e).f0 ∈ A.map (·.id) := by
        intro h
        obtain ⟨x, hx, hxe⟩ := List.mem_map.1 h
        have h2 : ltE e x := hp.2.2 x hx e (.head _)
        unfold ltE at h2
        have hxe : x.id = e.id := hxe
        rw [hxe] at h2
        exact lessId_irrefl _ h2
      have h2 : ∀ k ∈ e.aw, kidId e.id k ∈ A.map (·.id) := by
        intro k hk
        obtain ⟨k0, k1, e', he', hid⟩ := ha e he k hk
        have hl : ltE e e' := by unfold ltE; rw [hid]; exact kid_less _ k0 k1
        rcases List.mem_append.1 ((hmem e').1 he') with h | h
        · exact List.mem_map.2 ⟨e', h, hid⟩
        · rcases List.mem_cons.1 h with rfl | h
          · exact absurd hl (lessId_irrefl _)
          · have h3 : ltE e' e := (List.pairwise_cons.1 hp.2.1).1 e' h
            exact absurd (lessId_trans hl h3) (lessId_irrefl _)
      simp only [h1, h2, comC]
      simp
      exact ⟨fun x hx hxe => h1 (List.mem_map.2 ⟨x, hx, hxe⟩), fun k hk => by simpa using h2 k hk⟩
    rw [List.map_cons, chk_cons, if_pos hok]
    have := ih (A ++ [e]) (i + 1) (by rw [hAB]; simp)
    simpa [comC] using this
theorem chk_all {ens : List En} {es : List S37} (he : ens.map toS = es) (h : EvOk es) : chk ens [] 0 (comL ens) = (0, true) ∧ (∀ e ∈ ens, EntOk e ∧ e.aw.length ≤ 100000) ∧ 1 ≤ ens.length := by
  subst he
  have hs : ens.Pairwise ltE := by
    have h1 := h.sorted
    rw [List.pairwise_map] at h1
    exact h1
  refine ⟨chk_com hs (fun e he k hk => ?_) ens.reverse [] 0 (by simp), fun e he => ⟨⟨h.vid (toS e) (List.mem_map_of_mem he), fun k hk => ?_⟩, h.awl (toS e) (List.mem_map_of_mem he)⟩, ?_⟩
  · obtain ⟨k0, k1, _, e', he', hid⟩ := h.aw (toS e) (List.mem_map_of_mem he) k hk
    obtain ⟨x, hx, rfl⟩ := List.mem_map.1 he'
    exact ⟨k0, k1, x, hx, hid⟩
  · obtain ⟨k0, k1, k2, _⟩ := h.aw (toS e) (List.mem_map_of_mem he) k hk
    exact ⟨k0, k1, k2⟩
  · have := h.ne
    cases ens with
    | nil => exact absurd rfl this
    | cons a l => simp
def swpL (l : List S39) (i j : Nat) : List S39 := (l.set i (l.getD j z39)).set j (l.getD i z39)
theorem swpL_length (l : List S39) (i j : Nat) : (swpL l i j).length = l.length := by simp [swpL]
theorem swpL_perm {l : List S39} {i j : Nat} (hi : i < l.length) (hj : j < l.length) : (swpL l i j).Perm l := by
  have h := Array.swap_perm (xs := l.toArray) (i := i) (j := j) (by simpa using hi) (by simpa using hj)
  have h2 := Array.perm_iff_toList_perm.1 h
  have e : (l.toArray.swap i j (by simpa using hi) (by simpa using hj)).toList = swpL l i j := by
    simp [swpL, Array.swap, List.getD_eq_getElem?_getD, List.getElem?_eq_getElem hi, List.getElem?_eq_getElem hj]
  rw [e] at h2
  simpa using h2
theorem encCs_set (l : List S39) (i : Nat) (x : S39) (hi : i < l.length) : (encCs l).take (i * 3) ++ encC x ++ (encCs l).drop (i * 3 + 3) = encCs (l.set i x) := by
  have hl : l = l.take i ++ l[i] :: l.drop (i + 1) := by rw [← List.drop_eq_getElem_cons hi, List.take_append_drop]
  have ht : (encCs (l.take i)).length = i * 3 := by rw [encCs_length, List.length_take]; omega
  rw [List.set_eq_take_append_cons_drop, if_pos hi, encCs_append, encCs_cons]
  have e1 : (encCs l).take (i * 3) = encCs (l.take i) := by
    conv => lhs; rw [hl]
    rw [encCs_append, ← ht, List.take_left' rfl]
  have e2 : (encCs l).drop (i * 3 + 3) = encCs (l.drop (i + 1)) := by
    conv => lhs; rw [hl]
    rw [encCs_append, encCs_cons, ← List.append_assoc, List.drop_left' (by rw [List.length_append, ht]; rfl)]
  rw [e1, e2, List.append_assoc]
end Go.Proofs.Ytakdckaplmoklaa.Ev
end
