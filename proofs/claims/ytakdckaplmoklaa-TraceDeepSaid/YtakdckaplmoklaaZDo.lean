/- A part of the proof of TraceDeepSaid (Do); laid together by merge2.py. -/
import Derived.Test.YtakdckaplmoklaaZE
import Derived.Test.YtakdckaplmoklaaZKw
import Derived.Test.YtakdckaplmoklaaZRu
import Derived.Test.YtakdckaplmoklaaZRe
import Derived.Test.YtakdckaplmoklaaZH
section
namespace Go.Proofs.Ytakdckaplmoklaa.Ev
open Go.Proofs.YtakdckaplmoklaaHt Go.Sort
open Go.RowKit Go.Proofs.YtakdckaplmoklaaW.PrintWords Go.Proofs.YtakdckaplmoklaaW.PrintLast Go.Proofs.YtakdckaplmoklaaW.PrintMore Go.Proofs.Ytakdckaplmoklaa.PTraceDeep
set_option linter.unusedVariables false
set_option linter.unusedSimpArgs false
def MD (ab : Nat) (vE : Value) : Nat → Prop := fun k => k = ab ∨ vE.ownBlock = some k
def DoPost (w : World) (ab kb : Nat) (vE : Value) (es0 : List En) (id : ByteArray) (e : Ending) (w' : World) : Prop :=
  ∃ er rv vE' new ov', e = .returned (.agg #[.int .i64 er, .int .i64 rv]) ∧ Tg w (MD ab vE) [(ab, #[.pointer (some ⟨kb, 0, none⟩), vE', .bool ov'], 56)] (It.gen vE' 37 8 (es0.length + List.length new) (encE (es0 ++ new)) :: itsE new) w' ∧
    es0.length + new.length ≤ 500 ∧ DoPure id new ∧ (ov' = false → ∃ e ∈ new, e.id = id)
theorem Tg.do_start {w : World} {ab : Nat} {vE : Value} {n : Nat} {cs : Array Value} {ce : List Value} (hab : w.heap[ab]? = some (.cells cs 56 (0, 0))) (hE : w.ownsRow 0 37 8 vE n ce) : Tg w (MD ab vE) [(ab, cs, 56)] [It.gen vE 37 8 n ce] w := by
  refine ((Tg.start w (MD ab vE)).ablk [] hab (.inl (.inl rfl)) (by simp) (by simp)).aitem [] (ItOk.gen hE) (fun k hk => .inl (.inr hk)) (by simp) (fun b hb hk => ?_)
  obtain rfl : b = _ := by simpa using hb
  obtain ⟨cells, hc⟩ := own_typed hE ab hk
  rw [hab] at hc
  injection hc with h1
  injection h1 with _ h2
  exact absurd h2 (by decide)
def loopIs (S : List (Value × List Int)) (vE : Value) (es0 : List En) (e : En) (rest : List En) (vK : Value) (ks : List (Int × Int)) : List It :=
  It.many S :: It.gen vE 37 8 (es0.length + (rest.length + 1)) (encE (es0 ++ e :: rest)) :: It.gen vK 35 2 ks.length (encK ks) :: It.row (.slice e.A e.args.length e.c) e.args :: It.row (.slice e.B e.aw.length e.d) e.aw :: itsE rest
theorem Tg.do_end {w W : World} {M : Nat → Prop} {g1 g2 : Nat × Array Value × TypeId} {b : Nat × Array Value × TypeId} {S : List (Value × List Int)} {vE vK : Value} {es0 rest : List En} {e : En} {ks : List (Int × Int)} (T : Tg w M [g1, g2, b] (loopIs S vE es0 e rest vK ks) W) : Tg w M [b] (It.gen vE 37 8 (es0.length + (e :: rest).length) (encE (es0 ++ e :: rest)) :: itsE (e :: rest)) W :=
  T.sub (.cons _ (.cons _ (.refl _))) (.cons _ (.cons_cons _ (.cons _ (.refl _))))
theorem Tg.do_loop {w W : World} {M : Nat → Prop} {bs : List (Nat × Array Value × TypeId)} {S : List (Value × List Int)} {vE : Value} {es0 : List En} {e : En} (he : e.aw = []) (hB : e.B = Option.none) (hd : e.d = 0) (T : Tg w M bs (It.many S :: It.row (.slice e.A e.args.length e.c) e.args :: [It.gen vE 37 8 (es0.length + 1) (encE es0 ++ e.cs)]) W) : Tg w M bs (loopIs S vE es0 e [] (.slice Option.none 0 0) []) W := by
  have h1 := T.iperm (is' := [It.many S, It.gen vE 37 8 (es0.length + 1) (encE es0 ++ e.cs), It.row (.slice e.A e.args.length e.c) e.args]) (List.Perm.cons _ (List.Perm.swap _ _ _))
  have h2 := Tg.aitem [It.many S, It.gen vE 37 8 (es0.length + 1) (encE es0 ++ e.cs)] (post := [It.row (.slice e.A e.args.length e.c) e.args]) (j := It.gen (.slice Option.none 0 0) 35 2 0 []) h1 (ItOk.gen (World.ownsRow_nil _ 0 35 2)) (fun k hk => by cases hk) (fun i hi k hk => by cases hk) (fun b hb hk => by cases hk)
  have h3 := Tg.aitem [It.many S, It.gen vE 37 8 (es0.length + 1) (encE es0 ++ e.cs), It.gen (.slice Option.none 0 0) 35 2 0 [], It.row (.slice e.A e.args.length e.c) e.args] (post := []) (j := It.row (.slice e.B e.aw.length e.d) e.aw) h2 (by rw [he, hB, hd]; exact ItOk.gen (World.ownsRow_nil _ 0 3 1)) (fun k hk => by rw [hB] at hk; cases hk) (fun i hi k hk => by rw [hB] at hk; cases hk) (fun b hb hk => by rw [hB] at hk; cases hk)
  have e1 : encE (es0 ++ [e]) = encE es0 ++ e.cs := by rw [encE_append, encE_cons]; simp [encE]
  unfold loopIs
  rw [e1]
  exact h3
theorem Tg.do_child {w W W' : World} {M : Nat → Prop} {bs : List (Nat × Array Value × TypeId)} {ab : Nat} {cs : Array Value} {p : Value} {ov2 : Bool} {S : List (Value × List Int)} {vE vE2 vK : Value} {es0 rest new : List En} {e : En} {ks : List (Int × Int)} (T : Tg w M (bs ++ [(ab, cs, 56)]) (loopIs S vE es0 e rest vK ks) W) (C : Tg W (MD ab vE) [(ab, #[p, vE2, .bool ov2], 56)] (It.gen vE2 37 8 ((es0 ++ e :: rest).length + new.length) (encE ((es0 ++ e :: rest) ++ new)) :: itsE new) W') :
    ∃ ad c2, vE2 = .slice (some ad) (es0.length + ((rest ++ new).length + 1)) c2 ∧ Tg w M (bs ++ [(ab, #[p, vE2, .bool ov2], 56)]) (loopIs S vE2 es0 e (rest ++ new) vK ks) W' := by
  have h0 := C.own (.head _)
  have e1 : (es0 ++ e :: rest).length + new.length = es0.length + ((rest ++ new).length + 1) := by simp; omega
  have e2 : (es0 ++ e :: rest) ++ new = es0 ++ e :: (rest ++ new) := by simp
  rw [e1, e2] at h0 C
  obtain ⟨g, cap, rfl, _⟩ := World.ownsRow.form h0 (by omega)
  refine ⟨_, cap, rfl, ?_⟩
  have T1 := T.iperm (is' := It.gen vE 37 8 (es0.length + (rest.length + 1)) (encE (es0 ++ e :: rest)) :: (It.many S :: It.gen vK 35 2 ks.length (encK ks) :: It.row (.slice e.A e.args.length e.c) e.args :: It.row (.slice e.B e.aw.length e.d) e.aw :: itsE rest)) (List.Perm.swap _ _ _)
  have T2 := T1.sub_call C
  unfold loopIs
  rw [itsE_append]
  exact T2.iperm (List.Perm.swap _ _ _)
theorem Tg.do_kid {w W : World} {M : Nat → Prop} {bs : List (Nat × Array Value × TypeId)} {S : List (Value × List Int)} {vE : Value} {A : Option Addr} {c : Nat} {es0 rest : List En} {e : En} {ks : List (Int × Int)} {p : Int × Int} (T : Tg w M bs (It.many S :: It.gen vE 37 8 (es0.length + (rest.length + 1)) (encE (es0 ++ e :: rest)) :: It.gen (.slice A (ks.length + 1) c) 35 2 (ks.length + 1) (encK ks ++ [.int .i64 p.1, .int .i64 p.2]) :: It.row (.slice e.A e.args.length e.c) e.args :: It.row (.slice e.B e.aw.length e.d) e.aw :: itsE rest) W) : Tg w M bs (loopIs S vE es0 e rest (.slice A (ks ++ [p]).length c) (ks ++ [p])) W := by
  unfold loopIs
  have e1 : (ks ++ [p]).length = ks.length + 1 := by simp
  rw [e1, encK_append]
  exact T
theorem Tg.fewer {w W : World} {M : Nat → Prop} {bs : List (Nat × Array Value × TypeId)} {l l' : List (Value × List Int)} {is : List It} (h : ∀ p ∈ l', p ∈ l) (T : Tg w M bs (It.many l :: is) W) : Tg w M bs (It.many l' :: is) W :=
  T.turn [] (Chg.refl _ _) (ItOk.many (b := 0) fun p hp => (T.it _ (.head _)).1.p p (h p hp)) fun k ⟨p, hp, hk⟩ => .inl ⟨p, h p hp, hk⟩
theorem own_len {W : World} {b t sz n n' : Nat} {v : Value} {cs : List Value} (h : W.ownsRow b t sz v n cs) (e : n = n') : W.ownsRow b t sz v n' cs := e ▸ h
theorem Tg.many_reads {w W : World} {M : Nat → Prop} {bs : List (Nat × Array Value × TypeId)} {ab : Nat} {cs : Array Value} {S : List (Value × List Int)} {vE : Value} {n : Nat} {ce : List Value} {is : List It} (T : Tg w M bs (It.many S :: It.gen vE 37 8 n ce :: is) W) (hb : (ab, cs, 56) ∈ bs) {A : Option Addr} {c : Nat} {ar : List Int} (hp : (.slice A ar.length c, ar) ∈ S) (W' : World) (C : Chg (MD ab vE) W W') : ReadsInt W' .i64 A ar.length ar := by
  have r : Row W 0 (.slice A ar.length c) ar := T.many (.head _) hp
  refine row_reads (base := 0) (own_move r fun k hk => C.frame k (row_lt r k hk) fun hm => ?_)
  rcases hm with rfl | hm
  · exact T.sep _ hb _ (.head _) ⟨_, hp, hk⟩
  · exact (List.pairwise_cons.1 T.ap).1 _ (.head _) k ⟨_, hp, hk⟩ hm
set_option maxHeartbeats 8000000 in
set_option maxRecDepth 100000 in
theorem do_any (w0 : World) (kb : Nat) (fs : List S50) (D : List (List Int)) (main jfuel tasks : Int) (jargs : List Int) (hk : Kn w0 kb fs D main jfuel tasks jargs) (hg : KG fs D) (hj0 : 0 ≤ jfuel) (hj : jfuel ≤ 5000) (ht : tasks ≤ 500) (n : Nat) :
    ∀ (w : World) (ab : Nat) (vE : Value) (es0 : List En) (ov : Bool) (id : ByteArray) (f : Int) (A : Option Addr) (c : Nat) (args : List Int), id.size + n = 12 → Vid id → Below w0.heap.size w0 w → w0.heap.size ≤ ab → (∀ k, vE.ownBlock = some k → w0.heap.size ≤ k) →
      w.heap[ab]? = some (.cells #[.pointer (some ⟨kb, 0, none⟩), vE, .bool ov] 56 (0, 0)) → w.ownsRow 0 37 8 vE es0.length (encE es0) → es0.length ≤ 500 → 0 ≤ f → f < fs.length → (args.length : Int) = (rd_T50 fs f).f1 → (∀ W', Chg (MD ab vE) w W' → ReadsInt W' .i64 A args.length args) →
      Calls Try.prog 13 #[.pointer (some ⟨ab, 0, none⟩), .string id, .int .i64 f, .slice A args.length c] w (DoPost w ab kb vE es0 id) := by
  induction n using Nat.strongRecOn with
  | ind n ih =>
  intro w ab vE es0 ov id f A c args hn hv hl hab hvE hb hE h500 hf1 hf2 ha hA
  obtain ⟨AE, cE, rfl⟩ := own_slice hE
  have IH := Aside0.mk ih
  have HK := Aside0.mk hk
  have HG := Aside0.mk hg
  have HN := Aside0.mk hn
  have HV := Aside0.mk hv
  have HA := Aside0.mk hA
  have HR := Aside0.mk ha
  have HF := Aside0.mk hvE
  have HS := Aside0.mk hl.size
  have HB : Aside0 (∀ bs is W, Tg w (MD ab (.slice AE es0.length cE)) bs is W → Below w0.heap.size w0 W) := ⟨fun bs is W T => hl.trans (T.below (fun k hk => hk.elim (fun e => e ▸ hab) (hvE k)) hl.size)⟩
  have T0 := Aside0.mk (Tg.do_start hb hE)
  obtain ⟨AF, cF, AA, cA, AD, cD, k1, k2, k3, k4, k5, k6, k7⟩ := hk.out
  have K1 := Aside0.mk k1
  clear hk hg ih hn hv hA ha hvE hl k1 k3 k5 k7 hb hE
  go_enter Try.func13, Try.ntmps13
  obtain ⟨⟨c_ab, f_ab⟩, _⟩ := T0.out.cells
  go_upto_region 1 with (((with_reducible refine gate_dst (N := 8) rfl ?_); refine tg_new 8 rfl rfl T0 #[.int .i64 0, .int .i64 0] 35 ?h8_1 ?_; (case h8_1 => first | (go_simp; done) | (go_simp; rfl)); intro r w101 T1; clear c_ab f_ab; clear T0; obtain ⟨⟨c_r, f_r⟩, ⟨c_ab, f_ab⟩, _⟩ := T1.out.cells))
  obtain ⟨ck, fk⟩ := blk_cells (blk_below K1.out (HB.out _ _ _ T1.out))
  go_quiet (fail)
  clear ck fk
  clear c_r f_r c_ab f_ab
  have T2 := Aside0.mk (T1.out.drewN nq)
  clear T1
  generalize w101.drewN nq = w102 at T2 ⊢
  obtain ⟨⟨c_r, f_r⟩, ⟨c_ab, f_ab⟩, _⟩ := T2.out.cells
  by_cases p : tasks ≤ (es0.length : Int)
  focus
    have b1 : decide (tasks ≤ (es0.length : Int)) = true := decide_eq_true p
    go_wp2_with (first
        | ((with_reducible refine gate_store (t := 4) (p := 34) rfl ?_); refine tg_st [_] T2 2 rfl 4 rfl rfl #[_, _, _] (.bool true) [_] sz4 rfl rfl rfl rfl (by simp) rfl ?_; intro w103 T3; simp only [List.cons_append, List.nil_append] at T3; clear c_r f_r c_ab f_ab; clear T2; obtain ⟨⟨c_r, f_r⟩, ⟨c_ab, f_ab⟩, _⟩ := T3.out.cells)
        | ((with_reducible refine gate_store (t := 35) (p := 8) rfl ?_); refine tg_st [] T3 0 rfl 35 rfl rfl #[_, _] (.agg #[.int .i64 0, .int .i64 0]) [_, _] sz35 rfl rfl rfl rfl (by simp) rfl ?_; intro w104 T4; simp only [List.cons_append, List.nil_append] at T4; clear c_r f_r c_ab f_ab; clear T3; obtain ⟨⟨c_r, f_r⟩, ⟨c_ab, f_ab⟩, _⟩ := T4.out.cells))
    refine bodyPost_ret (results_cell_row rfl _ _ r 35 _ (0, 0) _ rfl (T4.out.blk _ (.head _)).1 Try.underlying35 rfl (by kernel_rfl)) rfl ?_
    unfold DoPost
    exact ⟨0, 0, _, [], true, rfl, by simpa [itsE] using T4.out.dblk, by simpa using h500, DoPure.nil id, fun h => by cases h⟩
  have b1 : decide (tasks ≤ (es0.length : Int)) = false := decide_eq_false p
  have b2 : (es0.length : Int) < tasks := by omega
  have P := Aside0.mk p
  clear p
  by_cases p : ov = true
  focus
    subst p
    go_wp2_with (first
        | ((with_reducible refine gate_store (t := 35) (p := 8) rfl ?_); refine tg_st [] T2 0 rfl 35 rfl rfl #[_, _] (.agg #[.int .i64 0, .int .i64 0]) [_, _] sz35 rfl rfl rfl rfl (by simp) rfl ?_; intro w103 T3; simp only [List.cons_append, List.nil_append] at T3; clear c_r f_r c_ab f_ab; clear T2; obtain ⟨⟨c_r, f_r⟩, ⟨c_ab, f_ab⟩, _⟩ := T3.out.cells))
    refine bodyPost_ret (results_cell_row rfl _ _ r 35 _ (0, 0) _ rfl (T3.out.blk _ (.head _)).1 Try.underlying35 rfl (by kernel_rfl)) rfl ?_
    unfold DoPost
    exact ⟨0, 0, _, [], true, rfl, by simpa [itsE] using T3.out.dblk, by simpa using h500, DoPure.nil id, fun h => by cases h⟩
  obtain rfl : ov = false := by simpa using p
  clear p
  go_upto_region 6 with (fail)
  have h499 : es0.length ≤ 499 := by have := P.out; omega
  have ha8 : args.length ≤ 1000 := by have := (HG.out.row f hf1 hf2).2.2; have := HR.out; omega
  refine wp_region_hp [0, 1, 2, 3, 4, 5, 6, 7] [8, 9, 10, 11, 12, 13, 14] (by kernel_rfl) (by kernel_rfl) rfl rfl rfl (fun c a d v w h => ?hQ) ?_
  case hQ => cases d <;> exact h
  obtain ⟨g_r, g_ab, _⟩ := T2.out.gr
  simp only [pick, List.getElem?_cons_zero, List.getElem?_cons_succ, List.nil_append, List.cons_append]
  repeat (quiet_step (fail))
  refine wpQuiet_nil ?_
  clear g_r g_ab
  clear c_r f_r c_ab f_ab
  have T3 := Aside0.mk (T2.out.drew)
  clear T2
  generalize w102.drew = w103 at T3 ⊢
  obtain ⟨⟨c_r, f_r⟩, ⟨c_ab, f_ab⟩, _⟩ := T3.out.cells
  go_wp2_with (first
      | ((with_reducible refine gate_dst (N := 53) rfl ?_); refine tg_nil T3 53 rfl rfl rfl args A args.length c rfl rfl (HA.out _ T3.out.chg) (by omega) ?_; intro A_a c_a_ w104 T4; clear c_r f_r c_ab f_ab; clear T3; obtain ⟨⟨c_r, f_r⟩, ⟨c_ab, f_ab⟩, _⟩ := T4.out.cells)
      | ((with_reducible refine gate_dst (N := 55) rfl ?_); refine tg_box T4 55 rfl rfl [.string id, .int .i64 f, .slice A_a args.length c_a_, .int .i64 0, .int .i64 0, .int .i64 0, .int .i64 0, .slice none 0 0] 37 8 rfl ?h55_2 ?_; (case h55_2 => first | (go_simp; done) | (go_simp; rfl)); intro a_o w105 T5; clear c_r f_r c_ab f_ab; clear T4; obtain ⟨⟨c_r, f_r⟩, ⟨c_ab, f_ab⟩, _⟩ := T5.out.cells)
      | ((with_reducible refine gate_dst (N := 56) rfl ?_); refine tg_push [_, _] T5 56 rfl rfl rfl Try.underlying28 (.agg #[.string ⟨#[]⟩, .int .i64 0, .slice none 0 0, .int .i64 0, .int .i64 0, .int .i64 0, .int .i64 0, .slice none 0 0]) 104 (by kernel_rfl) rfl (by decide) (by decide) rfl a_o 1 1 _ rfl (box_news (T5.out.own (.head _))) (by simp [Value.oneCell']) (by omega) ?_; intro A_m c_m_ w106 T6; simp only [List.cons_append, List.nil_append] at T6; clear c_r f_r c_ab f_ab; clear T5; have T7 := Aside0.mk T6.out.ditem; clear T6; obtain ⟨⟨c_r, f_r⟩, ⟨c_ab, f_ab⟩, _⟩ := T7.out.cells)
      | ((with_reducible refine gate_store (t := 28) (p := 58) rfl ?_); refine tg_st [_] T7 1 rfl 28 rfl rfl #[_, _, _] (.slice A_m (es0.length + 1) c_m_) [_] sz28 rfl rfl rfl rfl (by simp) rfl ?_; intro w107 T8; simp only [List.cons_append, List.nil_append] at T8; clear c_r f_r c_ab f_ab; clear T7; obtain ⟨⟨c_r, f_r⟩, ⟨c_ab, f_ab⟩, _⟩ := T8.out.cells))
  refine (begin_any _ kb fs D main jfuel tasks jargs (HK.out.below (HB.out _ _ _ T8.out)) HG.out f A c args (HA.out _ T8.out.chg) hf1 hf2 HR.out).mono ?_
  rintro e_ w108 ⟨A1, c1, lo0, rfl, hlo, rl, b_⟩
  have T9 := Aside0.mk (T8.out.nmany (l := [(.slice none 0 0, []), (.slice A1 lo0.length c1, lo0)]) b_ (by intro p hp; rcases List.mem_cons.1 hp with rfl | hp; exact row_nil _ _; obtain rfl := List.mem_singleton.1 hp; exact rl))
  have HLO := Aside0.mk hlo
  clear rl b_ hlo
  unfold StV
  clear c_r f_r c_ab f_ab T8
  obtain ⟨⟨c_r, f_r⟩, ⟨c_ab, f_ab⟩, _⟩ := T9.out.cells
  go_wp2_with (first
      | ((with_reducible refine gate_dst (N := 10) rfl ?_); refine tg_new 10 rfl rfl T9 #[.int .i64 0, .int .i64 0, .int .i64 0, .slice none 0 0, .slice none 0 0, .int .i64 0, .bool false] 78 ?h10_3 ?_; (case h10_3 => first | (go_simp; done) | (go_simp; rfl)); intro g w109 T10; clear c_r f_r c_ab f_ab; clear T9; obtain ⟨⟨c_g, f_g⟩, ⟨c_r, f_r⟩, ⟨c_ab, f_ab⟩, _⟩ := T10.out.cells)
      | ((with_reducible refine gate_store (t := 78) (p := 10) rfl ?_); refine tg_st [] T10 0 rfl 78 rfl rfl #[_, _, _, _, _, _, _] (.agg #[.int .i64 f, .int .i64 0, .int .i64 0, .slice none 0 0, .slice A1 (List.length lo0) c1, .int .i64 0, .bool false]) [_, _, _, _, _, _, _] sz78 rfl rfl rfl rfl (by simp) rfl ?_; intro w110 T11; simp only [List.cons_append, List.nil_append] at T11; clear c_g f_g c_r f_r c_ab f_ab; clear T10; obtain ⟨⟨c_g, f_g⟩, ⟨c_r, f_r⟩, ⟨c_ab, f_ab⟩, _⟩ := T11.out.cells))
  have TL := Aside0.mk (Tg.do_loop (e := ⟨id, f, A_a, c_a_, args, 0, 0, 0, 0, none, 0, []⟩) rfl rfl rfl T11.out)
  clear c_g f_g c_r f_r c_ab f_ab T11
  clear b1 b2
  try simp only [List.append_eq, List.cons_append, List.nil_append, Act.put, List.setIfInBounds_toArray, List.set_cons_zero, List.set_cons_succ]
  have hA0 : ∃ ad, A_m = some ad := by have h := TL.out.own (.tail _ (.head _)); obtain ⟨ga, cap, e, _⟩ := World.ownsRow.form h (by simp); injection e with e1 e2 e3; exact ⟨_, e1⟩
  obtain ⟨ad_m, rfl⟩ := hA0
  go_loopg [12] jfuel.toNat (fun k v12 w' => ∃ (pc1 fuel1 kn : Int) (B1 : Option Addr) (e1 : Nat) (B2 : Option Addr) (e2 : Nat) (st1 lo1 : List Int) (adE : Addr) (cE' : Nat) (AK : Option Addr) (cK : Nat) (ks : List (Int × Int)) (e : En) (rest : List En) (ov' : Bool), v12 = .slice AK ks.length cK ∧
    Aside0 ((k : Int) = jfuel - fuel1 ∧ 0 ≤ fuel1 ∧ fuel1 ≤ jfuel ∧ Gd fs D f pc1 st1 lo1 ∧ (ks.length : Int) = kn ∧ e.id = id ∧ es0.length + (rest.length + 1) ≤ 500 ∧ LoopP id e.aw rest kn ov' ∧ (e.aw.length : Int) ≤ fuel1) ∧
    Aside0 (Tg w (MD ab (.slice AE es0.length cE)) [(g, #[.int .i64 f, .int .i64 pc1, .int .i64 fuel1, .slice B1 (List.length st1) e1, .slice B2 (List.length lo1) e2, .int .i64 kn, .bool false], 78), (r, #[.int .i64 0, .int .i64 0], 35), (ab, #[.pointer (some ⟨kb, 0, none⟩), .slice (some adE) (es0.length + (List.length rest + 1)) cE', .bool ov'], 56)] (loopIs [(.slice B1 (List.length st1) e1, st1), (.slice B2 (List.length lo1) e2, lo1)] (.slice (some adE) (es0.length + (List.length rest + 1)) cE') es0 e rest (.slice AK ks.length cK) ks) w'))
  case atStart =>
    refine ⟨0, 0, 0, none, 0, A1, c1, [], lo0, ad_m, c_m_, none, 0, [], _, [], false, rfl, ⟨by omega, by omega, by omega, ⟨by omega, ?_, ?_, ?_, HLO.out⟩, rfl, rfl, by simp; omega, LoopP.start id false, by simp⟩, TL⟩
    · have := (HG.out.start f hf1 hf2).1; omega
    · rw [(HG.out.start f hf1 hf2).2]; omega
    · rw [(HG.out.start f hf1 hf2).2]; rfl
  case round =>
    clear TL
    obtain ⟨pc1, fuel1, kn, B1, e1, B2, e2, st1, lo1, adE, cE', AK, cK, ks, e, rest, ov', rfl, hk, T50⟩ := hrel
    obtain ⟨⟨c_g, f_g⟩, ⟨c_r, f_r⟩, ⟨c_ab, f_ab⟩, _⟩ := T50.out.cells
    cases ov' with
    | true =>
      go_wp2_with (first
          | ((with_reducible refine gate_store (t := 35) (p := 8) rfl ?_); refine tg_st [_] T50 0 rfl 35 rfl rfl #[_, _] (.agg #[.int .i64 0, .int .i64 0]) [_, _] sz35 rfl rfl rfl rfl (by simp) rfl ?_; intro w151 T51; simp only [List.cons_append, List.nil_append] at T51; clear c_g f_g c_r f_r c_ab f_ab; clear T50; obtain ⟨⟨c_g, f_g⟩, ⟨c_r, f_r⟩, ⟨c_ab, f_ab⟩, _⟩ := T51.out.cells))
      refine bodyPost_ret (results_cell_row rfl _ _ r 35 _ (0, 0) _ rfl (T51.out.blk _ (.tail _ (.head _))).1 Try.underlying35 rfl (by kernel_rfl)) rfl ?_
      unfold DoPost
      exact ⟨0, 0, _, e :: rest, true, rfl, T51.out.do_end, hk.out.2.2.2.2.2.2.1, hk.out.2.2.2.2.2.2.2.1.out HV.out hk.out.2.2.2.2.2.1 (by have h1 := hk.out.2.2.2.2.2.2.2.2; have h2 := hk.out.2.2.1; omega), fun h => by cases h⟩
    | false =>
      go_upto_region 10 with (fail)
      have hkn := hk.out.2.2.2.2.2.2.2.1.k0
      have hkn2 := hk.out.2.2.2.2.2.2.2.1.k16
      have T := T50
      go_cut [13, 14] from 69 to 199 (fun v13 v14 wc => ∃ (x y : Nat) (pc2 fuel2 : Int) (D1 : Option Addr) (d1 : Nat) (D2 : Option Addr) (d2 : Nat) (st2 lo2 : List Int) (kn2 : Int) (wt2 : Bool) (kind ef ek steps : Int) (D9 : Option Addr) (d9 : Nat) (ar : List Int) (er ev : Int), v13 = .pointer (some ⟨x, 0, none⟩) ∧ v14 = .pointer (some ⟨y, 0, none⟩) ∧ Aside0 ((kind = 3) ∨ (kind = 1 ∧ fuel1 < fuel2 ∧ fuel2 ≤ jfuel ∧ (id.size : Int) < 12 ∧ kn < 16 ∧ 0 ≤ ef ∧ ef < fs.length ∧ ek = kn ∧ (ar.length : Int) = (rd_T50 fs ef).f1 ∧ Gd fs D f pc2 st2 lo2 ∧ kn2 = kn + 1 ∧ wt2 = false) ∨ (kind = 2 ∧ fuel1 < fuel2 ∧ fuel2 ≤ jfuel ∧ (insAt fs f pc2).f0 = 17 ∧ 0 ≤ ek ∧ ek < kn ∧ ek = rd st2 (st2.length - 1) ∧ Gd fs D f pc2 st2 lo2 ∧ kn2 = kn ∧ wt2 = true)) ∧ Aside0 (Tg w (MD ab (.slice AE es0.length cE)) [(x, #[.int .i64 f, .int .i64 pc2, .int .i64 fuel2, .slice D1 (List.length st2) d1, .slice D2 (List.length lo2) d2, .int .i64 kn2, .bool wt2], 78), (y, #[.int .i64 kind, .int .i64 ef, .int .i64 ek, .int .i64 steps, .slice D9 (List.length ar) d9, .int .i64 er, .int .i64 ev], 83), (g, #[.int .i64 f, .int .i64 pc1, .int .i64 fuel1, .slice B1 (List.length st1) e1, .slice B2 (List.length lo1) e2, .int .i64 kn, .bool false], 78), (r, #[.int .i64 0, .int .i64 0], 35), (ab, #[.pointer (some ⟨kb, 0, none⟩), .slice (some adE) (es0.length + (List.length rest + 1)) cE', .bool false], 56)] (loopIs [(.slice D1 (List.length st2) d1, st2), (.slice D2 (List.length lo2) d2, lo2), (.slice D9 (List.length ar) d9, ar)] (.slice (some adE) (es0.length + (List.length rest + 1)) cE') es0 e rest (.slice AK ks.length cK) ks) wc))
      case first =>
        refine wp_region_tp [0, 1, 2, 3, 4, 5, 6] [7, 8, 9, 10, 11, 12, 13, 14] (by kernel_rfl) (by kernel_rfl) rfl rfl (fun c a d v w h => ?hQt) ?_
        case hQt => cases d <;> exact h
        obtain ⟨g_g, g_r, g_ab, _⟩ := T.out.gr
        simp only [pick, List.getElem?_cons_zero, List.getElem?_cons_succ, List.nil_append, List.cons_append]
        repeat (quiet_step (fail))
        refine wpQuiet_nil ?_
        clear g_g g_r g_ab T50 c_g f_g c_r f_r c_ab f_ab
        have Tn := Aside0.mk T.out.drew
        clear T
        have T := Tn
        clear Tn
        generalize wr.drew = wd at T ⊢
        iterate 8
          all_goals show wpTail _ _ _ _ _ _ _
          all_goals first | refine tail_calm 10 (by decide +kernel) (by decide +kernel) rfl rfl rfl (fun c a d v w h => by cases d <;> exact h) ?_ | refine tail_calm 8 (by decide +kernel) (by decide +kernel) rfl rfl rfl (fun c a d v w h => by cases d <;> exact h) ?_ | refine tail_calm 9 (by decide +kernel) (by decide +kernel) rfl rfl rfl (fun c a d v w h => by cases d <;> exact h) ?_ | refine tail_two 11 12 (by decide +kernel) rfl rfl rfl rfl ?_ ?_ | refine tail_one 11 (by decide +kernel) rfl rfl ?_ | refine tail_one 12 (by decide +kernel) rfl rfl ?_ | refine tail_one 13 (by decide +kernel) rfl rfl ?_ | refine tail_one 14 (by decide +kernel) rfl rfl ?_ | refine tail_two 7 11 (by decide +kernel) rfl rfl rfl rfl ?_ ?_ | refine tail_three 7 11 12 (by decide +kernel) rfl rfl rfl rfl rfl rfl ?_ ?_ ?_ | refine tail_two 7 12 (by decide +kernel) rfl rfl rfl rfl ?_ ?_ | refine tail_one 7 (by decide +kernel) rfl rfl ?_ | refine tail_one 8 (by decide +kernel) rfl rfl ?_
          all_goals go_wp2_with (first | ((with_reducible refine gate_dst (N := 13) rfl ?_); refine tg_new 13 rfl rfl T #[.int .i64 0, .int .i64 0, .int .i64 0, .slice none 0 0, .slice none 0 0, .int .i64 0, .bool false] 78 ?hn ?_; (case hn => first | (go_simp; done) | (go_simp; rfl)); intro x wn Tn; first | (have Tm : Aside0 (Tg _ _ ((x, _, _) :: (y, _, _) :: _) _ _) := Aside0.mk (Tn.out.bperm (List.Perm.swap _ _ _)); clear T Tn; have T := Tm; clear Tm) | (clear T; have T := Tn; clear Tn)) | ((with_reducible refine gate_dst (N := 14) rfl ?_); refine tg_new 14 rfl rfl T #[.int .i64 0, .int .i64 0, .int .i64 0, .int .i64 0, .slice none 0 0, .int .i64 0, .int .i64 0] 83 ?hn ?_; (case hn => first | (go_simp; done) | (go_simp; rfl)); intro y wn Tn; first | (have Tm : Aside0 (Tg _ _ ((x, _, _) :: (y, _, _) :: _) _ _) := Aside0.mk (Tn.out.bperm (List.Perm.swap _ _ _)); clear T Tn; have T := Tm; clear Tm) | (clear T; have T := Tn; clear Tn)) | ((with_reducible refine gate_store (t := 78) (p := 13) rfl ?_); refine tg_st [] T 0 rfl 78 rfl rfl #[_, _, _, _, _, _, _] (.agg #[.int .i64 f, .int .i64 pc2, .int .i64 fuel2, .slice D1 (List.length st2) d1, .slice D2 (List.length lo2) d2, .int .i64 kn2, .bool wt2]) [_, _, _, _, _, _, _] sz78 rfl rfl rfl rfl (by simp) rfl ?_; intro wn Tn; simp only [List.cons_append, List.nil_append] at Tn; clear T; have T := Tn; clear Tn) | ((with_reducible refine gate_store (t := 83) (p := 14) rfl ?_); refine tg_st [_] T 0 rfl 83 rfl rfl #[_, _, _, _, _, _, _] (.agg #[.int .i64 kind, .int .i64 ef, .int .i64 ek, .int .i64 steps, .slice D9 (List.length ar) d9, .int .i64 er, .int .i64 ev]) [_, _, _, _, _, _, _] sz83 rfl rfl rfl rfl (by simp) rfl ?_; intro wn Tn; simp only [List.cons_append, List.nil_append] at Tn; clear T; have T := Tn; clear Tn))
          all_goals try (refine (run_any _ kb fs D main jfuel tasks jargs (HK.out.below (HB.out _ _ _ T.out)) HG.out hj f pc1 fuel1 kn B1 B2 e1 e2 st1 lo1 (row_reads (T.out.many (.head _) (.head _))) (row_reads (T.out.many (.head _) (.tail _ (.head _)))) hf1 hf2 hk.out.2.2.2.1 hkn hkn2 hk.out.2.1 hk.out.2.2.1 (id.size : Int)).mono ?_; rintro e_ wn ⟨pc2, fuel2, D1, d1, D2, d2, st2, lo2, kn2, wt2, kind, ef, ek, steps, D9, d9, ar, er, ev, rfl, b_, r1_, r2_, r9_, cs_⟩; have CS := Aside0.mk cs_; have Tn := Aside0.mk (T.out.ditem.nmany (l := [(.slice D1 (List.length st2) d1, st2), (.slice D2 (List.length lo2) d2, lo2), (.slice D9 (List.length ar) d9, ar)]) b_ (by intro p hp; rcases List.mem_cons.1 hp with rfl | hp; exact r1_; rcases List.mem_cons.1 hp with rfl | hp; exact r2_; obtain rfl := List.mem_singleton.1 hp; exact r9_)); clear T b_ r1_ r2_ r9_ cs_; have T := Tn; clear Tn; unfold StV EvV; go_wp2_with fail)
        all_goals show wpTail _ _ _ _ _ _ _
        all_goals refine tail_nil ?_
        all_goals (go_wp2_with fail; go_meet)
        all_goals exact ⟨x, y, pc2, fuel2, D1, d1, D2, d2, st2, lo2, kn2, wt2, kind, ef, ek, steps, D9, d9, ar, er, ev, rfl, rfl, CS, T⟩
      case rest =>
        clear T T50 c_g f_g c_r f_r c_ab f_ab
        obtain ⟨x, y, pc2, fuel2, D1, d1, D2, d2, st2, lo2, kn2, wt2, kind, ef, ek, steps, D9, d9, ar, er, ev, rfl, rfl, CS, T60⟩ := hcut
        obtain ⟨hk1, hk2, hk3, hk4, hk5, hk6, hk7, hk8, hk9⟩ := hk.out
        have hlen : (es0.length : Int) < ((es0.length + (rest.length + 1) : Nat) : Int) := by omega
        have hlenN : es0.length < es0.length + (rest.length + 1) := by omega
        have hpos : (es0.length : Int) < (es0.length : Int) + ((rest.length : Int) + 1) := by omega
        have HI := Aside0.mk (And.intro hk5 hk6)
        have HP := Aside0.mk hk8
        clear hk5 hk6 hk8
        obtain ⟨⟨c_x, f_x⟩, ⟨c_y, f_y⟩, ⟨c_g, f_g⟩, ⟨c_r, f_r⟩, ⟨c_ab, f_ab⟩, _⟩ := T60.out.cells
        go_upto_region 12 with (((with_reducible refine gate_store (t := 78) (p := 10) rfl ?_); refine tg_st [_, _] T60 0 rfl 78 rfl rfl #[_, _, _, _, _, _, _] (.agg #[.int .i64 f, .int .i64 pc2, .int .i64 fuel2, .slice D1 (List.length st2) d1, .slice D2 (List.length lo2) d2, .int .i64 kn2, .bool wt2]) [_, _, _, _, _, _, _] sz78 rfl rfl rfl rfl (by simp) rfl ?_; intro w161 T61; simp only [List.cons_append, List.nil_append] at T61; clear c_x f_x c_y f_y c_g f_g c_r f_r c_ab f_ab; clear T60; obtain ⟨⟨c_x, f_x⟩, ⟨c_y, f_y⟩, ⟨c_g, f_g⟩, ⟨c_r, f_r⟩, ⟨c_ab, f_ab⟩, _⟩ := T61.out.cells))
        refine wp_region_hp [0, 1, 2, 3, 4, 5, 6, 7, 8, 9, 10, 11, 12, 13, 14, 15, 16, 17] [18] (by kernel_rfl) (by kernel_rfl) rfl rfl rfl (fun c a d v w h => ?hQ) ?_
        case hQ => cases d <;> exact h
        obtain ⟨g_x, g_y, g_g, g_r, g_ab, _⟩ := T61.out.gr
        have EC_ := E_cells (T61.out.own (.tail _ (.head _))) (rfl : es0.length = es0.length)
        obtain ⟨_, _, _, _, _, m5, _, _⟩ := EC_
        have s5 := cell_gr m5
        simp only [pick, List.getElem?_cons_zero, List.getElem?_cons_succ, List.nil_append, List.cons_append]
        repeat (quiet_step (fail))
        refine wpQuiet_nil ?_
        clear g_x g_y g_g g_r g_ab m5 s5
        clear c_x f_x c_y f_y c_g f_g c_r f_r c_ab f_ab
        have T62 := Aside0.mk (T61.out.drew)
        clear T61
        generalize w161.drew = w162 at T62 ⊢
        obtain ⟨⟨c_x, f_x⟩, ⟨c_y, f_y⟩, ⟨c_g, f_g⟩, ⟨c_r, f_r⟩, ⟨c_ab, f_ab⟩, _⟩ := T62.out.cells
        go_upto_region 13 with (((with_reducible refine gate_store (t := 3) (p := 103) rfl ?_); refine tgE_set [_] T62 es0.length rfl 5 rfl 3 rfl rfl (.int .i64 (IntKind.i64.wrap (e.steps + steps))) [_] sz3 rfl rfl rfl rfl ⟨e.id, e.f, e.A, e.c, e.args, e.er, e.v, IntKind.i64.wrap (e.steps + steps), e.kids, e.B, e.d, e.aw⟩ (by simp) rfl ?_; intro w163 Tn; obtain ⟨e3, EI_e3, T63⟩ : ∃ e3 : En, Aside0 (e3.id = e.id ∧ e3.aw = e.aw) ∧ Aside0 (Tg w (MD ab (.slice AE es0.length cE)) [(x, #[.int .i64 f, .int .i64 pc2, .int .i64 fuel2, .slice D1 (List.length st2) d1, .slice D2 (List.length lo2) d2, .int .i64 kn2, .bool wt2], 78), (y, #[.int .i64 kind, .int .i64 ef, .int .i64 ek, .int .i64 steps, .slice D9 (List.length ar) d9, .int .i64 er, .int .i64 ev], 83), (g, #[.int .i64 f, .int .i64 pc2, .int .i64 fuel2, .slice D1 (List.length st2) d1, .slice D2 (List.length lo2) d2, .int .i64 kn2, .bool wt2], 78), (r, #[.int .i64 0, .int .i64 0], 35), (ab, #[.pointer (some ⟨kb, 0, none⟩), .slice (some adE) (es0.length + (List.length rest + 1)) cE', .bool false], 56)] (loopIs [(.slice D1 (List.length st2) d1, st2), (.slice D2 (List.length lo2) d2, lo2), (.slice D9 (List.length ar) d9, ar)] (.slice (some adE) (es0.length + (List.length rest + 1)) cE') es0 e3 rest (.slice AK ks.length cK) ks) w163) := ⟨⟨e.id, e.f, e.A, e.c, e.args, e.er, e.v, IntKind.i64.wrap (e.steps + steps), e.kids, e.B, e.d, e.aw⟩, ⟨rfl, rfl⟩, Tn⟩; clear Tn; clear c_x f_x c_y f_y c_g f_g c_r f_r c_ab f_ab; clear T62; obtain ⟨⟨c_x, f_x⟩, ⟨c_y, f_y⟩, ⟨c_g, f_g⟩, ⟨c_r, f_r⟩, ⟨c_ab, f_ab⟩, _⟩ := T63.out.cells))
        rcases CS.out with rfl | ⟨rfl, c1_, c2_, c3_, c4_, c5_, c6_, c7_, c8_, c9_, rfl, rfl⟩ | ⟨rfl, c1_, c2_, c3_, c4_, c5_, c6_, c7_, c8_, rfl⟩
        · clear CS
          go_upto_region 27 with (fail)
          refine wp_region_hp [0, 1, 2, 3, 4, 5, 6, 7, 8] [9] (by kernel_rfl) (by kernel_rfl) rfl rfl rfl (fun c a d v w h => ?hQ) ?_
          case hQ => cases d <;> exact h
          obtain ⟨g_x, g_y, g_g, g_r, g_ab, _⟩ := T63.out.gr
          have EC_ := E_cells (T63.out.own (.tail _ (.head _))) (rfl : es0.length = es0.length)
          obtain ⟨_, _, _, m3, m4, _, _, _⟩ := EC_
          have s3 := cell_gr m3
          have s4 := cell_gr m4
          simp only [pick, List.getElem?_cons_zero, List.getElem?_cons_succ, List.nil_append, List.cons_append]
          repeat (quiet_step (fail))
          refine wpQuiet_nil ?_
          clear g_x g_y g_g g_r g_ab m3 s3 m4 s4
          clear c_x f_x c_y f_y c_g f_g c_r f_r c_ab f_ab
          have T64 := Aside0.mk (T63.out.drew)
          clear T63
          generalize w163.drew = w164 at T64 ⊢
          obtain ⟨⟨c_x, f_x⟩, ⟨c_y, f_y⟩, ⟨c_g, f_g⟩, ⟨c_r, f_r⟩, ⟨c_ab, f_ab⟩, _⟩ := T64.out.cells
          go_wp2_with (first
              | ((with_reducible refine gate_store (t := 35) (p := 197) rfl ?_); refine tgE_set [_] T64 es0.length rfl 3 rfl 35 rfl rfl (.agg #[.int .i64 er, .int .i64 ev]) [_, _] sz35 rfl rfl rfl rfl ⟨e3.id, e3.f, e3.A, e3.c, e3.args, er, ev, e3.steps, e3.kids, e3.B, e3.d, e3.aw⟩ (by simp) rfl ?_; intro w165 Tn; obtain ⟨e4, EI_e4, T65⟩ : ∃ e4 : En, Aside0 (e4.id = e3.id ∧ e4.aw = e3.aw) ∧ Aside0 (Tg w (MD ab (.slice AE es0.length cE)) [(x, #[.int .i64 f, .int .i64 pc2, .int .i64 fuel2, .slice D1 (List.length st2) d1, .slice D2 (List.length lo2) d2, .int .i64 kn2, .bool wt2], 78), (y, #[.int .i64 3, .int .i64 ef, .int .i64 ek, .int .i64 steps, .slice D9 (List.length ar) d9, .int .i64 er, .int .i64 ev], 83), (g, #[.int .i64 f, .int .i64 pc2, .int .i64 fuel2, .slice D1 (List.length st2) d1, .slice D2 (List.length lo2) d2, .int .i64 kn2, .bool wt2], 78), (r, #[.int .i64 0, .int .i64 0], 35), (ab, #[.pointer (some ⟨kb, 0, none⟩), .slice (some adE) (es0.length + (List.length rest + 1)) cE', .bool false], 56)] (loopIs [(.slice D1 (List.length st2) d1, st2), (.slice D2 (List.length lo2) d2, lo2), (.slice D9 (List.length ar) d9, ar)] (.slice (some adE) (es0.length + (List.length rest + 1)) cE') es0 e4 rest (.slice AK ks.length cK) ks) w165) := ⟨⟨e3.id, e3.f, e3.A, e3.c, e3.args, er, ev, e3.steps, e3.kids, e3.B, e3.d, e3.aw⟩, ⟨rfl, rfl⟩, Tn⟩; clear Tn; clear c_x f_x c_y f_y c_g f_g c_r f_r c_ab f_ab; clear T64; obtain ⟨⟨c_x, f_x⟩, ⟨c_y, f_y⟩, ⟨c_g, f_g⟩, ⟨c_r, f_r⟩, ⟨c_ab, f_ab⟩, _⟩ := T65.out.cells)
              | ((with_reducible refine gate_store (t := 35) (p := 8) rfl ?_); refine tg_st [_, _, _] T65 0 rfl 35 rfl rfl #[_, _] (.agg #[.int .i64 er, .int .i64 ev]) [_, _] sz35 rfl rfl rfl rfl (by simp) rfl ?_; intro w166 T66; simp only [List.cons_append, List.nil_append] at T66; clear c_x f_x c_y f_y c_g f_g c_r f_r c_ab f_ab; clear T65; obtain ⟨⟨c_x, f_x⟩, ⟨c_y, f_y⟩, ⟨c_g, f_g⟩, ⟨c_r, f_r⟩, ⟨c_ab, f_ab⟩, _⟩ := T66.out.cells))
          refine bodyPost_ret (results_cell_row rfl _ _ r 35 _ (0, 0) _ rfl (T66.out.blk _ (.tail _ (.tail _ (.tail _ (.head _))))).1 Try.underlying35 rfl (by kernel_rfl)) rfl ?_
          unfold DoPost
          exact ⟨er, ev, _, e4 :: rest, false, rfl, Tg.do_end (T66.out.sub (.cons _ (.cons _ (.refl _))) (.refl _)), hk7, LoopP.out (by rw [EI_e4.out.2, EI_e3.out.2]; exact HP.out) HV.out (by rw [EI_e4.out.1, EI_e3.out.1]; exact HI.out.2) (by have hx := congrArg List.length (EI_e4.out.2.trans EI_e3.out.2); omega), fun _ => ⟨e4, .head _, by rw [EI_e4.out.1, EI_e3.out.1]; exact HI.out.2⟩⟩
        · clear CS
          have h_ := c7_.symm
          clear c7_
          subst h_
          obtain ⟨K_, hK⟩ := kid1 HV.out (by omega : id.size < 12) hkn c4_
          have HKK := Aside0.mk hK
          have C8 := Aside0.mk c8_
          have C9 := Aside0.mk c9_
          clear hK c8_ c9_
          go_wp2_with fail
          refine (gleanerref1_Kid.calls K_ id kn (kidId id kn) true _ HKK.out).mono ?_
          rintro e_ w164 ⟨rfl, b_⟩
          have T64 := Aside0.mk (T63.out.call b_)
          clear b_
          clear c_x f_x c_y f_y c_g f_g c_r f_r c_ab f_ab T63
          obtain ⟨⟨c_x, f_x⟩, ⟨c_y, f_y⟩, ⟨c_g, f_g⟩, ⟨c_r, f_r⟩, ⟨c_ab, f_ab⟩, _⟩ := T64.out.cells
          go_wp2_with fail
          refine (IH.out (n - 1) (by have := HN.out; omega) _ ab (.slice (some adE) (es0.length + (List.length rest + 1)) cE') (es0 ++ e3 :: rest) false (kidId id kn) ef D9 d9 ar (by rw [kidId_size]; have := HN.out; omega) (HV.out.kid (by omega) hkn c4_) (HB.out _ _ _ T64.out) hab (fun k hk => ((T64.out.it _ (.tail _ (.head _))).2 k hk).elim (fun h => h.elim (fun e => e ▸ hab) (HF.out k)) (fun h => Nat.le_trans HS.out h)) (T64.out.blk _ (.tail _ (.tail _ (.tail _ (.tail _ (.head _)))))).1 (own_len (T64.out.own (.tail _ (.head _))) (by simp)) (by simp; omega) c5_ c6_ C8.out (Tg.many_reads T64.out (.tail _ (.tail _ (.tail _ (.tail _ (.head _))))) (.tail _ (.tail _ (.head _))))).mono ?_
          rintro e_ w165 ⟨er2, rv2, vE2, new, ov2, rfl, C_, hl2, DP, hfi⟩
          obtain ⟨adE2, cE2, rfl, T_⟩ := Tg.do_child (bs := [_, _, _, _]) T64.out C_
          simp only [List.cons_append, List.nil_append] at T_
          have hL := LoopP.child HP.out (by omega) c4_ DP hfi
          have hl3 : es0.length + ((rest ++ new).length + 1) ≤ 500 := by simp at hl2 ⊢; omega
          generalize rest ++ new = rest2 at T_ hL hl3 ⊢
          have T65 := Aside0.mk T_
          have HL := Aside0.mk hL
          clear c_x f_x c_y f_y c_g f_g c_r f_r c_ab f_ab T64 T_ C_ hl2 DP hfi hL hlen hlenN hpos
          have hpos : (es0.length : Int) < (es0.length : Int) + ((rest2.length : Int) + 1) := by omega
          have hlenN : es0.length < es0.length + (rest2.length + 1) := by omega
          obtain ⟨⟨c_x, f_x⟩, ⟨c_y, f_y⟩, ⟨c_g, f_g⟩, ⟨c_r, f_r⟩, ⟨c_ab, f_ab⟩, _⟩ := T65.out.cells
          go_upto_region 18 with (first
            | ((with_reducible refine gate_dst (N := 17) rfl ?_); refine tg_new 17 rfl rfl T65 #[.int .i64 0, .int .i64 0] 35 ?h17_4 ?_; (case h17_4 => first | (go_simp; done) | (go_simp; rfl)); intro z w166 T66; clear c_x f_x c_y f_y c_g f_g c_r f_r c_ab f_ab; clear T65; obtain ⟨⟨c_z, f_z⟩, ⟨c_x, f_x⟩, ⟨c_y, f_y⟩, ⟨c_g, f_g⟩, ⟨c_r, f_r⟩, ⟨c_ab, f_ab⟩, _⟩ := T66.out.cells)
            | ((with_reducible refine gate_store (t := 35) (p := 17) rfl ?_); refine tg_st [] T66 0 rfl 35 rfl rfl #[_, _] (.agg #[.int .i64 er2, .int .i64 rv2]) [_, _] sz35 rfl rfl rfl rfl (by simp) rfl ?_; intro w167 T67; simp only [List.cons_append, List.nil_append] at T67; clear c_z f_z c_x f_x c_y f_y c_g f_g c_r f_r c_ab f_ab; clear T66; obtain ⟨⟨c_z, f_z⟩, ⟨c_x, f_x⟩, ⟨c_y, f_y⟩, ⟨c_g, f_g⟩, ⟨c_r, f_r⟩, ⟨c_ab, f_ab⟩, _⟩ := T67.out.cells)
            | ((with_reducible refine gate_dst (N := 124) rfl ?_); refine tg_box T67 124 rfl rfl [.int .i64 er2, .int .i64 rv2] 35 2 rfl ?h124_5 ?_; (case h124_5 => first | (go_simp; done) | (go_simp; rfl)); intro a_o w168 T68; clear c_z f_z c_x f_x c_y f_y c_g f_g c_r f_r c_ab f_ab; clear T67; obtain ⟨⟨c_z, f_z⟩, ⟨c_x, f_x⟩, ⟨c_y, f_y⟩, ⟨c_g, f_g⟩, ⟨c_r, f_r⟩, ⟨c_ab, f_ab⟩, _⟩ := T68.out.cells)
            | ((with_reducible refine gate_dst (N := 125) rfl ?_); refine tg_push [_, _, _] T68 125 rfl rfl rfl Try.underlying81 (.agg #[.int .i64 0, .int .i64 0]) 16 (by kernel_rfl) rfl (by decide) (by decide) rfl a_o 1 1 _ rfl (box_news (T68.out.own (.head _))) (by simp [Value.oneCell']) (by have := HI.out.1; omega) ?_; intro A_m c_m_ w169 T69; simp only [List.cons_append, List.nil_append] at T69; clear c_z f_z c_x f_x c_y f_y c_g f_g c_r f_r c_ab f_ab; clear T68; have T70 := Aside0.mk T69.out.ditem; clear T69; obtain ⟨⟨c_z, f_z⟩, ⟨c_x, f_x⟩, ⟨c_y, f_y⟩, ⟨c_g, f_g⟩, ⟨c_r, f_r⟩, ⟨c_ab, f_ab⟩, _⟩ := T70.out.cells))
          have T_ := Tg.do_kid (p := (er2, rv2)) T70.out
          have hks : (ks ++ [(er2, rv2)]).length = ks.length + 1 := by simp
          generalize ks ++ [(er2, rv2)] = ks2 at T_ hks
          have HKS := Aside0.mk hks
          have T71 := Aside0.mk T_
          clear c_z f_z c_x f_x c_y f_y c_g f_g c_r f_r c_ab f_ab T70 T_ hks
          obtain ⟨⟨c_z, f_z⟩, ⟨c_x, f_x⟩, ⟨c_y, f_y⟩, ⟨c_g, f_g⟩, ⟨c_r, f_r⟩, ⟨c_ab, f_ab⟩, _⟩ := T71.out.cells
          have EC_ := E_cells (T71.out.own (.tail _ (.head _))) (rfl : es0.length = es0.length)
          obtain ⟨_, _, _, _, _, _, m6, _⟩ := EC_
          go_wp2_with (first
              | ((with_reducible refine gate_store (t := 3) (p := 136) rfl ?_); refine tgE_set [_] T71 es0.length rfl 6 rfl 3 rfl rfl (.int .i64 (wrap64 (e3.kids + 1))) [_] sz3 rfl rfl rfl rfl ⟨e3.id, e3.f, e3.A, e3.c, e3.args, e3.er, e3.v, e3.steps, wrap64 (e3.kids + 1), e3.B, e3.d, e3.aw⟩ (by simp) rfl ?_; intro w170 Tn; obtain ⟨e5, EI_e5, T72⟩ : ∃ e5 : En, Aside0 (e5.id = e3.id ∧ e5.aw = e3.aw) ∧ Aside0 (Tg w (MD ab (.slice AE es0.length cE)) [(z, #[.int .i64 er2, .int .i64 rv2], 35), (x, #[.int .i64 f, .int .i64 pc2, .int .i64 fuel2, .slice D1 (List.length st2) d1, .slice D2 (List.length lo2) d2, .int .i64 (kn + 1), .bool false], 78), (y, #[.int .i64 1, .int .i64 ef, .int .i64 kn, .int .i64 steps, .slice D9 (List.length ar) d9, .int .i64 er, .int .i64 ev], 83), (g, #[.int .i64 f, .int .i64 pc2, .int .i64 fuel2, .slice D1 (List.length st2) d1, .slice D2 (List.length lo2) d2, .int .i64 (kn + 1), .bool false], 78), (r, #[.int .i64 0, .int .i64 0], 35), (ab, #[.pointer (some ⟨kb, 0, none⟩), .slice (some adE2) (es0.length + (List.length rest2 + 1)) cE2, .bool ov2], 56)] (loopIs [(.slice D1 (List.length st2) d1, st2), (.slice D2 (List.length lo2) d2, lo2), (.slice D9 (List.length ar) d9, ar)] (.slice (some adE2) (es0.length + (List.length rest2 + 1)) cE2) es0 e5 rest2 (.slice A_m ks2.length c_m_) ks2) w170) := ⟨⟨e3.id, e3.f, e3.A, e3.c, e3.args, e3.er, e3.v, e3.steps, wrap64 (e3.kids + 1), e3.B, e3.d, e3.aw⟩, ⟨rfl, rfl⟩, Tn⟩; clear Tn; clear c_z f_z c_x f_x c_y f_y c_g f_g c_r f_r c_ab f_ab; clear T71; obtain ⟨⟨c_z, f_z⟩, ⟨c_x, f_x⟩, ⟨c_y, f_y⟩, ⟨c_g, f_g⟩, ⟨c_r, f_r⟩, ⟨c_ab, f_ab⟩, _⟩ := T72.out.cells))
          go_roundg (jfuel - fuel2).toNat
          case measure => omega
          case rel => exact ⟨pc2, fuel2, kn + 1, D1, d1, D2, d2, st2, lo2, adE2, cE2, A_m, c_m_, ks2, e5, rest2, ov2, by rw [HKS.out], ⟨by omega, by omega, c2_, C9.out, by have := HKS.out; have := HI.out.1; omega, by rw [EI_e5.out.1, EI_e3.out.1]; exact HI.out.2, hl3, by rw [EI_e5.out.2, EI_e3.out.2]; exact HL.out, by rw [EI_e5.out.2, EI_e3.out.2]; omega⟩, ⟨Tg.fewer (by intro p hp; rcases List.mem_cons.1 hp with rfl | hp; exact .head _; obtain rfl := List.mem_singleton.1 hp; exact .tail _ (.head _)) (T72.out.sub (.cons _ (.cons _ (.cons _ (.refl _)))) (.refl _))⟩⟩
        · clear CS
          have h_ := c8_.symm
          clear c8_
          subst h_
          have C3 := Aside0.mk c3_
          have C6 := Aside0.mk c6_
          have C7 := Aside0.mk c7_
          clear c3_ c6_ c7_
          go_upto_region 20 with (fail)
          have hawl : e3.aw.length + 1 ≤ 1000000 := by rw [EI_e3.out.2]; omega
          obtain ⟨F, hF⟩ : ∃ F : World → Prop, F = fun w' => ((∀ j, w'.cell? ⟨ab, j, none⟩ = (#[.pointer (some ⟨kb, 0, none⟩), .slice (some adE) (es0.length + (List.length rest + 1)) cE', .bool false] : Array Value)[j]?) ∧ (∀ j, w'.cell? ⟨y, j, none⟩ = (#[.int .i64 2, .int .i64 ef, .int .i64 ek, .int .i64 steps, .slice D9 (List.length ar) d9, .int .i64 er, .int .i64 ev] : Array Value)[j]?)) ∧ w'.cell? ⟨(adE.add (es0.length * 8)).block, (adE.add (es0.length * 8)).off + 7, none⟩ = some (.slice e3.B e3.aw.length e3.d) := ⟨_, rfl⟩
          have HFF := Aside0.mk hF
          clear hF
          have r_ab : ∀ (p : HW F) j, p.val.cell? ⟨ab, j, none⟩ = (#[.pointer (some ⟨kb, 0, none⟩), .slice (some adE) (es0.length + (List.length rest + 1)) cE', .bool false] : Array Value)[j]? := fun p => by have h := cast (congrFun HFF.out p.val) p.ok; exact h.1.1
          have r_y : ∀ (p : HW F) j, p.val.cell? ⟨y, j, none⟩ = (#[.int .i64 2, .int .i64 ef, .int .i64 ek, .int .i64 steps, .slice D9 (List.length ar) d9, .int .i64 er, .int .i64 ev] : Array Value)[j]? := fun p => by have h := cast (congrFun HFF.out p.val) p.ok; exact h.1.2
          have r_7 : ∀ (p : HW F), p.val.cell? ⟨(adE.add (es0.length * 8)).block, (adE.add (es0.length * 8)).off + 7, none⟩ = some (.slice e3.B e3.aw.length e3.d) := fun p => by have h := cast (congrFun HFF.out p.val) p.ok; exact h.2
          have T64 := Aside0.mk T63.out.drew
          have nei : Nonempty (HW F) := ⟨⟨_, ((by rw [HFF.out]; exact ⟨⟨(blk_cells (T64.out.blk _ (.tail _ (.tail _ (.tail _ (.tail _ (.head _)))))).1).1, (blk_cells (T64.out.blk _ (.tail _ (.head _))).1).1⟩, (E_cells (T64.out.own (.tail _ (.head _))) rfl).2.2.2.2.2.2.2⟩) : F w163.drew)⟩⟩
          refine wp_region_sp (HW.val (F := F)) [0, 1, 2, 3, 4, 5, 6, 7, 8, 9, 10, 11, 12, 13, 14] [15, 16, 17, 18, 19] (by kernel_rfl) (by kernel_rfl) rfl rfl (fun c a d v w h => ?hQt) (HW.mk' (by rw [HFF.out]; exact ⟨⟨(blk_cells (T64.out.blk _ (.tail _ (.tail _ (.tail _ (.tail _ (.head _)))))).1).1, (blk_cells (T64.out.blk _ (.tail _ (.head _))).1).1⟩, (E_cells (T64.out.own (.tail _ (.head _))) rfl).2.2.2.2.2.2.2⟩)) ?_
          case hQt => cases d <;> exact h
          clear c_x f_x c_y f_y c_g f_g c_r f_r c_ab f_ab
          simp only [pick, List.getElem?_cons_zero, List.getElem?_cons_succ, List.nil_append, List.cons_append]
          repeat (quiet_step (fail))
          refine wpQuiet_nil ?_
          clear r_ab r_y r_7
          clear T63
          generalize w163.drew = w164 at T64 ⊢
          obtain ⟨⟨c_x, f_x⟩, ⟨c_y, f_y⟩, ⟨c_g, f_g⟩, ⟨c_r, f_r⟩, ⟨c_ab, f_ab⟩, _⟩ := T64.out.cells
          show wpTailS _ _ _ _ _ _ _ _ _
          refine tailS_one 15 (by decide +kernel) rfl rfl ?_
          go_wp2_with (first | ((with_reducible refine gate_dst (N := 154) rfl ?_); refine tg_box T64 154 rfl rfl [.int .i64 ek] 3 1 rfl ?h154_4 ?_; (case h154_4 => first | (go_simp; done) | (go_simp; rfl)); intro a_o w165 T65; clear c_x f_x c_y f_y c_g f_g c_r f_r c_ab f_ab; clear T64; obtain ⟨⟨c_x, f_x⟩, ⟨c_y, f_y⟩, ⟨c_g, f_g⟩, ⟨c_r, f_r⟩, ⟨c_ab, f_ab⟩, _⟩ := T65.out.cells))
          refine ⟨HW.mk' (by rw [HFF.out]; exact ⟨⟨(blk_cells (T65.out.blk _ (.tail _ (.tail _ (.tail _ (.tail _ (.head _)))))).1).1, (blk_cells (T65.out.blk _ (.tail _ (.head _))).1).1⟩, (E_cells (T65.out.own (.tail _ (.tail _ (.head _)))) rfl).2.2.2.2.2.2.2⟩), ?_⟩
          show wpTailS _ _ _ _ _ _ _ _ _
          refine tailS_one 16 (by decide +kernel) rfl rfl ?_
          go_wp2_with (first | ((with_reducible refine gate_dst (N := 155) rfl ?_); refine tg_app [_, _, _, _, _] T65 155 rfl rfl rfl [ek] (some a_o) 1 1 rfl rfl (own_reads' (T65.out.own (.head _))) hawl ?_; intro A_n c_n_ z_n w166 E_n T66; simp only [List.cons_append, List.nil_append] at T66; clear c_x f_x c_y f_y c_g f_g c_r f_r c_ab f_ab; clear T65; have T67 := Aside0.mk T66.out.ditem; clear T66; obtain ⟨⟨c_x, f_x⟩, ⟨c_y, f_y⟩, ⟨c_g, f_g⟩, ⟨c_r, f_r⟩, ⟨c_ab, f_ab⟩, _⟩ := T67.out.cells))
          refine ⟨HW.mk' (by rw [HFF.out]; exact ⟨⟨(blk_cells (T67.out.blk _ (.tail _ (.tail _ (.tail _ (.tail _ (.head _)))))).1).1, (blk_cells (T67.out.blk _ (.tail _ (.head _))).1).1⟩, (E_cells (T67.out.own (.tail _ (.head _))) rfl).2.2.2.2.2.2.2⟩), ?_⟩
          show wpTailS _ _ _ _ _ _ _ _ _
          refine tailS_free 17 (by decide +kernel) (by decide +kernel) rfl rfl ?_
          go_wp2_with fail
          show wpTailS _ _ _ _ _ _ _ _ _
          refine tailS_free 18 (by decide +kernel) (by decide +kernel) rfl rfl ?_
          go_wp2_with fail
          show wpTailS _ _ _ _ _ _ _ _ _
          refine tailS_free 19 (by decide +kernel) (by decide +kernel) rfl rfl ?_
          go_wp2_with (first | ((with_reducible refine gate_store (t := 23) (p := 157) rfl ?_); refine tgE_set [_] T67 es0.length rfl 7 rfl 23 rfl rfl (.slice A_n z_n.length c_n_) [_] sz23 rfl rfl rfl rfl ⟨e3.id, e3.f, e3.A, e3.c, e3.args, e3.er, e3.v, e3.steps, e3.kids, A_n, c_n_, z_n⟩ (by simp) rfl ?_; intro w167 Tn; obtain ⟨e4, EI_e4, T68⟩ : ∃ e4 : En, Aside0 (e4.id = e3.id ∧ e4.aw = z_n) ∧ Aside0 (Tg w (MD ab (.slice AE es0.length cE)) [(x, #[.int .i64 f, .int .i64 pc2, .int .i64 fuel2, .slice D1 (List.length st2) d1, .slice D2 (List.length lo2) d2, .int .i64 kn, .bool true], 78), (y, #[.int .i64 2, .int .i64 ef, .int .i64 ek, .int .i64 steps, .slice D9 (List.length ar) d9, .int .i64 er, .int .i64 ev], 83), (g, #[.int .i64 f, .int .i64 pc2, .int .i64 fuel2, .slice D1 (List.length st2) d1, .slice D2 (List.length lo2) d2, .int .i64 kn, .bool true], 78), (r, #[.int .i64 0, .int .i64 0], 35), (ab, #[.pointer (some ⟨kb, 0, none⟩), .slice (some adE) (es0.length + (List.length rest + 1)) cE', .bool false], 56)] (loopIs [(.slice D1 (List.length st2) d1, st2), (.slice D2 (List.length lo2) d2, lo2), (.slice D9 (List.length ar) d9, ar)] (.slice (some adE) (es0.length + (List.length rest + 1)) cE') es0 e4 rest (.slice AK ks.length cK) ks) w167) := ⟨⟨e3.id, e3.f, e3.A, e3.c, e3.args, e3.er, e3.v, e3.steps, e3.kids, A_n, c_n_, z_n⟩, ⟨rfl, rfl⟩, Tn⟩; clear Tn; clear c_x f_x c_y f_y c_g f_g c_r f_r c_ab f_ab; clear T67; obtain ⟨⟨c_x, f_x⟩, ⟨c_y, f_y⟩, ⟨c_g, f_g⟩, ⟨c_r, f_r⟩, ⟨c_ab, f_ab⟩, _⟩ := T68.out.cells))
          show wpTailS _ _ _ _ _ _ _ _ _
          refine tailS_nil ?_
          have EI4 : Aside0 (e4.id = id ∧ e4.aw = e.aw ++ [ek]) := ⟨EI_e4.out.1.trans (EI_e3.out.1.trans HI.out.2), by rw [EI_e4.out.2, E_n.out, EI_e3.out.2]⟩
          have hekl : ek < (ks.length : Int) := by have := HI.out.1; omega
          have hA0 : ∃ ad, AK = some ad := by have h := T68.out.own (.tail _ (.tail _ (.head _))); obtain ⟨ga, cap, e_, _⟩ := World.ownsRow.form h (by omega); injection e_ with e1_ e2_ e3_; exact ⟨_, e1_⟩
          obtain ⟨adK, rfl⟩ := hA0
          obtain ⟨p1, p2, m0, m1⟩ : ∃ p1 p2 : Int, w167.cell? (adK.add (ek.toNat * 2)) = some (.int .i64 p1) ∧ w167.cell? ⟨(adK.add (ek.toNat * 2)).block, (adK.add (ek.toNat * 2)).off + 1, none⟩ = some (.int .i64 p2) := ⟨_, _, K_cells (T68.out.own (.tail _ (.tail _ (.head _)))) ek.toNat (by omega)⟩
          go_upto_region 21 with (fail)
          refine wp_region_tp [0, 1, 2, 3, 4, 5, 6, 7, 8, 9] [10, 11, 12, 13, 14, 15] (by kernel_rfl) (by kernel_rfl) rfl rfl (fun c a d v w h => ?hQt) ?_
          case hQt => cases d <;> exact h
          obtain ⟨g_x, g_y, g_g, g_r, g_ab, _⟩ := T68.out.gr
          have s0 := cell_gr m0
          have s1 := cell_gr m1
          simp only [pick, List.getElem?_cons_zero, List.getElem?_cons_succ, List.nil_append, List.cons_append]
          repeat (quiet_step (fail))
          refine wpQuiet_nil ?_
          clear g_x g_y g_g g_r g_ab m0 m1 s0 s1
          clear c_x f_x c_y f_y c_g f_g c_r f_r c_ab f_ab
          have T69 := Aside0.mk (T68.out.drew)
          clear T68
          generalize w167.drew = w168 at T69 ⊢
          obtain ⟨⟨c_x, f_x⟩, ⟨c_y, f_y⟩, ⟨c_g, f_g⟩, ⟨c_r, f_r⟩, ⟨c_ab, f_ab⟩, _⟩ := T69.out.cells
          show wpTail _ _ _ _ _ _ _
          refine tail_one 10 (by decide +kernel) rfl rfl ?_
          go_wp2_with fail
          refine (resume_any _ kb fs D main jfuel tasks jargs (HK.out.below (HB.out _ _ _ T69.out)) HG.out f pc2 fuel2 kn D1 D2 d1 d2 st2 lo2 (row_reads (T69.out.many (.head _) (.head _))) (row_reads (T69.out.many (.head _) (.tail _ (.head _)))) hf1 hf2 C7.out hkn hkn2 (by omega) c2_ C3.out (by rw [← C6.out]; exact c4_) (by rw [← C6.out]; exact c5_) p1 p2).mono ?_
          rintro e_ w169 ⟨pc3, F1, f1, F2, f2, st3, wt3, kind3, ev1, ev2, rfl, b_, r1_, r2_, ap_, cs_⟩
          have T70 := Aside0.mk (T69.out.ditem.nmany (l := [(.slice F1 (List.length st3) f1, st3), (.slice F2 (List.length lo2) f2, lo2)]) b_ (by intro p hp; rcases List.mem_cons.1 hp with rfl | hp; exact r1_; obtain rfl := List.mem_singleton.1 hp; exact r2_))
          have CS := Aside0.mk cs_
          clear b_ r1_ r2_ ap_ cs_
          unfold StV EvV
          clear c_x f_x c_y f_y c_g f_g c_r f_r c_ab f_ab T69
          obtain ⟨⟨c_x, f_x⟩, ⟨c_y, f_y⟩, ⟨c_g, f_g⟩, ⟨c_r, f_r⟩, ⟨c_ab, f_ab⟩, _⟩ := T70.out.cells
          go_wp2_with fail
          show wpTail _ _ _ _ _ _ _
          refine tail_one 11 (by decide +kernel) rfl rfl ?_
          go_wp2_with fail
          show wpTail _ _ _ _ _ _ _
          refine tail_calm 12 (by decide +kernel) (by decide +kernel) rfl rfl rfl (fun c a d v w h => by cases d <;> exact h) ?_
          go_wp2_with fail
          show wpTail _ _ _ _ _ _ _
          refine tail_calm 13 (by decide +kernel) (by decide +kernel) rfl rfl rfl (fun c a d v w h => by cases d <;> exact h) ?_
          go_wp2_with fail
          show wpTail _ _ _ _ _ _ _
          refine tail_one 14 (by decide +kernel) rfl rfl ?_
          go_wp2_with (first | ((with_reducible refine gate_store (t := 78) (p := 13) rfl ?_); refine tg_st [] T70 0 rfl 78 rfl rfl #[_, _, _, _, _, _, _] (.agg #[.int .i64 f, .int .i64 pc3, .int .i64 fuel2, .slice F1 (List.length st3) f1, .slice F2 (List.length lo2) f2, .int .i64 kn, .bool wt3]) [_, _, _, _, _, _, _] sz78 rfl rfl rfl rfl (by simp) rfl ?_; intro w170 T71; simp only [List.cons_append, List.nil_append] at T71; clear c_x f_x c_y f_y c_g f_g c_r f_r c_ab f_ab; clear T70; obtain ⟨⟨c_x, f_x⟩, ⟨c_y, f_y⟩, ⟨c_g, f_g⟩, ⟨c_r, f_r⟩, ⟨c_ab, f_ab⟩, _⟩ := T71.out.cells))
          show wpTail _ _ _ _ _ _ _
          refine tail_one 15 (by decide +kernel) rfl rfl ?_
          go_wp2_with (first | ((with_reducible refine gate_store (t := 83) (p := 14) rfl ?_); refine tg_st [_] T71 0 rfl 83 rfl rfl #[_, _, _, _, _, _, _] (.agg #[.int .i64 kind3, .int .i64 0, .int .i64 0, .int .i64 0, .slice none 0 0, .int .i64 ev1, .int .i64 ev2]) [_, _, _, _, _, _, _] sz83 rfl rfl rfl rfl (by simp) rfl ?_; intro w171 T72; simp only [List.cons_append, List.nil_append] at T72; clear c_x f_x c_y f_y c_g f_g c_r f_r c_ab f_ab; clear T71; obtain ⟨⟨c_x, f_x⟩, ⟨c_y, f_y⟩, ⟨c_g, f_g⟩, ⟨c_r, f_r⟩, ⟨c_ab, f_ab⟩, _⟩ := T72.out.cells))
          show wpTail _ _ _ _ _ _ _
          refine tail_nil ?_
          go_upto_region 23 with (((with_reducible refine gate_store (t := 78) (p := 10) rfl ?_); refine tg_st [_, _] T72 0 rfl 78 rfl rfl #[_, _, _, _, _, _, _] (.agg #[.int .i64 f, .int .i64 pc3, .int .i64 fuel2, .slice F1 (List.length st3) f1, .slice F2 (List.length lo2) f2, .int .i64 kn, .bool wt3]) [_, _, _, _, _, _, _] sz78 rfl rfl rfl rfl (by simp) rfl ?_; intro w172 T73; simp only [List.cons_append, List.nil_append] at T73; clear c_x f_x c_y f_y c_g f_g c_r f_r c_ab f_ab; clear T72; obtain ⟨⟨c_x, f_x⟩, ⟨c_y, f_y⟩, ⟨c_g, f_g⟩, ⟨c_r, f_r⟩, ⟨c_ab, f_ab⟩, _⟩ := T73.out.cells))
          rcases CS.out with rfl | ⟨rfl, rfl, gd3⟩
          · clear CS
            go_upto_region 24 with (fail)
            refine wp_region_hp [0, 1, 2, 3, 4, 5, 6, 7, 8] [9] (by kernel_rfl) (by kernel_rfl) rfl rfl rfl (fun c a d v w h => ?hQ) ?_
            case hQ => cases d <;> exact h
            obtain ⟨g_x, g_y, g_g, g_r, g_ab, _⟩ := T73.out.gr
            have EC_ := E_cells (T73.out.own (.tail _ (.head _))) (rfl : es0.length = es0.length)
            obtain ⟨_, _, _, m3, m4, _, _, _⟩ := EC_
            have s3 := cell_gr m3
            have s4 := cell_gr m4
            simp only [pick, List.getElem?_cons_zero, List.getElem?_cons_succ, List.nil_append, List.cons_append]
            repeat (quiet_step (fail))
            refine wpQuiet_nil ?_
            clear g_x g_y g_g g_r g_ab m3 s3 m4 s4
            clear c_x f_x c_y f_y c_g f_g c_r f_r c_ab f_ab
            have T74 := Aside0.mk (T73.out.drew)
            clear T73
            generalize w172.drew = w173 at T74 ⊢
            obtain ⟨⟨c_x, f_x⟩, ⟨c_y, f_y⟩, ⟨c_g, f_g⟩, ⟨c_r, f_r⟩, ⟨c_ab, f_ab⟩, _⟩ := T74.out.cells
            go_wp2_with (first
                | ((with_reducible refine gate_store (t := 35) (p := 184) rfl ?_); refine tgE_set [_] T74 es0.length rfl 3 rfl 35 rfl rfl (.agg #[.int .i64 ev1, .int .i64 ev2]) [_, _] sz35 rfl rfl rfl rfl ⟨e4.id, e4.f, e4.A, e4.c, e4.args, ev1, ev2, e4.steps, e4.kids, e4.B, e4.d, e4.aw⟩ (by simp) rfl ?_; intro w174 Tn; obtain ⟨e6, EI_e6, T75⟩ : ∃ e6 : En, Aside0 (e6.id = e4.id ∧ e6.aw = e4.aw) ∧ Aside0 (Tg w (MD ab (.slice AE es0.length cE)) [(x, #[.int .i64 f, .int .i64 pc3, .int .i64 fuel2, .slice F1 (List.length st3) f1, .slice F2 (List.length lo2) f2, .int .i64 kn, .bool wt3], 78), (y, #[.int .i64 3, .int .i64 0, .int .i64 0, .int .i64 0, .slice none 0 0, .int .i64 ev1, .int .i64 ev2], 83), (g, #[.int .i64 f, .int .i64 pc3, .int .i64 fuel2, .slice F1 (List.length st3) f1, .slice F2 (List.length lo2) f2, .int .i64 kn, .bool wt3], 78), (r, #[.int .i64 0, .int .i64 0], 35), (ab, #[.pointer (some ⟨kb, 0, none⟩), .slice (some adE) (es0.length + (List.length rest + 1)) cE', .bool false], 56)] (loopIs [(.slice F1 (List.length st3) f1, st3), (.slice F2 (List.length lo2) f2, lo2)] (.slice (some adE) (es0.length + (List.length rest + 1)) cE') es0 e6 rest (.slice (some adK) ks.length cK) ks) w174) := ⟨⟨e4.id, e4.f, e4.A, e4.c, e4.args, ev1, ev2, e4.steps, e4.kids, e4.B, e4.d, e4.aw⟩, ⟨rfl, rfl⟩, Tn⟩; clear Tn; clear c_x f_x c_y f_y c_g f_g c_r f_r c_ab f_ab; clear T74; obtain ⟨⟨c_x, f_x⟩, ⟨c_y, f_y⟩, ⟨c_g, f_g⟩, ⟨c_r, f_r⟩, ⟨c_ab, f_ab⟩, _⟩ := T75.out.cells)
                | ((with_reducible refine gate_store (t := 35) (p := 8) rfl ?_); refine tg_st [_, _, _] T75 0 rfl 35 rfl rfl #[_, _] (.agg #[.int .i64 ev1, .int .i64 ev2]) [_, _] sz35 rfl rfl rfl rfl (by simp) rfl ?_; intro w175 T76; simp only [List.cons_append, List.nil_append] at T76; clear c_x f_x c_y f_y c_g f_g c_r f_r c_ab f_ab; clear T75; obtain ⟨⟨c_x, f_x⟩, ⟨c_y, f_y⟩, ⟨c_g, f_g⟩, ⟨c_r, f_r⟩, ⟨c_ab, f_ab⟩, _⟩ := T76.out.cells))
            refine bodyPost_ret (results_cell_row rfl _ _ r 35 _ (0, 0) _ rfl (T76.out.blk _ (.tail _ (.tail _ (.tail _ (.head _))))).1 Try.underlying35 rfl (by kernel_rfl)) rfl ?_
            unfold DoPost
            exact ⟨ev1, ev2, _, e6 :: rest, false, rfl, Tg.do_end (T76.out.sub (.cons _ (.cons _ (.refl _))) (.refl _)), hk7, LoopP.out (by rw [EI_e6.out.2, EI4.out.2]; exact HP.out.await c4_ c5_) HV.out (by rw [EI_e6.out.1]; exact EI4.out.1) (by have hx := congrArg List.length (EI_e6.out.2.trans EI4.out.2); rw [List.length_append, List.length_singleton] at hx; omega), fun _ => ⟨e6, .head _, by rw [EI_e6.out.1]; exact EI4.out.1⟩⟩
          · clear CS
            have GD3 := Aside0.mk gd3
            clear gd3
            go_wp2_with fail
            go_roundg (jfuel - fuel2).toNat
            case measure => omega
            case rel => exact ⟨pc3, fuel2, kn, F1, f1, F2, f2, st3, lo2, adE, cE', some adK, cK, ks, e4, rest, false, rfl, ⟨by omega, by omega, c2_, GD3.out, HI.out.1, EI4.out.1, hk7, by rw [EI4.out.2]; exact HP.out.await c4_ c5_, by rw [EI4.out.2]; simp; omega⟩, ⟨T73.out.sub (.cons _ (.cons _ (.refl _))) (.refl _)⟩⟩
end Go.Proofs.Ytakdckaplmoklaa.Ev
end
