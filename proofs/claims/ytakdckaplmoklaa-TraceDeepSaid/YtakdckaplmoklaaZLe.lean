/- A part of the proof of TraceDeepSaid (Ns Le); laid together by merge2.py. -/
import Derived.Test.YtakdckaplmoklaaZT
import Derived.Deep.LoopGhost
import Derived.Lib.SliceRun
import Derived.Test.YtakdckaplmoklaaZCk
section
namespace Go.Proofs.Ytakdckaplmoklaa.Ev
open Go.Proofs.YtakdckaplmoklaaHt Go.Sort
open Go.RowKit Go.Proofs.YtakdckaplmoklaaW.PrintWords Go.Proofs.YtakdckaplmoklaaW.PrintLast Go.Proofs.YtakdckaplmoklaaW.PrintMore Go.Proofs.Ytakdckaplmoklaa.PTraceDeep
set_option linter.unusedVariables false
set_option linter.unusedSimpArgs false
set_option maxHeartbeats 1000000 in
set_option maxRecDepth 100000 in
theorem clone_nil (w : World) : Calls Try.prog 29 #[.slice none 0 0] w fun e w' => e = .returned (.slice none 0 0) ∧ w' = w := by
  have h := Go.Lib.run_eql_slice_nil (P := Try.prog) w 43 32 none 0 0 0 0 Try.underlying43
  go_enter Try.func29, Try.ntmps29
  go_wp2
  go_ret
  exact ⟨rfl, rfl⟩
set_option maxHeartbeats 1000000 in
set_option maxRecDepth 100000 in
theorem len_zero (w : World) : Calls Try.prog 50 #[.int .u64 0] w fun e w' => e = .returned (.int .i64 0) ∧ w' = w := by
  go_enter Try.func50, Try.ntmps50
  go_wp2
  go_ret
  exact ⟨by kernel_rfl, rfl⟩
set_option maxHeartbeats 1000000 in
set_option maxRecDepth 100000 in
theorem ins_zero (w : World) : Calls Try.prog 59 #[.slice none 0 0, .int .i64 0, .int .i64 0] w fun e w' => e = .returned (.tuple #[]) ∧ w' = w := by
  go_enter Try.func59, Try.ntmps59
  go_wp2
  go_loopg [6] 0 (fun k v6 w' => v6 = .int .i64 1 ∧ w' = w)
  case atStart => exact ⟨rfl, rfl⟩
  case round =>
    obtain ⟨rfl, rfl⟩ := hrel
    go_wp2
    first | go_end0 | ((try simp only [Exit.inBlock, Exit.then]); refine bodyPost_ret (results_none rfl _ _ _) rfl ?_)
    exact ⟨rfl, rfl⟩
set_option maxHeartbeats 1000000 in
set_option maxRecDepth 100000 in
theorem pdq_zero (w : World) : Calls Try.prog 49 #[.slice none 0 0, .int .i64 0, .int .i64 0, .int .i64 0] w fun e w' => e = .returned (.tuple #[]) ∧ w' = w := by
  go_enter Try.func49, Try.ntmps49
  go_wp2
  go_loopg [1, 2] 0 (fun k v1 v2 w' => v1 = .int .i64 0 ∧ v2 = .int .i64 0 ∧ w' = w)
  case atStart => exact ⟨rfl, rfl, rfl⟩
  case round =>
    obtain ⟨rfl, rfl, rfl⟩ := hrel
    go_wp2_with (go_at_call 59; refine (ins_zero _).mono ?_; rintro e w' ⟨rfl, rfl⟩)
    first | go_end0 | ((try simp only [Exit.inBlock, Exit.then]); refine bodyPost_ret (results_none rfl _ _ _) rfl ?_)
    exact ⟨rfl, rfl⟩
set_option maxHeartbeats 1000000 in
set_option maxRecDepth 100000 in
theorem sort_zero (w : World) : Calls Try.prog 30 #[.slice none 0 0] w fun e w' => e = .returned (.tuple #[]) ∧ w' = w := by
  go_enter Try.func30, Try.ntmps30
  go_wp2_with (first | (go_at_call 50; refine (len_zero _).mono ?_; rintro e w' ⟨rfl, rfl⟩) | (go_at_call 49; refine (pdq_zero _).mono ?_; rintro e w' ⟨rfl, rfl⟩))
  first | go_end0 | ((try simp only [Exit.inBlock, Exit.then]); refine bodyPost_ret (results_none rfl _ _ _) rfl ?_)
  exact ⟨rfl, rfl⟩
set_option maxHeartbeats 1000000 in
set_option maxRecDepth 100000 in
theorem compact_zero (w : World) : Calls Try.prog 31 #[.slice none 0 0] w fun e w' => e = .returned (.slice none 0 0) ∧ w' = w := by
  go_enter Try.func31, Try.ntmps31
  go_wp2
  go_ret
  exact ⟨rfl, rfl⟩
set_option maxHeartbeats 1000000 in
set_option maxRecDepth 100000 in
theorem isort_zero (w : World) : Calls Try.prog 16 #[.slice none 0 0] w fun e w' => e = .returned (.slice none 0 0) ∧ w' = w := by
  go_enter Try.func16, Try.ntmps16
  go_wp2_with (first | (go_at_call 29; refine (clone_nil _).mono ?_; rintro e w' ⟨rfl, rfl⟩) | (go_at_call 30; refine (sort_zero _).mono ?_; rintro e w' ⟨rfl, rfl⟩) | (go_at_call 31; refine (compact_zero _).mono ?_; rintro e w' ⟨rfl, rfl⟩))
  go_ret
  exact ⟨rfl, rfl⟩
end Go.Proofs.Ytakdckaplmoklaa.Ev
end
section
namespace Go.Proofs.Ytakdckaplmoklaa.Ev
open Go.Proofs.YtakdckaplmoklaaHt Go.Sort
open Go.RowKit Go.Proofs.YtakdckaplmoklaaW.PrintWords Go.Proofs.YtakdckaplmoklaaW.PrintLast Go.Proofs.YtakdckaplmoklaaW.PrintMore Go.Proofs.Ytakdckaplmoklaa.PTraceDeep
set_option linter.unusedVariables false
set_option linter.unusedSimpArgs false
theorem setF_upd' (S : List ByteArray) (s : ByteArray) : updF (setF S) s (.bool true) = setF (S ++ [s]) := by
  funext x
  unfold updF setF
  by_cases h : x = s <;> simp [h]
set_option maxHeartbeats 4000000 in
set_option maxRecDepth 100000 in
theorem left_any (w : World) (A B : Option Addr) (n c m d : Nat) (ens : List En) (l : List S39) (hR : RE w A n ens) (hn : n ≤ 100000) (hL : Kd.C k39 w B m l) (hm : m ≤ 100000) (hall : ∀ e ∈ ens, e.id ∈ l.map S39.f0) :
    Calls Try.prog 9 #[.slice A n c, .slice B m d] w fun r w' => r = .returned (.slice none 0 0) ∧ Below w.heap.size w w' := by
  have HR := Aside0.mk hR
  have HL := Aside0.mk hL
  have ALL := Aside0.mk hall
  have HLL : Aside0 (l.length = m) := ⟨hL.1⟩
  have T0 := Aside0.mk (Tg.start w (fun _ => False))
  have HZ : Aside0 (∀ W, (zeroValue 4).run Try.prog W = .ok (.bool false) W) := ⟨fun W => zero_run 4 _ (by kernel_rfl) W⟩
  clear hR hL hall
  go_enter Try.func9, Try.ntmps9
  go_wp2_with (first | ((with_reducible refine gate_dst (N := 11) rfl ?_); refine tm_make T0 11 rfl rfl rfl ?_; intro g w101 T1; clear T0))
  try simp only [List.append_eq, List.cons_append, List.nil_append, Act.put, List.setIfInBounds_toArray, List.set_cons_zero, List.set_cons_succ]
  have TL := T1
  rw [setF_nil] at TL
  clear T1
  go_loopg [14] m (fun k v14 w' => ∃ (i : Nat), v14 = .int .i64 (i : Int) ∧ Aside0 (i + k = m) ∧ Aside0 (Tg w (fun _ => False) [] [It.map g (setF ((l.take i).map S39.f0))] w'))
  case atStart => exact ⟨0, rfl, ⟨by omega⟩, TL⟩
  case round =>
    clear TL
    obtain ⟨i, rfl, hk, T50⟩ := hrel
    by_cases p : i < m
    focus
      have b1 : decide ((i : Int) < (m : Int)) = true := by simpa using p
      have b2 : decide (i < m) = true := by simpa using p
      have i0 : (0 : Int) ≤ (i : Int) := by omega
      have i1 : (i : Int) < (m : Int) := by omega
      have i2 : (i : Int) ≤ 100000 := by omega
      have hil : i < l.length := by have := HLL.out; omega
      obtain ⟨ad, eb, m0, m1, m2⟩ := at_T39 (Kd.C_below HL.out T50.out.fresh) (i : Int) i0 i1
      subst eb
      have er : rd_T39 l (i : Int) = l[i] := by simp [rd_T39, List.getD_eq_getElem?_getD, List.getElem?_eq_getElem hil]
      simp only [Int.toNat_natCast, er] at m0 m1 m2
      have htk : (l.take (i + 1)).map S39.f0 = (l.take i).map S39.f0 ++ [l[i].f0] := by rw [List.take_succ_eq_append_getElem hil, List.map_append]; rfl
      generalize l[i] = x at m0 m1 m2 htk er
      have HT := Aside0.mk htk
      have P := Aside0.mk p
      clear p htk er hil
      go_wp2_with (first | ((with_reducible refine gate_dst (N := 7) rfl ?_); refine tg_new 7 rfl rfl T50 #[.string ⟨#[]⟩, .int .i64 0, .int .i64 0] 39 ?h7_1 ?_; (case h7_1 => first | (go_simp; done) | (go_simp; rfl)); intro x9 w151 T51; clear T50; obtain ⟨⟨c_x9, f_x9⟩, _⟩ := T51.out.cells) | ((with_reducible refine gate_store (t := 39) (p := 7) rfl ?_); refine tg_st [] T51 0 rfl 39 rfl rfl #[_, _, _] (.agg #[.string x.f0, .int .i64 x.f1.f0, .int .i64 x.f1.f1]) [_, _, _] sz39 rfl rfl rfl rfl (by simp) rfl ?_; intro w152 T52; simp only [List.cons_append, List.nil_append] at T52; clear c_x9 f_x9; clear T51; obtain ⟨⟨c_x9, f_x9⟩, _⟩ := T52.out.cells) | ((with_reducible refine gate_mapUpdate rfl ?_); refine tm_put [] T52 rfl rfl rfl Try.underlying60 Try.underlying32 x.f0 (.bool true) rfl rfl rfl ?_; intro w153 T53; simp only [List.cons_append, List.nil_append] at T53; clear c_x9 f_x9; clear T52))
      go_roundg (gk - 1)
      case measure => have := P.out; have := hk.out; omega
      case rel => exact ⟨i + 1, by simp, ⟨by have := P.out; have := hk.out; omega⟩, ⟨by rw [HT.out, ← setF_upd']; exact T53.out.sub (.cons _ (.refl _)) (.refl _)⟩⟩
    have b1 : decide ((i : Int) < (m : Int)) = false := by simp; omega
    have b2 : decide (i < m) = false := by simp; omega
    have hi : l.take i = l := List.take_of_length_le (by have := hk.out; have := HLL.out; omega)
    rw [hi] at T50
    clear p hi hk
    go_wp2_with fail
    try simp only [List.append_eq, List.cons_append, List.nil_append, Act.put, List.setIfInBounds_toArray, List.set_cons_zero, List.set_cons_succ]
    have TL := T50
    clear T50
    go_loopg [24, 8] n (fun k v24 v8 w' => ∃ (i : Nat), v24 = .int .i64 (i : Int) ∧ v8 = .slice none 0 0 ∧ Aside0 (i + k = n) ∧ Aside0 (Tg w (fun _ => False) [] [It.map g (setF (l.map S39.f0))] w'))
    case atStart => exact ⟨0, rfl, rfl, ⟨by omega⟩, TL⟩
    case round =>
      clear TL
      obtain ⟨i, rfl, rfl, hk, T70⟩ := hrel
      by_cases p : i < n
      focus
        have hil : i < ens.length := by have := HR.out.len; omega
        have b1 : decide ((i : Int) < (n : Int)) = true := by simpa using p
        have b2 : decide (i < n) = true := by simpa using p
        have i0 : (0 : Int) ≤ (i : Int) := by omega
        have i1 : (i : Int) < (n : Int) := by omega
        have i2 : (i : Int) ≤ 100000 := by omega
        obtain ⟨e, he⟩ : ∃ e, ens[i]? = some e := ⟨_, List.getElem?_eq_getElem hil⟩
        have HE := Aside0.mk he
        clear he
        obtain ⟨ad, ea, ec⟩ := (HR.out.below T70.out.fresh).cells i e HE.out
        subst ea
        obtain ⟨m0, m1, m2, m3, m4, m5, m6, m7⟩ := ec
        have P := Aside0.mk p
        clear p hil
        go_upto_region 11 with (first | ((with_reducible refine gate_dst (N := 10) rfl ?_); refine tg_new 10 rfl rfl T70 #[.string ⟨#[]⟩, .int .i64 0, .slice none 0 0, .int .i64 0, .int .i64 0, .int .i64 0, .int .i64 0, .slice none 0 0] 37 ?h10_1 ?_; (case h10_1 => first | (go_simp; done) | (go_simp; rfl)); intro y w171 T71; clear T70; obtain ⟨⟨c_y, f_y⟩, _⟩ := T71.out.cells) | ((with_reducible refine gate_store (t := 37) (p := 10) rfl ?_); refine tg_st [] T71 0 rfl 37 rfl rfl #[_, _, _, _, _, _, _, _] (.agg #[.string e.id, .int .i64 e.f, .slice e.A e.args.length e.c, .int .i64 e.er, .int .i64 e.v, .int .i64 e.steps, .int .i64 e.kids, .slice e.B e.aw.length e.d]) [_, _, _, _, _, _, _, _] sz37 rfl rfl rfl rfl (by simp) rfl ?_; intro w172 T72; simp only [List.cons_append, List.nil_append] at T72; clear c_y f_y; clear T71; obtain ⟨⟨c_y, f_y⟩, _⟩ := T72.out.cells))
        clear m0 m1 m2 m3 m4 m5 m6 m7
        have hls := MapF.look_set (P := Try.prog) (T72.out.it _ (.head _)).1.p Try.underlying60 Try.underlying32 (HZ.out _) e.id
        rw [decide_eq_true (ALL.out e (List.mem_of_getElem? HE.out))] at hls
        go_wp2_with fail
        go_roundg (gk - 1)
        case measure => have := P.out; have := hk.out; omega
        case rel => exact ⟨i + 1, by simp, rfl, ⟨by have := P.out; have := hk.out; omega⟩, ⟨T72.out.sub (.cons _ (.refl _)) (.refl _)⟩⟩
      have b1 : decide ((i : Int) < (n : Int)) = false := by simp; omega
      have b2 : decide (i < n) = false := by simp; omega
      clear p
      go_wp2_with (go_at_call 16; refine (isort_zero _).mono ?_; rintro e_ w' ⟨rfl, rfl⟩)
      go_ret
      exact ⟨rfl, T70.out.fresh⟩
set_option maxHeartbeats 4000000 in
set_option maxRecDepth 100000 in
theorem whole_any (w : World) (A B : Option Addr) (n c m d : Nat) (ens : List En) (l : List S39) (hR : RE w A n ens) (hn : n ≤ 100000) (hL : Kd.C k39 w B m l) (hm : m ≤ 100000) (hok : ∀ e ∈ ens, EntOk e ∧ e.aw.length ≤ 100000) (hall : ∀ e ∈ ens, e.id ∈ l.map S39.f0) (hc : (chk ens [] 0 l).2 = true) :
    Calls Try.prog 8 #[.slice A n c, .slice B m d] w fun r w' => r = .returned (.bool true) ∧ Below w.heap.size w w' := by
  have HR := Aside0.mk hR
  have HL := Aside0.mk hL
  have OK := Aside0.mk hok
  have ALL := Aside0.mk hall
  clear hR hL hall hok
  go_enter Try.func8, Try.ntmps8
  go_wp2_with fail
  refine (check_any _ A B n c m d ens l HR.out hn HL.out hm OK.out).mono ?_
  rintro e_ w1 ⟨rfl, b1_⟩
  rw [hc]
  have B1 := Aside0.mk b1_
  clear b1_ hc
  go_wp2_with fail
  refine (left_any _ A B n c m d ens l (HR.out.below B1.out) hn (Kd.C_below HL.out B1.out) hm ALL.out).mono ?_
  rintro e_ w2 ⟨rfl, b2_⟩
  have B2 := Aside0.mk b2_
  clear b2_
  go_wp2_with fail
  go_ret
  exact ⟨rfl, below_step B1.out B2.out⟩
end Go.Proofs.Ytakdckaplmoklaa.Ev
end
