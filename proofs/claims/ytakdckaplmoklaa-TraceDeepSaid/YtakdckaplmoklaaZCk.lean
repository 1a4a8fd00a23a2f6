/- A part of the proof of TraceDeepSaid (Mp Fi Af Ck); laid together by merge2.py. -/
import Derived.Test.YtakdckaplmoklaaZT
import Derived.MapKept
import Derived.ChangeMaps5
import Derived.Test.YtakdckaplmoklaaZEv
section
namespace Go.Proofs.Ytakdckaplmoklaa.Ev
open Go.Proofs.YtakdckaplmoklaaHt Go.Sort Go.MapKept
open Go.RowKit Go.Proofs.YtakdckaplmoklaaW.PrintWords Go.Proofs.YtakdckaplmoklaaW.PrintLast Go.Proofs.YtakdckaplmoklaaW.PrintMore Go.Proofs.Ytakdckaplmoklaa.PTraceDeep
set_option linter.unusedVariables false
set_option linter.unusedSimpArgs false
def MapF (W : World) (b : Nat) (f : ByteArray → Option Value) : Prop :=
  ∃ es clock, W.heap[b]? = some (.map es clock) ∧ (∀ x ∈ es.toList, ∃ s, x.key = .string s) ∧ es.toList.Pairwise (fun x y => x.key ≠ y.key) ∧ ∀ s v, f s = some v ↔ ∃ x ∈ es.toList, x.key = .string s ∧ x.val = v
def updF (f : ByteArray → Option Value) (k : ByteArray) (v : Value) : ByteArray → Option Value := fun s => if s = k then some v else f s
@[reducible] def It.map (b : Nat) (f : ByteArray → Option Value) : It := ⟨fun k => k = b, fun W => MapF W b f⟩
theorem MapF.lt {W : World} {b : Nat} {f : ByteArray → Option Value} (h : MapF W b f) : b < W.heap.size := by
  obtain ⟨es, clock, hb, _⟩ := h
  exact (Array.getElem?_eq_some_iff.1 hb).1
theorem ItOk.map {W : World} {b : Nat} {f : ByteArray → Option Value} (h : MapF W b f) : ItOk (It.map b f) W :=
  ⟨fun k hk => hk ▸ h.lt, fun W' hm => by
    obtain ⟨es, clock, hb, h1⟩ := h
    exact ⟨es, clock, (hm b rfl).trans hb, h1⟩⟩
theorem MapF.same {W W' : World} {b : Nat} {f : ByteArray → Option Value} (h : MapF W b f) (hm : W'.heap[b]? = W.heap[b]?) : MapF W' b f := (ItOk.map h).st W' fun k hk => by subst hk; exact hm
theorem zero_run (t : TypeId) (z : Value) (h : (Try.prog.info? t).map (·.zero) = some (some z)) (W : World) : (zeroValue t).run Try.prog W = .ok z W := by
  obtain ⟨i, hi, hz⟩ := Option.map_eq_some_iff.1 h
  simp [zeroValue, typeInfo, hi, hz, Result.andThen]
section
variable {P : Program} {W : World} {b : Nat} {f : ByteArray → Option Value} {t k e : TypeId}
theorem MapF.find (h : MapF W b f) (s : ByteArray) : ∃ es clock, W.heap[b]? = some (.map es clock) ∧ ((f s = none ∧ Instr.findNow .string (.string s) es.toList 0 = some none ∧ ∀ x ∈ es.toList, x.key ≠ .string s) ∨ ∃ j x, f s = some x.val ∧ Instr.findNow .string (.string s) es.toList 0 = some (some (j, x.val)) ∧ es.toList[j]? = some x ∧ x.key = .string s) := by
  obtain ⟨es, clock, hb, h1, h2, h3⟩ := h
  refine ⟨es, clock, hb, ?_⟩
  rcases findNow_spec (d := .string) (k := .string s) trivial es.toList 0 (fun x hx => by obtain ⟨s', e⟩ := h1 x hx; rw [e]; trivial) with ⟨a1, a2⟩ | ⟨j, x, a1, a2, a3⟩
  · refine .inl ⟨?_, a1, a2⟩
    cases hf : f s with
    | none => rfl
    | some v =>
      obtain ⟨x, hx, hk, _⟩ := (h3 s v).1 hf
      exact absurd hk (a2 x hx)
  · exact .inr ⟨j, x, (h3 s x.val).2 ⟨x, List.mem_of_getElem? a2, a3, rfl⟩, by simpa using a1, a2, a3⟩
theorem MapF.look (h : MapF W b f) (ht : P.underlying t = some (.map k e)) (hk : P.underlying k = some .string) {z : Value} (hz : (zeroValue e).run P W = .ok z W) (s : ByteArray) (c : Bool) :
    (Instr.lookup t (.map (some b)) (.string s) c).run P W = .ok (match f s with | some v => if c then .tuple #[v, .bool true] else v | none => if c then .tuple #[z, .bool false] else z) W := by
  obtain ⟨es, clock, hb, hh⟩ := h.find s
  have hc : ∀ em, (Instr.checkKey em 10000 k (.string s)).run P W = .ok () W := fun em => run_checkKey (P := P) (w := W) hk (d := .string) (k := .string s) trivial em 9999
  rcases hh with ⟨h1, h2, _⟩ | ⟨j, x, h1, h2, _⟩
  · rw [h1]
    simp [Instr.lookup, run_underlying ht, MapKept.run_getObj_map hb, hc, run_findKey hk h2, hz, Result.andThen]
  · rw [h1]
    simp [Instr.lookup, run_underlying ht, MapKept.run_getObj_map hb, hc, run_findKey hk h2, Result.andThen]
theorem MapF.put (h : MapF W b f) (ht : P.underlying t = some (.map k e)) (hk : P.underlying k = some .string) (s : ByteArray) (v : Value) :
    ∃ w', (Instr.mapUpdate t (.map (some b)) (.string s) v).run P W = .ok () w' ∧ MapF w' b (updF f s v) ∧ W.grownBy w' (some b) := by
  have h0 := h
  obtain ⟨es, clock, hb, hh⟩ := h.find s
  obtain ⟨es', clock', hb', g1, g2, g3⟩ := h0
  rw [hb] at hb'
  injection hb' with hb'
  injection hb' with e1 e2
  subst e1 e2
  have hc : ∀ em, (Instr.checkKey em 10000 k (.string s)).run P W = .ok () W := fun em => run_checkKey (P := P) (w := W) hk (d := .string) (k := .string s) trivial em 9999
  have gr : ∀ o, W.grownBy { W with heap := W.heap.setIfInBounds b o } (some b) := fun o => ⟨rfl, rfl, rfl, by simp, fun i _ hi => (heap_set hb (o' := o)).2 i (fun e => hi (by rw [e]))⟩
  rcases hh with ⟨h1, h2, h3⟩ | ⟨j, x, h1, h2, h3, h4⟩
  · refine ⟨_, by simp [Instr.mapUpdate, run_underlying ht, MapKept.run_getObj_map hb, hc, run_findKey hk h2, run_setObj_map _ hb, Result.andThen]; rfl, ⟨_, _, (heap_set hb).1, ?_, ?_, ?_⟩, gr _⟩
    · intro y hy
      simp at hy
      rcases hy with hy | rfl
      · exact g1 y (by simpa using hy)
      · exact ⟨s, rfl⟩
    · simp only [Array.toList_push]
      refine List.pairwise_append.2 ⟨g2, List.pairwise_singleton _ _, fun y hy q hq => ?_⟩
      obtain rfl := List.mem_singleton.1 hq
      exact h3 y hy
    · intro s' v'
      unfold updF
      simp only [Array.toList_push, List.mem_append, List.mem_singleton]
      split
      · rename_i e1
        subst e1
        constructor
        · intro e1
          injection e1 with e1
          exact ⟨_, .inr rfl, rfl, e1⟩
        · rintro ⟨y, hy | rfl, e1, e2⟩
          · exact absurd e1 (h3 y hy)
          · rw [← e2]
      · rename_i e1
        rw [g3]
        constructor
        · rintro ⟨y, hy, e2⟩
          exact ⟨y, .inl hy, e2⟩
        · rintro ⟨y, hy | rfl, e2, e3⟩
          · exact ⟨y, hy, e2, e3⟩
          · injection e2 with e2
            exact absurd e2.symm e1
  · have hx : es[j]? = some x := by simpa using h3
    have hstay : (Instr.keyThatStays (.string s) (.string s)).run P W = .ok (.string s) W := run_keyThatStays (d := .string) (k := .string s) trivial
    refine ⟨_, by simp [Instr.mapUpdate, run_underlying ht, MapKept.run_getObj_map hb, hc, run_findKey hk h2, hx, h4, hstay, run_setObj_map _ hb, Result.andThen]; rfl, ⟨_, _, (heap_set hb).1, ?_, ?_, ?_⟩, gr _⟩
    all_goals
      have hmod : (es.modify j fun e => { e with key := Value.string s, val := v }).toList = es.toList.set j { x with key := .string s, val := v } := by
        apply List.ext_getElem?
        intro i
        rw [Array.getElem?_toList, Array.getElem?_modify, List.getElem?_set]
        by_cases hij : j = i
        · subst hij
          have hl : j < es.toList.length := (List.getElem?_eq_some_iff.1 h3).1
          simp only [if_pos rfl, hx, Option.map_some, hl, if_true]
        · simp [hij]
      rw [hmod]
    · intro y hy
      rcases List.mem_or_eq_of_mem_set hy with hy | rfl
      · exact g1 y hy
      · exact ⟨s, rfl⟩
    · have hkeys : (es.toList.set j { x with key := .string s, val := v }).map (·.key) = es.toList.map (·.key) := by
        rw [List.map_set, ← h4]
        apply List.ext_getElem?
        intro i
        rw [List.getElem?_set]
        split
        · rename_i e1
          subst e1
          have hl : j < es.toList.length := (List.getElem?_eq_some_iff.1 h3).1
          rw [List.length_map, if_pos hl, List.getElem?_map, h3]; rfl
        · rfl
      have h5 := List.pairwise_map.2 g2
      rw [← hkeys] at h5
      exact List.pairwise_map.1 h5
    · intro s' v'
      unfold updF
      have hl : j < es.toList.length := (List.getElem?_eq_some_iff.1 h3).1
      have uniq : ∀ y ∈ es.toList, y.key = .string s → ∀ i, es.toList[i]? = some y → i = j := fun y hy hyk i hi => by
        have hli := (List.getElem?_eq_some_iff.1 hi).1
        rcases Nat.lt_trichotomy i j with h6 | h6 | h6
        · have := List.pairwise_iff_getElem.1 g2 i j hli hl h6
          rw [(List.getElem?_eq_some_iff.1 hi).2, (List.getElem?_eq_some_iff.1 h3).2, hyk, h4] at this
          exact absurd rfl this
        · exact h6
        · have := List.pairwise_iff_getElem.1 g2 j i hl hli h6
          rw [(List.getElem?_eq_some_iff.1 hi).2, (List.getElem?_eq_some_iff.1 h3).2, hyk, h4] at this
          exact absurd rfl this
      split
      · rename_i e1
        subst e1
        constructor
        · intro e1
          injection e1 with e1
          exact ⟨_, List.mem_of_getElem? (List.getElem?_set_self (by simpa using hl)), rfl, e1⟩
        · rintro ⟨y, hy, e1, e2⟩
          obtain ⟨i, hi⟩ := List.mem_iff_getElem?.1 hy
          by_cases e3 : j = i
          · subst e3
            rw [List.getElem?_set_self (by simpa using hl)] at hi
            injection hi with hi
            subst hi
            rw [← e2]
          · rw [List.getElem?_set_ne e3] at hi
            exact absurd (uniq y (List.mem_of_getElem? hi) e1 i hi).symm e3
      · rename_i e1
        rw [g3]
        constructor
        · rintro ⟨y, hy, e2, e3⟩
          obtain ⟨i, hi⟩ := List.mem_iff_getElem?.1 hy
          have hne : j ≠ i := fun e4 => by
            subst e4
            rw [h3] at hi
            injection hi with hi
            subst hi
            rw [h4] at e2
            injection e2 with e2
            exact e1 e2.symm
          exact ⟨y, List.mem_of_getElem? (by rw [List.getElem?_set_ne hne]; exact hi), e2, e3⟩
        · rintro ⟨y, hy, e2, e3⟩
          rcases List.mem_or_eq_of_mem_set hy with hy | rfl
          · exact ⟨y, hy, e2, e3⟩
          · injection e2 with e2
            exact absurd e2.symm e1
end
section
variable {ws W : World} {M : Nat → Prop} {bs : List (Nat × Array Value × TypeId)} {is : List It} {ops : Array Oper} {rest : List Oper} {o : Oper} {a : Act} {Q : Exit → Act → World → Prop}
theorem gate_mapUpdate {t : TypeId} {m x y : Operand} (_ho : o.op = .mapUpdate t m x y) (h : wpList Try.prog ops Q (o :: rest) a W) : wpList Try.prog ops Q (o :: rest) a W := h
theorem tm_make (T : Aside0 (Tg ws M bs is W)) (N : Tmp) (hd : o.dst = some N) (hgd : o.guard = none) {t : TypeId} (ho : o.op = .makeMap t none)
    (h : ∀ g w1, Aside0 (Tg ws M bs (It.map g (fun _ => none) :: is) w1) → wpList Try.prog ops Q rest (a.put (some N) (.map (some g))) w1) : wpList Try.prog ops Q (o :: rest) a W := by
  have hrun : (execOp a.eval o).run Try.prog W = .ok (.value (.map (some W.heap.size))) (W.alloc (.map #[] 0)) := by
    unfold execOp
    simp [ho, Instr.makeMap, Result.andThen]
  refine Kd.event_run hgd hrun ?_
  rw [hd]
  refine h _ _ ⟨T.out.nitem (World.grownBy_alloc W _ none) (ItOk.map ⟨#[], 0, (heap_alloc W _).1, by simp, by simp, by simp⟩) (fun k hk => ?_)⟩
  have hk : k = W.heap.size := hk
  omega
theorem tm_put (pre : List It) {post : List It} {b : Nat} {f : ByteArray → Option Value} (T : Aside0 (Tg ws M bs (pre ++ It.map b f :: post) W)) (hgd : o.guard = none) (hN : o.dst = none) {t k e : TypeId} {m x y : Operand} (ho : o.op = .mapUpdate t m x y) (ht : Try.prog.underlying t = some (.map k e)) (hk : Try.prog.underlying k = some .string)
    (s : ByteArray) (v : Value) (hm : a.eval m = .map (some b)) (hx : a.eval x = .string s) (hy : a.eval y = v)
    (h : ∀ w1, Aside0 (Tg ws M bs (pre ++ It.map b (updF f s v) :: post) w1) → wpList Try.prog ops Q rest a w1) : wpList Try.prog ops Q (o :: rest) a W := by
  have hf : MapF W b f := (T.out.it _ (List.mem_append_right _ (.head _))).1.p
  obtain ⟨w', hrun, h1, h2⟩ := hf.put (P := Try.prog) ht hk s v
  refine wpList_plain hgd fun K' hK' => ?_
  unfold Oper.wp execOp
  simp only [ho, hm, hx, hy, Sem.run_bind, hrun, Result.andThen, Sem.run_pure]
  show K' (a.put o.dst undef) _
  rw [hN]
  exact hK' _ _ (h w' ⟨T.out.turn pre ((Chg.of_grown h2).mono fun k hk => (Option.some.inj hk).symm) (ItOk.map h1) (fun k hk => .inl hk)⟩)
end
end Go.Proofs.Ytakdckaplmoklaa.Ev
end
section
namespace Go.Proofs.Ytakdckaplmoklaa.Ev
open Go.Proofs.YtakdckaplmoklaaHt Go.Sort
open Go.RowKit Go.Proofs.YtakdckaplmoklaaW.PrintWords Go.Proofs.YtakdckaplmoklaaW.PrintLast Go.Proofs.YtakdckaplmoklaaW.PrintMore Go.Proofs.Ytakdckaplmoklaa.PTraceDeep
set_option linter.unusedVariables false
set_option linter.unusedSimpArgs false
theorem ECells.below {W W' : World} {ad : Addr} {m : Nat} {e : En} (h : ECells W ad m e) (b : Below W.heap.size W W') : ECells W' ad m e := by
  obtain ⟨h0, h1, h2, h3, h4, h5, h6, h7⟩ := h
  exact ⟨pw_cell_below b h0, pw_cell_below b h1, pw_cell_below b h2, pw_cell_below b h3, pw_cell_below b h4, pw_cell_below b h5, pw_cell_below b h6, pw_cell_below b h7⟩
structure RE (W : World) (A : Option Addr) (n : Nat) (ens : List En) : Prop where
  len : ens.length = n
  big : n ≤ 9223372036854775807
  cells : ∀ i e, ens[i]? = some e → ∃ ad, A = some ad ∧ ECells W ad i e
  aw : ∀ e ∈ ens, ReadsInt W .i64 e.B e.aw.length e.aw ∧ e.aw.length ≤ e.d
theorem RE.below {W W' : World} {A : Option Addr} {n : Nat} {ens : List En} (h : RE W A n ens) (b : Below W.heap.size W W') : RE W' A n ens :=
  ⟨h.len, h.big, fun i e he => by obtain ⟨ad, h1, h2⟩ := h.cells i e he; exact ⟨ad, h1, h2.below b⟩, fun e he => ⟨(h.aw e he).1.below b, (h.aw e he).2⟩⟩
theorem RE.of {W : World} {A : Option Addr} {n : Nat} {es : List S37} (h : Kd.C k37 W A n es) : ∃ ens : List En, ens.map toS = es ∧ RE W A n ens := by
  have hl : es.length = n := h.1
  have key : ∀ i : Fin n, ∃ e : En, toS e = es[i.1]'(by have := i.2; omega) ∧ (∃ ad, A = some ad ∧ ECells W ad i.1 e) ∧ ReadsInt W .i64 e.B e.aw.length e.aw ∧ e.aw.length ≤ e.d := by
    intro i
    have hi : i.1 < es.length := by have := i.2; omega
    obtain ⟨ad, A2, c2, A7, c7, e0, q0, q1, q2, q3, q4, q5, q6, q7, l2, g2, l7, g7⟩ := at_T37 h (i.1 : Int) (by omega) (by have := i.2; omega)
    have er : rd_T37 es (i.1 : Int) = es[i.1] := by simp [rd_T37, List.getD_eq_getElem?_getD, List.getElem?_eq_getElem hi]
    simp only [Int.toNat_natCast, er] at q0 q1 q2 q3 q4 q5 q6 q7 l2 g2 l7 g7
    exact ⟨⟨es[i.1].f0, es[i.1].f1, A2, c2, es[i.1].f2, es[i.1].f3.f0, es[i.1].f3.f1, es[i.1].f4, es[i.1].f5, A7, c7, es[i.1].f6⟩, rfl, ⟨ad, e0, q0, q1, q2, q3, q4, q5, q6, q7⟩, ints_of_C g7, l7⟩
  obtain ⟨g, hg⟩ := Classical.axiomOfChoice key
  refine ⟨List.ofFn g, ?_, List.length_ofFn, h.2.1, fun i e he => ?_, fun e he => ?_⟩
  · apply List.ext_getElem
    · simp [hl]
    · intro i h1 h2
      simp only [List.getElem_map, List.getElem_ofFn]
      exact (hg ⟨i, by simpa using h1⟩).1
  · obtain ⟨hi, e1⟩ := List.getElem?_eq_some_iff.1 he
    simp only [List.getElem_ofFn] at e1
    subst e1
    exact (hg ⟨i, by simpa using hi⟩).2.1
  · obtain ⟨i, rfl⟩ := List.mem_ofFn.1 he
    exact (hg i).2.2
def EnV (e : En) : Value := .agg e.cs.toArray
def fstE (ens : List En) (s : ByteArray) : Option En := ens.find? (fun e => decide (e.id = s))
def firstF (ens : List En) (s : ByteArray) : Option Value := (fstE ens s).map EnV
theorem firstF_some {ens : List En} {e : En} (h : (firstF ens e.id).isSome) : firstF (ens ++ [e]) = firstF ens := by
  funext s
  unfold firstF fstE at *
  rw [List.find?_append]
  by_cases hs : e.id = s
  · subst hs
    rw [Option.isSome_map] at h
    obtain ⟨x, hx⟩ := Option.isSome_iff_exists.1 h
    rw [hx]; rfl
  · simp [hs]
theorem firstF_none {ens : List En} {e : En} (h : firstF ens e.id = none) : updF (firstF ens) e.id (EnV e) = firstF (ens ++ [e]) := by
  funext s
  unfold firstF fstE updF at *
  rw [List.find?_append]
  by_cases hs : s = e.id
  · subst hs
    have h : List.find? (fun x : En => decide (x.id = e.id)) ens = none := by simpa using h
    simp [h]
  · have hs' : ¬ e.id = s := fun h => hs h.symm
    simp [hs, hs']
theorem take_snoc {ens : List En} {i : Nat} {e : En} (h : ens[i]? = some e) : ens.take (i + 1) = ens.take i ++ [e] := by
  obtain ⟨hi, rfl⟩ := List.getElem?_eq_some_iff.1 h
  exact List.take_succ_eq_append_getElem hi
set_option maxHeartbeats 4000000 in
set_option maxRecDepth 100000 in
theorem first_any (w : World) (A : Option Addr) (n c : Nat) (ens : List En) (hR : RE w A n ens) (hn : n ≤ 100000) :
    Calls Try.prog 14 #[.slice A n c] w fun e w' => ∃ g, e = .returned (.map (some g)) ∧ MapF w' g (firstF ens) ∧ w.heap.size ≤ g ∧ Below w.heap.size w w' := by
  have HR := Aside0.mk hR
  have T0 := Aside0.mk (Tg.start w (fun _ => False))
  have hz : ∀ W, (zeroValue 37).run Try.prog W = .ok (.agg #[.string ⟨#[]⟩, .int .i64 0, .slice none 0 0, .int .i64 0, .int .i64 0, .int .i64 0, .int .i64 0, .slice none 0 0]) W := fun W => zero_run 37 _ (by kernel_rfl) W
  have HZ := Aside0.mk hz
  clear hR hz
  go_enter Try.func14, Try.ntmps14
  go_wp2_with (first
    | ((with_reducible refine gate_dst (N := 8) rfl ?_); refine tm_make T0 8 rfl rfl rfl ?_; intro g w101 T1; clear T0))
  try simp only [List.append_eq, List.cons_append, List.nil_append, Act.put, List.setIfInBounds_toArray, List.set_cons_zero, List.set_cons_succ]
  have TL := T1
  clear T1
  go_loopg [11] n (fun k v11 w' => ∃ (i : Nat), v11 = .int .i64 (i : Int) ∧ Aside0 (i + k = n) ∧ Aside0 (Tg w (fun _ => False) [] [It.map g (firstF (ens.take i))] w'))
  case atStart => exact ⟨0, rfl, ⟨by omega⟩, TL⟩
  case round =>
    clear TL
    obtain ⟨i, rfl, hk, T50⟩ := hrel
    by_cases p : i < n
    focus
      have hil : i < ens.length := by have := HR.out.len; omega
      have b1 : decide ((i : Int) < (n : Int)) = true := by simpa using p
      have b2 : decide (i < n) = true := by simpa using p
      have i0 : (0 : Int) ≤ (i : Int) := by omega
      have i1 : (i : Int) < (n : Int) := by omega
      have i2 : (i : Int) ≤ 100000 := by omega
      obtain ⟨e, he⟩ : ∃ e, ens[i]? = some e := ⟨_, List.getElem?_eq_getElem hil⟩
      have HE := Aside0.mk he
      clear he
      obtain ⟨ad, rfl, ec⟩ := (HR.out.below T50.out.fresh).cells i e HE.out
      obtain ⟨m0, m1, m2, m3, m4, m5, m6, m7⟩ := ec
      have P := Aside0.mk p
      clear p hil
      go_upto_region 5 with (first | ((with_reducible refine gate_dst (N := 5) rfl ?_); refine tg_new 5 rfl rfl T50 #[.string ⟨#[]⟩, .int .i64 0, .slice none 0 0, .int .i64 0, .int .i64 0, .int .i64 0, .int .i64 0, .slice none 0 0] 37 ?h5_1 ?_; (case h5_1 => first | (go_simp; done) | (go_simp; rfl)); intro x w151 T51; clear T50; obtain ⟨⟨c_x, f_x⟩, _⟩ := T51.out.cells) | ((with_reducible refine gate_store (t := 37) (p := 5) rfl ?_); refine tg_st [] T51 0 rfl 37 rfl rfl #[_, _, _, _, _, _, _, _] (.agg #[.string e.id, .int .i64 e.f, .slice e.A e.args.length e.c, .int .i64 e.er, .int .i64 e.v, .int .i64 e.steps, .int .i64 e.kids, .slice e.B e.aw.length e.d]) [_, _, _, _, _, _, _, _] sz37 rfl rfl rfl rfl (by simp) rfl ?_; intro w152 T52; simp only [List.cons_append, List.nil_append] at T52; clear c_x f_x; clear T51; obtain ⟨⟨c_x, f_x⟩, _⟩ := T52.out.cells))
      clear m0 m1 m2 m3 m4 m5 m6 m7
      have hlk := MapF.look (P := Try.prog) (T52.out.it _ (.head _)).1.p Try.underlying58 Try.underlying32 (HZ.out _) e.id true
      cases hf : firstF (ens.take i) e.id with
      | none =>
        rw [hf] at hlk
        simp only [if_true] at hlk
        have HFI := Aside0.mk hf
        clear hf
        go_upto_region 6 with (first | ((with_reducible refine gate_dst (N := 6) rfl ?_); refine tg_new 6 rfl rfl T52 #[.string ⟨#[]⟩, .int .i64 0, .slice none 0 0, .int .i64 0, .int .i64 0, .int .i64 0, .int .i64 0, .slice none 0 0] 37 ?h6_2 ?_; (case h6_2 => first | (go_simp; done) | (go_simp; rfl)); intro y w153 T53; clear c_x f_x; clear T52; obtain ⟨⟨c_y, f_y⟩, ⟨c_x, f_x⟩, _⟩ := T53.out.cells) | ((with_reducible refine gate_store (t := 37) (p := 6) rfl ?_); refine tg_st [] T53 0 rfl 37 rfl rfl #[_, _, _, _, _, _, _, _] (.agg #[.string ⟨#[]⟩, .int .i64 0, .slice none 0 0, .int .i64 0, .int .i64 0, .int .i64 0, .int .i64 0, .slice none 0 0]) [_, _, _, _, _, _, _, _] sz37 rfl rfl rfl rfl (by simp) rfl ?_; intro w154 T54; simp only [List.cons_append, List.nil_append] at T54; clear c_y f_y c_x f_x; clear T53; obtain ⟨⟨c_y, f_y⟩, ⟨c_x, f_x⟩, _⟩ := T54.out.cells))
        clear hlk
        go_wp2_with (first | ((with_reducible refine gate_mapUpdate rfl ?_); refine tm_put [] T54 rfl rfl rfl Try.underlying58 Try.underlying32 e.id (.agg #[.string e.id, .int .i64 e.f, .slice e.A e.args.length e.c, .int .i64 e.er, .int .i64 e.v, .int .i64 e.steps, .int .i64 e.kids, .slice e.B e.aw.length e.d]) rfl rfl rfl ?_; intro w155 T55; simp only [List.cons_append, List.nil_append] at T55; clear c_y f_y c_x f_x; clear T54))
        go_roundg (gk - 1)
        case measure => have := hk.out; have := P.out; omega
        case rel => exact ⟨i + 1, by simp, ⟨by have := hk.out; have := P.out; omega⟩, ⟨by rw [take_snoc HE.out, ← firstF_none HFI.out]; exact T55.out.sub (.cons _ (.cons _ (.refl _))) (.refl _)⟩⟩
      | some v =>
        rw [hf] at hlk
        simp only [if_true] at hlk
        have HFI := Aside0.mk hf
        clear hf
        obtain ⟨e9, rfl⟩ : ∃ e9 : En, v = EnV e9 := by have h := HFI.out; unfold firstF at h; obtain ⟨e9, _, h9⟩ := Option.map_eq_some_iff.1 h; exact ⟨e9, h9.symm⟩
        unfold EnV En.cs at hlk
        go_wp2_with (first | ((with_reducible refine gate_dst (N := 6) rfl ?_); refine tg_new 6 rfl rfl T52 #[.string ⟨#[]⟩, .int .i64 0, .slice none 0 0, .int .i64 0, .int .i64 0, .int .i64 0, .int .i64 0, .slice none 0 0] 37 ?h6_2 ?_; (case h6_2 => first | (go_simp; done) | (go_simp; rfl)); intro y w153 T53; clear c_x f_x; clear T52; obtain ⟨⟨c_y, f_y⟩, ⟨c_x, f_x⟩, _⟩ := T53.out.cells) | ((with_reducible refine gate_store (t := 37) (p := 6) rfl ?_); refine tg_st [] T53 0 rfl 37 rfl rfl #[_, _, _, _, _, _, _, _] (.agg #[.string e9.id, .int .i64 e9.f, .slice e9.A e9.args.length e9.c, .int .i64 e9.er, .int .i64 e9.v, .int .i64 e9.steps, .int .i64 e9.kids, .slice e9.B e9.aw.length e9.d]) [_, _, _, _, _, _, _, _] sz37 rfl rfl rfl rfl (by simp) rfl ?_; intro w154 T54; simp only [List.cons_append, List.nil_append] at T54; clear c_y f_y c_x f_x; clear T53; obtain ⟨⟨c_y, f_y⟩, ⟨c_x, f_x⟩, _⟩ := T54.out.cells))
        go_roundg (gk - 1)
        case measure => have := hk.out; have := P.out; omega
        case rel => exact ⟨i + 1, by simp, ⟨by have := hk.out; have := P.out; omega⟩, ⟨by rw [take_snoc HE.out, firstF_some (by rw [HFI.out]; rfl)]; exact T54.out.sub (.cons _ (.cons _ (.refl _))) (.refl _)⟩⟩
    have b1 : decide ((i : Int) < (n : Int)) = false := by simp; omega
    have b2 : decide (i < n) = false := by simp; omega
    have P := Aside0.mk p
    clear p
    go_wp2_with fail
    go_ret
    have hi : ens.take i = ens := List.take_of_length_le (by have := hk.out; have := P.out; have := HR.out.len; omega)
    have h0 := (T50.out.it _ (.head _))
    rw [hi] at h0
    exact ⟨g, rfl, h0.1.p, (h0.2 g rfl).elim False.elim id, T50.out.fresh⟩
end Go.Proofs.Ytakdckaplmoklaa.Ev
end
section
namespace Go.Proofs.Ytakdckaplmoklaa.Ev
open Go.Proofs.YtakdckaplmoklaaHt Go.Sort
open Go.RowKit Go.Proofs.YtakdckaplmoklaaW.PrintWords Go.Proofs.YtakdckaplmoklaaW.PrintLast Go.Proofs.YtakdckaplmoklaaW.PrintMore Go.Proofs.Ytakdckaplmoklaa.PTraceDeep
set_option linter.unusedVariables false
set_option linter.unusedSimpArgs false
instance decMem (s : ByteArray) : (S : List ByteArray) → Decidable (s ∈ S)
  | [] => isFalse (by simp)
  | x :: S => if h : s = x then isTrue (by simp [h]) else match decMem s S with
    | isTrue h' => isTrue (by simp [h'])
    | isFalse h' => isFalse (by simp [h, h'])
def setF (S : List ByteArray) (s : ByteArray) : Option Value := if s ∈ S then some (.bool true) else none
theorem setF_upd (S : List ByteArray) (s : ByteArray) : updF (setF S) s (.bool true) = setF (S ++ [s]) := by
  funext x
  unfold updF setF
  by_cases h : x = s <;> simp [h]
theorem setF_nil : (fun _ => none) = setF [] := by funext x; simp [setF]
structure EntOk (e : En) : Prop where
  vid : Vid e.id
  aw : ∀ k ∈ e.aw, 0 ≤ k ∧ k < 16 ∧ e.id.size < 12
theorem MapF.look_set {P : Program} {W : World} {b : Nat} {S : List ByteArray} {t k e : TypeId} (h : MapF W b (setF S)) (ht : P.underlying t = some (.map k e)) (hk : P.underlying k = some .string) (hz : (zeroValue e).run P W = .ok (.bool false) W) (s : ByteArray) :
    (Instr.lookup t (.map (some b)) (.string s) false).run P W = .ok (.bool (decide (s ∈ S))) W := by
  have h1 := h.look ht hk hz s false
  rw [h1]
  unfold setF
  by_cases hs : s ∈ S <;> simp [hs]
set_option maxHeartbeats 4000000 in
set_option maxRecDepth 100000 in
theorem after_any (w : World) (g : Nat) (S : List ByteArray) (e : En) (hg : MapF w g (setF S)) (hR : ReadsInt w .i64 e.B e.aw.length e.aw) (hok : EntOk e) (hl : e.aw.length ≤ 100000) :
    Calls Try.prog 15 #[EnV e, .map (some g)] w fun r w' => r = .returned (.bool (decide (∀ k ∈ e.aw, kidId e.id k ∈ S))) ∧ Below w.heap.size w w' := by
  have HR := Aside0.mk hR
  have HG := Aside0.mk hg
  have OK := Aside0.mk hok
  have T0 := Aside0.mk (Tg.start w (fun _ => False))
  have HZ : Aside0 (∀ W, (zeroValue 4).run Try.prog W = .ok (.bool false) W) := ⟨fun W => zero_run 4 _ (by kernel_rfl) W⟩
  clear hR hg hok
  unfold EnV En.cs
  go_enter Try.func15, Try.ntmps15
  go_wp2_with (first
    | ((with_reducible refine gate_dst (N := 2) rfl ?_); refine tg_new 2 rfl rfl T0 #[.string e.id, .int .i64 e.f, .slice e.A e.args.length e.c, .int .i64 e.er, .int .i64 e.v, .int .i64 e.steps, .int .i64 e.kids, .slice e.B e.aw.length e.d] 37 ?h2_1 ?_; (case h2_1 => first | (go_simp; done) | (go_simp; rfl)); intro x w101 T1; clear T0; obtain ⟨⟨c_x, f_x⟩, _⟩ := T1.out.cells))
  try simp only [List.append_eq, List.cons_append, List.nil_append, Act.put, List.setIfInBounds_toArray, List.set_cons_zero, List.set_cons_succ]
  have TL := T1
  clear c_x f_x T1
  go_loopg [12] e.aw.length (fun k v12 w' => ∃ (i : Nat), v12 = .int .i64 (i : Int) ∧ Aside0 (i + k = e.aw.length ∧ ∀ q ∈ e.aw.take i, kidId e.id q ∈ S) ∧ Aside0 (Tg w (fun _ => False) [(x, #[.string e.id, .int .i64 e.f, .slice e.A e.args.length e.c, .int .i64 e.er, .int .i64 e.v, .int .i64 e.steps, .int .i64 e.kids, .slice e.B e.aw.length e.d], 37)] [] w'))
  case atStart => exact ⟨0, rfl, ⟨by omega, by simp⟩, TL⟩
  case round =>
    clear TL
    obtain ⟨i, rfl, hk, T50⟩ := hrel
    obtain ⟨⟨c_x, f_x⟩, _⟩ := T50.out.cells
    by_cases p : i < e.aw.length
    focus
      have b1 : decide ((i : Int) < (e.aw.length : Int)) = true := by simpa using p
      have b2 : decide (i < e.aw.length) = true := by simpa using p
      have i0 : (0 : Int) ≤ (i : Int) := by omega
      have i1 : (i : Int) < (e.aw.length : Int) := by omega
      have i2 : (i : Int) ≤ 100000 := by omega
      obtain ⟨ad, ea, m0⟩ := (HR.out.below T50.out.fresh).at_ (i : Int) i0 i1
      have hB : e.B = some ad := ea
      have er : rd e.aw (i : Int) = e.aw[i] := by simp [rd, List.getD_eq_getElem?_getD, List.getElem?_eq_getElem p]
      simp only [Int.toNat_natCast, er] at m0
      have hmem : e.aw[i] ∈ e.aw := List.getElem_mem p
      obtain ⟨q0, q1, q2⟩ := OK.out.aw _ hmem
      obtain ⟨K_, hK⟩ := kid2 OK.out.vid q2 q0 q1
      have htk : e.aw.take (i + 1) = e.aw.take i ++ [e.aw[i]] := List.take_succ_eq_append_getElem p
      generalize e.aw[i] = kv at m0 hmem q0 q1 hK htk er
      have HK := Aside0.mk hK
      have HM := Aside0.mk (And.intro hmem htk)
      have HBB := Aside0.mk hB
      have P := Aside0.mk p
      clear hK hmem htk er ea p
      go_wp2_with fail
      refine (ident_Kid.calls K_ e.id kv (kidId e.id kv) true _ HK.out).mono ?_
      rintro e_ w151 ⟨rfl, b_⟩
      have T51 := Aside0.mk (T50.out.call b_)
      clear b_ m0
      clear c_x f_x T50
      obtain ⟨⟨c_x, f_x⟩, _⟩ := T51.out.cells
      have hlk := MapF.look_set (P := Try.prog) (HG.out.same (T51.out.fresh.block g (HG.out.lt))) Try.underlying60 Try.underlying32 (HZ.out _) (kidId e.id kv)
      by_cases hs : kidId e.id kv ∈ S
      focus
        rw [decide_eq_true hs] at hlk
        have HS := Aside0.mk hs
        clear hs
        go_wp2_with fail
        rw [← HBB.out]
        go_roundg (gk - 1)
        case measure => have := hk.out; have := P.out; omega
        case rel => exact ⟨i + 1, by simp, ⟨by have := hk.out; have := P.out; omega, by rw [HM.out.2]; intro q hq; rcases List.mem_append.1 hq with hq | hq; exact hk.out.2 q hq; obtain rfl := List.mem_singleton.1 hq; exact HS.out⟩, T51⟩
      rw [decide_eq_false hs] at hlk
      have HS := Aside0.mk hs
      clear hs
      go_wp2_with fail
      go_ret
      exact ⟨by rw [decide_eq_false (fun h => HS.out (h _ HM.out.1))]; rfl, T51.out.fresh⟩
    have b1 : decide ((i : Int) < (e.aw.length : Int)) = false := by simp; omega
    have b2 : decide (i < e.aw.length) = false := by simp; omega
    have P := Aside0.mk p
    clear p
    go_wp2_with fail
    go_ret
    have hi : e.aw.take i = e.aw := List.take_of_length_le (by have := hk.out; have := P.out; omega)
    exact ⟨by rw [decide_eq_true (by have := hk.out.2; rwa [hi] at this)]; rfl, T50.out.fresh⟩
end Go.Proofs.Ytakdckaplmoklaa.Ev
end
section
namespace Go.Proofs.Ytakdckaplmoklaa.Ev
open Go.Proofs.YtakdckaplmoklaaHt Go.Sort
open Go.RowKit Go.Proofs.YtakdckaplmoklaaW.PrintWords Go.Proofs.YtakdckaplmoklaaW.PrintLast Go.Proofs.YtakdckaplmoklaaW.PrintMore Go.Proofs.Ytakdckaplmoklaa.PTraceDeep
set_option linter.unusedVariables false
set_option linter.unusedSimpArgs false
def okC (ens : List En) (S : List ByteArray) (c : S39) : Bool := match fstE ens c.f0 with
  | none => false
  | some e => decide (e.er = c.f1.f0 ∧ e.v = c.f1.f1) && !decide (c.f0 ∈ S) && decide (∀ k ∈ e.aw, kidId e.id k ∈ S)
def chk (ens : List En) : List ByteArray → Nat → List S39 → Int × Bool
  | _, _, [] => (0, true)
  | S, i, c :: l => if okC ens S c = true then chk ens (S ++ [c.f0]) (i + 1) l else ((i : Int), false)
theorem chk_cons (ens : List En) (S : List ByteArray) (i : Nat) (c : S39) (l : List S39) : chk ens S i (c :: l) = if okC ens S c = true then chk ens (S ++ [c.f0]) (i + 1) l else ((i : Int), false) := rfl
theorem okC_some {ens : List En} {S : List ByteArray} {c : S39} {e : En} (h : fstE ens c.f0 = some e) : okC ens S c = (decide (e.er = c.f1.f0 ∧ e.v = c.f1.f1) && !decide (c.f0 ∈ S) && decide (∀ k ∈ e.aw, kidId e.id k ∈ S)) := by unfold okC; rw [h]
theorem fstE_mem {ens : List En} {s : ByteArray} {e : En} (h : fstE ens s = some e) : e ∈ ens ∧ e.id = s := by
  unfold fstE at h
  exact ⟨List.mem_of_find?_eq_some h, by simpa using List.find?_some h⟩
theorem MapF.look_first {P : Program} {W : World} {b : Nat} {ens : List En} {t k e : TypeId} (h : MapF W b (firstF ens)) (ht : P.underlying t = some (.map k e)) (hk : P.underlying k = some .string) {z : Value} (hz : (zeroValue e).run P W = .ok z W) (s : ByteArray) :
    (fstE ens s = none → (Instr.lookup t (.map (some b)) (.string s) true).run P W = .ok (.tuple #[z, .bool false]) W) ∧ ∀ x, fstE ens s = some x → (Instr.lookup t (.map (some b)) (.string s) true).run P W = .ok (.tuple #[EnV x, .bool true]) W := by
  have h1 := h.look ht hk hz s true
  refine ⟨fun hn => ?_, fun x hx => ?_⟩
  · rw [h1]; unfold firstF; rw [hn]; rfl
  · rw [h1]; unfold firstF; rw [hx]; rfl
set_option maxHeartbeats 4000000 in
set_option maxRecDepth 100000 in
theorem check_any (w : World) (A B : Option Addr) (n c m d : Nat) (ens : List En) (l : List S39) (hR : RE w A n ens) (hn : n ≤ 100000) (hL : Kd.C k39 w B m l) (hm : m ≤ 100000) (hok : ∀ e ∈ ens, EntOk e ∧ e.aw.length ≤ 100000) :
    Calls Try.prog 7 #[.slice A n c, .slice B m d] w fun r w' => r = .returned (.tuple #[.int .i64 (chk ens [] 0 l).1, .bool (chk ens [] 0 l).2]) ∧ Below w.heap.size w w' := by
  have HR := Aside0.mk hR
  have HL := Aside0.mk hL
  have OK := Aside0.mk hok
  have HLL : Aside0 (l.length = m) := ⟨hL.1⟩
  have T0 := Aside0.mk (Tg.start w (fun _ => False))
  have HZ : Aside0 (∀ W, (zeroValue 4).run Try.prog W = .ok (.bool false) W) := ⟨fun W => zero_run 4 _ (by kernel_rfl) W⟩
  have HZ37 : Aside0 (∀ W, (zeroValue 37).run Try.prog W = .ok (.agg #[.string ⟨#[]⟩, .int .i64 0, .slice none 0 0, .int .i64 0, .int .i64 0, .int .i64 0, .int .i64 0, .slice none 0 0]) W) := ⟨fun W => zero_run 37 _ (by kernel_rfl) W⟩
  clear hR hL hok
  go_enter Try.func7, Try.ntmps7
  go_wp2_with fail
  refine (first_any _ A n c ens (HR.out.below T0.out.fresh) hn).mono ?_
  rintro e_ w101 ⟨g1, rfl, mf_, sg_, b_⟩
  have T1 := Aside0.mk (T0.out.ncall b_ (ItOk.map mf_) (fun k hk => by have hk : k = g1 := hk; omega))
  clear mf_ sg_ b_
  clear T0
  go_wp2_with (first | ((with_reducible refine gate_dst (N := 14) rfl ?_); refine tm_make T1 14 rfl rfl rfl ?_; intro g2 w102 T2; clear T1))
  try simp only [List.append_eq, List.cons_append, List.nil_append, Act.put, List.setIfInBounds_toArray, List.set_cons_zero, List.set_cons_succ]
  have TL := T2
  rw [setF_nil] at TL
  clear T2
  go_loopg [17] m (fun k v17 w' => ∃ (i : Nat), v17 = .int .i64 (i : Int) ∧ Aside0 (i + k = m ∧ chk ens [] 0 l = chk ens ((l.take i).map S39.f0) i (l.drop i)) ∧ Aside0 (Tg w (fun _ => False) [] [It.map g2 (setF ((l.take i).map S39.f0)), It.map g1 (firstF ens)] w'))
  case atStart => exact ⟨0, rfl, ⟨by omega, rfl⟩, TL⟩
  case round =>
    clear TL
    obtain ⟨i, rfl, hk, T50⟩ := hrel
    by_cases p : i < m
    focus
      have b1 : decide ((i : Int) < (m : Int)) = true := by simpa using p
      have b2 : decide (i < m) = true := by simpa using p
      have i0 : (0 : Int) ≤ (i : Int) := by omega
      have i1 : (i : Int) < (m : Int) := by omega
      have i2 : (i : Int) ≤ 100000 := by omega
      have hil : i < l.length := by have := HLL.out; omega
      obtain ⟨ad, eb, m0, m1, m2⟩ := at_T39 (Kd.C_below HL.out T50.out.fresh) (i : Int) i0 i1
      subst eb
      have er : rd_T39 l (i : Int) = l[i] := by simp [rd_T39, List.getD_eq_getElem?_getD, List.getElem?_eq_getElem hil]
      simp only [Int.toNat_natCast, er] at m0 m1 m2
      have htk : (l.take (i + 1)).map S39.f0 = (l.take i).map S39.f0 ++ [l[i].f0] := by rw [List.take_succ_eq_append_getElem hil, List.map_append]; rfl
      have hdr : l.drop i = l[i] :: l.drop (i + 1) := List.drop_eq_getElem_cons hil
      generalize l[i] = x at m0 m1 m2 htk hdr er
      have HT := Aside0.mk (And.intro htk hdr)
      have P := Aside0.mk p
      clear p htk hdr er hil
      obtain ⟨hk1, hk2⟩ := hk.out
      rw [HT.out.2] at hk2
      rw [chk_cons] at hk2
      have HC := Aside0.mk hk2
      clear hk2
      go_upto_region 6 with (first | ((with_reducible refine gate_dst (N := 9) rfl ?_); refine tg_new 9 rfl rfl T50 #[.string ⟨#[]⟩, .int .i64 0, .int .i64 0] 39 ?h9_1 ?_; (case h9_1 => first | (go_simp; done) | (go_simp; rfl)); intro x9 w151 T51; clear T50; obtain ⟨⟨c_x9, f_x9⟩, _⟩ := T51.out.cells) | ((with_reducible refine gate_store (t := 39) (p := 9) rfl ?_); refine tg_st [] T51 0 rfl 39 rfl rfl #[_, _, _] (.agg #[.string x.f0, .int .i64 x.f1.f0, .int .i64 x.f1.f1]) [_, _, _] sz39 rfl rfl rfl rfl (by simp) rfl ?_; intro w152 T52; simp only [List.cons_append, List.nil_append] at T52; clear c_x9 f_x9; clear T51; obtain ⟨⟨c_x9, f_x9⟩, _⟩ := T52.out.cells))
      clear m0 m1 m2
      have hlk := MapF.look_first (P := Try.prog) (T52.out.it _ (.tail _ (.head _))).1.p Try.underlying58 Try.underlying32 (HZ37.out _) x.f0
      cases hf : fstE ens x.f0 with
      | none =>
        have hl1 := hlk.1 hf
        have HFI := Aside0.mk hf
        clear hf hlk
        go_wp2_with (first | ((with_reducible refine gate_dst (N := 10) rfl ?_); refine tg_new 10 rfl rfl T52 #[.string ⟨#[]⟩, .int .i64 0, .slice none 0 0, .int .i64 0, .int .i64 0, .int .i64 0, .int .i64 0, .slice none 0 0] 37 ?h10_2 ?_; (case h10_2 => first | (go_simp; done) | (go_simp; rfl)); intro y w153 T53; clear c_x9 f_x9; clear T52; obtain ⟨⟨c_y, f_y⟩, ⟨c_x9, f_x9⟩, _⟩ := T53.out.cells) | ((with_reducible refine gate_store (t := 37) (p := 10) rfl ?_); refine tg_st [] T53 0 rfl 37 rfl rfl #[_, _, _, _, _, _, _, _] (.agg #[.string ⟨#[]⟩, .int .i64 0, .slice none 0 0, .int .i64 0, .int .i64 0, .int .i64 0, .int .i64 0, .slice none 0 0]) [_, _, _, _, _, _, _, _] sz37 rfl rfl rfl rfl (by simp) rfl ?_; intro w154 T54; simp only [List.cons_append, List.nil_append] at T54; clear c_y f_y c_x9 f_x9; clear T53; obtain ⟨⟨c_y, f_y⟩, ⟨c_x9, f_x9⟩, _⟩ := T54.out.cells))
        go_ret2
        have hc : okC ens ((l.take i).map S39.f0) x = false := by unfold okC; rw [HFI.out]
        have h := HC.out
        rw [if_neg (by rw [hc]; simp)] at h
        exact ⟨by rw [h]; rfl, T54.out.fresh⟩
      | some e =>
        have hl1 := hlk.2 e hf
        have HFI := Aside0.mk hf
        clear hf hlk
        unfold EnV En.cs at hl1
        go_upto_region 7 with (first | ((with_reducible refine gate_dst (N := 10) rfl ?_); refine tg_new 10 rfl rfl T52 #[.string ⟨#[]⟩, .int .i64 0, .slice none 0 0, .int .i64 0, .int .i64 0, .int .i64 0, .int .i64 0, .slice none 0 0] 37 ?h10_2 ?_; (case h10_2 => first | (go_simp; done) | (go_simp; rfl)); intro y w153 T53; clear c_x9 f_x9; clear T52; obtain ⟨⟨c_y, f_y⟩, ⟨c_x9, f_x9⟩, _⟩ := T53.out.cells) | ((with_reducible refine gate_store (t := 37) (p := 10) rfl ?_); refine tg_st [] T53 0 rfl 37 rfl rfl #[_, _, _, _, _, _, _, _] (.agg #[.string e.id, .int .i64 e.f, .slice e.A e.args.length e.c, .int .i64 e.er, .int .i64 e.v, .int .i64 e.steps, .int .i64 e.kids, .slice e.B e.aw.length e.d]) [_, _, _, _, _, _, _, _] sz37 rfl rfl rfl rfl (by simp) rfl ?_; intro w154 T54; simp only [List.cons_append, List.nil_append] at T54; clear c_y f_y c_x9 f_x9; clear T53; obtain ⟨⟨c_y, f_y⟩, ⟨c_x9, f_x9⟩, _⟩ := T54.out.cells))
        by_cases h1 : e.er = x.f1.f0 ∧ e.v = x.f1.f1
        focus
          have q1 : (e.er == x.f1.f0) = true := by simpa using h1.1
          have q2 : (e.v == x.f1.f1) = true := by simpa using h1.2
          have q3 : decide (e.er = x.f1.f0) = true := by simpa using h1.1
          have q4 : decide (e.v = x.f1.f1) = true := by simpa using h1.2
          have H1 := Aside0.mk h1
          clear h1
          have hls := MapF.look_set (P := Try.prog) (T54.out.it _ (.head _)).1.p Try.underlying60 Try.underlying32 (HZ.out _) x.f0
          by_cases hs : x.f0 ∈ (l.take i).map S39.f0
          focus
            rw [decide_eq_true hs] at hls
            have HS := Aside0.mk hs
            clear hs
            go_wp2_with fail
            go_ret2
            have hc : okC ens ((l.take i).map S39.f0) x = false := by rw [okC_some HFI.out]; rw [decide_eq_true HS.out]; simp only [Bool.not_true, Bool.and_false, Bool.false_and]
            have h := HC.out
            rw [if_neg (by rw [hc]; simp)] at h
            exact ⟨by rw [h]; rfl, T54.out.fresh⟩
          rw [decide_eq_false hs] at hls
          have HS := Aside0.mk hs
          clear hs
          go_wp2_with fail
          obtain ⟨he1, he2⟩ := fstE_mem HFI.out
          have HEM := Aside0.mk (And.intro he1 he2)
          clear he1 he2
          refine (after_any _ g2 ((l.take i).map S39.f0) e (T54.out.it _ (.head _)).1.p ((HR.out.below T54.out.fresh).aw e HEM.out.1).1 (OK.out e HEM.out.1).1 (OK.out e HEM.out.1).2).mono ?_
          rintro e_ w155 ⟨rfl, b_⟩
          have T55 := Aside0.mk (T54.out.call b_)
          clear b_ hls hl1
          clear c_y f_y c_x9 f_x9 T54
          obtain ⟨⟨c_y, f_y⟩, ⟨c_x9, f_x9⟩, _⟩ := T55.out.cells
          by_cases ha : ∀ k ∈ e.aw, kidId e.id k ∈ (l.take i).map S39.f0
          focus
            rw [decide_eq_true ha]
            have HAA := Aside0.mk ha
            clear ha
            go_wp2_with (first | ((with_reducible refine gate_mapUpdate rfl ?_); refine tm_put [] T55 rfl rfl rfl Try.underlying60 Try.underlying32 x.f0 (.bool true) rfl rfl rfl ?_; intro w156 T56; simp only [List.cons_append, List.nil_append] at T56; clear c_y f_y c_x9 f_x9; clear T55))
            go_roundg (gk - 1)
            case measure => have := P.out; omega
            case rel => exact ⟨i + 1, by simp, ⟨by have := P.out; omega, by have h := HC.out; rw [if_pos (by rw [okC_some HFI.out, decide_eq_true H1.out, decide_eq_false HS.out, decide_eq_true HAA.out]; rfl)] at h; rw [h, HT.out.1]⟩, ⟨by rw [HT.out.1, ← setF_upd]; exact T56.out.sub (.cons _ (.cons _ (.refl _))) (.refl _)⟩⟩
          rw [decide_eq_false ha]
          have HAA := Aside0.mk ha
          clear ha
          go_wp2_with fail
          go_ret2
          have hc : okC ens ((l.take i).map S39.f0) x = false := by rw [okC_some HFI.out]; rw [decide_eq_false HAA.out]; simp only [Bool.and_false]
          have h := HC.out
          rw [if_neg (by rw [hc]; simp)] at h
          exact ⟨by rw [h]; rfl, T55.out.fresh⟩
        have H1 := Aside0.mk h1
        clear h1
        by_cases h2 : e.er = x.f1.f0
        focus
          have q1 : (e.er == x.f1.f0) = true := by simpa using h2
          have q2 : (e.v == x.f1.f1) = false := by have h3 : ¬ e.v = x.f1.f1 := fun h3 => H1.out ⟨h2, h3⟩; simpa using h3
          have q3 : decide (e.er = x.f1.f0) = true := by simpa using h2
          have q4 : decide (e.v = x.f1.f1) = false := by have h3 : ¬ e.v = x.f1.f1 := fun h3 => H1.out ⟨h2, h3⟩; simpa using h3
          clear h2
          go_wp2_with fail
          go_ret2
          have hc : okC ens ((l.take i).map S39.f0) x = false := by rw [okC_some HFI.out]; rw [decide_eq_false H1.out]; simp only [Bool.false_and]
          have h := HC.out
          rw [if_neg (by rw [hc]; simp)] at h
          exact ⟨by rw [h]; rfl, T54.out.fresh⟩
        have q1 : (e.er == x.f1.f0) = false := by simpa using h2
        have q3 : decide (e.er = x.f1.f0) = false := by simpa using h2
        clear h2
        go_wp2_with fail
        go_ret2
        have hc : okC ens ((l.take i).map S39.f0) x = false := by rw [okC_some HFI.out]; rw [decide_eq_false H1.out]; simp only [Bool.false_and]
        have h := HC.out
        rw [if_neg (by rw [hc]; simp)] at h
        exact ⟨by rw [h]; rfl, T54.out.fresh⟩
    have b1 : decide ((i : Int) < (m : Int)) = false := by simp; omega
    have b2 : decide (i < m) = false := by simp; omega
    have P := Aside0.mk p
    clear p
    go_wp2_with fail
    go_ret2
    have hi : l.drop i = [] := List.drop_eq_nil_of_le (by have := hk.out.1; have := P.out; have := HLL.out; omega)
    have h := hk.out.2
    rw [hi] at h
    exact ⟨by rw [h]; rfl, T50.out.fresh⟩
end Go.Proofs.Ytakdckaplmoklaa.Ev
end
