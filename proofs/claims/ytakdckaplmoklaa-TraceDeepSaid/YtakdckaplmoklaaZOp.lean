/- A part of the proof of TraceDeepSaid (Op); laid together by merge2.py. -/
import Derived.Test.YtakdckaplmoklaaZP0
import Derived.Deep.Slices
import Derived.Deep.Fields
import Derived.ChangeSame
import Derived.ChangeSlices
section
namespace Go.Proofs.Ytakdckaplmoklaa.Op
open Go.ChangeShapes Go.WideShapes Go.RowKit Go.Deep
open Go.Proofs.YtakdckaplmoklaaW.PrintWords Go.Proofs.YtakdckaplmoklaaW.PrintLast Go.Proofs.YtakdckaplmoklaaW.PrintMore Go.Proofs.Ytakdckaplmoklaa.PTraceDeep
set_option linter.unusedVariables false
set_option linter.unusedSimpArgs false
section
variable {H : Type} {enc : TypeId × Value → H} {P : Program} {w : World} {base : Nat} {spare : Nat → Bool} {held : Bool}
theorem cut_fields {e : TypeId} {fs : Array Field} {n : Nat} {cs : List Value} {x : DataW H × List MemPlace} (he : P.underlying e = some (.struct fs)) (hone : oneCellFields P fs = true) (hl : fs.size ≤ cs.length)
    (ht : DataW.trod enc P w base spare held n e cs = some x) (j : Nat) (f : Field) (hj : fs[j]? = some f) : ∃ v k y, cs[j]? = some v ∧ DataW.trod enc P w base spare held k f.type [v] = some y := by
  obtain ⟨ys, k, _, _, _, hyl, hf⟩ := DataW.trod_struct he ht
  have hlt : j < fs.size := (Array.getElem?_eq_some_iff.1 hj).1
  have h1 := hf j f hj
  rw [(hone_of hone j f hj).1, (hone_of hone j f hj).2, List.drop_eq_getElem_cons (show j < cs.length by omega)] at h1
  exact ⟨_, k, _, List.getElem?_eq_getElem (by omega), h1.trans (List.getElem?_eq_getElem (by omega))⟩
theorem row_fields {t e : TypeId} {fs : Array Field} {n : Nat} {v : Value} {x : DataW H × List MemPlace} (ht : P.underlying t = some (.slice e)) (he : P.underlying e = some (.struct fs)) (hone : oneCellFields P fs = true) (hC : P.cellsOf e = fs.size)
    (h : DataW.trod enc P w base spare held n t [v] = some x) :
    v = .slice none 0 0 ∨ ∃ a len cap, v = .slice (some a) len cap ∧ len ≤ cap ∧ cap ≤ maxLen ∧ ∀ i, i < len → ∀ j f, fs[j]? = some f → ∃ u k y, w.cell? (a.add (i * fs.size + j)) = some u ∧ DataW.trod enc P w base spare held k f.type [u] = some y := by
  rcases open_slice ht h with ⟨hv, _⟩ | ⟨a, len, cap, m, k, D, Pl, hv, _, h1, h2, h3, _, hi⟩
  · left; injection hv
  · right
    injection hv with hv
    refine ⟨a, len, cap, hv, h1, h2, fun i hlt j f hj => ?_⟩
    obtain ⟨cs, hc, hr⟩ := hi i (by rw [h3]; split <;> omega)
    rw [hC] at hc
    obtain ⟨_, hcl, hat⟩ := World.cells?_some hc
    obtain ⟨u, k, y, hu, hy⟩ := cut_fields he hone (by omega) hr j f hj
    refine ⟨u, k, y, ?_, hy⟩
    have := hat j (Array.getElem?_eq_some_iff.1 hj).1
    rw [Go.Deep.add_add, hu] at this
    rw [← this]
end
section
variable {H : Type} {enc : TypeId × Value → H} {w : World} {base : Nat} {spare : Nat → Bool} {held : Bool}
def wfI (n : Int) : Prop := -9223372036854775808 ≤ n ∧ n ≤ 9223372036854775807
theorem wfI_of {n : Int} (h : (Lit.int .i64 n).wf = true) : wfI n := by
  simp [Lit.wf, IntKind.min, IntKind.max, IntKind.signed, IntKind.bits] at h
  unfold wfI
  omega
theorem open48 {fuel : Nat} {v : Value} {x : DataW H × List MemPlace} (h : DataW.trod enc Try.prog w base spare held fuel 48 [v] = some x) :
    ∃ A c l, v = .slice A l.length c ∧ l.length ≤ c ∧ Kd.C k102 w A l.length l ∧ ∀ i ∈ l, wfI i.f0 ∧ wfI i.f1 := by
  rcases row_fields Try.underlying48 Try.underlying102 (by kernel_rfl) (by kernel_rfl) h with hcs | ⟨a, len, cap, hcs, hl, hm, hi⟩
  · exact ⟨none, 0, [], hcs, by simp, ⟨rfl, by simp, fun hp => absurd hp (by simp)⟩, by simp⟩
  · have key : ∀ i : Fin len, ∃ s : S102, w.cell? (a.add (i.1 * 2)) = some (.int .i64 s.f0) ∧ w.cell? (a.add (i.1 * 2 + 1)) = some (.int .i64 s.f1) ∧ wfI s.f0 ∧ wfI s.f1 := by
      intro i
      have hf := hi i.1 i.2
      obtain ⟨v0, q0, y0, hc0, ht0⟩ := hf 0 _ rfl
      obtain ⟨v1, q1, y1, hc1, ht1⟩ := hf 1 _ rfl
      obtain ⟨n0, e0, _, w0⟩ := DataW.trod_int Try.underlying3 ht0
      obtain ⟨n1, e1, _, w1⟩ := DataW.trod_int Try.underlying3 ht1
      injection e0 with e0
      injection e1 with e1
      subst e0 e1
      exact ⟨⟨n0, n1⟩, hc0, hc1, wfI_of w0, wfI_of w1⟩
    obtain ⟨g, hg⟩ := Classical.axiomOfChoice key
    refine ⟨some a, cap, List.ofFn g, by simpa using hcs, by simpa using hl, ⟨rfl, ?_, fun hp => ⟨a, rfl, fun j p hj => ?_⟩⟩, ?_⟩
    · have : maxLen ≤ 9223372036854775807 := by decide
      simp; omega
    · obtain ⟨hjl, e1⟩ := List.getElem?_eq_some_iff.1 hj
      simp only [List.getElem_ofFn] at e1
      subst e1
      have hq := hg ⟨j, by simpa using hjl⟩
      refine ⟨_, rfl, k102_mk w _, fun i u hu => ?_⟩
      rcases i with _ | _ | i
      · simp at hu; subst hu; exact hq.1
      · simp at hu; subst hu; exact hq.2.1
      · simp at hu
    · intro s hs
      obtain ⟨i, rfl⟩ := List.mem_ofFn.1 hs
      exact (hg i).2.2
theorem open22 {fuel : Nat} {v : Value} {x : DataW H × List MemPlace} (h : DataW.trod enc Try.prog w base spare held fuel 22 [v] = some x) :
    ∃ A c l, v = .slice A l.length c ∧ l.length ≤ c ∧ Kd.C k50 w A l.length l ∧ ∀ s ∈ l, wfI s.f1 ∧ wfI s.f2 ∧ ∀ i ∈ s.f3, wfI i.f0 ∧ wfI i.f1 := by
  rcases row_fields Try.underlying22 Try.underlying50 (by kernel_rfl) (by kernel_rfl) h with hcs | ⟨a, len, cap, hcs, hl, hm, hi⟩
  · exact ⟨none, 0, [], hcs, by simp, ⟨rfl, by simp, fun hp => absurd hp (by simp)⟩, by simp⟩
  · have key : ∀ i : Fin len, ∃ (s : S50) (A3 : Option Addr) (c3 : Nat), w.cell? (a.add (i.1 * 4)) = some (.string s.f0) ∧ w.cell? (a.add (i.1 * 4 + 1)) = some (.int .i64 s.f1) ∧ w.cell? (a.add (i.1 * 4 + 2)) = some (.int .i64 s.f2) ∧ w.cell? (a.add (i.1 * 4 + 3)) = some (.slice A3 s.f3.length c3) ∧ (s.f3.length ≤ c3 ∧ Kd.C k102 w A3 s.f3.length s.f3) ∧ wfI s.f1 ∧ wfI s.f2 ∧ ∀ i ∈ s.f3, wfI i.f0 ∧ wfI i.f1 := by
      intro i
      have hf := hi i.1 i.2
      obtain ⟨v0, q0, y0, hc0, ht0⟩ := hf 0 _ rfl
      obtain ⟨v1, q1, y1, hc1, ht1⟩ := hf 1 _ rfl
      obtain ⟨v2, q2, y2, hc2, ht2⟩ := hf 2 _ rfl
      obtain ⟨v3, q3, y3, hc3, ht3⟩ := hf 3 _ rfl
      obtain ⟨n0, e0, _, w0⟩ := DataW.trod_string Try.underlying9 ht0
      obtain ⟨n1, e1, _, w1⟩ := DataW.trod_int Try.underlying3 ht1
      obtain ⟨n2, e2, _, w2⟩ := DataW.trod_int Try.underlying3 ht2
      obtain ⟨A3, c3, l3, e3, h3, g3, w3⟩ := open48 ht3
      injection e0 with e0
      injection e1 with e1
      injection e2 with e2
      subst e0 e1 e2 e3
      exact ⟨⟨n0, n1, n2, l3⟩, A3, c3, hc0, hc1, hc2, hc3, ⟨h3, g3⟩, wfI_of w1, wfI_of w2, w3⟩
    obtain ⟨g, hg⟩ := Classical.axiomOfChoice key
    refine ⟨some a, cap, List.ofFn g, by simpa using hcs, by simpa using hl, ⟨rfl, ?_, fun hp => ⟨a, rfl, fun j p hj => ?_⟩⟩, ?_⟩
    · have : maxLen ≤ 9223372036854775807 := by decide
      simp; omega
    · obtain ⟨hjl, e1⟩ := List.getElem?_eq_some_iff.1 hj
      simp only [List.getElem_ofFn] at e1
      subst e1
      obtain ⟨A3, c3, q0, q1, q2, q3, ⟨l3, g3⟩, _⟩ := hg ⟨j, by simpa using hjl⟩
      refine ⟨_, rfl, k50_mk w _ l3 g3, fun i u hu => ?_⟩
      rcases i with _ | _ | _ | _ | i
      · simp at hu; subst hu; exact q0
      · simp at hu; subst hu; exact q1
      · simp at hu; subst hu; exact q2
      · simp at hu; subst hu; exact q3
      · simp at hu
    · intro s hs
      obtain ⟨i, rfl⟩ := List.mem_ofFn.1 hs
      obtain ⟨A3, c3, _, _, _, _, _, r⟩ := hg i
      exact r
theorem open23 {fuel : Nat} {v : Value} {x : DataW H × List MemPlace} (h : DataW.trod enc Try.prog w base spare held fuel 23 [v] = some x) :
    ∃ A c l, v = .slice A l.length c ∧ l.length ≤ c ∧ Kd.C (Kd.int .i64) w A l.length l ∧ ∀ i ∈ l, wfI i := by
  rcases open_ints Try.underlying23 Try.underlying3 (by kernel_rfl) h with ⟨hcs, _⟩ | ⟨a, len, cap, zs, hcs, _, hl, hm, hz, _, hcell, hwz⟩
  · injection hcs with hcs
    exact ⟨none, 0, [], hcs, by simp, ⟨rfl, by simp, fun hp => absurd hp (by simp)⟩, by simp⟩
  · injection hcs with hcs
    have hlm : len ≤ zs.length := by rw [hz]; split <;> omega
    have hlen : (zs.take len).length = len := by simp; omega
    refine ⟨some a, cap, zs.take len, by rw [hlen]; exact hcs, by rw [hlen]; exact hl, ⟨rfl, ?_, fun hp => ⟨a, rfl, fun j p hj => ?_⟩⟩, fun i hi => wfI_of (hwz i (List.mem_of_mem_take hi))⟩
    · have : maxLen ≤ 9223372036854775807 := by decide
      omega
    · refine ⟨[.int .i64 p], rfl, rfl, fun i u hu => ?_⟩
      have hjl : j < len := by have := (List.getElem?_eq_some_iff.1 hj).1; omega
      rw [List.getElem?_take_of_lt hjl] at hj
      rcases i with _ | i
      · simp at hu
        subst hu
        have := hcell j (by omega)
        rw [List.getD_eq_getElem?_getD, hj] at this
        show w.cell? (a.add (j * 1 + 0)) = _
        rw [Nat.mul_one]
        simpa using this
      · simp at hu
set_option maxRecDepth 100000 in
theorem open25 {r : Reach} {b0 : Nat} {v : Value} {d : DataW H} {p : List MemPlace} (hv : Value.okWide Try.prog w r b0 25 v) (h : DataW.Trod enc Try.prog w base spare held 25 v d p) :
    ∃ (AF : Option Addr) (cF : Nat) (fs : List S50) (main : Int) (AA : Option Addr) (cA : Nat) (args : List Int) (fuel tasks : Int), v = .agg #[.slice AF fs.length cF, .int .i64 main, .slice AA args.length cA, .int .i64 fuel, .int .i64 tasks] ∧
      fs.length ≤ cF ∧ Kd.C k50 w AF fs.length fs ∧ (∀ s ∈ fs, wfI s.f1 ∧ wfI s.f2 ∧ ∀ i ∈ s.f3, wfI i.f0 ∧ wfI i.f1) ∧ args.length ≤ cA ∧ Kd.C (Kd.int .i64) w AA args.length args ∧ (∀ i ∈ args, wfI i) ∧ wfI main ∧ wfI fuel ∧ wfI tasks := by
  obtain ⟨cs, rfl, hsz⟩ := okWide_struct Try.underlying25 hv
  obtain ⟨k0, hf⟩ := h
  have hsz : cs.size = 5 := hsz.trans (by kernel_rfl)
  have hone : oneCellFields Try.prog #[⟨ "Funcs", 22, 0, false, "", "", 0⟩, ⟨ "Main", 3, 1, false, "", "", 24⟩, ⟨ "Args", 23, 2, false, "", "", 32⟩, ⟨ "Fuel", 3, 3, false, "", "", 56⟩, ⟨ "Tasks", 3, 4, false, "", "", 64⟩] = true := by kernel_rfl
  have hl : cs.toList.length = 5 := by simpa using hsz
  have cut := cut_fields Try.underlying25 hone (by simp [Value.cells, hl]) hf
  obtain ⟨v0, q0, y0, c0, t0⟩ := cut 0 _ rfl
  obtain ⟨v1, q1, y1, c1, t1⟩ := cut 1 _ rfl
  obtain ⟨v2, q2, y2, c2, t2⟩ := cut 2 _ rfl
  obtain ⟨v3, q3, y3, c3, t3⟩ := cut 3 _ rfl
  obtain ⟨v4, q4, y4, c4, t4⟩ := cut 4 _ rfl
  have hcs : cs = #[v0, v1, v2, v3, v4] := by
    obtain ⟨l⟩ := cs
    match l, hl with
    | [x0, x1, x2, x3, x4], _ =>
      simp [Value.cells] at c0 c1 c2 c3 c4
      subst c0 c1 c2 c3 c4
      rfl
  subst hcs
  obtain ⟨AF, cF, fs, rfl, a1, a2, a3⟩ := open22 t0
  obtain ⟨main, e1, _, w1⟩ := DataW.trod_int Try.underlying3 t1
  obtain ⟨AA, cA, args, rfl, b1, b2, b3⟩ := open23 t2
  obtain ⟨fuel, e3, _, w3⟩ := DataW.trod_int Try.underlying3 t3
  obtain ⟨tasks, e4, _, w4⟩ := DataW.trod_int Try.underlying3 t4
  injection e1 with e1
  injection e3 with e3
  injection e4 with e4
  subst e1 e3 e4
  exact ⟨AF, cF, fs, main, AA, cA, args, fuel, tasks, rfl, a1, a2, a3, b1, b2, b3, wfI_of w1, wfI_of w3, wfI_of w4⟩
end
end Go.Proofs.Ytakdckaplmoklaa.Op
end
