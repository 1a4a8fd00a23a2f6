/- A part of the proof of TraceDeepSaid (Pl Pm Pn); laid together by merge2.py. -/
import Derived.Test.YtakdckaplmoklaaZT
import Derived.Test.YtakdckaplmoklaaZP15
import Derived.Lib.Bytes
section
namespace Go.Proofs.Ytakdckaplmoklaa.Ev
open Go.RowKit Go.Proofs.YtakdckaplmoklaaW.PrintWords Go.Proofs.YtakdckaplmoklaaW.PrintLast Go.Proofs.YtakdckaplmoklaaW.PrintMore Go.Proofs.Ytakdckaplmoklaa.PTraceDeep
set_option linter.unusedVariables false
set_option linter.unusedSimpArgs false
def Evn {α : Type} (g : Nat → Option α) (r : α) : Prop := ∃ K, ∀ k, K ≤ k → g k = some r
theorem Evn.of {α : Type} {g : Nat → Option α} {r : α} (K : Nat) (h : ∀ k, g (k + K) = some r) : Evn g r := ⟨K, fun k hk => by have := h (k - K); rwa [Nat.sub_add_cancel hk] at this⟩
theorem Evn.step {α : Type} {f g : Nat → Option α} {r : α} (h : Evn g r) (e : ∀ k, f (k + 1) = g k) : Evn f r := by
  obtain ⟨K, h⟩ := h
  refine ⟨K + 1, fun k hk => ?_⟩
  obtain ⟨q, rfl⟩ : ∃ q, k = q + 1 := ⟨k - 1, by omega⟩
  rw [e]
  exact h q (by omega)
theorem Evn.bind {α β : Type} {f : Nat → Option α} {a : α} {g : Nat → α → Option β} {r : β} (h : Evn f a) (k : Evn (fun n => g n a) r) : Evn (fun n => (f n).bind (g n)) r := by
  obtain ⟨K, h⟩ := h
  obtain ⟨L, k⟩ := k
  refine ⟨max K L, fun n hn => ?_⟩
  show (f n).bind (g n) = some r
  rw [h n (by omega)]
  exact k n (by omega)
theorem wrap_small {x : Int} (h0 : -1000000 ≤ x) (h1 : x ≤ 1000000) : wrap64 x = x := by unfold wrap64; omega
theorem big_l0 (fs : List S50) (m : Int) (ar : List Int) (fu ta : Int) (hl : fs.length ≤ 60) : ∀ (n i : Nat) (x : Int), i + n = fs.length → ∃ r, Evn (fun k => gleanerlaw4_Big.l0 k x i fs m ar fu ta) r := by
  intro n
  induction n with
  | zero =>
    intro i x hi
    refine ⟨_, Evn.of (r := decide (x > 2000)) 1 fun k => ?_⟩
    show gleanerlaw4_Big.l0 (k + 1) x i fs m ar fu ta = _
    rw [gleanerlaw4_Big.l0, if_neg (by omega)]
  | succ n ih =>
    intro i x hi
    by_cases p : x ≤ 2000
    · obtain ⟨r, hr⟩ := ih (i + 1) (wrap64 ((wrap64 (x + (((rd_T50 fs i).f3).length : Int))) + (wrap64 ((((rd_T50 fs i).f0).size : Int) / 8)))) (by omega)
      refine ⟨r, hr.step fun k => ?_⟩
      rw [gleanerlaw4_Big.l0, if_pos (by omega), if_pos p, if_pos (by omega), wrap_small (x := (i : Int) + 1) (by omega) (by omega)]
      rfl
    · refine ⟨_, Evn.of (r := decide (x > 2000)) 1 fun k => ?_⟩
      show gleanerlaw4_Big.l0 (k + 1) x i fs m ar fu ta = _
      rw [gleanerlaw4_Big.l0, if_pos (by omega), if_neg p]
theorem big_total (fs : List S50) (m : Int) (ar : List Int) (fu ta : Int) : ∃ k r, gleanerlaw4_Big.f k fs m ar fu ta = some r := by
  by_cases p : (fs.length : Int) > 60
  · refine ⟨1, true, ?_⟩
    unfold gleanerlaw4_Big.f
    rw [if_pos p]
    simp [gleanerlaw4_Big.j0]
  · obtain ⟨r, K, h⟩ := big_l0 fs m ar fu ta (by omega) fs.length 0 0 (by omega)
    by_cases q : (ar.length : Int) > 100
    · refine ⟨1, true, ?_⟩
      unfold gleanerlaw4_Big.f
      rw [if_neg p]
      simp [gleanerlaw4_Big.j0]
      intro h; omega
    · refine ⟨K + 1, r, ?_⟩
      unfold gleanerlaw4_Big.f
      rw [if_neg p, gleanerlaw4_Big.j0]
      have : decide ((ar.length : Int) > 100) = false := by simpa using q
      rw [this, if_neg (by simp)]
      exact h K (Nat.le_refl _)
theorem name_total (s : ByteArray) : ∃ r, Evn (fun k => gleanerref4_name.f k s) r := by
  have key : ∀ (n i : Nat), i + n = 21 → ∃ r, Evn (fun k => gleanerref4_name.l0 k s i) r := by
    intro n
    induction n with
    | zero =>
      intro i hi
      refine ⟨_, Evn.of (r := if s.toList = ([] : List UInt8) then false else decide ((s.size : Int) ≤ 20)) 2 fun k => ?_⟩
      show gleanerref4_name.l0 (k + 1 + 1) s i = _
      have h1 : decide ((i : Int) ≤ 20) = false := by simp; omega
      rw [gleanerref4_name.l0, gleanerref4_name.j1, h1, gleanerref4_name.j1]
      simp
      split <;> simp_all
    | succ n ih =>
      intro i hi
      obtain ⟨r, hr⟩ := ih (i + 1) (by omega)
      have h1 : decide ((i : Int) ≤ 20) = true := by simp; omega
      have hw : wrap64 ((i : Int) + 1) = ((i + 1 : Nat) : Int) := by rw [wrap_small (by omega) (by omega)]; rfl
      by_cases p : (i : Int) < (s.size : Int)
      · by_cases q : Evn (fun k => gleanerref4_name.l0 k s i) false
        · exact ⟨_, q⟩
        · refine ⟨r, ?_⟩
          refine Evn.step (g := fun k => gleanerref4_name.j1 k s i true) ?_ (fun k => by rw [gleanerref4_name.l0, if_pos p, h1])
          by_cases g : (if (bt s i) ≥ 97 then (if (bt s i) ≤ 122 then true else (if (i : Int) > 0 then (if (bt s i) ≥ 48 then decide ((bt s i) ≤ 57) else false) else false)) else (if (i : Int) > 0 then (if (bt s i) ≥ 48 then decide ((bt s i) ≤ 57) else false) else false)) = true
          · refine hr.step fun k => ?_
            rw [gleanerref4_name.j1, if_pos rfl, if_pos (by omega), if_pos p, hw]
            revert g
            repeat' split
            all_goals first | (intro g; rfl) | (intro g; simp_all; done) | (intro g; simp at g; omega)
          · refine absurd ?_ q
            refine Evn.of 2 fun k => ?_
            show gleanerref4_name.l0 (k + 1 + 1) s i = _
            rw [gleanerref4_name.l0, if_pos p, h1, gleanerref4_name.j1, if_pos rfl, if_pos (by omega), if_pos p]
            revert g
            repeat' split
            all_goals first | (intro g; rfl) | (intro g; simp_all; done) | (intro g; simp at g; omega)
      · refine ⟨_, Evn.of (r := if s.toList = ([] : List UInt8) then false else decide ((s.size : Int) ≤ 20)) 2 fun k => ?_⟩
        show gleanerref4_name.l0 (k + 1 + 1) s i = _
        rw [gleanerref4_name.l0, if_neg p, gleanerref4_name.j1]
        simp
        split <;> simp_all
  exact key 21 0 rfl
theorem pops_ev (fs : List S50) (op N : Int) (h0 : 1 ≤ op) (h1 : op ≤ 19) (h16 : op = 16 → 0 ≤ N ∧ N < fs.length) : Evn (fun k => gleanerref1_Pops.f k op N fs) (popsOf fs op N) := by
  refine Evn.of 2 fun k => ?_
  obtain rfl | rfl | rfl | rfl | rfl | rfl | rfl | rfl | rfl | rfl | rfl | rfl | rfl | rfl | rfl | rfl | rfl | rfl | rfl : op = 1 ∨ op = 2 ∨ op = 3 ∨ op = 4 ∨ op = 5 ∨ op = 6 ∨ op = 7 ∨ op = 8 ∨ op = 9 ∨ op = 10 ∨ op = 11 ∨ op = 12 ∨ op = 13 ∨ op = 14 ∨ op = 15 ∨ op = 16 ∨ op = 17 ∨ op = 18 ∨ op = 19 := by omega
  case inr.inr.inr.inr.inr.inr.inr.inr.inr.inr.inr.inr.inr.inr.inr.inl =>
    obtain ⟨a, b⟩ := h16 rfl
    simp [gleanerref1_Pops.f, gleanerref1_Pops.j0, gleanerref1_Pops.j1, popsOf, a, b]
  all_goals simp [gleanerref1_Pops.f, gleanerref1_Pops.j0, gleanerref1_Pops.j1, popsOf]
theorem push_ev (op N : Int) (h0 : 1 ≤ op) (h1 : op ≤ 19) : Evn (fun k => gleanerref1_Pushes.f k op N) (pushOf op) := by
  refine Evn.of 2 fun k => ?_
  obtain rfl | rfl | rfl | rfl | rfl | rfl | rfl | rfl | rfl | rfl | rfl | rfl | rfl | rfl | rfl | rfl | rfl | rfl | rfl : op = 1 ∨ op = 2 ∨ op = 3 ∨ op = 4 ∨ op = 5 ∨ op = 6 ∨ op = 7 ∨ op = 8 ∨ op = 9 ∨ op = 10 ∨ op = 11 ∨ op = 12 ∨ op = 13 ∨ op = 14 ∨ op = 15 ∨ op = 16 ∨ op = 17 ∨ op = 18 ∨ op = 19 := by omega
  all_goals simp [gleanerref1_Pushes.f, gleanerref1_Pushes.j0, pushOf]
theorem next_ev (op N p : Int) (h0 : 1 ≤ op) (h1 : op ≤ 19) (hp : 0 ≤ p ∧ p ≤ 1000) : ∃ ts, Evn (fun k => gleanerref1_Next.f k op N p) ts ∧ ts.length ≤ 2 ∧ (∀ t ∈ nextOf op N p, t ∈ ts) ∧ ∀ t ∈ ts, t ∈ nextOf op N p := by
  have w : wrap64 (p + 1) = p + 1 := wrap_small (by omega) (by omega)
  by_cases e : op = 15 ∧ N = p + 1
  · obtain ⟨rfl, rfl⟩ := e
    refine ⟨[p + 1], Evn.of 2 fun k => ?_, by simp, ?_, ?_⟩
    · simp [gleanerref1_Next.f, gleanerref1_Next.j0, w]
    · simp [nextOf]
    · simp [nextOf]
  · refine ⟨nextOf op N p, Evn.of 2 fun k => ?_, by unfold nextOf; split <;> (try split) <;> (try split) <;> simp, fun t h => h, fun t h => h⟩
    obtain rfl | rfl | rfl | rfl | rfl | rfl | rfl | rfl | rfl | rfl | rfl | rfl | rfl | rfl | rfl | rfl | rfl | rfl | rfl : op = 1 ∨ op = 2 ∨ op = 3 ∨ op = 4 ∨ op = 5 ∨ op = 6 ∨ op = 7 ∨ op = 8 ∨ op = 9 ∨ op = 10 ∨ op = 11 ∨ op = 12 ∨ op = 13 ∨ op = 14 ∨ op = 15 ∨ op = 16 ∨ op = 17 ∨ op = 18 ∨ op = 19 := by omega
    case inr.inr.inr.inr.inr.inr.inr.inr.inr.inr.inr.inr.inr.inr.inl =>
      have e : ¬ N = p + 1 := fun h => e ⟨rfl, h⟩
      simp [gleanerref1_Next.f, gleanerref1_Next.j0, w, nextOf, e]
    all_goals simp [gleanerref1_Next.f, gleanerref1_Next.j0, w, nextOf]
end Go.Proofs.Ytakdckaplmoklaa.Ev
end
section
namespace Go.Proofs.Ytakdckaplmoklaa.Ev
open Go.RowKit Go.Proofs.YtakdckaplmoklaaW.PrintWords Go.Proofs.YtakdckaplmoklaaW.PrintLast Go.Proofs.YtakdckaplmoklaaW.PrintMore Go.Proofs.Ytakdckaplmoklaa.PTraceDeep
set_option linter.unusedVariables false
set_option linter.unusedSimpArgs false
theorem rd_set {x : List Int} {t q : Int} {d : Int} (h0 : 0 ≤ t) (h1 : t < x.length) (hq : 0 ≤ q) : rd (x.set t.toNat d) q = if q = t then d else rd x q := by
  unfold rd
  simp only [List.getD_eq_getElem?_getD, List.getElem?_set]
  by_cases e : q = t
  · subst e
    have : q.toNat < x.length := by omega
    simp [this]
  · have : ¬ t.toNat = q.toNat := by omega
    simp [e, this]
theorem rdOf_set {x : List Bool} {t q : Nat} (h1 : t < x.length) : rdOf false (x.set t true) q = if q = t then true else rdOf false x q := by
  unfold rdOf
  simp only [List.getD_eq_getElem?_getD, List.getElem?_set, Int.toNat_natCast]
  by_cases e : q = t
  · subst e
    simp [h1]
  · have : ¬ t = q := fun h => e h.symm
    simp [e, this]
theorem count_set {x : List Bool} {t : Nat} (h1 : t < x.length) (h : rdOf false x t = false) : (x.set t true).count false + 1 = x.count false := by
  have hg : x[t] = false := by
    unfold rdOf at h
    rw [Int.toNat_natCast, List.getD_eq_getElem?_getD, List.getElem?_eq_getElem h1] at h
    exact h
  have hs : x = x.take t ++ x[t] :: x.drop (t + 1) := by rw [← List.drop_eq_getElem_cons h1, List.take_append_drop]
  rw [List.set_eq_take_append_cons_drop, if_pos h1]
  conv => rhs; rw [hs, hg]
  simp [List.count_append]
  omega
section
variable (fs : List S50) (c : List S102)
def opA (p : Int) : Int := (rd_T102 c p).f0
def nA (p : Int) : Int := (rd_T102 c p).f1
def CI (loc : Int) : Prop := ∀ p : Int, 0 ≤ p → p < c.length → 1 ≤ opA c p ∧ opA c p ≤ 19 ∧ (opA c p = 5 ∨ opA c p = 6 → 0 ≤ nA c p ∧ nA c p < loc) ∧ (opA c p = 14 ∨ opA c p = 15 → 0 ≤ nA c p ∧ nA c p < c.length) ∧ (opA c p = 16 → 0 ≤ nA c p ∧ nA c p < fs.length)
def Clo (x : List Int) (p : Int) : Prop := popsOf fs (opA c p) (nA c p) ≤ rd x p ∧ ∀ t ∈ nextOf (opA c p) (nA c p) p, 0 ≤ t ∧ t < c.length ∧ rd x t = rd x p - popsOf fs (opA c p) (nA c p) + pushOf (opA c p)
structure DI (x : List Int) (y : List Bool) : Prop where
  l7 : x.length = c.length
  l8 : y.length = c.length
  z : rd x 0 = 0
  b : ∀ p : Int, 0 ≤ p → p < c.length → -1 ≤ rd x p ∧ rd x p ≤ 32
  cl : ∀ p : Nat, p < c.length → rdOf false y p = true → 0 ≤ rd x p ∧ Clo fs c x p
def Ext (d : Int) (x x' : List Int) : Prop := ∀ q : Int, 0 ≤ q → q < c.length → (0 ≤ rd x q → rd x' q = rd x q) ∧ (rd x q < 0 → rd x' q = rd x q ∨ rd x' q = d)
def Good (r : List Int × Int × Int) : Prop := r.2.2 = 0 → r.1.length = c.length ∧ rd r.1 0 = 0 ∧ (∀ p : Int, 0 ≤ p → p < c.length → rd r.1 p ≤ 32) ∧ ∀ p : Int, 0 ≤ p → p < c.length → 0 ≤ rd r.1 p → Clo fs c r.1 p
theorem Ext.rfl' {d : Int} {x : List Int} : Ext c d x x := fun q _ _ => ⟨fun _ => rfl, fun _ => .inl rfl⟩
theorem Ext.tr {d : Int} (hd : 0 ≤ d) {x y z : List Int} (h : Ext c d x y) (k : Ext c d y z) : Ext c d x z := fun q h0 h1 => by
  obtain ⟨a1, a2⟩ := h q h0 h1
  obtain ⟨b1, b2⟩ := k q h0 h1
  refine ⟨fun p => ?_, fun p => ?_⟩
  · have := a1 p
    rw [b1 (by omega), this]
  · rcases a2 p with a | a
    · rcases b2 (by omega) with b | b
      · exact .inl (b.trans a)
      · exact .inr b
    · exact .inr ((b1 (by omega)).trans a)
theorem push_nn (op : Int) : 0 ≤ pushOf op := by unfold pushOf; split <;> (try split) <;> omega
variable (m : Int) (ar : List Int) (fu ta : Int) (nm : ByteArray) (a1 a2 : Int)
theorem l3_ok (y : List Bool) (p d : Int) (ts : List Int) (hts : ∀ t ∈ ts, 0 ≤ t) (hl : ts.length ≤ 1000) (hd : 0 ≤ d) : ∀ (n j : Nat) (x : List Int), j + n = ts.length → x.length = c.length →
    (∀ x', x'.length = c.length → Ext c d x x' → (∀ i : Nat, j ≤ i → i < ts.length → rd ts i < c.length ∧ rd x' (rd ts i) = d) → ∃ r, Evn (fun k => gleanerref4_depths.l1 k x' y fs m ar fu ta nm a1 a2 c) r ∧ Good fs c r) →
    ∃ r, Evn (fun k => gleanerref4_depths.l3 k x y p d ts j fs m ar fu ta nm a1 a2 c) r ∧ Good fs c r := by
  intro n
  induction n with
  | zero =>
    intro j x hj hx H
    obtain ⟨r, h1, h2⟩ := H x hx (Ext.rfl' c) (fun i h0 h1 => by omega)
    exact ⟨r, h1.step fun k => by rw [gleanerref4_depths.l3, if_neg (by omega)], h2⟩
  | succ n ih =>
    intro j x hj hx H
    have hjl : j < ts.length := by omega
    have e : rd ts j = ts[j] := by unfold rd; rw [Int.toNat_natCast, List.getD_eq_getElem?_getD, List.getElem?_eq_getElem hjl]; rfl
    have t0 : 0 ≤ rd ts j := by rw [e]; exact hts _ (List.getElem_mem hjl)
    have hw : wrap64 ((j : Int) + 1) = ((j + 1 : Nat) : Int) := by rw [wrap_small (by omega) (by omega)]; rfl
    generalize rd ts j = t at e t0
    have ht : rd ts j = t := by unfold rd; rw [Int.toNat_natCast, List.getD_eq_getElem?_getD, List.getElem?_eq_getElem hjl]; exact e.symm
    by_cases p1 : t ≥ (x.length : Int)
    · refine ⟨(([] : List Int), p, 11), Evn.of 1 fun k => ?_, fun h => by cases h⟩
      show gleanerref4_depths.l3 (k + 1) x y p d ts j fs m ar fu ta nm a1 a2 c = _
      rw [gleanerref4_depths.l3, if_pos (by omega), if_pos (by omega), ht, if_pos p1]
    have again : (rd x t < 0 ∨ rd x t = d) → ∃ r, Evn (fun k => gleanerref4_depths.l3 k (x.set t.toNat d) y p d ts (wrap64 ((j : Int) + 1)) fs m ar fu ta nm a1 a2 c) r ∧ Good fs c r := by
      intro hx0
      rw [hw]
      refine ih (j + 1) (x.set t.toNat d) (by omega) (by simpa using hx) fun x' hx' he hall => H x' hx' (Ext.tr c hd (fun q q0 q1 => ?_) he) fun i h0 h1 => ?_
      · rw [rd_set t0 (by omega) q0]
        by_cases eq : q = t
        · subst eq
          rw [if_pos rfl]
          exact ⟨fun h => by rcases hx0 with h' | h' <;> omega, fun _ => .inr rfl⟩
        · rw [if_neg eq]
          exact ⟨fun _ => rfl, fun _ => .inl rfl⟩
      · rcases Nat.lt_or_ge j i with h2 | h2
        · exact hall i (by omega) h1
        · obtain rfl : i = j := by omega
          rw [ht]
          have := (he t t0 (by omega)).1
          rw [rd_set t0 (by omega) t0, if_pos rfl] at this
          exact ⟨by omega, this hd⟩
    by_cases p2 : rd x t ≥ 0
    · by_cases p3 : rd x t = d
      · obtain ⟨r, h1, h2⟩ := again (.inr p3)
        refine ⟨r, h1.step fun k => ?_, h2⟩
        rw [gleanerref4_depths.l3, if_pos (by omega), if_pos (by omega), ht, if_neg p1, if_pos t0, if_pos (by omega), if_pos p2, if_pos p3]
      · refine ⟨(([] : List Int), p, 12), Evn.of 1 fun k => ?_, fun h => by cases h⟩
        show gleanerref4_depths.l3 (k + 1) x y p d ts j fs m ar fu ta nm a1 a2 c = _
        rw [gleanerref4_depths.l3, if_pos (by omega), if_pos (by omega), ht, if_neg p1, if_pos t0, if_pos (by omega), if_pos p2, if_neg p3]
    · obtain ⟨r, h1, h2⟩ := again (.inl (by omega))
      refine ⟨r, h1.step fun k => ?_, h2⟩
      rw [gleanerref4_depths.l3, if_pos (by omega), if_pos (by omega), ht, if_neg p1, if_pos t0, if_pos (by omega), if_neg p2]
theorem l2_ok (x : List Int) (y : List Bool) (hx : x.length = c.length) (hy : y.length = c.length) (hl : c.length ≤ 1000)
    (H : ∀ p : Nat, p ≤ c.length → (∀ q : Nat, q < p → 0 ≤ rd x q → rdOf false y q = true) → (p < c.length → 0 ≤ rd x p ∧ rdOf false y p = false) → ∃ r, Evn (fun k => gleanerref4_depths.j3 k x y p fs m ar fu ta nm a1 a2 c) r ∧ Good fs c r) :
    ∀ (n i : Nat), i + n = c.length → (∀ q : Nat, q < i → 0 ≤ rd x q → rdOf false y q = true) → ∃ r, Evn (fun k => gleanerref4_depths.l2 k x y i fs m ar fu ta nm a1 a2 c) r ∧ Good fs c r := by
  intro n
  induction n with
  | zero =>
    intro i hi hq
    obtain ⟨r, h1, h2⟩ := H i (by omega) hq (fun h => by omega)
    exact ⟨r, h1.step fun k => by rw [gleanerref4_depths.l2, if_neg (by omega)], h2⟩
  | succ n ih =>
    intro i hi hq
    have hw : wrap64 ((i : Int) + 1) = ((i + 1 : Nat) : Int) := by rw [wrap_small (by omega) (by omega)]; rfl
    have next : (0 ≤ rd x i → rdOf false y i = true) → ∃ r, Evn (fun k => gleanerref4_depths.l2 k x y (wrap64 ((i : Int) + 1)) fs m ar fu ta nm a1 a2 c) r ∧ Good fs c r := by
      intro h
      rw [hw]
      refine ih (i + 1) (by omega) fun q hqi => ?_
      rcases Nat.lt_or_ge q i with h' | h'
      · exact hq q h'
      · obtain rfl : q = i := by omega
        exact h
    by_cases p1 : rd x i < 0
    · obtain ⟨r, h1, h2⟩ := next (fun h => by omega)
      exact ⟨r, h1.step fun k => by rw [gleanerref4_depths.l2, if_pos (by omega), if_pos (by omega), if_pos p1], h2⟩
    · by_cases p2 : rdOf false y i = true
      · obtain ⟨r, h1, h2⟩ := next (fun _ => p2)
        exact ⟨r, h1.step fun k => by rw [gleanerref4_depths.l2, if_pos (by omega), if_pos (by omega), if_neg p1, if_pos (by omega), if_pos p2], h2⟩
      · obtain ⟨r, h1, h2⟩ := H i (by omega) hq (fun _ => ⟨by omega, by simpa using p2⟩)
        exact ⟨r, h1.step fun k => by rw [gleanerref4_depths.l2, if_pos (by omega), if_pos (by omega), if_neg p1, if_pos (by omega), if_neg p2], h2⟩
theorem l1_ok (loc : Int) (hc : CI fs c loc) (hl : c.length ≤ 1000) : ∀ (n : Nat) (x : List Int) (y : List Bool), DI fs c x y → y.count false < n → ∃ r, Evn (fun k => gleanerref4_depths.l1 k x y fs m ar fu ta nm a1 a2 c) r ∧ Good fs c r := by
  intro n
  induction n with
  | zero => intro x y _ h; omega
  | succ n ih =>
    intro x y hI hn
    have scan := l2_ok fs c m ar fu ta nm a1 a2 x y hI.l7 hI.l8 hl ?_ c.length 0 (by omega) (fun q h => by omega)
    · obtain ⟨r, h1, h2⟩ := scan
      exact ⟨r, h1.step fun k => rfl, h2⟩
    · intro p hp hq hsel
      have w7 := hI.l7
      have w8 := hI.l8
      by_cases pe : p = c.length
      · refine ⟨(x, 0, 0), Evn.of 1 fun k => ?_, fun _ => ⟨hI.l7, hI.z, fun q h0 h1 => (hI.b q h0 h1).2, fun q h0 h1 h2 => ?_⟩⟩
        · show gleanerref4_depths.j3 (k + 1) x y p fs m ar fu ta nm a1 a2 c = _
          rw [gleanerref4_depths.j3, if_pos (by omega)]
        · obtain ⟨u, rfl⟩ : ∃ u : Nat, q = u := ⟨q.toNat, by omega⟩
          exact (hI.cl u (by omega) (hq u (by omega) h2)).2
      · obtain ⟨s0, s1⟩ := hsel (by omega)
        obtain ⟨o1, o2, o3, o4, o5⟩ := hc p (by omega) (by omega)
        have hP := pops_ev fs (opA c p) (nA c p) o1 o2 o5
        have hU := push_ev (opA c p) (nA c p) o1 o2
        obtain ⟨ts, hN, hN0, hN1, hN2⟩ := next_ev (opA c p) (nA c p) p o1 o2 ⟨by omega, by omega⟩
        have xb := (hI.b p (by omega) (by omega)).2
        have hpu := push_nn (opA c p)
        have hpu2 : pushOf (opA c p) ≤ 2 := by unfold pushOf; split <;> (try split) <;> omega
        have core : ∀ (b : Bool) (d : Int), (b = false → popsOf fs (opA c p) (nA c p) ≤ rd x p ∧ d ≤ 32 ∧ d = rd x p - popsOf fs (opA c p) (nA c p) + pushOf (opA c p)) →
            ∃ r, Evn (fun k => gleanerref4_depths.j4 k x (y.set p true) p d b fs m ar fu ta nm a1 a2 c) r ∧ Good fs c r := by
          intro b d hb
          cases b with
          | true =>
            refine ⟨(([] : List Int), (p : Int), 12), Evn.of 1 fun k => ?_, fun h => by cases h⟩
            show gleanerref4_depths.j4 (k + 1) x (y.set p true) p d true fs m ar fu ta nm a1 a2 c = _
            rw [gleanerref4_depths.j4, if_pos rfl]
          | false =>
            obtain ⟨q1, q2, q3⟩ := hb rfl
            have hd : 0 ≤ d := by omega
            have hts : ∀ t ∈ ts, 0 ≤ t := by
              intro t ht
              have h := hN2 t ht
              unfold nextOf at h
              split at h
              · rename_i h14
                rw [List.mem_singleton] at h
                rw [h]; exact (o4 (.inl h14)).1
              · split at h
                · rename_i h14 h15
                  rcases List.mem_cons.1 h with h | h
                  · omega
                  · rw [List.mem_singleton] at h
                    rw [h]; exact (o4 (.inr h15)).1
                · split at h
                  · rw [List.mem_singleton] at h
                    omega
                  · cases h
            have htl : ts.length ≤ 1000 := by omega
            have h3 := l3_ok fs c m ar fu ta nm a1 a2 (y.set p true) p d ts hts htl hd ts.length 0 x (by omega) w7 ?_
            · obtain ⟨r, h1, h2⟩ := h3
              refine ⟨r, Evn.step (hN.bind (g := fun k t280 => gleanerref4_depths.l3 k x (y.set p true) p d t280 0 fs m ar fu ta nm a1 a2 c) h1) fun k => ?_, h2⟩
              rw [gleanerref4_depths.j4, if_neg (by simp), if_pos (by omega), if_pos (by omega)]
              rfl
            · intro x' hx' he hall
              refine ih x' (y.set p true) ⟨hx', by simpa using w8, ?_, fun q h0 h1 => ?_, fun q hql hqt => ?_⟩ (by have := count_set (by omega) s1; omega)
              · rw [(he 0 (by omega) (by omega)).1 (by rw [hI.z]; omega), hI.z]
              · have h2 := hI.b q h0 h1
                by_cases h3 : 0 ≤ rd x q
                · rw [(he q h0 h1).1 h3]; omega
                · rcases (he q h0 h1).2 (by omega) with h4 | h4 <;> omega
              · rw [rdOf_set (by omega)] at hqt
                by_cases eq : q = p
                · subst eq
                  have h4 := (he q (by omega) (by omega)).1 s0
                  refine ⟨by omega, by rw [h4]; exact q1, fun t ht => ?_⟩
                  obtain ⟨i, hi, hit⟩ := List.mem_iff_getElem.1 (hN1 t ht)
                  have e : rd ts i = t := by unfold rd; rw [Int.toNat_natCast, List.getD_eq_getElem?_getD, List.getElem?_eq_getElem hi]; exact hit
                  obtain ⟨g1, g2⟩ := hall i (by omega) hi
                  rw [e] at g1 g2
                  exact ⟨hts t (hN1 t ht), g1, by rw [g2, h4]; exact q3⟩
                · rw [if_neg eq] at hqt
                  obtain ⟨c0, c1, c2⟩ := hI.cl q hql hqt
                  have h4 := (he q (by omega) (by omega)).1 c0
                  refine ⟨by omega, by rw [h4]; exact c1, fun t ht => ?_⟩
                  obtain ⟨g0, g1, g2⟩ := c2 t ht
                  have hpq := push_nn (opA c q)
                  exact ⟨g0, g1, by rw [(he t g0 g1).1 (by omega), h4, g2]⟩
        have fin : ∃ r, Evn (fun k => if (rd x p) < popsOf fs (opA c p) (nA c p) then (gleanerref4_depths.j4 k x (y.set p true) p (wrap64 ((wrap64 ((rd x p) - popsOf fs (opA c p) (nA c p))) + pushOf (opA c p))) true fs m ar fu ta nm a1 a2 c) else (if popsOf fs (opA c p) (nA c p) < (-32) then (gleanerref4_depths.j4 k x (y.set p true) p (wrap64 ((wrap64 ((rd x p) - popsOf fs (opA c p) (nA c p))) + pushOf (opA c p))) true fs m ar fu ta nm a1 a2 c) else (gleanerref4_depths.j4 k x (y.set p true) p (wrap64 ((wrap64 ((rd x p) - popsOf fs (opA c p) (nA c p))) + pushOf (opA c p))) (decide ((wrap64 ((wrap64 ((rd x p) - popsOf fs (opA c p) (nA c p))) + pushOf (opA c p))) > 32)) fs m ar fu ta nm a1 a2 c))) r ∧ Good fs c r := by
          by_cases z1 : (rd x p) < popsOf fs (opA c p) (nA c p)
          · obtain ⟨r, h1, h2⟩ := core true (wrap64 ((wrap64 ((rd x p) - popsOf fs (opA c p) (nA c p))) + pushOf (opA c p))) (fun h => by cases h)
            exact ⟨r, by simpa [z1] using h1, h2⟩
          · by_cases z2 : popsOf fs (opA c p) (nA c p) < (-32)
            · obtain ⟨r, h1, h2⟩ := core true (wrap64 ((wrap64 ((rd x p) - popsOf fs (opA c p) (nA c p))) + pushOf (opA c p))) (fun h => by cases h)
              exact ⟨r, by simpa [z1, z2] using h1, h2⟩
            · have e1 : wrap64 ((wrap64 ((rd x p) - popsOf fs (opA c p) (nA c p))) + pushOf (opA c p)) = rd x p - popsOf fs (opA c p) (nA c p) + pushOf (opA c p) := by
                rw [wrap_small (x := rd x p - popsOf fs (opA c p) (nA c p)) (by omega) (by omega), wrap_small (by omega) (by omega)]
              obtain ⟨r, h1, h2⟩ := core (decide ((wrap64 ((wrap64 ((rd x p) - popsOf fs (opA c p) (nA c p))) + pushOf (opA c p))) > 32)) (wrap64 ((wrap64 ((rd x p) - popsOf fs (opA c p) (nA c p))) + pushOf (opA c p))) (fun h => by rw [decide_eq_false_iff_not] at h; exact ⟨by omega, by omega, e1⟩)
              exact ⟨r, by simpa only [if_neg z1, if_neg z2] using h1, h2⟩
        obtain ⟨r, h1, h2⟩ := fin
        refine ⟨r, Evn.step (g := fun k => (gleanerref1_Pops.f k (opA c p) (nA c p) fs).bind fun t274 => (gleanerref1_Pushes.f k (opA c p) (nA c p)).bind fun t277 => (if (rd x p) < t274 then (gleanerref4_depths.j4 k x (y.set p true) p (wrap64 ((wrap64 ((rd x p) - t274)) + t277)) true fs m ar fu ta nm a1 a2 c) else (if t274 < (-32) then (gleanerref4_depths.j4 k x (y.set p true) p (wrap64 ((wrap64 ((rd x p) - t274)) + t277)) true fs m ar fu ta nm a1 a2 c) else (gleanerref4_depths.j4 k x (y.set p true) p (wrap64 ((wrap64 ((rd x p) - t274)) + t277)) (decide ((wrap64 ((wrap64 ((rd x p) - t274)) + t277)) > 32)) fs m ar fu ta nm a1 a2 c)))) (hP.bind (hU.bind h1)) fun k => ?_, h2⟩
        rw [gleanerref4_depths.j3, if_neg (by omega), if_pos (by omega), if_pos (by omega)]
        simp only [Option.bind_some, Int.toNat_natCast]
        rw [if_pos (by omega)]
        unfold opA nA
        congr 1
        funext t274
        rw [if_pos (by omega)]
theorem l0_ok (y : List Bool) (hl : c.length ≤ 1000) (H : ∀ x : List Int, x.length = c.length → rd x 0 = 0 → (∀ q : Int, 1 ≤ q → q < c.length → rd x q = -1) → ∃ r, Evn (fun k => gleanerref4_depths.l1 k x y fs m ar fu ta nm a1 a2 c) r ∧ Good fs c r) :
    ∀ (n i : Nat) (x : List Int), 1 ≤ i → i + n = c.length → x.length = c.length → rd x 0 = 0 → (∀ q : Int, 1 ≤ q → q < i → rd x q = -1) → ∃ r, Evn (fun k => gleanerref4_depths.l0 k x y i fs m ar fu ta nm a1 a2 c) r ∧ Good fs c r := by
  intro n
  induction n with
  | zero =>
    intro i x h1 hi hx h0 hq
    obtain ⟨r, a, b⟩ := H x hx h0 (fun q q0 q1 => hq q q0 (by omega))
    exact ⟨r, a.step fun k => by rw [gleanerref4_depths.l0, if_neg (by omega)], b⟩
  | succ n ih =>
    intro i x h1 hi hx h0 hq
    have hw : wrap64 ((i : Int) + 1) = ((i + 1 : Nat) : Int) := by rw [wrap_small (by omega) (by omega)]; rfl
    obtain ⟨r, a, b⟩ := ih (i + 1) (x.set (i : Int).toNat (-1)) (by omega) (by omega) (by simpa using hx) (by rw [rd_set (by omega) (by omega) (by omega), if_neg (by omega)]; exact h0) (fun q q0 q1 => by
      rw [rd_set (by omega) (by omega) (by omega)]
      by_cases e : q = i
      · rw [if_pos e]
      · rw [if_neg e]; exact hq q q0 (by omega))
    exact ⟨r, a.step fun k => by rw [gleanerref4_depths.l0, if_pos (by omega), if_pos (by omega), hw], b⟩
theorem depths_ok (loc : Int) (hc : CI fs c loc) (hl : c.length ≤ 1000) (h1 : 1 ≤ c.length) : ∃ r, Evn (fun k => gleanerref4_depths.f k fs m ar fu ta nm a1 a2 c) r ∧ Good fs c r := by
  have h := l0_ok fs c m ar fu ta nm a1 a2 (List.replicate c.length false) hl (fun x hx h0 hq => ?_) (c.length - 1) 1 (List.replicate c.length 0) (by omega) (by omega) (by simp) ?_ (fun q q0 q1 => by omega)
  · obtain ⟨r, ⟨K, a⟩, b⟩ := h
    refine ⟨r, ⟨K, fun k hk => ?_⟩, b⟩
    show gleanerref4_depths.f k fs m ar fu ta nm a1 a2 c = _
    unfold gleanerref4_depths.f
    rw [if_pos (by omega), if_pos (by omega), if_pos (by omega), Int.toNat_natCast]
    exact a k hk
  · refine l1_ok fs c m ar fu ta nm a1 a2 loc hc hl _ x _ ⟨hx, by simp, h0, fun q q0 q1 => ?_, fun q hq hqt => ?_⟩ (Nat.lt_succ_self _)
    · by_cases e : q = 0
      · subst e; rw [h0]; omega
      · rw [hq q (by omega) q1]; omega
    · unfold rdOf at hqt
      rw [Int.toNat_natCast, List.getD_eq_getElem?_getD, List.getElem?_replicate] at hqt
      split at hqt <;> simp at hqt
  · unfold rd
    rw [List.getD_eq_getElem?_getD, List.getElem?_replicate]
    split <;> rfl
end
end Go.Proofs.Ytakdckaplmoklaa.Ev
end
section
namespace Go.Proofs.Ytakdckaplmoklaa.Ev
open Go.RowKit Go.Proofs.YtakdckaplmoklaaW.PrintWords Go.Proofs.YtakdckaplmoklaaW.PrintLast Go.Proofs.YtakdckaplmoklaaW.PrintMore Go.Proofs.Ytakdckaplmoklaa.PTraceDeep
set_option linter.unusedVariables false
set_option linter.unusedSimpArgs false
section
variable (fs : List S50) (m : Int) (ar : List Int) (fu ta : Int) (nm : ByteArray) (a1 a2 : Int) (c : List S102)
theorem ci2_ok (x : Bool) (op N : Int) : ∃ r, Evn (fun k => gleanerref4_checkIns.j2 k x fs m ar fu ta op N) r ∧ (r = 0 → x = false ∧ (op = 16 → 0 ≤ N ∧ N < fs.length)) := by
  cases x with
  | true => exact ⟨11, Evn.of 1 fun k => rfl, fun h => by cases h⟩
  | false =>
    by_cases p : op = 16
    · by_cases q : N < 0
      · exact ⟨14, Evn.of 1 fun k => by simp [gleanerref4_checkIns.j2, p, q], fun h => by cases h⟩
      · by_cases q2 : N ≥ (fs.length : Int)
        · exact ⟨14, Evn.of 1 fun k => by simp [gleanerref4_checkIns.j2, p, q]; omega, fun h => by cases h⟩
        · refine ⟨0, Evn.of 1 fun k => ?_, fun _ => ⟨rfl, fun _ => ⟨by omega, by omega⟩⟩⟩
          show gleanerref4_checkIns.j2 (k + 1) false fs m ar fu ta op N = _
          rw [gleanerref4_checkIns.j2, if_neg (by simp), if_pos p, if_neg q, if_neg q2]
    · exact ⟨0, Evn.of 1 fun k => by simp [gleanerref4_checkIns.j2, p], fun _ => ⟨rfl, fun h => absurd h p⟩⟩
theorem ci1_ok (x : Bool) (op N : Int) : ∃ r, Evn (fun k => gleanerref4_checkIns.j1 k x fs m ar fu ta nm a1 a2 c op N) r ∧ (r = 0 → x = false ∧ (op = 14 ∨ op = 15 → 0 ≤ N ∧ N < c.length) ∧ (op = 16 → 0 ≤ N ∧ N < fs.length)) := by
  cases x with
  | true => exact ⟨13, Evn.of 1 fun k => rfl, fun h => by cases h⟩
  | false =>
    by_cases p : op = 14 ∨ op = 15
    · by_cases q : N < 0
      · obtain ⟨r, h1, h2⟩ := ci2_ok fs m ar fu ta true op N
        refine ⟨r, h1.step fun k => ?_, fun h => absurd (h2 h).1 (by simp)⟩
        rw [gleanerref4_checkIns.j1, if_neg (by simp)]
        rcases p with p | p <;> simp [p, q]
      · obtain ⟨r, h1, h2⟩ := ci2_ok fs m ar fu ta (decide (N ≥ (c.length : Int))) op N
        refine ⟨r, h1.step fun k => ?_, fun h => ⟨rfl, fun _ => ?_, (h2 h).2⟩⟩
        · rw [gleanerref4_checkIns.j1, if_neg (by simp)]
          rcases p with p | p <;> simp [p, q]
        · have := (h2 h).1
          rw [decide_eq_false_iff_not] at this
          omega
    · obtain ⟨r, h1, h2⟩ := ci2_ok fs m ar fu ta false op N
      refine ⟨r, h1.step fun k => ?_, fun h => ⟨rfl, fun h => absurd h p, (h2 h).2⟩⟩
      have p1 : ¬ op = 14 := fun h => p (.inl h)
      have p2 : ¬ op = 15 := fun h => p (.inr h)
      rw [gleanerref4_checkIns.j1, if_neg (by simp), if_neg p1, if_neg p2]
theorem ci0_ok (x : Bool) (op N : Int) : ∃ r, Evn (fun k => gleanerref4_checkIns.j0 k x fs m ar fu ta nm a1 a2 c op N) r ∧ (r = 0 → x = false ∧ (op = 5 ∨ op = 6 → 0 ≤ N ∧ N < a2) ∧ (op = 14 ∨ op = 15 → 0 ≤ N ∧ N < c.length) ∧ (op = 16 → 0 ≤ N ∧ N < fs.length)) := by
  cases x with
  | true => exact ⟨10, Evn.of 1 fun k => rfl, fun h => by cases h⟩
  | false =>
    by_cases p : op = 5 ∨ op = 6
    · by_cases q : N < 0
      · obtain ⟨r, h1, h2⟩ := ci1_ok fs m ar fu ta nm a1 a2 c true op N
        refine ⟨r, h1.step fun k => ?_, fun h => absurd (h2 h).1 (by simp)⟩
        rw [gleanerref4_checkIns.j0, if_neg (by simp)]
        rcases p with p | p <;> simp [p, q]
      · obtain ⟨r, h1, h2⟩ := ci1_ok fs m ar fu ta nm a1 a2 c (decide (N ≥ a2)) op N
        refine ⟨r, h1.step fun k => ?_, fun h => ⟨rfl, fun _ => ?_, (h2 h).2⟩⟩
        · rw [gleanerref4_checkIns.j0, if_neg (by simp)]
          rcases p with p | p <;> simp [p, q]
        · have := (h2 h).1
          rw [decide_eq_false_iff_not] at this
          omega
    · obtain ⟨r, h1, h2⟩ := ci1_ok fs m ar fu ta nm a1 a2 c false op N
      refine ⟨r, h1.step fun k => ?_, fun h => ⟨rfl, fun h => absurd h p, (h2 h).2⟩⟩
      have p1 : ¬ op = 5 := fun h => p (.inl h)
      have p2 : ¬ op = 6 := fun h => p (.inr h)
      rw [gleanerref4_checkIns.j0, if_neg (by simp), if_neg p1, if_neg p2]
theorem hasN_ok (op : Int) : ∃ b, gleanerref1_HasN.f op = some b := by
  unfold gleanerref1_HasN.f
  repeat' split
  all_goals exact ⟨_, rfl⟩
theorem iname_ok (op : Int) : ∃ s, gleanerref1_Name.f op = some s ∧ (s.toList = [] ∨ (1 ≤ op ∧ op ≤ 19)) := by
  unfold gleanerref1_Name.f
  simp only [Option.bind_some]
  by_cases p : op < 1
  · rw [if_pos p]
    exact ⟨_, rfl, .inl (by rw [Go.Lib.toList_data])⟩
  · rw [if_neg p]
    by_cases q : op ≥ 20
    · rw [if_pos (by simpa using q)]
      exact ⟨_, rfl, .inl (by rw [Go.Lib.toList_data])⟩
    · rw [if_neg (by simpa using q), if_pos (by omega), if_pos (by simp; omega)]
      exact ⟨_, rfl, .inr ⟨by omega, by omega⟩⟩
theorem checkIns_ok (op N : Int) : ∃ r, Evn (fun k => gleanerref4_checkIns.f k fs m ar fu ta nm a1 a2 c op N) r ∧ (r = 0 → 1 ≤ op ∧ op ≤ 19 ∧ (op = 5 ∨ op = 6 → 0 ≤ N ∧ N < a2) ∧ (op = 14 ∨ op = 15 → 0 ≤ N ∧ N < c.length) ∧ (op = 16 → 0 ≤ N ∧ N < fs.length)) := by
  obtain ⟨b, hb⟩ := hasN_ok op
  obtain ⟨s, hs, hr⟩ := iname_ok op
  by_cases p : s.toList = []
  · obtain ⟨r, ⟨K, h1⟩, h2⟩ := ci0_ok fs m ar fu ta nm a1 a2 c true op N
    refine ⟨r, ⟨K, fun k hk => ?_⟩, fun h => absurd (h2 h).1 (by simp)⟩
    show gleanerref4_checkIns.f k fs m ar fu ta nm a1 a2 c op N = _
    unfold gleanerref4_checkIns.f
    rw [hb, hs]
    simp only [Option.bind_some]
    rw [if_pos p]
    exact h1 k hk
  · have hr2 : 1 ≤ op ∧ op ≤ 19 := hr.resolve_left p
    obtain ⟨r, ⟨K, h1⟩, h2⟩ := ci0_ok fs m ar fu ta nm a1 a2 c (if b = true then false else (N != 0)) op N
    refine ⟨r, ⟨K, fun k hk => ?_⟩, fun h => ⟨hr2.1, hr2.2, (h2 h).2⟩⟩
    have h3 := h1 k hk
    show gleanerref4_checkIns.f k fs m ar fu ta nm a1 a2 c op N = _
    unfold gleanerref4_checkIns.f
    rw [hb, hs]
    simp only [Option.bind_some]
    rw [if_neg p]
    cases b <;> simpa using h3
structure FnOk (nm : ByteArray) (a1 a2 : Int) (c : List S102) : Prop where
  f1 : 0 ≤ a1
  f2 : a1 ≤ a2
  f3 : a2 ≤ 16
  l1 : 1 ≤ c.length
  l2 : c.length ≤ 256
  ci : CI fs c a2
  dp : ∃ dp a b k, gleanerref4_depths.f k fs m ar fu ta nm a1 a2 c = some (dp, a, b) ∧ Good fs c (dp, 0, 0)
theorem cf1_ok (hl1 : 1 ≤ c.length) (hl2 : c.length ≤ 256) : ∀ (n i : Nat), i + n = c.length → (∀ p : Int, 0 ≤ p → p < i → 1 ≤ opA c p ∧ opA c p ≤ 19 ∧ (opA c p = 5 ∨ opA c p = 6 → 0 ≤ nA c p ∧ nA c p < a2) ∧ (opA c p = 14 ∨ opA c p = 15 → 0 ≤ nA c p ∧ nA c p < c.length) ∧ (opA c p = 16 → 0 ≤ nA c p ∧ nA c p < fs.length)) →
    ∃ r, Evn (fun k => gleanerref4_checkFunc.l1 k i fs m ar fu ta nm a1 a2 c) r ∧ (r.2 = 0 → CI fs c a2 ∧ ∃ dp a b k, gleanerref4_depths.f k fs m ar fu ta nm a1 a2 c = some (dp, a, b) ∧ Good fs c (dp, 0, 0)) := by
  intro n
  induction n with
  | zero =>
    intro i hi hq
    have hc : CI fs c a2 := fun p p0 p1 => hq p p0 (by omega)
    obtain ⟨d, ⟨K, h1⟩, h2⟩ := depths_ok fs c m ar fu ta nm a1 a2 a2 hc (by omega) hl1
    refine ⟨(d.2.1, d.2.2), Evn.step (g := fun k => (gleanerref4_depths.f k fs m ar fu ta nm a1 a2 c).bind fun bt308 => (some (bt308.2.1, bt308.2.2))) ⟨K, fun k hk => ?_⟩ (fun k => by rw [gleanerref4_checkFunc.l1, if_neg (by omega)]), fun h => ⟨hc, d.1, d.2.1, d.2.2, K, h1 K (Nat.le_refl _), ?_⟩⟩
    · have h3 : gleanerref4_depths.f k fs m ar fu ta nm a1 a2 c = some d := h1 k hk
      show (gleanerref4_depths.f k fs m ar fu ta nm a1 a2 c).bind _ = _
      rw [h3]
      rfl
    · exact fun _ => h2 h
  | succ n ih =>
    intro i hi hq
    have hw : wrap64 ((i : Int) + 1) = ((i + 1 : Nat) : Int) := by rw [wrap_small (by omega) (by omega)]; rfl
    obtain ⟨t, h1, h2⟩ := checkIns_ok fs m ar fu ta nm a1 a2 c (opA c i) (nA c i)
    by_cases p : t = 0
    · obtain ⟨r, g1, g2⟩ := ih (i + 1) (by omega) (fun q q0 q1 => by
        rcases Int.lt_or_le q i with h | h
        · exact hq q q0 h
        · obtain rfl : q = i := by omega
          exact h2 p)
      refine ⟨r, Evn.step (h1.bind (g := fun k t307 => if t307 = 0 then (gleanerref4_checkFunc.l1 k (wrap64 ((i : Int) + 1)) fs m ar fu ta nm a1 a2 c) else (some ((i : Int), t307))) ?_) (fun k => ?_), g2⟩
      · simp only [p, if_true, hw]
        exact g1
      · rw [gleanerref4_checkFunc.l1, if_pos (by omega), if_pos (by omega)]
        rfl
    · refine ⟨((i : Int), t), Evn.step (h1.bind (g := fun k t307 => if t307 = 0 then (gleanerref4_checkFunc.l1 k (wrap64 ((i : Int) + 1)) fs m ar fu ta nm a1 a2 c) else (some ((i : Int), t307))) (Evn.of 0 fun k => by simp [p])) (fun k => ?_), fun h => absurd h p⟩
      rw [gleanerref4_checkFunc.l1, if_pos (by omega), if_pos (by omega)]
      rfl
theorem cf_end : ∃ r, Evn (fun k => if a1 < 0 then (gleanerref4_checkFunc.j1 k true fs m ar fu ta nm a1 a2 c) else (gleanerref4_checkFunc.j1 k (decide (a1 > 8)) fs m ar fu ta nm a1 a2 c)) r ∧ (r.2 = 0 → FnOk fs m ar fu ta nm a1 a2 c) := by
  by_cases p1 : a1 < 0
  · exact ⟨(0, 15), Evn.of 1 fun k => by simp [p1, gleanerref4_checkFunc.j1], fun h => by cases h⟩
  by_cases p2 : a1 > 8
  · exact ⟨(0, 15), Evn.of 1 fun k => by simp [p1, p2, gleanerref4_checkFunc.j1], fun h => by cases h⟩
  by_cases p3 : a2 < a1
  · exact ⟨(0, 13), Evn.of 2 fun k => by simp [p1, p2, p3, gleanerref4_checkFunc.j1, gleanerref4_checkFunc.j2], fun h => by cases h⟩
  by_cases p4 : a2 > 16
  · exact ⟨(0, 13), Evn.of 2 fun k => by simp [p1, p2, p3, p4, gleanerref4_checkFunc.j1, gleanerref4_checkFunc.j2], fun h => by cases h⟩
  by_cases p5 : (c.length : Int) = 0
  · exact ⟨(0, 3), Evn.of 2 fun k => by simp only [p1, p2, p3, p4, p5, gleanerref4_checkFunc.j1, gleanerref4_checkFunc.j2]; simp, fun h => by cases h⟩
  by_cases p6 : (c.length : Int) > 256
  · exact ⟨(0, 3), Evn.of 2 fun k => by simp only [p1, p2, p3, p4, p5, p6, gleanerref4_checkFunc.j1, gleanerref4_checkFunc.j2]; simp, fun h => by cases h⟩
  obtain ⟨r, ⟨K, h1⟩, h2⟩ := cf1_ok fs m ar fu ta nm a1 a2 c (by omega) (by omega) c.length 0 (by omega) (fun p p0 p1 => by omega)
  refine ⟨r, ⟨K + 2, fun k hk => ?_⟩, fun h => ⟨by omega, by omega, by omega, by omega, by omega, (h2 h).1, (h2 h).2⟩⟩
  obtain ⟨q, rfl⟩ : ∃ q, k = q + 1 + 1 := ⟨k - 2, by omega⟩
  have h3 := h1 q (by omega)
  simp only [p1, p2, p3, p4, p5, p6, gleanerref4_checkFunc.j1, gleanerref4_checkFunc.j2]
  simpa using h3
theorem cf0_ok (i : Nat) (hi : i ≤ fs.length) (hl : fs.length ≤ 1000) : ∀ (n j : Nat) (b : Bool), j + n = i → ∃ r, Evn (fun k => gleanerref4_checkFunc.l0 k i b j fs m ar fu ta nm a1 a2 c) r ∧ (r.2 = 0 → FnOk fs m ar fu ta nm a1 a2 c) := by
  intro n
  induction n with
  | zero =>
    intro j b hj
    cases b with
    | true =>
      obtain ⟨r, h1, h2⟩ := cf_end fs m ar fu ta nm a1 a2 c
      exact ⟨r, h1.step fun k => by rw [gleanerref4_checkFunc.l0, if_neg (by omega), if_pos rfl], h2⟩
    | false =>
      refine ⟨(0, 6), Evn.of 1 fun k => ?_, fun h => by cases h⟩
      show gleanerref4_checkFunc.l0 (k + 1) i false j fs m ar fu ta nm a1 a2 c = _
      rw [gleanerref4_checkFunc.l0, if_neg (by omega), if_neg (by simp)]
  | succ n ih =>
    intro j b hj
    have hw : wrap64 ((j : Int) + 1) = ((j + 1 : Nat) : Int) := by rw [wrap_small (by omega) (by omega)]; rfl
    cases b with
    | true =>
      obtain ⟨r, h1, h2⟩ := ih (j + 1) (((rd_T50 fs j).f0).toList != nm.toList) (by omega)
      exact ⟨r, h1.step fun k => by rw [gleanerref4_checkFunc.l0, if_pos (by omega), if_pos rfl, if_pos (by omega), if_pos (by omega), hw], h2⟩
    | false =>
      obtain ⟨r, h1, h2⟩ := ih (j + 1) false (by omega)
      exact ⟨r, h1.step fun k => by rw [gleanerref4_checkFunc.l0, if_pos (by omega), if_neg (by simp), hw], h2⟩
end
section
variable (fs : List S50) (m : Int) (ar : List Int) (fu ta : Int)
def FnAt (i : Nat) : Prop := FnOk fs m ar fu ta (rd_T50 fs i).f0 (rd_T50 fs i).f1 (rd_T50 fs i).f2 (rd_T50 fs i).f3
theorem checkFunc_ok (i : Nat) (hi : i < fs.length) (hl : fs.length ≤ 1000) : ∃ r, Evn (fun k => gleanerref4_checkFunc.f k fs m ar fu ta i) r ∧ (r.2 = 0 → FnAt fs m ar fu ta i) := by
  obtain ⟨b, hb⟩ := name_total (rd_T50 fs i).f0
  obtain ⟨r, h1, h2⟩ := cf0_ok fs m ar fu ta (rd_T50 fs i).f0 (rd_T50 fs i).f1 (rd_T50 fs i).f2 (rd_T50 fs i).f3 i (by omega) hl i 0 b (by omega)
  obtain ⟨K, h⟩ := hb.bind (g := fun k t304 => gleanerref4_checkFunc.l0 k i t304 0 fs m ar fu ta (rd_T50 fs i).f0 (rd_T50 fs i).f1 (rd_T50 fs i).f2 (rd_T50 fs i).f3) h1
  refine ⟨r, ⟨K, fun k hk => ?_⟩, h2⟩
  show gleanerref4_checkFunc.f k fs m ar fu ta i = _
  unfold gleanerref4_checkFunc.f
  rw [if_pos (by omega), if_pos (by omega)]
  exact h k hk
theorem check0_ok (hl : fs.length ≤ 32) : ∀ (n i : Nat), i + n = fs.length → (∀ j : Nat, j < i → FnAt fs m ar fu ta j) → ∃ r, Evn (fun k => gleanerref4_Check.l0 k i fs m ar fu ta) r ∧ (r.2.2 = 0 → ∀ j : Nat, j < fs.length → FnAt fs m ar fu ta j) := by
  intro n
  induction n with
  | zero =>
    intro i hi hq
    refine ⟨(0, 0, 0), Evn.of 1 fun k => ?_, fun _ j hj => hq j (by omega)⟩
    show gleanerref4_Check.l0 (k + 1) i fs m ar fu ta = _
    rw [gleanerref4_Check.l0, if_neg (by omega)]
  | succ n ih =>
    intro i hi hq
    have hw : wrap64 ((i : Int) + 1) = ((i + 1 : Nat) : Int) := by rw [wrap_small (by omega) (by omega)]; rfl
    obtain ⟨t, h1, h2⟩ := checkFunc_ok fs m ar fu ta i (by omega) (by omega)
    by_cases p : t.2 = 0
    · obtain ⟨r, g1, g2⟩ := ih (i + 1) (by omega) (fun j hj => by
        rcases Nat.lt_or_ge j i with h | h
        · exact hq j h
        · obtain rfl : j = i := by omega
          exact h2 p)
      refine ⟨r, Evn.step (h1.bind (g := fun k bt315 => if bt315.2 = 0 then (gleanerref4_Check.l0 k (wrap64 ((i : Int) + 1)) fs m ar fu ta) else (some ((i : Int), bt315.1, bt315.2))) ?_) (fun k => ?_), g2⟩
      · simp only [p, if_true, hw]
        exact g1
      · rw [gleanerref4_Check.l0, if_pos (by omega)]
    · refine ⟨((i : Int), t.1, t.2), Evn.step (h1.bind (g := fun k bt315 => if bt315.2 = 0 then (gleanerref4_Check.l0 k (wrap64 ((i : Int) + 1)) fs m ar fu ta) else (some ((i : Int), bt315.1, bt315.2))) (Evn.of 0 fun k => by simp [p])) (fun k => ?_), fun h => absurd h p⟩
      rw [gleanerref4_Check.l0, if_pos (by omega)]
theorem check_total : ∃ k r1 r2 e, gleanerref4_Check.f k fs m ar fu ta = some (r1, r2, e) ∧ (e = 0 → fs.length ≤ 32 ∧ 1 ≤ fu ∧ fu ≤ 5000 ∧ 1 ≤ ta ∧ ta ≤ 500 ∧ 0 ≤ m ∧ m < fs.length ∧ (ar.length : Int) = (rd_T50 fs m).f1 ∧ ∀ j : Nat, j < fs.length → FnAt fs m ar fu ta j) := by
  by_cases p1 : (fs.length : Int) = 0
  · refine ⟨0, 0, 0, 14, ?_, fun h => by cases h⟩
    unfold gleanerref4_Check.f
    rw [if_pos p1]
  by_cases p2 : (fs.length : Int) > 32
  · refine ⟨0, 0, 0, 3, ?_, fun h => by cases h⟩
    unfold gleanerref4_Check.f
    rw [if_neg p1, if_pos p2]
  by_cases p3 : fu < 1 ∨ fu > 5000 ∨ ta < 1 ∨ ta > 500
  · refine ⟨1, 0, 0, 16, ?_, fun h => by cases h⟩
    unfold gleanerref4_Check.f
    rw [if_neg p1, if_neg p2]
    by_cases q1 : fu < 1
    · rw [if_pos q1]; rfl
    · rw [if_neg q1]
      by_cases q2 : fu > 5000
      · rw [if_pos q2]; rfl
      · rw [if_neg q2]
        by_cases q3 : ta < 1
        · rw [if_pos q3]; rfl
        · have q4 : decide (ta > 500) = true := by simp; omega
          rw [if_neg q3, q4]; rfl
  have q4 : decide (ta > 500) = false := by simp; omega
  have head : ∀ k, gleanerref4_Check.f (k + 1) fs m ar fu ta = (if m < 0 then (gleanerref4_Check.j1 k true fs m ar fu ta) else (gleanerref4_Check.j1 k (decide (m ≥ (fs.length : Int))) fs m ar fu ta)) := fun k => by
    unfold gleanerref4_Check.f
    rw [if_neg p1, if_neg p2, if_neg (by omega), if_neg (by omega), if_neg (by omega), q4, gleanerref4_Check.j0, if_neg (by simp)]
  by_cases p4 : m < 0
  · exact ⟨2, 0, 0, 14, by rw [head, if_pos p4, gleanerref4_Check.j1, if_pos rfl], fun h => by cases h⟩
  by_cases p5 : m ≥ (fs.length : Int)
  · have q5 : decide (m ≥ (fs.length : Int)) = true := by simpa using p5
    exact ⟨2, 0, 0, 14, by rw [head, if_neg p4, q5, gleanerref4_Check.j1, if_pos rfl], fun h => by cases h⟩
  have q5 : decide (m ≥ (fs.length : Int)) = false := by simpa using p5
  by_cases p6 : (ar.length : Int) = (rd_T50 fs m).f1
  · obtain ⟨⟨r1, r2, e⟩, ⟨K, h1⟩, h2⟩ := check0_ok fs m ar fu ta (by omega) fs.length 0 (by omega) (fun j hj => by omega)
    refine ⟨K + 1 + 1, r1, r2, e, ?_, fun h => ⟨by omega, by omega, by omega, by omega, by omega, by omega, by omega, p6, h2 h⟩⟩
    rw [head, if_neg p4, q5, gleanerref4_Check.j1, if_neg (by simp), if_pos (by omega), if_pos (by omega), if_pos p6]
    exact h1 K (Nat.le_refl _)
  · refine ⟨2, 0, 0, 15, ?_, fun h => by cases h⟩
    rw [head, if_neg p4, q5, gleanerref4_Check.j1, if_neg (by simp), if_pos (by omega), if_pos (by omega), if_neg p6]
theorem task_ok : ∃ k r1 r2 e, gleanerref4_Check.f k fs m ar fu ta = some (r1, r2, e) ∧ ∃ D : List (List Int),
    (e = 0 → fs.length ≤ 1000 ∧ D.length = fs.length ∧ ∀ i : Nat, i < fs.length → ∃ k a b, gleanerref4_depths.f k fs m ar fu ta (rd_T50 fs i).f0 (rd_T50 fs i).f1 (rd_T50 fs i).f2 (rd_T50 fs i).f3 = some (rd_L7 D i, a, b)) ∧
    (e = 0 → KG fs D ∧ 0 ≤ fu ∧ fu ≤ 5000 ∧ ta ≤ 500 ∧ 0 ≤ m ∧ m < fs.length ∧ (ar.length : Int) = (rd_T50 fs m).f1) := by
  obtain ⟨k, r1, r2, e, h1, h2⟩ := check_total fs m ar fu ta
  refine ⟨k, r1, r2, e, h1, ?_⟩
  by_cases p : e = 0
  · obtain ⟨g1, g2, g3, g4, g5, g6, g7, g8, g9⟩ := h2 p
    have key : ∀ i : Fin fs.length, ∃ dp : List Int, (∃ a b k, gleanerref4_depths.f k fs m ar fu ta (rd_T50 fs i.1).f0 (rd_T50 fs i.1).f1 (rd_T50 fs i.1).f2 (rd_T50 fs i.1).f3 = some (dp, a, b)) ∧ Good fs (rd_T50 fs i.1).f3 (dp, 0, 0) := by
      intro i
      obtain ⟨dp, a, b, k, e1, e2⟩ := (g9 i.1 i.2).dp
      exact ⟨dp, ⟨a, b, k, e1⟩, e2⟩
    obtain ⟨g, hg⟩ := Classical.axiomOfChoice key
    have hrd : ∀ i : Fin fs.length, rd_L7 (List.ofFn g) (i.1 : Int) = g i := fun i => by
      unfold rd_L7
      rw [Int.toNat_natCast, List.getD_eq_getElem?_getD, List.getElem?_eq_getElem (by simp), List.getElem_ofFn]
      rfl
    have nat : ∀ f : Int, 0 ≤ f → f < fs.length → ∃ i : Fin fs.length, f = (i.1 : Int) := fun f f0 f1 => ⟨⟨f.toNat, by omega⟩, by simp; omega⟩
    refine ⟨List.ofFn g, fun _ => ⟨by omega, by simp, fun i hi => ?_⟩, fun _ => ⟨⟨by simp, g1, ?_, ?_, ?_, ?_⟩, by omega, g3, g5, g6, g7, g8⟩⟩
    · obtain ⟨⟨a, b, k, e1⟩, _⟩ := hg ⟨i, hi⟩
      exact ⟨k, a, b, by rw [hrd ⟨i, hi⟩]; exact e1⟩
    · intro f f0 f1
      obtain ⟨i, rfl⟩ := nat f f0 f1
      have h3 := (hg i).2 rfl
      have h4 := g9 i.1 i.2
      exact ⟨by rw [hrd i]; exact h3.1, h4.l2, h4.f1, h4.f2, h4.f3⟩
    · intro f f0 f1
      obtain ⟨i, rfl⟩ := nat f f0 f1
      have h3 := (hg i).2 rfl
      have h4 := g9 i.1 i.2
      exact ⟨h4.l1, by unfold depAt; rw [hrd i]; exact h3.2.1⟩
    · intro f pc f0 f1 q0 q1
      obtain ⟨i, rfl⟩ := nat f f0 f1
      have h3 := (hg i).2 rfl
      unfold depAt
      rw [hrd i]
      exact h3.2.2.1 pc q0 q1
    · intro f pc f0 f1 q0 q1 q2
      obtain ⟨i, rfl⟩ := nat f f0 f1
      have h3 := (hg i).2 rfl
      have h4 := (g9 i.1 i.2).ci pc q0 q1
      unfold depAt at q2
      rw [hrd i] at q2
      obtain ⟨c1, c2⟩ := h3.2.2.2 pc q0 q1 q2
      exact ⟨h4.1, h4.2.1, by unfold depAt; rw [hrd i]; exact c1, h4.2.2.1, h4.2.2.2.2, fun t ht => by
        unfold depAt
        rw [hrd i]
        exact c2 t ht⟩
  · exact ⟨[], fun h => absurd h p, fun h => absurd h p⟩
end
end Go.Proofs.Ytakdckaplmoklaa.Ev
end
