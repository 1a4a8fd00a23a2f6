/- A part of the proof of TraceDeepSaid (Lw Kn Tr Tg); laid together by merge2.py. -/
import Derived.Test.YtakdckaplmoklaaZP16
import Derived.Test.YtakdckaplmoklaaZH
import Derived.Outline
import Derived.BigQuiet
section
namespace Go.Proofs.Ytakdckaplmoklaa.Ev
open Go.RowKit Go.Proofs.YtakdckaplmoklaaW.PrintWords Go.Proofs.YtakdckaplmoklaaW.PrintLast Go.Proofs.YtakdckaplmoklaaW.PrintMore Go.Proofs.Ytakdckaplmoklaa.PTraceDeep
set_option linter.unusedVariables false
set_option linter.unusedSimpArgs false
theorem blk_cells {w : World} {g : Nat} {t : TypeId} {cs : Array Value} (h : w.heap[g]? = some (.cells cs t (0, 0))) : (∀ j, w.cell? ⟨g, j, none⟩ = cs[j]?) ∧ (∀ j, w.frozen? ⟨g, j, none⟩ = false) := ⟨fun j => blk_cell h j, fun j => blk_frozen h j⟩
theorem sz3 : (Try.prog.info? 3).map (·.size) = some 1 := by kernel_rfl
theorem sz4 : (Try.prog.info? 4).map (·.size) = some 1 := by kernel_rfl
theorem sz23 : (Try.prog.info? 23).map (·.size) = some 1 := by kernel_rfl
theorem sz28 : (Try.prog.info? 28).map (·.size) = some 1 := by kernel_rfl
theorem sz35 : (Try.prog.info? 35).map (·.size) = some 2 := by kernel_rfl
theorem sz37 : (Try.prog.info? 37).map (·.size) = some 8 := by kernel_rfl
theorem sz39 : (Try.prog.info? 39).map (·.size) = some 3 := by kernel_rfl
theorem sz72 : (Try.prog.info? 72).map (·.size) = some 1 := by kernel_rfl
theorem sz78 : (Try.prog.info? 78).map (·.size) = some 7 := by kernel_rfl
theorem sz83 : (Try.prog.info? 83).map (·.size) = some 7 := by kernel_rfl
theorem sz102 : (Try.prog.info? 102).map (·.size) = some 2 := by kernel_rfl
theorem sz50 : (Try.prog.info? 50).map (·.size) = some 4 := by kernel_rfl
def Row (W : World) (base : Nat) (v : Value) (xs : List Int) : Prop := W.ownsRow base 3 1 v xs.length (nums .i64 xs)
section
variable {ops : Array Oper} {rest : List Oper} {o : Oper} {a : Act} {Q : Exit → Act → World → Prop} {W : World}
theorem app_law (base : Nat) (N : Tmp) (hd : o.dst = some N) (hgd : o.guard = none) (s x : Operand)
    (ho : o.op = .call { callee := .builtin .append, args := #[s, x], argTypes := #[23, 23] }) (v : Value) (xs ys : List Int) (A : Option Addr) (m c : Nat) (hs : a.eval s = v) (hx : a.eval x = .slice A m c)
    (HO : Row W base v xs) (HR : ReadsInt W .i64 A m ys) (hbase : base ≤ W.heap.size) (hl : xs.length + m ≤ 1000000)
    (h : ∀ A1 c1 zs w1, Aside0 (zs = xs ++ ys) → Row w1 base (.slice A1 zs.length c1) zs → W.grownBy w1 v.ownBlock → ((Value.slice A1 zs.length c1).ownBlock = v.ownBlock ∨ ∃ b, (Value.slice A1 zs.length c1).ownBlock = some b ∧ W.heap.size ≤ b) → wpList Try.prog ops Q rest (a.put (some N) (.slice A1 zs.length c1)) w1) :
    wpList Try.prog ops Q (o :: rest) a W := by
  refine print_append_row (w0 := W) base hgd s x 23 3 .i64 8 ho Try.underlying23 info3 (by decide) v xs ys A m c hs hx HO HR (Below.refl _ _) hbase (by omega) ?_
  intro v1 w1 hown _ hg hat
  obtain ⟨A1, c1, rfl⟩ := own_slice hown
  rw [hd]
  exact h A1 c1 _ w1 ⟨rfl⟩ hown hg hat
theorem st_law (g j : Nat) (hgd : o.guard = none) (t : TypeId) (p x : Operand) (ho : o.op = .store t p x) (hN : o.dst = none) (cs cs' : Array Value) (tt : TypeId) (u : Value) (seg : List Value)
    (haddr : a.eval p = .pointer (some ⟨g, j, none⟩)) (hx : a.eval x = u) (hu : u.cells.toList = seg) (ht : (Try.prog.info? t).map (·.size) = some seg.length) (h1 : ∀ q ∈ seg, q.oneCell' = true)
    (hb : W.heap[g]? = some (.cells cs tt (0, 0))) (hfit : j + seg.length ≤ cs.size) (hcs : cs'.toList = cs.toList.take j ++ seg ++ cs.toList.drop (j + seg.length))
    (h : ∀ w1, w1.heap[g]? = some (.cells cs' tt (0, 0)) → W.grownBy w1 (some g) → w1.heap.size = W.heap.size → wpList Try.prog ops Q rest a w1) :
    wpList Try.prog ops Q (o :: rest) a W := by
  obtain ⟨cur', k1, k2, k3⟩ := setCells_row seg j W cs hb hfit
  obtain rfl : cs' = cur' := Array.ext' (by rw [hcs, k3])
  obtain ⟨s1, s2, s3, s4⟩ := setCells_same g seg j W
  refine wpList_plain hgd fun K hK => ?_
  have hrun := run_store_run (P := Try.prog) t u seg hb hu ht hfit h1
  unfold Oper.wp execOp
  simp only [ho, haddr, hx, Sem.run_bind, Sem.run_pure, Result.andThen_ok, hrun]
  show K (a.put o.dst undef) _
  rw [hN]
  exact hK _ _ (h _ k1 ⟨s1, s2, s3, Nat.le_of_eq s4.symm, fun k _ hk => setCells_far seg j k (fun e => hk (by rw [e]))⟩ s4)
theorem new_law (N : Tmp) (hd : o.dst = some N) (hgd : o.guard = none) (cs : Array Value) (t : TypeId)
    (hrun : (execOp a.eval o).run Try.prog W = .ok (.value (.pointer (some ⟨W.heap.size, 0, none⟩))) (W.alloc (.cells cs t (0, 0))))
    (h : ∀ g, g = W.heap.size → ∀ w1, w1.heap[g]? = some (.cells cs t (0, 0)) → W.grownBy w1 none → wpList Try.prog ops Q rest (a.put (some N) (.pointer (some ⟨g, 0, none⟩))) w1) : wpList Try.prog ops Q (o :: rest) a W := by
  refine Kd.event_run hgd hrun ?_
  rw [hd]
  exact h _ rfl _ (blk_new W _) (World.grownBy_alloc W _ none)
theorem one_law (base : Nat) (N : Tmp) (hd : o.dst = some N) (hgd : o.guard = none) (x : Int) (hbase : base ≤ W.heap.size)
    (hrun : (execOp a.eval o).run Try.prog W = .ok (.value (.slice (some ⟨W.heap.size, 0, none⟩) 1 1)) (W.alloc (.cells #[.int .i64 x] 3 (0, 0))))
    (h : ∀ A c w1, Row w1 base (.slice A [x].length c) [x] → W.grownBy w1 none → (∃ b, (Value.slice A [x].length c).ownBlock = some b ∧ W.heap.size ≤ b) → wpList Try.prog ops Q rest (a.put (some N) (.slice A [x].length c)) w1) : wpList Try.prog ops Q (o :: rest) a W := by
  refine Kd.event_run hgd hrun ?_
  rw [hd]
  refine h (some ⟨W.heap.size, 0, none⟩) 1 _ ?_ (World.grownBy_alloc W _ none) ⟨W.heap.size, rfl, Nat.le_refl _⟩
  exact ⟨rfl, .inr ⟨W.heap.size, 1, #[.int .i64 x], rfl, hbase, blk_new W _, Nat.le_refl _, by decide, rfl, rfl⟩⟩
end
theorem row_grown {W W' : World} {base : Nat} {v : Value} {xs : List Int} {r : Option Nat} (h : Row W base v xs) (hg : W.grownBy W' r) (hne : v.ownBlock = none ∨ v.ownBlock ≠ r) : Row W' base v xs := own_other h hg hne
theorem row_none {W W' : World} {base : Nat} {v : Value} {xs : List Int} (h : Row W base v xs) (hg : W.grownBy W' none) : Row W' base v xs := own_other h hg (by cases v.ownBlock <;> simp)
theorem row_reads {W : World} {base c : Nat} {A : Option Addr} {xs : List Int} (h : Row W base (.slice A xs.length c) xs) : ReadsInt W .i64 A xs.length xs := own_reads' h
theorem row_nil (W : World) (base : Nat) : Row W base (.slice none 0 0) [] := own_nil _ _ _ _
theorem row_blk {W : World} {base : Nat} {v : Value} {xs : List Int} (h : Row W base v xs) {g : Nat} {cs : Array Value} {t : TypeId} (hb : W.heap[g]? = some (.cells cs t (0, 0))) (ht : (3 : TypeId) ≠ t) : v.ownBlock = none ∨ v.ownBlock ≠ some g := by
  cases hv : v.ownBlock with
  | none => exact .inl rfl
  | some k =>
    refine .inr fun e => ?_
    injection e with e
    subst e
    obtain ⟨cells, hc⟩ := own_typed h k hv
    rw [hb] at hc
    injection hc with h1
    injection h1 with _ h2
    exact ht h2.symm
theorem row_base {W : World} {base : Nat} {v : Value} {xs : List Int} (h : Row W base v xs) (k : Nat) (hk : v.ownBlock = some k) : base ≤ k := own_base h k hk
theorem row_lt {W : World} {base : Nat} {v : Value} {xs : List Int} (h : Row W base v xs) (k : Nat) (hk : v.ownBlock = some k) : k < W.heap.size := own_lt h k hk
theorem row_low {W : World} {b base : Nat} {v : Value} {xs : List Int} (h : Row W b v xs) (hb : base ≤ b) : Row W base v xs := own_less h hb
theorem row_new {W : World} {base : Nat} {v : Value} {xs : List Int} (h : Row W base v xs) {u : Value} (hu : u.ownBlock = none ∨ ∃ b, u.ownBlock = some b ∧ W.heap.size ≤ b) : v.ownBlock = none ∨ v.ownBlock ≠ u.ownBlock := by
  cases hv : v.ownBlock with
  | none => exact .inl rfl
  | some k =>
    refine .inr fun e => ?_
    have := row_lt h k hv
    rcases hu with hu | ⟨b, hu, hb⟩
    · rw [hu] at e; cases e
    · rw [hu] at e; injection e with e; omega
theorem below_grown0 {base : Nat} {w0 W W' : World} (h : Below base w0 W) (hbase : base ≤ W.heap.size) {r : Option Nat} (hg : W.grownBy W' r) (hr : ∀ k, r = some k → base ≤ k) : Below base w0 W' := h.grown hg hbase hr
def Ap (u v : Value) : Prop := ∀ k, u.ownBlock = some k → v.ownBlock ≠ some k
theorem Ap.symm {u v : Value} (h : Ap u v) : Ap v u := fun k hk he => h k he hk
theorem Ap.ne {u v : Value} (h : Ap u v) : u.ownBlock = none ∨ u.ownBlock ≠ v.ownBlock := by
  cases hu : u.ownBlock with
  | none => exact .inl rfl
  | some k => exact .inr fun e => h k hu e.symm
theorem Ap.of {u v : Value} (h : u.ownBlock = none ∨ u.ownBlock ≠ v.ownBlock) : Ap u v := fun k hk he => by
  rcases h with h | h
  · rw [h] at hk; cases hk
  · exact h (hk.trans he.symm)
theorem Ap.nil (v : Value) (n c : Nat) : Ap (.slice none n c) v := fun k hk => by simp [Value.ownBlock] at hk
theorem Ap.app {W : World} {base : Nat} {u v v1 : Value} {xs : List Int} (h : Ap u v) (hu : Row W base u xs) (hat : v1.ownBlock = v.ownBlock ∨ ∃ b, v1.ownBlock = some b ∧ W.heap.size ≤ b) : Ap u v1 := fun k hk he => by
  rcases hat with hat | ⟨b, hat, hb⟩
  · exact h k hk (hat ▸ he)
  · have := row_lt hu k hk
    rw [hat] at he; injection he with he; omega
theorem Ap.new {W : World} {base : Nat} {u v : Value} {xs : List Int} (hu : Row W base u xs) (hv : v.ownBlock = none ∨ ∃ b, v.ownBlock = some b ∧ W.heap.size ≤ b) : Ap u v := Ap.of (row_new hu hv)
theorem blk_row {W W' : World} {base g : Nat} {v : Value} {xs : List Int} {cs : Array Value} {t : TypeId} {fz : Nat × Nat} (hb : W.heap[g]? = some (.cells cs t fz)) (hr : Row W base v xs) (ht : t ≠ 3) (hg : W.grownBy W' v.ownBlock) : W'.heap[g]? = some (.cells cs t fz) := by
  refine (hg.block g (blk_lt hb) ?_).trans hb
  intro e
  obtain ⟨cells, hc⟩ := own_typed hr g e.symm
  rw [hb] at hc
  injection hc with h1
  injection h1 with _ h2
  exact ht h2
structure FrS (base g : Nat) (w w' : World) : Prop where
  os : w'.os = w.os
  tape : w'.tape = w.tape
  output : w'.output = w.output
  size : w.heap.size ≤ w'.heap.size
  block : ∀ k, k < w.heap.size → k ≠ g → (base ≤ k → ∀ cs fz, w.heap[k]? ≠ some (.cells cs 3 fz)) → w'.heap[k]? = w.heap[k]?
theorem FrS.refl (base g : Nat) (w : World) : FrS base g w w := ⟨rfl, rfl, rfl, Nat.le_refl _, fun _ _ _ _ => rfl⟩
theorem FrS.trans {base g : Nat} {a b c : World} (h : FrS base g a b) (k : FrS base g b c) : FrS base g a c :=
  ⟨k.os.trans h.os, k.tape.trans h.tape, k.output.trans h.output, Nat.le_trans h.size k.size, fun i hi hg hn => by
    have e := h.block i hi hg hn
    exact (k.block i (Nat.lt_of_lt_of_le hi h.size) hg (fun hb cs fz hc => hn hb cs fz (e ▸ hc))).trans e⟩
theorem FrS.of_none {base g : Nat} {w w' : World} (h : w.grownBy w' none) : FrS base g w w' := ⟨h.os, h.tape, h.output, h.size, fun k hk _ _ => h.block k hk (by simp)⟩
theorem FrS.of_blk {base g : Nat} {w w' : World} (h : w.grownBy w' (some g)) : FrS base g w w' := ⟨h.os, h.tape, h.output, h.size, fun k hk hg _ => h.block k hk (fun e => hg (Option.some.inj e))⟩
theorem FrS.new {base g : Nat} {w0 w w' : World} (h0 : FrS base g w0 w) {g' : Nat} (h : w.grownBy w' (some g')) (hg : w0.heap.size ≤ g') : FrS base g w0 w' :=
  ⟨h.os.trans h0.os, h.tape.trans h0.tape, h.output.trans h0.output, Nat.le_trans h0.size h.size, fun k hk hkg hn => (h.block k (Nat.lt_of_lt_of_le hk h0.size) (fun e => by injection e with e; omega)).trans (h0.block k hk hkg hn)⟩
theorem FrS.of_row {base g : Nat} {w w' : World} {v : Value} {xs : List Int} (h : w.grownBy w' v.ownBlock) (hr : Row w base v xs) : FrS base g w w' := ⟨h.os, h.tape, h.output, h.size, fun k hk _ hn => h.block k hk (fun e => by
  obtain ⟨cells, hc⟩ := own_typed hr k e.symm
  exact hn (row_base hr k e.symm) _ _ hc)⟩
theorem FrS.below {base g : Nat} {w0 w w' : World} (h : FrS base g w w') (hb : Below base w0 w) (hbase : base ≤ w.heap.size) (hg : base ≤ g) : Below base w0 w' :=
  hb.trans ⟨h.os, h.tape, h.output, h.size, fun k hk => h.block k (Nat.lt_of_lt_of_le hk hbase) (by omega) (fun hbk => by omega)⟩
theorem FrS.blk {base g : Nat} {w w' : World} (h : FrS base g w w') {k : Nat} {cs : Array Value} {t : TypeId} {fz : Nat × Nat} (hb : w.heap[k]? = some (.cells cs t fz)) (hk : k ≠ g) (ht : t ≠ 3) : w'.heap[k]? = some (.cells cs t fz) :=
  (h.block k (blk_lt hb) hk (fun _ cs' fz' hc => by rw [hb] at hc; injection hc with h1; injection h1 with _ h2; exact ht h2)).trans hb
theorem row_of_R0 {W : World} {base : Nat} {ok : Nat → Prop} {v : Value} (h : (Kd.int .i64).R 3 W base ok v []) : ∃ A c, v = .slice A 0 c ∧ Row W base (.slice A 0 c) [] := by
  obtain ⟨inner, ho⟩ := Kd.R_own h
  obtain ⟨h1, h2⟩ := ho
  have e : inner = nums .i64 [] := by simpa [nums] using h1
  subst e
  rcases h2 with ⟨rfl, _⟩ | ⟨g, cap, cur, rfl, k⟩
  · exact ⟨none, 0, rfl, row_nil _ _⟩
  · exact ⟨_, cap, rfl, h1, .inr ⟨g, cap, cur, rfl, k⟩⟩
theorem row_take {W : World} {base c : Nat} {A : Option Addr} {xs : List Int} (h : Row W base (.slice A xs.length c) xs) {m : Nat} (hm : m ≤ xs.length) : Row W base (.slice A (xs.take m).length c) (xs.take m) := by
  have hl : (xs.take m).length = m := by simp; omega
  obtain ⟨h1, h2⟩ := h
  refine ⟨by simp [nums], ?_⟩
  rcases h2 with ⟨h2, h3⟩ | ⟨g, cap, cur, h2, h3, h4, h5, h6, h7, h8⟩
  · injection h2 with e1 e2 e3
    subst e1 e3
    have : m = 0 := by omega
    subst this
    exact .inl ⟨by simp, by simp⟩
  · injection h2 with e1 e2 e3
    subst e1 e3
    refine .inr ⟨g, c, cur, rfl, h3, h4, by omega, h6, h7, ?_⟩
    rw [hl]
    have := congrArg (List.take m) h8
    rw [List.take_take] at this
    simp only [Nat.mul_one] at this ⊢
    rw [Nat.min_eq_left hm] at this
    rw [this]
    simp [nums, List.map_take]
theorem row_cap {W : World} {base c : Nat} {A : Option Addr} {xs : List Int} (h : Row W base (.slice A xs.length c) xs) : xs.length ≤ c := by
  rcases h.2 with ⟨h2, h3⟩ | ⟨g, cap, cur, h2, h3, h4, h5, h6, h7, h8⟩
  · omega
  · injection h2 with e1 e2 e3
    omega
theorem Ap.take {u : Value} {A : Option Addr} {n c m k : Nat} (h : Ap u (.slice A n c)) : Ap u (.slice A m k) := fun q hq he => by
  refine h q hq ?_
  cases A with
  | none => simp [Value.ownBlock] at he
  | some a => simpa [Value.ownBlock] using he
theorem grown_drewN (w : World) (n : Nat) (r : Option Nat) : w.grownBy (w.drewN n) r := grown_of_below (pw_below_drewN (Below.refl _ w) n) r
theorem grown_drew (w : World) (r : Option Nat) : w.grownBy w.drew r := grown_of_below (below_drew (Below.refl _ w)) r
theorem cut3 (A : Option Addr) (c : Nat) (xs : List Int) (j : Int) (h0 : 0 ≤ j) (hm : j ≤ xs.length) (hc : xs.length ≤ c) :
    ∃ (A' : Option Addr) (c' : Nat) (bk : List Int), bk = xs.drop j.toNat ∧ (bk.length : Int) = xs.length - j ∧ (∀ W : World, (Instr.slice 23 (.slice A xs.length c) (some (.int .i64 j)) none none).run Try.prog W = .ok (.slice A' bk.length c') W) ∧
      (∀ w : World, ReadsInt w .i64 A xs.length xs → ReadsInt w .i64 A' bk.length bk) := by
  obtain ⟨i, hi, hs⟩ := Option.map_eq_some_iff.1 sz3
  obtain ⟨A', h1, h2, _⟩ := print_cut_int (P := Try.prog) (k := .i64) 23 3 Try.underlying23 hi hs A c xs j h0 hm hc
  exact ⟨A', _, _, rfl, by rw [List.length_drop]; omega, h1, h2⟩
theorem take3 (A : Option Addr) (c : Nat) (xs : List Int) (j : Int) (h0 : 0 ≤ j) (hm : j ≤ xs.length) (hc : xs.length ≤ c) :
    ∃ tk : List Int, tk = xs.take j.toNat ∧ (tk.length : Int) = j ∧ (∀ W : World, (Instr.slice 23 (.slice A xs.length c) none (some (.int .i64 j)) none).run Try.prog W = .ok (.slice A tk.length c) W) ∧
      (∀ (w : World) (base : Nat), Row w base (.slice A xs.length c) xs → Row w base (.slice A tk.length c) tk) := by
  obtain ⟨i, hi, hs⟩ := Option.map_eq_some_iff.1 sz3
  exact ⟨_, rfl, by rw [List.length_take]; omega, (print_take_int (P := Try.prog) (k := .i64) 23 3 Try.underlying23 hi hs A c xs j h0 hm hc).1, fun w base h => row_take h (by omega)⟩
def StM (W : World) (base g : Nat) (f pc fuel : Int) (st lo : List Int) (kids : Int) (wt : Bool) : Prop :=
  ∃ A1 c1 A2 c2, W.heap[g]? = some (.cells #[.int .i64 f, .int .i64 pc, .int .i64 fuel, .slice A1 st.length c1, .slice A2 lo.length c2, .int .i64 kids, .bool wt] 78 (0, 0)) ∧
    Row W base (.slice A1 st.length c1) st ∧ Row W base (.slice A2 lo.length c2) lo ∧ Ap (.slice A1 st.length c1) (.slice A2 lo.length c2) ∧ base ≤ g
end Go.Proofs.Ytakdckaplmoklaa.Ev
end
section
namespace Go.Proofs.Ytakdckaplmoklaa.Ev
open Go.RowKit Go.Proofs.YtakdckaplmoklaaW.PrintWords Go.Proofs.YtakdckaplmoklaaW.PrintLast Go.Proofs.YtakdckaplmoklaaW.PrintMore Go.Proofs.Ytakdckaplmoklaa.PTraceDeep
set_option linter.unusedVariables false
structure Kn (W : World) (kb : Nat) (fs : List S50) (D : List (List Int)) (main fuel tasks : Int) (args : List Int) : Prop where
  out : ∃ AF cF AA cA AD cD, W.heap[kb]? = some (.cells #[.slice AF fs.length cF, .int .i64 main, .slice AA args.length cA, .int .i64 fuel, .int .i64 tasks, .slice AD D.length cD] 74 (0, 0)) ∧
    fs.length ≤ cF ∧ Kd.C k50 W AF fs.length fs ∧ args.length ≤ cA ∧ Kd.C (Kd.int .i64) W AA args.length args ∧ D.length ≤ cD ∧ Kd.C (Kd.slice 3 (Kd.int .i64)) W AD D.length D
theorem Kn.below {W W' : World} {kb : Nat} {fs : List S50} {D : List (List Int)} {main fuel tasks : Int} {args : List Int} (h : Kn W kb fs D main fuel tasks args) (hb : Below W.heap.size W W') : Kn W' kb fs D main fuel tasks args := by
  obtain ⟨AF, cF, AA, cA, AD, cD, h1, h2, h3, h4, h5, h6, h7⟩ := h.out
  exact ⟨AF, cF, AA, cA, AD, cD, blk_below h1 hb, h2, Kd.C_below h3 hb, h4, Kd.C_below h5 hb, h6, Kd.C_below h7 hb⟩
def EvV (kind f kid steps : Int) (A : Option Addr) (n c : Nat) (er v : Int) : Value := .agg #[.int .i64 kind, .int .i64 f, .int .i64 kid, .int .i64 steps, .slice A n c, .int .i64 er, .int .i64 v]
def insAt (fs : List S50) (f pc : Int) : S102 := rd_T102 (rd_T50 fs f).f3 pc
def depAt (D : List (List Int)) (f pc : Int) : Int := rd (rd_L7 D f) pc
def popsOf (fs : List S50) (op N : Int) : Int := if op = 2 ∨ op = 3 ∨ op = 6 ∨ op = 15 ∨ op = 17 ∨ op = 18 ∨ op = 19 then 1 else if op = 4 ∨ (7 ≤ op ∧ op ≤ 13) then 2 else if op = 16 then (rd_T50 fs N).f1 else 0
def pushOf (op : Int) : Int := if op = 1 ∨ op = 5 ∨ (7 ≤ op ∧ op ≤ 13) ∨ op = 16 ∨ op = 17 then 1 else if op = 3 ∨ op = 4 then 2 else 0
def nextOf (op N k : Int) : List Int := if op = 14 then [N] else if op = 15 then [k + 1, N] else if op ≤ 17 then [k + 1] else []
structure InsOk (fs : List S50) (D : List (List Int)) (f pc : Int) : Prop where
  op1 : 1 ≤ (insAt fs f pc).f0
  op2 : (insAt fs f pc).f0 ≤ 19
  pops : popsOf fs (insAt fs f pc).f0 (insAt fs f pc).f1 ≤ depAt D f pc
  loc : (insAt fs f pc).f0 = 5 ∨ (insAt fs f pc).f0 = 6 → 0 ≤ (insAt fs f pc).f1 ∧ (insAt fs f pc).f1 < (rd_T50 fs f).f2
  sp : (insAt fs f pc).f0 = 16 → 0 ≤ (insAt fs f pc).f1 ∧ (insAt fs f pc).f1 < fs.length
  nxt : ∀ p ∈ nextOf (insAt fs f pc).f0 (insAt fs f pc).f1 pc, 0 ≤ p ∧ p < (rd_T50 fs f).f3.length ∧ depAt D f p = depAt D f pc - popsOf fs (insAt fs f pc).f0 (insAt fs f pc).f1 + pushOf (insAt fs f pc).f0
structure KG (fs : List S50) (D : List (List Int)) : Prop where
  len : D.length = fs.length
  size : fs.length ≤ 32
  row : ∀ f : Int, 0 ≤ f → f < fs.length → (rd_L7 D f).length = (rd_T50 fs f).f3.length ∧ (rd_T50 fs f).f3.length ≤ 256 ∧ 0 ≤ (rd_T50 fs f).f1 ∧ (rd_T50 fs f).f1 ≤ (rd_T50 fs f).f2 ∧ (rd_T50 fs f).f2 ≤ 16
  start : ∀ f : Int, 0 ≤ f → f < fs.length → 1 ≤ (rd_T50 fs f).f3.length ∧ depAt D f 0 = 0
  high : ∀ f pc : Int, 0 ≤ f → f < fs.length → 0 ≤ pc → pc < (rd_T50 fs f).f3.length → depAt D f pc ≤ 32
  ins : ∀ f pc : Int, 0 ≤ f → f < fs.length → 0 ≤ pc → pc < (rd_T50 fs f).f3.length → 0 ≤ depAt D f pc → InsOk fs D f pc
theorem KG.top {fs : List S50} {D : List (List Int)} (h : KG fs D) (f pc : Int) (h1 : 0 ≤ f) (h2 : f < fs.length) (h3 : 0 ≤ pc) (h4 : pc < (rd_T50 fs f).f3.length) (h5 : 0 ≤ depAt D f pc) (h6 : (insAt fs f pc).f0 = 17) : 1 ≤ depAt D f pc := by
  have := (h.ins f pc h1 h2 h3 h4 h5).pops
  rw [h6] at this
  simpa [popsOf] using this
theorem InsOk.next {fs : List S50} {D : List (List Int)} {f pc op N : Int} (h : InsOk fs D f pc) (e : op = (insAt fs f pc).f0 ∧ N = (insAt fs f pc).f1) (p : Int) (hp : p ∈ nextOf op N pc) (a b : Int) (ha : popsOf fs op N = a) (hb : pushOf op = b) : 0 ≤ p ∧ p < (rd_T50 fs f).f3.length ∧ depAt D f p = depAt D f pc - a + b := by
  rw [e.1, e.2] at hp ha
  rw [e.1] at hb
  rw [← ha, ← hb]
  exact h.nxt p hp
theorem InsOk.pop {fs : List S50} {D : List (List Int)} {f pc op N : Int} (h : InsOk fs D f pc) (e : op = (insAt fs f pc).f0 ∧ N = (insAt fs f pc).f1) (a : Int) (ha : popsOf fs op N = a) : a ≤ depAt D f pc := by
  rw [e.1, e.2] at ha
  rw [← ha]
  exact h.pops
structure Gd (fs : List S50) (D : List (List Int)) (func pc : Int) (st lo : List Int) : Prop where
  pc0 : 0 ≤ pc
  pc1 : pc < (rd_T50 fs func).f3.length
  dep : 0 ≤ depAt D func pc
  st : (st.length : Int) = depAt D func pc
  lo : (lo.length : Int) = (rd_T50 fs func).f2
def mayB (fs : List S50) (D : List (List Int)) (jfuel : Int) (func pc fuel : Int) (st lo : List Int) (kids : Int) (waits : Bool) : Bool :=
  decide (0 ≤ func ∧ func < fs.length) && decide (0 ≤ pc ∧ pc < (rd_T50 fs func).f3.length) && decide (0 ≤ depAt D func pc ∧ (st.length : Int) = depAt D func pc ∧ (lo.length : Int) = (rd_T50 fs func).f2) &&
  decide (0 ≤ kids ∧ kids ≤ 16 ∧ 0 ≤ fuel ∧ fuel ≤ jfuel) && (!waits || (decide ((insAt fs func pc).f0 = 17) && decide (0 ≤ rd st (st.length - 1) ∧ rd st (st.length - 1) < kids)))
def StepR (fs : List S50) (D : List (List Int)) (func pc : Int) (st lo : List Int) (kids : Int) (wt : Bool) (deep kind ef ek : Int) (ar : List Int) (b : Bool) (pc' : Int) (st' lo' : List Int) (kids' : Int) (wt' : Bool) : Prop :=
  (b = false ∧ Gd fs D func pc' st' lo' ∧ kids' = kids ∧ wt' = wt) ∨
  (b = true ∧ kind = 1 ∧ deep < 12 ∧ kids < 16 ∧ 0 ≤ ef ∧ ef < fs.length ∧ ek = kids ∧ (ar.length : Int) = (rd_T50 fs ef).f1 ∧ Gd fs D func pc' st' lo' ∧ kids' = kids + 1 ∧ wt' = wt) ∨
  (b = true ∧ kind = 2 ∧ (insAt fs func pc).f0 = 17 ∧ 0 ≤ ek ∧ ek < kids ∧ ek = rd st (st.length - 1) ∧ pc' = pc ∧ st' = st ∧ lo' = lo ∧ kids' = kids ∧ wt' = true) ∨
  (b = true ∧ kind = 3)
end Go.Proofs.Ytakdckaplmoklaa.Ev
end
section
namespace Go.Proofs.Ytakdckaplmoklaa.Ev
open Go.Proofs.YtakdckaplmoklaaHt Go.Sort
open Go.RowKit Go.Proofs.YtakdckaplmoklaaW.PrintWords Go.Proofs.YtakdckaplmoklaaW.PrintLast Go.Proofs.YtakdckaplmoklaaW.PrintMore Go.Proofs.Ytakdckaplmoklaa.PTraceDeep
set_option linter.unusedVariables false
set_option linter.unusedSimpArgs false
def CellsOf (W : World) : List (Nat × Array Value × TypeId) → Prop
  | [] => True
  | (g, cs, _) :: bs => ((∀ j, W.cell? ⟨g, j, none⟩ = cs[j]?) ∧ (∀ j, W.frozen? ⟨g, j, none⟩ = false)) ∧ CellsOf W bs
def GrOf (W : World) : List (Nat × Array Value × TypeId) → Prop
  | [] => True
  | (g, cs, _) :: bs => (∀ (n : Nat) (os : Array Obj) (j : Nat), (grow (W.drewN n) os).cell? ⟨g, j, none⟩ = cs[j]?) ∧ GrOf W bs
structure Tr (ws : World) (M : Nat → Prop) (bs : List (Nat × Array Value × TypeId)) (rs : List (Value × List Int)) (W : World) : Prop where
  os : W.os = ws.os
  tape : W.tape = ws.tape
  output : W.output = ws.output
  size : ws.heap.size ≤ W.heap.size
  frame : ∀ k, k < ws.heap.size → ¬ M k → W.heap[k]? = ws.heap[k]?
  blk : ∀ b ∈ bs, W.heap[b.1]? = some (.cells b.2.1 b.2.2 (0, 0)) ∧ b.2.2 ≠ 3 ∧ (M b.1 ∨ ws.heap.size ≤ b.1)
  dist : bs.Pairwise (fun x y => x.1 ≠ y.1)
  row : ∀ r ∈ rs, Row W 0 r.1 r.2 ∧ ∀ k, r.1.ownBlock = some k → M k ∨ ws.heap.size ≤ k
  ap : rs.Pairwise (fun x y => Ap x.1 y.1)
section
variable {ws W W' : World} {M : Nat → Prop} {bs : List (Nat × Array Value × TypeId)} {rs : List (Value × List Int)}
theorem Tr.start (ws : World) (M : Nat → Prop) : Tr ws M [] [] ws := ⟨rfl, rfl, rfl, Nat.le_refl _, fun _ _ _ => rfl, by simp, .nil, by simp, .nil⟩
theorem Tr.move (h : Tr ws M bs rs W) {r : Option Nat} (G : W.grownBy W' r) (hr : ∀ k, r = some k → M k ∨ ws.heap.size ≤ k) : Tr ws M [] [] W' :=
  ⟨G.os.trans h.os, G.tape.trans h.tape, G.output.trans h.output, Nat.le_trans h.size G.size, fun k hk hM => by
    rw [← h.frame k hk hM]
    refine G.block k (Nat.lt_of_lt_of_le hk h.size) fun e => ?_
    rcases hr k e.symm with h1 | h1
    · exact hM h1
    · omega, by simp, .nil, by simp, .nil⟩
theorem Tr.none (h : Tr ws M bs rs W) (G : W.grownBy W' none) : Tr ws M bs rs W' := by
  have k := h.move G (by simp)
  refine ⟨k.os, k.tape, k.output, k.size, k.frame, fun b hb => ?_, h.dist, fun r hr => ?_, h.ap⟩
  · obtain ⟨h1, h2⟩ := h.blk b hb
    exact ⟨blk_grown h1 G (by simp), h2⟩
  · obtain ⟨h1, h2⟩ := h.row r hr
    exact ⟨row_none h1 G, h2⟩
theorem Tr.call (h : Tr ws M bs rs W) (b : Below W.heap.size W W') : Tr ws M bs rs W' := h.none (grown_of_below b Option.none)
theorem Tr.drewN (h : Tr ws M bs rs W) (n : Nat) : Tr ws M bs rs (W.drewN n) := h.none (grown_drewN W n _)
theorem Tr.drew (h : Tr ws M bs rs W) : Tr ws M bs rs W.drew := h.none (grown_drew W _)
theorem Tr.dblk {b : Nat × Array Value × TypeId} (h : Tr ws M (b :: bs) rs W) : Tr ws M bs rs W :=
  ⟨h.os, h.tape, h.output, h.size, h.frame, fun c hc => h.blk c (.tail _ hc), (List.pairwise_cons.1 h.dist).2, h.row, h.ap⟩
theorem Tr.drow {r : Value × List Int} (h : Tr ws M bs (r :: rs) W) : Tr ws M bs rs W :=
  ⟨h.os, h.tape, h.output, h.size, h.frame, h.blk, h.dist, fun c hc => h.row c (.tail _ hc), (List.pairwise_cons.1 h.ap).2⟩
theorem Tr.ablk (h : Tr ws M bs rs W) {g : Nat} {cs : Array Value} {t : TypeId} (hb : W.heap[g]? = some (.cells cs t (0, 0))) (ht : t ≠ 3) (hM : M g ∨ ws.heap.size ≤ g) (hd : ∀ b ∈ bs, g ≠ b.1) : Tr ws M ((g, cs, t) :: bs) rs W :=
  ⟨h.os, h.tape, h.output, h.size, h.frame, fun c hc => by
    rcases List.mem_cons.1 hc with rfl | hc
    · exact ⟨hb, ht, hM⟩
    · exact h.blk c hc, List.pairwise_cons.2 ⟨hd, h.dist⟩, h.row, h.ap⟩
theorem Tr.arow (h : Tr ws M bs rs W) {v : Value} {xs : List Int} {base : Nat} (hr : Row W base v xs) (hM : ∀ k, v.ownBlock = some k → M k ∨ ws.heap.size ≤ k) (ha : ∀ r ∈ rs, Ap v r.1) : Tr ws M bs ((v, xs) :: rs) W :=
  ⟨h.os, h.tape, h.output, h.size, h.frame, h.blk, h.dist, fun c hc => by
    rcases List.mem_cons.1 hc with rfl | hc
    · exact ⟨row_low hr (Nat.zero_le _), hM⟩
    · exact h.row c hc, List.pairwise_cons.2 ⟨ha, h.ap⟩⟩
theorem Tr.nrow (h : Tr ws M bs rs W) (G : W.grownBy W' Option.none) {v : Value} {xs : List Int} {base : Nat} (hr : Row W' base v xs) (hn : v.ownBlock = Option.none ∨ ∃ b, v.ownBlock = some b ∧ W.heap.size ≤ b) : Tr ws M bs ((v, xs) :: rs) W' := by
  refine (h.none G).arow hr (fun k hk => .inr ?_) (fun r hr => Ap.symm (Ap.new (h.row r hr).1 hn))
  rcases hn with hn | ⟨b, hn, hb⟩
  · rw [hn] at hk; cases hk
  · rw [hn] at hk; injection hk with hk; have := h.size; omega
theorem Tr.rtake {v u : Value} {xs ys : List Int} (pre : List (Value × List Int)) {post : List (Value × List Int)} (h : Tr ws M bs (pre ++ (v, xs) :: post) W) (hr : Row W 0 u ys) (he : ∀ k, u.ownBlock = some k → v.ownBlock = some k) : Tr ws M bs (pre ++ (u, ys) :: post) W := by
  have hap := List.pairwise_append.1 h.ap
  have hap2 := List.pairwise_cons.1 hap.2.1
  refine ⟨h.os, h.tape, h.output, h.size, h.frame, h.blk, h.dist, fun c hc => ?_, ?_⟩
  · rcases List.mem_append.1 hc with hc | hc
    · exact h.row c (List.mem_append_left _ hc)
    · rcases List.mem_cons.1 hc with rfl | hc
      · exact ⟨hr, fun k hk => (h.row (v, xs) (List.mem_append_right _ (.head _))).2 k (he k hk)⟩
      · exact h.row c (List.mem_append_right _ (.tail _ hc))
  · refine List.pairwise_append.2 ⟨hap.1, List.pairwise_cons.2 ⟨fun c hc k hk => hap2.1 c hc k (he k hk), hap2.2⟩, fun a ha b hb => ?_⟩
    rcases List.mem_cons.1 hb with rfl | hb
    · exact fun k hk e => hap.2.2 a ha (v, xs) (.head _) k hk (he k e)
    · exact hap.2.2 a ha b (.tail _ hb)
theorem Tr.below (h : Tr ws M bs rs W) {base : Nat} (hM : ∀ k, M k → base ≤ k) (hb : base ≤ ws.heap.size) : Below base ws W :=
  ⟨h.os, h.tape, h.output, h.size, fun k hk => h.frame k (by omega) fun e => by have := hM k e; omega⟩
theorem Tr.fresh (h : Tr ws (fun _ => False) bs rs W) : Below ws.heap.size ws W := h.below (fun _ h => h.elim) (Nat.le_refl _)
theorem Tr.cells (h : Tr ws M bs rs W) : CellsOf W bs := by
  have hb := h.blk
  clear h
  induction bs with
  | nil => trivial
  | cons b bs ih =>
    obtain ⟨g, cs, t⟩ := b
    exact ⟨blk_cells (hb _ (.head _)).1, ih fun b hb' => hb b (.tail _ hb')⟩
theorem Tr.gr (h : Tr ws M bs rs W) : GrOf W bs := by
  have hb := h.blk
  clear h
  induction bs with
  | nil => trivial
  | cons b bs ih =>
    obtain ⟨g, cs, t⟩ := b
    exact ⟨blk_gr (hb _ (.head _)).1, ih fun b hb' => hb b (.tail _ hb')⟩
theorem Tr.put (pre : List (Nat × Array Value × TypeId)) {post : List (Nat × Array Value × TypeId)} {g : Nat} {cs cs' : Array Value} {t : TypeId} (h : Tr ws M (pre ++ (g, cs, t) :: post) rs W) (G : W.grownBy W' (some g)) (hb : W'.heap[g]? = some (.cells cs' t (0, 0))) : Tr ws M (pre ++ (g, cs', t) :: post) rs W' := by
  have hg := h.blk (g, cs, t) (List.mem_append_right _ (.head _))
  have k := h.move G (fun k e => by cases e; exact hg.2.2)
  have hd := List.pairwise_append.1 h.dist
  have hd2 := List.pairwise_cons.1 hd.2.1
  have keep : ∀ b, b ∈ pre ++ (g, cs, t) :: post → b.1 ≠ g → W'.heap[b.1]? = some (.cells b.2.1 b.2.2 (0, 0)) ∧ b.2.2 ≠ 3 ∧ (M b.1 ∨ ws.heap.size ≤ b.1) := fun b hb hn => by
    obtain ⟨h1, h2⟩ := h.blk b hb
    exact ⟨blk_grown h1 G (fun e => hn (Option.some.inj e)), h2⟩
  refine ⟨k.os, k.tape, k.output, k.size, k.frame, fun c hc => ?_, ?_, fun r hr => ?_, h.ap⟩
  · rcases List.mem_append.1 hc with hc | hc
    · exact keep c (List.mem_append_left _ hc) (hd.2.2 c hc (g, cs, t) (.head _))
    · rcases List.mem_cons.1 hc with rfl | hc
      · exact ⟨hb, hg.2⟩
      · exact keep c (List.mem_append_right _ (.tail _ hc)) (Ne.symm (hd2.1 c hc))
  · refine List.pairwise_append.2 ⟨hd.1, List.pairwise_cons.2 ⟨fun c hc => hd2.1 c hc, hd2.2⟩, fun a ha b hb => ?_⟩
    rcases List.mem_cons.1 hb with rfl | hb
    · exact hd.2.2 a ha (g, cs, t) (.head _)
    · exact hd.2.2 a ha b (.tail _ hb)
  · obtain ⟨h1, h2⟩ := h.row r hr
    exact ⟨row_grown h1 G (row_blk h1 hg.1 (Ne.symm hg.2.1)), h2⟩
theorem Tr.turn (pre : List (Value × List Int)) {post : List (Value × List Int)} {v u : Value} {xs ys : List Int} (h : Tr ws M bs (pre ++ (v, xs) :: post) W) (G : W.grownBy W' v.ownBlock) (hr : Row W' 0 u ys) (hat : u.ownBlock = v.ownBlock ∨ ∃ b, u.ownBlock = some b ∧ W.heap.size ≤ b) : Tr ws M bs (pre ++ (u, ys) :: post) W' := by
  have hv := h.row (v, xs) (List.mem_append_right _ (.head _))
  have k := h.move G hv.2
  have hap := List.pairwise_append.1 h.ap
  have hap2 := List.pairwise_cons.1 hap.2.1
  refine ⟨k.os, k.tape, k.output, k.size, k.frame, fun b hb => ?_, h.dist, fun c hc => ?_, ?_⟩
  · obtain ⟨h1, h2⟩ := h.blk b hb
    exact ⟨blk_row h1 hv.1 h2.1 G, h2⟩
  · rcases List.mem_append.1 hc with hc | hc
    · obtain ⟨h1, h2⟩ := h.row c (List.mem_append_left _ hc)
      exact ⟨row_grown h1 G (Ap.ne (hap.2.2 c hc (v, xs) (.head _))), h2⟩
    · rcases List.mem_cons.1 hc with rfl | hc
      · refine ⟨hr, fun k hk => ?_⟩
        rcases hat with hat | ⟨b, hat, hb⟩
        · exact hv.2 k (hat ▸ hk)
        · rw [hat] at hk; injection hk with hk; have := h.size; exact .inr (by omega)
      · obtain ⟨h1, h2⟩ := h.row c (List.mem_append_right _ (.tail _ hc))
        exact ⟨row_grown h1 G (Ap.ne (Ap.symm (hap2.1 c hc))), h2⟩
  · refine List.pairwise_append.2 ⟨hap.1, List.pairwise_cons.2 ⟨fun c hc => Ap.symm (Ap.app (Ap.symm (hap2.1 c hc)) (h.row c (List.mem_append_right _ (.tail _ hc))).1 hat), hap2.2⟩, fun a ha b hb => ?_⟩
    rcases List.mem_cons.1 hb with rfl | hb
    · exact Ap.app (hap.2.2 a ha (v, xs) (.head _)) (h.row a (List.mem_append_left _ ha)).1 hat
    · exact hap.2.2 a ha b (.tail _ hb)
variable {ops : Array Oper} {rest : List Oper} {o : Oper} {a : Act} {Q : Exit → Act → World → Prop}
theorem tr_new (N : Tmp) (hd : o.dst = some N) (hgd : o.guard = Option.none) (T : Aside0 (Tr ws M bs rs W)) (cs : Array Value) (t : TypeId) (ht : t ≠ 3)
    (hrun : (execOp a.eval o).run Try.prog W = .ok (.value (.pointer (some ⟨W.heap.size, 0, Option.none⟩))) (W.alloc (.cells cs t (0, 0))))
    (h : ∀ g w1, Aside0 (Tr ws M ((g, cs, t) :: bs) rs w1) → wpList Try.prog ops Q rest (a.put (some N) (.pointer (some ⟨g, 0, Option.none⟩))) w1) : wpList Try.prog ops Q (o :: rest) a W := by
  refine new_law N hd hgd cs t hrun fun g e w1 hb G => h g w1 ⟨?_⟩
  subst e
  exact (T.out.none G).ablk hb ht (.inr T.out.size) (fun b hb e => by have := blk_lt (T.out.blk b hb).1; omega)
theorem tr_st (pre : List (Nat × Array Value × TypeId)) {post : List (Nat × Array Value × TypeId)} {g : Nat} {cs : Array Value} {tt : TypeId} (T : Aside0 (Tr ws M (pre ++ (g, cs, tt) :: post) rs W)) (j : Nat) (hgd : o.guard = Option.none) (t : TypeId) {p x : Operand} (ho : o.op = .store t p x) (hN : o.dst = Option.none) (cs' : Array Value) (u : Value) (seg : List Value)
    (ht : (Try.prog.info? t).map (·.size) = some seg.length) (haddr : a.eval p = .pointer (some ⟨g, j, Option.none⟩)) (hx : a.eval x = u) (hu : u.cells.toList = seg) (h1 : seg.all (·.oneCell') = true)
    (hfit : j + seg.length ≤ cs.size) (hcs : cs'.toList = cs.toList.take j ++ seg ++ cs.toList.drop (j + seg.length))
    (h : ∀ w1, Aside0 (Tr ws M (pre ++ (g, cs', tt) :: post) rs w1) → wpList Try.prog ops Q rest a w1) : wpList Try.prog ops Q (o :: rest) a W :=
  st_law g j hgd t p x ho hN cs cs' tt u seg haddr hx hu ht (fun q hq => List.all_eq_true.1 h1 q hq) (T.out.blk (g, cs, tt) (List.mem_append_right _ (.head _))).1 hfit hcs fun w1 hb G _ => h w1 ⟨T.out.put pre G hb⟩
theorem tr_app (pre : List (Value × List Int)) {post : List (Value × List Int)} {v : Value} {xs : List Int} (T : Aside0 (Tr ws M bs (pre ++ (v, xs) :: post) W)) (N : Tmp) (hd : o.dst = some N) (hgd : o.guard = Option.none) {s x : Operand}
    (ho : o.op = .call { callee := .builtin .append, args := #[s, x], argTypes := #[23, 23] }) (ys : List Int) (A : Option Addr) (m c : Nat) (hs : a.eval s = v) (hx : a.eval x = .slice A m c)
    (HR : ReadsInt W .i64 A m ys) (hl : xs.length + m ≤ 1000000)
    (h : ∀ A1 c1 zs w1, Aside0 (zs = xs ++ ys) → Aside0 (Tr ws M bs (pre ++ (.slice A1 zs.length c1, zs) :: post) w1) → wpList Try.prog ops Q rest (a.put (some N) (.slice A1 zs.length c1)) w1) : wpList Try.prog ops Q (o :: rest) a W :=
  app_law 0 N hd hgd s x ho v xs ys A m c hs hx (T.out.row (v, xs) (List.mem_append_right _ (.head _))).1 HR (Nat.zero_le _) hl fun A1 c1 zs w1 e r G l => h A1 c1 zs w1 e ⟨T.out.turn pre G r l⟩
theorem tr_nil (T : Aside0 (Tr ws M bs rs W)) (N : Tmp) (hd : o.dst = some N) (hgd : o.guard = Option.none) {s x : Operand}
    (ho : o.op = .call { callee := .builtin .append, args := #[s, x], argTypes := #[23, 23] }) (ys : List Int) (A : Option Addr) (m c : Nat) (hs : a.eval s = .slice Option.none 0 0) (hx : a.eval x = .slice A m c)
    (HR : ReadsInt W .i64 A m ys) (hl : m ≤ 1000000)
    (h : ∀ A1 c1 w1, Aside0 (Tr ws M bs ((.slice A1 ys.length c1, ys) :: rs) w1) → wpList Try.prog ops Q rest (a.put (some N) (.slice A1 ys.length c1)) w1) : wpList Try.prog ops Q (o :: rest) a W :=
  app_law 0 N hd hgd s x ho _ [] ys A m c hs hx (row_nil _ _) HR (Nat.zero_le _) (by simpa using hl) fun A1 c1 zs w1 e r G l => by
    have e := e.out
    simp only [List.nil_append] at e
    subst e
    exact h A1 c1 w1 ⟨T.out.nrow G r (l.imp id id)⟩
theorem tr_one (T : Aside0 (Tr ws M bs rs W)) (N : Tmp) (hd : o.dst = some N) (hgd : o.guard = Option.none) (x : Int)
    (hrun : (execOp a.eval o).run Try.prog W = .ok (.value (.slice (some ⟨W.heap.size, 0, Option.none⟩) 1 1)) (W.alloc (.cells #[.int .i64 x] 3 (0, 0))))
    (h : ∀ A c w1, Aside0 (Tr ws M bs ((.slice A [x].length c, [x]) :: rs) w1) → wpList Try.prog ops Q rest (a.put (some N) (.slice A [x].length c)) w1) : wpList Try.prog ops Q (o :: rest) a W :=
  one_law 0 N hd hgd x (Nat.zero_le _) hrun fun A c w1 r G l => h A c w1 ⟨T.out.nrow G r (.inr l)⟩
theorem tr_put (pre : List (Value × List Int)) {post : List (Value × List Int)} {ad : Addr} {n c : Nat} {xs : List Int} (T : Aside0 (Tr ws M bs (pre ++ (.slice (some ad) n c, xs) :: post) W)) (hn : xs.length = n) (i : Nat) (hi : i < xs.length) (hgd : o.guard = Option.none) {p x : Operand} (ho : o.op = .store 3 p x) (hN : o.dst = Option.none) (u : Int)
    (haddr : a.eval p = .pointer (some (ad.add i))) (hx : a.eval x = .int .i64 u)
    (h : ∀ zs w1, Aside0 (zs = xs.set i u ∧ zs.length = n) → Aside0 (Tr ws M bs (pre ++ (.slice (some ad) n c, zs) :: post) w1) → wpList Try.prog ops Q rest a w1) : wpList Try.prog ops Q (o :: rest) a W := by
  subst hn
  have hv := (T.out.row _ (List.mem_append_right _ (.head _))).1
  obtain ⟨g, cap, cur, e, hb, hb2, hb3, hb4, hb5⟩ : ∃ g cap cur, Value.slice (some ad) xs.length c = .slice (some ⟨g, 0, Option.none⟩) xs.length cap ∧ 0 ≤ g ∧ W.heap[g]? = some (.cells cur 3 (0, 0)) ∧ xs.length ≤ cap ∧ cap ≤ maxLen ∧ cur.size = cap * 1 := by
    rcases hv.2 with h1 | h1
    · exact absurd h1.1 (by simp)
    · obtain ⟨g, h1⟩ := h1
      obtain ⟨cap, h1⟩ := h1
      obtain ⟨cur, h1⟩ := h1
      exact ⟨g, cap, cur, h1.1, h1.2.1, h1.2.2.1, h1.2.2.2.1, h1.2.2.2.2.1, h1.2.2.2.2.2.1⟩
  injection e with e1 e2 e3
  injection e1 with e1
  subst e1 e3
  have hi2 : i + 1 ≤ cur.size := by omega
  obtain ⟨k1, k2⟩ := own_store hv (i : Int) u
  refine wpList_plain hgd fun K hK => ?_
  rw [add_plain] at haddr
  have hrun := run_store_run (P := Try.prog) 3 (.int .i64 u) [.int .i64 u] hb2 rfl sz3 (o := i) hi2 (by simp [Value.oneCell'])
  unfold Oper.wp execOp
  simp only [ho, haddr, hx, Sem.run_bind, Sem.run_pure, Result.andThen_ok, hrun]
  show K (a.put o.dst undef) _
  rw [hN]
  refine hK _ _ (h _ _ ⟨rfl, List.length_set⟩ ⟨T.out.turn pre k2 ?_ (.inl rfl)⟩)
  show Row _ 0 _ _
  unfold Row
  rw [List.length_set]
  exact k1
end
def MS (g : Nat) (v u : Value) : Nat → Prop := fun k => k = g ∨ v.ownBlock = some k ∨ u.ownBlock = some k
theorem row_up {W : World} {base b : Nat} {v : Value} {xs : List Int} (h : Row W b v xs) (hb : ∀ k, v.ownBlock = some k → base ≤ k) : Row W base v xs := by
  refine ⟨h.1, ?_⟩
  rcases h.2 with h2 | ⟨g, cap, cur, h2, h3, h4⟩
  · exact .inl h2
  · exact .inr ⟨g, cap, cur, h2, hb g (by rw [h2]; rfl), h4⟩
theorem StM.tr {W : World} {base g : Nat} {f pc fuel : Int} {st lo : List Int} {kids : Int} {wt : Bool} (h : StM W base g f pc fuel st lo kids wt) :
    ∃ A1 c1 A2 c2, Tr W (MS g (.slice A1 st.length c1) (.slice A2 lo.length c2)) [(g, #[.int .i64 f, .int .i64 pc, .int .i64 fuel, .slice A1 st.length c1, .slice A2 lo.length c2, .int .i64 kids, .bool wt], 78)] [(.slice A1 st.length c1, st), (.slice A2 lo.length c2, lo)] W ∧
      Aside0 ((∀ k, MS g (.slice A1 st.length c1) (.slice A2 lo.length c2) k → base ≤ k) ∧ (∀ bs rs W', Tr W (MS g (.slice A1 st.length c1) (.slice A2 lo.length c2)) bs rs W' → FrS base g W W')) := by
  obtain ⟨A1, c1, A2, c2, h1, h2, h3, h4, h5⟩ := h
  have hM : ∀ k, MS g (.slice A1 st.length c1) (.slice A2 lo.length c2) k → base ≤ k := by
    rintro k (rfl | hk | hk)
    · exact h5
    · exact row_base h2 k hk
    · exact row_base h3 k hk
  refine ⟨A1, c1, A2, c2, ?_, ⟨hM, fun bs rs W' T => ⟨T.os, T.tape, T.output, T.size, fun k hk hkg hn => T.frame k hk ?_⟩⟩⟩
  · refine ⟨rfl, rfl, rfl, Nat.le_refl _, fun _ _ _ => rfl, ?_, ?_, ?_, ?_⟩
    · intro b hb
      obtain rfl : b = _ := by simpa using hb
      exact ⟨h1, (by decide : (78 : TypeId) ≠ 3), .inl (.inl rfl)⟩
    · exact List.pairwise_cons.2 ⟨by simp, .nil⟩
    · intro r hr
      rcases List.mem_cons.1 hr with rfl | hr
      · exact ⟨row_low h2 (Nat.zero_le _), fun k hk => .inl (.inr (.inl hk))⟩
      · obtain rfl : r = _ := by simpa using hr
        exact ⟨row_low h3 (Nat.zero_le _), fun k hk => .inl (.inr (.inr hk))⟩
    · exact List.pairwise_cons.2 ⟨by simpa using h4, List.pairwise_cons.2 ⟨by simp, .nil⟩⟩
  · rintro (rfl | hM' | hM')
    · exact hkg rfl
    · obtain ⟨cells, hc⟩ := own_typed h2 k hM'
      exact hn (row_base h2 k hM') _ _ hc
    · obtain ⟨cells, hc⟩ := own_typed h3 k hM'
      exact hn (row_base h3 k hM') _ _ hc
theorem StM.grown {W W' : World} {base g e : Nat} {f pc fuel : Int} {st lo : List Int} {kids : Int} {wt : Bool} (h : StM W base g f pc fuel st lo kids wt) {cs : Array Value} {t : TypeId} (he : W.heap[e]? = some (.cells cs t (0, 0))) (ht : (3 : TypeId) ≠ t) (hn : e ≠ g) (G : W.grownBy W' (some e)) : StM W' base g f pc fuel st lo kids wt := by
  obtain ⟨A1, c1, A2, c2, h1, h2, h3, h4, h5⟩ := h
  exact ⟨A1, c1, A2, c2, blk_grown h1 G (fun e_ => hn (Option.some.inj e_).symm), row_grown h2 G (row_blk h2 he ht), row_grown h3 G (row_blk h3 he ht), h4, h5⟩
theorem row_own {W : World} {base : Nat} {v : Value} {xs : List Int} (h : Row W base v xs) : v.ownBlock = none ∨ ∃ b, v.ownBlock = some b ∧ base ≤ b := by
  cases hv : v.ownBlock with
  | none => exact .inl rfl
  | some k => exact .inr ⟨k, rfl, row_base h k hv⟩
theorem row_take' {W : World} {base c n m : Nat} {A : Option Addr} {xs : List Int} (h : Row W base (.slice A n c) xs) (hn : xs.length = n) (hm : m ≤ n) : Row W base (.slice A m c) (xs.take m) := by
  subst hn
  have h2 := row_take h hm
  rwa [show (xs.take m).length = m by simp; omega] at h2
theorem Tr.rowb {ws W : World} {M : Nat → Prop} {bs : List (Nat × Array Value × TypeId)} {rs : List (Value × List Int)} (h : Tr ws M bs rs W) {base : Nat} (hM : ∀ k, M k → base ≤ k) (hb : base ≤ ws.heap.size) {v : Value} {xs : List Int} (hv : (v, xs) ∈ rs) : Row W base v xs :=
  row_up (h.row _ hv).1 fun k hk => ((h.row _ hv).2 k hk).elim (hM k) fun h => by omega
theorem Tr.stm {ws W : World} {M : Nat → Prop} {bs : List (Nat × Array Value × TypeId)} {rs : List (Value × List Int)} (h : Tr ws M bs rs W) {base g : Nat} (hM : ∀ k, M k → base ≤ k) (hb : base ≤ ws.heap.size)
    {f pc fuel : Int} {st lo : List Int} {kids : Int} {wt : Bool} {A1 A2 : Option Addr} {c1 c2 n1 n2 : Nat} (e1 : st.length = n1) (e2 : lo.length = n2)
    (h1 : (g, #[.int .i64 f, .int .i64 pc, .int .i64 fuel, .slice A1 n1 c1, .slice A2 n2 c2, .int .i64 kids, .bool wt], 78) ∈ bs) (h2 : (.slice A1 n1 c1, st) ∈ rs) (h3 : (.slice A2 n2 c2, lo) ∈ rs) (h4 : Ap (.slice A1 n1 c1) (.slice A2 n2 c2)) : StM W base g f pc fuel st lo kids wt := by
  subst e1 e2
  exact ⟨A1, c1, A2, c2, (h.blk _ h1).1, h.rowb hM hb h2, h.rowb hM hb h3, h4, (h.blk _ h1).2.2.elim (hM g) fun h => by have := h; omega⟩
theorem Tr.newb {ws W : World} {g : Nat} {v u : Value} {xs ys : List Int} {bs : List (Nat × Array Value × TypeId)} {rs : List (Value × List Int)} (h : Tr ws (MS g v u) bs rs W) {b : Nat × Array Value × TypeId} (hb : b ∈ bs) (hg : b.1 ≠ g) (hv : (v, xs) ∈ rs) (hu : (u, ys) ∈ rs) : ws.heap.size ≤ b.1 := by
  obtain ⟨h1, h2, h3⟩ := h.blk b hb
  rcases h3 with (h3 | h3 | h3) | h3
  · exact absurd h3 hg
  · rcases row_blk (h.row _ hv).1 h1 (Ne.symm h2) with e | e
    · rw [e] at h3; cases h3
    · exact absurd h3 e
  · rcases row_blk (h.row _ hu).1 h1 (Ne.symm h2) with e | e
    · rw [e] at h3; cases h3
    · exact absurd h3 e
  · exact h3
end Go.Proofs.Ytakdckaplmoklaa.Ev
end
section
namespace Go.Proofs.Ytakdckaplmoklaa.Ev
open Go.Proofs.YtakdckaplmoklaaHt Go.Sort
open Go.RowKit Go.Proofs.YtakdckaplmoklaaW.PrintWords Go.Proofs.YtakdckaplmoklaaW.PrintLast Go.Proofs.YtakdckaplmoklaaW.PrintMore Go.Proofs.Ytakdckaplmoklaa.PTraceDeep
set_option linter.unusedVariables false
set_option linter.unusedSimpArgs false
structure It where
  own : Nat → Prop
  P : World → Prop
@[reducible] def It.gen (v : Value) (t : TypeId) (sz n : Nat) (cs : List Value) : It := ⟨fun k => v.ownBlock = some k, fun W => W.ownsRow 0 t sz v n cs⟩
@[reducible] def It.row (v : Value) (xs : List Int) : It := It.gen v 3 1 xs.length (nums .i64 xs)
structure ItOk (i : It) (W : World) : Prop where
  lt : ∀ k, i.own k → k < W.heap.size
  st : ∀ W' : World, (∀ k, i.own k → W'.heap[k]? = W.heap[k]?) → i.P W'
theorem ItOk.p {i : It} {W : World} (h : ItOk i W) : i.P W := h.st W fun _ _ => rfl
theorem ItOk.move {i : It} {W W' : World} (h : ItOk i W) (hs : W.heap.size ≤ W'.heap.size) (hm : ∀ k, i.own k → W'.heap[k]? = W.heap[k]?) : ItOk i W' :=
  ⟨fun k hk => Nat.lt_of_lt_of_le (h.lt k hk) hs, fun W2 h2 => h.st W2 fun k hk => (h2 k hk).trans (hm k hk)⟩
theorem ItOk.gen {W : World} {b : Nat} {v : Value} {t : TypeId} {sz n : Nat} {cs : List Value} (h : W.ownsRow b t sz v n cs) : ItOk (It.gen v t sz n cs) W :=
  ⟨fun k hk => own_lt h k hk, fun W' hm => own_less (own_move h hm) (Nat.zero_le _)⟩
structure Chg (N : Nat → Prop) (W W' : World) : Prop where
  os : W'.os = W.os
  tape : W'.tape = W.tape
  output : W'.output = W.output
  size : W.heap.size ≤ W'.heap.size
  frame : ∀ k, k < W.heap.size → ¬ N k → W'.heap[k]? = W.heap[k]?
theorem Chg.of_grown {W W' : World} {r : Option Nat} (G : W.grownBy W' r) : Chg (fun k => r = some k) W W' := ⟨G.os, G.tape, G.output, G.size, fun k hk h => G.block k hk (fun e => h e.symm)⟩
theorem Chg.of_below {W W' : World} (b : Below W.heap.size W W') : Chg (fun _ => False) W W' := ⟨b.os, b.tape, b.output, b.size, fun k hk _ => b.block k hk⟩
theorem Chg.mono {N N' : Nat → Prop} {W W' : World} (h : Chg N W W') (hN : ∀ k, N k → N' k) : Chg N' W W' := ⟨h.os, h.tape, h.output, h.size, fun k hk hn => h.frame k hk fun e => hn (hN k e)⟩
theorem Chg.refl (N : Nat → Prop) (W : World) : Chg N W W := ⟨rfl, rfl, rfl, Nat.le_refl _, fun _ _ _ => rfl⟩
theorem Chg.trans {N : Nat → Prop} {a b c : World} (h : Chg N a b) (k : Chg N b c) : Chg N a c :=
  ⟨k.os.trans h.os, k.tape.trans h.tape, k.output.trans h.output, Nat.le_trans h.size k.size, fun i hi hn => (k.frame i (Nat.lt_of_lt_of_le hi h.size) hn).trans (h.frame i hi hn)⟩
structure Tg (ws : World) (M : Nat → Prop) (bs : List (Nat × Array Value × TypeId)) (is : List It) (W : World) : Prop where
  chg : Chg M ws W
  blk : ∀ b ∈ bs, W.heap[b.1]? = some (.cells b.2.1 b.2.2 (0, 0)) ∧ (M b.1 ∨ ws.heap.size ≤ b.1)
  dist : bs.Pairwise (fun x y => x.1 ≠ y.1)
  it : ∀ i ∈ is, ItOk i W ∧ ∀ k, i.own k → M k ∨ ws.heap.size ≤ k
  ap : is.Pairwise (fun x y => ∀ k, x.own k → ¬ y.own k)
  sep : ∀ b ∈ bs, ∀ i ∈ is, ¬ i.own b.1
section
variable {ws W W' : World} {M N : Nat → Prop} {bs bs' : List (Nat × Array Value × TypeId)} {is is' : List It}
theorem Tg.start (ws : World) (M : Nat → Prop) : Tg ws M [] [] ws := ⟨Chg.refl _ _, by simp, .nil, by simp, .nil, by simp⟩
theorem Tg.upd (h : Tg ws M bs is W) (C : Chg N W W') (hN : ∀ k, N k → k < W.heap.size → M k ∨ ws.heap.size ≤ k) (hb : bs'.Sublist bs) (hi : is'.Sublist is) (hbN : ∀ b ∈ bs', ¬ N b.1) (hiN : ∀ i ∈ is', ∀ k, i.own k → ¬ N k) : Tg ws M bs' is' W' := by
  refine ⟨⟨C.os.trans h.chg.os, C.tape.trans h.chg.tape, C.output.trans h.chg.output, Nat.le_trans h.chg.size C.size, fun k hk hM => ?_⟩, fun b hb' => ?_, h.dist.sublist hb, fun i hi' => ?_, h.ap.sublist hi, fun b hb' i hi' => h.sep b (hb.subset hb') i (hi.subset hi')⟩
  · rw [← h.chg.frame k hk hM]
    have hk' := Nat.lt_of_lt_of_le hk h.chg.size
    refine C.frame k hk' fun e => ?_
    rcases hN k e hk' with h1 | h1
    · exact hM h1
    · omega
  · obtain ⟨h1, h2⟩ := h.blk b (hb.subset hb')
    exact ⟨(C.frame b.1 (blk_lt h1) (hbN b hb')).trans h1, h2⟩
  · obtain ⟨h1, h2⟩ := h.it i (hi.subset hi')
    exact ⟨h1.move C.size fun k hk => C.frame k (h1.lt k hk) (hiN i hi' k hk), h2⟩
theorem Tg.none (h : Tg ws M bs is W) (G : W.grownBy W' none) : Tg ws M bs is W' := h.upd (Chg.of_grown G) (by simp) (.refl _) (.refl _) (by simp) (by simp)
theorem Tg.call (h : Tg ws M bs is W) (b : Below W.heap.size W W') : Tg ws M bs is W' := h.upd (Chg.of_below b) (by simp) (.refl _) (.refl _) (by simp) (by simp)
theorem Tg.drewN (h : Tg ws M bs is W) (n : Nat) : Tg ws M bs is (W.drewN n) := h.none (grown_drewN W n _)
theorem Tg.drew (h : Tg ws M bs is W) : Tg ws M bs is W.drew := h.none (grown_drew W _)
theorem Tg.sub (h : Tg ws M bs is W) (hb : bs'.Sublist bs) (hi : is'.Sublist is) : Tg ws M bs' is' W := h.upd (N := fun _ => False) (Chg.refl _ _) (by simp) hb hi (by simp) (by simp)
theorem Tg.dblk {b : Nat × Array Value × TypeId} (h : Tg ws M (b :: bs) is W) : Tg ws M bs is W := h.sub (List.sublist_cons_self _ _) (.refl _)
theorem Tg.ditem {i : It} (h : Tg ws M bs (i :: is) W) : Tg ws M bs is W := h.sub (.refl _) (List.sublist_cons_self _ _)
theorem Tg.ablk (pre : List (Nat × Array Value × TypeId)) {post : List (Nat × Array Value × TypeId)} (h : Tg ws M (pre ++ post) is W) {g : Nat} {cs : Array Value} {t : TypeId} (hb : W.heap[g]? = some (.cells cs t (0, 0))) (hM : M g ∨ ws.heap.size ≤ g) (hd : ∀ b ∈ pre ++ post, g ≠ b.1) (hi : ∀ i ∈ is, ¬ i.own g) : Tg ws M (pre ++ (g, cs, t) :: post) is W := by
  have hm : ∀ b, b ∈ pre ++ (g, cs, t) :: post → b = (g, cs, t) ∨ b ∈ pre ++ post := fun b hb => by
    rcases List.mem_append.1 hb with hb | hb
    · exact .inr (List.mem_append_left _ hb)
    · rcases List.mem_cons.1 hb with rfl | hb
      · exact .inl rfl
      · exact .inr (List.mem_append_right _ hb)
  refine ⟨h.chg, fun b hb' => ?_, ?_, h.it, h.ap, fun b hb' i hi' => ?_⟩
  · rcases hm b hb' with rfl | hb'
    · exact ⟨hb, hM⟩
    · exact h.blk b hb'
  · have k := List.pairwise_append.1 h.dist
    refine List.pairwise_append.2 ⟨k.1, List.pairwise_cons.2 ⟨fun b hb' => hd b (List.mem_append_right _ hb'), k.2.1⟩, fun a ha b hb' => ?_⟩
    rcases List.mem_cons.1 hb' with rfl | hb'
    · exact Ne.symm (hd a (List.mem_append_left _ ha))
    · exact k.2.2 a ha b hb'
  · rcases hm b hb' with rfl | hb'
    · exact hi i hi'
    · exact h.sep b hb' i hi'
theorem Tg.aitem (pre : List It) {post : List It} {j : It} (h : Tg ws M bs (pre ++ post) W) (hj : ItOk j W) (hM : ∀ k, j.own k → M k ∨ ws.heap.size ≤ k) (hd : ∀ i ∈ pre ++ post, ∀ k, j.own k → ¬ i.own k) (hb : ∀ b ∈ bs, ¬ j.own b.1) : Tg ws M bs (pre ++ j :: post) W := by
  have hm : ∀ i, i ∈ pre ++ j :: post → i = j ∨ i ∈ pre ++ post := fun b hb => by
    rcases List.mem_append.1 hb with hb | hb
    · exact .inr (List.mem_append_left _ hb)
    · rcases List.mem_cons.1 hb with rfl | hb
      · exact .inl rfl
      · exact .inr (List.mem_append_right _ hb)
  refine ⟨h.chg, h.blk, h.dist, fun i hi => ?_, ?_, fun b hb' i hi => ?_⟩
  · rcases hm i hi with rfl | hi
    · exact ⟨hj, hM⟩
    · exact h.it i hi
  · have k := List.pairwise_append.1 h.ap
    refine List.pairwise_append.2 ⟨k.1, List.pairwise_cons.2 ⟨fun i hi => hd i (List.mem_append_right _ hi), k.2.1⟩, fun a ha b hb' => ?_⟩
    rcases List.mem_cons.1 hb' with rfl | hb'
    · exact fun q hq hq' => hd a (List.mem_append_left _ ha) q hq' hq
    · exact k.2.2 a ha b hb'
  · rcases hm i hi with rfl | hi
    · exact hb b hb'
    · exact h.sep b hb' i hi
theorem Tg.iperm (h : Tg ws M bs is W) (p : is'.Perm is) : Tg ws M bs is' W :=
  ⟨h.chg, h.blk, h.dist, fun i hi => h.it i (p.mem_iff.1 hi), (p.pairwise_iff (fun {x y} hxy k hk hk' => hxy k hk' hk)).2 h.ap, fun b hb i hi => h.sep b hb i (p.mem_iff.1 hi)⟩
theorem Tg.bperm (h : Tg ws M bs is W) (p : bs'.Perm bs) : Tg ws M bs' is W :=
  ⟨h.chg, fun b hb => h.blk b (p.mem_iff.1 hb), (p.pairwise_iff (fun {x y} hxy => Ne.symm hxy)).2 h.dist, h.it, h.ap, fun b hb i hi => h.sep b (p.mem_iff.1 hb) i hi⟩
theorem sub_mid {α : Type} (pre : List α) (x : α) (post : List α) : (pre ++ post).Sublist (pre ++ x :: post) := List.Sublist.append (.refl _) (List.sublist_cons_self _ _)
theorem Tg.put (pre : List (Nat × Array Value × TypeId)) {post : List (Nat × Array Value × TypeId)} {g : Nat} {cs cs' : Array Value} {t : TypeId} (h : Tg ws M (pre ++ (g, cs, t) :: post) is W) (G : W.grownBy W' (some g)) (hb : W'.heap[g]? = some (.cells cs' t (0, 0))) : Tg ws M (pre ++ (g, cs', t) :: post) is W' := by
  have hg := h.blk (g, cs, t) (List.mem_append_right _ (.head _))
  have hd := List.pairwise_append.1 h.dist
  have hn : ∀ b ∈ pre ++ post, g ≠ b.1 := fun b hb' => by
    rcases List.mem_append.1 hb' with hb' | hb'
    · exact Ne.symm (hd.2.2 b hb' (g, cs, t) (.head _))
    · exact (List.pairwise_cons.1 hd.2.1).1 b hb'
  have hi : ∀ i ∈ is, ¬ i.own g := fun i hi' => h.sep (g, cs, t) (List.mem_append_right _ (.head _)) i hi'
  refine (h.upd (Chg.of_grown G) (fun k e _ => ?_) (sub_mid pre _ post) (.refl _) (fun b hb' e => hn b hb' (Option.some.inj e)) (fun i hi' k hk e => ?_)).ablk pre hb hg.2 hn hi
  · injection e with e; subst e; exact hg.2
  · injection e with e; subst e; exact hi i hi' hk
theorem Tg.turn (pre : List It) {post : List It} {i j : It} (h : Tg ws M bs (pre ++ i :: post) W) (C : Chg i.own W W') (hj : ItOk j W') (hat : ∀ k, j.own k → i.own k ∨ W.heap.size ≤ k) : Tg ws M bs (pre ++ j :: post) W' := by
  have hi := h.it i (List.mem_append_right _ (.head _))
  have hap := List.pairwise_append.1 h.ap
  have hap2 := List.pairwise_cons.1 hap.2.1
  have far : ∀ x ∈ pre ++ post, ∀ k, i.own k → ¬ x.own k := fun x hx k hk hk' => by
    rcases List.mem_append.1 hx with hx | hx
    · exact hap.2.2 x hx i (.head _) k hk' hk
    · exact hap2.1 x hx k hk hk'
  have hb : ∀ b ∈ bs, ¬ i.own b.1 := fun b hb => h.sep b hb i (List.mem_append_right _ (.head _))
  refine (h.upd C (fun k e _ => hi.2 k e) (.refl _) (sub_mid pre _ post) hb (fun x hx k hk e => far x hx k e hk)).aitem pre hj (fun k hk => ?_) (fun x hx k hk hk' => ?_) (fun b hb' hk => ?_)
  · rcases hat k hk with h1 | h1
    · exact hi.2 k h1
    · exact .inr (Nat.le_trans h.chg.size h1)
  · rcases hat k hk with h1 | h1
    · exact far x hx k h1 hk'
    · have hx' : x ∈ pre ++ i :: post := (sub_mid pre i post).subset hx
      have := (h.it x hx').1.lt k hk'
      omega
  · rcases hat b.1 hk with h1 | h1
    · exact hb b hb' h1
    · have := blk_lt (h.blk b hb').1
      omega
theorem Tg.nitem {j : It} (h : Tg ws M bs is W) (G : W.grownBy W' Option.none) (hj : ItOk j W') (hat : ∀ k, j.own k → W.heap.size ≤ k) : Tg ws M bs (j :: is) W' :=
  (h.none G).aitem [] hj (fun k hk => .inr (Nat.le_trans h.chg.size (hat k hk))) (fun i hi k hk hk' => by have := (h.it i hi).1.lt k hk'; have := hat k hk; omega) (fun b hb hk => by have := blk_lt (h.blk b hb).1; have := hat _ hk; omega)
theorem Tg.below (h : Tg ws M bs is W) {base : Nat} (hM : ∀ k, M k → base ≤ k) (hb : base ≤ ws.heap.size) : Below base ws W :=
  ⟨h.chg.os, h.chg.tape, h.chg.output, h.chg.size, fun k hk => h.chg.frame k (by omega) fun e => by have := hM k e; omega⟩
theorem Tg.fresh (h : Tg ws (fun _ => False) bs is W) : Below ws.heap.size ws W := h.below (fun _ h => h.elim) (Nat.le_refl _)
theorem Tg.cells (h : Tg ws M bs is W) : CellsOf W bs := by
  have hb := h.blk
  clear h
  induction bs with
  | nil => trivial
  | cons b bs ih =>
    obtain ⟨g, cs, t⟩ := b
    exact ⟨blk_cells (hb _ (.head _)).1, ih fun b hb' => hb b (.tail _ hb')⟩
theorem Tg.gr (h : Tg ws M bs is W) : GrOf W bs := by
  have hb := h.blk
  clear h
  induction bs with
  | nil => trivial
  | cons b bs ih =>
    obtain ⟨g, cs, t⟩ := b
    exact ⟨blk_gr (hb _ (.head _)).1, ih fun b hb' => hb b (.tail _ hb')⟩
theorem Tg.own (h : Tg ws M bs is W) {v : Value} {t : TypeId} {sz n : Nat} {cs : List Value} (hm : It.gen v t sz n cs ∈ is) : W.ownsRow 0 t sz v n cs := (h.it _ hm).1.p
theorem own_up {W : World} {b b' : Nat} {v : Value} {t : TypeId} {sz n : Nat} {cs : List Value} (h : W.ownsRow b t sz v n cs) (hb : ∀ k, v.ownBlock = some k → b' ≤ k) : W.ownsRow b' t sz v n cs := by
  refine ⟨h.1, ?_⟩
  rcases h.2 with h2 | ⟨g, cap, cur, h2, h3, h4⟩
  · exact .inl h2
  · exact .inr ⟨g, cap, cur, h2, hb g (by rw [h2]; rfl), h4⟩
theorem Tg.ownb (h : Tg ws M bs is W) {v : Value} {t : TypeId} {sz n : Nat} {cs : List Value} (hm : It.gen v t sz n cs ∈ is) {base : Nat} (hM : ∀ k, M k → base ≤ k) (hb : base ≤ ws.heap.size) : W.ownsRow base t sz v n cs :=
  own_up (h.own hm) fun k hk => ((h.it _ hm).2 k hk).elim (hM k) fun h => by omega
variable {ops : Array Oper} {rest : List Oper} {o : Oper} {a : Act} {Q : Exit → Act → World → Prop}
theorem tg_new (N : Tmp) (hd : o.dst = some N) (hgd : o.guard = Option.none) (T : Aside0 (Tg ws M bs is W)) (cs : Array Value) (t : TypeId)
    (hrun : (execOp a.eval o).run Try.prog W = .ok (.value (.pointer (some ⟨W.heap.size, 0, Option.none⟩))) (W.alloc (.cells cs t (0, 0))))
    (h : ∀ g w1, Aside0 (Tg ws M ((g, cs, t) :: bs) is w1) → wpList Try.prog ops Q rest (a.put (some N) (.pointer (some ⟨g, 0, Option.none⟩))) w1) : wpList Try.prog ops Q (o :: rest) a W := by
  refine new_law N hd hgd cs t hrun fun g e w1 hb G => h g w1 ⟨?_⟩
  subst e
  exact (T.out.none G).ablk [] hb (.inr T.out.chg.size) (fun b hb e => by have := blk_lt (T.out.blk b hb).1; omega) (fun i hi hk => by have := (T.out.it i hi).1.lt _ hk; omega)
theorem tg_st (pre : List (Nat × Array Value × TypeId)) {post : List (Nat × Array Value × TypeId)} {g : Nat} {cs : Array Value} {tt : TypeId} (T : Aside0 (Tg ws M (pre ++ (g, cs, tt) :: post) is W)) (j : Nat) (hgd : o.guard = Option.none) (t : TypeId) {p x : Operand} (ho : o.op = .store t p x) (hN : o.dst = Option.none) (cs' : Array Value) (u : Value) (seg : List Value)
    (ht : (Try.prog.info? t).map (·.size) = some seg.length) (haddr : a.eval p = .pointer (some ⟨g, j, Option.none⟩)) (hx : a.eval x = u) (hu : u.cells.toList = seg) (h1 : seg.all (·.oneCell') = true)
    (hfit : j + seg.length ≤ cs.size) (hcs : cs'.toList = cs.toList.take j ++ seg ++ cs.toList.drop (j + seg.length))
    (h : ∀ w1, Aside0 (Tg ws M (pre ++ (g, cs', tt) :: post) is w1) → wpList Try.prog ops Q rest a w1) : wpList Try.prog ops Q (o :: rest) a W :=
  st_law g j hgd t p x ho hN cs cs' tt u seg haddr hx hu ht (fun q hq => List.all_eq_true.1 h1 q hq) (T.out.blk (g, cs, tt) (List.mem_append_right _ (.head _))).1 hfit hcs fun w1 hb G _ => h w1 ⟨T.out.put pre G hb⟩
theorem tg_app (pre : List It) {post : List It} {v : Value} {xs : List Int} (T : Aside0 (Tg ws M bs (pre ++ It.row v xs :: post) W)) (N : Tmp) (hd : o.dst = some N) (hgd : o.guard = Option.none) {s x : Operand}
    (ho : o.op = .call { callee := .builtin .append, args := #[s, x], argTypes := #[23, 23] }) (ys : List Int) (A : Option Addr) (m c : Nat) (hs : a.eval s = v) (hx : a.eval x = .slice A m c)
    (HR : ReadsInt W .i64 A m ys) (hl : xs.length + m ≤ 1000000)
    (h : ∀ A1 c1 zs w1, Aside0 (zs = xs ++ ys) → Aside0 (Tg ws M bs (pre ++ It.row (.slice A1 zs.length c1) zs :: post) w1) → wpList Try.prog ops Q rest (a.put (some N) (.slice A1 zs.length c1)) w1) : wpList Try.prog ops Q (o :: rest) a W :=
  app_law 0 N hd hgd s x ho v xs ys A m c hs hx (T.out.own (List.mem_append_right _ (.head _))) HR (Nat.zero_le _) hl fun A1 c1 zs w1 e r G l => h A1 c1 zs w1 e ⟨T.out.turn pre (Chg.of_grown G) (ItOk.gen r) (fun k hk => by
    rcases l with l | ⟨b, l, hb⟩
    · exact .inl (l.symm.trans hk)
    · exact .inr (by have hk : (Value.slice A1 zs.length c1).ownBlock = some k := hk; rw [l] at hk; injection hk with hk; omega))⟩
theorem tg_nil (T : Aside0 (Tg ws M bs is W)) (N : Tmp) (hd : o.dst = some N) (hgd : o.guard = Option.none) {s x : Operand}
    (ho : o.op = .call { callee := .builtin .append, args := #[s, x], argTypes := #[23, 23] }) (ys : List Int) (A : Option Addr) (m c : Nat) (hs : a.eval s = .slice Option.none 0 0) (hx : a.eval x = .slice A m c)
    (HR : ReadsInt W .i64 A m ys) (hl : m ≤ 1000000)
    (h : ∀ A1 c1 w1, Aside0 (Tg ws M bs (It.row (.slice A1 ys.length c1) ys :: is) w1) → wpList Try.prog ops Q rest (a.put (some N) (.slice A1 ys.length c1)) w1) : wpList Try.prog ops Q (o :: rest) a W :=
  app_law 0 N hd hgd s x ho _ [] ys A m c hs hx (row_nil _ _) HR (Nat.zero_le _) (by simpa using hl) fun A1 c1 zs w1 e r G l => by
    have e := e.out
    simp only [List.nil_append] at e
    subst e
    refine h A1 c1 w1 ⟨T.out.nitem G (ItOk.gen r) (fun k hk => ?_)⟩
    rcases l with l | ⟨b, l, hb⟩
    · exact absurd (l.symm.trans hk) (by simp [Value.ownBlock])
    · have hk : (Value.slice A1 zs.length c1).ownBlock = some k := hk
      rw [l] at hk; injection hk with hk; omega
theorem tg_box (T : Aside0 (Tg ws M bs is W)) (N : Tmp) (hd : o.dst = some N) (hgd : o.guard = Option.none) (cs : List Value) (t : TypeId) (sz : Nat) (hsz : cs.length = sz)
    (hrun : (execOp a.eval o).run Try.prog W = .ok (.value (.slice (some ⟨W.heap.size, 0, Option.none⟩) 1 1)) (W.alloc (.cells cs.toArray t (0, 0))))
    (h : ∀ ad w1, Aside0 (Tg ws M bs (It.gen (.slice (some ad) 1 1) t sz 1 cs :: is) w1) → wpList Try.prog ops Q rest (a.put (some N) (.slice (some ad) 1 1)) w1) : wpList Try.prog ops Q (o :: rest) a W := by
  refine Kd.event_run hgd hrun ?_
  rw [hd]
  refine h ⟨W.heap.size, 0, Option.none⟩ _ ⟨T.out.nitem (World.grownBy_alloc W _ Option.none) (ItOk.gen (b := 0) ?_) ?_⟩
  · subst hsz
    exact ⟨by simp, .inr ⟨W.heap.size, 1, cs.toArray, rfl, Nat.zero_le _, blk_new W _, Nat.le_refl _, by decide, by simp, by simp⟩⟩
  · intro k hk
    injection hk with hk
    exact Nat.le_of_eq hk
theorem tg_push (pre : List It) {post : List It} {v : Value} {t : TypeId} {sz n : Nat} {cs : List Value} (T : Aside0 (Tg ws M bs (pre ++ It.gen v t sz n cs :: post) W)) (N : Tmp) (hd : o.dst = some N) (hgd : o.guard = Option.none) {s x : Operand} {ts : TypeId}
    (ho : o.op = .call { callee := .builtin .append, args := #[s, x], argTypes := #[ts, ts] }) (hts : Try.prog.underlying ts = some (.slice t)) (z : Value) (bytes : Nat) (hinfo : (Try.prog.info? t).map (fun i => (i.zero, i.size, i.bytes)) = some (some z, sz, bytes)) (hz : z.cells.size = sz) (hs0 : 0 < sz) (hb0 : 0 < bytes)
    (hs : a.eval s = v) (ad : Addr) (m c : Nat) (ys : List Value) (hx : a.eval x = .slice (some ad) m c) (HR : ys.length = m * sz ∧ ∀ j u, ys[j]? = some u → W.cell? (ad.add j) = some u) (h1 : ∀ u ∈ ys, u.oneCell' = true) (hl : (n + m) * bytes ≤ 140737488355328)
    (h : ∀ A1 c1 w1, Aside0 (Tg ws M bs (pre ++ It.gen (.slice A1 (n + m) c1) t sz (n + m) (cs ++ ys) :: post) w1) → wpList Try.prog ops Q rest (a.put (some N) (.slice A1 (n + m) c1)) w1) : wpList Try.prog ops Q (o :: rest) a W := by
  obtain ⟨i0, hi, hzz⟩ := Option.map_eq_some_iff.1 hinfo
  simp only [Prod.mk.injEq] at hzz
  obtain ⟨hz0, hz1, hz2⟩ := hzz
  have hlen : n + m ≤ 140737488355328 := Nat.le_trans (Nat.le_mul_of_pos_right _ hb0) hl
  refine wpList_append_own_at W hgd s x ts ho 0 t i0 z sz bytes hts hi hz0 hz1 hz2 hz hs0 v n cs hs (T.out.own (List.mem_append_right _ (.head _))) ad m c ys hx HR.1 HR.2 h1 (by simp only [maxLen]; omega) hl (Nat.zero_le _) ?_
  intro v1 w1 hown hg _ hat
  obtain ⟨A1, c1, rfl⟩ := own_slice hown
  rw [hd]
  refine h A1 c1 w1 ⟨T.out.turn pre (Chg.of_grown hg) (ItOk.gen hown) (fun k hk => ?_)⟩
  rcases hat with l | l
  · exact .inl (l.symm.trans hk)
  · exact .inr (by have hk : (Value.slice A1 (n + m) c1).ownBlock = some k := hk; rw [l] at hk; injection hk with hk; omega)
theorem tg_set (pre : List It) {post : List It} {ad : Addr} {t : TypeId} {sz n nn c : Nat} {cs : List Value} (T : Aside0 (Tg ws M bs (pre ++ It.gen (.slice (some ad) nn c) t sz n cs :: post) W)) (j : Nat) (hgd : o.guard = Option.none) (tt : TypeId) {p x : Operand} (ho : o.op = .store tt p x) (hN : o.dst = Option.none) (u : Value) (seg : List Value)
    (ht : (Try.prog.info? tt).map (·.size) = some seg.length) (haddr : a.eval p = .pointer (some ⟨ad.block, ad.off + j, Option.none⟩)) (hx : a.eval x = u) (hu : u.cells.toList = seg) (h1 : seg.all (·.oneCell') = true) (hfit : j + seg.length ≤ cs.length)
    (h : ∀ cs' w1, Aside0 (cs' = cs.take j ++ seg ++ cs.drop (j + seg.length)) → Aside0 (Tg ws M bs (pre ++ It.gen (.slice (some ad) nn c) t sz n cs' :: post) w1) → wpList Try.prog ops Q rest a w1) : wpList Try.prog ops Q (o :: rest) a W := by
  have hown := T.out.own (List.mem_append_right _ (.head _))
  rcases hown.2 with ⟨h0, _⟩ | ⟨g, cap, cur, h2, h3, h4, h5, h6, h7, h8⟩
  · cases h0
  · injection h2 with e1 e2 e3
    injection e1 with e1
    subst e1 e2 e3
    have hlen : cs.length = nn * sz := hown.1
    have hcur : nn * sz ≤ cur.size := by rw [h7]; exact Nat.mul_le_mul_right _ h5
    have hfit' : j + seg.length ≤ cur.size := by omega
    have hcur2 : cur.toList = cs ++ cur.toList.drop (nn * sz) := by rw [← h8, List.take_append_drop]
    refine st_law g j hgd tt p x ho hN cur (cur.toList.take j ++ seg ++ cur.toList.drop (j + seg.length)).toArray t u seg (by simpa using haddr) hx hu ht (fun q hq => List.all_eq_true.1 h1 q hq) h4 hfit' rfl fun w1 hb G _ => ?_
    refine h _ w1 ⟨rfl⟩ ⟨T.out.turn pre (Chg.of_grown G) (ItOk.gen (b := 0) ?_) (fun k hk => .inl hk)⟩
    refine ⟨by simp; omega, .inr ⟨g, c, _, rfl, Nat.zero_le _, hb, h5, h6, ?_, ?_⟩⟩
    · simp
      omega
    · show List.take (nn * sz) (cur.toList.take j ++ seg ++ cur.toList.drop (j + seg.length)) = _
      rw [hcur2]
      rw [List.take_append_of_le_length (by omega : j ≤ cs.length), List.drop_append_of_le_length (by omega : j + seg.length ≤ cs.length), ← List.append_assoc]
      rw [List.take_left']
      simp
      omega
end
end Go.Proofs.Ytakdckaplmoklaa.Ev
end
