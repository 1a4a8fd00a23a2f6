/- A part of the proof of TraceDeepSaid (Ht Hu Hv Hw); laid together by merge2.py. -/
import Derived.OrdersHeld
import Derived.Deep.Quiet
import Derived.Sort.Grow
import Derived.KernelRfl
import Derived.Laws.Sem
import Derived.Tactics
section
namespace Go.Proofs.YtakdckaplmoklaaHt
open Go Go.Sort
structure GrownN where
  n : Nat
  os : Array Obj
  deriving Inhabited
def GrC (w w' : World) : Prop := ∃ p : GrownN, w' = grow (w.drewN p.n) p.os
theorem GrC.refl (w : World) : GrC w w := ⟨⟨0, #[]⟩, by simp [World.drewN]⟩
theorem GrC.trans {w w1 w2 : World} (h : GrC w w1) (k : GrC w1 w2) : GrC w w2 := by
  obtain ⟨⟨n, os⟩, rfl⟩ := h
  obtain ⟨⟨m, os'⟩, rfl⟩ := k
  exact ⟨⟨n + m, os ++ os'⟩, by simp [grow, World.drewN, Nat.add_assoc]⟩
theorem cell_gr {w : World} {a : Addr} {v : Value} (h : w.cell? a = some v) (n : Nat) (os : Array Obj) : (grow (w.drewN n) os).cell? a = some v := by
  have hb : a.block < (w.drewN n).heap.size := World.block_lt_of_cell? w a h
  rw [cell?_grow _ _ _ hb]; exact h
def gr {α : Type} : Sem α → Prop
  | .pure _ => True
  | .load _ _ k => ∀ v, gr (k v)
  | .store .. => False
  | .new _ k => ∀ n, gr (k n)
  | .shape _ k => ∀ s, gr (k s)
  | .freeze .. => False
  | .frozen _ k => ∀ b, gr (k b)
  | .getObj _ k => ∀ o, gr (k o)
  | .setObj .. => False
  | .choose _ k => ∀ n, gr (k n)
  | .sys .. => False
  | .program k => ∀ p, gr (k p)
  | .mark _ k => gr k
  | .halt _ => True
theorem gr_bind {α β : Type} {f : α → Sem β} (hf : ∀ x, gr (f x)) : ∀ s : Sem α, gr s → gr (s >>= f)
  | .pure a, _ => hf a
  | .load _ _ k, h => fun v => gr_bind hf (k v) (h v)
  | .store .., h => h.elim
  | .new _ k, h => fun v => gr_bind hf (k v) (h v)
  | .shape _ k, h => fun v => gr_bind hf (k v) (h v)
  | .freeze .., h => h.elim
  | .frozen _ k, h => fun v => gr_bind hf (k v) (h v)
  | .getObj _ k, h => fun v => gr_bind hf (k v) (h v)
  | .setObj .., h => h.elim
  | .choose _ k, h => fun v => gr_bind hf (k v) (h v)
  | .sys .., h => h.elim
  | .program k, h => fun v => gr_bind hf (k v) (h v)
  | .mark _ k, h => gr_bind hf k h
  | .halt _, _ => trivial
theorem gr_run {P : Program} {α : Type} : ∀ (s : Sem α) (w : World) {v : α} {w' : World}, gr s → s.run P w = .ok v w' → GrC w w'
  | .pure a, w, v, w', _, e => by simp only [Sem.run, Result.ok.injEq] at e; rw [← e.2]; exact GrC.refl w
  | .load m a k, w, v, w', h, e => by
    unfold Sem.run at e
    split at e
    · exact gr_run (k _) w (h _) e
    · split at e
      · exact gr_run (k _) w (h _) e
      · cases e
  | .store .., _, _, _, h, _ => h.elim
  | .new o k, w, v, w', h, e => by
    unfold Sem.run at e
    refine GrC.trans ?_ (gr_run (k _) _ (h _) e)
    exact ⟨⟨0, #[o]⟩, by simp [grow, World.drewN, Array.append_singleton]⟩
  | .shape r k, w, v, w', h, e => by unfold Sem.run at e; exact gr_run (k _) w (h _) e
  | .freeze .., _, _, _, h, _ => h.elim
  | .frozen r k, w, v, w', h, e => by unfold Sem.run at e; exact gr_run (k _) w (h _) e
  | .getObj r k, w, v, w', h, e => by
    unfold Sem.run at e
    split at e
    · cases e
    · exact gr_run (k _) w (h _) e
    · cases e
  | .setObj .., _, _, _, h, _ => h.elim
  | .choose q k, w, v, w', h, e => by
    unfold Sem.run at e
    split at e
    · exact gr_run (k _) w (h _) e
    · refine GrC.trans ?_ (gr_run (k _) _ (h _) e)
      exact ⟨⟨1, #[]⟩, by simp [World.drewN]⟩
  | .sys .., _, _, _, h, _ => h.elim
  | .program k, w, v, w', h, e => by unfold Sem.run at e; exact gr_run (k _) w (h _) e
  | .mark m k, w, v, w', h, e => by unfold Sem.run at e; exact gr_run k w h e
  | .halt _, _, _, _, _, e => by cases e
theorem gr_program : gr (program) := fun _ => trivial
theorem gr_typeInfo (t : TypeId) : gr (typeInfo t) := by
  unfold typeInfo
  refine gr_bind (fun p => ?_) _ gr_program
  split <;> trivial
theorem gr_underlying (t : TypeId) : gr (underlying t) := by
  unfold underlying
  refine gr_bind (fun p => ?_) _ gr_program
  split <;> trivial
theorem gr_zeroValue (t : TypeId) : gr (zeroValue t) := by
  unfold zeroValue
  refine gr_bind (fun p => ?_) _ (gr_typeInfo t)
  split <;> trivial
theorem gr_pure {α : Type} (x : α) : gr (pure x : Sem α) := trivial
theorem gr_sizeOf (t : TypeId) : gr (sizeOf t) := by
  unfold sizeOf
  exact gr_bind (fun p => gr_pure _) _ (gr_typeInfo t)
theorem gr_newRow (t : TypeId) (cs : Array Value) : gr (newRow t cs) := fun _ => trivial
theorem gr_newVar (t : TypeId) (v : Value) : gr (newVar t v) := gr_newRow _ _
theorem gr_alloc (t : TypeId) : gr (Instr.alloc t true (.tuple #[])) := by
  unfold Instr.alloc
  refine gr_bind (fun z => ?_) _ (gr_zeroValue t)
  exact gr_bind (fun _ => gr_pure _) _ (gr_newVar _ _)
theorem gr_box (t : TypeId) (v : Value) : gr (Instr.box t v) := by
  unfold Instr.box
  exact gr_bind (fun _ => gr_pure _) _ (gr_newVar _ _)
theorem gr_list_mapM {α β : Type} {f : α → Sem β} (hf : ∀ x, gr (f x)) : ∀ l : List α, gr (l.mapM f)
  | [] => by simpa using gr_pure _
  | x :: l => by
    rw [List.mapM_cons]
    exact gr_bind (fun _ => gr_bind (fun _ => gr_pure _) _ (gr_list_mapM hf l)) _ (hf x)
theorem gr_mapM {α β : Type} {f : α → Sem β} (hf : ∀ x, gr (f x)) (l : Array α) : gr (l.mapM f) := by
  rw [Array.mapM_eq_mapM_toList]
  exact gr_bind (fun _ => gr_pure _) _ (gr_list_mapM hf l.toList)
theorem gr_build (t : TypeId) (ps : Array (Nat × Value)) : gr (Instr.build t ps) := by
  unfold Instr.build
  refine gr_bind (fun z => ?_) _ (gr_zeroValue t)
  refine gr_bind (fun d => ?_) _ (gr_underlying t)
  split
  · refine gr_bind (fun pl => ?_) _ (gr_mapM (fun f => gr_bind (fun _ => gr_pure _) _ (gr_sizeOf _)) _)
    split <;> first | exact gr_pure _ | trivial
  · refine gr_bind (fun pl => ?_) _ (gr_sizeOf _)
    split <;> first | exact gr_pure _ | trivial
  · trivial
theorem gr_ite {α : Type} {c : Prop} [Decidable c] {x y : Sem α} (h : gr x) (k : gr y) : gr (if c then x else y) := by split <;> assumption
theorem gr_buildSlice (t : TypeId) (n : Nat) (ps : Array (Nat × Value)) : gr (Instr.buildSlice t n ps) := by
  unfold Instr.buildSlice unsupported
  repeat' (first | exact gr_pure _ | exact gr_zeroValue _ | exact gr_sizeOf _ | exact gr_underlying _ | exact gr_typeInfo _ | exact gr_newRow _ _ | (with_reducible refine gr_bind (fun _ => ?_) _ ?_) | (dsimp only; split) | split | trivial)
theorem gr_loadCellsFrom (a : Addr) : ∀ (n i : Nat) (acc : Array Value), gr (loadCellsFrom a i n acc)
  | 0, _, _ => gr_pure _
  | n + 1, i, acc => by
    unfold loadCellsFrom
    exact gr_bind (fun _ => gr_loadCellsFrom a n _ _) _ (fun _ => trivial)
theorem gr_firstCells (size n : Nat) (x : Value) : gr (Builtin.firstCells size n x) := by
  unfold Builtin.firstCells
  split <;> first | exact gr_loadCellsFrom _ _ _ _ | exact gr_pure _ | trivial
theorem gr_lenOf (x : Value) : gr (Builtin.lenOf x) := by
  unfold Builtin.lenOf
  split <;> first | exact gr_pure _ | trivial
theorem gr_asInt (x : Value) : gr (asInt x) := by
  unfold asInt asIntOf
  refine gr_bind (fun _ => gr_pure _) _ ?_
  split <;> first | exact gr_pure _ | trivial
theorem gr_askRoom (n : Nat) : gr (askRoom n) := by
  unfold askRoom
  split
  · trivial
  · exact gr_pure _
theorem gr_holds (a : Addr) (n : Nat) : gr (Builtin.holdsCells a n) := by
  unfold Builtin.holdsCells
  refine gr_bind (fun s => ?_) _ (fun _ => trivial)
  split <;> exact gr_pure _
theorem gr_mayShare (size sLen n : Nat) (base : Option Addr) (x : Value) : gr (Builtin.mayShare size sLen n base x) := by
  unfold Builtin.mayShare
  repeat' (first | exact gr_pure _ | exact gr_holds _ _ | (with_reducible refine gr_bind (fun _ => ?_) _ ?_) | (dsimp only; split) | split | trivial | (intro _; trivial))
theorem gr_runtimePanic_error {α : Type} (m : String) : gr (runtimePanic (α := α) (.error m)) := by
  unfold runtimePanic goPanic
  exact gr_bind (fun p => show gr (Sem.halt (α := α) _) from trivial) _ gr_program
theorem gr_choose (q : Question) : gr (choose q) := fun _ => trivial
set_option maxHeartbeats 1000000 in
theorem gr_append_nil (ts : Array TypeId) (t : TypeId) (args : Array Value) (n c : Nat) (h : args[0]? = some (.slice none n c)) : gr (Builtin.append_ ts t args) := by
  unfold Builtin.append_ unsupported
  rw [h]
  cases ts[0]? with
  | none => trivial
  | some s =>
    cases args[1]? with
    | none => trivial
    | some x =>
      dsimp only
      refine gr_bind (fun d => ?_) _ (gr_underlying _)
      cases d <;> try trivial
      dsimp only
      refine gr_bind (fun sz => ?_) _ (gr_sizeOf _)
      repeat' (first | with_reducible exact gr_pure _ | with_reducible exact gr_zeroValue _ | with_reducible exact gr_sizeOf _ | with_reducible exact gr_underlying _ | with_reducible exact gr_typeInfo _ | with_reducible exact gr_newRow _ _ | with_reducible exact gr_firstCells _ _ _ | with_reducible exact gr_lenOf _ | with_reducible exact gr_asInt _ | with_reducible exact gr_askRoom _ | with_reducible exact gr_mayShare _ _ _ _ _ | with_reducible exact gr_runtimePanic_error _ | with_reducible exact gr_choose _ | (with_reducible refine gr_bind (fun _ => ?_) _ ?_) | (with_reducible refine gr_ite ?_ ?_) | split | trivial)
def constNil : Operand → Bool
  | .const (.slice none _ _) => true
  | _ => false
def growB (o : Oper) : Bool :=
  match o.op with
  | .move _ | .assign _ | .alloc _ | .box .. | .build .. | .buildSlice .. => true
  | .call c => match c.callee with
    | .builtin .append => (c.args[0]?.map constNil).getD false
    | _ => false
  | _ => false
theorem gr_value {s : Sem Value} (h : gr s) : gr (do pure (Next.value (← s))) := gr_bind (fun _ => gr_pure _) _ h
theorem gr_execOp {o : Oper} (h : growB o = true) (ρ : Operand → Value) (hρ : ∀ v, ρ (.const v) = v) : gr (execOp ρ o) ∧ ∀ P w n w', (execOp ρ o).run P w = .ok n w' → ∃ v, n = .value v := by
  have key : ∀ s : Sem Value, ∀ P w n w', (do pure (Next.value (← s)) : Sem Next).run P w = .ok n w' → ∃ v, n = .value v := by
    intro s P w n w' e
    rw [Sem.run_bind] at e
    cases hs : s.run P w with
    | ok v w1 => rw [hs] at e; simp [Result.andThen, Sem.run_pure] at e; exact ⟨v, e.1.symm⟩
    | halt x w1 => rw [hs] at e; simp [Result.andThen] at e
  unfold growB at h
  unfold execOp
  split at h
  case h_7 =>
    rename_i c hop
    simp only [hop]
    split at h
    · rename_i hc
      obtain ⟨n, k, hk⟩ : ∃ n k, (c.args.map ρ)[0]? = some (.slice none n k) := by
        cases h0 : c.args[0]? with
        | none => rw [h0] at h; cases h
        | some x =>
          rw [h0] at h
          simp only [Option.map_some, Option.getD_some] at h
          unfold constNil at h
          split at h
          · exact ⟨_, _, by rw [Array.getElem?_map, h0, Option.map_some, hρ]⟩
          · cases h
      have e : (resolve ρ c o.type >>= fun d => invoke d.target d.args) = (do pure (Next.value (← Builtin.append_ c.argTypes o.type (c.args.map ρ)))) := by
        unfold resolve
        rw [hc]
        rfl
      rw [e]
      exact ⟨gr_value (gr_append_nil _ _ _ _ _ hk), key _⟩
    · cases h
  all_goals first | (cases h; done) | skip
  all_goals rename_i hop
  all_goals simp only [hop]
  · exact ⟨gr_pure _, fun P w n w' e => by simp [Sem.run_pure] at e; exact ⟨_, e.1.symm⟩⟩
  · exact ⟨gr_pure _, fun P w n w' e => by simp [Sem.run_pure] at e; exact ⟨_, e.1.symm⟩⟩
  · exact ⟨gr_value (gr_alloc _), key _⟩
  · exact ⟨gr_value (gr_box _ _), key _⟩
  · exact ⟨gr_value (gr_build _ _), key _⟩
  · exact ⟨gr_value (gr_buildSlice _ _ _), key _⟩
section
variable {P : Program} {ops : Array Oper} {Q : Exit → Act → World → Prop} {S : World → Prop}
def Hd (P : Program) (ops : Array Oper) (S : World → Prop) (K : Act → Prop) : List Nat → Act → Prop
  | [], a => K a
  | i :: r, a => ∃ o v, ops[i]? = some o ∧ YieldsIf P ops S o v a ∧ Hd P ops S K r (a.put o.dst v)
def Clear (ops : Array Oper) (x j : Nat) : Prop := ∀ ox oj, ops[x]? = some ox → ops[j]? = some oj → ox.apart ops oj = true
theorem hd_mono {K K' : Act → Prop} (h : ∀ a, K a → K' a) : ∀ (H : List Nat) (a : Act), Hd P ops S K H a → Hd P ops S K' H a
  | [], a, hh => h a hh
  | _ :: H, _, ⟨o, v, ho, hy, hh⟩ => ⟨o, v, ho, hy, hd_mono h H _ hh⟩
theorem hd_front {K : Act → Prop} {j : Nat} {oj : Oper} (hj : ops[j]? = some oj) (hsel : ∀ (j : Nat) (o : Oper) cs b, ops[j]? = some o → o.op ≠ .select cs b) (post : List Nat) :
    ∀ (pre : List Nat) (a : Act), (∀ x ∈ pre, Clear ops x j) → Hd P ops S K (pre ++ j :: post) a → ∃ v, YieldsIf P ops S oj v a ∧ Hd P ops S K (pre ++ post) (a.put oj.dst v)
  | [], a, _, ⟨o, v, ho, hy, h⟩ => by
    obtain rfl : o = oj := Option.some.inj (ho.symm.trans hj)
    exact ⟨v, hy, h⟩
  | x :: pre, a, hc, ⟨ox, u, hox, hyx, h⟩ => by
    obtain ⟨v, hyj, h2⟩ := hd_front hj hsel post pre _ (fun y hy => hc y (List.mem_cons_of_mem _ hy)) h
    obtain ⟨k1, k2, k3⟩ := Oper.apart_spec (hc x (List.mem_cons_self ..) ox oj hox hj)
    refine ⟨v, ?_, ox, u, hox, ?_, ?_⟩
    · exact hyj.of_same (execOp_put oj (fun cs b => hsel j oj cs b hj) a ox.dst u k1).symm (wanted_put oj a ox.dst u k1).symm
    · exact hyx.of_same (execOp_put ox (fun cs b => hsel x ox cs b hox) a oj.dst v k3) (wanted_put ox a oj.dst v k3)
    · rw [← Act.put_comm a u v k2]; exact h2
theorem wp_keep {o : Oper} {a : Act} {w : World} {K : Act → World → Prop} (hg : ∀ n w', (execOp a.eval o).run P w = .ok n w' → S w' ∧ ∃ v, n = .value v)
    (h : o.wp P a w K Q) : o.wp P a w (fun a' w' => S w' ∧ K a' w') Q := by
  unfold Oper.wp at *
  cases hr : (execOp a.eval o).run P w with
  | ok n w' =>
    obtain ⟨hS, v, rfl⟩ := hg n w' hr
    rw [hr] at h
    simp only [Oper.upon] at h ⊢
    exact ⟨hS, h⟩
  | halt x w' =>
    rw [hr] at h
    cases x <;> simp only [Oper.upon] at h ⊢ <;> exact h
theorem hd_push {K : Act → World → Prop} {j : Nat} {oj : Oper} (hj : ops[j]? = some oj) (hsel : ∀ (j : Nat) (o : Oper) cs b, ops[j]? = some o → o.op ≠ .select cs b)
    (hQ : ∀ c a d v w, Q (.panic c) (Act.put a d v) w → Q (.panic c) a w) {w : World} (hS : S w)
    (hg : ∀ (a : Act) n w', (execOp a.eval oj).run P w = .ok n w' → S w' ∧ ∃ v, n = .value v) :
    ∀ (H : List Nat) (a : Act), (∀ x ∈ H, Clear ops x j) → Hd P ops S (fun a' => wpOp P ops Q j K a' w) H a →
      wpOp P ops Q j (fun a'' w'' => S w'' ∧ Hd P ops S (fun a' => K a' w'') H a'') a w
  | [], a, _, h => by
    unfold Hd at h
    unfold wpOp at h ⊢
    simp only [hj] at h ⊢
    split
    · rename_i hw
      rw [if_pos hw] at h
      exact h.imp (fun h => wp_keep (hg a) h) id
    · rename_i hw
      rw [if_neg hw] at h
      exact ⟨hS, h⟩
  | x :: H, a, hc, ⟨ox, u, hox, hyx, h⟩ => by
    have ih := hd_push hj hsel hQ hS hg H _ (fun y hy => hc y (List.mem_cons_of_mem _ hy)) h
    have h2 := wpOp_putIf hj (hc x (List.mem_cons_self ..) ox oj hox hj) (fun cs b => hsel x ox cs b hox) (fun cs b => hsel j oj cs b hj) (fun c a w => hQ c a ox.dst u w) hyx ih
    exact wpOp_mono (fun a' w' ⟨hy, hS', hh⟩ => ⟨hS', ox, u, hox, hy, hh⟩) h2
def valB (o : Oper) : Bool :=
  match o.op with
  | .move _ | .assign _ | .pick .. | .load .. | .binOp .. | .unOp .. | .slice .. | .fieldAddr .. | .field .. | .indexAddr .. | .index .. | .extract .. | .build .. | .convert .. | .nilCheck _ => true
  | .call c => match c.callee with
    | .builtin .len => true
    | _ => false
  | _ => false
theorem val_key {P : Program} : ∀ s : Sem Value, ∀ w n w', (do pure (Next.value (← s)) : Sem Next).run P w = .ok n w' → ∃ v, n = .value v := by
  intro s w n w' e
  rw [Sem.run_bind] at e
  cases hs : s.run P w with
  | ok v w1 => rw [hs] at e; simp [Result.andThen, Sem.run_pure] at e; exact ⟨v, e.1.symm⟩
  | halt x w1 => rw [hs] at e; simp [Result.andThen] at e
theorem val_runtimePanic_nilDeref {P : Program} {α : Type} (w : World) (n : α) (w' : World) : (runtimePanic (α := α) .nilDeref).run P w ≠ .ok n w' := by
  intro e
  unfold runtimePanic at e
  rw [Sem.run_bind] at e
  simp [program, Sem.run, Result.andThen, goPanic] at e
theorem val_key2 {P : Program} {α : Type} (f : α → Value) : ∀ s : Sem α, ∀ w n w', (do let x ← s; pure (Next.value (f x)) : Sem Next).run P w = .ok n w' → ∃ v, n = .value v := by
  intro s w n w' e
  rw [Sem.run_bind] at e
  cases hs : s.run P w with
  | ok v w1 => rw [hs] at e; simp [Result.andThen, Sem.run_pure] at e; exact ⟨_, e.1.symm⟩
  | halt x w1 => rw [hs] at e; simp [Result.andThen] at e
theorem val_pure {P : Program} {x : Value} (w : World) (n : Next) (w' : World) (e : (pure (Next.value x) : Sem Next).run P w = .ok n w') : ∃ v, n = .value v := by
  simp [Sem.run_pure] at e
  exact ⟨_, e.1.symm⟩
theorem val_execOp {o : Oper} (h : valB o = true) (ρ : Operand → Value) : ∀ P w n w', (execOp ρ o).run P w = .ok n w' → ∃ v, n = .value v := by
  unfold valB at h
  unfold execOp
  split at h
  all_goals first | (cases h; done) | skip
  case h_15 =>
    rename_i x hop
    simp only [hop]
    intro P w n w' e
    split at e
    · exact absurd e (val_runtimePanic_nilDeref _ _ _)
    · exact absurd e (val_runtimePanic_nilDeref _ _ _)
    · exact absurd e (val_runtimePanic_nilDeref _ _ _)
    · split at e
      · exact absurd e (val_runtimePanic_nilDeref _ _ _)
      · rw [Sem.run_bind] at e
        cases hs : (program).run P w with
        | ok p w1 =>
          rw [hs] at e
          simp only [Result.andThen] at e
          rw [Sem.run_bind] at e
          generalize Sem.run P _ w1 = r at e
          cases r with
          | ok b w2 =>
            simp only [Result.andThen] at e
            split at e
            · simp [unsupported, Bind.bind, Sem.bind] at e
            · exact val_pure _ _ _ e
          | halt z w2 => simp [Result.andThen] at e
        | halt z w1 => rw [hs] at e; simp [Result.andThen] at e
      · exact val_pure _ _ _ e
    · exact val_pure _ _ _ e
  case h_16 =>
    rename_i c hop
    simp only [hop]
    split at h
    · rename_i hc
      intro P w n w' e
      have e2 : (resolve ρ c o.type >>= fun d => invoke d.target d.args) = (do pure (Next.value (← Builtin.len_ c.argTypes o.type (c.args.map ρ)))) := by
        unfold resolve
        rw [hc]
        rfl
      rw [e2] at e
      exact val_key _ _ _ _ e
    · cases h
  all_goals rename_i hop
  all_goals simp only [hop]
  all_goals intro P w n w' e
  all_goals first | exact val_pure _ _ _ e | exact val_key _ _ _ _ e | exact val_key2 (fun b => if b = true then ρ _ else ρ _) _ _ _ _ e
def pureB (o : Oper) : Bool := match o.op with | .move _ | .assign _ => true | _ => false
def vaB (o : Oper) : Bool := growB o || valB o || match o.op with
  | .call c => match c.callee with | .builtin .append => true | _ => false
  | _ => false
theorem pure_run {o : Oper} (h : pureB o = true) (ρ : Operand → Value) : ∃ v, ∀ (P : Program) (w : World), (execOp ρ o).run P w = .ok (.value v) w := by
  unfold pureB at h
  unfold execOp
  split at h
  · rename_i x hop; simp only [hop]; exact ⟨_, fun P w => rfl⟩
  · rename_i x hop; simp only [hop]; exact ⟨_, fun P w => rfl⟩
  · cases h
theorem va_execOp {o : Oper} (h : vaB o = true) (ρ : Operand → Value) (hρ : ∀ v, ρ (.const v) = v) : ∀ P w n w', (execOp ρ o).run P w = .ok n w' → ∃ v, n = .value v := by
  unfold vaB at h
  rcases Bool.or_eq_true_iff.1 h with h | h
  · rcases Bool.or_eq_true_iff.1 h with h | h
    · exact (gr_execOp h ρ hρ).2
    · exact val_execOp h ρ
  · unfold execOp
    split at h
    · rename_i c hop
      simp only [hop]
      split at h
      · rename_i hc
        intro P w n w' e
        have e2 : (resolve ρ c o.type >>= fun d => invoke d.target d.args) = (do pure (Next.value (← Builtin.append_ c.argTypes o.type (c.args.map ρ)))) := by
          unfold resolve
          rw [hc]
          rfl
        rw [e2] at e
        exact val_key _ _ _ _ e
      · cases h
    · cases h
theorem hd_pure {w : World} (hS : S w) {K : Act → Prop} : ∀ (H : List Nat) (a : Act), (∀ x ∈ H, ∀ o, ops[x]? = some o → pureB o = true) → Hd P ops S K H a → Hd P ops (fun _ => True) K H a
  | [], _, _, h => h
  | x :: H, a, hp, ⟨o, v, ho, hy, h⟩ => by
    refine ⟨o, v, ho, ?_, hd_pure hS H _ (fun y hy => hp y (List.mem_cons_of_mem _ hy)) h⟩
    rcases hy with ⟨h1, h2⟩ | h1
    · obtain ⟨u, hu⟩ := pure_run (hp x (List.mem_cons_self ..) o ho) a.eval
      have h3 := h2 w hS
      rw [hu P w] at h3
      injection h3 with h4
      injection h4 with h5
      subst h5
      exact .inl ⟨h1, fun w' _ => hu P w'⟩
    · exact .inr h1
theorem getD_both {listed : Array Bool} {i : Nat} (h : listed.getD i true = false) : listed.getD i false = false := by
  rcases Nat.lt_or_ge i listed.size with h' | h'
  · simp [h'] at h ⊢; exact h
  · simp [Array.getElem?_eq_none h'] at h
theorem getD_in {listed : Array Bool} {i : Nat} (hi : i < listed.size) (h : listed.getD i false = false) : listed.getD i true = false := by
  simp [hi] at h ⊢; exact h
theorem getD_replicate_false (m j : Nat) : (Array.replicate m false).getD j false = false := by
  rcases Nat.lt_or_ge j m with h | h
  · simp [h]
  · simp [h]
def depB (ops : Array Oper) : Nat → Nat → Nat → Bool
  | 0, _, _ => false
  | f + 1, j, x => match ops[j]? with
    | some oj => oj.after.any fun e => Region.binds .any e && (e.on == x || depB ops f e.on x)
    | none => false
structure Closed (ops : Array Oper) (listed : Array Bool) : Prop where
  out : ∀ j oj, ops[j]? = some oj → listed.getD j false = true → ∀ e ∈ oj.after, Region.binds .any e = true → listed.getD e.on false = true
theorem Closed.dep {listed : Array Bool} (hc : Closed ops listed) : ∀ (f j x : Nat), listed.getD j false = true → depB ops f j x = true → listed.getD x false = true
  | 0, _, _, _, h => by cases h
  | f + 1, j, x, hl, h => by
    unfold depB at h
    split at h
    · rename_i oj hj
      obtain ⟨e, he, hb⟩ := Array.any_eq_true'.1 h
      simp only [Bool.and_eq_true, Bool.or_eq_true, beq_iff_eq] at hb
      have h1 := hc.out j oj hj hl e he hb.1
      rcases hb.2 with h2 | h2
      · rw [← h2]; exact h1
      · exact hc.dep f _ _ h1 h2
    · cases h
theorem ready_dep {listed : Array Bool} (hc : Closed ops listed) {j : Nat} (hr : j ∈ Region.ready .any ops listed) : ∀ (f x : Nat), depB ops f j x = true → listed.getD x false = true
  | 0, _, h => by cases h
  | f + 1, x, h => by
    obtain ⟨_, oj, hj, hall⟩ := mem_ready.1 hr
    unfold depB at h
    simp only [hj] at h
    obtain ⟨e, he, hb⟩ := Array.any_eq_true'.1 h
    simp only [Bool.and_eq_true, Bool.or_eq_true, beq_iff_eq] at hb
    have h1 := hall e he hb.1
    rcases hb.2 with h2 | h2
    · rw [← h2]; exact h1
    · exact hc.dep f _ _ h1 h2
theorem Closed.step {listed : Array Bool} (hc : Closed ops listed) {j : Nat} (hr : j ∈ Region.ready .any ops listed) : Closed ops (listed.setIfInBounds j true) := by
  obtain ⟨_, oj, hj, hall⟩ := mem_ready.1 hr
  refine ⟨fun k ok hk hl e he hb => ?_⟩
  by_cases hjk : j = k
  · subst hjk
    obtain rfl : ok = oj := Option.some.inj (hk.symm.trans hj)
    exact getD_set_true (hall e he hb)
  · rw [getD_set_ne false hjk] at hl
    exact getD_set_true (hc.out k ok hk hl e he hb)
def waitsB (ops : Array Oper) (y x : Nat) : Bool := match ops[y]? with
  | some oy => oy.after.any fun e => Region.binds .any e && e.on == x
  | none => false
def apartB (ops : Array Oper) (x j : Nat) : Bool := match ops[x]?, ops[j]? with
  | some ox, some oj => ox.apart ops oj
  | _, _ => false
def growAt (ops : Array Oper) (j : Nat) : Bool := match ops[j]? with
  | some oj => growB oj
  | none => false
def pureAt (ops : Array Oper) (x y : Nat) : Bool := match ops[x]?, ops[y]? with
  | some ox, some oy => pureB ox && vaB oy
  | _, _ => false
def HH (ops : Array Oper) (x y : Nat) : Prop := waitsB ops x y = false ∧ (depB ops ops.size y x = true ∨ apartB ops x y = true)
def TT (ops : Array Oper) (x y : Nat) : Prop := waitsB ops x y = false ∧ depB ops ops.size y x = true
def HT (ops : Array Oper) (x y : Nat) : Prop := waitsB ops x y = false ∧ (depB ops ops.size y x = true ∨ ((growAt ops y = true ∨ pureAt ops x y = true) ∧ apartB ops x y = true))
instance (ops : Array Oper) (x y : Nat) : Decidable (HH ops x y) := by unfold HH; infer_instance
instance (ops : Array Oper) (x y : Nat) : Decidable (TT ops x y) := by unfold TT; infer_instance
instance (ops : Array Oper) (x y : Nat) : Decidable (HT ops x y) := by unfold HT; infer_instance
theorem clear_of {x j : Nat} (h : apartB ops x j = true) : Clear ops x j := by
  intro ox oj hx hj
  unfold apartB at h
  rw [hx, hj] at h
  exact h
def edgeB (ops : Array Oper) : Bool := (List.range ops.size).all fun i => match ops[i]? with
  | some o => o.after.all fun e => !Region.binds .any e || decide (e.on < i)
  | none => true
theorem edge_spec (h : edgeB ops = true) {i : Nat} {o : Oper} (hi : ops[i]? = some o) {e : Edge} (he : e ∈ o.after) (hb : Region.binds .any e = true) : e.on < i := by
  have h1 := List.all_eq_true.1 h i (List.mem_range.2 (Array.getElem?_eq_some_iff.1 hi).1)
  simp only [hi] at h1
  have h2 := Array.all_eq_true_iff_forall_mem.1 h1 e he
  simpa [hb] using h2
structure Inv (ops : Array Oper) (H T : List Nat) (listed : Array Bool) : Prop where
  size : listed.size = ops.size
  closed : Closed ops listed
  un : ∀ j, j < ops.size → (listed.getD j true = false ↔ j ∈ H ++ T)
  lt : ∀ j ∈ H ++ T, j < ops.size
  nodup : (H ++ T).Nodup
  hh : H.Pairwise (HH ops)
  tt : T.Pairwise (TT ops)
  ht : ∀ x ∈ H, ∀ y ∈ T, HT ops x y
theorem unlisted {H T : List Nat} {listed : Array Bool} (inv : Inv ops H T listed) {x : Nat} (hx : x ∈ H ++ T) : listed.getD x false = false :=
  getD_both ((inv.un x (inv.lt x hx)).2 hx)
theorem inv_ready {H T : List Nat} {listed : Array Bool} (he : edgeB ops = true) (inv : Inv ops H T listed) (hne : H ++ T ≠ []) : Region.ready .any ops listed ≠ [] := by
  obtain ⟨x, l, hl⟩ := List.exists_cons_of_ne_nil hne
  have hx : x ∈ H ++ T := by rw [hl]; exact List.mem_cons_self ..
  have hw : ∀ y ∈ l, waitsB ops x y = false := by
    intro y hy
    cases H with
    | nil =>
      simp only [List.nil_append] at hl
      have := inv.tt
      rw [hl] at this
      exact ((List.pairwise_cons.1 this).1 y hy).1
    | cons x' H' =>
      simp only [List.cons_append, List.cons.injEq] at hl
      obtain ⟨rfl, hl⟩ := hl
      rw [← hl] at hy
      rcases List.mem_append.1 hy with hy | hy
      · exact ((List.pairwise_cons.1 inv.hh).1 y hy).1
      · exact (inv.ht x' (List.mem_cons_self ..) y hy).1
  have hlt := inv.lt x hx
  obtain ⟨o, ho⟩ : ∃ o, ops[x]? = some o := ⟨_, Array.getElem?_eq_getElem hlt⟩
  have hr : x ∈ Region.ready .any ops listed := by
    rw [mem_ready]
    refine ⟨(inv.un x hlt).2 hx, o, ho, fun e hm hb => ?_⟩
    have hlte := edge_spec he ho hm hb
    cases hq : listed.getD e.on false with
    | true => rfl
    | false =>
      have h1 : listed.getD e.on true = false := getD_in (by rw [inv.size]; omega) hq
      have h2 := (inv.un e.on (by omega)).1 h1
      rw [hl] at h2
      rcases List.mem_cons.1 h2 with h3 | h3
      · omega
      · have h4 := hw _ h3
        unfold waitsB at h4
        rw [ho] at h4
        have h5 : (o.after.any fun e' => Region.binds .any e' && e'.on == e.on) = true := Array.any_eq_true'.2 ⟨e, hm, by simp [hb]⟩
        simp only [h5] at h4
        cases h4
  intro h0
  rw [h0] at hr
  cases hr
theorem un_step {L L' : List Nat} {listed : Array Bool} {j : Nat} (hsz : listed.size = ops.size) (hj : j < ops.size) (hun : ∀ k, k < ops.size → (listed.getD k true = false ↔ k ∈ L))
    (hL : ∀ k, k ∈ L ↔ k = j ∨ k ∈ L') (hn : j ∉ L') : ∀ k, k < ops.size → ((listed.setIfInBounds j true).getD k true = false ↔ k ∈ L') := by
  intro k hk
  by_cases hjk : j = k
  · subst hjk
    simp [hsz, hj, hn]
  · rw [getD_set_ne true hjk, hun k hk, hL]
    constructor
    · rintro (h | h)
      · exact absurd h.symm hjk
      · exact h
    · exact Or.inr
theorem nodup_middle {a : Nat} {l₁ l₂ : List Nat} : (l₁ ++ a :: l₂).Nodup ↔ (a :: (l₁ ++ l₂)).Nodup := List.perm_middle.nodup_iff
theorem inv_head {pre post T : List Nat} {listed : Array Bool} {j : Nat} (inv : Inv ops (pre ++ j :: post) T listed) (hr : j ∈ Region.ready .any ops listed) : Inv ops (pre ++ post) T (listed.setIfInBounds j true) := by
  have hmem : ∀ k, k ∈ (pre ++ j :: post) ++ T ↔ k = j ∨ k ∈ (pre ++ post) ++ T := by
    intro k; simp only [List.mem_append, List.mem_cons]; constructor
    · rintro ((h | h | h) | h) <;> simp [h]
    · rintro (h | (h | h) | h) <;> simp [h]
  have hnd : j ∉ (pre ++ post) ++ T := by
    have h := inv.nodup
    rw [List.append_assoc, List.cons_append] at h
    have h1 := (nodup_middle.1 h)
    rw [List.append_assoc]
    exact (List.nodup_cons.1 h1).1
  refine ⟨by simp [inv.size], inv.closed.step hr, un_step inv.size (inv.lt j (by simp)) inv.un hmem hnd, fun k hk => inv.lt k ((hmem k).2 (.inr hk)), ?_, ?_, inv.tt, ?_⟩
  · have h := inv.nodup
    rw [List.append_assoc, List.cons_append] at h
    rw [List.append_assoc]
    exact (List.nodup_cons.1 (nodup_middle.1 h)).2
  · exact inv.hh.sublist (List.Sublist.append_left (List.sublist_cons_self ..) _)
  · intro x hx y hy
    refine inv.ht x ?_ y hy
    rcases List.mem_append.1 hx with h | h <;> simp [h]
theorem inv_tail {H T : List Nat} {listed : Array Bool} {j : Nat} (inv : Inv ops H (j :: T) listed) (hr : j ∈ Region.ready .any ops listed) : Inv ops H T (listed.setIfInBounds j true) := by
  have hmem : ∀ k, k ∈ H ++ j :: T ↔ k = j ∨ k ∈ H ++ T := by
    intro k; simp only [List.mem_append, List.mem_cons]; constructor
    · rintro (h | h | h) <;> simp [h]
    · rintro (h | h | h) <;> simp [h]
  have hnd := List.nodup_cons.1 (nodup_middle.1 inv.nodup)
  refine ⟨by simp [inv.size], inv.closed.step hr, un_step inv.size (inv.lt j (by simp)) inv.un hmem hnd.1, fun k hk => inv.lt k ((hmem k).2 (.inr hk)), hnd.2, inv.hh, (List.pairwise_cons.1 inv.tt).2, fun x hx y hy => inv.ht x hx y (List.mem_cons_of_mem _ hy)⟩
theorem ht_any (he : edgeB ops = true) (hsel : ∀ (j : Nat) (o : Oper) cs b, ops[j]? = some o → o.op ≠ .select cs b) (hQ : ∀ c a d v w, Q (.panic c) (Act.put a d v) w → Q (.panic c) a w)
    : ∀ (f : Nat) {S : World → Prop}, (∀ w w', S w → GrC w w' → S w') → ∀ (H T : List Nat) (listed : Array Bool) (a : Act) (w : World), (H ++ T).length = f → Inv ops H T listed → (S w ∨ H = []) →
      Hd P ops S (fun a' => wpOps P ops Q T a' w) H a → wpAny P .any ops Q f listed a w := by
  intro f
  induction f with
  | zero =>
    intro S hSg H T listed a w hf inv hS h
    have h0 := List.eq_nil_of_length_eq_zero hf
    obtain ⟨rfl, rfl⟩ := List.append_eq_nil_iff.1 h0
    refine ⟨List.eq_nil_iff_forall_not_mem.2 fun j hj => ?_, by simpa [Hd, wpOps] using h⟩
    obtain ⟨h1, o, ho, _⟩ := mem_ready.1 hj
    have := (inv.un j (Array.getElem?_eq_some_iff.1 ho).1).1 h1
    cases this
  | succ f ih =>
    intro S hSg H T listed a w hf inv hS h
    refine ⟨fun h0 => absurd h0 (inv_ready he inv (by intro e; rw [e] at hf; cases hf)), fun j hj => ?_⟩
    obtain ⟨h1, oj, hoj, _⟩ := mem_ready.1 hj
    have hm := (inv.un j (Array.getElem?_eq_some_iff.1 hoj).1).1 h1
    have no : ∀ x ∈ H ++ T, depB ops ops.size j x ≠ true := fun x hx hd => by
      have := ready_dep inv.closed hj _ _ hd
      rw [unlisted inv hx] at this
      cases this
    rcases List.mem_append.1 hm with hmH | hmT
    · obtain ⟨pre, post, rfl⟩ := List.append_of_mem hmH
      have hcl : ∀ x ∈ pre, Clear ops x j := fun x hx => by
        have h2 := ((List.pairwise_append.1 inv.hh).2.2 x hx j (List.mem_cons_self ..)).2
        exact clear_of (h2.resolve_left (no x (by simp [hx])))
      obtain ⟨v, hy, hd⟩ := hd_front hoj hsel post pre a hcl h
      have hSw : S w := hS.resolve_right (by simp)
      refine hy.wpOp hoj hSw (ih hSg (pre ++ post) T _ _ _ ?_ (inv_head inv hj) (.inl hSw) hd)
      simp only [List.length_append, List.length_cons] at hf ⊢
      omega
    · obtain ⟨pre, post, rfl⟩ := List.append_of_mem hmT
      have hpre : pre = [] := by
        cases pre with
        | nil => rfl
        | cons x pre' =>
          have h2 := ((List.pairwise_append.1 inv.tt).2.2 x (List.mem_cons_self ..) j (List.mem_cons_self ..)).2
          exact absurd h2 (no x (by simp))
      subst hpre
      simp only [List.nil_append] at *
      have hlen : (H ++ post).length = f := by
        simp only [List.length_append, List.length_cons] at hf ⊢
        omega
      cases H with
      | nil =>
        have h2 : wpOp P ops Q j (wpOps P ops Q post) a w := by rw [← wpOps_cons]; exact h
        exact wpOp_mono (fun a' w' h3 => ih hSg [] post _ _ _ hlen (inv_tail inv hj) (.inr rfl) h3) h2
      | cons x0 H' =>
        have hg := fun x hx => ((inv.ht x hx j (List.mem_cons_self ..)).2).resolve_left (no x (List.mem_append_left _ hx))
        have hSw : S w := hS.resolve_right (by simp)
        have h2 : Hd P ops S (fun a' => wpOp P ops Q j (wpOps P ops Q post) a' w) (x0 :: H') a := hd_mono (fun a' h3 => by rw [← wpOps_cons]; exact h3) _ _ h
        by_cases hgj : growB oj = true
        · have h3 := hd_push hoj hsel hQ hSw (fun a n w' e => by
            obtain ⟨g1, g2⟩ := gr_execOp hgj a.eval (fun _ => rfl)
            exact ⟨hSg _ _ hSw (gr_run _ _ g1 e), g2 P w n w' e⟩) _ _ (fun x hx => clear_of (hg x hx).2) h2
          exact wpOp_mono (fun a' w' ⟨h4, h5⟩ => ih hSg (x0 :: H') post _ _ _ hlen (inv_tail inv hj) (.inl h4) h5) h3
        · have hpu : ∀ x ∈ x0 :: H', ∀ o, ops[x]? = some o → pureB o = true ∧ vaB oj = true := fun x hx o ho => by
            have h3 := (hg x hx).1.resolve_left (by unfold growAt; rw [hoj]; exact hgj)
            unfold pureAt at h3
            rw [ho, hoj] at h3
            simpa using h3
          obtain ⟨ox0, hox0⟩ : ∃ o, ops[x0]? = some o := ⟨_, Array.getElem?_eq_getElem (inv.lt x0 (by simp))⟩
          have hva := (hpu x0 (List.mem_cons_self ..) ox0 hox0).2
          have h3 := hd_push (S := fun _ => True) hoj hsel hQ trivial (fun a n w' e => ⟨trivial, va_execOp hva a.eval (fun _ => rfl) P w n w' e⟩) _ _ (fun x hx => clear_of (hg x hx).2) (hd_pure hSw _ _ (fun x hx o ho => (hpu x hx o ho).1) h2)
          exact wpOp_mono (fun a' w' ⟨_, h5⟩ => ih (S := fun _ => True) (fun _ _ _ _ => trivial) (x0 :: H') post _ _ _ hlen (inv_tail inv hj) (.inl trivial) h5) h3
def htB (ops : Array Oper) (H T : List Nat) : Bool :=
  Region.noSelect ops && edgeB ops && decide (H ++ T).Nodup && (List.range ops.size).all (fun j => (H ++ T).contains j) && (H ++ T).all (fun j => decide (j < ops.size)) && decide (H.Pairwise (HH ops)) && decide (T.Pairwise (TT ops)) && (H.all fun x => T.all fun y => decide (HT ops x y))
theorem wp_region_Hd {id : Nat} (H T : List Nat) (hm : P.follows .mixedOrders = true) (hB : htB ops H T = true) {a : Act} {w : World} (hQ : ∀ c a d v w, Q (.panic c) (Act.put a d v) w → Q (.panic c) a w)
    (h : Hd P ops (fun w' => ∃ p : GrownN, w' = grow (w.drewN p.n) p.os) (fun a' => wpOps P ops Q T a' w.drew) H a) : (Code.region id ops true).wp P Q a w := by
  unfold htB at hB
  simp only [Bool.and_eq_true, decide_eq_true_eq] at hB
  obtain ⟨⟨⟨⟨⟨⟨⟨b1, b2⟩, b3⟩, b4⟩, b5⟩, b6⟩, b7⟩, b8⟩ := hB
  have hin : ∀ j, j < ops.size → j ∈ H ++ T := fun j hj => by simpa using List.all_eq_true.1 b4 j (List.mem_range.2 hj)
  have hlt : ∀ j ∈ H ++ T, j < ops.size := fun j hj => by simpa using List.all_eq_true.1 b5 j hj
  have hlen : (H ++ T).length = ops.size := by
    have hp : (H ++ T).Perm (List.range ops.size) := (List.perm_ext_iff_of_nodup b3 List.nodup_range).2 fun j => ⟨fun hj => List.mem_range.2 (hlt j hj), fun hj => hin j (List.mem_range.1 hj)⟩
    rw [hp.length_eq, List.length_range]
  refine wp_region_any hm (ht_any (S := fun w' => ∃ p : GrownN, w' = grow (w.drewN p.n) p.os) b2 (Region.noSelect_spec b1) hQ _ ?_ H T _ _ _ hlen ⟨by simp, ⟨?_⟩, ?_, hlt, b3, b6, b7, ?_⟩ (.inl ?_) h)
  · exact fun w1 w2 h1 h2 => GrC.trans (w := w) h1 h2
  · intro j oj hj hl
    rw [getD_replicate_false] at hl
    cases hl
  · intro j hj
    simp [hj, hin j hj]
  · intro x hx y hy
    have := List.all_eq_true.1 (List.all_eq_true.1 b8 x hx) y hy
    simpa using this
  · exact ⟨⟨1, #[]⟩, by simp [World.drewN]⟩
theorem hd_of_quiet {K : Act → Prop} : ∀ (H : List Nat) (l : List Oper) (a : Act), H.map (fun i => ops[i]?) = l.map some → l.all valB = true → wpQuiet P ops S K l a → Hd P ops S K H a
  | [], l, a, hl, hv, h => by
    cases l with
    | nil => exact h
    | cons o l => cases hl
  | i :: H, l, a, hl, hv, h => by
    cases l with
    | nil => cases hl
    | cons o l =>
      simp only [List.map_cons, List.cons.injEq] at hl
      simp only [List.all_cons, Bool.and_eq_true] at hv
      unfold wpQuiet at h
      by_cases hw : Region.wanted o (yielded ops a.tmps) = true
      · rw [if_pos hw] at h
        obtain ⟨v, h1, h2⟩ := h
        refine ⟨o, v, hl.1, .inl ⟨hw, fun w hS => ?_⟩, hd_of_quiet H l _ hl.2 hv.2 h2⟩
        have h3 := h1 w hS
        unfold Oper.quietAt at h3
        cases hr : (execOp a.eval o).run P w with
        | ok n w' =>
          obtain ⟨u, rfl⟩ := val_execOp hv.1 a.eval P w n w' hr
          rw [hr] at h3
          obtain ⟨rfl, rfl⟩ := h3
          rfl
        | halt x w' => rw [hr] at h3; cases h3
      · rw [if_neg hw] at h
        exact ⟨o, undef, hl.1, .inr ⟨by simpa using hw, rfl⟩, hd_of_quiet H l _ hl.2 hv.2 h⟩
theorem wpList_of_nums : ∀ (T : List Nat) (l : List Oper) (a : Act) (w : World), T.map (fun i => ops[i]?) = l.map some → wpList P ops Q l a w → wpOps P ops Q T a w
  | [], l, a, w, hl, h => by
    cases l with
    | nil => simpa [wpOps, wpList] using h
    | cons o l => cases hl
  | i :: T, l, a, w, hl, h => by
    cases l with
    | nil => cases hl
    | cons o l =>
      simp only [List.map_cons, List.cons.injEq] at hl
      rw [wpOps_cons]
      unfold wpOp
      simp only [hl.1]
      unfold wpList at h
      split
      · rename_i hw
        rw [if_pos hw] at h
        exact h.imp (Oper.wp_mono fun a' w' => wpList_of_nums T l a' w' hl.2) id
      · rename_i hw
        rw [if_neg hw] at h
        exact wpList_of_nums T l _ _ hl.2 h
theorem wp_region_ht {id : Nat} {l : List Oper} (H T : List Nat) (lH lT : List Oper) (hm : P.follows .mixedOrders = true) (hB : htB l.toArray H T = true) (h1 : H.map (fun i => l.toArray[i]?) = lH.map some) (h2 : T.map (fun i => l.toArray[i]?) = lT.map some) (hv : lH.all valB = true)
    {a : Act} {w : World} (hQ : ∀ c a d v w, Q (.panic c) (Act.put a d v) w → Q (.panic c) a w)
    (h : wpQuiet P l.toArray (fun w' => ∃ p : GrownN, w' = grow (w.drewN p.n) p.os) (fun a' => wpList P l.toArray Q lT a' w.drew) lH a) : (Code.region id l.toArray true).wp P Q a w :=
  wp_region_Hd H T hm hB hQ (hd_mono (fun a' h3 => wpList_of_nums T lT a' _ h2 h3) _ _ (hd_of_quiet H lH a h1 hv h))
def pick (l : List Oper) : List Nat → List Oper
  | [] => []
  | i :: r => (match l[i]? with | some o => [o] | none => []) ++ pick l r
theorem wp_region_hp {id : Nat} {l : List Oper} (H T : List Nat) (hm : P.follows .mixedOrders = true) (hB : htB l.toArray H T = true) (h1 : H.map (fun i => l.toArray[i]?) = (pick l H).map some) (h2 : T.map (fun i => l.toArray[i]?) = (pick l T).map some) (hv : (pick l H).all valB = true)
    {a : Act} {w : World} (hQ : ∀ c a d v w, Q (.panic c) (Act.put a d v) w → Q (.panic c) a w)
    (h : wpQuiet P l.toArray (fun w' => ∃ p : GrownN, w' = grow (w.drewN p.n) p.os) (fun a' => wpList P l.toArray Q (pick l T) a' w.drew) (pick l H) a) : (Code.region id l.toArray true).wp P Q a w :=
  wp_region_ht H T _ _ hm hB h1 h2 hv hQ h
theorem blk_gr {w : World} {g : Nat} {t : TypeId} {cs : Array Value} (h : w.heap[g]? = some (.cells cs t (0, 0))) : ∀ (n : Nat) (os : Array Obj) (j : Nat), (grow (w.drewN n) os).cell? ⟨g, j, none⟩ = cs[j]? := by
  intro n os j
  have hb : g < (w.drewN n).heap.size := (Array.getElem?_eq_some_iff.1 h).1
  rw [cell?_grow _ _ ⟨g, j, none⟩ hb]
  simp [World.cell?, World.drewN, h]
def tailNext (ops : Array Oper) (T : List Nat) : List Nat := T.filter fun j => T.all fun x => x == j || !depB ops ops.size j x
def wpTail (P : Program) (ops : Array Oper) (Q : Exit → Act → World → Prop) : Nat → List Nat → Act → World → Prop
  | 0, _, a, w => Q .normal a w
  | n + 1, T, a, w => ∀ j ∈ tailNext ops T, wpOp P ops Q j (wpTail P ops Q n (T.erase j)) a w
structure InvT (ops : Array Oper) (H T : List Nat) (listed : Array Bool) : Prop where
  size : listed.size = ops.size
  closed : Closed ops listed
  un : ∀ j, j < ops.size → (listed.getD j true = false ↔ j ∈ H ++ T)
  lt : ∀ j ∈ H ++ T, j < ops.size
  nodup : (H ++ T).Nodup
  hh : H.Pairwise (HH ops)
  tt : T.Pairwise (fun x y => waitsB ops x y = false)
  ht : ∀ x ∈ H, ∀ y ∈ T, HT ops x y
theorem invT_ready {H T : List Nat} {listed : Array Bool} (he : edgeB ops = true) (inv : InvT ops H T listed) (hne : H ++ T ≠ []) : Region.ready .any ops listed ≠ [] := by
  obtain ⟨x, l, hl⟩ := List.exists_cons_of_ne_nil hne
  have hx : x ∈ H ++ T := by rw [hl]; exact List.mem_cons_self ..
  have hw : ∀ y ∈ l, waitsB ops x y = false := by
    intro y hy
    cases H with
    | nil =>
      simp only [List.nil_append] at hl
      have := inv.tt
      rw [hl] at this
      exact (List.pairwise_cons.1 this).1 y hy
    | cons x' H' =>
      simp only [List.cons_append, List.cons.injEq] at hl
      obtain ⟨rfl, hl⟩ := hl
      rw [← hl] at hy
      rcases List.mem_append.1 hy with hy | hy
      · exact ((List.pairwise_cons.1 inv.hh).1 y hy).1
      · exact (inv.ht x' (List.mem_cons_self ..) y hy).1
  have hlt := inv.lt x hx
  obtain ⟨o, ho⟩ : ∃ o, ops[x]? = some o := ⟨_, Array.getElem?_eq_getElem hlt⟩
  have hr : x ∈ Region.ready .any ops listed := by
    rw [mem_ready]
    refine ⟨(inv.un x hlt).2 hx, o, ho, fun e hm hb => ?_⟩
    have hlte := edge_spec he ho hm hb
    cases hq : listed.getD e.on false with
    | true => rfl
    | false =>
      have h1 : listed.getD e.on true = false := getD_in (by rw [inv.size]; omega) hq
      have h2 := (inv.un e.on (by omega)).1 h1
      rw [hl] at h2
      rcases List.mem_cons.1 h2 with h3 | h3
      · omega
      · have h4 := hw _ h3
        unfold waitsB at h4
        rw [ho] at h4
        have h5 : (o.after.any fun e' => Region.binds .any e' && e'.on == e.on) = true := Array.any_eq_true'.2 ⟨e, hm, by simp [hb]⟩
        simp only [h5] at h4
        cases h4
  intro h0
  rw [h0] at hr
  cases hr
theorem invT_head {pre post T : List Nat} {listed : Array Bool} {j : Nat} (inv : InvT ops (pre ++ j :: post) T listed) (hr : j ∈ Region.ready .any ops listed) : InvT ops (pre ++ post) T (listed.setIfInBounds j true) := by
  have hmem : ∀ k, k ∈ (pre ++ j :: post) ++ T ↔ k = j ∨ k ∈ (pre ++ post) ++ T := by
    intro k; simp only [List.mem_append, List.mem_cons]; constructor
    · rintro ((h | h | h) | h) <;> simp [h]
    · rintro (h | (h | h) | h) <;> simp [h]
  have hnd : j ∉ (pre ++ post) ++ T := by
    have h := inv.nodup
    rw [List.append_assoc, List.cons_append] at h
    have h1 := (nodup_middle.1 h)
    rw [List.append_assoc]
    exact (List.nodup_cons.1 h1).1
  refine ⟨by simp [inv.size], inv.closed.step hr, un_step inv.size (inv.lt j (by simp)) inv.un hmem hnd, fun k hk => inv.lt k ((hmem k).2 (.inr hk)), ?_, ?_, inv.tt, ?_⟩
  · have h := inv.nodup
    rw [List.append_assoc, List.cons_append] at h
    rw [List.append_assoc]
    exact (List.nodup_cons.1 (nodup_middle.1 h)).2
  · exact inv.hh.sublist (List.Sublist.append_left (List.sublist_cons_self ..) _)
  · intro x hx y hy
    refine inv.ht x ?_ y hy
    rcases List.mem_append.1 hx with h | h <;> simp [h]
theorem invT_tail {H T : List Nat} {listed : Array Bool} {j : Nat} (inv : InvT ops H T listed) (hj : j ∈ T) (hr : j ∈ Region.ready .any ops listed) : InvT ops H (T.erase j) (listed.setIfInBounds j true) := by
  have hndT : T.Nodup := (List.nodup_append.1 inv.nodup).2.1
  have hjH : j ∉ H := fun h => (List.nodup_append.1 inv.nodup).2.2 j h j hj rfl
  have hmem : ∀ k, k ∈ H ++ T ↔ k = j ∨ k ∈ H ++ T.erase j := by
    intro k
    simp only [List.mem_append, hndT.mem_erase_iff]
    by_cases hk : k = j
    · subst hk; simp [hj]
    · simp [hk]
  have hnd : j ∉ H ++ T.erase j := by simp [hndT.mem_erase_iff, hjH]
  have hsub : (T.erase j).Sublist T := List.erase_sublist
  refine ⟨by simp [inv.size], inv.closed.step hr, un_step inv.size (inv.lt j (by simp [hj])) inv.un hmem hnd, fun k hk => inv.lt k ((hmem k).2 (.inr hk)), inv.nodup.sublist (List.Sublist.append_left hsub _), inv.hh, inv.tt.sublist hsub, fun x hx y hy => inv.ht x hx y (hsub.subset hy)⟩
theorem ht_tree (he : edgeB ops = true) (hsel : ∀ (j : Nat) (o : Oper) cs b, ops[j]? = some o → o.op ≠ .select cs b) (hQ : ∀ c a d v w, Q (.panic c) (Act.put a d v) w → Q (.panic c) a w)
    : ∀ (f : Nat) {S : World → Prop}, (∀ w w', S w → GrC w w' → S w') → ∀ (H T : List Nat) (listed : Array Bool) (a : Act) (w : World), (H ++ T).length = f → InvT ops H T listed → (S w ∨ H = []) →
      Hd P ops S (fun a' => wpTail P ops Q T.length T a' w) H a → wpAny P .any ops Q f listed a w := by
  intro f
  induction f with
  | zero =>
    intro S hSg H T listed a w hf inv hS h
    have h0 := List.eq_nil_of_length_eq_zero hf
    obtain ⟨rfl, rfl⟩ := List.append_eq_nil_iff.1 h0
    refine ⟨List.eq_nil_iff_forall_not_mem.2 fun j hj => ?_, by simpa [Hd, wpTail] using h⟩
    obtain ⟨h1, o, ho, _⟩ := mem_ready.1 hj
    have := (inv.un j (Array.getElem?_eq_some_iff.1 ho).1).1 h1
    cases this
  | succ f ih =>
    intro S hSg H T listed a w hf inv hS h
    refine ⟨fun h0 => absurd h0 (invT_ready he inv (by intro e; rw [e] at hf; cases hf)), fun j hj => ?_⟩
    obtain ⟨h1, oj, hoj, _⟩ := mem_ready.1 hj
    have hm := (inv.un j (Array.getElem?_eq_some_iff.1 hoj).1).1 h1
    have no : ∀ x ∈ H ++ T, depB ops ops.size j x ≠ true := fun x hx hd => by
      have h5 := ready_dep inv.closed hj _ _ hd
      rw [getD_both ((inv.un x (inv.lt x hx)).2 hx)] at h5
      cases h5
    rcases List.mem_append.1 hm with hmH | hmT
    · obtain ⟨pre, post, rfl⟩ := List.append_of_mem hmH
      have hcl : ∀ x ∈ pre, Clear ops x j := fun x hx => by
        have h2 := ((List.pairwise_append.1 inv.hh).2.2 x hx j (List.mem_cons_self ..)).2
        exact clear_of (h2.resolve_left (no x (by simp [hx])))
      obtain ⟨v, hy, hd⟩ := hd_front hoj hsel post pre a hcl h
      have hSw : S w := hS.resolve_right (by simp)
      refine hy.wpOp hoj hSw (ih hSg (pre ++ post) T _ _ _ ?_ (invT_head inv hj) (.inl hSw) hd)
      simp only [List.length_append, List.length_cons] at hf ⊢
      omega
    · have hn : j ∈ tailNext ops T := by
        unfold tailNext
        rw [List.mem_filter]
        refine ⟨hmT, List.all_eq_true.2 fun x hx => ?_⟩
        have := no x (List.mem_append_right _ hx)
        simp [this]
      have hlT : T.length = (T.erase j).length + 1 := by
        rw [List.length_erase_of_mem hmT]
        have := List.length_pos_of_mem hmT
        omega
      have hlen : (H ++ T.erase j).length = f := by
        simp only [List.length_append] at hf ⊢
        omega
      have h2 : Hd P ops S (fun a' => wpOp P ops Q j (wpTail P ops Q (T.erase j).length (T.erase j)) a' w) H a := hd_mono (fun a' h3 => by rw [hlT] at h3; exact h3 j hn) _ _ h
      cases H with
      | nil => exact wpOp_mono (fun a' w' h3 => ih hSg [] (T.erase j) _ _ _ hlen (invT_tail inv hmT hj) (.inr rfl) h3) h2
      | cons x0 H' =>
        have hg := fun x hx => ((inv.ht x hx j hmT).2).resolve_left (no x (List.mem_append_left _ hx))
        have hSw : S w := hS.resolve_right (by simp)
        by_cases hgj : growB oj = true
        · have h3 := hd_push hoj hsel hQ hSw (fun a n w' e => by
            obtain ⟨g1, g2⟩ := gr_execOp hgj a.eval (fun _ => rfl)
            exact ⟨hSg _ _ hSw (gr_run _ _ g1 e), g2 P w n w' e⟩) _ _ (fun x hx => clear_of (hg x hx).2) h2
          exact wpOp_mono (fun a' w' ⟨h4, h5⟩ => ih hSg (x0 :: H') (T.erase j) _ _ _ hlen (invT_tail inv hmT hj) (.inl h4) h5) h3
        · have hpu : ∀ x ∈ x0 :: H', ∀ o, ops[x]? = some o → pureB o = true ∧ vaB oj = true := fun x hx o ho => by
            have h3 := (hg x hx).1.resolve_left (by unfold growAt; rw [hoj]; exact hgj)
            unfold pureAt at h3
            rw [ho, hoj] at h3
            simpa using h3
          obtain ⟨ox0, hox0⟩ : ∃ o, ops[x0]? = some o := ⟨_, Array.getElem?_eq_getElem (inv.lt x0 (by simp))⟩
          have hva := (hpu x0 (List.mem_cons_self ..) ox0 hox0).2
          have h3 := hd_push (S := fun _ => True) hoj hsel hQ trivial (fun a n w' e => ⟨trivial, va_execOp hva a.eval (fun _ => rfl) P w n w' e⟩) _ _ (fun x hx => clear_of (hg x hx).2) (hd_pure hSw _ _ (fun x hx o ho => (hpu x hx o ho).1) h2)
          exact wpOp_mono (fun a' w' ⟨_, h5⟩ => ih (S := fun _ => True) (fun _ _ _ _ => trivial) (x0 :: H') (T.erase j) _ _ _ hlen (invT_tail inv hmT hj) (.inl trivial) h5) h3
def ttB (ops : Array Oper) (H T : List Nat) : Bool :=
  Region.noSelect ops && edgeB ops && decide (H ++ T).Nodup && (List.range ops.size).all (fun j => (H ++ T).contains j) && (H ++ T).all (fun j => decide (j < ops.size)) && decide (H.Pairwise (HH ops)) && decide (T.Pairwise (fun x y => waitsB ops x y = false)) && (H.all fun x => T.all fun y => decide (HT ops x y))
theorem wp_region_Td {id : Nat} (H T : List Nat) (hm : P.follows .mixedOrders = true) (hB : ttB ops H T = true) {a : Act} {w : World} (hQ : ∀ c a d v w, Q (.panic c) (Act.put a d v) w → Q (.panic c) a w)
    (h : Hd P ops (fun w' => ∃ p : GrownN, w' = grow (w.drewN p.n) p.os) (fun a' => wpTail P ops Q T.length T a' w.drew) H a) : (Code.region id ops true).wp P Q a w := by
  unfold ttB at hB
  simp only [Bool.and_eq_true, decide_eq_true_eq] at hB
  obtain ⟨⟨⟨⟨⟨⟨⟨b1, b2⟩, b3⟩, b4⟩, b5⟩, b6⟩, b7⟩, b8⟩ := hB
  have hin : ∀ j, j < ops.size → j ∈ H ++ T := fun j hj => by simpa using List.all_eq_true.1 b4 j (List.mem_range.2 hj)
  have hlt : ∀ j ∈ H ++ T, j < ops.size := fun j hj => by simpa using List.all_eq_true.1 b5 j hj
  have hlen : (H ++ T).length = ops.size := by
    have hp : (H ++ T).Perm (List.range ops.size) := (List.perm_ext_iff_of_nodup b3 List.nodup_range).2 fun j => ⟨fun hj => List.mem_range.2 (hlt j hj), fun hj => hin j (List.mem_range.1 hj)⟩
    rw [hp.length_eq, List.length_range]
  refine wp_region_any hm (ht_tree (S := fun w' => ∃ p : GrownN, w' = grow (w.drewN p.n) p.os) b2 (Region.noSelect_spec b1) hQ _ ?_ H T _ _ _ hlen ⟨by simp, ⟨?_⟩, ?_, hlt, b3, b6, b7, ?_⟩ (.inl ?_) h)
  · exact fun w1 w2 h1 h2 => GrC.trans (w := w) h1 h2
  · intro j oj hj hl
    rw [getD_replicate_false] at hl
    cases hl
  · intro j hj
    simp [hj, hin j hj]
  · intro x hx y hy
    have := List.all_eq_true.1 (List.all_eq_true.1 b8 x hx) y hy
    simpa using this
  · exact ⟨⟨1, #[]⟩, by simp [World.drewN]⟩
theorem wp_region_tp {id : Nat} {l : List Oper} (H T : List Nat) (hm : P.follows .mixedOrders = true) (hB : ttB l.toArray H T = true) (h1 : H.map (fun i => l.toArray[i]?) = (pick l H).map some) (hv : (pick l H).all valB = true)
    {a : Act} {w : World} (hQ : ∀ c a d v w, Q (.panic c) (Act.put a d v) w → Q (.panic c) a w)
    (h : wpQuiet P l.toArray (fun w' => ∃ p : GrownN, w' = grow (w.drewN p.n) p.os) (fun a' => wpTail P l.toArray Q T.length T a' w.drew) (pick l H) a) : (Code.region id l.toArray true).wp P Q a w :=
  wp_region_Td H T hm hB hQ (hd_of_quiet H _ a h1 hv h)
def thenK (K : Act → World → Prop) (Q : Exit → Act → World → Prop) : Exit → Act → World → Prop
  | .normal, a, w => K a w
  | e, a, w => Q e a w
theorem tail_nil {T : List Nat} {a : Act} {w : World} (h : Q .normal a w) : wpTail P ops Q 0 T a w := h
theorem wpOp_of_list {K : Act → World → Prop} {j : Nat} {o : Oper} {a : Act} {w : World} (hj : ops[j]? = some o) (h : wpList P ops (thenK K Q) [o] a w) : wpOp P ops Q j K a w := by
  unfold wpOp
  simp only [hj]
  unfold wpList at h
  split
  · rename_i hw
    rw [if_pos hw] at h
    exact h.imp (fun h => by
      unfold Oper.wp at h ⊢
      generalize (execOp a.eval o).run P w = r at h ⊢
      cases r with
      | ok n w' => cases n <;> exact h
      | halt x w' => cases x <;> exact h) (fun ⟨h1, h2⟩ => ⟨h1, h2⟩)
  · rename_i hw
    rw [if_neg hw] at h
    exact h
theorem tail_one {n : Nat} {T T2 : List Nat} (j : Nat) {o : Oper} {a : Act} {w : World} (hT : tailNext ops T = [j]) (hj : ops[j]? = some o) (hT2 : T.erase j = T2) (h : wpList P ops (thenK (wpTail P ops Q n T2) Q) [o] a w) : wpTail P ops Q (n + 1) T a w := by
  intro k hk
  rw [hT] at hk
  obtain rfl : k = j := by simpa using hk
  rw [hT2]
  exact wpOp_of_list hj h
theorem tail_two {n : Nat} {T T2 T3 : List Nat} (j k : Nat) {o o' : Oper} {a : Act} {w : World} (hT : tailNext ops T = [j, k]) (hj : ops[j]? = some o) (hk : ops[k]? = some o') (hT2 : T.erase j = T2) (hT3 : T.erase k = T3)
    (h : wpList P ops (thenK (wpTail P ops Q n T2) Q) [o] a w) (h' : wpList P ops (thenK (wpTail P ops Q n T3) Q) [o'] a w) : wpTail P ops Q (n + 1) T a w := by
  intro i hi
  rw [hT] at hi
  rcases List.mem_cons.1 hi with e | hi
  · subst e
    rw [hT2]
    exact wpOp_of_list hj h
  · obtain rfl : i = k := by simpa using hi
    rw [hT3]
    exact wpOp_of_list hk h'
end
end Go.Proofs.YtakdckaplmoklaaHt
end
section
namespace Go.Proofs.YtakdckaplmoklaaHt
open Go Go.Sort
def calmB (o : Oper) : Bool := match o.op with | .move _ | .assign _ | .extract .. => true | _ => false
theorem calm_run {o : Oper} (h : calmB o = true) (ρ : Operand → Value) : (∃ v, execOp ρ o = (pure (Next.value v) : Sem Next)) ∨ ∃ s, execOp ρ o = (stuck s : Sem Next) := by
  unfold calmB at h
  unfold execOp
  split at h
  · rename_i x hop; simp only [hop]; exact .inl ⟨_, rfl⟩
  · rename_i x hop; simp only [hop]; exact .inl ⟨_, rfl⟩
  · rename_i x i hop
    simp only [hop, Instr.extract]
    split
    · split
      · exact .inl ⟨_, rfl⟩
      · exact .inr ⟨_, rfl⟩
    · exact .inr ⟨_, rfl⟩
  · cases h
section
variable {P : Program} {ops : Array Oper} {Q : Exit → Act → World → Prop}
theorem calm_yields {j : Nat} {o : Oper} (hj : ops[j]? = some o) (hc : calmB o = true) {K : Act → World → Prop} {a : Act} {w : World} (h : wpOp P ops Q j K a w) : ∃ v, YieldsIf P ops (fun _ => True) o v a ∧ K (a.put o.dst v) w := by
  unfold wpOp at h
  simp only [hj] at h
  split at h
  · rename_i hw
    rcases calm_run hc a.eval with ⟨v, e⟩ | ⟨s, e⟩
    · refine ⟨v, .inl ⟨hw, fun w' _ => by rw [e]; rfl⟩, ?_⟩
      rcases h with h | ⟨h, _⟩
      · unfold Oper.wp at h
        rw [e] at h
        exact h
      · unfold Oper.asks at h
        rw [e] at h
        exact absurd h.1 (by simp [pure, Sem.runT, Sem.events])
    · rcases h with h | ⟨h, _⟩
      · unfold Oper.wp at h
        rw [e] at h
        exact h.elim
      · unfold Oper.asks at h
        rw [e] at h
        exact absurd h.1 (by simp [stuck, Sem.runT, Sem.events])
  · rename_i hw
    exact ⟨undef, .inr ⟨by simpa using hw, rfl⟩, h⟩
theorem mem_of_next {T : List Nat} {j : Nat} (h : j ∈ tailNext ops T) : j ∈ T := (List.mem_filter.1 h).1
theorem mem_next_erase {T : List Nat} {i j : Nat} (h : j ∈ tailNext ops T) (hne : j ≠ i) : j ∈ tailNext ops (T.erase i) := by
  unfold tailNext at h ⊢
  rw [List.mem_filter] at h ⊢
  exact ⟨(List.mem_erase_of_ne hne).2 h.1, List.all_eq_true.2 fun x hx => List.all_eq_true.1 h.2 x (List.mem_of_mem_erase hx)⟩
theorem calm_early {i : Nat} {oi : Oper} (hi : ops[i]? = some oi) (hc : calmB oi = true) (hsel : ∀ (j : Nat) (o : Oper) cs b, ops[j]? = some o → o.op ≠ .select cs b) (hQ : ∀ c a d v w, Q (.panic c) (Act.put a d v) w → Q (.panic c) a w) :
    ∀ (n : Nat) (T : List Nat) (a : Act) (w : World), T.length = n + 1 → i ∈ tailNext ops T → (∀ j ∈ T, j = i ∨ depB ops ops.size j i = true ∨ ∃ oj, ops[j]? = some oj ∧ oi.apart ops oj = true) → wpOp P ops Q i (wpTail P ops Q n (T.erase i)) a w → wpTail P ops Q (n + 1) T a w
  | n, T, a, w, hlen, hm, hap, h => by
    intro j hj
    by_cases e : j = i
    · subst e; exact h
    cases n with
    | zero =>
      have hjT : j ∈ T := mem_of_next hj
      have hiT : i ∈ T := mem_of_next hm
      match T, hlen, hjT, hiT with
      | [x], _, h1, h2 =>
        have h1 := List.mem_singleton.1 h1
        have h2 := List.mem_singleton.1 h2
        exact absurd (h1.trans h2.symm) e
    | succ m =>
      obtain ⟨v, hy, hk⟩ := calm_yields hi hc h
      have hk2 := hk j (mem_next_erase hj e)
      have hjT : j ∈ T := mem_of_next hj
      have hnd : depB ops ops.size j i ≠ true := by
        unfold tailNext at hj
        have h1 := List.all_eq_true.1 (List.mem_filter.1 hj).2 i (mem_of_next hm)
        intro h2
        rw [h2] at h1
        simp [Ne.symm e] at h1
      obtain ⟨oj, hoj, hapj⟩ := ((hap j hjT).resolve_left e).resolve_left hnd
      have h2 := wpOp_putIf hoj hapj (fun cs b => hsel i oi cs b hi) (fun cs b => hsel j oj cs b hoj) (fun c a w => hQ c a oi.dst v w) hy hk2
      refine wpOp_mono (fun a' w' ⟨hy', hk'⟩ => ?_) h2
      refine calm_early hi hc hsel hQ m (T.erase j) a' w' (by rw [List.length_erase_of_mem hjT]; omega) (mem_next_erase hm (Ne.symm e)) (fun x hx => hap x (List.mem_of_mem_erase hx)) ?_
      rw [List.erase_comm]
      exact hy'.wpOp hi trivial hk'
def calmAt (ops : Array Oper) (T : List Nat) (i : Nat) : Bool := match ops[i]? with
  | some oi => calmB oi && (tailNext ops T).contains i && T.all fun j => j == i || depB ops ops.size j i || apartB ops i j
  | none => false
theorem tail_calm {n : Nat} {T T2 : List Nat} (i : Nat) {o : Oper} {a : Act} {w : World} (hB : calmAt ops T i = true) (hns : Region.noSelect ops = true) (hlen : T.length = n + 1) (hi : ops[i]? = some o) (hT2 : T.erase i = T2) (hQ : ∀ c a d v w, Q (.panic c) (Act.put a d v) w → Q (.panic c) a w)
    (h : wpList P ops (thenK (wpTail P ops Q n T2) Q) [o] a w) : wpTail P ops Q (n + 1) T a w := by
  unfold calmAt at hB
  rw [hi] at hB
  simp only [Bool.and_eq_true, List.contains_iff_mem] at hB
  obtain ⟨⟨h1, h2⟩, h3⟩ := hB
  refine calm_early hi h1 (Region.noSelect_spec hns) hQ n T a w hlen h2 (fun j hj => ?_) ?_
  · have h4 := List.all_eq_true.1 h3 j hj
    simp only [Bool.or_eq_true, beq_iff_eq] at h4
    rcases h4 with (h4 | h4) | h4
    · exact .inl h4
    · exact .inr (.inl h4)
    · unfold apartB at h4
      rw [hi] at h4
      split at h4
      · rename_i ox oj e1 e2
        injection e1 with e1
        subst e1
        exact .inr (.inr ⟨oj, e2, h4⟩)
      · cases h4
  · rw [hT2]
    exact wpOp_of_list hi h
theorem tail_three {n : Nat} {T T2 T3 T4 : List Nat} (j k l : Nat) {o o' o'' : Oper} {a : Act} {w : World} (hT : tailNext ops T = [j, k, l]) (hj : ops[j]? = some o) (hk : ops[k]? = some o') (hl : ops[l]? = some o'') (hT2 : T.erase j = T2) (hT3 : T.erase k = T3) (hT4 : T.erase l = T4)
    (h : wpList P ops (thenK (wpTail P ops Q n T2) Q) [o] a w) (h' : wpList P ops (thenK (wpTail P ops Q n T3) Q) [o'] a w) (h'' : wpList P ops (thenK (wpTail P ops Q n T4) Q) [o''] a w) : wpTail P ops Q (n + 1) T a w := by
  intro i hi
  rw [hT] at hi
  rcases List.mem_cons.1 hi with e | hi
  · subst e
    rw [hT2]
    exact wpOp_of_list hj h
  rcases List.mem_cons.1 hi with e | hi
  · subst e
    rw [hT3]
    exact wpOp_of_list hk h'
  · obtain rfl : i = l := by simpa using hi
    rw [hT4]
    exact wpOp_of_list hl h''
end
end Go.Proofs.YtakdckaplmoklaaHt
end
section
namespace Go.Proofs.YtakdckaplmoklaaHt
open Go Go.Sort
def HS (ops : Array Oper) (x y : Nat) : Prop := waitsB ops x y = false ∧ (depB ops ops.size y x = true ∨ apartB ops x y = true)
instance (ops : Array Oper) (x y : Nat) : Decidable (HS ops x y) := by unfold HS; infer_instance
section
variable {P : Program} {ops : Array Oper} {Q : Exit → Act → World → Prop} {S : World → Prop}
structure InvS (ops : Array Oper) (H T : List Nat) (listed : Array Bool) : Prop where
  size : listed.size = ops.size
  closed : Closed ops listed
  un : ∀ j, j < ops.size → (listed.getD j true = false ↔ j ∈ H ++ T)
  lt : ∀ j ∈ H ++ T, j < ops.size
  nodup : (H ++ T).Nodup
  hh : H.Pairwise (HH ops)
  tt : T.Pairwise (fun x y => waitsB ops x y = false)
  ht : ∀ x ∈ H, ∀ y ∈ T, HS ops x y
theorem invS_ready {H T : List Nat} {listed : Array Bool} (he : edgeB ops = true) (inv : InvS ops H T listed) (hne : H ++ T ≠ []) : Region.ready .any ops listed ≠ [] := by
  obtain ⟨x, l, hl⟩ := List.exists_cons_of_ne_nil hne
  have hx : x ∈ H ++ T := by rw [hl]; exact List.mem_cons_self ..
  have hw : ∀ y ∈ l, waitsB ops x y = false := by
    intro y hy
    cases H with
    | nil =>
      simp only [List.nil_append] at hl
      have := inv.tt
      rw [hl] at this
      exact (List.pairwise_cons.1 this).1 y hy
    | cons x' H' =>
      simp only [List.cons_append, List.cons.injEq] at hl
      obtain ⟨rfl, hl⟩ := hl
      rw [← hl] at hy
      rcases List.mem_append.1 hy with hy | hy
      · exact ((List.pairwise_cons.1 inv.hh).1 y hy).1
      · exact (inv.ht x' (List.mem_cons_self ..) y hy).1
  have hlt := inv.lt x hx
  obtain ⟨o, ho⟩ : ∃ o, ops[x]? = some o := ⟨_, Array.getElem?_eq_getElem hlt⟩
  have hr : x ∈ Region.ready .any ops listed := by
    rw [mem_ready]
    refine ⟨(inv.un x hlt).2 hx, o, ho, fun e hm hb => ?_⟩
    have hlte := edge_spec he ho hm hb
    cases hq : listed.getD e.on false with
    | true => rfl
    | false =>
      have h1 : listed.getD e.on true = false := getD_in (by rw [inv.size]; omega) hq
      have h2 := (inv.un e.on (by omega)).1 h1
      rw [hl] at h2
      rcases List.mem_cons.1 h2 with h3 | h3
      · omega
      · have h4 := hw _ h3
        unfold waitsB at h4
        rw [ho] at h4
        have h5 : (o.after.any fun e' => Region.binds .any e' && e'.on == e.on) = true := Array.any_eq_true'.2 ⟨e, hm, by simp [hb]⟩
        simp only [h5] at h4
        cases h4
  intro h0
  rw [h0] at hr
  cases hr
theorem invS_head {pre post T : List Nat} {listed : Array Bool} {j : Nat} (inv : InvS ops (pre ++ j :: post) T listed) (hr : j ∈ Region.ready .any ops listed) : InvS ops (pre ++ post) T (listed.setIfInBounds j true) := by
  have hmem : ∀ k, k ∈ (pre ++ j :: post) ++ T ↔ k = j ∨ k ∈ (pre ++ post) ++ T := by
    intro k; simp only [List.mem_append, List.mem_cons]; constructor
    · rintro ((h | h | h) | h) <;> simp [h]
    · rintro (h | (h | h) | h) <;> simp [h]
  have hnd : j ∉ (pre ++ post) ++ T := by
    have h := inv.nodup
    rw [List.append_assoc, List.cons_append] at h
    have h1 := (nodup_middle.1 h)
    rw [List.append_assoc]
    exact (List.nodup_cons.1 h1).1
  refine ⟨by simp [inv.size], inv.closed.step hr, un_step inv.size (inv.lt j (by simp)) inv.un hmem hnd, fun k hk => inv.lt k ((hmem k).2 (.inr hk)), ?_, ?_, inv.tt, ?_⟩
  · have h := inv.nodup
    rw [List.append_assoc, List.cons_append] at h
    rw [List.append_assoc]
    exact (List.nodup_cons.1 (nodup_middle.1 h)).2
  · exact inv.hh.sublist (List.Sublist.append_left (List.sublist_cons_self ..) _)
  · intro x hx y hy
    refine inv.ht x ?_ y hy
    rcases List.mem_append.1 hx with h | h <;> simp [h]
theorem invS_tail {H T : List Nat} {listed : Array Bool} {j : Nat} (inv : InvS ops H T listed) (hj : j ∈ T) (hr : j ∈ Region.ready .any ops listed) : InvS ops H (T.erase j) (listed.setIfInBounds j true) := by
  have hndT : T.Nodup := (List.nodup_append.1 inv.nodup).2.1
  have hjH : j ∉ H := fun h => (List.nodup_append.1 inv.nodup).2.2 j h j hj rfl
  have hmem : ∀ k, k ∈ H ++ T ↔ k = j ∨ k ∈ H ++ T.erase j := by
    intro k
    simp only [List.mem_append, hndT.mem_erase_iff]
    by_cases hk : k = j
    · subst hk; simp [hj]
    · simp [hk]
  have hnd : j ∉ H ++ T.erase j := by simp [hndT.mem_erase_iff, hjH]
  have hsub : (T.erase j).Sublist T := List.erase_sublist
  refine ⟨by simp [inv.size], inv.closed.step hr, un_step inv.size (inv.lt j (by simp [hj])) inv.un hmem hnd, fun k hk => inv.lt k ((hmem k).2 (.inr hk)), inv.nodup.sublist (List.Sublist.append_left hsub _), inv.hh, inv.tt.sublist hsub, fun x hx y hy => inv.ht x hx y (hsub.subset hy)⟩
theorem hd_pushS {K : Act → World → Prop} {j : Nat} {oj : Oper} (hj : ops[j]? = some oj) (hsel : ∀ (j : Nat) (o : Oper) cs b, ops[j]? = some o → o.op ≠ .select cs b)
    (hQ : ∀ c a d v w, Q (.panic c) (Act.put a d v) w → Q (.panic c) a w) {w : World} :
    ∀ (H : List Nat) (a : Act), (∀ x ∈ H, Clear ops x j) → Hd P ops S (fun a' => wpOp P ops Q j (fun a'' w'' => S w'' ∧ K a'' w'') a' w) H a →
      wpOp P ops Q j (fun a'' w'' => S w'' ∧ Hd P ops S (fun a' => K a' w'') H a'') a w
  | [], a, _, h => h
  | x :: H, a, hc, ⟨ox, u, hox, hyx, h⟩ => by
    have ih := hd_pushS hj hsel hQ H _ (fun y hy => hc y (List.mem_cons_of_mem _ hy)) h
    have h2 := wpOp_putIf hj (hc x (List.mem_cons_self ..) ox oj hox hj) (fun cs b => hsel x ox cs b hox) (fun cs b => hsel j oj cs b hj) (fun c a w => hQ c a ox.dst u w) hyx ih
    exact wpOp_mono (fun a' w' ⟨hy, hS', hh⟩ => ⟨hS', ox, u, hox, hy, hh⟩) h2
def needB (ops : Array Oper) (H : List Nat) (j : Nat) : Bool := H.any fun x => !depB ops ops.size j x
def wpTailS (P : Program) (ops : Array Oper) (S : World → Prop) (Q : Exit → Act → World → Prop) (H0 : List Nat) : Nat → List Nat → Act → World → Prop
  | 0, _, a, w => Q .normal a w
  | n + 1, T, a, w => ∀ j ∈ tailNext ops T, wpOp P ops Q j (fun a' w' => (needB ops H0 j = true → S w') ∧ wpTailS P ops S Q H0 n (T.erase j) a' w') a w
theorem ht_treeS (he : edgeB ops = true) (hsel : ∀ (j : Nat) (o : Oper) cs b, ops[j]? = some o → o.op ≠ .select cs b) (hQ : ∀ c a d v w, Q (.panic c) (Act.put a d v) w → Q (.panic c) a w) (H0 : List Nat)
    : ∀ (f : Nat) (H T : List Nat) (listed : Array Bool) (a : Act) (w : World), (H ++ T).length = f → InvS ops H T listed → (∀ x ∈ H, x ∈ H0) → (S w ∨ H = []) →
      Hd P ops S (fun a' => wpTailS P ops S Q H0 T.length T a' w) H a → wpAny P .any ops Q f listed a w := by
  intro f
  induction f with
  | zero =>
    intro H T listed a w hf inv hH hS h
    have h0 := List.eq_nil_of_length_eq_zero hf
    obtain ⟨rfl, rfl⟩ := List.append_eq_nil_iff.1 h0
    refine ⟨List.eq_nil_iff_forall_not_mem.2 fun j hj => ?_, by simpa [Hd, wpTailS] using h⟩
    obtain ⟨h1, o, ho, _⟩ := mem_ready.1 hj
    have := (inv.un j (Array.getElem?_eq_some_iff.1 ho).1).1 h1
    cases this
  | succ f ih =>
    intro H T listed a w hf inv hH hS h
    refine ⟨fun h0 => absurd h0 (invS_ready he inv (by intro e; rw [e] at hf; cases hf)), fun j hj => ?_⟩
    obtain ⟨h1, oj, hoj, _⟩ := mem_ready.1 hj
    have hm := (inv.un j (Array.getElem?_eq_some_iff.1 hoj).1).1 h1
    have no : ∀ x ∈ H ++ T, depB ops ops.size j x ≠ true := fun x hx hd => by
      have h5 := ready_dep inv.closed hj _ _ hd
      rw [getD_both ((inv.un x (inv.lt x hx)).2 hx)] at h5
      cases h5
    rcases List.mem_append.1 hm with hmH | hmT
    · obtain ⟨pre, post, rfl⟩ := List.append_of_mem hmH
      have hcl : ∀ x ∈ pre, Clear ops x j := fun x hx => by
        have h2 := ((List.pairwise_append.1 inv.hh).2.2 x hx j (List.mem_cons_self ..)).2
        exact clear_of (h2.resolve_left (no x (by simp [hx])))
      obtain ⟨v, hy, hd⟩ := hd_front hoj hsel post pre a hcl h
      have hSw : S w := hS.resolve_right (by simp)
      refine hy.wpOp hoj hSw (ih (pre ++ post) T _ _ _ ?_ (invS_head inv hj) (fun x hx => hH x ((List.mem_append.1 hx).elim (fun h => List.mem_append_left _ h) (fun h => List.mem_append_right _ (.tail _ h)))) (.inl hSw) hd)
      simp only [List.length_append, List.length_cons] at hf ⊢
      omega
    · have hn : j ∈ tailNext ops T := by
        unfold tailNext
        rw [List.mem_filter]
        refine ⟨hmT, List.all_eq_true.2 fun x hx => ?_⟩
        have := no x (List.mem_append_right _ hx)
        simp [this]
      have hlT : T.length = (T.erase j).length + 1 := by
        rw [List.length_erase_of_mem hmT]
        have := List.length_pos_of_mem hmT
        omega
      have hlen : (H ++ T.erase j).length = f := by
        simp only [List.length_append] at hf ⊢
        omega
      have h2 : Hd P ops S (fun a' => wpOp P ops Q j (fun a'' w'' => (needB ops H0 j = true → S w'') ∧ wpTailS P ops S Q H0 (T.erase j).length (T.erase j) a'' w'') a' w) H a := hd_mono (fun a' h3 => by rw [hlT] at h3; exact h3 j hn) _ _ h
      cases H with
      | nil =>
        have h5 : wpOp P ops Q j (fun a'' w'' => (needB ops H0 j = true → S w'') ∧ wpTailS P ops S Q H0 (T.erase j).length (T.erase j) a'' w'') a w := h2
        exact wpOp_mono (fun a' w' h3 => ih [] (T.erase j) _ _ _ hlen (invS_tail inv hmT hj) (by simp) (.inr rfl) h3.2) h5
      | cons x0 H' =>
        have hnd : needB ops H0 j = true := List.any_eq_true.2 ⟨x0, hH x0 (.head _), by have := no x0 (by simp); simpa using this⟩
        have h4 : Hd P ops S (fun a' => wpOp P ops Q j (fun a'' w'' => S w'' ∧ wpTailS P ops S Q H0 (T.erase j).length (T.erase j) a'' w'') a' w) (x0 :: H') a := hd_mono (fun a' h3 => wpOp_mono (fun a'' w'' h5 => ⟨h5.1 hnd, h5.2⟩) h3) _ _ h2
        have h3 := hd_pushS hoj hsel hQ (x0 :: H') a (fun x hx => clear_of (((inv.ht x hx j hmT).2).resolve_left (no x (List.mem_append_left _ hx)))) h4
        exact wpOp_mono (fun a' w' ⟨h4, h5⟩ => ih (x0 :: H') (T.erase j) _ _ _ hlen (invS_tail inv hmT hj) hH (.inl h4) h5) h3
def tsB (ops : Array Oper) (H T : List Nat) : Bool :=
  Region.noSelect ops && edgeB ops && decide (H ++ T).Nodup && (List.range ops.size).all (fun j => (H ++ T).contains j) && (H ++ T).all (fun j => decide (j < ops.size)) && decide (H.Pairwise (HH ops)) && decide (T.Pairwise (fun x y => waitsB ops x y = false)) && (H.all fun x => T.all fun y => decide (HS ops x y))
theorem wp_region_Sd {id : Nat} (H T : List Nat) (hm : P.follows .mixedOrders = true) (hB : tsB ops H T = true) {a : Act} {w : World} (hQ : ∀ c a d v w, Q (.panic c) (Act.put a d v) w → Q (.panic c) a w) (hw : S w.drew)
    (h : Hd P ops S (fun a' => wpTailS P ops S Q H T.length T a' w.drew) H a) : (Code.region id ops true).wp P Q a w := by
  unfold tsB at hB
  simp only [Bool.and_eq_true, decide_eq_true_eq] at hB
  obtain ⟨⟨⟨⟨⟨⟨⟨b1, b2⟩, b3⟩, b4⟩, b5⟩, b6⟩, b7⟩, b8⟩ := hB
  have hin : ∀ j, j < ops.size → j ∈ H ++ T := fun j hj => by simpa using List.all_eq_true.1 b4 j (List.mem_range.2 hj)
  have hlt : ∀ j ∈ H ++ T, j < ops.size := fun j hj => by simpa using List.all_eq_true.1 b5 j hj
  have hlen : (H ++ T).length = ops.size := by
    have hp : (H ++ T).Perm (List.range ops.size) := (List.perm_ext_iff_of_nodup b3 List.nodup_range).2 fun j => ⟨fun hj => List.mem_range.2 (hlt j hj), fun hj => hin j (List.mem_range.1 hj)⟩
    rw [hp.length_eq, List.length_range]
  refine wp_region_any hm (ht_treeS b2 (Region.noSelect_spec b1) hQ H _ H T _ _ _ hlen ⟨by simp, ⟨?_⟩, ?_, hlt, b3, b6, b7, ?_⟩ (fun _ h => h) (.inl hw) h)
  · intro j oj hj hl
    rw [getD_replicate_false] at hl
    cases hl
  · intro j hj
    simp [hj, hin j hj]
  · intro x hx y hy
    have := List.all_eq_true.1 (List.all_eq_true.1 b8 x hx) y hy
    simpa using this
theorem wp_region_sp {id : Nat} {l : List Oper} {B : Type} (f : B → World) (H T : List Nat) (hm : P.follows .mixedOrders = true) (hB : tsB l.toArray H T = true) (h1 : H.map (fun i => l.toArray[i]?) = (pick l H).map some) (hv : (pick l H).all valB = true)
    {a : Act} {w : World} (hQ : ∀ c a d v w, Q (.panic c) (Act.put a d v) w → Q (.panic c) a w) (hw : ∃ p, w.drew = f p)
    (h : wpQuiet P l.toArray (fun w' => ∃ p, w' = f p) (fun a' => wpTailS P l.toArray (fun w' => ∃ p, w' = f p) Q H T.length T a' w.drew) (pick l H) a) : (Code.region id l.toArray true).wp P Q a w :=
  wp_region_Sd H T hm hB hQ hw (hd_of_quiet H _ a h1 hv h)
def thenS (G : World → Prop) (K : Act → World → Prop) (Q : Exit → Act → World → Prop) : Exit → Act → World → Prop
  | .normal, a, w => G w ∧ K a w
  | e, a, w => Q e a w
theorem tailS_nil {H0 T : List Nat} {a : Act} {w : World} (h : Q .normal a w) : wpTailS P ops S Q H0 0 T a w := h
theorem wpOp_of_listS {G : World → Prop} {K : Act → World → Prop} {j : Nat} {o : Oper} {a : Act} {w : World} (hj : ops[j]? = some o) (h : wpList P ops (thenS G K Q) [o] a w) : wpOp P ops Q j (fun a' w' => G w' ∧ K a' w') a w := by
  have e : thenS G K Q = thenK (fun a' w' => G w' ∧ K a' w') Q := by
    funext e a w
    cases e <;> rfl
  rw [e] at h
  exact wpOp_of_list hj h
theorem tailS_one {n : Nat} {H0 T T2 : List Nat} (j : Nat) {o : Oper} {a : Act} {w : World} (hT : tailNext ops T = [j]) (hj : ops[j]? = some o) (hT2 : T.erase j = T2) (h : wpList P ops (thenS S (wpTailS P ops S Q H0 n T2) Q) [o] a w) : wpTailS P ops S Q H0 (n + 1) T a w := by
  intro k hk
  rw [hT] at hk
  obtain rfl : k = j := by simpa using hk
  rw [hT2]
  exact wpOp_mono (fun a' w' h => ⟨fun _ => h.1, h.2⟩) (wpOp_of_listS hj h)
theorem tailS_free {n : Nat} {H0 T T2 : List Nat} (j : Nat) {o : Oper} {a : Act} {w : World} (hN : needB ops H0 j = false) (hT : tailNext ops T = [j]) (hj : ops[j]? = some o) (hT2 : T.erase j = T2) (h : wpList P ops (thenK (wpTailS P ops S Q H0 n T2) Q) [o] a w) : wpTailS P ops S Q H0 (n + 1) T a w := by
  intro k hk
  rw [hT] at hk
  obtain rfl : k = j := by simpa using hk
  rw [hT2]
  exact wpOp_mono (fun a' w' h => ⟨fun h2 => absurd (hN.symm.trans h2) (by simp), h⟩) (wpOp_of_list hj h)
structure HW (F : World → Prop) where
  val : World
  ok : F val
theorem HW.mk' {F : World → Prop} {w : World} (h : F w) : ∃ p : HW F, w = p.val := ⟨⟨w, h⟩, rfl⟩
end
end Go.Proofs.YtakdckaplmoklaaHt
end
section
set_option linter.unusedVariables false
namespace Go.Proofs.YtakdckaplmoklaaHt
open Go Go.Sort
section
variable {P : Program} {ops : Array Oper} {Q : Exit → Act → World → Prop} {S : World → Prop}
theorem next_perm {T T' : List Nat} (h : T.Perm T') {j : Nat} (hj : j ∈ tailNext ops T') : j ∈ tailNext ops T := by
  unfold tailNext at hj ⊢
  rw [List.mem_filter] at hj ⊢
  exact ⟨h.mem_iff.2 hj.1, List.all_eq_true.2 fun x hx => List.all_eq_true.1 hj.2 x (h.mem_iff.1 hx)⟩
theorem wpTail_perm : ∀ (n : Nat) {T T' : List Nat} {a : Act} {w : World}, T.Perm T' → wpTail P ops Q n T a w → wpTail P ops Q n T' a w
  | 0, _, _, _, _, _, h => h
  | n + 1, T, T', a, w, hp, h => fun j hj => wpOp_mono (fun a' w' h' => wpTail_perm n (hp.erase j) h') (h j (next_perm hp hj))
def midB (ops : Array Oper) (H T : List Nat) : Bool :=
  Region.noSelect ops && decide (H ++ T).Nodup && decide (H.Pairwise fun x y => depB ops ops.size y x = true ∨ apartB ops x y = true) && (H.all fun x => T.all fun y => depB ops ops.size y x) && (H.all fun x => decide (x < ops.size))
theorem mid_any (hsel : ∀ (j : Nat) (o : Oper) cs b, ops[j]? = some o → o.op ≠ .select cs b) {w : World} (hS : S w) (T : List Nat) : ∀ (n : Nat) (H U : List Nat) (a : Act), U.Perm (H ++ T) → H.length = n → (H ++ T).Nodup → (H.Pairwise fun x y => depB ops ops.size y x = true ∨ apartB ops x y = true) → (∀ x ∈ H, ∀ y ∈ T, depB ops ops.size y x = true) → (∀ x ∈ H, x < ops.size) →
    Hd P ops S (fun a' => wpTail P ops Q T.length T a' w) H a → wpTail P ops Q (n + T.length) U a w
  | 0, H, U, a, hp, hl, _, _, _, _, h => by
    obtain rfl := List.eq_nil_of_length_eq_zero hl
    rw [Nat.zero_add]
    exact wpTail_perm _ (by simpa using hp.symm) h
  | n + 1, H, U, a, hp, hl, hnd, hh, hht, hlt, h => by
    rw [show n + 1 + T.length = (n + T.length) + 1 by omega]
    intro j hj
    have hjU := mem_of_next hj
    have no : ∀ x ∈ U, x ≠ j → depB ops ops.size j x ≠ true := fun x hx hne hd => by
      unfold tailNext at hj
      have h1 := List.all_eq_true.1 (List.mem_filter.1 hj).2 x hx
      rw [hd] at h1
      simp [hne] at h1
    rcases List.mem_append.1 (hp.mem_iff.1 hjU) with hjH | hjT
    · obtain ⟨pre, post, rfl⟩ := List.append_of_mem hjH
      have hoj : ops[j]? = some (ops[j]'(hlt j hjH)) := Array.getElem?_eq_getElem _
      have hnd1 : j ∉ (pre ++ post) ++ T := by
        rw [List.append_assoc, List.cons_append] at hnd
        have h1 := (nodup_middle.1 hnd)
        rw [List.append_assoc]
        exact (List.nodup_cons.1 h1).1
      have hcl : ∀ x ∈ pre, Clear ops x j := fun x hx => by
        have hxj : x ≠ j := fun e => hnd1 (by rw [← e]; simp [hx])
        have h2 := (List.pairwise_append.1 hh).2.2 x hx j (List.mem_cons_self ..)
        exact clear_of (h2.resolve_left (no x (hp.mem_iff.2 (by simp [hx])) hxj))
      obtain ⟨v, hy, hd⟩ := hd_front hoj hsel post pre a hcl h
      refine hy.wpOp hoj hS (mid_any hsel hS T n (pre ++ post) (U.erase j) _ ?_ ?_ ?_ ?_ ?_ ?_ hd)
      · have h1 : (U.erase j).Perm (((pre ++ j :: post) ++ T).erase j) := hp.erase j
        refine h1.trans ?_
        have h2 : ((pre ++ j :: post) ++ T).Perm (j :: ((pre ++ post) ++ T)) := by
          rw [List.append_assoc, List.cons_append, List.append_assoc]
          exact List.perm_middle
        have h3 := h2.erase j
        rwa [List.erase_cons_head] at h3
      · simp only [List.length_append, List.length_cons] at hl ⊢
        omega
      · rw [List.append_assoc, List.cons_append] at hnd
        rw [List.append_assoc]
        exact (List.nodup_cons.1 (nodup_middle.1 hnd)).2
      · exact hh.sublist (List.Sublist.append_left (List.sublist_cons_self ..) _)
      · exact fun x hx y hy' => hht x ((List.mem_append.1 hx).elim (fun h => List.mem_append_left _ h) (fun h => List.mem_append_right _ (.tail _ h))) y hy'
      · exact fun x hx => hlt x ((List.mem_append.1 hx).elim (fun h => List.mem_append_left _ h) (fun h => List.mem_append_right _ (.tail _ h)))
    · cases H with
      | nil => cases hl
      | cons x0 H' =>
        have hne : x0 ≠ j := fun e => by
          have h1 := (List.nodup_append.1 hnd).2.2 x0 (.head _) j hjT
          exact h1 e
        exact absurd (hht x0 (.head _) j hjT) (no x0 (hp.mem_iff.2 (by simp)) hne)
theorem tail_mid {l : List Oper} {n : Nat} {U : List Nat} (H T : List Nat) (hB : midB l.toArray H T = true) (hp : U.Perm (H ++ T)) (hn : n = H.length + T.length) (h1 : H.map (fun i => l.toArray[i]?) = (pick l H).map some) (hv : (pick l H).all valB = true) {a : Act} {w : World}
    (h : wpQuiet P l.toArray (fun w' => w' = w) (fun a' => wpTail P l.toArray Q T.length T a' w) (pick l H) a) : wpTail P l.toArray Q n U a w := by
  subst hn
  unfold midB at hB
  simp only [Bool.and_eq_true, decide_eq_true_eq] at hB
  obtain ⟨⟨⟨⟨b1, b2⟩, b3⟩, b4⟩, b5⟩ := hB
  refine mid_any (S := fun w' => w' = w) (Region.noSelect_spec b1) rfl T H.length H U a hp rfl b2 b3 (fun x hx y hy => ?_) (fun x hx => ?_) (hd_of_quiet H _ a h1 hv h)
  · exact List.all_eq_true.1 (List.all_eq_true.1 b4 x hx) y hy
  · simpa using List.all_eq_true.1 b5 x hx
end
end Go.Proofs.YtakdckaplmoklaaHt
end
