/- A part of the proof of TraceDeepSaid (Ki En Lp So); laid together by merge2.py. -/
import Derived.Test.YtakdckaplmoklaaZP16
import Derived.Test.YtakdckaplmoklaaZP0
import Derived.Test.YtakdckaplmoklaaZT
import Derived.Lib.Bytes
section
namespace Go.Proofs.Ytakdckaplmoklaa.Ev
open Go.RowKit Go.Proofs.YtakdckaplmoklaaW.PrintWords Go.Proofs.YtakdckaplmoklaaW.PrintLast Go.Proofs.YtakdckaplmoklaaW.PrintMore Go.Proofs.Ytakdckaplmoklaa.PTraceDeep
def Vid (s : ByteArray) : Prop := s.size ≤ 12 ∧ ∀ i : Int, 0 ≤ i → i < s.size → bt s i < 16
def kidId (s : ByteArray) (k : Int) : ByteArray := s ++ strOfNums [k % 256]
theorem wrap_succ' (i : Int) (h0 : 0 ≤ i) (h1 : i < 1000000) : wrap64 (i + 1) = i + 1 := by unfold wrap64; omega
theorem valid1_from {s : ByteArray} (h : Vid s) : ∀ (n : Nat) (i : Int), 0 ≤ i → i + n = s.size → gleanerref1_Valid.l0 (2 * n + 2) s i = some true
  | 0, i, h0, h1 => by
    have h2 : ¬ i < (s.size : Int) := by omega
    have h3 : (s.size : Int) ≤ 12 := by have := h.1; omega
    simp [gleanerref1_Valid.l0, gleanerref1_Valid.j1, h2, h3]
  | n + 1, i, h0, h1 => by
    have h2 : i < (s.size : Int) := by omega
    have h3 : i ≤ 12 := by have := h.1; omega
    have h4 : ¬ bt s i ≥ 16 := by have := h.2 i h0 h2; omega
    have ih := valid1_from h n (i + 1) (by omega) (by omega)
    rw [show 2 * (n + 1) + 2 = (2 * n + 2) + 1 + 1 by omega]
    unfold gleanerref1_Valid.l0 gleanerref1_Valid.j1
    simp only [h2, h3, h4, h0, if_true, if_false, decide_true, wrap_succ' i h0 (by omega), ih]
theorem valid2_from {s : ByteArray} (h : Vid s) : ∀ (n : Nat) (i : Int), 0 ≤ i → i + n = s.size → ident_Valid.l0 (n + 1) s s.size i = some true
  | 0, i, h0, h1 => by
    have h2 : ¬ i < (s.size : Int) := by omega
    simp [ident_Valid.l0, h2]
  | n + 1, i, h0, h1 => by
    have h2 : i < (s.size : Int) := by omega
    have h3 : i ≤ 12 := by have := h.1; omega
    have h4 : ¬ bt s i ≥ 16 := by have := h.2 i h0 h2; omega
    have ih := valid2_from h n (i + 1) (by omega) (by omega)
    unfold ident_Valid.l0
    simp only [h2, h4, h0, if_true, if_false, wrap_succ' i h0 (by omega), ih]
theorem strOf_size (k : Int) : (strOfNums [k % 256]).size = 1 := rfl
theorem kid1 {s : ByteArray} (h : Vid s) (hs : s.size < 12) {k : Int} (h0 : 0 ≤ k) (h1 : k < 16) : ∃ K, gleanerref1_Kid.f K s k = some (kidId s k, true) := by
  refine ⟨2 * s.size + 2, ?_⟩
  have hv : gleanerref1_Valid.f (2 * s.size + 2) s = some true := valid1_from h s.size 0 (by omega) (by omega)
  have a1 : ¬ k < 0 := by omega
  have a2 : ¬ k > 15 := by omega
  have a3 : ¬ (s.size : Int) = 12 := by omega
  have a4 : s.size + (strOfNums [k % 256]).size ≤ 9223372036854775807 := by rw [strOf_size]; omega
  unfold gleanerref1_Kid.f
  rw [hv]
  simp only [Option.bind_some, a1, a2, a3, a4, if_true, if_false, kidId]
theorem kid2 {s : ByteArray} (h : Vid s) (hs : s.size < 12) {k : Int} (h0 : 0 ≤ k) (h1 : k < 16) : ∃ K, ident_Kid.f K s k = some (kidId s k, true) := by
  refine ⟨s.size + 1, ?_⟩
  have hl : ¬ (s.size : Int) > 12 := by omega
  have hv : ident_Valid.f (s.size + 1) s = some true := by unfold ident_Valid.f; rw [if_neg hl]; exact valid2_from h s.size 0 (by omega) (by omega)
  have a1 : ¬ k < 0 := by omega
  have a2 : ¬ k ≥ 16 := by omega
  have a3 : ¬ (s.size : Int) = 12 := by omega
  have a4 : s.size + (strOfNums [k % 256]).size ≤ 9223372036854775807 := by rw [strOf_size]; omega
  unfold ident_Kid.f
  rw [hv]
  simp only [Option.bind_some, a1, a2, a3, a4, if_true, if_false, kidId]
theorem kidId_size (s : ByteArray) (k : Int) : (kidId s k).size = s.size + 1 := by unfold kidId; rw [ByteArray.size_append, strOf_size]
theorem kidId_data (s : ByteArray) {k : Int} (h0 : 0 ≤ k) (h1 : k < 16) : (kidId s k).data.toList = s.data.toList ++ [UInt8.ofNat k.toNat] := by
  unfold kidId
  rw [ByteArray.data_append, Array.toList_append]
  congr 1
  have : k % 256 = k := by omega
  rw [this]
  rfl
theorem bt_data (s : ByteArray) (i : Nat) (h : i < s.size) : bt s (i : Int) = ((s.data.toList[i]'(by simpa using h)).toNat : Int) := by
  unfold bt
  have : ((i : Int).toNat) < s.size := by simpa using h
  rw [dif_pos this]
  simp [ByteArray.getElem_eq_getElem_data]
theorem Vid.iff (s : ByteArray) : Vid s ↔ s.data.toList.length ≤ 12 ∧ ∀ b ∈ s.data.toList, b.toNat < 16 := by
  have hl : s.data.toList.length = s.size := by simp
  unfold Vid
  rw [hl]
  refine and_congr Iff.rfl ⟨fun h b hb => ?_, fun h i h0 h1 => ?_⟩
  · obtain ⟨i, hi, rfl⟩ := List.getElem_of_mem hb
    have hi' : i < s.size := by omega
    have := h i (by omega) (by omega)
    rw [bt_data s i hi'] at this
    omega
  · obtain ⟨n, rfl⟩ := Int.eq_ofNat_of_zero_le h0
    have hn : n < s.size := by omega
    rw [bt_data s n hn]
    have := h _ (List.getElem_mem (h := (by omega : n < s.data.toList.length)))
    omega
theorem Vid.kid {s : ByteArray} (h : Vid s) (hs : s.size < 12) {k : Int} (h0 : 0 ≤ k) (h1 : k < 16) : Vid (kidId s k) := by
  rw [Vid.iff] at h ⊢
  rw [kidId_data s h0 h1]
  have hl : s.data.toList.length = s.size := by simp
  refine ⟨by simp; omega, fun b hb => ?_⟩
  rcases List.mem_append.1 hb with hb | hb
  · exact h.2 b hb
  · rw [List.mem_singleton.1 hb]
    simp [UInt8.toNat_ofNat']
    omega
theorem ba_ext {s t : ByteArray} (h : s.data.toList = t.data.toList) : s = t := by
  cases s; cases t
  congr
  exact Array.ext' h
end Go.Proofs.Ytakdckaplmoklaa.Ev
end
section
namespace Go.Proofs.Ytakdckaplmoklaa.Ev
open Go.Proofs.YtakdckaplmoklaaHt Go.Sort
open Go.RowKit Go.Proofs.YtakdckaplmoklaaW.PrintWords Go.Proofs.YtakdckaplmoklaaW.PrintLast Go.Proofs.YtakdckaplmoklaaW.PrintMore Go.Proofs.Ytakdckaplmoklaa.PTraceDeep
set_option linter.unusedVariables false
set_option linter.unusedSimpArgs false
structure En where
  id : ByteArray
  f : Int
  A : Option Addr
  c : Nat
  args : List Int
  er : Int
  v : Int
  steps : Int
  kids : Int
  B : Option Addr
  d : Nat
  aw : List Int
def En.cs (e : En) : List Value := [.string e.id, .int .i64 e.f, .slice e.A e.args.length e.c, .int .i64 e.er, .int .i64 e.v, .int .i64 e.steps, .int .i64 e.kids, .slice e.B e.aw.length e.d]
def encE (es : List En) : List Value := es.flatMap En.cs
@[reducible] def itE (e : En) : List It := [It.row (.slice e.A e.args.length e.c) e.args, It.row (.slice e.B e.aw.length e.d) e.aw]
def itsE (es : List En) : List It := es.flatMap itE
theorem encE_append (a b : List En) : encE (a ++ b) = encE a ++ encE b := by simp [encE]
theorem itsE_append (a b : List En) : itsE (a ++ b) = itsE a ++ itsE b := by simp [itsE]
theorem encE_cons (e : En) (b : List En) : encE (e :: b) = e.cs ++ encE b := by simp [encE]
theorem encE_length (a : List En) : (encE a).length = a.length * 8 := by
  induction a with
  | nil => rfl
  | cons e a ih => rw [encE_cons, List.length_append, ih]; simp [En.cs]; omega
theorem encE_one (es : List En) : ∀ u ∈ encE es, u.oneCell' = true := by
  intro u hu
  unfold encE at hu
  rw [List.mem_flatMap] at hu
  obtain ⟨e, _, h⟩ := hu
  simp [En.cs] at h
  rcases h with rfl | rfl | rfl | rfl | rfl | rfl | rfl | rfl <;> rfl
def ECells (W : World) (ad : Addr) (m : Nat) (e : En) : Prop :=
  W.cell? (ad.add (m * 8)) = some (.string e.id) ∧
  W.cell? ⟨(ad.add (m * 8)).block, (ad.add (m * 8)).off + 1, none⟩ = some (.int .i64 e.f) ∧
  W.cell? ⟨(ad.add (m * 8)).block, (ad.add (m * 8)).off + 2, none⟩ = some (.slice e.A e.args.length e.c) ∧
  W.cell? ⟨(ad.add (m * 8)).block, (ad.add (m * 8)).off + 3, none⟩ = some (.int .i64 e.er) ∧
  W.cell? ⟨(ad.add (m * 8)).block, (ad.add (m * 8)).off + 4, none⟩ = some (.int .i64 e.v) ∧
  W.cell? ⟨(ad.add (m * 8)).block, (ad.add (m * 8)).off + 5, none⟩ = some (.int .i64 e.steps) ∧
  W.cell? ⟨(ad.add (m * 8)).block, (ad.add (m * 8)).off + 6, none⟩ = some (.int .i64 e.kids) ∧
  W.cell? ⟨(ad.add (m * 8)).block, (ad.add (m * 8)).off + 7, none⟩ = some (.slice e.B e.aw.length e.d)
theorem own_addr {W : World} {b : Nat} {ad : Addr} {t : TypeId} {sz n nn c : Nat} {cs : List Value} (h : W.ownsRow b t sz (.slice (some ad) nn c) n cs) : ∃ g, ad = ⟨g, 0, none⟩ ∧ n = nn := by
  rcases h.2 with ⟨h0, _⟩ | ⟨g, cap, cur, h2, _⟩
  · cases h0
  · injection h2 with e1 e2 e3
    injection e1 with e1
    exact ⟨g, e1, e2.symm⟩
theorem E_cells {W : World} {b : Nat} {ad : Addr} {n nn c : Nat} {pre post : List En} {e : En} {m : Nat} (h : W.ownsRow b 37 8 (.slice (some ad) nn c) n (encE (pre ++ e :: post))) (hm : pre.length = m) : ECells W ad m e := by
  obtain ⟨g, rfl, rfl⟩ := own_addr h
  subst hm
  have key : ∀ j u, e.cs[j]? = some u → W.cell? ((⟨g, 0, none⟩ : Addr).add (pre.length * 8 + j)) = some u := fun j u hj => by
    refine h.cells (g := g) rfl _ u ?_
    have hl := encE_length pre
    rw [encE_append, encE_cons, List.getElem?_append_right (by omega), hl, Nat.add_sub_cancel_left, List.getElem?_append_left (by
      have := (List.getElem?_eq_some_iff.1 hj).1
      exact this)]
    exact hj
  refine ⟨key 0 _ rfl, ?_, ?_, ?_, ?_, ?_, ?_, ?_⟩
  · rw [← add_field _ _ 1 (by omega)]; exact key 1 _ rfl
  · rw [← add_field _ _ 2 (by omega)]; exact key 2 _ rfl
  · rw [← add_field _ _ 3 (by omega)]; exact key 3 _ rfl
  · rw [← add_field _ _ 4 (by omega)]; exact key 4 _ rfl
  · rw [← add_field _ _ 5 (by omega)]; exact key 5 _ rfl
  · rw [← add_field _ _ 6 (by omega)]; exact key 6 _ rfl
  · rw [← add_field _ _ 7 (by omega)]; exact key 7 _ rfl
theorem ECells.gr {W : World} {ad : Addr} {m : Nat} {e : En} (h : ECells W ad m e) (n : Nat) (os : Array Obj) : ECells (grow (W.drewN n) os) ad m e := by
  obtain ⟨h0, h1, h2, h3, h4, h5, h6, h7⟩ := h
  exact ⟨cell_gr h0 n os, cell_gr h1 n os, cell_gr h2 n os, cell_gr h3 n os, cell_gr h4 n os, cell_gr h5 n os, cell_gr h6 n os, cell_gr h7 n os⟩
section
variable {ws W W' : World} {M N : Nat → Prop} {bs bs' : List (Nat × Array Value × TypeId)} {is is' : List It}
theorem Tg.sub_call {ab : Nat} {cs cs' : Array Value} {t : TypeId} {i0 j : It} {js : List It} (T : Tg ws M (bs ++ [(ab, cs, t)]) (i0 :: is) W) (C : Tg W (fun k => k = ab ∨ i0.own k) [(ab, cs', t)] (j :: js) W') : Tg ws M (bs ++ [(ab, cs', t)]) (j :: (is ++ js)) W' := by
  have hab := T.blk (ab, cs, t) (List.mem_append_right _ (.head _))
  have hi0 := T.it i0 (.head _)
  have hd := List.pairwise_append.1 T.dist
  have hap := List.pairwise_cons.1 T.ap
  have hb : ∀ b ∈ bs, b.1 ≠ ab := fun b hb => hd.2.2 b hb _ (.head _)
  have hsep : ∀ b ∈ bs, ¬ i0.own b.1 := fun b hb => T.sep b (List.mem_append_left _ hb) i0 (.head _)
  have hM : ∀ k, (k = ab ∨ i0.own k) → M k ∨ ws.heap.size ≤ k := fun k hk => hk.elim (fun e => e ▸ hab.2) (hi0.2 k)
  have T1 : Tg ws M bs is W' := T.upd C.chg (fun k hk _ => hM k hk) (List.sublist_append_left _ _) (List.sublist_cons_self _ _) (fun b hb' e => e.elim (hb b hb') (hsep b hb')) (fun i hi k hk e => e.elim (fun e => T.sep (ab, cs, t) (List.mem_append_right _ (.head _)) i (.tail _ hi) (e ▸ hk)) (fun e => hap.1 i hi k e hk))
  have T2 : Tg ws M (bs ++ [(ab, cs', t)]) is W' := (by
    have h := Tg.ablk bs (post := []) (ws := ws) (M := M) (is := is) (W := W') (g := ab) (cs := cs') (t := t) (by rw [List.append_nil]; exact T1) (C.blk _ (.head _)).1 hab.2 (fun b hb' => by rw [List.append_nil] at hb'; exact Ne.symm (hb b hb')) (fun i hi => T.sep (ab, cs, t) (List.mem_append_right _ (.head _)) i (.tail _ hi))
    exact h)
  have hx : ∀ x ∈ j :: js, ∀ k, x.own k → (k = ab ∨ i0.own k) ∨ W.heap.size ≤ k := fun x hx => (C.it x hx).2
  have cross : ∀ i ∈ is, ∀ x ∈ j :: js, ∀ k, i.own k → ¬ x.own k := fun i hi x hx' k hk hk' => by
    rcases hx x hx' k hk' with (e | e) | e
    · exact T.sep (ab, cs, t) (List.mem_append_right _ (.head _)) i (.tail _ hi) (e ▸ hk)
    · exact hap.1 i hi k e hk
    · have := (T.it i (.tail _ hi)).1.lt k hk
      omega
  refine ⟨T2.chg, T2.blk, T2.dist, fun i hi => ?_, ?_, fun b hb' i hi => ?_⟩
  · have hn : ∀ x ∈ j :: js, ItOk x W' ∧ ∀ k, x.own k → M k ∨ ws.heap.size ≤ k := fun x hx' => ⟨(C.it x hx').1, fun k hk => (hx x hx' k hk).elim (hM k) (fun h => .inr (Nat.le_trans T.chg.size h))⟩
    rcases List.mem_cons.1 hi with rfl | hi
    · exact hn i (.head _)
    · rcases List.mem_append.1 hi with hi | hi
      · exact T2.it i hi
      · exact hn i (.tail _ hi)
  · have hc := List.pairwise_cons.1 C.ap
    refine List.pairwise_cons.2 ⟨fun i hi k hk hk' => ?_, List.pairwise_append.2 ⟨T2.ap, hc.2, fun a ha b hb' => cross a ha b (.tail _ hb')⟩⟩
    rcases List.mem_append.1 hi with hi | hi
    · exact cross i hi j (.head _) k hk' hk
    · exact hc.1 i hi k hk hk'
  · have hnew : ∀ x ∈ j :: js, ¬ x.own b.1 := fun x hx' hk => by
      rcases List.mem_append.1 hb' with hb' | hb'
      · rcases hx x hx' _ hk with (e | e) | e
        · exact hb b hb' e
        · exact hsep b hb' e
        · have := blk_lt (T.blk b (List.mem_append_left _ hb')).1
          omega
      · obtain rfl : b = _ := by simpa using hb'
        exact C.sep _ (.head _) x hx' hk
    rcases List.mem_cons.1 hi with rfl | hi
    · exact hnew i (.head _)
    · rcases List.mem_append.1 hi with hi | hi
      · exact T2.sep b hb' i hi
      · exact hnew i (.tail _ hi)
@[reducible] def It.many (l : List (Value × List Int)) : It := ⟨fun k => ∃ p ∈ l, p.1.ownBlock = some k, fun W => ∀ p ∈ l, Row W 0 p.1 p.2⟩
theorem ItOk.many {b : Nat} {l : List (Value × List Int)} (h : ∀ p ∈ l, Row W b p.1 p.2) : ItOk (It.many l) W :=
  ⟨fun q hq => by obtain ⟨p, hp, hq⟩ := hq; exact row_lt (h p hp) q hq, fun W' hm p hp => row_low (own_move (h p hp) (fun q hq => hm q ⟨p, hp, hq⟩)) (Nat.zero_le _)⟩
theorem Tg.ncall {j : It} (h : Tg ws M bs is W) (b : Below W.heap.size W W') (hj : ItOk j W') (hat : ∀ k, j.own k → W.heap.size ≤ k) : Tg ws M bs (j :: is) W' :=
  (h.call b).aitem [] hj (fun k hk => .inr (Nat.le_trans h.chg.size (hat k hk))) (fun i hi k hk hk' => by have := (h.it i hi).1.lt k hk'; have := hat k hk; omega) (fun b hb hk => by have := blk_lt (h.blk b hb).1; have := hat _ hk; omega)
theorem Tg.nmany {l : List (Value × List Int)} (h : Tg ws M bs is W) (b : Below W.heap.size W W') (hr : ∀ p ∈ l, Row W' W.heap.size p.1 p.2) : Tg ws M bs (It.many l :: is) W' :=
  h.ncall b (ItOk.many hr) fun k hk => by obtain ⟨p, hp, hk⟩ := hk; exact row_base (hr p hp) k hk
theorem Tg.many (h : Tg ws M bs is W) {l : List (Value × List Int)} (hm : It.many l ∈ is) {p : Value × List Int} (hp : p ∈ l) : Row W 0 p.1 p.2 := (h.it _ hm).1.p p hp
def encK (ks : List (Int × Int)) : List Value := ks.flatMap fun p => [.int .i64 p.1, .int .i64 p.2]
theorem encK_length (a : List (Int × Int)) : (encK a).length = a.length * 2 := by
  induction a with
  | nil => rfl
  | cons e a ih => simp [encK] at ih ⊢; omega
theorem encK_append (a b : List (Int × Int)) : encK (a ++ b) = encK a ++ encK b := by simp [encK]
theorem K_cells {b : Nat} {ad : Addr} {n nn c : Nat} {ks : List (Int × Int)} (h : W.ownsRow b 35 2 (.slice (some ad) nn c) n (encK ks)) (m : Nat) (hm : m < ks.length) : W.cell? (ad.add (m * 2)) = some (.int .i64 (ks[m]).1) ∧ W.cell? ⟨(ad.add (m * 2)).block, (ad.add (m * 2)).off + 1, none⟩ = some (.int .i64 (ks[m]).2) := by
  obtain ⟨g, rfl, rfl⟩ := own_addr h
  have hs : ks = ks.take m ++ ks[m] :: ks.drop (m + 1) := by rw [← List.drop_eq_getElem_cons hm, List.take_append_drop]
  have key : ∀ j u, [Value.int .i64 (ks[m]).1, Value.int .i64 (ks[m]).2][j]? = some u → W.cell? ((⟨g, 0, none⟩ : Addr).add (m * 2 + j)) = some u := fun j u hj => by
    refine h.cells (g := g) rfl _ u ?_
    have hl : (encK (ks.take m)).length = m * 2 := by rw [encK_length, List.length_take]; omega
    have hj2 : j < 2 := (List.getElem?_eq_some_iff.1 hj).1
    have e1 : encK ks = encK (ks.take m) ++ ([Value.int .i64 (ks[m]).1, Value.int .i64 (ks[m]).2] ++ encK (ks.drop (m + 1))) := by
      conv => lhs; rw [hs]
      rw [encK_append]
      rfl
    rw [e1, List.getElem?_append_right (by omega), hl, Nat.add_sub_cancel_left, List.getElem?_append_left (by simpa using hj2)]
    exact hj
  exact ⟨key 0 _ rfl, by rw [← add_field _ _ 1 (by omega)]; exact key 1 _ rfl⟩
variable {ops : Array Oper} {rest : List Oper} {o : Oper} {a : Act} {Q : Exit → Act → World → Prop}
theorem tgE_set (pi : List It) {qi : List It} {ad : Addr} {n nn c : Nat} {pre post : List En} {e : En} (T : Aside0 (Tg ws M bs (pi ++ It.gen (.slice (some ad) nn c) 37 8 n (encE (pre ++ e :: post)) :: qi) W)) (m : Nat) (hm : pre.length = m) (j : Nat) (hgd : o.guard = Option.none) (tt : TypeId) {p x : Operand} (ho : o.op = .store tt p x) (hN : o.dst = Option.none) (u : Value) (seg : List Value)
    (ht : (Try.prog.info? tt).map (·.size) = some seg.length) (haddr : a.eval p = .pointer (some ⟨(ad.add (m * 8)).block, (ad.add (m * 8)).off + j, Option.none⟩)) (hx : a.eval x = u) (hu : u.cells.toList = seg) (h1 : seg.all (·.oneCell') = true) (e' : En) (hfit : j + seg.length ≤ 8) (he : e'.cs = e.cs.take j ++ seg ++ e.cs.drop (j + seg.length))
    (h : ∀ w1, Aside0 (Tg ws M bs (pi ++ It.gen (.slice (some ad) nn c) 37 8 n (encE (pre ++ e' :: post)) :: qi) w1) → wpList Try.prog ops Q rest a w1) : wpList Try.prog ops Q (o :: rest) a W := by
  obtain ⟨g, rfl, rfl⟩ := own_addr (T.out.own (List.mem_append_right _ (.head _)))
  subst hm
  have hl := encE_length pre
  have hc : e.cs.length = 8 := rfl
  refine tg_set pi T (pre.length * 8 + j) hgd tt ho hN u seg ht ?_ hx hu h1 (by rw [encE_append, encE_cons]; simp only [List.length_append, hl, hc]; omega) fun cs' w1 ec T1 => ?_
  · rw [haddr]
    unfold Addr.add
    split <;> simp_all
  · refine h w1 ?_
    have h2 : cs' = encE (pre ++ e' :: post) := by
      rw [ec.out, encE_append, encE_append, encE_cons, encE_cons, he]
      rw [← hl, List.take_append, List.take_of_length_le (by omega), Nat.add_sub_cancel_left, List.take_append_of_le_length (by rw [hc]; omega)]
      rw [Nat.add_assoc, List.drop_append, List.drop_eq_nil_of_le (by omega), List.nil_append, Nat.add_sub_cancel_left, List.drop_append_of_le_length (by rw [hc]; omega)]
      simp only [List.append_assoc]
    rw [← h2]
    exact T1
end
end Go.Proofs.Ytakdckaplmoklaa.Ev
end
section
namespace Go.Proofs.Ytakdckaplmoklaa.Ev
open Go.RowKit Go.Proofs.YtakdckaplmoklaaW.PrintWords Go.Proofs.YtakdckaplmoklaaW.PrintLast Go.Proofs.YtakdckaplmoklaaW.PrintMore Go.Proofs.Ytakdckaplmoklaa.PTraceDeep
set_option linter.unusedVariables false
structure DoPure (id : ByteArray) (new : List En) : Prop where
  vid : ∀ e ∈ new, Vid e.id
  pre : ∀ e ∈ new, ∃ t, e.id.data.toList = id.data.toList ++ t
  nodup : new.Pairwise (fun a b => a.id ≠ b.id)
  aw : ∀ e ∈ new, ∀ k ∈ e.aw, 0 ≤ k ∧ k < 16 ∧ e.id.size < 12 ∧ ∃ e' ∈ new, e'.id = kidId e.id k
  awl : ∀ e ∈ new, e.aw.length ≤ 100000
theorem DoPure.nil (id : ByteArray) : DoPure id [] := ⟨by simp, by simp, .nil, by simp, by simp⟩
structure LoopP (id : ByteArray) (aw : List Int) (rest : List En) (kn : Int) (ov : Bool) : Prop where
  vid : ∀ e ∈ rest, Vid e.id
  kid : ∀ e ∈ rest, ∃ k t, 0 ≤ k ∧ k < kn ∧ e.id.data.toList = (kidId id k).data.toList ++ t
  nodup : rest.Pairwise (fun a b => a.id ≠ b.id)
  awk : ∀ e ∈ rest, ∀ k ∈ e.aw, 0 ≤ k ∧ k < 16 ∧ e.id.size < 12 ∧ ∃ e' ∈ rest, e'.id = kidId e.id k
  own : ∀ k ∈ aw, 0 ≤ k ∧ k < kn ∧ ∃ e ∈ rest, e.id = kidId id k
  all : ov = false → ∀ k, 0 ≤ k → k < kn → ∃ e ∈ rest, e.id = kidId id k
  deep : 0 < kn → id.size < 12
  k0 : 0 ≤ kn
  k16 : kn ≤ 16
  awl : ∀ e ∈ rest, e.aw.length ≤ 100000
theorem LoopP.start (id : ByteArray) (ov : Bool) : LoopP id [] [] 0 ov := ⟨by simp, by simp, .nil, by simp, by simp, by intro _ k h0 h1; omega, by omega, by omega, by omega, by simp⟩
theorem LoopP.out {id : ByteArray} {rest : List En} {kn : Int} {ov : Bool} {e : En} (h : LoopP id e.aw rest kn ov) (hv : Vid id) (he : e.id = id) (hl : e.aw.length ≤ 100000) : DoPure id (e :: rest) := by
  subst he
  refine ⟨fun x hx => ?_, fun x hx => ?_, List.pairwise_cons.2 ⟨fun x hx hxe => ?_, h.nodup⟩, fun x hx k hk => ?_, fun x hx => ?_⟩
  · rcases List.mem_cons.1 hx with rfl | hx
    · exact hv
    · exact h.vid x hx
  · rcases List.mem_cons.1 hx with rfl | hx
    · exact ⟨[], by simp⟩
    · obtain ⟨k, t, h0, h1, h2⟩ := h.kid x hx
      have := h.k16
      rw [kidId_data _ h0 (by omega)] at h2
      exact ⟨[UInt8.ofNat k.toNat] ++ t, by rw [h2, List.append_assoc]⟩
  · obtain ⟨k, t, h0, h1, h2⟩ := h.kid x hx
    have := h.k16
    rw [kidId_data _ h0 (by omega), ← hxe] at h2
    have := congrArg List.length h2
    simp at this
  · rcases List.mem_cons.1 hx with rfl | hx
    · obtain ⟨h0, h1, e', he', h2⟩ := h.own k hk
      have h3 := h.deep (by omega)
      have := h.k16
      exact ⟨h0, by omega, h3, e', .tail _ he', h2⟩
    · obtain ⟨h0, h1, h2, e', he', h3⟩ := h.awk x hx k hk
      exact ⟨h0, h1, h2, e', .tail _ he', h3⟩
  · rcases List.mem_cons.1 hx with rfl | hx
    · exact hl
    · exact h.awl x hx
theorem LoopP.child {id : ByteArray} {aw : List Int} {rest new : List En} {kn : Int} {ov : Bool} (h : LoopP id aw rest kn false) (hs : id.size < 12) (hk : kn < 16) (hn : DoPure (kidId id kn) new) (hl : ov = false → ∃ e ∈ new, e.id = kidId id kn) : LoopP id aw (rest ++ new) (kn + 1) ov := by
  have k0 := h.k0
  have mem : ∀ {x : En} {P : En → Prop}, (∃ e ∈ rest, P e) → ∃ e ∈ rest ++ new, P e := fun ⟨e, he, hp⟩ => ⟨e, List.mem_append_left _ he, hp⟩
  have mem' : ∀ {P : En → Prop}, (∃ e ∈ new, P e) → ∃ e ∈ rest ++ new, P e := fun ⟨e, he, hp⟩ => ⟨e, List.mem_append_right _ he, hp⟩
  refine ⟨fun x hx => ?_, fun x hx => ?_, List.pairwise_append.2 ⟨h.nodup, hn.nodup, fun a ha b hb hab => ?_⟩, fun x hx k hx' => ?_, fun k hk' => ?_, fun ho k h0 h1 => ?_, fun _ => hs, by omega, by omega, fun x hx => (List.mem_append.1 hx).elim (h.awl x) (hn.awl x)⟩
  · exact (List.mem_append.1 hx).elim (h.vid x) (hn.vid x)
  · rcases List.mem_append.1 hx with hx | hx
    · obtain ⟨k, t, h0, h1, h2⟩ := h.kid x hx
      exact ⟨k, t, h0, by omega, h2⟩
    · obtain ⟨t, h2⟩ := hn.pre x hx
      exact ⟨kn, t, k0, by omega, h2⟩
  · obtain ⟨k, t, h0, h1, h2⟩ := h.kid a ha
    obtain ⟨t', h3⟩ := hn.pre b hb
    rw [hab, h3, kidId_data _ k0 hk, kidId_data _ h0 (by omega)] at h2
    simp only [List.append_assoc, List.append_cancel_left_eq, List.singleton_append, List.cons.injEq] at h2
    have h4 := congrArg UInt8.toNat h2.1
    simp [UInt8.toNat_ofNat'] at h4
    omega
  · rcases List.mem_append.1 hx with hx | hx
    · obtain ⟨h0, h1, h2, e', he', h3⟩ := h.awk x hx k hx'
      exact ⟨h0, h1, h2, e', List.mem_append_left _ he', h3⟩
    · obtain ⟨h0, h1, h2, e', he', h3⟩ := hn.aw x hx k hx'
      exact ⟨h0, h1, h2, e', List.mem_append_right _ he', h3⟩
  · obtain ⟨h0, h1, e', he', h3⟩ := h.own k hk'
    exact ⟨h0, by omega, e', List.mem_append_left _ he', h3⟩
  · by_cases hk' : k = kn
    · subst hk'
      exact mem' (hl ho)
    · obtain ⟨e', he', h3⟩ := h.all rfl k h0 (by omega)
      exact ⟨e', List.mem_append_left _ he', h3⟩
theorem LoopP.await {id : ByteArray} {aw : List Int} {rest : List En} {kn ek : Int} (h : LoopP id aw rest kn false) (h0 : 0 ≤ ek) (h1 : ek < kn) : LoopP id (aw ++ [ek]) rest kn false :=
  ⟨h.vid, h.kid, h.nodup, h.awk, fun k hk => by
    rcases List.mem_append.1 hk with hk | hk
    · exact h.own k hk
    · obtain rfl := List.mem_singleton.1 hk
      exact ⟨h0, h1, h.all rfl k h0 h1⟩, h.all, h.deep, h.k0, h.k16, h.awl⟩
end Go.Proofs.Ytakdckaplmoklaa.Ev
end
section
namespace Go.Proofs.Ytakdckaplmoklaa.Ev
open Go.RowKit Go.Proofs.YtakdckaplmoklaaW.PrintWords Go.Proofs.YtakdckaplmoklaaW.PrintLast Go.Proofs.YtakdckaplmoklaaW.PrintMore Go.Proofs.Ytakdckaplmoklaa.PTraceDeep
set_option linter.unusedVariables false
theorem toList_data (s : ByteArray) : s.toList = s.data.toList := Go.Lib.toList_data s
theorem bytesLess_eq : ∀ (x y : List UInt8), Op.bytesLess x y = decide (x < y)
  | [], [] => by simp [Op.bytesLess]
  | _ :: _, [] => by simp [Op.bytesLess]
  | [], _ :: _ => by simp [Op.bytesLess]
  | a :: x, b :: y => by
    rw [Op.bytesLess, bytesLess_eq x y]
    simp only [List.cons_lt_cons_iff]
    by_cases h1 : a < b <;> by_cases h2 : a = b <;> by_cases h3 : x < y <;> simp [h1, h2, h3]
def lessId (a b : ByteArray) : Prop := Op.bytesLess a.toList b.toList = true
theorem lessId_iff (a b : ByteArray) : lessId a b ↔ a.data.toList < b.data.toList := by
  unfold lessId
  rw [bytesLess_eq, toList_data, toList_data]
  simp
theorem lessId_trans {a b c : ByteArray} (h : lessId a b) (k : lessId b c) : lessId a c := by
  rw [lessId_iff] at *
  exact List.lt_trans h k
theorem lessId_irrefl (a : ByteArray) : ¬ lessId a a := by
  rw [lessId_iff]
  exact List.lt_irrefl _
theorem lessId_total {a b : ByteArray} (h : ¬ lessId a b) (hne : a ≠ b) : lessId b a := by
  rw [lessId_iff] at *
  have h1 := List.not_lt.1 h
  rcases List.le_iff_lt_or_eq.1 h1 with h2 | h2
  · exact h2
  · exact absurd (ba_ext h2.symm) hne
def ltE (a b : En) : Prop := lessId a.id b.id
structure InsP (new P Q R : List En) (x : En) : Prop where
  perm : (P ++ x :: Q ++ R).Perm new
  sorted : (P ++ Q).Pairwise ltE
  above : ∀ q ∈ Q, ltE x q
theorem InsP.swap {new P Q R : List En} {p x : En} (h : InsP new (P ++ [p]) Q R x) (hl : ltE x p) : InsP new P (p :: Q) R x := by
  refine ⟨?_, by simpa using h.sorted, fun q hq => ?_⟩
  · refine List.Perm.trans ?_ h.perm
    simp only [List.append_assoc, List.cons_append, List.nil_append]
    exact List.Perm.append_left _ (List.Perm.swap _ _ _)
  · rcases List.mem_cons.1 hq with rfl | hq
    · exact hl
    · exact h.above q hq
theorem InsP.done {new P Q R : List En} {x : En} (h : InsP new P Q R x) (hp : ∀ p ∈ P, ltE p x) : (P ++ x :: Q).Pairwise ltE := by
  have h1 := List.pairwise_append.1 h.sorted
  refine List.pairwise_append.2 ⟨h1.1, List.pairwise_cons.2 ⟨h.above, h1.2.1⟩, fun a ha b hb => ?_⟩
  rcases List.mem_cons.1 hb with rfl | hb
  · exact hp a ha
  · exact h1.2.2 a ha b hb
theorem InsP.ne {new P Q R : List En} {p x : En} (h : InsP new (P ++ [p]) Q R x) (hn : new.Pairwise (fun a b => a.id ≠ b.id)) : x.id ≠ p.id := by
  have h1 := (h.perm.pairwise_iff (R := fun a b : En => a.id ≠ b.id) (fun {a b} h => Ne.symm h)).2 hn
  exact Ne.symm ((List.pairwise_append.1 (List.pairwise_append.1 h1).1).2.2 p (by simp) x (.head _))
theorem InsP.stop {new P Q R : List En} {p x : En} (h : InsP new (P ++ [p]) Q R x) (hn : new.Pairwise (fun a b => a.id ≠ b.id)) (hl : ¬ ltE x p) : ((P ++ [p]) ++ x :: Q).Pairwise ltE := by
  have hne : p.id ≠ x.id := by
    have h1 := (h.perm.pairwise_iff (R := fun a b : En => a.id ≠ b.id) (fun {a b} h => Ne.symm h)).2 hn
    have h2 := (List.pairwise_append.1 (List.pairwise_append.1 h1).1).2.2 p (by simp) x (.head _)
    exact h2
  have hpx : ltE p x := lessId_total hl (Ne.symm hne)
  refine h.done fun q hq => ?_
  rcases List.mem_append.1 hq with hq | hq
  · have h1 := (List.pairwise_append.1 (List.pairwise_append.1 h.sorted).1).2.2 q hq p (by simp)
    exact lessId_trans h1 hpx
  · obtain rfl := List.mem_singleton.1 hq
    exact hpx
def toS (e : En) : S37 := ⟨e.id, e.f, e.args, ⟨e.er, e.v⟩, e.steps, e.kids, e.aw⟩
structure EvOk (es : List S37) : Prop where
  ne : es ≠ []
  sorted : es.Pairwise (fun a b => lessId a.f0 b.f0)
  vid : ∀ e ∈ es, Vid e.f0
  aw : ∀ e ∈ es, ∀ k ∈ e.f6, 0 ≤ k ∧ k < 16 ∧ e.f0.size < 12 ∧ ∃ e' ∈ es, e'.f0 = kidId e.f0 k
  awl : ∀ e ∈ es, e.f6.length ≤ 100000
theorem EvOk.of {id : ByteArray} {new es : List En} (hp : es.Perm new) (hs : es.Pairwise ltE) (h : DoPure id new) (h1 : ∃ e ∈ new, e.id = id) : EvOk (es.map toS) := by
  refine ⟨fun e => ?_, ?_, fun e he => ?_, fun e he k hk => ?_, fun e he => ?_⟩
  · obtain ⟨x, hx, _⟩ := h1
    have := hp.mem_iff.2 hx
    simp at e
    rw [e] at this
    cases this
  · exact List.pairwise_map.2 hs
  · obtain ⟨x, hx, rfl⟩ := List.mem_map.1 he
    exact h.vid x (hp.mem_iff.1 hx)
  · obtain ⟨x, hx, rfl⟩ := List.mem_map.1 he
    obtain ⟨a1, a2, a3, y, hy, a4⟩ := h.aw x (hp.mem_iff.1 hx) k hk
    exact ⟨a1, a2, a3, toS y, List.mem_map_of_mem (hp.mem_iff.2 hy), a4⟩
  · obtain ⟨x, hx, rfl⟩ := List.mem_map.1 he
    exact h.awl x (hp.mem_iff.1 hx)
end Go.Proofs.Ytakdckaplmoklaa.Ev
end
