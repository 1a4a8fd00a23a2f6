/- For every job and any two whole numbers a and b, in any memory in which they can be read, TraceDeep returns true, and each argument reads behind the call as it read before. Conditions: none beyond the given row's own. -/
import Derived.Test.YtakdckaplmoklaaRows
import Derived.Test.YtakdckaplmoklaaZDp
import Derived.Test.YtakdckaplmoklaaZOp
import Derived.Test.YtakdckaplmoklaaZPl
import Derived.WalkKit
import Derived.ProofKit
import Derived.OpenShut
import Derived.ShutString
import Derived.ChangeOld
import Derived.Below
import Derived.SizedLaws
section
namespace Go.Proofs.Ytakdckaplmoklaa.traceDeep
open Go.ChangeShapes Go.WideShapes Go.ChangeAt Go.RowKit
open Go.Proofs.Ytakdckaplmoklaa.Op Go.Proofs.Ytakdckaplmoklaa.Ev Go.Proofs.Ytakdckaplmoklaa.PTraceDeep
set_option linter.unusedVariables false
theorem own : ownKnob Try.prog.godebug = none := by kernel_rfl
theorem laidOut : laidOutB Try.prog = true := by kernel_rfl
theorem walk (w : World) (AF : Option Addr) (cF : Nat) (fs : List S50) (main : Int) (AA : Option Addr) (cA : Nat) (args : List Int) (fuel tasks a b : Int) (hF : Go.Proofs.YtakdckaplmoklaaW.PrintWords.Kd.C k50 w AF fs.length fs) (hFc : fs.length ≤ cF) (hA : Go.Proofs.YtakdckaplmoklaaW.PrintWords.Kd.C (Go.Proofs.YtakdckaplmoklaaW.PrintWords.Kd.int .i64) w AA args.length args) (hAc : args.length ≤ cA)
    (ha : wfI a) (hb : wfI b) :
    Calls Try.prog 3 #[.agg #[.slice AF fs.length cF, .int .i64 main, .slice AA args.length cA, .int .i64 fuel, .int .i64 tasks], .int .i64 a, .int .i64 b] w fun e' w' => e' = .returned (.bool true) ∧ Below w.heap.size w w' := by
  obtain ⟨kB, big, hB⟩ := big_total fs main args fuel tasks
  obtain ⟨kC, r1, r2, e, hC, D, hD, hG⟩ := task_ok fs main args fuel tasks
  exact deep_any w AF cF fs main AA cA args fuel tasks a b hF hFc hA hAc ha hb kB big hB kC r1 r2 e hC D hD hG
set_option maxRecDepth 100000 in
theorem lifted (os : Os) (started : os.Started) (H : Type) (enc : TypeId × Value → H) :
    ReturnsInHanded {} Try.checked os 3 .any (Rows.traceDeepSpec.pre6 enc Try.prog Try.f3 Rows.traceDeepRow.domain false) (Rows.traceDeepSpec.post enc Try.prog Try.f3 false true false false) := by
  refine returnsInHanded_of_change_sized (C := Try.checked) own started (by kernel_rfl) Try.func3
    (ChangeSpec.witness6 (enc := enc) (C := Try.checked) false ⟨#[], #[.agg #[.slice none 0 0, .int .i64 0, .slice none 0 0, .int .i64 0, .int .i64 0], .int .i64 0, .int .i64 0], []⟩ 8 (by kernel_rfl) (by kernel_rfl) (by kernel_rfl) (by kernel_rfl)) ?_
  intro W base args ds gs before hval0 hW hcnd hsz0 _
  have hval : ∀ (j : Nat) t v, Try.f3.params[j]? = some t → args[j]? = some v → Value.okWide Try.prog W .any base t v := hval0
  have hW' := hW
  obtain ⟨p, q, hA0, hV, rfl, hfz, hnd⟩ := hW
  have hA : DataW.TrodAll enc Try.prog W 0 (fun _ => true) true Try.f3.params.toList args.toList ds p := hA0
  rw [Try.params3] at hA hval
  obtain ⟨v0, vs0, d0, ds0, p0, q0, hargs, rfl, rfl, h0, r0⟩ := trodAll_cons hA
  obtain ⟨v1, vs1, d1, ds1, p1, q1, rfl, rfl, rfl, h1, r1⟩ := trodAll_cons r0
  obtain ⟨v2, vs2, d2, ds2, p2, q2, rfl, rfl, rfl, h2, r2⟩ := trodAll_cons r1
  obtain ⟨rfl, rfl, rfl⟩ := trodAll_nil r2
  obtain rfl : args = #[v0, v1, v2] := by cases args; simp_all
  obtain ⟨rfl, rfl⟩ := trodVars_none hV
  obtain ⟨AF, cF, fs, main, AA, cA, ar, fuel, tasks, rfl, hFc, hF, _, hAc, hAr, _, _, _, _⟩ := open25 (hval 0 25 v0 rfl rfl) h0
  have lt0 : ∀ x ∈ p0, x.block < W.heap.size := by
    obtain ⟨m, hm⟩ := h0
    exact DataW.trod_lt m _ _ _ hm
  obtain ⟨a1, rfl, rfl, rfl, w1⟩ := open_int Try.underlying3 (hval 1 3 v1 rfl rfl) h1
  obtain ⟨a2, rfl, rfl, rfl, w2⟩ := open_int Try.underlying3 (hval 2 3 v2 rfl rfl) h2
  clear hA0 hval0 hsz0
  refine (walk W AF cF fs main AA cA ar fuel tasks a1 a2 hF hFc hAr hAc (wfI_of w1) (wfI_of w2)).mono fun e W' ⟨he, bel⟩ => ?_
  subst he
  exact ⟨_, rfl, _, _, _, [], _, [], hW', trodAll_mk1 (shut_bool Try.underlying4 _), (trodAll_cons_mk (Below.trod laidOut (by kernel_rfl) (of_decide_eq_true (by kernel_rfl)) h0 bel lt0) (trodAll_cons_mk (shut_int Try.underlying3 w1) (trodAll_cons_mk (shut_int Try.underlying3 w2) trodAll_mk0))), rfl, bel.frame _, fun h => by cases h⟩
theorem over : Rows.traceDeepRow.holds Try.pinned (OpenSpec.ofChange Rows.traceDeepSpec) :=
  OpenClaim.holds_of_wide 3 Try.f3 rfl rfl rfl rfl rfl rfl rfl ⟨rfl, rfl, rfl, rfl, rfl⟩ rfl rfl rfl rfl rfl (by kernel_rfl) Try.func3 (by kernel_rfl)
    (of_decide_eq_true (by kernel_rfl)) (by unfold Func.isWrapper; first | (rw [if_pos (by decide +kernel)]; kernel_rfl) | (rw [if_neg (by decide +kernel)]; exact ⟨rfl, rfl⟩))
    (fun os started H enc _ => lifted os started H enc)
theorem proved : Rows.TraceDeepSaid := over
end Go.Proofs.Ytakdckaplmoklaa.traceDeep
namespace Go.Proofs.Ytakdckaplmoklaa
theorem traceDeep_holds : Rows.TraceDeepSaid := traceDeep.proved
end Go.Proofs.Ytakdckaplmoklaa
end
