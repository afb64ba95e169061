/- MergeGroups: for every list of items, merge.Groups cuts it wherever the next key is another one and keeps all of it, and live answers true; no condition beyond the statement's own. -/
import Derived.Test.YteaipankdlmeoaaRows
import Derived.Test.YteaipankdlmeoaaGx7
import Derived.Test.YteaipankdlmeoaaOp
import Derived.Test.YteaipankdlmeoaaPu
import Derived.WalkKit
import Derived.ProofKit
import Derived.OpenShut
import Derived.ShutString
import Derived.ChangeOld
import Derived.Below
import Derived.SizedLaws
namespace Go.Proofs.Yteaipankdlmeoaa.mergeGroups
open Go.ChangeShapes Go.WideShapes Go.ChangeAt Go.RowKit Go.Proofs.Yteaipankdlmeoaa.G Go.Proofs.YteaipankdlmeoaaW.PrintWords Go.Proofs.YteaipankdlmeoaaW.PrintLast Go.Proofs.YteaipankdlmeoaaW.PrintMore
set_option linter.unusedVariables false
theorem own : ownKnob Try.prog.godebug = none := by kernel_rfl
theorem laidOut : laidOutB Try.prog = true := by kernel_rfl
/-- A list of items that is read. -/
theorem opens22 {H : Type} (enc : TypeId × Value → H) (W : World) (base : Nat) (spare : Nat → Bool) (held : Bool) :
    Opens enc Try.prog W base spare held 22 (Kd.slice 30 k30) (fun xs => xs.length * 64 ≤ reachBytes ∧ xs.length ≤ maxLen ∧ ∀ x ∈ xs, x.f0.size ≤ reachBytes ∧ (x.f1.length * 40 ≤ reachBytes ∧ x.f1.length ≤ maxLen ∧ ∀ y ∈ x.f1, ((Lit.int .u8 y.f0.f0).wf = true ∧ (Lit.int .i64 y.f0.f1).wf = true ∧ y.f0.f2.size ≤ reachBytes) ∧ (Lit.int .i64 y.f1).wf = true) ∧
      (x.f2.length * 8 ≤ reachBytes ∧ x.f2.length ≤ maxLen ∧ ∀ n ∈ x.f2, (Lit.int .i64 n).wf = true)) := by
  have o33 : Opens enc Try.prog W base spare held 33 k33 _ := opens_struct (fun x : S33 => (x.f0, x.f1, x.f2)) (fun a => ⟨a.1, a.2.1, a.2.2⟩) (fun _ => rfl) Try.underlying33 (by kernel_rfl)
    (opensT_cons (by kernel_rfl) (by kernel_rfl) (opens_int (by kernel_rfl)) (opensT_cons (by kernel_rfl) (by kernel_rfl) (opens_int (by kernel_rfl)) (opensT_one (by kernel_rfl) (by kernel_rfl) (opens_string (by kernel_rfl)))))
  have o35 : Opens enc Try.prog W base spare held 35 k35 _ := opens_struct (fun x : S35 => (x.f0, x.f1)) (fun a => ⟨a.1, a.2⟩) (fun _ => rfl) Try.underlying35 (by kernel_rfl)
    (opensT_cons (by kernel_rfl) (by kernel_rfl) o33 (opensT_one (by kernel_rfl) (by kernel_rfl) (opens_int (by kernel_rfl))))
  have o30 : Opens enc Try.prog W base spare held 30 k30 _ := opens_struct (fun x : S30 => (x.f0, x.f1, x.f2)) (fun a => ⟨a.1, a.2.1, a.2.2⟩) (fun _ => rfl) Try.underlying30 (by kernel_rfl)
    (opensT_cons (by kernel_rfl) (by kernel_rfl) (opens_string (by kernel_rfl)) (opensT_cons (by kernel_rfl) (by kernel_rfl) (opens_slice z35 (by kernel_rfl) (by kernel_rfl) (b := 40) (by kernel_rfl) o35) (opensT_one (by kernel_rfl) (by kernel_rfl) (opens_slice 0 (by kernel_rfl) (by kernel_rfl) (b := 8) (by kernel_rfl) (opens_int (by kernel_rfl))))))
  exact opens_slice z30 Try.underlying22 (by kernel_rfl) (by kernel_rfl) o30
set_option maxRecDepth 100000 in
theorem lifted (os : Os) (started : os.Started) (H : Type) (enc : TypeId × Value → H) :
    ReturnsInHanded {} Try.checked os 3 .any (Rows.mergeGroupsSpec.pre6 enc Try.prog Try.f3 Rows.mergeGroupsRow.domain false) (Rows.mergeGroupsSpec.post enc Try.prog Try.f3 false true false false) := by
  refine returnsInHanded_of_change_sized (C := Try.checked) own started (by kernel_rfl) Try.func3
    (ChangeSpec.witness6 (enc := enc) (C := Try.checked) false ⟨#[], #[.slice none 0 0], []⟩ 8 (by kernel_rfl) (by kernel_rfl) (by kernel_rfl) (by kernel_rfl)) ?_
  intro W base args ds gs before hval0 hW hcnd hsz0 _
  have hsz : (DataW.weightsEach Try.prog (Try.f3.params.toList ++ Rows.mergeGroupsSpec.plain.varTypes Try.prog) (ds ++ gs)).all (· ≤ reachBytes) = true := hsz0
  have hval : ∀ (j : Nat) t v, Try.f3.params[j]? = some t → args[j]? = some v → Value.okWide Try.prog W .any base t v := hval0
  have hW' := hW
  obtain ⟨p, q, hA0, hV, rfl, hfz, hnd⟩ := hW
  have hA : DataW.TrodAll enc Try.prog W 0 (fun _ => true) true Try.f3.params.toList args.toList ds p := hA0
  rw [Try.params3] at hA hval hsz
  obtain ⟨v0, vs0, d0, ds0, p0, q0, hargs, rfl, rfl, h0, r0⟩ := trodAll_cons hA
  obtain ⟨rfl, rfl, rfl⟩ := trodAll_nil r0
  obtain rfl : args = #[v0] := by cases args; simp_all
  obtain ⟨rfl, rfl⟩ := trodVars_none hV
  obtain ⟨a0, len0, cap0, rfl⟩ := okWide_slice Try.underlying22 (hval 0 22 v0 rfl rfl)
  have k0 := h0
  have lt0 : ∀ x ∈ p0, x.block < W.heap.size := by obtain ⟨m, hm⟩ := k0; exact DataW.trod_lt m _ _ _ hm
  obtain ⟨fuel, hf⟩ := h0
  obtain ⟨l0, ⟨A, c, hcs, hlc, hC⟩, hl1, _, hx⟩ := opens22 enc W 0 (fun _ => true) true fuel _ _ hf (fun n hn => by
    have := List.all_eq_true.1 hsz _ (DataW.weights_mem_each (j := 0) (t := 22) (d := d0) rfl rfl n hn)
    simpa using this)
  simp [Value.cells] at hcs
  obtain ⟨rfl, rfl, rfl⟩ := hcs
  have hR : reachBytes = 140737488351232 := by decide
  rw [hR] at hl1
  have hB : Bd l0 := ⟨by omega, fun x h => by have := (hx x h).1; rw [hR] at this; simp only [maxLen]; omega, fun x h => by have := (hx x h).2.1.1; rw [hR] at this; omega,
    fun x h y hy => by have := ((hx x h).2.1.2.2 y hy).1.2.2; rw [hR] at this; simp only [maxLen]; omega, fun x h => by have := (hx x h).2.2.1; rw [hR] at this; omega⟩
  obtain ⟨k, hk⟩ := law_pure l0 hB
  clear hA0 hval0 hsz0 hsz
  refine (gristmilllaw24_MergeGroups.calls k a0 cap0 l0 true W hC hlc hk).mono fun e W' ⟨he, bel⟩ => ?_
  subst he
  exact ⟨_, rfl, _, _, _, [], _, [], hW', trodAll_mk1 (shut_bool Try.underlying4 _), (trodAll_cons_mk (Below.trod laidOut (by kernel_rfl) (of_decide_eq_true (by kernel_rfl)) k0 bel lt0) trodAll_mk0), rfl, bel.frame _, fun h => by cases h⟩
theorem over : Rows.mergeGroupsRow.holds Try.pinned (OpenSpec.ofChange Rows.mergeGroupsSpec) :=
  OpenClaim.holds_of_wide 3 Try.f3 rfl rfl rfl rfl rfl rfl rfl ⟨rfl, rfl, rfl, rfl, rfl⟩ rfl rfl rfl rfl rfl (by kernel_rfl) Try.func3 (by kernel_rfl)
    (of_decide_eq_true (by kernel_rfl)) (by unfold Func.isWrapper; first | (rw [if_pos (by decide +kernel)]; kernel_rfl) | (rw [if_neg (by decide +kernel)]; exact ⟨rfl, rfl⟩))
    (fun os started H enc _ => lifted os started H enc)
end Go.Proofs.Yteaipankdlmeoaa.mergeGroups
namespace Go.Proofs.Yteaipankdlmeoaa
/-- The row, under a short name, for the claim. -/
theorem mergeGroups_holds : Rows.MergeGroupsSaid := mergeGroups.over
#print axioms mergeGroups_holds
end Go.Proofs.Yteaipankdlmeoaa
