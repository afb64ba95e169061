-- PRINTED by the session's mp.py (the kit's print.py with contracts of the session's own); not trusted: Lean checks it.
import Derived.Test.YteaipankdlmeoaaGx0
import Derived.Test.YteaipankdlmeoaaGx1
namespace Go.Proofs.Yteaipankdlmeoaa.G
open Go.RowKit Go.Proofs.YteaipankdlmeoaaW.PrintWords Go.Proofs.YteaipankdlmeoaaW.PrintLast Go.Proofs.YteaipankdlmeoaaW.PrintMore
attribute [local go_sem] max2_int min2_int max_two min_two max_three min_three max_four min_four   -- for this text's walks alone
set_option linter.unusedVariables false
set_option linter.unusedSimpArgs false

/-! ### slices_Clone_int_int: function 11 -/
def slices_Clone_int_int.f (l0 : List Int) : Option (List Int) := if l0.length ≤ 17592186044416 then some l0 else none
theorem slices_Clone_int_int.some_ {l0 : List Int} (h : l0.length ≤ 17592186044416) : slices_Clone_int_int.f l0 = some l0 := by unfold slices_Clone_int_int.f; rw [if_pos h]
set_option maxHeartbeats 400000 in
theorem slices_Clone_int_int.calls (A0 : Option Addr) (c0 : Nat) (l0 : List Int) (r : List Int) (w : World) (hr0 : Kd.C (Kd.int .i64) w A0 l0.length l0) (hc0 : l0.length ≤ c0) (h : slices_Clone_int_int.f l0 = some r) :
    Calls Try.prog 11 #[.slice A0 l0.length c0] w fun e w' => ∃ v0_ : Value, e = .returned (v0_) ∧ Kd.R (Kd.int .i64) 3 w' w.heap.size (fun _ => True) v0_ r ∧ Below w.heap.size w w' := by
  unfold slices_Clone_int_int.f at h
  split at h
  case isFalse => cases h
  case isTrue hb0 =>
  obtain rfl := Option.some.inj h
  clear h
  have HR0 := Aside0.mk hr0
  have HB0 := Aside0.mk hb0
  clear hr0 hc0 hb0
  have hnil : ∀ (W : World) (a : Option Addr) (n c n' c' : Nat), (binOp .eql 28 (.slice a n c) (.slice none n' c')).run Try.prog W = .ok (.bool a.isNone) W := fun W a n c n' c' => Lib.run_eql_slice_nil W _ _ a n c n' c' Try.underlying28
  go_enter Try.func11, Try.ntmps11
  rcases A0 with _ | ad
  · go_wp2
    go_ret
    have h0 : l0 = [] := by
      rcases l0 with _ | ⟨x, l⟩
      · rfl
      · obtain ⟨_, _, h⟩ := HR0.out
        obtain ⟨ad, e, _⟩ := h (by simp)
        cases e
    subst h0
    exact ⟨_, rfl, Kd.R_nil _ _ _ _ _, Below.refl _ _⟩
  · go_wp2_with (at_builtin; refine Kd.R_append_rows (Kd.int .i64) (Rr := (Kd.int .i64).K (w.alloc (.cells #[] 3))) (w0 := w) w.heap.size rfl (.tmp 5) (.tmp 6) 28 3 (.int .i64 0) 8 rfl Try.underlying28 info3 rfl (by decide) (by omega) (.slice (some ⟨w.heap.size, 0, none⟩) 0 0) [] l0 (some ad) l0.length c0 (fun _ => True) (fun _ => False) rfl rfl ?aO ?aR ?aK (fun _ h => h.elim) (fun _ _ => trivial) ?aB ?aS ?aL ?_; (case aO => exact R_empty _ (Nat.le_refl _) _); (case aR => exact Kd.C_alloc HR0.out _); (case aK => intro x cs h; (first | exact h | exact h)); (case aB => exact below_alloc (Below.refl _ _) _); (case aS => simp); (case aL => have := HB0.out; simp; omega); intro v1 w1 ho hb hg hat)
    go_ret
    exact ⟨_, rfl, by simpa using ho, hb⟩


end Go.Proofs.Yteaipankdlmeoaa.G
