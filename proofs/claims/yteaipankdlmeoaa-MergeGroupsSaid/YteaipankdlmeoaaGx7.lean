-- PRINTED by the session's mp.py (the kit's print.py with contracts of the session's own); not trusted: Lean checks it.
import Derived.Test.YteaipankdlmeoaaGx0
import Derived.Test.YteaipankdlmeoaaGx1
import Derived.Test.YteaipankdlmeoaaGx3
import Derived.Test.YteaipankdlmeoaaGx6
namespace Go.Proofs.Yteaipankdlmeoaa.G
open Go.RowKit Go.Proofs.YteaipankdlmeoaaW.PrintWords Go.Proofs.YteaipankdlmeoaaW.PrintLast Go.Proofs.YteaipankdlmeoaaW.PrintMore
attribute [local go_sem] max2_int min2_int max_two min_two max_three min_three max_four min_four   -- for this text's walks alone
set_option linter.unusedVariables false
set_option linter.unusedSimpArgs false

/-! ### gristmilllaw24_MergeGroups: function 3 -/
mutual
def gristmilllaw24_MergeGroups.l0 : Nat → List (S30) → List (List (S30)) → List (S30) → Int → Option (Bool)
  | 0, _, _, _, _ => none
  | k + 1, x0, x3, x4, x5 => if x5 < (x3.length : Int) then (if 0 ≤ x5 then (if ((rd_L8 x3 x5).length : Int) = 0 then (gristmilllaw24_MergeGroups.j1 k x0 x3 x4 x5 true) else (if x5 > 0 then (if 0 ≤ (wrap64 (x5 - 1)) then (if (wrap64 (x5 - 1)) < (x3.length : Int) then (if 0 < ((rd_L8 x3 (wrap64 (x5 - 1))).length : Int) then (if 0 < ((rd_L8 x3 x5).length : Int) then (gristmilllaw24_MergeGroups.j1 k x0 x3 x4 x5 (((rd_T30 (rd_L8 x3 (wrap64 (x5 - 1))) 0).f0).toList == ((rd_T30 (rd_L8 x3 x5) 0).f0).toList)) else (none)) else (none)) else (none)) else (none)) else (gristmilllaw24_MergeGroups.j1 k x0 x3 x4 x5 false))) else (none)) else ((gristmillref22_Same.f k x4 x0).bind fun t136 => (if t136 = true then ((gristmilllaw24_live.f).bind fun t137 => (some t137)) else (some false)))
def gristmilllaw24_MergeGroups.j1 : Nat → List (S30) → List (List (S30)) → List (S30) → Int → Bool → Option (Bool)
  | 0, _, _, _, _, _ => none
  | k + 1, x0, x3, x4, x5, x45 => if x45 = true then (some false) else (gristmilllaw24_MergeGroups.l1 k x0 x3 x4 x5 0)
def gristmilllaw24_MergeGroups.l1 : Nat → List (S30) → List (List (S30)) → List (S30) → Int → Int → Option (Bool)
  | 0, _, _, _, _, _ => none
  | k + 1, x0, x3, x4, x5, x6 => if 0 ≤ x5 then (if x5 < (x3.length : Int) then (if x6 < ((rd_L8 x3 x5).length : Int) then (if 0 ≤ x6 then (if 0 < ((rd_L8 x3 x5).length : Int) then (if ((rd_T30 (rd_L8 x3 x5) x6).f0).toList = ((rd_T30 (rd_L8 x3 x5) 0).f0).toList then (gristmilllaw24_MergeGroups.l1 k x0 x3 x4 x5 (wrap64 (x6 + 1))) else (some false)) else (none)) else (none)) else (if x4.length + (rd_L8 x3 x5).length < 2199023255552 then (gristmilllaw24_MergeGroups.l0 k x0 x3 (x4 ++ (rd_L8 x3 x5)) (wrap64 (x5 + 1))) else (none))) else (none)) else (none)
end
def gristmilllaw24_MergeGroups.f (k : Nat) (l0 : List (S30)) : Option (Bool) := (gristmillref22_Much.f k l0).bind fun t131 => (if t131 = true then ((gristmilllaw24_live.f).bind fun t132 => (some t132)) else ((merge_Groups.f l0).bind fun t133 => (gristmilllaw24_MergeGroups.l0 k l0 t133 ([] : List (S30)) 0)))
theorem gristmilllaw24_MergeGroups.mono_l : ∀ k, (∀ y0 y1 y2 y3, LeO (gristmilllaw24_MergeGroups.l0 k y0 y1 y2 y3) (gristmilllaw24_MergeGroups.l0 (k + 1) y0 y1 y2 y3)) ∧ (∀ y0 y1 y2 y3 y4, LeO (gristmilllaw24_MergeGroups.j1 k y0 y1 y2 y3 y4) (gristmilllaw24_MergeGroups.j1 (k + 1) y0 y1 y2 y3 y4)) ∧ (∀ y0 y1 y2 y3 y4, LeO (gristmilllaw24_MergeGroups.l1 k y0 y1 y2 y3 y4) (gristmilllaw24_MergeGroups.l1 (k + 1) y0 y1 y2 y3 y4))
  | 0 => ⟨fun _ _ _ _ r h => by simp [gristmilllaw24_MergeGroups.l0] at h, fun _ _ _ _ _ r h => by simp [gristmilllaw24_MergeGroups.j1] at h, fun _ _ _ _ _ r h => by simp [gristmilllaw24_MergeGroups.l1] at h⟩
  | k + 1 => by
    obtain ⟨ih0, ih1, ih2⟩ := gristmilllaw24_MergeGroups.mono_l k
    refine ⟨?_, ?_, ?_⟩
    · intro y0 y1 y2 y3
      unfold gristmilllaw24_MergeGroups.l0
      repeat' first
      | (with_reducible exact ih0 _ _ _ _)
      | (with_reducible exact ih1 _ _ _ _ _)
      | (with_reducible exact ih2 _ _ _ _ _)
      | (with_reducible exact gristmillref22_Much.mono _ _)
      | (with_reducible exact gristmillref22_Same.mono _ _ _)
      | (with_reducible exact LeO.refl _)
      | (with_reducible exact LeO.none _)
      | (with_reducible refine LeO.ite ?_ ?_)
      | (with_reducible refine LeO.bind ?_ (fun _ => ?_))
      | exact ih0 _ _ _ _
      | exact ih1 _ _ _ _ _
      | exact ih2 _ _ _ _ _
      | exact gristmillref22_Much.mono _ _
      | exact gristmillref22_Same.mono _ _ _
      | exact LeO.none _
      | refine LeO.ite ?_ ?_
      | refine LeO.bind ?_ (fun _ => ?_)
    · intro y0 y1 y2 y3 y4
      unfold gristmilllaw24_MergeGroups.j1
      repeat' first
      | (with_reducible exact ih0 _ _ _ _)
      | (with_reducible exact ih1 _ _ _ _ _)
      | (with_reducible exact ih2 _ _ _ _ _)
      | (with_reducible exact gristmillref22_Much.mono _ _)
      | (with_reducible exact gristmillref22_Same.mono _ _ _)
      | (with_reducible exact LeO.refl _)
      | (with_reducible exact LeO.none _)
      | (with_reducible refine LeO.ite ?_ ?_)
      | (with_reducible refine LeO.bind ?_ (fun _ => ?_))
      | exact ih0 _ _ _ _
      | exact ih1 _ _ _ _ _
      | exact ih2 _ _ _ _ _
      | exact gristmillref22_Much.mono _ _
      | exact gristmillref22_Same.mono _ _ _
      | exact LeO.none _
      | refine LeO.ite ?_ ?_
      | refine LeO.bind ?_ (fun _ => ?_)
    · intro y0 y1 y2 y3 y4
      unfold gristmilllaw24_MergeGroups.l1
      repeat' first
      | (with_reducible exact ih0 _ _ _ _)
      | (with_reducible exact ih1 _ _ _ _ _)
      | (with_reducible exact ih2 _ _ _ _ _)
      | (with_reducible exact gristmillref22_Much.mono _ _)
      | (with_reducible exact gristmillref22_Same.mono _ _ _)
      | (with_reducible exact LeO.refl _)
      | (with_reducible exact LeO.none _)
      | (with_reducible refine LeO.ite ?_ ?_)
      | (with_reducible refine LeO.bind ?_ (fun _ => ?_))
      | exact ih0 _ _ _ _
      | exact ih1 _ _ _ _ _
      | exact ih2 _ _ _ _ _
      | exact gristmillref22_Much.mono _ _
      | exact gristmillref22_Same.mono _ _ _
      | exact LeO.none _
      | refine LeO.ite ?_ ?_
      | refine LeO.bind ?_ (fun _ => ?_)
theorem gristmilllaw24_MergeGroups.mono : ∀ a0 k, LeO (gristmilllaw24_MergeGroups.f k a0) (gristmilllaw24_MergeGroups.f (k + 1) a0) := by
  intro a0 k
  obtain ⟨ih0, ih1, ih2⟩ := gristmilllaw24_MergeGroups.mono_l k
  unfold gristmilllaw24_MergeGroups.f
  repeat' first
      | (with_reducible exact ih0 _ _ _ _)
      | (with_reducible exact ih1 _ _ _ _ _)
      | (with_reducible exact ih2 _ _ _ _ _)
      | (with_reducible exact gristmillref22_Much.mono _ _)
      | (with_reducible exact gristmillref22_Same.mono _ _ _)
      | (with_reducible exact LeO.refl _)
      | (with_reducible exact LeO.none _)
      | (with_reducible refine LeO.ite ?_ ?_)
      | (with_reducible refine LeO.bind ?_ (fun _ => ?_))
      | exact ih0 _ _ _ _
      | exact ih1 _ _ _ _ _
      | exact ih2 _ _ _ _ _
      | exact gristmillref22_Much.mono _ _
      | exact gristmillref22_Same.mono _ _ _
      | exact LeO.none _
      | refine LeO.ite ?_ ?_
      | refine LeO.bind ?_ (fun _ => ?_)
set_option maxHeartbeats 8000000 in
set_option maxRecDepth 100000 in
theorem gristmilllaw24_MergeGroups.calls (k : Nat) (A0 : Option Addr) (c0 : Nat) (l0 : List (S30)) (r : Bool) (w : World) (hr0 : Kd.C k30 w A0 l0.length l0) (hc0 : l0.length ≤ c0) (h : gristmilllaw24_MergeGroups.f k l0 = some r) :
    Calls Try.prog 3 #[.slice A0 l0.length c0] w fun e w' => e = .returned (.bool r) ∧ Below w.heap.size w w' := by
  have HR0 := Aside0.mk hr0
  have HC0 := Aside0.mk hc0
  clear hr0 hc0
  have HB := Aside0.mk (Below.refl w.heap.size w)
  have H : ((gristmillref22_Much.f k l0).bind fun t131 => (if t131 = true then ((gristmilllaw24_live.f).bind fun t132 => (some t132)) else ((merge_Groups.f l0).bind fun t133 => (gristmilllaw24_MergeGroups.l0 k l0 t133 ([] : List (S30)) 0)))) = some r := h
  clear h
  replace H := Option.bind_eq_some_iff.mp H
  obtain ⟨t131, A20, H⟩ := H
  replace H : (if t131 = true then ((gristmilllaw24_live.f).bind fun t132 => (some t132)) else ((merge_Groups.f l0).bind fun t133 => (gristmilllaw24_MergeGroups.l0 k l0 t133 ([] : List (S30)) 0))) = some r := H
  have A2 := Aside0.mk A20
  clear A20
  by_cases c3 : t131 = true
  · subst c3
    have H1 : ((gristmilllaw24_live.f).bind fun t132 => (some t132)) = some r := by rw [if_pos rfl] at H; exact H
    clear H
    have H := H1
    clear H1
    replace H := Option.bind_eq_some_iff.mp H
    obtain ⟨t132, A40, H⟩ := H
    replace H : (some t132) = some r := H
    have A4 := Aside0.mk A40
    clear A40
    obtain rfl := Option.some.inj H
    go_enter Try.func3, Try.ntmps3
    go_wp2_with (first | (go_at_call 4; (with_reducible refine (gristmillref22_Much.calls k _ _ l0 true _ ?side1 ?side2 A2.out).mono ?_); (case side1 => repeat (first | exact HR0.out | (with_reducible refine Kd.C_alloc ?_ _) | (with_reducible refine Kd.C_drewN ?_ _) | (with_reducible refine Kd.C_drew ?_))); (case side2 => exact HC0.out); rintro e w' ⟨rfl, ⟨nd, rfl⟩⟩; (try first | exact ⟨rfl, _, World.drewN_drewN _ _ _⟩ | exact ⟨rfl, _, Eq.trans (World.drewN_drewN _ _ _) (congrArg (World.drewN _) (Nat.add_assoc _ _ _))⟩)) | (go_at_call 5; (with_reducible refine (gristmilllaw24_live.calls  t132 _ A4.out).mono ?_); rintro e w5 ⟨rfl, hb⟩; have n0_ := Aside0.mk (below_step (by repeat (first | (with_reducible first | exact HB.out | apply below_alloc | apply pw_below_drewN | apply below_drew1) | exact HB.out)) hb); clear HB; have HB := n0_; clear n0_; (try clear hb); (try clear hb2); (try clear hk); (try clear hi)))
    repeat (go_quiet (first | (go_at_call 4; (with_reducible refine (gristmillref22_Much.calls k _ _ l0 true _ ?side1 ?side2 A2.out).mono ?_); (case side1 => repeat (first | exact HR0.out | (with_reducible refine Kd.C_alloc ?_ _) | (with_reducible refine Kd.C_drewN ?_ _) | (with_reducible refine Kd.C_drew ?_))); (case side2 => exact HC0.out); rintro e w' ⟨rfl, ⟨nd, rfl⟩⟩; (try first | exact ⟨rfl, _, World.drewN_drewN _ _ _⟩ | exact ⟨rfl, _, Eq.trans (World.drewN_drewN _ _ _) (congrArg (World.drewN _) (Nat.add_assoc _ _ _))⟩)) | (go_at_call 5; (with_reducible refine (gristmilllaw24_live.calls  t132 _ A4.out).mono ?_); rintro e w5 ⟨rfl, hb⟩; have n0_ := Aside0.mk (below_step (by repeat (first | (with_reducible first | exact HB.out | apply below_alloc | apply pw_below_drewN | apply below_drew1) | exact HB.out)) hb); clear HB; have HB := n0_; clear n0_; (try clear hb); (try clear hb2); (try clear hk); (try clear hi))); try go_wp2_with (first | (go_at_call 4; (with_reducible refine (gristmillref22_Much.calls k _ _ l0 true _ ?side1 ?side2 A2.out).mono ?_); (case side1 => repeat (first | exact HR0.out | (with_reducible refine Kd.C_alloc ?_ _) | (with_reducible refine Kd.C_drewN ?_ _) | (with_reducible refine Kd.C_drew ?_))); (case side2 => exact HC0.out); rintro e w' ⟨rfl, ⟨nd, rfl⟩⟩; (try first | exact ⟨rfl, _, World.drewN_drewN _ _ _⟩ | exact ⟨rfl, _, Eq.trans (World.drewN_drewN _ _ _) (congrArg (World.drewN _) (Nat.add_assoc _ _ _))⟩)) | (go_at_call 5; (with_reducible refine (gristmilllaw24_live.calls  t132 _ A4.out).mono ?_); rintro e w5 ⟨rfl, hb⟩; have n0_ := Aside0.mk (below_step (by repeat (first | (with_reducible first | exact HB.out | apply below_alloc | apply pw_below_drewN | apply below_drew1) | exact HB.out)) hb); clear HB; have HB := n0_; clear n0_; (try clear hb); (try clear hb2); (try clear hk); (try clear hi))))
    go_ret
    exact ⟨by first | rfl | (simp [errW_none, errW_some] <;> rfl) | (simp [*, errW_none, errW_some] <;> rfl), by repeat (first | (with_reducible first | exact HB.out | apply below_alloc | apply pw_below_drewN | apply below_drew1) | exact HB.out)⟩
  · replace c3 := Bool.eq_false_iff.mpr c3
    subst c3
    have H1 : ((merge_Groups.f l0).bind fun t133 => (gristmilllaw24_MergeGroups.l0 k l0 t133 ([] : List (S30)) 0)) = some r := by rw [if_neg (show ¬ (false = true) by decide)] at H; exact H
    clear H
    have H := H1
    clear H1
    replace H := Option.bind_eq_some_iff.mp H
    obtain ⟨t133, A60, H⟩ := H
    replace H : (gristmilllaw24_MergeGroups.l0 k l0 t133 ([] : List (S30)) 0) = some r := H
    have A6 := Aside0.mk A60
    clear A60
    have H' := Aside0.mk H
    clear H
    go_enter Try.func3, Try.ntmps3
    go_wp2_with (first | (go_at_call 4; (with_reducible refine (gristmillref22_Much.calls k _ _ l0 false _ ?side1 ?side2 A2.out).mono ?_); (case side1 => repeat (first | exact HR0.out | (with_reducible refine Kd.C_alloc ?_ _) | (with_reducible refine Kd.C_drewN ?_ _) | (with_reducible refine Kd.C_drew ?_))); (case side2 => exact HC0.out); rintro e w' ⟨rfl, ⟨nd, rfl⟩⟩; (try first | exact ⟨rfl, _, World.drewN_drewN _ _ _⟩ | exact ⟨rfl, _, Eq.trans (World.drewN_drewN _ _ _) (congrArg (World.drewN _) (Nat.add_assoc _ _ _))⟩)) | (go_at_call 6; (with_reducible refine (merge_Groups.calls _ _ l0 t133 _ ?side1 ?side2 A6.out).mono ?_); (case side1 => repeat (first | exact HR0.out | (with_reducible refine Kd.C_alloc ?_ _) | (with_reducible refine Kd.C_drewN ?_ _) | (with_reducible refine Kd.C_drew ?_))); (case side2 => exact HC0.out); rintro e w7 ⟨v134, rfl, ho0, hb⟩; have n0_ := Aside0.mk (Kd.N_lower (Kd.N_mono (ok' := fun k_ => True) (Kd.R_N (Kd.R_bound ho0)) (fun k_ hk_ => trivial)) (below_size (by repeat (first | (with_reducible first | exact HB.out | apply below_alloc | apply pw_below_drewN | apply below_drew1) | exact HB.out)))); have n1_ := Aside0.mk (below_step (by repeat (first | (with_reducible first | exact HB.out | apply below_alloc | apply pw_below_drewN | apply below_drew1) | exact HB.out)) hb); clear HB; have HO135 := n0_; have HB := n1_; clear n0_ n1_; (try clear hb); (try clear hb2); (try clear hk); (try clear hi); (try clear ho0)))
    repeat (go_quiet (first | (go_at_call 4; (with_reducible refine (gristmillref22_Much.calls k _ _ l0 false _ ?side1 ?side2 A2.out).mono ?_); (case side1 => repeat (first | exact HR0.out | (with_reducible refine Kd.C_alloc ?_ _) | (with_reducible refine Kd.C_drewN ?_ _) | (with_reducible refine Kd.C_drew ?_))); (case side2 => exact HC0.out); rintro e w' ⟨rfl, ⟨nd, rfl⟩⟩; (try first | exact ⟨rfl, _, World.drewN_drewN _ _ _⟩ | exact ⟨rfl, _, Eq.trans (World.drewN_drewN _ _ _) (congrArg (World.drewN _) (Nat.add_assoc _ _ _))⟩)) | (go_at_call 6; (with_reducible refine (merge_Groups.calls _ _ l0 t133 _ ?side1 ?side2 A6.out).mono ?_); (case side1 => repeat (first | exact HR0.out | (with_reducible refine Kd.C_alloc ?_ _) | (with_reducible refine Kd.C_drewN ?_ _) | (with_reducible refine Kd.C_drew ?_))); (case side2 => exact HC0.out); rintro e w7 ⟨v134, rfl, ho0, hb⟩; have n0_ := Aside0.mk (Kd.N_lower (Kd.N_mono (ok' := fun k_ => True) (Kd.R_N (Kd.R_bound ho0)) (fun k_ hk_ => trivial)) (below_size (by repeat (first | (with_reducible first | exact HB.out | apply below_alloc | apply pw_below_drewN | apply below_drew1) | exact HB.out)))); have n1_ := Aside0.mk (below_step (by repeat (first | (with_reducible first | exact HB.out | apply below_alloc | apply pw_below_drewN | apply below_drew1) | exact HB.out)) hb); clear HB; have HO135 := n0_; have HB := n1_; clear n0_ n1_; (try clear hb); (try clear hb2); (try clear hk); (try clear hi); (try clear ho0))); try go_wp2_with (first | (go_at_call 4; (with_reducible refine (gristmillref22_Much.calls k _ _ l0 false _ ?side1 ?side2 A2.out).mono ?_); (case side1 => repeat (first | exact HR0.out | (with_reducible refine Kd.C_alloc ?_ _) | (with_reducible refine Kd.C_drewN ?_ _) | (with_reducible refine Kd.C_drew ?_))); (case side2 => exact HC0.out); rintro e w' ⟨rfl, ⟨nd, rfl⟩⟩; (try first | exact ⟨rfl, _, World.drewN_drewN _ _ _⟩ | exact ⟨rfl, _, Eq.trans (World.drewN_drewN _ _ _) (congrArg (World.drewN _) (Nat.add_assoc _ _ _))⟩)) | (go_at_call 6; (with_reducible refine (merge_Groups.calls _ _ l0 t133 _ ?side1 ?side2 A6.out).mono ?_); (case side1 => repeat (first | exact HR0.out | (with_reducible refine Kd.C_alloc ?_ _) | (with_reducible refine Kd.C_drewN ?_ _) | (with_reducible refine Kd.C_drew ?_))); (case side2 => exact HC0.out); rintro e w7 ⟨v134, rfl, ho0, hb⟩; have n0_ := Aside0.mk (Kd.N_lower (Kd.N_mono (ok' := fun k_ => True) (Kd.R_N (Kd.R_bound ho0)) (fun k_ hk_ => trivial)) (below_size (by repeat (first | (with_reducible first | exact HB.out | apply below_alloc | apply pw_below_drewN | apply below_drew1) | exact HB.out)))); have n1_ := Aside0.mk (below_step (by repeat (first | (with_reducible first | exact HB.out | apply below_alloc | apply pw_below_drewN | apply below_drew1) | exact HB.out)) hb); clear HB; have HO135 := n0_; have HB := n1_; clear n0_ n1_; (try clear hb); (try clear hb2); (try clear hk); (try clear hi); (try clear ho0))))
    go_loopg [4, 5] k (fun kq v4 v5 w' => ∃ (x4_1 : List (S30)) (x5_1 : Int), v5 = .int .i64 x5_1 ∧ Aside0 (gristmilllaw24_MergeGroups.l0 kq l0 t133 x4_1 x5_1 = some r) ∧ Aside0 (kq ≤ k) ∧ Aside0 (Kd.N (Kd.slice 30 k30) 22 w' w.heap.size (fun k_ => some k_ ≠ (v4 : Value).ownBlock) v134 t133) ∧ Aside0 (Kd.N k30 30 w' w.heap.size (fun k_ => some k_ ≠ (v134 : Value).ownBlock) v4 x4_1) ∧ Aside0 (Below w.heap.size w w'))
    case atStart => exact ⟨(([] : List (S30))), (0), (by first | rfl | (simp; done) | (simp [*]; done)), H', ⟨Nat.le_refl _⟩, ⟨by (with_reducible repeat (first | apply Kd.N_alloc | apply Kd.N_drewN | apply Kd.N_drew)); exact Kd.N_mono HO135.out (fun _ hk => (by simp [Value.ownBlock]))⟩, ⟨by first | exact Kd.S_nil _ _ _ _ _ | exact Kd.N_nil _ _ _ _ _ | exact Kd.V_nil _ _ _ _ _ | exact Kd.Q_nil _ _ _ _ _ | exact Kd.R_nil _ _ _ _ _⟩, ⟨by repeat (first | (with_reducible first | exact HB.out | apply below_alloc | apply pw_below_drewN | apply below_drew1) | exact HB.out)⟩⟩
    case round =>
      clear H'
      try clear p2
      try clear c3
      obtain ⟨x4_1, x5_1, rfl, HA, HK1, HO_3, HO_4, HB⟩ := hrel
      cases gk with
      | zero => exact absurd HA.out (by simp [gristmilllaw24_MergeGroups.l0])
      | succ k1 =>
        have H := HA.out
        clear HA
        simp only [gristmilllaw24_MergeGroups.l0] at H
        by_cases c8 : x5_1 < (t133.length : Int)
        · rw [if_pos c8] at H
          have c8b0 : decide (x5_1 < (t133.length : Int)) = true := decide_eq_true c8
          clear c8
          have HC9 := Aside0.mk H
          clear H
          obtain ⟨Ao10, co10, eo10⟩ := Kd.N_slice HO_3.out
          subst eo10
          go_upto_region 8 with (fail)
          repeat (go_quiet (fail); go_upto_region 8 with (fail))
          go_cut [45] (fun v45 wc => ∃ (kq : Nat) (x45_8 : Bool), v45 = .bool x45_8 ∧ Aside0 (gristmilllaw24_MergeGroups.j1 kq l0 t133 x4_1 x5_1 x45_8 = some r) ∧ Aside0 (kq ≤ k1) ∧ Aside0 (Kd.N (Kd.slice 30 k30) 22 wc w.heap.size (fun k_ => some k_ ≠ (u4 : Value).ownBlock) (.slice Ao10 t133.length co10) t133) ∧ Aside0 (Kd.N k30 30 wc w.heap.size (fun k_ => some k_ ≠ ((.slice Ao10 t133.length co10) : Value).ownBlock) u4 x4_1) ∧ Aside0 (Below w.heap.size w wc))
          case first =>
            have H := HC9.out
            clear HC9
            by_cases c11 : 0 ≤ x5_1
            · rw [if_pos c11] at H
              have c11b0 : decide (0 ≤ x5_1) = true := decide_eq_true c11
              clear c11
              (first | rw [c11b0] | (simp only [i64_w, i32_w]; rw [c11b0]) | skip)
              by_cases c12 : ((rd_L8 t133 x5_1).length : Int) = 0
              · rw [if_pos c12] at H
                have c12b0 : (((rd_L8 t133 x5_1).length : Int) == 0) = true := beq_iff_eq.mpr c12
                have c12b1 : (((rd_L8 t133 x5_1).length : Int) != 0) = false := bne_eq_false_iff_eq.mpr c12
                clear c12
                have H' := Aside0.mk H
                clear H
                have p138 : 0 ≤ (x5_1 : Int) := of_decide_eq_true (by first | (with_reducible assumption) | assumption)
                have q138 : x5_1 < (t133.length : Int) := of_decide_eq_true (by first | (with_reducible assumption) | assumption)
                obtain ⟨ad138, A138_0, c138_0, e138, hx138_0, hl138_0, hi138_0⟩ := at_L8 (Kd.N_reads' HO_3.out).2.2 x5_1 p138 q138
                cases e138
                obtain ⟨ce138, hce138, hMe138, hcc138⟩ := Kd.N_get HO_3.out [] x5_1 p138 (by first | exact q138 | exact of_decide_eq_true (by first | (with_reducible assumption) | assumption) | (have e_ := (Kd.N_reads' HO_3.out).1; omega))
                obtain ⟨ua138_0, uc138_0, rfl, ul138_0, ge138_0⟩ := Kd.FK_slice_open hMe138
                have hv138_0 := hcc138 0 _ rfl
                rw [Nat.add_zero, show ((Kd.slice 30 k30)).sz = 1 from rfl, Nat.mul_one] at hv138_0
                replace hv138_0 := Option.some.inj (hv138_0.symm.trans hx138_0)
                injection hv138_0 with hva_ hvn_ hvc_
                rw [hva_] at ge138_0
                rw [hvc_] at ul138_0
                have HL138_0 := Aside0.mk (show Kd.V k30 30 _ w.heap.size _ _ (rd_L8 t133 x5_1) from Kd.V_mk ul138_0 ge138_0)
                clear hva_ hvn_ hvc_ ge138_0 ul138_0
                clear hcc138 hce138
                have HR138_0 := Aside0.mk hi138_0
                have HC138_0 := Aside0.mk hl138_0
                clear hi138_0 hl138_0
                replace p138 := eq_true p138
                replace q138 := eq_true q138
                go_wp2
                repeat (go_quiet (fail); try go_wp2)
                go_meet
                case rel => exact ⟨_, (true), (by first | rfl | (simp; done) | (simp [*]; done)), H', ⟨by have := HK1.out; first | omega | exact Nat.le_refl _⟩, ⟨by (with_reducible repeat (first | apply Kd.N_alloc | apply Kd.N_drewN | apply Kd.N_drew)); exact HO_3.out⟩, ⟨by (with_reducible repeat (first | apply Kd.N_alloc | apply Kd.N_drewN | apply Kd.N_drew)); exact HO_4.out⟩, ⟨by repeat (first | (with_reducible first | exact HB.out | apply below_alloc | apply pw_below_drewN | apply below_drew1) | exact HB.out)⟩⟩
              · rw [if_neg c12] at H
                have c12b0 : (((rd_L8 t133 x5_1).length : Int) == 0) = false := beq_eq_false_iff_ne.mpr c12
                have c12b1 : (((rd_L8 t133 x5_1).length : Int) != 0) = true := bne_iff_ne.mpr c12
                have c12b2 : ¬ ((rd_L8 t133 x5_1) = []) := fun h_ => c12 (by rw [h_]; rfl)
                by_cases c13 : x5_1 > 0
                · rw [if_pos c13] at H
                  have c13b0 : decide (0 < x5_1) = true := decide_eq_true c13
                  clear c13
                  obtain ⟨ji14, hji14⟩ : ∃ j_ : Int, (wrap64 (x5_1 - 1)) = j_ := ⟨_, rfl⟩
                  replace H : (if 0 ≤ (ji14) then (if (ji14) < (t133.length : Int) then (if 0 < ((rd_L8 t133 (ji14)).length : Int) then (if 0 < ((rd_L8 t133 x5_1).length : Int) then (gristmilllaw24_MergeGroups.j1 k1 l0 t133 x4_1 x5_1 (((rd_T30 (rd_L8 t133 (ji14)) 0).f0).toList == ((rd_T30 (rd_L8 t133 x5_1) 0).f0).toList)) else (none)) else (none)) else (none)) else (none)) = some r := by first | (rw [hji14] at H; exact H) | (simp only [hji14] at H ⊢; exact H)
                  have hji14w : (IntKind.i64.wrap (x5_1 - 1)) = ji14 := (i64_w _).trans hji14
                  by_cases c15 : 0 ≤ (ji14)
                  · rw [if_pos c15] at H
                    have c15b0 : decide (0 ≤ (ji14)) = true := decide_eq_true c15
                    clear c15
                    by_cases c16 : (ji14) < (t133.length : Int)
                    · rw [if_pos c16] at H
                      have c16b0 : decide ((ji14) < (t133.length : Int)) = true := decide_eq_true c16
                      clear c16
                      by_cases c17 : 0 < ((rd_L8 t133 (ji14)).length : Int)
                      · rw [if_pos c17] at H
                        have c17b0 : decide (0 < ((rd_L8 t133 (ji14)).length : Int)) = true := decide_eq_true c17
                        have c17b1 : decide (0 < (rd_L8 t133 (ji14)).length) = true := decide_eq_true (by omega)
                        clear c17
                        by_cases c18 : 0 < ((rd_L8 t133 x5_1).length : Int)
                        · rw [if_pos c18] at H
                          have c18b0 : decide (0 < ((rd_L8 t133 x5_1).length : Int)) = true := decide_eq_true c18
                          have c18b1 : decide (0 < (rd_L8 t133 x5_1).length) = true := decide_eq_true (by omega)
                          clear c18
                          have H' := Aside0.mk H
                          clear H
                          have p138 : 0 ≤ (x5_1 : Int) := of_decide_eq_true (by first | (with_reducible assumption) | assumption)
                          have q138 : x5_1 < (t133.length : Int) := of_decide_eq_true (by first | (with_reducible assumption) | assumption)
                          obtain ⟨ad138, A138_0, c138_0, e138, hx138_0, hl138_0, hi138_0⟩ := at_L8 (Kd.N_reads' HO_3.out).2.2 x5_1 p138 q138
                          cases e138
                          obtain ⟨ce138, hce138, hMe138, hcc138⟩ := Kd.N_get HO_3.out [] x5_1 p138 (by first | exact q138 | exact of_decide_eq_true (by first | (with_reducible assumption) | assumption) | (have e_ := (Kd.N_reads' HO_3.out).1; omega))
                          obtain ⟨ua138_0, uc138_0, rfl, ul138_0, ge138_0⟩ := Kd.FK_slice_open hMe138
                          have hv138_0 := hcc138 0 _ rfl
                          rw [Nat.add_zero, show ((Kd.slice 30 k30)).sz = 1 from rfl, Nat.mul_one] at hv138_0
                          replace hv138_0 := Option.some.inj (hv138_0.symm.trans hx138_0)
                          injection hv138_0 with hva_ hvn_ hvc_
                          rw [hva_] at ge138_0
                          rw [hvc_] at ul138_0
                          have HL138_0 := Aside0.mk (show Kd.V k30 30 _ w.heap.size _ _ (rd_L8 t133 x5_1) from Kd.V_mk ul138_0 ge138_0)
                          clear hva_ hvn_ hvc_ ge138_0 ul138_0
                          clear hcc138 hce138
                          have HR138_0 := Aside0.mk hi138_0
                          have HC138_0 := Aside0.mk hl138_0
                          clear hi138_0 hl138_0
                          replace p138 := eq_true p138
                          replace q138 := eq_true q138
                          have p139 : 0 ≤ ((ji14) : Int) := of_decide_eq_true (by first | (with_reducible assumption) | assumption)
                          have q139 : (ji14) < (t133.length : Int) := of_decide_eq_true (by first | (with_reducible assumption) | assumption)
                          obtain ⟨ad139, A139_0, c139_0, e139, hx139_0, hl139_0, hi139_0⟩ := at_L8 (Kd.N_reads' HO_3.out).2.2 (ji14) p139 q139
                          obtain rfl : ad138 = ad139 := (by injection e139)
                          obtain ⟨ce139, hce139, hMe139, hcc139⟩ := Kd.N_get HO_3.out [] (ji14) p139 (by first | exact q139 | exact of_decide_eq_true (by first | (with_reducible assumption) | assumption) | (have e_ := (Kd.N_reads' HO_3.out).1; omega))
                          obtain ⟨ua139_0, uc139_0, rfl, ul139_0, ge139_0⟩ := Kd.FK_slice_open hMe139
                          have hv139_0 := hcc139 0 _ rfl
                          rw [Nat.add_zero, show ((Kd.slice 30 k30)).sz = 1 from rfl, Nat.mul_one] at hv139_0
                          replace hv139_0 := Option.some.inj (hv139_0.symm.trans hx139_0)
                          injection hv139_0 with hva_ hvn_ hvc_
                          rw [hva_] at ge139_0
                          rw [hvc_] at ul139_0
                          have HL139_0 := Aside0.mk (show Kd.V k30 30 _ w.heap.size _ _ (rd_L8 t133 (ji14)) from Kd.V_mk ul139_0 ge139_0)
                          clear hva_ hvn_ hvc_ ge139_0 ul139_0
                          clear hcc139 hce139
                          have HR139_0 := Aside0.mk hi139_0
                          have HC139_0 := Aside0.mk hl139_0
                          clear hi139_0 hl139_0
                          replace p139 := eq_true p139
                          replace q139 := eq_true q139
                          have p140 : 0 ≤ (0 : Int) := (by omega)
                          have q140 : 0 < ((rd_L8 t133 (ji14)).length : Int) := of_decide_eq_true (by first | (with_reducible assumption) | assumption)
                          obtain ⟨ad140, A140_1, c140_1, A140_2, c140_2, e140, hx140_0, hx140_1, hx140_2, hl140_1, hi140_1, hl140_2, hi140_2⟩ := at_T30 (by repeat (first | (with_reducible exact HR139_0.out) | (with_reducible refine Kd.C_alloc ?_ _) | (with_reducible refine Kd.C_drewN ?_ _) | (with_reducible refine Kd.C_drew ?_) | exact HR139_0.out)) 0 p140 q140
                          cases e140
                          obtain ⟨ce140, hce140, hMe140, hcc140⟩ := Kd.V_get HL139_0.out z30 0 p140 (by first | exact q140 | exact of_decide_eq_true (by first | (with_reducible assumption) | assumption) | (have e_ := (Kd.V_reads' HL139_0.out).1; omega))
                          obtain ⟨ua140_1, uc140_1, ua140_2, uc140_2, rfl, ul140_1, ge140_1, ul140_2, ge140_2⟩ := k30_openF hMe140
                          have hv140_1 := hcc140 1 _ rfl
                          rw [add_field _ _ 1 (by omega)] at hv140_1
                          replace hv140_1 := Option.some.inj (hv140_1.symm.trans hx140_1)
                          injection hv140_1 with hva_ hvn_ hvc_
                          rw [hva_] at ge140_1
                          rw [hvc_] at ul140_1
                          have HL140_1 := Aside0.mk (show Kd.V k35 35 _ w.heap.size _ _ ((rd_T30 (rd_L8 t133 (ji14)) 0).f1) from Kd.V_mk ul140_1 ge140_1)
                          clear hva_ hvn_ hvc_ ge140_1 ul140_1
                          have hv140_2 := hcc140 2 _ rfl
                          rw [add_field _ _ 2 (by omega)] at hv140_2
                          replace hv140_2 := Option.some.inj (hv140_2.symm.trans hx140_2)
                          injection hv140_2 with hva_ hvn_ hvc_
                          rw [hva_] at ge140_2
                          rw [hvc_] at ul140_2
                          have HL140_2 := Aside0.mk (show Kd.V (Kd.int .i64) 3 _ w.heap.size _ _ ((rd_T30 (rd_L8 t133 (ji14)) 0).f2) from Kd.V_mk ul140_2 ge140_2)
                          clear hva_ hvn_ hvc_ ge140_2 ul140_2
                          clear hcc140 hce140
                          have qi140 : (0 < (rd_L8 t133 (ji14)).length) = True := eq_true (by omega)
                          (try rw [show ((0 : Int)).toNat = 0 from rfl] at hx140_0)
                          (try rw [show 0 * 3 = 0 from rfl] at hx140_0)
                          (try rw [Addr.add_zero'] at hx140_0)
                          (try rw [show ((0 : Int)).toNat = 0 from rfl] at hx140_1)
                          (try rw [show 0 * 3 = 0 from rfl] at hx140_1)
                          (try rw [Addr.add_zero'] at hx140_1)
                          (try rw [show ((0 : Int)).toNat = 0 from rfl] at hx140_2)
                          (try rw [show 0 * 3 = 0 from rfl] at hx140_2)
                          (try rw [Addr.add_zero'] at hx140_2)
                          have HR140_1 := Aside0.mk hi140_1
                          have HC140_1 := Aside0.mk hl140_1
                          clear hi140_1 hl140_1
                          have HR140_2 := Aside0.mk hi140_2
                          have HC140_2 := Aside0.mk hl140_2
                          clear hi140_2 hl140_2
                          replace p140 := eq_true p140
                          replace q140 := eq_true q140
                          have p141 : 0 ≤ (x5_1 : Int) := of_decide_eq_true (by first | (with_reducible assumption) | assumption)
                          have q141 : x5_1 < (t133.length : Int) := of_decide_eq_true (by first | (with_reducible assumption) | assumption)
                          obtain ⟨ad141, A141_0, c141_0, e141, hx141_0, hl141_0, hi141_0⟩ := at_L8 (Kd.N_reads' HO_3.out).2.2 x5_1 p141 q141
                          obtain rfl : ad138 = ad141 := (by injection e141)
                          obtain ⟨ce141, hce141, hMe141, hcc141⟩ := Kd.N_get HO_3.out [] x5_1 p141 (by first | exact q141 | exact of_decide_eq_true (by first | (with_reducible assumption) | assumption) | (have e_ := (Kd.N_reads' HO_3.out).1; omega))
                          obtain ⟨ua141_0, uc141_0, rfl, ul141_0, ge141_0⟩ := Kd.FK_slice_open hMe141
                          have hv141_0 := hcc141 0 _ rfl
                          rw [Nat.add_zero, show ((Kd.slice 30 k30)).sz = 1 from rfl, Nat.mul_one] at hv141_0
                          replace hv141_0 := Option.some.inj (hv141_0.symm.trans hx141_0)
                          injection hv141_0 with hva_ hvn_ hvc_
                          rw [hva_] at ge141_0
                          rw [hvc_] at ul141_0
                          have HL141_0 := Aside0.mk (show Kd.V k30 30 _ w.heap.size _ _ (rd_L8 t133 x5_1) from Kd.V_mk ul141_0 ge141_0)
                          clear hva_ hvn_ hvc_ ge141_0 ul141_0
                          clear hcc141 hce141
                          have HR141_0 := Aside0.mk hi141_0
                          have HC141_0 := Aside0.mk hl141_0
                          clear hi141_0 hl141_0
                          replace p141 := eq_true p141
                          replace q141 := eq_true q141
                          have ea_ := Option.some.inj (hx138_0.symm.trans hx141_0)
                          injection ea_ with ea_ en_ ec_
                          subst ea_
                          subst ec_
                          clear en_
                          have p142 : 0 ≤ (0 : Int) := (by omega)
                          have q142 : 0 < ((rd_L8 t133 x5_1).length : Int) := of_decide_eq_true (by first | (with_reducible assumption) | assumption)
                          obtain ⟨ad142, A142_1, c142_1, A142_2, c142_2, e142, hx142_0, hx142_1, hx142_2, hl142_1, hi142_1, hl142_2, hi142_2⟩ := at_T30 (by repeat (first | (with_reducible exact HR141_0.out) | (with_reducible refine Kd.C_alloc ?_ _) | (with_reducible refine Kd.C_drewN ?_ _) | (with_reducible refine Kd.C_drew ?_) | exact HR141_0.out)) 0 p142 q142
                          cases e142
                          obtain ⟨ce142, hce142, hMe142, hcc142⟩ := Kd.V_get HL141_0.out z30 0 p142 (by first | exact q142 | exact of_decide_eq_true (by first | (with_reducible assumption) | assumption) | (have e_ := (Kd.V_reads' HL141_0.out).1; omega))
                          obtain ⟨ua142_1, uc142_1, ua142_2, uc142_2, rfl, ul142_1, ge142_1, ul142_2, ge142_2⟩ := k30_openF hMe142
                          have hv142_1 := hcc142 1 _ rfl
                          rw [add_field _ _ 1 (by omega)] at hv142_1
                          replace hv142_1 := Option.some.inj (hv142_1.symm.trans hx142_1)
                          injection hv142_1 with hva_ hvn_ hvc_
                          rw [hva_] at ge142_1
                          rw [hvc_] at ul142_1
                          have HL142_1 := Aside0.mk (show Kd.V k35 35 _ w.heap.size _ _ ((rd_T30 (rd_L8 t133 x5_1) 0).f1) from Kd.V_mk ul142_1 ge142_1)
                          clear hva_ hvn_ hvc_ ge142_1 ul142_1
                          have hv142_2 := hcc142 2 _ rfl
                          rw [add_field _ _ 2 (by omega)] at hv142_2
                          replace hv142_2 := Option.some.inj (hv142_2.symm.trans hx142_2)
                          injection hv142_2 with hva_ hvn_ hvc_
                          rw [hva_] at ge142_2
                          rw [hvc_] at ul142_2
                          have HL142_2 := Aside0.mk (show Kd.V (Kd.int .i64) 3 _ w.heap.size _ _ ((rd_T30 (rd_L8 t133 x5_1) 0).f2) from Kd.V_mk ul142_2 ge142_2)
                          clear hva_ hvn_ hvc_ ge142_2 ul142_2
                          clear hcc142 hce142
                          have qi142 : (0 < (rd_L8 t133 x5_1).length) = True := eq_true (by omega)
                          (try rw [show ((0 : Int)).toNat = 0 from rfl] at hx142_0)
                          (try rw [show 0 * 3 = 0 from rfl] at hx142_0)
                          (try rw [Addr.add_zero'] at hx142_0)
                          (try rw [show ((0 : Int)).toNat = 0 from rfl] at hx142_1)
                          (try rw [show 0 * 3 = 0 from rfl] at hx142_1)
                          (try rw [Addr.add_zero'] at hx142_1)
                          (try rw [show ((0 : Int)).toNat = 0 from rfl] at hx142_2)
                          (try rw [show 0 * 3 = 0 from rfl] at hx142_2)
                          (try rw [Addr.add_zero'] at hx142_2)
                          have HR142_1 := Aside0.mk hi142_1
                          have HC142_1 := Aside0.mk hl142_1
                          clear hi142_1 hl142_1
                          have HR142_2 := Aside0.mk hi142_2
                          have HC142_2 := Aside0.mk hl142_2
                          clear hi142_2 hl142_2
                          replace p142 := eq_true p142
                          replace q142 := eq_true q142
                          go_wp2
                          repeat (go_quiet (fail); try go_wp2)
                          go_meet
                          case rel => exact ⟨_, ((((rd_T30 (rd_L8 t133 (ji14)) 0).f0).toList == ((rd_T30 (rd_L8 t133 x5_1) 0).f0).toList)), (by first | rfl | (simp; done) | (simp only [← hji14] <;> (first | rfl | simp)) | (simp [*]; done)), H', ⟨by have := HK1.out; first | omega | exact Nat.le_refl _⟩, ⟨by (with_reducible repeat (first | apply Kd.N_alloc | apply Kd.N_drewN | apply Kd.N_drew)); exact HO_3.out⟩, ⟨by (with_reducible repeat (first | apply Kd.N_alloc | apply Kd.N_drewN | apply Kd.N_drew)); exact HO_4.out⟩, ⟨by repeat (first | (with_reducible first | exact HB.out | apply below_alloc | apply pw_below_drewN | apply below_drew1) | exact HB.out)⟩⟩
                        · rw [if_neg c18] at H
                          exact absurd H (by simp)
                      · rw [if_neg c17] at H
                        exact absurd H (by simp)
                    · rw [if_neg c16] at H
                      exact absurd H (by simp)
                  · rw [if_neg c15] at H
                    exact absurd H (by simp)
                · rw [if_neg c13] at H
                  have c13b0 : decide (0 < x5_1) = false := decide_eq_false c13
                  clear c13
                  have H' := Aside0.mk H
                  clear H
                  have p138 : 0 ≤ (x5_1 : Int) := of_decide_eq_true (by first | (with_reducible assumption) | assumption)
                  have q138 : x5_1 < (t133.length : Int) := of_decide_eq_true (by first | (with_reducible assumption) | assumption)
                  obtain ⟨ad138, A138_0, c138_0, e138, hx138_0, hl138_0, hi138_0⟩ := at_L8 (Kd.N_reads' HO_3.out).2.2 x5_1 p138 q138
                  cases e138
                  obtain ⟨ce138, hce138, hMe138, hcc138⟩ := Kd.N_get HO_3.out [] x5_1 p138 (by first | exact q138 | exact of_decide_eq_true (by first | (with_reducible assumption) | assumption) | (have e_ := (Kd.N_reads' HO_3.out).1; omega))
                  obtain ⟨ua138_0, uc138_0, rfl, ul138_0, ge138_0⟩ := Kd.FK_slice_open hMe138
                  have hv138_0 := hcc138 0 _ rfl
                  rw [Nat.add_zero, show ((Kd.slice 30 k30)).sz = 1 from rfl, Nat.mul_one] at hv138_0
                  replace hv138_0 := Option.some.inj (hv138_0.symm.trans hx138_0)
                  injection hv138_0 with hva_ hvn_ hvc_
                  rw [hva_] at ge138_0
                  rw [hvc_] at ul138_0
                  have HL138_0 := Aside0.mk (show Kd.V k30 30 _ w.heap.size _ _ (rd_L8 t133 x5_1) from Kd.V_mk ul138_0 ge138_0)
                  clear hva_ hvn_ hvc_ ge138_0 ul138_0
                  clear hcc138 hce138
                  have HR138_0 := Aside0.mk hi138_0
                  have HC138_0 := Aside0.mk hl138_0
                  clear hi138_0 hl138_0
                  replace p138 := eq_true p138
                  replace q138 := eq_true q138
                  go_wp2
                  repeat (go_quiet (fail); try go_wp2)
                  go_meet
                  case rel => exact ⟨_, (false), (by first | rfl | (simp; done) | (simp [*]; done)), H', ⟨by have := HK1.out; first | omega | exact Nat.le_refl _⟩, ⟨by (with_reducible repeat (first | apply Kd.N_alloc | apply Kd.N_drewN | apply Kd.N_drew)); exact HO_3.out⟩, ⟨by (with_reducible repeat (first | apply Kd.N_alloc | apply Kd.N_drewN | apply Kd.N_drew)); exact HO_4.out⟩, ⟨by repeat (first | (with_reducible first | exact HB.out | apply below_alloc | apply pw_below_drewN | apply below_drew1) | exact HB.out)⟩⟩
            · rw [if_neg c11] at H
              exact absurd H (by simp)
          case rest =>
            clear HC9
            try clear c1
            try clear p1
            try clear q1
            try clear hx1
            try clear qi1
            try clear p2
            try clear c3
            try clear p6
            try clear c8
            try clear c8b0
            try clear c11
            try clear c11b0
            try clear c12
            try clear c12b0
            try clear c12b1
            try clear c12b2
            try clear c13
            try clear c13b0
            try clear p13
            try clear q13
            try clear hx13
            try clear c14
            try clear p14
            try clear q14
            try clear hx14
            try clear qi14
            try clear c15
            try clear c15b0
            try clear c16
            try clear c16b0
            try clear c17
            try clear c17b0
            try clear c17b1
            try clear c18
            try clear c18b0
            try clear c18b1
            try clear hx138_0
            try clear hx139_0
            try clear hx140_0
            try clear hx140_1
            try clear hx140_2
            try clear hx141_0
            try clear hx142_0
            try clear hx142_1
            try clear hx142_2
            try clear p138
            try clear p139
            try clear p140
            try clear p141
            try clear p142
            try clear p2
            try clear q138
            try clear q139
            try clear q140
            try clear q141
            try clear q142
            obtain ⟨kq, x45_8, rfl, HA, HJ8, HO_3, HO_4, HB⟩ := hcut
            cases kq with
            | zero => exact absurd HA.out (by simp [gristmilllaw24_MergeGroups.j1])
            | succ kj8 =>
              have H := HA.out
              clear HA
              simp only [gristmilllaw24_MergeGroups.j1] at H
              by_cases c19 : x45_8 = true
              · subst c19
                have H1 : (some false) = some r := by rw [if_pos rfl] at H; exact H
                clear H
                have H := H1
                clear H1
                obtain rfl := Option.some.inj H
                go_wp2
                repeat (go_quiet (fail); try go_wp2)
                go_ret
                exact ⟨by first | rfl | (simp [errW_none, errW_some] <;> rfl) | (simp [*, errW_none, errW_some] <;> rfl), by repeat (first | (with_reducible first | exact HB.out | apply below_alloc | apply pw_below_drewN | apply below_drew1) | exact HB.out)⟩
              · replace c19 := Bool.eq_false_iff.mpr c19
                subst c19
                have H1 : (gristmilllaw24_MergeGroups.l1 kj8 l0 t133 x4_1 x5_1 0) = some r := by rw [if_neg (show ¬ (false = true) by decide)] at H; exact H
                clear H
                have H := H1
                clear H1
                have H' := Aside0.mk H
                clear H
                go_wp2
                repeat (go_quiet (fail); try go_wp2)
                go_loopg [6] kj8 (fun kq v6 w' => ∃ (x6_3 : Int), v6 = .int .i64 x6_3 ∧ Aside0 (gristmilllaw24_MergeGroups.l1 kq l0 t133 x4_1 x5_1 x6_3 = some r) ∧ Aside0 (kq ≤ kj8) ∧ Aside0 (Kd.N (Kd.slice 30 k30) 22 w' w.heap.size (fun k_ => some k_ ≠ (u4 : Value).ownBlock) (.slice Ao10 t133.length co10) t133) ∧ Aside0 (Kd.N k30 30 w' w.heap.size (fun k_ => some k_ ≠ ((.slice Ao10 t133.length co10) : Value).ownBlock) u4 x4_1) ∧ Aside0 (Below w.heap.size w w'))
                case atStart => exact ⟨(0), (by first | rfl | (simp; done) | (simp [*]; done)), H', ⟨Nat.le_refl _⟩, ⟨by (with_reducible repeat (first | apply Kd.N_alloc | apply Kd.N_drewN | apply Kd.N_drew)); exact HO_3.out⟩, ⟨by (with_reducible repeat (first | apply Kd.N_alloc | apply Kd.N_drewN | apply Kd.N_drew)); exact HO_4.out⟩, ⟨by repeat (first | (with_reducible first | exact HB.out | apply below_alloc | apply pw_below_drewN | apply below_drew1) | exact HB.out)⟩⟩
                case round =>
                  clear H'
                  try clear c1
                  try clear p1
                  try clear q1
                  try clear hx1
                  try clear qi1
                  try clear p2
                  try clear c3
                  try clear p6
                  try clear c8
                  try clear c8b0
                  try clear c11
                  try clear c11b0
                  try clear c12
                  try clear c12b0
                  try clear c12b1
                  try clear c12b2
                  try clear c13
                  try clear c13b0
                  try clear p13
                  try clear q13
                  try clear hx13
                  try clear c14
                  try clear p14
                  try clear q14
                  try clear hx14
                  try clear qi14
                  try clear c15
                  try clear c15b0
                  try clear c16
                  try clear c16b0
                  try clear c17
                  try clear c17b0
                  try clear c17b1
                  try clear c18
                  try clear c18b0
                  try clear c18b1
                  try clear c19
                  try clear hx138_0
                  try clear hx139_0
                  try clear hx140_0
                  try clear hx140_1
                  try clear hx140_2
                  try clear hx141_0
                  try clear hx142_0
                  try clear hx142_1
                  try clear hx142_2
                  try clear p1
                  try clear p13
                  try clear p138
                  try clear p139
                  try clear p14
                  try clear p140
                  try clear p141
                  try clear p142
                  try clear p2
                  try clear p6
                  try clear q1
                  try clear q13
                  try clear q138
                  try clear q139
                  try clear q14
                  try clear q140
                  try clear q141
                  try clear q142
                  obtain ⟨x6_3, rfl, HA, HK3, HO_3, HO_4, HB⟩ := hrel
                  cases gk with
                  | zero => exact absurd HA.out (by simp [gristmilllaw24_MergeGroups.l1])
                  | succ k3 =>
                    have H := HA.out
                    clear HA
                    simp only [gristmilllaw24_MergeGroups.l1] at H
                    by_cases c20 : 0 ≤ x5_1
                    · rw [if_pos c20] at H
                      have c20b0 : decide (0 ≤ x5_1) = true := decide_eq_true c20
                      clear c20
                      by_cases c21 : x5_1 < (t133.length : Int)
                      · rw [if_pos c21] at H
                        have c21b0 : decide (x5_1 < (t133.length : Int)) = true := decide_eq_true c21
                        clear c21
                        by_cases c22 : x6_3 < ((rd_L8 t133 x5_1).length : Int)
                        · rw [if_pos c22] at H
                          have c22b0 : decide (x6_3 < ((rd_L8 t133 x5_1).length : Int)) = true := decide_eq_true c22
                          clear c22
                          by_cases c23 : 0 ≤ x6_3
                          · rw [if_pos c23] at H
                            have c23b0 : decide (0 ≤ x6_3) = true := decide_eq_true c23
                            clear c23
                            by_cases c24 : 0 < ((rd_L8 t133 x5_1).length : Int)
                            · rw [if_pos c24] at H
                              have c24b0 : decide (0 < ((rd_L8 t133 x5_1).length : Int)) = true := decide_eq_true c24
                              have c24b1 : decide (0 < (rd_L8 t133 x5_1).length) = true := decide_eq_true (by omega)
                              clear c24
                              by_cases c25 : ((rd_T30 (rd_L8 t133 x5_1) x6_3).f0).toList = ((rd_T30 (rd_L8 t133 x5_1) 0).f0).toList
                              · rw [if_pos c25] at H
                                have c25b0 : (((rd_T30 (rd_L8 t133 x5_1) x6_3).f0).toList == ((rd_T30 (rd_L8 t133 x5_1) 0).f0).toList) = true := beq_iff_eq.mpr c25
                                have c25b1 : (((rd_T30 (rd_L8 t133 x5_1) x6_3).f0).toList != ((rd_T30 (rd_L8 t133 x5_1) 0).f0).toList) = false := bne_eq_false_iff_eq.mpr c25
                                clear c25
                                have H' := Aside0.mk H
                                clear H
                                have p143 : 0 ≤ (x5_1 : Int) := of_decide_eq_true (by first | (with_reducible assumption) | assumption)
                                have q143 : x5_1 < (t133.length : Int) := of_decide_eq_true (by first | (with_reducible assumption) | assumption)
                                obtain ⟨ad143, A143_0, c143_0, e143, hx143_0, hl143_0, hi143_0⟩ := at_L8 (Kd.N_reads' HO_3.out).2.2 x5_1 p143 q143
                                cases e143
                                obtain ⟨ce143, hce143, hMe143, hcc143⟩ := Kd.N_get HO_3.out [] x5_1 p143 (by first | exact q143 | exact of_decide_eq_true (by first | (with_reducible assumption) | assumption) | (have e_ := (Kd.N_reads' HO_3.out).1; omega))
                                obtain ⟨ua143_0, uc143_0, rfl, ul143_0, ge143_0⟩ := Kd.FK_slice_open hMe143
                                have hv143_0 := hcc143 0 _ rfl
                                rw [Nat.add_zero, show ((Kd.slice 30 k30)).sz = 1 from rfl, Nat.mul_one] at hv143_0
                                replace hv143_0 := Option.some.inj (hv143_0.symm.trans hx143_0)
                                injection hv143_0 with hva_ hvn_ hvc_
                                rw [hva_] at ge143_0
                                rw [hvc_] at ul143_0
                                have HL143_0 := Aside0.mk (show Kd.V k30 30 _ w.heap.size _ _ (rd_L8 t133 x5_1) from Kd.V_mk ul143_0 ge143_0)
                                clear hva_ hvn_ hvc_ ge143_0 ul143_0
                                clear hcc143 hce143
                                have HR143_0 := Aside0.mk hi143_0
                                have HC143_0 := Aside0.mk hl143_0
                                clear hi143_0 hl143_0
                                replace p143 := eq_true p143
                                replace q143 := eq_true q143
                                have p144 : 0 ≤ (x5_1 : Int) := of_decide_eq_true (by first | (with_reducible assumption) | assumption)
                                have q144 : x5_1 < (t133.length : Int) := of_decide_eq_true (by first | (with_reducible assumption) | assumption)
                                obtain ⟨ad144, A144_0, c144_0, e144, hx144_0, hl144_0, hi144_0⟩ := at_L8 (Kd.N_reads' HO_3.out).2.2 x5_1 p144 q144
                                obtain rfl : ad143 = ad144 := (by injection e144)
                                obtain ⟨ce144, hce144, hMe144, hcc144⟩ := Kd.N_get HO_3.out [] x5_1 p144 (by first | exact q144 | exact of_decide_eq_true (by first | (with_reducible assumption) | assumption) | (have e_ := (Kd.N_reads' HO_3.out).1; omega))
                                obtain ⟨ua144_0, uc144_0, rfl, ul144_0, ge144_0⟩ := Kd.FK_slice_open hMe144
                                have hv144_0 := hcc144 0 _ rfl
                                rw [Nat.add_zero, show ((Kd.slice 30 k30)).sz = 1 from rfl, Nat.mul_one] at hv144_0
                                replace hv144_0 := Option.some.inj (hv144_0.symm.trans hx144_0)
                                injection hv144_0 with hva_ hvn_ hvc_
                                rw [hva_] at ge144_0
                                rw [hvc_] at ul144_0
                                have HL144_0 := Aside0.mk (show Kd.V k30 30 _ w.heap.size _ _ (rd_L8 t133 x5_1) from Kd.V_mk ul144_0 ge144_0)
                                clear hva_ hvn_ hvc_ ge144_0 ul144_0
                                clear hcc144 hce144
                                have HR144_0 := Aside0.mk hi144_0
                                have HC144_0 := Aside0.mk hl144_0
                                clear hi144_0 hl144_0
                                replace p144 := eq_true p144
                                replace q144 := eq_true q144
                                have ea_ := Option.some.inj (hx143_0.symm.trans hx144_0)
                                injection ea_ with ea_ en_ ec_
                                subst ea_
                                subst ec_
                                clear en_
                                have p145 : 0 ≤ (x6_3 : Int) := of_decide_eq_true (by first | (with_reducible assumption) | assumption)
                                have q145 : x6_3 < ((rd_L8 t133 x5_1).length : Int) := of_decide_eq_true (by first | (with_reducible assumption) | assumption)
                                obtain ⟨ad145, A145_1, c145_1, A145_2, c145_2, e145, hx145_0, hx145_1, hx145_2, hl145_1, hi145_1, hl145_2, hi145_2⟩ := at_T30 (by repeat (first | (with_reducible exact HR144_0.out) | (with_reducible refine Kd.C_alloc ?_ _) | (with_reducible refine Kd.C_drewN ?_ _) | (with_reducible refine Kd.C_drew ?_) | exact HR144_0.out)) x6_3 p145 q145
                                cases e145
                                obtain ⟨ce145, hce145, hMe145, hcc145⟩ := Kd.V_get HL144_0.out z30 x6_3 p145 (by first | exact q145 | exact of_decide_eq_true (by first | (with_reducible assumption) | assumption) | (have e_ := (Kd.V_reads' HL144_0.out).1; omega))
                                obtain ⟨ua145_1, uc145_1, ua145_2, uc145_2, rfl, ul145_1, ge145_1, ul145_2, ge145_2⟩ := k30_openF hMe145
                                have hv145_1 := hcc145 1 _ rfl
                                rw [add_field _ _ 1 (by omega)] at hv145_1
                                replace hv145_1 := Option.some.inj (hv145_1.symm.trans hx145_1)
                                injection hv145_1 with hva_ hvn_ hvc_
                                rw [hva_] at ge145_1
                                rw [hvc_] at ul145_1
                                have HL145_1 := Aside0.mk (show Kd.V k35 35 _ w.heap.size _ _ ((rd_T30 (rd_L8 t133 x5_1) x6_3).f1) from Kd.V_mk ul145_1 ge145_1)
                                clear hva_ hvn_ hvc_ ge145_1 ul145_1
                                have hv145_2 := hcc145 2 _ rfl
                                rw [add_field _ _ 2 (by omega)] at hv145_2
                                replace hv145_2 := Option.some.inj (hv145_2.symm.trans hx145_2)
                                injection hv145_2 with hva_ hvn_ hvc_
                                rw [hva_] at ge145_2
                                rw [hvc_] at ul145_2
                                have HL145_2 := Aside0.mk (show Kd.V (Kd.int .i64) 3 _ w.heap.size _ _ ((rd_T30 (rd_L8 t133 x5_1) x6_3).f2) from Kd.V_mk ul145_2 ge145_2)
                                clear hva_ hvn_ hvc_ ge145_2 ul145_2
                                clear hcc145 hce145
                                have HR145_1 := Aside0.mk hi145_1
                                have HC145_1 := Aside0.mk hl145_1
                                clear hi145_1 hl145_1
                                have HR145_2 := Aside0.mk hi145_2
                                have HC145_2 := Aside0.mk hl145_2
                                clear hi145_2 hl145_2
                                replace p145 := eq_true p145
                                replace q145 := eq_true q145
                                have p146 : 0 ≤ (x5_1 : Int) := of_decide_eq_true (by first | (with_reducible assumption) | assumption)
                                have q146 : x5_1 < (t133.length : Int) := of_decide_eq_true (by first | (with_reducible assumption) | assumption)
                                obtain ⟨ad146, A146_0, c146_0, e146, hx146_0, hl146_0, hi146_0⟩ := at_L8 (Kd.N_reads' HO_3.out).2.2 x5_1 p146 q146
                                obtain rfl : ad143 = ad146 := (by injection e146)
                                obtain ⟨ce146, hce146, hMe146, hcc146⟩ := Kd.N_get HO_3.out [] x5_1 p146 (by first | exact q146 | exact of_decide_eq_true (by first | (with_reducible assumption) | assumption) | (have e_ := (Kd.N_reads' HO_3.out).1; omega))
                                obtain ⟨ua146_0, uc146_0, rfl, ul146_0, ge146_0⟩ := Kd.FK_slice_open hMe146
                                have hv146_0 := hcc146 0 _ rfl
                                rw [Nat.add_zero, show ((Kd.slice 30 k30)).sz = 1 from rfl, Nat.mul_one] at hv146_0
                                replace hv146_0 := Option.some.inj (hv146_0.symm.trans hx146_0)
                                injection hv146_0 with hva_ hvn_ hvc_
                                rw [hva_] at ge146_0
                                rw [hvc_] at ul146_0
                                have HL146_0 := Aside0.mk (show Kd.V k30 30 _ w.heap.size _ _ (rd_L8 t133 x5_1) from Kd.V_mk ul146_0 ge146_0)
                                clear hva_ hvn_ hvc_ ge146_0 ul146_0
                                clear hcc146 hce146
                                have HR146_0 := Aside0.mk hi146_0
                                have HC146_0 := Aside0.mk hl146_0
                                clear hi146_0 hl146_0
                                replace p146 := eq_true p146
                                replace q146 := eq_true q146
                                have ea_ := Option.some.inj (hx143_0.symm.trans hx146_0)
                                injection ea_ with ea_ en_ ec_
                                subst ea_
                                subst ec_
                                clear en_
                                have p147 : 0 ≤ (0 : Int) := (by omega)
                                have q147 : 0 < ((rd_L8 t133 x5_1).length : Int) := of_decide_eq_true (by first | (with_reducible assumption) | assumption)
                                obtain ⟨ad147, A147_1, c147_1, A147_2, c147_2, e147, hx147_0, hx147_1, hx147_2, hl147_1, hi147_1, hl147_2, hi147_2⟩ := at_T30 (by repeat (first | (with_reducible exact HR146_0.out) | (with_reducible refine Kd.C_alloc ?_ _) | (with_reducible refine Kd.C_drewN ?_ _) | (with_reducible refine Kd.C_drew ?_) | exact HR146_0.out)) 0 p147 q147
                                cases e147
                                obtain ⟨ce147, hce147, hMe147, hcc147⟩ := Kd.V_get HL146_0.out z30 0 p147 (by first | exact q147 | exact of_decide_eq_true (by first | (with_reducible assumption) | assumption) | (have e_ := (Kd.V_reads' HL146_0.out).1; omega))
                                obtain ⟨ua147_1, uc147_1, ua147_2, uc147_2, rfl, ul147_1, ge147_1, ul147_2, ge147_2⟩ := k30_openF hMe147
                                have hv147_1 := hcc147 1 _ rfl
                                rw [add_field _ _ 1 (by omega)] at hv147_1
                                replace hv147_1 := Option.some.inj (hv147_1.symm.trans hx147_1)
                                injection hv147_1 with hva_ hvn_ hvc_
                                rw [hva_] at ge147_1
                                rw [hvc_] at ul147_1
                                have HL147_1 := Aside0.mk (show Kd.V k35 35 _ w.heap.size _ _ ((rd_T30 (rd_L8 t133 x5_1) 0).f1) from Kd.V_mk ul147_1 ge147_1)
                                clear hva_ hvn_ hvc_ ge147_1 ul147_1
                                have hv147_2 := hcc147 2 _ rfl
                                rw [add_field _ _ 2 (by omega)] at hv147_2
                                replace hv147_2 := Option.some.inj (hv147_2.symm.trans hx147_2)
                                injection hv147_2 with hva_ hvn_ hvc_
                                rw [hva_] at ge147_2
                                rw [hvc_] at ul147_2
                                have HL147_2 := Aside0.mk (show Kd.V (Kd.int .i64) 3 _ w.heap.size _ _ ((rd_T30 (rd_L8 t133 x5_1) 0).f2) from Kd.V_mk ul147_2 ge147_2)
                                clear hva_ hvn_ hvc_ ge147_2 ul147_2
                                clear hcc147 hce147
                                have qi147 : (0 < (rd_L8 t133 x5_1).length) = True := eq_true (by omega)
                                (try rw [show ((0 : Int)).toNat = 0 from rfl] at hx147_0)
                                (try rw [show 0 * 3 = 0 from rfl] at hx147_0)
                                (try rw [Addr.add_zero'] at hx147_0)
                                (try rw [show ((0 : Int)).toNat = 0 from rfl] at hx147_1)
                                (try rw [show 0 * 3 = 0 from rfl] at hx147_1)
                                (try rw [Addr.add_zero'] at hx147_1)
                                (try rw [show ((0 : Int)).toNat = 0 from rfl] at hx147_2)
                                (try rw [show 0 * 3 = 0 from rfl] at hx147_2)
                                (try rw [Addr.add_zero'] at hx147_2)
                                have HR147_1 := Aside0.mk hi147_1
                                have HC147_1 := Aside0.mk hl147_1
                                clear hi147_1 hl147_1
                                have HR147_2 := Aside0.mk hi147_2
                                have HC147_2 := Aside0.mk hl147_2
                                clear hi147_2 hl147_2
                                replace p147 := eq_true p147
                                replace q147 := eq_true q147
                                go_wp2
                                repeat (go_quiet (fail); try go_wp2)
                                go_roundg k3
                                case measure => have := HK1.out; have := HJ8.out; have := HK3.out; omega
                                case rel => exact ⟨(wrap64 (x6_3 + 1)), (by first | rfl | (simp; done) | (simp [*]; done)), H', ⟨by have := HK1.out; have := HJ8.out; have := HK3.out; omega⟩, ⟨by (with_reducible repeat (first | apply Kd.N_alloc | apply Kd.N_drewN | apply Kd.N_drew)); exact HO_3.out⟩, ⟨by (with_reducible repeat (first | apply Kd.N_alloc | apply Kd.N_drewN | apply Kd.N_drew)); exact HO_4.out⟩, ⟨by repeat (first | (with_reducible first | exact HB.out | apply below_alloc | apply pw_below_drewN | apply below_drew1) | exact HB.out)⟩⟩
                              · rw [if_neg c25] at H
                                have c25b0 : (((rd_T30 (rd_L8 t133 x5_1) x6_3).f0).toList == ((rd_T30 (rd_L8 t133 x5_1) 0).f0).toList) = false := beq_eq_false_iff_ne.mpr c25
                                have c25b1 : (((rd_T30 (rd_L8 t133 x5_1) x6_3).f0).toList != ((rd_T30 (rd_L8 t133 x5_1) 0).f0).toList) = true := bne_iff_ne.mpr c25
                                obtain rfl := Option.some.inj H
                                have p143 : 0 ≤ (x5_1 : Int) := of_decide_eq_true (by first | (with_reducible assumption) | assumption)
                                have q143 : x5_1 < (t133.length : Int) := of_decide_eq_true (by first | (with_reducible assumption) | assumption)
                                obtain ⟨ad143, A143_0, c143_0, e143, hx143_0, hl143_0, hi143_0⟩ := at_L8 (Kd.N_reads' HO_3.out).2.2 x5_1 p143 q143
                                cases e143
                                obtain ⟨ce143, hce143, hMe143, hcc143⟩ := Kd.N_get HO_3.out [] x5_1 p143 (by first | exact q143 | exact of_decide_eq_true (by first | (with_reducible assumption) | assumption) | (have e_ := (Kd.N_reads' HO_3.out).1; omega))
                                obtain ⟨ua143_0, uc143_0, rfl, ul143_0, ge143_0⟩ := Kd.FK_slice_open hMe143
                                have hv143_0 := hcc143 0 _ rfl
                                rw [Nat.add_zero, show ((Kd.slice 30 k30)).sz = 1 from rfl, Nat.mul_one] at hv143_0
                                replace hv143_0 := Option.some.inj (hv143_0.symm.trans hx143_0)
                                injection hv143_0 with hva_ hvn_ hvc_
                                rw [hva_] at ge143_0
                                rw [hvc_] at ul143_0
                                have HL143_0 := Aside0.mk (show Kd.V k30 30 _ w.heap.size _ _ (rd_L8 t133 x5_1) from Kd.V_mk ul143_0 ge143_0)
                                clear hva_ hvn_ hvc_ ge143_0 ul143_0
                                clear hcc143 hce143
                                have HR143_0 := Aside0.mk hi143_0
                                have HC143_0 := Aside0.mk hl143_0
                                clear hi143_0 hl143_0
                                replace p143 := eq_true p143
                                replace q143 := eq_true q143
                                have p144 : 0 ≤ (x5_1 : Int) := of_decide_eq_true (by first | (with_reducible assumption) | assumption)
                                have q144 : x5_1 < (t133.length : Int) := of_decide_eq_true (by first | (with_reducible assumption) | assumption)
                                obtain ⟨ad144, A144_0, c144_0, e144, hx144_0, hl144_0, hi144_0⟩ := at_L8 (Kd.N_reads' HO_3.out).2.2 x5_1 p144 q144
                                obtain rfl : ad143 = ad144 := (by injection e144)
                                obtain ⟨ce144, hce144, hMe144, hcc144⟩ := Kd.N_get HO_3.out [] x5_1 p144 (by first | exact q144 | exact of_decide_eq_true (by first | (with_reducible assumption) | assumption) | (have e_ := (Kd.N_reads' HO_3.out).1; omega))
                                obtain ⟨ua144_0, uc144_0, rfl, ul144_0, ge144_0⟩ := Kd.FK_slice_open hMe144
                                have hv144_0 := hcc144 0 _ rfl
                                rw [Nat.add_zero, show ((Kd.slice 30 k30)).sz = 1 from rfl, Nat.mul_one] at hv144_0
                                replace hv144_0 := Option.some.inj (hv144_0.symm.trans hx144_0)
                                injection hv144_0 with hva_ hvn_ hvc_
                                rw [hva_] at ge144_0
                                rw [hvc_] at ul144_0
                                have HL144_0 := Aside0.mk (show Kd.V k30 30 _ w.heap.size _ _ (rd_L8 t133 x5_1) from Kd.V_mk ul144_0 ge144_0)
                                clear hva_ hvn_ hvc_ ge144_0 ul144_0
                                clear hcc144 hce144
                                have HR144_0 := Aside0.mk hi144_0
                                have HC144_0 := Aside0.mk hl144_0
                                clear hi144_0 hl144_0
                                replace p144 := eq_true p144
                                replace q144 := eq_true q144
                                have ea_ := Option.some.inj (hx143_0.symm.trans hx144_0)
                                injection ea_ with ea_ en_ ec_
                                subst ea_
                                subst ec_
                                clear en_
                                have p145 : 0 ≤ (x6_3 : Int) := of_decide_eq_true (by first | (with_reducible assumption) | assumption)
                                have q145 : x6_3 < ((rd_L8 t133 x5_1).length : Int) := of_decide_eq_true (by first | (with_reducible assumption) | assumption)
                                obtain ⟨ad145, A145_1, c145_1, A145_2, c145_2, e145, hx145_0, hx145_1, hx145_2, hl145_1, hi145_1, hl145_2, hi145_2⟩ := at_T30 (by repeat (first | (with_reducible exact HR144_0.out) | (with_reducible refine Kd.C_alloc ?_ _) | (with_reducible refine Kd.C_drewN ?_ _) | (with_reducible refine Kd.C_drew ?_) | exact HR144_0.out)) x6_3 p145 q145
                                cases e145
                                obtain ⟨ce145, hce145, hMe145, hcc145⟩ := Kd.V_get HL144_0.out z30 x6_3 p145 (by first | exact q145 | exact of_decide_eq_true (by first | (with_reducible assumption) | assumption) | (have e_ := (Kd.V_reads' HL144_0.out).1; omega))
                                obtain ⟨ua145_1, uc145_1, ua145_2, uc145_2, rfl, ul145_1, ge145_1, ul145_2, ge145_2⟩ := k30_openF hMe145
                                have hv145_1 := hcc145 1 _ rfl
                                rw [add_field _ _ 1 (by omega)] at hv145_1
                                replace hv145_1 := Option.some.inj (hv145_1.symm.trans hx145_1)
                                injection hv145_1 with hva_ hvn_ hvc_
                                rw [hva_] at ge145_1
                                rw [hvc_] at ul145_1
                                have HL145_1 := Aside0.mk (show Kd.V k35 35 _ w.heap.size _ _ ((rd_T30 (rd_L8 t133 x5_1) x6_3).f1) from Kd.V_mk ul145_1 ge145_1)
                                clear hva_ hvn_ hvc_ ge145_1 ul145_1
                                have hv145_2 := hcc145 2 _ rfl
                                rw [add_field _ _ 2 (by omega)] at hv145_2
                                replace hv145_2 := Option.some.inj (hv145_2.symm.trans hx145_2)
                                injection hv145_2 with hva_ hvn_ hvc_
                                rw [hva_] at ge145_2
                                rw [hvc_] at ul145_2
                                have HL145_2 := Aside0.mk (show Kd.V (Kd.int .i64) 3 _ w.heap.size _ _ ((rd_T30 (rd_L8 t133 x5_1) x6_3).f2) from Kd.V_mk ul145_2 ge145_2)
                                clear hva_ hvn_ hvc_ ge145_2 ul145_2
                                clear hcc145 hce145
                                have HR145_1 := Aside0.mk hi145_1
                                have HC145_1 := Aside0.mk hl145_1
                                clear hi145_1 hl145_1
                                have HR145_2 := Aside0.mk hi145_2
                                have HC145_2 := Aside0.mk hl145_2
                                clear hi145_2 hl145_2
                                replace p145 := eq_true p145
                                replace q145 := eq_true q145
                                have p146 : 0 ≤ (x5_1 : Int) := of_decide_eq_true (by first | (with_reducible assumption) | assumption)
                                have q146 : x5_1 < (t133.length : Int) := of_decide_eq_true (by first | (with_reducible assumption) | assumption)
                                obtain ⟨ad146, A146_0, c146_0, e146, hx146_0, hl146_0, hi146_0⟩ := at_L8 (Kd.N_reads' HO_3.out).2.2 x5_1 p146 q146
                                obtain rfl : ad143 = ad146 := (by injection e146)
                                obtain ⟨ce146, hce146, hMe146, hcc146⟩ := Kd.N_get HO_3.out [] x5_1 p146 (by first | exact q146 | exact of_decide_eq_true (by first | (with_reducible assumption) | assumption) | (have e_ := (Kd.N_reads' HO_3.out).1; omega))
                                obtain ⟨ua146_0, uc146_0, rfl, ul146_0, ge146_0⟩ := Kd.FK_slice_open hMe146
                                have hv146_0 := hcc146 0 _ rfl
                                rw [Nat.add_zero, show ((Kd.slice 30 k30)).sz = 1 from rfl, Nat.mul_one] at hv146_0
                                replace hv146_0 := Option.some.inj (hv146_0.symm.trans hx146_0)
                                injection hv146_0 with hva_ hvn_ hvc_
                                rw [hva_] at ge146_0
                                rw [hvc_] at ul146_0
                                have HL146_0 := Aside0.mk (show Kd.V k30 30 _ w.heap.size _ _ (rd_L8 t133 x5_1) from Kd.V_mk ul146_0 ge146_0)
                                clear hva_ hvn_ hvc_ ge146_0 ul146_0
                                clear hcc146 hce146
                                have HR146_0 := Aside0.mk hi146_0
                                have HC146_0 := Aside0.mk hl146_0
                                clear hi146_0 hl146_0
                                replace p146 := eq_true p146
                                replace q146 := eq_true q146
                                have ea_ := Option.some.inj (hx143_0.symm.trans hx146_0)
                                injection ea_ with ea_ en_ ec_
                                subst ea_
                                subst ec_
                                clear en_
                                have p147 : 0 ≤ (0 : Int) := (by omega)
                                have q147 : 0 < ((rd_L8 t133 x5_1).length : Int) := of_decide_eq_true (by first | (with_reducible assumption) | assumption)
                                obtain ⟨ad147, A147_1, c147_1, A147_2, c147_2, e147, hx147_0, hx147_1, hx147_2, hl147_1, hi147_1, hl147_2, hi147_2⟩ := at_T30 (by repeat (first | (with_reducible exact HR146_0.out) | (with_reducible refine Kd.C_alloc ?_ _) | (with_reducible refine Kd.C_drewN ?_ _) | (with_reducible refine Kd.C_drew ?_) | exact HR146_0.out)) 0 p147 q147
                                cases e147
                                obtain ⟨ce147, hce147, hMe147, hcc147⟩ := Kd.V_get HL146_0.out z30 0 p147 (by first | exact q147 | exact of_decide_eq_true (by first | (with_reducible assumption) | assumption) | (have e_ := (Kd.V_reads' HL146_0.out).1; omega))
                                obtain ⟨ua147_1, uc147_1, ua147_2, uc147_2, rfl, ul147_1, ge147_1, ul147_2, ge147_2⟩ := k30_openF hMe147
                                have hv147_1 := hcc147 1 _ rfl
                                rw [add_field _ _ 1 (by omega)] at hv147_1
                                replace hv147_1 := Option.some.inj (hv147_1.symm.trans hx147_1)
                                injection hv147_1 with hva_ hvn_ hvc_
                                rw [hva_] at ge147_1
                                rw [hvc_] at ul147_1
                                have HL147_1 := Aside0.mk (show Kd.V k35 35 _ w.heap.size _ _ ((rd_T30 (rd_L8 t133 x5_1) 0).f1) from Kd.V_mk ul147_1 ge147_1)
                                clear hva_ hvn_ hvc_ ge147_1 ul147_1
                                have hv147_2 := hcc147 2 _ rfl
                                rw [add_field _ _ 2 (by omega)] at hv147_2
                                replace hv147_2 := Option.some.inj (hv147_2.symm.trans hx147_2)
                                injection hv147_2 with hva_ hvn_ hvc_
                                rw [hva_] at ge147_2
                                rw [hvc_] at ul147_2
                                have HL147_2 := Aside0.mk (show Kd.V (Kd.int .i64) 3 _ w.heap.size _ _ ((rd_T30 (rd_L8 t133 x5_1) 0).f2) from Kd.V_mk ul147_2 ge147_2)
                                clear hva_ hvn_ hvc_ ge147_2 ul147_2
                                clear hcc147 hce147
                                have qi147 : (0 < (rd_L8 t133 x5_1).length) = True := eq_true (by omega)
                                (try rw [show ((0 : Int)).toNat = 0 from rfl] at hx147_0)
                                (try rw [show 0 * 3 = 0 from rfl] at hx147_0)
                                (try rw [Addr.add_zero'] at hx147_0)
                                (try rw [show ((0 : Int)).toNat = 0 from rfl] at hx147_1)
                                (try rw [show 0 * 3 = 0 from rfl] at hx147_1)
                                (try rw [Addr.add_zero'] at hx147_1)
                                (try rw [show ((0 : Int)).toNat = 0 from rfl] at hx147_2)
                                (try rw [show 0 * 3 = 0 from rfl] at hx147_2)
                                (try rw [Addr.add_zero'] at hx147_2)
                                have HR147_1 := Aside0.mk hi147_1
                                have HC147_1 := Aside0.mk hl147_1
                                clear hi147_1 hl147_1
                                have HR147_2 := Aside0.mk hi147_2
                                have HC147_2 := Aside0.mk hl147_2
                                clear hi147_2 hl147_2
                                replace p147 := eq_true p147
                                replace q147 := eq_true q147
                                go_wp2
                                repeat (go_quiet (fail); try go_wp2)
                                go_ret
                                exact ⟨by first | rfl | (simp [errW_none, errW_some] <;> rfl) | (simp [*, errW_none, errW_some] <;> rfl), by repeat (first | (with_reducible first | exact HB.out | apply below_alloc | apply pw_below_drewN | apply below_drew1) | exact HB.out)⟩
                            · rw [if_neg c24] at H
                              exact absurd H (by simp)
                          · rw [if_neg c23] at H
                            exact absurd H (by simp)
                        · rw [if_neg c22] at H
                          have c22b0 : decide (x6_3 < ((rd_L8 t133 x5_1).length : Int)) = false := decide_eq_false c22
                          clear c22
                          by_cases c26 : x4_1.length + (rd_L8 t133 x5_1).length < 2199023255552
                          · rw [if_pos c26] at H
                            have LMc26 := Aside0.mk c26
                            clear c26
                            obtain ⟨y149, hy149⟩ : ∃ y_ : List (S30), y_ = (x4_1 ++ (rd_L8 t133 x5_1)) := ⟨_, rfl⟩
                            replace H : (gristmilllaw24_MergeGroups.l0 k3 l0 t133 y149 (wrap64 (x5_1 + 1))) = some r := by first | (rw [hy149]; with_reducible exact H) | (have H2_ := (Option.bind_some _ _).symm.trans H; rw [hy149]; with_reducible exact H2_) | (have H2_ := (Option.bind_some _ _).symm.trans H; with_reducible exact H2_) | with_reducible exact H | (rw [hy149]; exact H) | exact H
                            have Ny149 := Aside0.mk hy149
                            clear hy149
                            have H' := Aside0.mk H
                            clear H
                            have p143 : 0 ≤ (x5_1 : Int) := of_decide_eq_true (by first | (with_reducible assumption) | assumption)
                            have q143 : x5_1 < (t133.length : Int) := of_decide_eq_true (by first | (with_reducible assumption) | assumption)
                            obtain ⟨ad143, A143_0, c143_0, e143, hx143_0, hl143_0, hi143_0⟩ := at_L8 (Kd.N_reads' HO_3.out).2.2 x5_1 p143 q143
                            cases e143
                            obtain ⟨ce143, hce143, hMe143, hcc143⟩ := Kd.N_get HO_3.out [] x5_1 p143 (by first | exact q143 | exact of_decide_eq_true (by first | (with_reducible assumption) | assumption) | (have e_ := (Kd.N_reads' HO_3.out).1; omega))
                            obtain ⟨ua143_0, uc143_0, rfl, ul143_0, ge143_0⟩ := Kd.FK_slice_open hMe143
                            have hv143_0 := hcc143 0 _ rfl
                            rw [Nat.add_zero, show ((Kd.slice 30 k30)).sz = 1 from rfl, Nat.mul_one] at hv143_0
                            replace hv143_0 := Option.some.inj (hv143_0.symm.trans hx143_0)
                            injection hv143_0 with hva_ hvn_ hvc_
                            rw [hva_] at ge143_0
                            rw [hvc_] at ul143_0
                            have HL143_0 := Aside0.mk (show Kd.V k30 30 _ w.heap.size _ _ (rd_L8 t133 x5_1) from Kd.V_mk ul143_0 ge143_0)
                            clear hva_ hvn_ hvc_ ge143_0 ul143_0
                            clear hcc143 hce143
                            have HR143_0 := Aside0.mk hi143_0
                            have HC143_0 := Aside0.mk hl143_0
                            clear hi143_0 hl143_0
                            replace p143 := eq_true p143
                            replace q143 := eq_true q143
                            have p148 : 0 ≤ (x5_1 : Int) := of_decide_eq_true (by first | (with_reducible assumption) | assumption)
                            have q148 : x5_1 < (t133.length : Int) := of_decide_eq_true (by first | (with_reducible assumption) | assumption)
                            obtain ⟨ad148, A148_0, c148_0, e148, hx148_0, hl148_0, hi148_0⟩ := at_L8 (Kd.N_reads' HO_3.out).2.2 x5_1 p148 q148
                            obtain rfl : ad143 = ad148 := (by injection e148)
                            obtain ⟨ce148, hce148, hMe148, hcc148⟩ := Kd.N_get HO_3.out [] x5_1 p148 (by first | exact q148 | exact of_decide_eq_true (by first | (with_reducible assumption) | assumption) | (have e_ := (Kd.N_reads' HO_3.out).1; omega))
                            obtain ⟨ua148_0, uc148_0, rfl, ul148_0, ge148_0⟩ := Kd.FK_slice_open hMe148
                            have hv148_0 := hcc148 0 _ rfl
                            rw [Nat.add_zero, show ((Kd.slice 30 k30)).sz = 1 from rfl, Nat.mul_one] at hv148_0
                            replace hv148_0 := Option.some.inj (hv148_0.symm.trans hx148_0)
                            injection hv148_0 with hva_ hvn_ hvc_
                            rw [hva_] at ge148_0
                            rw [hvc_] at ul148_0
                            have HL148_0 := Aside0.mk (show Kd.V k30 30 _ w.heap.size _ _ (rd_L8 t133 x5_1) from Kd.V_mk ul148_0 ge148_0)
                            clear hva_ hvn_ hvc_ ge148_0 ul148_0
                            clear hcc148 hce148
                            have HR148_0 := Aside0.mk hi148_0
                            have HC148_0 := Aside0.mk hl148_0
                            clear hi148_0 hl148_0
                            replace p148 := eq_true p148
                            replace q148 := eq_true q148
                            have ea_ := Option.some.inj (hx143_0.symm.trans hx148_0)
                            injection ea_ with ea_ en_ ec_
                            subst ea_
                            subst ec_
                            clear en_
                            go_wp2_with (first | ((with_reducible refine gate_builtin (b := .append) (xs := #[.tmp 71, .tmp 75]) rfl ?_); at_builtin; refine Kd.N_append_rows k30 (w0 := w) w.heap.size rfl (.tmp 71) (.tmp 75) 22 30 (.agg #[(.string ⟨#[]⟩), (.slice none 0 0), (.slice none 0 0)]) 64 rfl Try.underlying22 info30 rfl (by decide) (by omega) u4 x4_1 (rd_L8 t133 x5_1) _ _ _ (fun k_ => some k_ ≠ (.slice (some ad143) t133.length co10 : Value).ownBlock) (fun k_ => ((fun k_ => some k_ ≠ (.slice (some ad143) t133.length co10 : Value).ownBlock)) k_ ∧ some k_ ≠ (u4 : Value).ownBlock) rfl rfl ?aO ?aR (fun _ hk => hk) ?aF ?aB ?aS ?aL ?_; (case aR => exact (by skip; exact Kd.V_F (Kd.V_mono (ok' := (fun k_ => ((fun k_ => some k_ ≠ (.slice (some ad143) t133.length co10 : Value).ownBlock)) k_ ∧ some k_ ≠ (u4 : Value).ownBlock)) (HL148_0.out) (fun k_ hk => ⟨hk.2, hk.1⟩)))); (case aB => exact (by repeat (first | (with_reducible first | exact HB.out | apply below_alloc | apply pw_below_drewN | apply below_drew1) | exact HB.out))); (case aF => exact (fun k_ hk => Kd.fresh' (Kd.N_lt (by (with_reducible repeat (first | apply Kd.N_alloc | apply Kd.N_drewN | apply Kd.N_drew)); exact HO_3.out)) k_ hk)); (case aO => exact (by (with_reducible repeat (first | apply Kd.N_alloc | apply Kd.N_drewN | apply Kd.N_drew)); exact HO_4.out)); (case aS => exact (below_size (by repeat (first | (with_reducible first | exact HB.out | apply below_alloc | apply pw_below_drewN | apply below_drew1) | exact HB.out)))); (case aL => have := LMc26.out; omega); intro v150 w27 ho hb hg hat; rw [← Ny149.out] at ho; have n0_ := Aside0.mk (Kd.N_afterv (ok := (fun _ => True)) (by (with_reducible repeat (first | apply Kd.N_alloc | apply Kd.N_drewN | apply Kd.N_drew)); exact Kd.N_mono HO_3.out (fun _ hk => ⟨trivial, hk⟩)) hg hat); have n1_ := Aside0.mk (Kd.V_afterv (ok := (fun k_ => some k_ ≠ (.slice (some ad143) t133.length co10 : Value).ownBlock)) (by (with_reducible repeat (first | apply Kd.V_alloc | apply Kd.V_drewN | apply Kd.V_drew)); exact Kd.V_mono HL143_0.out (fun _ hk => ⟨hk.2, hk.1⟩)) hg hat); have n2_ := Aside0.mk (Kd.V_afterv (ok := (fun k_ => some k_ ≠ (.slice (some ad143) t133.length co10 : Value).ownBlock)) (by (with_reducible repeat (first | apply Kd.V_alloc | apply Kd.V_drewN | apply Kd.V_drew)); exact Kd.V_mono HL148_0.out (fun _ hk => ⟨hk.2, hk.1⟩)) hg hat); have n3_ := Aside0.mk (hb); have n4_ := Aside0.mk (ho); clear HO_3; clear HL143_0; clear HL148_0; clear HB; clear HO_4; have HO_3 := n0_; have HL143_0 := n1_; have HL148_0 := n2_; have HB := n3_; have HO151 := n4_; clear n0_ n1_ n2_ n3_ n4_; clear ho hb hg hat))
                            repeat (go_quiet (first | ((with_reducible refine gate_builtin (b := .append) (xs := #[.tmp 71, .tmp 75]) rfl ?_); at_builtin; refine Kd.N_append_rows k30 (w0 := w) w.heap.size rfl (.tmp 71) (.tmp 75) 22 30 (.agg #[(.string ⟨#[]⟩), (.slice none 0 0), (.slice none 0 0)]) 64 rfl Try.underlying22 info30 rfl (by decide) (by omega) u4 x4_1 (rd_L8 t133 x5_1) _ _ _ (fun k_ => some k_ ≠ (.slice (some ad143) t133.length co10 : Value).ownBlock) (fun k_ => ((fun k_ => some k_ ≠ (.slice (some ad143) t133.length co10 : Value).ownBlock)) k_ ∧ some k_ ≠ (u4 : Value).ownBlock) rfl rfl ?aO ?aR (fun _ hk => hk) ?aF ?aB ?aS ?aL ?_; (case aR => exact (by skip; exact Kd.V_F (Kd.V_mono (ok' := (fun k_ => ((fun k_ => some k_ ≠ (.slice (some ad143) t133.length co10 : Value).ownBlock)) k_ ∧ some k_ ≠ (u4 : Value).ownBlock)) (HL148_0.out) (fun k_ hk => ⟨hk.2, hk.1⟩)))); (case aB => exact (by repeat (first | (with_reducible first | exact HB.out | apply below_alloc | apply pw_below_drewN | apply below_drew1) | exact HB.out))); (case aF => exact (fun k_ hk => Kd.fresh' (Kd.N_lt (by (with_reducible repeat (first | apply Kd.N_alloc | apply Kd.N_drewN | apply Kd.N_drew)); exact HO_3.out)) k_ hk)); (case aO => exact (by (with_reducible repeat (first | apply Kd.N_alloc | apply Kd.N_drewN | apply Kd.N_drew)); exact HO_4.out)); (case aS => exact (below_size (by repeat (first | (with_reducible first | exact HB.out | apply below_alloc | apply pw_below_drewN | apply below_drew1) | exact HB.out)))); (case aL => have := LMc26.out; omega); intro v150 w27 ho hb hg hat; rw [← Ny149.out] at ho; have n0_ := Aside0.mk (Kd.N_afterv (ok := (fun _ => True)) (by (with_reducible repeat (first | apply Kd.N_alloc | apply Kd.N_drewN | apply Kd.N_drew)); exact Kd.N_mono HO_3.out (fun _ hk => ⟨trivial, hk⟩)) hg hat); have n1_ := Aside0.mk (Kd.V_afterv (ok := (fun k_ => some k_ ≠ (.slice (some ad143) t133.length co10 : Value).ownBlock)) (by (with_reducible repeat (first | apply Kd.V_alloc | apply Kd.V_drewN | apply Kd.V_drew)); exact Kd.V_mono HL143_0.out (fun _ hk => ⟨hk.2, hk.1⟩)) hg hat); have n2_ := Aside0.mk (Kd.V_afterv (ok := (fun k_ => some k_ ≠ (.slice (some ad143) t133.length co10 : Value).ownBlock)) (by (with_reducible repeat (first | apply Kd.V_alloc | apply Kd.V_drewN | apply Kd.V_drew)); exact Kd.V_mono HL148_0.out (fun _ hk => ⟨hk.2, hk.1⟩)) hg hat); have n3_ := Aside0.mk (hb); have n4_ := Aside0.mk (ho); clear HO_3; clear HL143_0; clear HL148_0; clear HB; clear HO_4; have HO_3 := n0_; have HL143_0 := n1_; have HL148_0 := n2_; have HB := n3_; have HO151 := n4_; clear n0_ n1_ n2_ n3_ n4_; clear ho hb hg hat)); try go_wp2_with (first | ((with_reducible refine gate_builtin (b := .append) (xs := #[.tmp 71, .tmp 75]) rfl ?_); at_builtin; refine Kd.N_append_rows k30 (w0 := w) w.heap.size rfl (.tmp 71) (.tmp 75) 22 30 (.agg #[(.string ⟨#[]⟩), (.slice none 0 0), (.slice none 0 0)]) 64 rfl Try.underlying22 info30 rfl (by decide) (by omega) u4 x4_1 (rd_L8 t133 x5_1) _ _ _ (fun k_ => some k_ ≠ (.slice (some ad143) t133.length co10 : Value).ownBlock) (fun k_ => ((fun k_ => some k_ ≠ (.slice (some ad143) t133.length co10 : Value).ownBlock)) k_ ∧ some k_ ≠ (u4 : Value).ownBlock) rfl rfl ?aO ?aR (fun _ hk => hk) ?aF ?aB ?aS ?aL ?_; (case aR => exact (by skip; exact Kd.V_F (Kd.V_mono (ok' := (fun k_ => ((fun k_ => some k_ ≠ (.slice (some ad143) t133.length co10 : Value).ownBlock)) k_ ∧ some k_ ≠ (u4 : Value).ownBlock)) (HL148_0.out) (fun k_ hk => ⟨hk.2, hk.1⟩)))); (case aB => exact (by repeat (first | (with_reducible first | exact HB.out | apply below_alloc | apply pw_below_drewN | apply below_drew1) | exact HB.out))); (case aF => exact (fun k_ hk => Kd.fresh' (Kd.N_lt (by (with_reducible repeat (first | apply Kd.N_alloc | apply Kd.N_drewN | apply Kd.N_drew)); exact HO_3.out)) k_ hk)); (case aO => exact (by (with_reducible repeat (first | apply Kd.N_alloc | apply Kd.N_drewN | apply Kd.N_drew)); exact HO_4.out)); (case aS => exact (below_size (by repeat (first | (with_reducible first | exact HB.out | apply below_alloc | apply pw_below_drewN | apply below_drew1) | exact HB.out)))); (case aL => have := LMc26.out; omega); intro v150 w27 ho hb hg hat; rw [← Ny149.out] at ho; have n0_ := Aside0.mk (Kd.N_afterv (ok := (fun _ => True)) (by (with_reducible repeat (first | apply Kd.N_alloc | apply Kd.N_drewN | apply Kd.N_drew)); exact Kd.N_mono HO_3.out (fun _ hk => ⟨trivial, hk⟩)) hg hat); have n1_ := Aside0.mk (Kd.V_afterv (ok := (fun k_ => some k_ ≠ (.slice (some ad143) t133.length co10 : Value).ownBlock)) (by (with_reducible repeat (first | apply Kd.V_alloc | apply Kd.V_drewN | apply Kd.V_drew)); exact Kd.V_mono HL143_0.out (fun _ hk => ⟨hk.2, hk.1⟩)) hg hat); have n2_ := Aside0.mk (Kd.V_afterv (ok := (fun k_ => some k_ ≠ (.slice (some ad143) t133.length co10 : Value).ownBlock)) (by (with_reducible repeat (first | apply Kd.V_alloc | apply Kd.V_drewN | apply Kd.V_drew)); exact Kd.V_mono HL148_0.out (fun _ hk => ⟨hk.2, hk.1⟩)) hg hat); have n3_ := Aside0.mk (hb); have n4_ := Aside0.mk (ho); clear HO_3; clear HL143_0; clear HL148_0; clear HB; clear HO_4; have HO_3 := n0_; have HL143_0 := n1_; have HL148_0 := n2_; have HB := n3_; have HO151 := n4_; clear n0_ n1_ n2_ n3_ n4_; clear ho hb hg hat)))
                            go_roundg k3
                            case measure => have := HK1.out; have := HJ8.out; have := HK3.out; omega
                            case rel => exact ⟨(y149), (wrap64 (x5_1 + 1)), (by first | rfl | (simp; done) | (simp [*]; done)), H', ⟨by have := HK1.out; have := HJ8.out; have := HK3.out; omega⟩, ⟨by (with_reducible repeat (first | apply Kd.N_alloc | apply Kd.N_drewN | apply Kd.N_drew)); exact Kd.N_mono HO_3.out (fun _ hk => hk.2)⟩, ⟨by (with_reducible repeat (first | apply Kd.N_alloc | apply Kd.N_drewN | apply Kd.N_drew)); exact HO151.out⟩, ⟨by repeat (first | (with_reducible first | exact HB.out | apply below_alloc | apply pw_below_drewN | apply below_drew1) | exact HB.out)⟩⟩
                          · rw [if_neg c26] at H
                            exact absurd H (by simp)
                      · rw [if_neg c21] at H
                        exact absurd H (by simp)
                    · rw [if_neg c20] at H
                      exact absurd H (by simp)
        · rw [if_neg c8] at H
          have c8b0 : decide (x5_1 < (t133.length : Int)) = false := decide_eq_false c8
          clear c8
          replace H := Option.bind_eq_some_iff.mp H
          obtain ⟨t136, A280, H⟩ := H
          replace H : (if t136 = true then ((gristmilllaw24_live.f).bind fun t137 => (some t137)) else (some false)) = some r := H
          have A28 := Aside0.mk A280
          clear A280
          by_cases c29 : t136 = true
          · subst c29
            have H1 : ((gristmilllaw24_live.f).bind fun t137 => (some t137)) = some r := by rw [if_pos rfl] at H; exact H
            clear H
            have H := H1
            clear H1
            replace H := Option.bind_eq_some_iff.mp H
            obtain ⟨t137, A300, H⟩ := H
            replace H : (some t137) = some r := H
            have A30 := Aside0.mk A300
            clear A300
            obtain rfl := Option.some.inj H
            obtain ⟨Ao31, co31, eo31⟩ := Kd.N_slice HO_3.out
            subst eo31
            obtain ⟨Ao32, co32, eo32⟩ := Kd.N_slice HO_4.out
            subst eo32
            go_wp2_with (first | (go_at_call 7; (with_reducible refine (gristmillref22_Same.calls k1 _ _ x4_1 _ _ l0 true _ ?side1 ?side2 ?side3 ?side4 A28.out).mono ?_); (case side1 => repeat (first | exact (Kd.N_reads' HO_4.out).2.2 | (with_reducible refine Kd.C_alloc ?_ _) | (with_reducible refine Kd.C_drewN ?_ _) | (with_reducible refine Kd.C_drew ?_))); (case side2 => exact (Kd.N_reads' HO_4.out).2.1); (case side3 => repeat (first | exact (Kd.C_below HR0.out HB.out) | (with_reducible refine Kd.C_alloc ?_ _) | (with_reducible refine Kd.C_drewN ?_ _) | (with_reducible refine Kd.C_drew ?_))); (case side4 => exact HC0.out); rintro e w33 ⟨rfl, hb⟩; have n0_ := Aside0.mk (Kd.N_below (by (with_reducible repeat (first | apply Kd.N_alloc | apply Kd.N_drewN | apply Kd.N_drew)); exact HO_3.out) hb); have n1_ := Aside0.mk (Kd.N_below (by (with_reducible repeat (first | apply Kd.N_alloc | apply Kd.N_drewN | apply Kd.N_drew)); exact HO_4.out) hb); have n2_ := Aside0.mk (below_step (by repeat (first | (with_reducible first | exact HB.out | apply below_alloc | apply pw_below_drewN | apply below_drew1) | exact HB.out)) hb); clear HO_3; clear HO_4; clear HB; have HO_3 := n0_; have HO_4 := n1_; have HB := n2_; clear n0_ n1_ n2_; (try clear hb); (try clear hb2); (try clear hk); (try clear hi)) | (go_at_call 5; (with_reducible refine (gristmilllaw24_live.calls  t137 _ A30.out).mono ?_); rintro e w34 ⟨rfl, hb⟩; have n0_ := Aside0.mk (Kd.N_below (by (with_reducible repeat (first | apply Kd.N_alloc | apply Kd.N_drewN | apply Kd.N_drew)); exact HO_3.out) hb); have n1_ := Aside0.mk (Kd.N_below (by (with_reducible repeat (first | apply Kd.N_alloc | apply Kd.N_drewN | apply Kd.N_drew)); exact HO_4.out) hb); have n2_ := Aside0.mk (below_step (by repeat (first | (with_reducible first | exact HB.out | apply below_alloc | apply pw_below_drewN | apply below_drew1) | exact HB.out)) hb); clear HO_3; clear HO_4; clear HB; have HO_3 := n0_; have HO_4 := n1_; have HB := n2_; clear n0_ n1_ n2_; (try clear hb); (try clear hb2); (try clear hk); (try clear hi)))
            repeat (go_quiet (first | (go_at_call 7; (with_reducible refine (gristmillref22_Same.calls k1 _ _ x4_1 _ _ l0 true _ ?side1 ?side2 ?side3 ?side4 A28.out).mono ?_); (case side1 => repeat (first | exact (Kd.N_reads' HO_4.out).2.2 | (with_reducible refine Kd.C_alloc ?_ _) | (with_reducible refine Kd.C_drewN ?_ _) | (with_reducible refine Kd.C_drew ?_))); (case side2 => exact (Kd.N_reads' HO_4.out).2.1); (case side3 => repeat (first | exact (Kd.C_below HR0.out HB.out) | (with_reducible refine Kd.C_alloc ?_ _) | (with_reducible refine Kd.C_drewN ?_ _) | (with_reducible refine Kd.C_drew ?_))); (case side4 => exact HC0.out); rintro e w33 ⟨rfl, hb⟩; have n0_ := Aside0.mk (Kd.N_below (by (with_reducible repeat (first | apply Kd.N_alloc | apply Kd.N_drewN | apply Kd.N_drew)); exact HO_3.out) hb); have n1_ := Aside0.mk (Kd.N_below (by (with_reducible repeat (first | apply Kd.N_alloc | apply Kd.N_drewN | apply Kd.N_drew)); exact HO_4.out) hb); have n2_ := Aside0.mk (below_step (by repeat (first | (with_reducible first | exact HB.out | apply below_alloc | apply pw_below_drewN | apply below_drew1) | exact HB.out)) hb); clear HO_3; clear HO_4; clear HB; have HO_3 := n0_; have HO_4 := n1_; have HB := n2_; clear n0_ n1_ n2_; (try clear hb); (try clear hb2); (try clear hk); (try clear hi)) | (go_at_call 5; (with_reducible refine (gristmilllaw24_live.calls  t137 _ A30.out).mono ?_); rintro e w34 ⟨rfl, hb⟩; have n0_ := Aside0.mk (Kd.N_below (by (with_reducible repeat (first | apply Kd.N_alloc | apply Kd.N_drewN | apply Kd.N_drew)); exact HO_3.out) hb); have n1_ := Aside0.mk (Kd.N_below (by (with_reducible repeat (first | apply Kd.N_alloc | apply Kd.N_drewN | apply Kd.N_drew)); exact HO_4.out) hb); have n2_ := Aside0.mk (below_step (by repeat (first | (with_reducible first | exact HB.out | apply below_alloc | apply pw_below_drewN | apply below_drew1) | exact HB.out)) hb); clear HO_3; clear HO_4; clear HB; have HO_3 := n0_; have HO_4 := n1_; have HB := n2_; clear n0_ n1_ n2_; (try clear hb); (try clear hb2); (try clear hk); (try clear hi))); try go_wp2_with (first | (go_at_call 7; (with_reducible refine (gristmillref22_Same.calls k1 _ _ x4_1 _ _ l0 true _ ?side1 ?side2 ?side3 ?side4 A28.out).mono ?_); (case side1 => repeat (first | exact (Kd.N_reads' HO_4.out).2.2 | (with_reducible refine Kd.C_alloc ?_ _) | (with_reducible refine Kd.C_drewN ?_ _) | (with_reducible refine Kd.C_drew ?_))); (case side2 => exact (Kd.N_reads' HO_4.out).2.1); (case side3 => repeat (first | exact (Kd.C_below HR0.out HB.out) | (with_reducible refine Kd.C_alloc ?_ _) | (with_reducible refine Kd.C_drewN ?_ _) | (with_reducible refine Kd.C_drew ?_))); (case side4 => exact HC0.out); rintro e w33 ⟨rfl, hb⟩; have n0_ := Aside0.mk (Kd.N_below (by (with_reducible repeat (first | apply Kd.N_alloc | apply Kd.N_drewN | apply Kd.N_drew)); exact HO_3.out) hb); have n1_ := Aside0.mk (Kd.N_below (by (with_reducible repeat (first | apply Kd.N_alloc | apply Kd.N_drewN | apply Kd.N_drew)); exact HO_4.out) hb); have n2_ := Aside0.mk (below_step (by repeat (first | (with_reducible first | exact HB.out | apply below_alloc | apply pw_below_drewN | apply below_drew1) | exact HB.out)) hb); clear HO_3; clear HO_4; clear HB; have HO_3 := n0_; have HO_4 := n1_; have HB := n2_; clear n0_ n1_ n2_; (try clear hb); (try clear hb2); (try clear hk); (try clear hi)) | (go_at_call 5; (with_reducible refine (gristmilllaw24_live.calls  t137 _ A30.out).mono ?_); rintro e w34 ⟨rfl, hb⟩; have n0_ := Aside0.mk (Kd.N_below (by (with_reducible repeat (first | apply Kd.N_alloc | apply Kd.N_drewN | apply Kd.N_drew)); exact HO_3.out) hb); have n1_ := Aside0.mk (Kd.N_below (by (with_reducible repeat (first | apply Kd.N_alloc | apply Kd.N_drewN | apply Kd.N_drew)); exact HO_4.out) hb); have n2_ := Aside0.mk (below_step (by repeat (first | (with_reducible first | exact HB.out | apply below_alloc | apply pw_below_drewN | apply below_drew1) | exact HB.out)) hb); clear HO_3; clear HO_4; clear HB; have HO_3 := n0_; have HO_4 := n1_; have HB := n2_; clear n0_ n1_ n2_; (try clear hb); (try clear hb2); (try clear hk); (try clear hi))))
            go_ret
            exact ⟨by first | rfl | (simp [errW_none, errW_some] <;> rfl) | (simp [*, errW_none, errW_some] <;> rfl), by repeat (first | (with_reducible first | exact HB.out | apply below_alloc | apply pw_below_drewN | apply below_drew1) | exact HB.out)⟩
          · replace c29 := Bool.eq_false_iff.mpr c29
            subst c29
            have H1 : (some false) = some r := by rw [if_neg (show ¬ (false = true) by decide)] at H; exact H
            clear H
            have H := H1
            clear H1
            obtain rfl := Option.some.inj H
            obtain ⟨Ao35, co35, eo35⟩ := Kd.N_slice HO_3.out
            subst eo35
            obtain ⟨Ao36, co36, eo36⟩ := Kd.N_slice HO_4.out
            subst eo36
            go_wp2_with (first | (go_at_call 7; (with_reducible refine (gristmillref22_Same.calls k1 _ _ x4_1 _ _ l0 false _ ?side1 ?side2 ?side3 ?side4 A28.out).mono ?_); (case side1 => repeat (first | exact (Kd.N_reads' HO_4.out).2.2 | (with_reducible refine Kd.C_alloc ?_ _) | (with_reducible refine Kd.C_drewN ?_ _) | (with_reducible refine Kd.C_drew ?_))); (case side2 => exact (Kd.N_reads' HO_4.out).2.1); (case side3 => repeat (first | exact (Kd.C_below HR0.out HB.out) | (with_reducible refine Kd.C_alloc ?_ _) | (with_reducible refine Kd.C_drewN ?_ _) | (with_reducible refine Kd.C_drew ?_))); (case side4 => exact HC0.out); rintro e w37 ⟨rfl, hb⟩; have n0_ := Aside0.mk (Kd.N_below (by (with_reducible repeat (first | apply Kd.N_alloc | apply Kd.N_drewN | apply Kd.N_drew)); exact HO_3.out) hb); have n1_ := Aside0.mk (Kd.N_below (by (with_reducible repeat (first | apply Kd.N_alloc | apply Kd.N_drewN | apply Kd.N_drew)); exact HO_4.out) hb); have n2_ := Aside0.mk (below_step (by repeat (first | (with_reducible first | exact HB.out | apply below_alloc | apply pw_below_drewN | apply below_drew1) | exact HB.out)) hb); clear HO_3; clear HO_4; clear HB; have HO_3 := n0_; have HO_4 := n1_; have HB := n2_; clear n0_ n1_ n2_; (try clear hb); (try clear hb2); (try clear hk); (try clear hi)))
            repeat (go_quiet (first | (go_at_call 7; (with_reducible refine (gristmillref22_Same.calls k1 _ _ x4_1 _ _ l0 false _ ?side1 ?side2 ?side3 ?side4 A28.out).mono ?_); (case side1 => repeat (first | exact (Kd.N_reads' HO_4.out).2.2 | (with_reducible refine Kd.C_alloc ?_ _) | (with_reducible refine Kd.C_drewN ?_ _) | (with_reducible refine Kd.C_drew ?_))); (case side2 => exact (Kd.N_reads' HO_4.out).2.1); (case side3 => repeat (first | exact (Kd.C_below HR0.out HB.out) | (with_reducible refine Kd.C_alloc ?_ _) | (with_reducible refine Kd.C_drewN ?_ _) | (with_reducible refine Kd.C_drew ?_))); (case side4 => exact HC0.out); rintro e w37 ⟨rfl, hb⟩; have n0_ := Aside0.mk (Kd.N_below (by (with_reducible repeat (first | apply Kd.N_alloc | apply Kd.N_drewN | apply Kd.N_drew)); exact HO_3.out) hb); have n1_ := Aside0.mk (Kd.N_below (by (with_reducible repeat (first | apply Kd.N_alloc | apply Kd.N_drewN | apply Kd.N_drew)); exact HO_4.out) hb); have n2_ := Aside0.mk (below_step (by repeat (first | (with_reducible first | exact HB.out | apply below_alloc | apply pw_below_drewN | apply below_drew1) | exact HB.out)) hb); clear HO_3; clear HO_4; clear HB; have HO_3 := n0_; have HO_4 := n1_; have HB := n2_; clear n0_ n1_ n2_; (try clear hb); (try clear hb2); (try clear hk); (try clear hi))); try go_wp2_with (first | (go_at_call 7; (with_reducible refine (gristmillref22_Same.calls k1 _ _ x4_1 _ _ l0 false _ ?side1 ?side2 ?side3 ?side4 A28.out).mono ?_); (case side1 => repeat (first | exact (Kd.N_reads' HO_4.out).2.2 | (with_reducible refine Kd.C_alloc ?_ _) | (with_reducible refine Kd.C_drewN ?_ _) | (with_reducible refine Kd.C_drew ?_))); (case side2 => exact (Kd.N_reads' HO_4.out).2.1); (case side3 => repeat (first | exact (Kd.C_below HR0.out HB.out) | (with_reducible refine Kd.C_alloc ?_ _) | (with_reducible refine Kd.C_drewN ?_ _) | (with_reducible refine Kd.C_drew ?_))); (case side4 => exact HC0.out); rintro e w37 ⟨rfl, hb⟩; have n0_ := Aside0.mk (Kd.N_below (by (with_reducible repeat (first | apply Kd.N_alloc | apply Kd.N_drewN | apply Kd.N_drew)); exact HO_3.out) hb); have n1_ := Aside0.mk (Kd.N_below (by (with_reducible repeat (first | apply Kd.N_alloc | apply Kd.N_drewN | apply Kd.N_drew)); exact HO_4.out) hb); have n2_ := Aside0.mk (below_step (by repeat (first | (with_reducible first | exact HB.out | apply below_alloc | apply pw_below_drewN | apply below_drew1) | exact HB.out)) hb); clear HO_3; clear HO_4; clear HB; have HO_3 := n0_; have HO_4 := n1_; have HB := n2_; clear n0_ n1_ n2_; (try clear hb); (try clear hb2); (try clear hk); (try clear hi))))
            go_ret
            exact ⟨by first | rfl | (simp [errW_none, errW_some] <;> rfl) | (simp [*, errW_none, errW_some] <;> rfl), by repeat (first | (with_reducible first | exact HB.out | apply below_alloc | apply pw_below_drewN | apply below_drew1) | exact HB.out)⟩

end Go.Proofs.Yteaipankdlmeoaa.G
