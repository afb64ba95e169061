-- PRINTED by the session's mp.py (the kit's print.py with contracts of the session's own); not trusted: Lean checks it.
import Derived.Test.YtgcjjapcniocaaaGreatDoorGx0
namespace Go.Proofs.YtgcjjapcniocaaaGreatDoor.G
open Go.RowKit Go.Proofs.YtgcjjapcniocaaaGreatDoorW.PrintWords Go.Proofs.YtgcjjapcniocaaaGreatDoorW.PrintLast Go.Proofs.YtgcjjapcniocaaaGreatDoorW.PrintMore
attribute [local go_sem] max2_int min2_int max_two min_two max_three min_three max_four min_four   -- for this text's walks alone
set_option linter.unusedVariables false
set_option linter.unusedSimpArgs false

/-! ### gristmillref16_even: function 89 -/
def gristmillref16_even.l0 : Nat → List Int → Int → Int → Option (Int)
  | 0, _, _, _ => none
  | k + 1, x0, x1, x5 => if (wrap64 (x1 + x5)) < (x0.length : Int) then (if 0 ≤ (wrap64 (x1 + x5)) then (if 0 ≤ (wrap64 ((wrap64 (x1 + x5)) - 1)) then (if (wrap64 ((wrap64 (x1 + x5)) - 1)) < (x0.length : Int) then (if 0 ≤ (wrap64 (x1 + 1)) then (if (wrap64 (x1 + 1)) < (x0.length : Int) then (if 0 ≤ x1 then (if x1 < (x0.length : Int) then (if (wrap64 ((rd x0 (wrap64 (x1 + x5))) - (rd x0 (wrap64 ((wrap64 (x1 + x5)) - 1))))) = (wrap64 ((rd x0 (wrap64 (x1 + 1))) - (rd x0 x1))) then (gristmillref16_even.l0 k x0 x1 (wrap64 (x5 + 1))) else (if x5 < 3 then (some 0) else (if (wrap64 (x1 + 2)) ≥ (x0.length : Int) then (some 0) else (some x5)))) else (none)) else (none)) else (none)) else (none)) else (none)) else (none)) else (none)) else (if x5 < 3 then (some 0) else (if (wrap64 (x1 + 2)) ≥ (x0.length : Int) then (some 0) else (some x5)))
def gristmillref16_even.f (k : Nat) (l0 : List Int) (a1 : Int) : Option (Int) := gristmillref16_even.l0 k l0 a1 2
theorem gristmillref16_even.mono_l : ∀ k, (∀ y0 y1 y2, LeO (gristmillref16_even.l0 k y0 y1 y2) (gristmillref16_even.l0 (k + 1) y0 y1 y2))
  | 0 => fun _ _ _ r h => by simp [gristmillref16_even.l0] at h
  | k + 1 => by
    have ih0 := gristmillref16_even.mono_l k
    · intro y0 y1 y2
      unfold gristmillref16_even.l0
      repeat' first
      | (with_reducible exact ih0 _ _ _)
      | (with_reducible exact LeO.refl _)
      | (with_reducible exact LeO.none _)
      | (with_reducible refine LeO.ite ?_ ?_)
      | (with_reducible refine LeO.bind ?_ (fun _ => ?_))
      | exact ih0 _ _ _
      | exact LeO.none _
      | refine LeO.ite ?_ ?_
      | refine LeO.bind ?_ (fun _ => ?_)
theorem gristmillref16_even.mono : ∀ a0 a1 k, LeO (gristmillref16_even.f k a0 a1) (gristmillref16_even.f (k + 1) a0 a1) := by
  intro a0 a1 k
  have ih0 := gristmillref16_even.mono_l k
  unfold gristmillref16_even.f
  repeat' first
      | (with_reducible exact ih0 _ _ _)
      | (with_reducible exact LeO.refl _)
      | (with_reducible exact LeO.none _)
      | (with_reducible refine LeO.ite ?_ ?_)
      | (with_reducible refine LeO.bind ?_ (fun _ => ?_))
      | exact ih0 _ _ _
      | exact LeO.none _
      | refine LeO.ite ?_ ?_
      | refine LeO.bind ?_ (fun _ => ?_)
set_option maxHeartbeats 8000000 in
set_option maxRecDepth 100000 in
theorem gristmillref16_even.calls (k : Nat) (A0 : Option Addr) (c0 : Nat) (l0 : List Int) (a1 : Int) (r : Int) (w : World) (hr0 : Kd.C (Kd.int .i64) w A0 l0.length l0) (hc0 : l0.length ≤ c0) (h : gristmillref16_even.f k l0 a1 = some r) :
    Calls Tryz.prog 89 #[.slice A0 l0.length c0, .int .i64 a1] w fun e w' => e = .returned (.int .i64 r) ∧ Drawn0 w w' := by
  have HR0 := Aside0.mk hr0
  have HC0 := Aside0.mk hc0
  clear hr0 hc0
  have H : (gristmillref16_even.l0 k l0 a1 2) = some r := h
  clear h
  have H' := Aside0.mk H
  clear H
  go_enter Tryz.func89, Tryz.ntmps89
  go_wp2
  repeat (go_quiet (fail); try go_wp2)
  go_loopg [5] k (fun kq v5 w' => ∃ (x5_1 : Int), v5 = .int .i64 x5_1 ∧ Aside0 (gristmillref16_even.l0 kq l0 a1 x5_1 = some r) ∧ Aside0 (kq ≤ k) ∧ Drawn0 w w')
  case atStart => exact ⟨(2), (by first | rfl | (simp; done) | (simp [*]; done)), H', ⟨Nat.le_refl _⟩, by repeat (first | exact Drawn0.refl _ | apply Drawn0.step)⟩
  case round =>
    clear H'
    try clear p2
    obtain ⟨x5_1, rfl, HA, HK1, ⟨m1, rfl⟩⟩ := hrel
    cases gk with
    | zero => exact absurd HA.out (by simp [gristmillref16_even.l0])
    | succ k1 =>
      have H := HA.out
      clear HA
      simp only [gristmillref16_even.l0] at H
      by_cases c3 : (wrap64 (a1 + x5_1)) < (l0.length : Int)
      · rw [if_pos c3] at H
        have c3b0 : decide ((wrap64 (a1 + x5_1)) < (l0.length : Int)) = true := decide_eq_true c3
        clear c3
        obtain ⟨ji4, hji4⟩ : ∃ j_ : Int, (wrap64 (a1 + x5_1)) = j_ := ⟨_, rfl⟩
        replace H : (if 0 ≤ (ji4) then (if 0 ≤ (wrap64 ((ji4) - 1)) then (if (wrap64 ((ji4) - 1)) < (l0.length : Int) then (if 0 ≤ (wrap64 (a1 + 1)) then (if (wrap64 (a1 + 1)) < (l0.length : Int) then (if 0 ≤ a1 then (if a1 < (l0.length : Int) then (if (wrap64 ((rd l0 (ji4)) - (rd l0 (wrap64 ((ji4) - 1))))) = (wrap64 ((rd l0 (wrap64 (a1 + 1))) - (rd l0 a1))) then (gristmillref16_even.l0 k1 l0 a1 (wrap64 (x5_1 + 1))) else (if x5_1 < 3 then (some 0) else (if (wrap64 (a1 + 2)) ≥ (l0.length : Int) then (some 0) else (some x5_1)))) else (none)) else (none)) else (none)) else (none)) else (none)) else (none)) else (none)) = some r := by first | (rw [hji4] at H; exact H) | (simp only [hji4] at H ⊢; exact H)
        (try rw [hji4] at c3b0)
        have hji4w : (IntKind.i64.wrap (a1 + x5_1)) = ji4 := (i64_w _).trans hji4
        by_cases c5 : 0 ≤ (ji4)
        · rw [if_pos c5] at H
          have c5b0 : decide (0 ≤ (ji4)) = true := decide_eq_true c5
          clear c5
          obtain ⟨ji6, hji6⟩ : ∃ j_ : Int, (wrap64 ((ji4) - 1)) = j_ := ⟨_, rfl⟩
          replace H : (if 0 ≤ (ji6) then (if (ji6) < (l0.length : Int) then (if 0 ≤ (wrap64 (a1 + 1)) then (if (wrap64 (a1 + 1)) < (l0.length : Int) then (if 0 ≤ a1 then (if a1 < (l0.length : Int) then (if (wrap64 ((rd l0 (ji4)) - (rd l0 (ji6)))) = (wrap64 ((rd l0 (wrap64 (a1 + 1))) - (rd l0 a1))) then (gristmillref16_even.l0 k1 l0 a1 (wrap64 (x5_1 + 1))) else (if x5_1 < 3 then (some 0) else (if (wrap64 (a1 + 2)) ≥ (l0.length : Int) then (some 0) else (some x5_1)))) else (none)) else (none)) else (none)) else (none)) else (none)) else (none)) = some r := by first | (rw [hji6] at H; exact H) | (simp only [hji6] at H ⊢; exact H)
          have hji6w : (IntKind.i64.wrap ((ji4) - 1)) = ji6 := (i64_w _).trans hji6
          by_cases c7 : 0 ≤ (ji6)
          · rw [if_pos c7] at H
            have c7b0 : decide (0 ≤ (ji6)) = true := decide_eq_true c7
            clear c7
            by_cases c8 : (ji6) < (l0.length : Int)
            · rw [if_pos c8] at H
              have c8b0 : decide ((ji6) < (l0.length : Int)) = true := decide_eq_true c8
              clear c8
              obtain ⟨ji9, hji9⟩ : ∃ j_ : Int, (wrap64 (a1 + 1)) = j_ := ⟨_, rfl⟩
              replace H : (if 0 ≤ (ji9) then (if (ji9) < (l0.length : Int) then (if 0 ≤ a1 then (if a1 < (l0.length : Int) then (if (wrap64 ((rd l0 (ji4)) - (rd l0 (ji6)))) = (wrap64 ((rd l0 (ji9)) - (rd l0 a1))) then (gristmillref16_even.l0 k1 l0 a1 (wrap64 (x5_1 + 1))) else (if x5_1 < 3 then (some 0) else (if (wrap64 (a1 + 2)) ≥ (l0.length : Int) then (some 0) else (some x5_1)))) else (none)) else (none)) else (none)) else (none)) = some r := by first | (rw [hji9] at H; exact H) | (simp only [hji9] at H ⊢; exact H)
              have hji9w : (IntKind.i64.wrap (a1 + 1)) = ji9 := (i64_w _).trans hji9
              by_cases c10 : 0 ≤ (ji9)
              · rw [if_pos c10] at H
                have c10b0 : decide (0 ≤ (ji9)) = true := decide_eq_true c10
                clear c10
                by_cases c11 : (ji9) < (l0.length : Int)
                · rw [if_pos c11] at H
                  have c11b0 : decide ((ji9) < (l0.length : Int)) = true := decide_eq_true c11
                  clear c11
                  by_cases c12 : 0 ≤ a1
                  · rw [if_pos c12] at H
                    have c12b0 : decide (0 ≤ a1) = true := decide_eq_true c12
                    clear c12
                    by_cases c13 : a1 < (l0.length : Int)
                    · rw [if_pos c13] at H
                      have c13b0 : decide (a1 < (l0.length : Int)) = true := decide_eq_true c13
                      clear c13
                      by_cases c14 : (wrap64 ((rd l0 (ji4)) - (rd l0 (ji6)))) = (wrap64 ((rd l0 (ji9)) - (rd l0 a1)))
                      · rw [if_pos c14] at H
                        have c14b0 : ((wrap64 ((rd l0 (ji4)) - (rd l0 (ji6)))) == (wrap64 ((rd l0 (ji9)) - (rd l0 a1)))) = true := beq_iff_eq.mpr c14
                        have c14b1 : ((wrap64 ((rd l0 (ji4)) - (rd l0 (ji6)))) != (wrap64 ((rd l0 (ji9)) - (rd l0 a1)))) = false := bne_eq_false_iff_eq.mpr c14
                        clear c14
                        have H' := Aside0.mk H
                        clear H
                        have p328 : 0 ≤ ((ji4) : Int) := of_decide_eq_true (by first | (with_reducible assumption) | assumption)
                        have q328 : (ji4) < (l0.length : Int) := of_decide_eq_true (by first | (with_reducible assumption) | assumption)
                        obtain ⟨ad328, e328, hx328_0⟩ := Kd.at_int HR0.out (ji4) p328 q328
                        cases e328
                        replace p328 := eq_true p328
                        replace q328 := eq_true q328
                        have p329 : 0 ≤ ((ji6) : Int) := of_decide_eq_true (by first | (with_reducible assumption) | assumption)
                        have q329 : (ji6) < (l0.length : Int) := of_decide_eq_true (by first | (with_reducible assumption) | assumption)
                        obtain ⟨ad329, e329, hx329_0⟩ := Kd.at_int HR0.out (ji6) p329 q329
                        obtain rfl : ad328 = ad329 := (by injection e329)
                        replace p329 := eq_true p329
                        replace q329 := eq_true q329
                        have p330 : 0 ≤ ((ji9) : Int) := of_decide_eq_true (by first | (with_reducible assumption) | assumption)
                        have q330 : (ji9) < (l0.length : Int) := of_decide_eq_true (by first | (with_reducible assumption) | assumption)
                        obtain ⟨ad330, e330, hx330_0⟩ := Kd.at_int HR0.out (ji9) p330 q330
                        obtain rfl : ad328 = ad330 := (by injection e330)
                        replace p330 := eq_true p330
                        replace q330 := eq_true q330
                        have p331 : 0 ≤ (a1 : Int) := of_decide_eq_true (by first | (with_reducible assumption) | assumption)
                        have q331 : a1 < (l0.length : Int) := of_decide_eq_true (by first | (with_reducible assumption) | assumption)
                        obtain ⟨ad331, e331, hx331_0⟩ := Kd.at_int HR0.out a1 p331 q331
                        obtain rfl : ad328 = ad331 := (by injection e331)
                        replace p331 := eq_true p331
                        replace q331 := eq_true q331
                        go_wp2
                        repeat (go_quiet (fail); try go_wp2)
                        go_roundg k1
                        case measure => have := HK1.out; omega
                        case rel => exact ⟨(wrap64 (x5_1 + 1)), (by first | rfl | (simp; done) | (simp [*]; done)), H', ⟨by have := HK1.out; omega⟩, by repeat (first | exact Drawn0.refl _ | apply Drawn0.step)⟩
                      · rw [if_neg c14] at H
                        have c14b0 : ((wrap64 ((rd l0 (ji4)) - (rd l0 (ji6)))) == (wrap64 ((rd l0 (ji9)) - (rd l0 a1)))) = false := beq_eq_false_iff_ne.mpr c14
                        have c14b1 : ((wrap64 ((rd l0 (ji4)) - (rd l0 (ji6)))) != (wrap64 ((rd l0 (ji9)) - (rd l0 a1)))) = true := bne_iff_ne.mpr c14
                        by_cases c15 : x5_1 < 3
                        · rw [if_pos c15] at H
                          have c15b0 : decide (x5_1 < 3) = true := decide_eq_true c15
                          clear c15
                          obtain rfl := Option.some.inj H
                          have p328 : 0 ≤ ((ji4) : Int) := of_decide_eq_true (by first | (with_reducible assumption) | assumption)
                          have q328 : (ji4) < (l0.length : Int) := of_decide_eq_true (by first | (with_reducible assumption) | assumption)
                          obtain ⟨ad328, e328, hx328_0⟩ := Kd.at_int HR0.out (ji4) p328 q328
                          cases e328
                          replace p328 := eq_true p328
                          replace q328 := eq_true q328
                          have p329 : 0 ≤ ((ji6) : Int) := of_decide_eq_true (by first | (with_reducible assumption) | assumption)
                          have q329 : (ji6) < (l0.length : Int) := of_decide_eq_true (by first | (with_reducible assumption) | assumption)
                          obtain ⟨ad329, e329, hx329_0⟩ := Kd.at_int HR0.out (ji6) p329 q329
                          obtain rfl : ad328 = ad329 := (by injection e329)
                          replace p329 := eq_true p329
                          replace q329 := eq_true q329
                          have p330 : 0 ≤ ((ji9) : Int) := of_decide_eq_true (by first | (with_reducible assumption) | assumption)
                          have q330 : (ji9) < (l0.length : Int) := of_decide_eq_true (by first | (with_reducible assumption) | assumption)
                          obtain ⟨ad330, e330, hx330_0⟩ := Kd.at_int HR0.out (ji9) p330 q330
                          obtain rfl : ad328 = ad330 := (by injection e330)
                          replace p330 := eq_true p330
                          replace q330 := eq_true q330
                          have p331 : 0 ≤ (a1 : Int) := of_decide_eq_true (by first | (with_reducible assumption) | assumption)
                          have q331 : a1 < (l0.length : Int) := of_decide_eq_true (by first | (with_reducible assumption) | assumption)
                          obtain ⟨ad331, e331, hx331_0⟩ := Kd.at_int HR0.out a1 p331 q331
                          obtain rfl : ad328 = ad331 := (by injection e331)
                          replace p331 := eq_true p331
                          replace q331 := eq_true q331
                          go_wp2
                          repeat (go_quiet (fail); try go_wp2)
                          go_ret
                          exact ⟨by first | rfl | (simp; done) | (simp only [← hji4, ← hji6, ← hji9] <;> (first | rfl | simp)) | (simp [*]; done), by repeat (first | exact Drawn0.refl _ | apply Drawn0.step)⟩
                        · rw [if_neg c15] at H
                          have c15b0 : decide (x5_1 < 3) = false := decide_eq_false c15
                          clear c15
                          by_cases c16 : (wrap64 (a1 + 2)) ≥ (l0.length : Int)
                          · rw [if_pos c16] at H
                            have c16b0 : decide ((l0.length : Int) ≤ (wrap64 (a1 + 2))) = true := decide_eq_true c16
                            clear c16
                            obtain rfl := Option.some.inj H
                            have p328 : 0 ≤ ((ji4) : Int) := of_decide_eq_true (by first | (with_reducible assumption) | assumption)
                            have q328 : (ji4) < (l0.length : Int) := of_decide_eq_true (by first | (with_reducible assumption) | assumption)
                            obtain ⟨ad328, e328, hx328_0⟩ := Kd.at_int HR0.out (ji4) p328 q328
                            cases e328
                            replace p328 := eq_true p328
                            replace q328 := eq_true q328
                            have p329 : 0 ≤ ((ji6) : Int) := of_decide_eq_true (by first | (with_reducible assumption) | assumption)
                            have q329 : (ji6) < (l0.length : Int) := of_decide_eq_true (by first | (with_reducible assumption) | assumption)
                            obtain ⟨ad329, e329, hx329_0⟩ := Kd.at_int HR0.out (ji6) p329 q329
                            obtain rfl : ad328 = ad329 := (by injection e329)
                            replace p329 := eq_true p329
                            replace q329 := eq_true q329
                            have p330 : 0 ≤ ((ji9) : Int) := of_decide_eq_true (by first | (with_reducible assumption) | assumption)
                            have q330 : (ji9) < (l0.length : Int) := of_decide_eq_true (by first | (with_reducible assumption) | assumption)
                            obtain ⟨ad330, e330, hx330_0⟩ := Kd.at_int HR0.out (ji9) p330 q330
                            obtain rfl : ad328 = ad330 := (by injection e330)
                            replace p330 := eq_true p330
                            replace q330 := eq_true q330
                            have p331 : 0 ≤ (a1 : Int) := of_decide_eq_true (by first | (with_reducible assumption) | assumption)
                            have q331 : a1 < (l0.length : Int) := of_decide_eq_true (by first | (with_reducible assumption) | assumption)
                            obtain ⟨ad331, e331, hx331_0⟩ := Kd.at_int HR0.out a1 p331 q331
                            obtain rfl : ad328 = ad331 := (by injection e331)
                            replace p331 := eq_true p331
                            replace q331 := eq_true q331
                            go_wp2
                            repeat (go_quiet (fail); try go_wp2)
                            go_ret
                            exact ⟨by first | rfl | (simp; done) | (simp only [← hji4, ← hji6, ← hji9] <;> (first | rfl | simp)) | (simp [*]; done), by repeat (first | exact Drawn0.refl _ | apply Drawn0.step)⟩
                          · rw [if_neg c16] at H
                            have c16b0 : decide ((l0.length : Int) ≤ (wrap64 (a1 + 2))) = false := decide_eq_false c16
                            clear c16
                            obtain rfl := Option.some.inj H
                            have p328 : 0 ≤ ((ji4) : Int) := of_decide_eq_true (by first | (with_reducible assumption) | assumption)
                            have q328 : (ji4) < (l0.length : Int) := of_decide_eq_true (by first | (with_reducible assumption) | assumption)
                            obtain ⟨ad328, e328, hx328_0⟩ := Kd.at_int HR0.out (ji4) p328 q328
                            cases e328
                            replace p328 := eq_true p328
                            replace q328 := eq_true q328
                            have p329 : 0 ≤ ((ji6) : Int) := of_decide_eq_true (by first | (with_reducible assumption) | assumption)
                            have q329 : (ji6) < (l0.length : Int) := of_decide_eq_true (by first | (with_reducible assumption) | assumption)
                            obtain ⟨ad329, e329, hx329_0⟩ := Kd.at_int HR0.out (ji6) p329 q329
                            obtain rfl : ad328 = ad329 := (by injection e329)
                            replace p329 := eq_true p329
                            replace q329 := eq_true q329
                            have p330 : 0 ≤ ((ji9) : Int) := of_decide_eq_true (by first | (with_reducible assumption) | assumption)
                            have q330 : (ji9) < (l0.length : Int) := of_decide_eq_true (by first | (with_reducible assumption) | assumption)
                            obtain ⟨ad330, e330, hx330_0⟩ := Kd.at_int HR0.out (ji9) p330 q330
                            obtain rfl : ad328 = ad330 := (by injection e330)
                            replace p330 := eq_true p330
                            replace q330 := eq_true q330
                            have p331 : 0 ≤ (a1 : Int) := of_decide_eq_true (by first | (with_reducible assumption) | assumption)
                            have q331 : a1 < (l0.length : Int) := of_decide_eq_true (by first | (with_reducible assumption) | assumption)
                            obtain ⟨ad331, e331, hx331_0⟩ := Kd.at_int HR0.out a1 p331 q331
                            obtain rfl : ad328 = ad331 := (by injection e331)
                            replace p331 := eq_true p331
                            replace q331 := eq_true q331
                            go_wp2
                            repeat (go_quiet (fail); try go_wp2)
                            go_ret
                            exact ⟨by first | rfl | (simp; done) | (simp only [← hji4, ← hji6, ← hji9] <;> (first | rfl | simp)) | (simp [*]; done), by repeat (first | exact Drawn0.refl _ | apply Drawn0.step)⟩
                    · rw [if_neg c13] at H
                      exact absurd H (by simp)
                  · rw [if_neg c12] at H
                    exact absurd H (by simp)
                · rw [if_neg c11] at H
                  exact absurd H (by simp)
              · rw [if_neg c10] at H
                exact absurd H (by simp)
            · rw [if_neg c8] at H
              exact absurd H (by simp)
          · rw [if_neg c7] at H
            exact absurd H (by simp)
        · rw [if_neg c5] at H
          exact absurd H (by simp)
      · rw [if_neg c3] at H
        have c3b0 : decide ((wrap64 (a1 + x5_1)) < (l0.length : Int)) = false := decide_eq_false c3
        clear c3
        by_cases c17 : x5_1 < 3
        · rw [if_pos c17] at H
          have c17b0 : decide (x5_1 < 3) = true := decide_eq_true c17
          clear c17
          obtain rfl := Option.some.inj H
          go_wp2
          repeat (go_quiet (fail); try go_wp2)
          go_ret
          exact ⟨by first | rfl | (simp; done) | (simp [*]; done), by repeat (first | exact Drawn0.refl _ | apply Drawn0.step)⟩
        · rw [if_neg c17] at H
          have c17b0 : decide (x5_1 < 3) = false := decide_eq_false c17
          clear c17
          by_cases c18 : (wrap64 (a1 + 2)) ≥ (l0.length : Int)
          · rw [if_pos c18] at H
            have c18b0 : decide ((l0.length : Int) ≤ (wrap64 (a1 + 2))) = true := decide_eq_true c18
            clear c18
            obtain rfl := Option.some.inj H
            go_wp2
            repeat (go_quiet (fail); try go_wp2)
            go_ret
            exact ⟨by first | rfl | (simp; done) | (simp [*]; done), by repeat (first | exact Drawn0.refl _ | apply Drawn0.step)⟩
          · rw [if_neg c18] at H
            have c18b0 : decide ((l0.length : Int) ≤ (wrap64 (a1 + 2))) = false := decide_eq_false c18
            clear c18
            obtain rfl := Option.some.inj H
            go_wp2
            repeat (go_quiet (fail); try go_wp2)
            go_ret
            exact ⟨by first | rfl | (simp; done) | (simp [*]; done), by repeat (first | exact Drawn0.refl _ | apply Drawn0.step)⟩

end Go.Proofs.YtgcjjapcniocaaaGreatDoor.G
