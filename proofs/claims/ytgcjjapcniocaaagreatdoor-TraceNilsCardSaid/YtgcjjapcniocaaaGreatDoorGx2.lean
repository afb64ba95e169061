-- PRINTED by the session's mp.py (the kit's print.py with contracts of the session's own); not trusted: Lean checks it.
import Derived.Test.YtgcjjapcniocaaaGreatDoorGx0
import Derived.Test.YtgcjjapcniocaaaGreatDoorGx1
namespace Go.Proofs.YtgcjjapcniocaaaGreatDoor.G
open Go.RowKit Go.Proofs.YtgcjjapcniocaaaGreatDoorW.PrintWords Go.Proofs.YtgcjjapcniocaaaGreatDoorW.PrintLast Go.Proofs.YtgcjjapcniocaaaGreatDoorW.PrintMore
attribute [local go_sem] max2_int min2_int max_two min_two max_three min_three max_four min_four   -- for this text's walks alone
set_option linter.unusedVariables false
set_option linter.unusedSimpArgs false

/-! ### vint_Get: function 122 -/
def vint_res (t : Int) (q : Nat) (n : Int) (i : Nat) : Value := if t = (q : Int) then .tuple #[.int .u64 n, .int .i64 (wrap64 ((i : Int) + (q : Int))), .int .i64 0] else .tuple #[.int .u64 0, .int .i64 0, .int .i64 3]
theorem wrap64_in (n : Int) (h : -9223372036854775808 ≤ n ∧ n ≤ 9223372036854775807) : wrap64 n = n := by unfold wrap64; omega
def vint_fold : Int → List Int → Int
  | n, [] => n
  | n, c :: l => vint_fold (Go.bits .or .u64 (IntKind.u64.wrap (n * 256)) (IntKind.u64.wrap c)) l
def vint_tail (l0 : List Int) (i z : Nat) : List Int := (l0.take (i + (1 + z))).drop (i + 1)
def vint_num (l0 : List Int) (i z : Nat) : Int := vint_fold (if z < 8 then Go.bits .and .u64 (IntKind.u64.wrap (rd l0 (i : Int))) (shr .u64 255 ((1 + z : Nat) : Int)) else 0) (vint_tail l0 i z)
def vint_at (k : Nat) (l0 : List Int) (i z : Nat) : Option (Int × Int × Int) :=
  if 8 < z then none else if l0.length - i < 1 + z then some (0, 0, 2) else (vint_Len.f k (vint_num l0 i z)).bind fun t => if t = ((1 + z : Nat) : Int) then some (vint_num l0 i z, ((i + (1 + z) : Nat) : Int), 0) else some (0, 0, 3)
def vint_Get.f (k : Nat) (l0 : List Int) (a1 : Int) : Option (Int × Int × Int) :=
  if a1 < 0 then some (0, 0, 8) else if (l0.length : Int) < a1 then some (0, 0, 8) else if a1 = (l0.length : Int) then some (0, 0, 2) else
    (bits_LeadingZeros8.f (Go.bits .xor .u8 IntKind.u8.max (rd l0 a1))).bind fun z => if z < 0 then none else vint_at k l0 a1.toNat z.toNat
theorem vint_Get.mono : ∀ l0 a1 k, LeO (vint_Get.f k l0 a1) (vint_Get.f (k + 1) l0 a1) := by
  intro l0 a1 k
  unfold vint_Get.f
  refine LeO.ite (LeO.refl _) (LeO.ite (LeO.refl _) (LeO.ite (LeO.refl _) (LeO.bind (LeO.refl _) fun z => LeO.ite (LeO.refl _) ?_)))
  unfold vint_at
  exact LeO.ite (LeO.refl _) (LeO.ite (LeO.refl _) (LeO.bind (vint_Len.mono _ _) fun t => LeO.refl _))
theorem vint_drop {l : List Int} {i : Nat} (h : i < l.length) : l.drop i = rd l (i : Int) :: l.drop (i + 1) := by
  rw [List.drop_eq_getElem_cons h]
  simp [rd, h]
theorem vint_tail_len (l0 : List Int) (i q : Nat) (hq : 1 ≤ q) (h : i + q ≤ l0.length) : (vint_tail l0 i (q - 1)).length = q - 1 := by
  unfold vint_tail
  rw [List.length_drop, List.length_take]
  omega
theorem vint_tail_end (l0 : List Int) (i q j : Nat) (hq : 1 ≤ q) (h : i + q ≤ l0.length) (hj : j = q - 1) : (vint_tail l0 i (q - 1)).drop j = [] := by
  apply List.drop_eq_nil_of_le
  rw [vint_tail_len l0 i q hq h]
  omega
theorem vint_tail_at (l0 : List Int) (i q j : Nat) (hj : j < q - 1) (h : i + 1 + j < l0.length) : (vint_tail l0 i (q - 1)).drop j = rd l0 ((i + 1 + j : Nat) : Int) :: (vint_tail l0 i (q - 1)).drop (j + 1) := by
  have hl : j < (vint_tail l0 i (q - 1)).length := by
    unfold vint_tail
    rw [List.length_drop, List.length_take]
    omega
  rw [List.drop_eq_getElem_cons hl]
  congr 1
  have h1 : rd l0 ((i + 1 + j : Nat) : Int) = l0[i + 1 + j] := by simp only [rd, Int.toNat_natCast, List.getD_eq_getElem?_getD, List.getElem?_eq_getElem h, Option.getD_some]
  rw [h1]
  simp [vint_tail]
theorem shr_q (q : Nat) (h : q ≤ 64) : shr .u64 255 (q : Int) = 255 / 2 ^ q := (shr_small (k := .u64) rfl (by show (q : Int) ≤ 64; omega)).symm
set_option maxRecDepth 100000 in
set_option maxHeartbeats 1000000 in
theorem vint_Get_neg (A0 : Option Addr) (c0 n : Nat) (a1 : Int) (w : World) (h : a1 < 0 ∨ (n : Int) < a1) :
    Calls Tryz.prog 122 #[.slice A0 n c0, .int .i64 a1] w fun e w' => e = .returned (.tuple #[.int .u64 0, .int .i64 0, .int .i64 8]) ∧ Drawn0 w w' := by
  by_cases c1 : a1 < 0
  · have c1b : decide (a1 < 0) = true := decide_eq_true c1
    clear c1 h
    go_enter Tryz.func122, Tryz.ntmps122
    go_wp2
    go_ret3
    exact ⟨rfl, 0, rfl⟩
  · have c2 : (n : Int) < a1 := by omega
    have c1b : decide (a1 < 0) = false := decide_eq_false c1
    have c2b : decide ((n : Int) < a1) = true := decide_eq_true c2
    have c2c : decide (a1 > (n : Int)) = true := decide_eq_true c2
    clear c1 c2 h
    go_enter Tryz.func122, Tryz.ntmps122
    go_wp2
    go_ret3
    exact ⟨rfl, 0, rfl⟩
set_option maxRecDepth 100000 in
set_option maxHeartbeats 1000000 in
theorem vint_Get_end (A0 : Option Addr) (c0 n : Nat) (w : World) :
    Calls Tryz.prog 122 #[.slice A0 n c0, .int .i64 (n : Int)] w fun e w' => e = .returned (.tuple #[.int .u64 0, .int .i64 0, .int .i64 2]) ∧ Drawn0 w w' := by
  have c1b : decide ((n : Int) < 0) = false := decide_eq_false (by omega)
  have c2b : decide ((n : Int) < (n : Int)) = false := decide_eq_false (by omega)
  have c2c : decide ((n : Int) > (n : Int)) = false := decide_eq_false (by omega)
  go_enter Tryz.func122, Tryz.ntmps122
  go_wp2
  go_ret3
  exact ⟨rfl, 0, rfl⟩
set_option maxRecDepth 100000 in
set_option maxHeartbeats 1000000 in
theorem vint_Get_in (k : Nat) (ad : Addr) (c0 : Nat) (l0 : List Int) (i q : Nat) (r1 : Int) (r2 : Int) (r3 : Int) (w : World) (hr0 : Kd.C (Kd.int .u8) w (some ad) l0.length l0) (hc0 : l0.length ≤ c0) (hi : i < l0.length) (hq : 1 ≤ q ∧ q ≤ 9)
    (hz : bits_LeadingZeros8.f (Go.bits .xor .u8 IntKind.u8.max (rd l0 (i : Int))) = some ((q - 1 : Nat) : Int)) (h6 : l0.length - i < q) :
    Calls Tryz.prog 122 #[.slice (some ad) l0.length c0, .int .i64 (i : Int)] w fun e w' => e = .returned (.tuple #[.int .u64 0, .int .i64 0, .int .i64 2]) ∧ Drawn0 w w' := by
  have p1 : (0 : Int) ≤ (i : Int) := by omega
  have q1 : (i : Int) < (l0.length : Int) := by omega
  obtain ⟨ad', e1, hx1⟩ := Kd.at_int hr0 (i : Int) p1 q1
  cases e1
  rw [show ((i : Int)).toNat = i from rfl] at hx1
  have hm := hr0.2.1
  have hw1 : wrap64 (1 + ((q - 1 : Nat) : Int)) = (q : Int) := by unfold wrap64; omega
  have hw2 : wrap64 ((l0.length : Int) - (i : Int)) = (l0.length : Int) - (i : Int) := by unfold wrap64; omega
  have c1b : decide ((i : Int) < 0) = false := decide_eq_false (by omega)
  have c2b : decide ((l0.length : Int) < (i : Int)) = false := decide_eq_false (by omega)
  have c2c : decide ((i : Int) > (l0.length : Int)) = false := decide_eq_false (by omega)
  have c2d : decide (l0.length < i) = false := decide_eq_false (by omega)
  have c2e : decide (i > l0.length) = false := decide_eq_false (by omega)
  have c3b : ((i : Int) == (l0.length : Int)) = false := beq_eq_false_iff_ne.2 (by omega)
  have c3c : (i == l0.length) = false := beq_eq_false_iff_ne.2 (by omega)
  have c6b : decide ((l0.length : Int) - (i : Int) < (q : Int)) = true := decide_eq_true (by omega)
  have HZ := Aside0.mk hz
  have HR := Aside0.mk hr0
  have HC := Aside0.mk hc0
  have HQ := Aside0.mk hq
  clear hz hr0 hc0 hq h6
  go_enter Tryz.func122, Tryz.ntmps122
  go_upto_region 6 with (go_at_call 144; refine (bits_LeadingZeros8.calls _ _ _ HZ.out).mono ?_; rintro e w1 ⟨rfl, m1, rfl⟩)
  simp only [hw1]
  clear hw1
  go_wp2
  go_ret3
  exact ⟨rfl, m1, rfl⟩
set_option maxRecDepth 100000 in
set_option maxHeartbeats 1000000 in
theorem vint_Get_on (k : Nat) (ad : Addr) (c0 : Nat) (l0 : List Int) (i q : Nat) (r1 : Int) (r2 : Int) (r3 : Int) (w : World) (hr0 : Kd.C (Kd.int .u8) w (some ad) l0.length l0) (hc0 : l0.length ≤ c0) (hi : i < l0.length) (hq : 1 ≤ q ∧ q ≤ 9)
    (hz : bits_LeadingZeros8.f (Go.bits .xor .u8 IntKind.u8.max (rd l0 (i : Int))) = some ((q - 1 : Nat) : Int)) (h6 : ¬ l0.length - i < q) (t : Int) (ht : vint_Len.f k (vint_num l0 i (q - 1)) = some t) :
    Calls Tryz.prog 122 #[.slice (some ad) l0.length c0, .int .i64 (i : Int)] w fun e w' => e = .returned (vint_res t q (vint_num l0 i (q - 1)) i) ∧ Drawn0 w w' := by
  have p1 : (0 : Int) ≤ (i : Int) := by omega
  have q1 : (i : Int) < (l0.length : Int) := by omega
  obtain ⟨ad', e1, hx1⟩ := Kd.at_int hr0 (i : Int) p1 q1
  cases e1
  rw [show ((i : Int)).toNat = i from rfl] at hx1
  have hm := hr0.2.1
  have hw1 : wrap64 (1 + ((q - 1 : Nat) : Int)) = (q : Int) := by unfold wrap64; omega
  have hw2 : wrap64 ((l0.length : Int) - (i : Int)) = (l0.length : Int) - (i : Int) := by unfold wrap64; omega
  have c1b : decide ((i : Int) < 0) = false := decide_eq_false (by omega)
  have c2b : decide ((l0.length : Int) < (i : Int)) = false := decide_eq_false (by omega)
  have c2c : decide ((i : Int) > (l0.length : Int)) = false := decide_eq_false (by omega)
  have c2d : decide (l0.length < i) = false := decide_eq_false (by omega)
  have c2e : decide (i > l0.length) = false := decide_eq_false (by omega)
  have c3b : ((i : Int) == (l0.length : Int)) = false := beq_eq_false_iff_ne.2 (by omega)
  have c3c : (i == l0.length) = false := beq_eq_false_iff_ne.2 (by omega)
  have c6b : decide ((l0.length : Int) - (i : Int) < (q : Int)) = false := decide_eq_false (by omega)
  have hw3 : wrap64 ((i : Int) + 1) = (i : Int) + 1 := by unfold wrap64; omega
  have hw4 : wrap64 ((i : Int) + (q : Int)) = (i : Int) + (q : Int) := by unfold wrap64; omega
  have hs1 : ((i : Int) + (q : Int) ≤ (c0 : Int)) = True := eq_true (by omega)
  have hs2 : ((0 : Int) ≤ (i : Int) + (q : Int)) = True := eq_true (by omega)
  have hs3 : ((i : Int) + 1 ≤ (i : Int) + (q : Int)) = True := eq_true (by omega)
  have hs4 : ((0 : Int) ≤ (i : Int) + 1) = True := eq_true (by omega)
  have hs5 : ((1 : Int) ≤ (q : Int)) = True := eq_true (by omega)
  have hs6 : (1 ≤ q) = True := eq_true (by omega)
  have HT := Aside0.mk ht
  have H6 := Aside0.mk h6
  clear ht
  have HZ := Aside0.mk hz
  have HR := Aside0.mk hr0
  have HC := Aside0.mk hc0
  have HQ := Aside0.mk hq
  clear hz hr0 hc0 hq h6
  go_enter Tryz.func122, Tryz.ntmps122
  go_upto_region 6 with (go_at_call 144; refine (bits_LeadingZeros8.calls _ _ _ HZ.out).mono ?_; rintro e w1 ⟨rfl, m1, rfl⟩)
  simp only [hw1]
  clear hw1
  have HN0 : ∃ n0, n0 = (if q - 1 < 8 then Go.bits .and .u64 (IntKind.u64.wrap (rd l0 (i : Int))) (shr .u64 255 ((1 + (q - 1) : Nat) : Int)) else 0) := ⟨_, rfl⟩
  obtain ⟨n0, hn0⟩ := HN0
  have HN := Aside0.mk hn0
  clear hn0
  by_cases c9 : q < 9
  · have c9b : decide ((q : Int) < 9) = true := decide_eq_true (by omega)
    have c9c : decide (q < 9) = true := decide_eq_true c9
    go_upto_region 9 with (fail)
    refine start_ (n := 9) (S := fun w' => w'.cell? (ad.add i) = some (.int .u8 (rd l0 (i : Int)))) (ds := []) #[false, false, false, false, false, false, false, false, false] (by kernel_rfl) rfl rfl (hx1) (fun hHeld => ?_)
    refine pure_ (i := 0) (N := some 37) (v := ?_) (a' := ?_) #[true, false, false, false, false, false, false, false, false] rfl rfl (by kernel_rfl) (fun _ _ _ h => h) (Or.inl ⟨by rfl, ?_⟩) ?_ ?_
    rotate_left
    · intro w'
      go_simp
      with_reducible rfl
    rotate_left
    · simp only [Act.put, List.setIfInBounds_toArray, List.set_cons_zero, List.set_cons_succ, i64_w, i32_w]
      rfl
    refine pure_ (i := 1) (N := some 38) (v := ?_) (a' := ?_) #[true, true, false, false, false, false, false, false, false] rfl rfl (by kernel_rfl) (fun _ _ _ h => h) (Or.inl ⟨by rfl, ?_⟩) ?_ ?_
    rotate_left
    · intro w'
      go_simp
      with_reducible rfl
    rotate_left
    · simp only [Act.put, List.setIfInBounds_toArray, List.set_cons_zero, List.set_cons_succ, i64_w, i32_w]
      rfl
    refine pure_ (i := 2) (N := some 39) (v := ?_) (a' := ?_) #[true, true, true, false, false, false, false, false, false] rfl rfl (by kernel_rfl) (fun _ _ _ h => h) (Or.inl ⟨by rfl, ?_⟩) ?_ ?_
    rotate_left
    · intro w'
      go_simp
      with_reducible rfl
    rotate_left
    · simp only [Act.put, List.setIfInBounds_toArray, List.set_cons_zero, List.set_cons_succ, i64_w, i32_w]
      rfl
    refine pure_ (i := 5) (N := some 42) (v := ?_) (a' := ?_) #[true, true, true, false, false, true, false, false, false] rfl rfl (by kernel_rfl) (fun _ _ _ h => h) (Or.inl ⟨by rfl, ?_⟩) ?_ ?_
    rotate_left
    · intro w'
      go_simp
      with_reducible rfl
    rotate_left
    · simp only [Act.put, List.setIfInBounds_toArray, List.set_cons_zero, List.set_cons_succ, i64_w, i32_w]
      rfl
    refine pure_ (i := 6) (N := some 43) (v := ?_) (a' := ?_) #[true, true, true, false, false, true, true, false, false] rfl rfl (by kernel_rfl) (fun _ _ _ h => h) (Or.inl ⟨by rfl, ?_⟩) ?_ ?_
    rotate_left
    · intro w'
      go_simp
      with_reducible rfl
    rotate_left
    · simp only [Act.put, List.setIfInBounds_toArray, List.set_cons_zero, List.set_cons_succ, i64_w, i32_w]
      rfl
    refine take_ (i := 3) (N := some 40) (v := ?_) (a' := ?_) #[true, true, true, true, false, true, true, false, false] rfl rfl (by kernel_rfl) (fun _ _ _ h => h) (Or.inl ⟨by rfl, ?_⟩) hHeld ?_ ?_
    rotate_left
    · intro w' s0
      go_simp
      with_reducible rfl
    rotate_left
    · simp only [Act.put, List.setIfInBounds_toArray, List.set_cons_zero, List.set_cons_succ, i64_w, i32_w]
      rfl
    refine pure_ (i := 4) (N := some 41) (v := ?_) (a' := ?_) #[true, true, true, true, true, true, true, false, false] rfl rfl (by kernel_rfl) (fun _ _ _ h => h) (Or.inl ⟨by rfl, ?_⟩) ?_ ?_
    rotate_left
    · intro w'
      go_simp
      with_reducible rfl
    rotate_left
    · simp only [Act.put, List.setIfInBounds_toArray, List.set_cons_zero, List.set_cons_succ, i64_w, i32_w]
      rfl
    refine pure_ (i := 7) (N := some 44) (v := ?_) (a' := ?_) #[true, true, true, true, true, true, true, true, false] rfl rfl (by kernel_rfl) (fun _ _ _ h => h) (Or.inl ⟨by rfl, ?_⟩) ?_ ?_
    rotate_left
    · intro w'
      go_simp
      with_reducible rfl
    rotate_left
    · simp only [Act.put, List.setIfInBounds_toArray, List.set_cons_zero, List.set_cons_succ, i64_w, i32_w]
      rfl
    refine pure_ (i := 8) (N := some 4) (v := ?_) (a' := ?_) #[true, true, true, true, true, true, true, true, true] rfl rfl (by kernel_rfl) (fun _ _ _ h => h) (Or.inl ⟨by rfl, ?_⟩) ?_ ?_
    rotate_left
    · intro w'
      go_simp
      with_reducible rfl
    rotate_left
    · simp only [Act.put, List.setIfInBounds_toArray, List.set_cons_zero, List.set_cons_succ, i64_w, i32_w]
      rfl
    refine done_ (by kernel_rfl) ?_
    go_wp2
    · go_loopg [4, 9, 53] (q - 1) (fun gk v4 v9 v53 w' => ∃ (j : Nat) (n : Int) (m : Nat), v4 = .int .u64 n ∧ v53 = .int .i64 (j : Int) ∧ Aside0 (j + gk = q - 1) ∧ Aside0 (vint_fold n ((vint_tail l0 i (q - 1)).drop j) = vint_num l0 i (q - 1)) ∧ w' = w.drewN m)
      case atStart => exact ⟨0, _, _, rfl, rfl, ⟨by omega⟩, ⟨by rw [List.drop_zero]; unfold vint_num; rw [if_pos (by omega), show 1 + (q - 1) = q by have := HQ.out; omega, shr_q q (by have := HQ.out; omega)]⟩, rfl⟩
      case round =>
        obtain ⟨j, n, m, rfl, rfl, HJ, HF, rfl⟩ := hrel
        cases gk with
        | zero =>
          have hn : n = vint_num l0 i (q - 1) := by
            have h := HF.out
            rw [vint_tail_end l0 i q j HQ.out.1 (by have := H6.out; omega) (by have := HJ.out; omega)] at h
            exact h
          have HN2 := Aside0.mk hn
          have e1 : decide ((j : Int) < ((i + q - (i + 1) : Nat) : Int)) = false := decide_eq_false (by have := HJ.out; omega)
          have e2 : decide (j < i + q - (i + 1)) = false := decide_eq_false (by have := HJ.out; omega)
          clear hn
          by_cases ct : t = (q : Int)
          · have ctb : (t == (q : Int)) = true := beq_iff_eq.2 ct
            have ctc : (t != (q : Int)) = false := bne_eq_false_iff_eq.2 ct
            have CT := Aside0.mk ct
            clear ct
            go_wp2_with (go_at_call 132; refine (vint_Len.calls k _ t _ (by rw [HN2.out]; exact HT.out)).mono ?_; rintro e w1 ⟨rfl, m2, rfl⟩)
            go_ret3
            refine ⟨?_, m + m2, by first | rfl | exact World.drewN_drewN _ _ _⟩
            unfold vint_res
            rw [if_pos CT.out, ← HN2.out]
            rfl
          · have ctb : (t == (q : Int)) = false := beq_eq_false_iff_ne.2 ct
            have ctc : (t != (q : Int)) = true := bne_iff_ne.2 ct
            have CT := Aside0.mk ct
            clear ct
            go_wp2_with (go_at_call 132; refine (vint_Len.calls k _ t _ (by rw [HN2.out]; exact HT.out)).mono ?_; rintro e w1 ⟨rfl, m2, rfl⟩)
            go_ret3
            refine ⟨?_, m + m2, by first | rfl | exact World.drewN_drewN _ _ _⟩
            unfold vint_res
            rw [if_neg CT.out]
            rfl
        | succ k1 =>
          exact absurd HJ.out (by have h1 := H6.out; have h2 := HC.out; omega)

    · go_loopg [4, 9, 53] (q - 1) (fun gk v4 v9 v53 w' => ∃ (j : Nat) (n : Int) (m : Nat), v4 = .int .u64 n ∧ v53 = .int .i64 (j : Int) ∧ Aside0 (j + gk = q - 1) ∧ Aside0 (vint_fold n ((vint_tail l0 i (q - 1)).drop j) = vint_num l0 i (q - 1)) ∧ w' = w.drewN m)
      case atStart => exact ⟨0, _, _, rfl, rfl, ⟨by omega⟩, ⟨by rw [List.drop_zero]; unfold vint_num; rw [if_pos (by omega), show 1 + (q - 1) = q by have := HQ.out; omega, shr_q q (by have := HQ.out; omega)]⟩, rfl⟩
      case round =>
        obtain ⟨j, n, m, rfl, rfl, HJ, HF, rfl⟩ := hrel
        cases gk with
        | zero =>
          have hn : n = vint_num l0 i (q - 1) := by
            have h := HF.out
            rw [vint_tail_end l0 i q j HQ.out.1 (by have := H6.out; omega) (by have := HJ.out; omega)] at h
            exact h
          have HN2 := Aside0.mk hn
          have e1 : decide ((j : Int) < ((i + q - (i + 1) : Nat) : Int)) = false := decide_eq_false (by have := HJ.out; omega)
          have e2 : decide (j < i + q - (i + 1)) = false := decide_eq_false (by have := HJ.out; omega)
          clear hn
          by_cases ct : t = (q : Int)
          · have ctb : (t == (q : Int)) = true := beq_iff_eq.2 ct
            have ctc : (t != (q : Int)) = false := bne_eq_false_iff_eq.2 ct
            have CT := Aside0.mk ct
            clear ct
            go_wp2_with (go_at_call 132; refine (vint_Len.calls k _ t _ (by rw [HN2.out]; exact HT.out)).mono ?_; rintro e w1 ⟨rfl, m2, rfl⟩)
            go_ret3
            refine ⟨?_, m + m2, by first | rfl | exact World.drewN_drewN _ _ _⟩
            unfold vint_res
            rw [if_pos CT.out, ← HN2.out]
            rfl
          · have ctb : (t == (q : Int)) = false := beq_eq_false_iff_ne.2 ct
            have ctc : (t != (q : Int)) = true := bne_iff_ne.2 ct
            have CT := Aside0.mk ct
            clear ct
            go_wp2_with (go_at_call 132; refine (vint_Len.calls k _ t _ (by rw [HN2.out]; exact HT.out)).mono ?_; rintro e w1 ⟨rfl, m2, rfl⟩)
            go_ret3
            refine ⟨?_, m + m2, by first | rfl | exact World.drewN_drewN _ _ _⟩
            unfold vint_res
            rw [if_neg CT.out]
            rfl
        | succ k1 =>
          have hj : j < q - 1 := by have := HJ.out; omega
          have hin : i + 1 + j < l0.length := by have := H6.out; omega
          obtain ⟨ad2, e2', hx2⟩ := Kd.at_int HR.out ((i + 1 + j : Nat) : Int) (by omega) (by omega)
          cases e2'
          have hx3 : (w.drewN m).cell? ⟨ad.block, ad.off + (i + 1) + j, none⟩ = some (.int .u8 (rd l0 ((i + 1 + j : Nat) : Int))) := by
            have h := hx2
            rw [Int.toNat_natCast] at h
            unfold Addr.add at h
            rw [if_neg (by omega)] at h
            rw [Nat.add_assoc]
            exact h
          have hf := HF.out
          rw [vint_tail_at l0 i q j hj hin] at hf
          have HF2 := Aside0.mk hf
          have e1 : decide ((j : Int) < ((i + q - (i + 1) : Nat) : Int)) = true := decide_eq_true (by omega)
          have e2 : decide (j < i + q - (i + 1)) = true := decide_eq_true (by omega)
          have e3 : ((j : Int) < ((i + q - (i + 1) : Nat) : Int)) = True := eq_true (by omega)
          have e4 : (j < i + q - (i + 1)) = True := eq_true (by omega)
          have HJ2 := Aside0.mk hj
          clear hf hx2 HF hj hin
          have hw5 : wrap64 ((j : Int) + 1) = (j : Int) + 1 := wrap64_in _ ⟨by have := HJ2.out; have := HQ.out; omega, by have := HJ2.out; have := HQ.out; omega⟩
          go_wp2
          go_roundg k1
          case measure => omega
          case rel => exact ⟨j + 1, _, m, rfl, by first | rfl | (rw [hw5]; rfl) | (simp [hw5]; done), ⟨by have := HJ.out; omega⟩, HF2, rfl⟩
  · have c9b : decide ((q : Int) < 9) = false := decide_eq_false (by omega)
    have c9c : decide (q < 9) = false := decide_eq_false c9
    go_wp2
    · go_loopg [4, 9, 53] (q - 1) (fun gk v4 v9 v53 w' => ∃ (j : Nat) (n : Int) (m : Nat), v4 = .int .u64 n ∧ v53 = .int .i64 (j : Int) ∧ Aside0 (j + gk = q - 1) ∧ Aside0 (vint_fold n ((vint_tail l0 i (q - 1)).drop j) = vint_num l0 i (q - 1)) ∧ w' = w.drewN m)
      case atStart => exact ⟨0, _, _, rfl, rfl, ⟨by omega⟩, ⟨by rw [List.drop_zero]; unfold vint_num; rw [if_neg (by have := HQ.out; omega)]⟩, rfl⟩
      case round =>
        obtain ⟨j, n, m, rfl, rfl, HJ, HF, rfl⟩ := hrel
        cases gk with
        | zero =>
          have hn : n = vint_num l0 i (q - 1) := by
            have h := HF.out
            rw [vint_tail_end l0 i q j HQ.out.1 (by have := H6.out; omega) (by have := HJ.out; omega)] at h
            exact h
          have HN2 := Aside0.mk hn
          have e1 : decide ((j : Int) < ((i + q - (i + 1) : Nat) : Int)) = false := decide_eq_false (by have := HJ.out; omega)
          have e2 : decide (j < i + q - (i + 1)) = false := decide_eq_false (by have := HJ.out; omega)
          clear hn
          by_cases ct : t = (q : Int)
          · have ctb : (t == (q : Int)) = true := beq_iff_eq.2 ct
            have ctc : (t != (q : Int)) = false := bne_eq_false_iff_eq.2 ct
            have CT := Aside0.mk ct
            clear ct
            go_wp2_with (go_at_call 132; refine (vint_Len.calls k _ t _ (by rw [HN2.out]; exact HT.out)).mono ?_; rintro e w1 ⟨rfl, m2, rfl⟩)
            go_ret3
            refine ⟨?_, m + m2, by first | rfl | exact World.drewN_drewN _ _ _⟩
            unfold vint_res
            rw [if_pos CT.out, ← HN2.out]
            rfl
          · have ctb : (t == (q : Int)) = false := beq_eq_false_iff_ne.2 ct
            have ctc : (t != (q : Int)) = true := bne_iff_ne.2 ct
            have CT := Aside0.mk ct
            clear ct
            go_wp2_with (go_at_call 132; refine (vint_Len.calls k _ t _ (by rw [HN2.out]; exact HT.out)).mono ?_; rintro e w1 ⟨rfl, m2, rfl⟩)
            go_ret3
            refine ⟨?_, m + m2, by first | rfl | exact World.drewN_drewN _ _ _⟩
            unfold vint_res
            rw [if_neg CT.out]
            rfl
        | succ k1 =>
          exact absurd HJ.out (by have h1 := H6.out; have h2 := HC.out; omega)

    · go_loopg [4, 9, 53] (q - 1) (fun gk v4 v9 v53 w' => ∃ (j : Nat) (n : Int) (m : Nat), v4 = .int .u64 n ∧ v53 = .int .i64 (j : Int) ∧ Aside0 (j + gk = q - 1) ∧ Aside0 (vint_fold n ((vint_tail l0 i (q - 1)).drop j) = vint_num l0 i (q - 1)) ∧ w' = w.drewN m)
      case atStart => exact ⟨0, _, _, rfl, rfl, ⟨by omega⟩, ⟨by rw [List.drop_zero]; unfold vint_num; rw [if_neg (by have := HQ.out; omega)]⟩, rfl⟩
      case round =>
        obtain ⟨j, n, m, rfl, rfl, HJ, HF, rfl⟩ := hrel
        cases gk with
        | zero =>
          have hn : n = vint_num l0 i (q - 1) := by
            have h := HF.out
            rw [vint_tail_end l0 i q j HQ.out.1 (by have := H6.out; omega) (by have := HJ.out; omega)] at h
            exact h
          have HN2 := Aside0.mk hn
          have e1 : decide ((j : Int) < ((i + q - (i + 1) : Nat) : Int)) = false := decide_eq_false (by have := HJ.out; omega)
          have e2 : decide (j < i + q - (i + 1)) = false := decide_eq_false (by have := HJ.out; omega)
          clear hn
          by_cases ct : t = (q : Int)
          · have ctb : (t == (q : Int)) = true := beq_iff_eq.2 ct
            have ctc : (t != (q : Int)) = false := bne_eq_false_iff_eq.2 ct
            have CT := Aside0.mk ct
            clear ct
            go_wp2_with (go_at_call 132; refine (vint_Len.calls k _ t _ (by rw [HN2.out]; exact HT.out)).mono ?_; rintro e w1 ⟨rfl, m2, rfl⟩)
            go_ret3
            refine ⟨?_, m + m2, by first | rfl | exact World.drewN_drewN _ _ _⟩
            unfold vint_res
            rw [if_pos CT.out, ← HN2.out]
            rfl
          · have ctb : (t == (q : Int)) = false := beq_eq_false_iff_ne.2 ct
            have ctc : (t != (q : Int)) = true := bne_iff_ne.2 ct
            have CT := Aside0.mk ct
            clear ct
            go_wp2_with (go_at_call 132; refine (vint_Len.calls k _ t _ (by rw [HN2.out]; exact HT.out)).mono ?_; rintro e w1 ⟨rfl, m2, rfl⟩)
            go_ret3
            refine ⟨?_, m + m2, by first | rfl | exact World.drewN_drewN _ _ _⟩
            unfold vint_res
            rw [if_neg CT.out]
            rfl
        | succ k1 =>
          have hj : j < q - 1 := by have := HJ.out; omega
          have hin : i + 1 + j < l0.length := by have := H6.out; omega
          obtain ⟨ad2, e2', hx2⟩ := Kd.at_int HR.out ((i + 1 + j : Nat) : Int) (by omega) (by omega)
          cases e2'
          have hx3 : (w.drewN m).cell? ⟨ad.block, ad.off + (i + 1) + j, none⟩ = some (.int .u8 (rd l0 ((i + 1 + j : Nat) : Int))) := by
            have h := hx2
            rw [Int.toNat_natCast] at h
            unfold Addr.add at h
            rw [if_neg (by omega)] at h
            rw [Nat.add_assoc]
            exact h
          have hf := HF.out
          rw [vint_tail_at l0 i q j hj hin] at hf
          have HF2 := Aside0.mk hf
          have e1 : decide ((j : Int) < ((i + q - (i + 1) : Nat) : Int)) = true := decide_eq_true (by omega)
          have e2 : decide (j < i + q - (i + 1)) = true := decide_eq_true (by omega)
          have e3 : ((j : Int) < ((i + q - (i + 1) : Nat) : Int)) = True := eq_true (by omega)
          have e4 : (j < i + q - (i + 1)) = True := eq_true (by omega)
          have HJ2 := Aside0.mk hj
          clear hf hx2 HF hj hin
          have hw5 : wrap64 ((j : Int) + 1) = (j : Int) + 1 := wrap64_in _ ⟨by have := HJ2.out; have := HQ.out; omega, by have := HJ2.out; have := HQ.out; omega⟩
          go_wp2
          go_roundg k1
          case measure => omega
          case rel => exact ⟨j + 1, _, m, rfl, by first | rfl | (rw [hw5]; rfl) | (simp [hw5]; done), ⟨by have := HJ.out; omega⟩, HF2, rfl⟩
theorem vint_Get.calls (k : Nat) (A0 : Option Addr) (c0 : Nat) (l0 : List Int) (a1 : Int) (r1 : Int) (r2 : Int) (r3 : Int) (w : World) (hr0 : Kd.C (Kd.int .u8) w A0 l0.length l0) (hc0 : l0.length ≤ c0) (h : vint_Get.f k l0 a1 = some (r1, r2, r3)) :
    Calls Tryz.prog 122 #[.slice A0 l0.length c0, .int .i64 a1] w fun e w' => e = .returned (.tuple #[.int .u64 r1, .int .i64 r2, .int .i64 r3]) ∧ Drawn0 w w' := by
  unfold vint_Get.f at h
  by_cases c1 : a1 < 0
  · rw [if_pos c1] at h
    cases h
    exact vint_Get_neg A0 c0 l0.length a1 w (.inl c1)
  rw [if_neg c1] at h
  by_cases c2 : (l0.length : Int) < a1
  · rw [if_pos c2] at h
    cases h
    exact vint_Get_neg A0 c0 l0.length a1 w (.inr c2)
  rw [if_neg c2] at h
  by_cases c3 : a1 = (l0.length : Int)
  · rw [if_pos c3] at h
    cases h
    rw [c3]
    exact vint_Get_end A0 c0 l0.length w
  rw [if_neg c3] at h
  obtain ⟨i, rfl⟩ : ∃ i : Nat, a1 = (i : Int) := ⟨a1.toNat, by omega⟩
  have hi : i < l0.length := by omega
  obtain ⟨z, hz, h⟩ := Option.bind_eq_some_iff.1 h
  by_cases c4 : z < 0
  · rw [if_pos c4] at h; cases h
  rw [if_neg c4] at h
  obtain ⟨q, hq, rfl⟩ : ∃ q : Nat, 1 ≤ q ∧ z = ((q - 1 : Nat) : Int) := ⟨z.toNat + 1, by omega, by omega⟩
  simp only [Int.toNat_natCast] at h
  unfold vint_at at h
  by_cases c5 : 8 < q - 1
  · rw [if_pos c5] at h; cases h
  rw [if_neg c5, show 1 + (q - 1) = q by omega] at h
  obtain ⟨ad, rfl⟩ : ∃ ad, A0 = some ad := by
    obtain ⟨ad, e, _⟩ := hr0.2.2 (by omega)
    exact ⟨ad, e⟩
  by_cases c6 : l0.length - i < q
  · rw [if_pos c6] at h
    cases h
    exact vint_Get_in k ad c0 l0 i q 0 0 2 w hr0 hc0 hi ⟨hq, by omega⟩ hz c6
  rw [if_neg c6] at h
  obtain ⟨t, ht, h⟩ := Option.bind_eq_some_iff.1 h
  refine (vint_Get_on k ad c0 l0 i q r1 r2 r3 w hr0 hc0 hi ⟨hq, by omega⟩ hz c6 t ht).mono ?_
  rintro e w' ⟨rfl, hd⟩
  refine ⟨?_, hd⟩
  have hm := hr0.2.1
  unfold vint_res
  by_cases c7 : t = (q : Int)
  · rw [if_pos c7] at h
    rw [if_pos c7]
    simp only [Option.some.injEq, Prod.mk.injEq] at h
    obtain ⟨rfl, rfl, rfl⟩ := h
    rw [wrap64_in _ ⟨by omega, by omega⟩]
    rfl
  · rw [if_neg c7] at h
    rw [if_neg c7]
    cases h
    rfl


end Go.Proofs.YtgcjjapcniocaaaGreatDoor.G
