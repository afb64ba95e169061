import Derived.Lib.Bytealg
import Derived.Lib.BytesEntry
import Derived.WalkLawsBesides
import Derived.RangeFuncNested
import Derived.RangeFuncBound
import Derived.RangeFuncCalls
import Derived.RangeFuncLeaves
import Derived.RangeFuncBox
import Derived.OwnWalkIn
import Derived.TacticsInMore
import Derived.LoopNIn
import Derived.LoopIn
import Derived.Outline
import Derived.Test.YtgcjjapcniocaaaGreatDoorGx0
import Derived.Test.YtgcjjapcniocaaaGreatDoorGx2
import Derived.Test.YtgcjjapcniocaaaGreatDoorGx12
namespace Go.Proofs.YtgcjjapcniocaaaGreatDoor.G
open Go.RowKit Go.Proofs.YtgcjjapcniocaaaGreatDoorW.PrintWords Go.Proofs.YtgcjjapcniocaaaGreatDoorW.PrintLast Go.Proofs.YtgcjjapcniocaaaGreatDoorW.PrintMore
attribute [local go_sem] max2_int min2_int max_two min_two max_three min_three max_four min_four
set_option linter.unusedVariables false
set_option linter.unusedSimpArgs false
set_option pp.deepTerms true
set_option pp.maxSteps 100000
/-! #### the reader of runs -/
theorem quiet_d {P : Program} {f : FuncId} {args : Array Value} {w : World} {n : Nat} {v : Value} (h : Calls P f args (w.drewN n) fun e w' => e = .returned v ∧ Drawn0 (w.drewN n) w') : Calls P f args (w.drewN n) fun e w'' => e = .returned v ∧ ∃ m, w'' = w.drewN m :=
  Calls.quiet_of (h.mono fun _ _ ⟨he, hm⟩ => ⟨he, hm.out⟩)
theorem kset {w W : World} {S : Nat → Prop} (h : Kept w W S) (g j : Nat) (u : Value) (hg : S g) : Kept w (W.setCell ⟨g, j, none⟩ u) S := h.setCell (.inl hg) u
def Rd (W : World) (g : Nat) (A : Option Addr) (n c : Nat) (at_ e : Int) : Prop := W.heap[g]? = some (.cells #[.slice A n c, .int .i64 at_, .int .i64 e] 248 (0, 0))
theorem Rd.c0 {W : World} {g : Nat} {A : Option Addr} {n c : Nat} {a e : Int} (h : Rd W g A n c a e) : W.cell? ⟨g, 0, none⟩ = some (.slice A n c) := (blk_cell h 0).trans rfl
theorem Rd.c1 {W : World} {g : Nat} {A : Option Addr} {n c : Nat} {a e : Int} (h : Rd W g A n c a e) : W.cell? ⟨g, 1, none⟩ = some (.int .i64 a) := (blk_cell h 1).trans rfl
theorem Rd.c2 {W : World} {g : Nat} {A : Option Addr} {n c : Nat} {a e : Int} (h : Rd W g A n c a e) : W.cell? ⟨g, 2, none⟩ = some (.int .i64 e) := (blk_cell h 2).trans rfl
theorem Rd.fr {W : World} {g : Nat} {A : Option Addr} {n c : Nat} {a e : Int} (h : Rd W g A n c a e) (j : Nat) : W.frozen? ⟨g, j, none⟩ = false := blk_frozen h j
theorem Rd.drewN {W : World} {g : Nat} {A : Option Addr} {n c : Nat} {a e : Int} (h : Rd W g A n c a e) (m : Nat) : Rd (W.drewN m) g A n c a e := h
theorem Rd.set1 {W : World} {g : Nat} {A : Option Addr} {n c : Nat} {a e : Int} (h : Rd W g A n c a e) (x : Int) : Rd (W.setCell ⟨g, 1, none⟩ (.int .i64 x)) g A n c x e := by simpa [Rd] using blk_set h 1 (.int .i64 x)
theorem Rd.set2 {W : World} {g : Nat} {A : Option Addr} {n c : Nat} {a e : Int} (h : Rd W g A n c a e) (x : Int) : Rd (W.setCell ⟨g, 2, none⟩ (.int .i64 x)) g A n c a x := by simpa [Rd] using blk_set h 2 (.int .i64 x)
def rdNext (k : Nat) (b : List Int) (a e : Int) : Option (Int × Int × Int) :=
  if e ≠ 0 then some (0, a, e) else (vint_Get.f k b a).map fun t => (wrap64 (mn t.1 1099511627776), t.2.1, t.2.2)
theorem rdNext_calls (k : Nat) (g : Nat) (A : Option Addr) (c : Nat) (b : List Int) (a e r a' e' : Int) (w : World) (hb : Rd w g A b.length c a e) (hr : Kd.C (Kd.int .u8) w A b.length b) (hc : b.length ≤ c) (h : rdNext k b a e = some (r, a', e')) :
    Calls Tryz.prog 165 #[.pointer (some ⟨g, 0, none⟩)] w fun x w' => x = .returned (.int .i64 r) ∧ Rd w' g A b.length c a' e' ∧ (∀ B, B ≤ g → Below B w w') ∧ Kept w w' (· = g) := by
  have h0 := hb.c0
  have h1 := hb.c1
  have h2 := hb.c2
  have f1 := hb.fr 1
  have f2 := hb.fr 2
  have HB := Aside0.mk hb
  have HR := Aside0.mk hr
  have HC := Aside0.mk hc
  clear hb hr hc
  unfold rdNext at h
  by_cases he : e = 0
  · subst he
    rw [if_neg (by simp)] at h
    obtain ⟨⟨t0, t1, t2⟩, ht, he⟩ := Option.map_eq_some_iff.1 h
    simp only [Prod.mk.injEq] at he
    obtain ⟨rfl, rfl, rfl⟩ := he
    have HT := Aside0.mk ht
    clear h ht
    have hmn : (t0 ≤ 1099511627776 ∧ mn t0 1099511627776 = t0) ∨ (¬ t0 ≤ 1099511627776 ∧ mn t0 1099511627776 = 1099511627776) := by unfold mn; omega
    rcases hmn with ⟨hmn, hmv⟩ | ⟨hmn, hmv⟩
    all_goals
      rw [hmv]
      clear hmv
      go_enter Tryz.func165, Tryz.ntmps165
      go_wp2
      go_quiet ((go_at_call 122; exact quiet_d (vint_Get.calls k A c b a _ _ _ _ (Kd.C_drewN HR.out _) HC.out HT.out)))
      go_wp2
      go_ret
      exact ⟨(by first | rfl | (show Ending.returned (.int .i64 1099511627776) = _; rw [show wrap64 1099511627776 = 1099511627776 from by unfold wrap64; omega])), ((HB.out.drewN nq).set1 _).set2 _, fun B hB => ((pw_below_drewN (Below.refl _ _) nq).setCell (p := ⟨g, 1, none⟩) hB _).setCell (p := ⟨g, 2, none⟩) hB _, kset (S := (· = g)) (kset (S := (· = g)) (Kept.drewN (Kept.refl _ (· = g)) nq) g 1 _ rfl) g 2 _ rfl⟩
  · rw [if_pos he] at h
    simp only [Option.some.injEq, Prod.mk.injEq] at h
    obtain ⟨rfl, rfl, rfl⟩ := h
    have c1 : (e != 0) = true := bne_iff_ne.2 he
    clear he
    go_enter Tryz.func165, Tryz.ntmps165
    go_wp2
    go_ret
    exact ⟨rfl, HB.out, fun B _ => Below.refl _ _, Kept.refl _ _⟩
end Go.Proofs.YtgcjjapcniocaaaGreatDoor.G
namespace Go.Proofs.YtgcjjapcniocaaaGreatDoor.G
open Go.RowKit Go.Proofs.YtgcjjapcniocaaaGreatDoorW.PrintWords Go.Proofs.YtgcjjapcniocaaaGreatDoorW.PrintLast Go.Proofs.YtgcjjapcniocaaaGreatDoorW.PrintMore
attribute [local go_sem] max2_int min2_int max_two min_two max_three min_three max_four min_four
set_option linter.unusedVariables false
set_option linter.unusedSimpArgs false
set_option pp.deepTerms true
set_option pp.maxSteps 100000
theorem Rd.keepR {W : World} {g : Nat} {A : Option Addr} {n c : Nat} {a e : Int} (h : Rd W g A n c a e) {base : Nat} {v : Value} {xs : List Int} (ho : Kd.R (Kd.int .i64) 3 W base (fun _ => True) v xs) (j : Nat) (u : Value) : Kd.R (Kd.int .i64) 3 (W.setCell ⟨g, j, none⟩ u) base (fun _ => True) v xs :=
  Kd.R_mono (Kd.R_far (Kd.R_types ho h (by intro q hq; cases hq with | head => decide | tail _ h => cases h)) (p := ⟨g, j, none⟩) (fun k hk => hk.2) u) (fun _ _ => trivial)
theorem Rd.grow {W W1 : World} {g : Nat} {A : Option Addr} {n c : Nat} {a e : Int} (h : Rd W g A n c a e) {base : Nat} {v : Value} {xs : List Int} (ho : Kd.R (Kd.int .i64) 3 W base (fun _ => True) v xs) (hg : W.grownBy W1 v.ownBlock) : Rd W1 g A n c a e := blk_grown h hg (Kd.R_ne ho h (by decide))
def rdLast (l : List Int) : Int := if l = [] then -1 else rd l ((l.length : Int) - 1)
def rdSum (l : List Int) (gap : Int) : Int := wrap64 (wrap64 (rdLast l + 1) + gap)
def rdAdd (l : List Int) (gap e : Int) : List Int × Int :=
  if e = 0 then (if 65536 ≤ l.length ∨ 1048576 < rdSum l gap then (l, 9) else (l ++ [rdSum l gap], 0)) else (l, e)
set_option maxRecDepth 100000 in
set_option maxHeartbeats 1000000 in
theorem rdAdd_calls (base g : Nat) (A : Option Addr) (n c : Nat) (a e : Int) (v : Value) (l : List Int) (gap : Int) (w : World) (hg : base ≤ g) (hb : Rd w g A n c a e) (ho : Kd.R (Kd.int .i64) 3 w base (fun _ => True) v l) (hz : base ≤ w.heap.size) :
    Calls Tryz.prog 176 #[.pointer (some ⟨g, 0, none⟩), v, .int .i64 gap] w fun x w' => ∃ v', x = .returned v' ∧ Kd.R (Kd.int .i64) 3 w' base (fun _ => True) v' (rdAdd l gap e).1 ∧ Rd w' g A n c a (rdAdd l gap e).2 ∧ Below base w w' := by
  obtain ⟨A', c', rfl, hlc, hC⟩ := Kd.R_reads ho
  have h2 := hb.c2
  have f2 := hb.fr 2
  have HB := Aside0.mk hb
  have HO := Aside0.mk ho
  have HG := Aside0.mk hg
  have HZ := Aside0.mk hz
  have hlen := hC.2.1
  have hset : ∀ x, Below base w (w.setCell ⟨g, 2, none⟩ x) := fun x => (Below.refl _ _).setCell (p := ⟨g, 2, none⟩) hg x
  have HS := Aside0.mk hset
  clear hb ho hg hz hset
  have hlast : ∃ last, rdLast l = last := ⟨_, rfl⟩
  obtain ⟨last, hla⟩ := hlast
  have hsum : ∃ sm, rdSum l gap = sm := ⟨_, rfl⟩
  obtain ⟨sm, hsm⟩ := hsum
  have HSM := Aside0.mk hsm
  have hsm' : wrap64 (wrap64 (last + 1) + gap) = sm := by rw [← hsm, ← hla]; rfl
  go_enter Tryz.func176, Tryz.ntmps176
  go_upto_if 10 with (fail)
  go_cut [7] (fun v7 wc => v7 = .int .i64 last ∧ wc = w)
  case first =>
    by_cases hl : l = []
    · subst hl
      have hl0 : last = -1 := by rw [← hla]; rfl
      subst hl0
      clear hla hsm hsm'
      go_wp2
      go_meet
      case rel => exact ⟨rfl, rfl⟩
    · have hpos : 0 < l.length := List.length_pos_iff.2 hl
      have hl1 : last = rd l ((l.length : Int) - 1) := by rw [← hla]; unfold rdLast; rw [if_neg hl]
      have c1 : decide (0 < (l.length : Int)) = true := decide_eq_true (by omega)
      have c1' : decide (0 < l.length) = true := decide_eq_true hpos
      have hw1 : wrap64 ((l.length : Int) - 1) = (l.length : Int) - 1 := by unfold wrap64; omega
      have p1 : (0 : Int) ≤ (l.length : Int) - 1 := by omega
      have q1 : (l.length : Int) - 1 < (l.length : Int) := by omega
      obtain ⟨ad, rfl, hx⟩ := Kd.at_int hC ((l.length : Int) - 1) p1 q1
      rw [← hl1, show ((l.length : Int) - 1).toNat = l.length - 1 from by omega] at hx
      clear hla hsm hsm' hl1 hl
      go_wp2
      go_meet
      case rel => exact ⟨rfl, rfl⟩
  case rest =>
    obtain ⟨rfl, rfl⟩ := hcut
    clear hla
    by_cases he : e = 0
    · subst he
      by_cases hA : 65536 ≤ l.length
      · have c1 : decide (65536 ≤ (l.length : Int)) = true := decide_eq_true (by omega)
        have c1' : decide (65536 ≤ l.length) = true := decide_eq_true hA
        have hr : rdAdd l gap 0 = (l, 9) := by unfold rdAdd; rw [if_pos rfl, if_pos (.inl hA)]
        have HRR := Aside0.mk hr
        clear hr hA hsm hsm'
        go_wp2
        go_ret
        rw [HRR.out]
        exact ⟨_, rfl, HB.out.keepR HO.out 2 _, HB.out.set2 _, HS.out _⟩
      · have hA' : l.length < 65536 := by omega
        have c1 : decide (65536 ≤ (l.length : Int)) = false := decide_eq_false (by omega)
        have c1' : decide (65536 ≤ l.length) = false := decide_eq_false (by omega)
        by_cases hS : 1048576 < sm
        · have c2 : decide (1048576 < sm) = true := decide_eq_true hS
          have hr : rdAdd l gap 0 = (l, 9) := by unfold rdAdd; rw [if_pos rfl, if_pos (.inr (by rw [hsm]; exact hS))]
          have HRR := Aside0.mk hr
          clear hr hA hS hsm hA'
          go_wp2
          go_ret
          rw [HRR.out]
          exact ⟨_, rfl, HB.out.keepR HO.out 2 _, HB.out.set2 _, HS.out _⟩
        · have c2 : decide (1048576 < sm) = false := decide_eq_false hS
          have hr : rdAdd l gap 0 = (l ++ [sm], 0) := by unfold rdAdd; rw [if_pos rfl, if_neg (by rw [hsm]; omega), hsm]
          have HRR := Aside0.mk hr
          have HA := Aside0.mk hA'
          clear hr hA hS hsm hA'
          go_wp2_with (at_builtin; refine Kd.R_append (Kd.int .i64) (w0 := wc) base (by rfl) (.tmp 43) (.tmp 48) 48 3 (.int .i64 0) 8 rfl Tryz.underlying48 info3 rfl (by decide) (by omega) _ l sm [.int .i64 sm] (fun _ => True) (fun _ => False) rfl rfl rfl (fun _ h => h.elim) (fun _ _ => trivial) HO.out (Below.refl _ _) HZ.out (by have := HA.out; omega) ?_; intro v1 w1 ho1 hb1 hg1 hat1)
          go_ret
          rw [HRR.out]
          exact ⟨_, rfl, ho1, HB.out.grow HO.out hg1, hb1⟩
    · have c1 : (e == 0) = false := beq_eq_false_iff_ne.2 he
      have c2 : (e != 0) = true := bne_iff_ne.2 he
      have hr : rdAdd l gap e = (l, e) := by unfold rdAdd; rw [if_neg he]
      have HRR := Aside0.mk hr
      clear hr he hsm hsm'
      go_wp2
      go_ret
      rw [HRR.out]
      exact ⟨_, rfl, HO.out, HB.out, Below.refl _ _⟩
end Go.Proofs.YtgcjjapcniocaaaGreatDoor.G
namespace Go.Proofs.YtgcjjapcniocaaaGreatDoor.G
open Go.RowKit Go.Proofs.YtgcjjapcniocaaaGreatDoorW.PrintWords Go.Proofs.YtgcjjapcniocaaaGreatDoorW.PrintLast Go.Proofs.YtgcjjapcniocaaaGreatDoorW.PrintMore
attribute [local go_sem] max2_int min2_int max_two min_two max_three min_three max_four min_four
set_option linter.unusedVariables false
set_option linter.unusedSimpArgs false
set_option pp.deepTerms true
set_option pp.maxSteps 100000
structure RS (w0 w : World) (g : Nat) (A : Option Addr) (c : Nat) (b : List Int) (a e : Int) (v : Value) (l : List Int) : Prop where
  rd : Rd w g A b.length c a e
  C : Kd.C (Kd.int .u8) w0 A b.length b
  hc : b.length ≤ c
  hg : w0.heap.size ≤ g
  B : Below w0.heap.size w0 w
  R : Kd.R (Kd.int .i64) 3 w w0.heap.size (fun _ => True) v l
theorem RS.next {w0 w : World} {g : Nat} {A : Option Addr} {c : Nat} {b : List Int} {a e : Int} {v : Value} {l : List Int} (S : RS w0 w g A c b a e v l) {k : Nat} {r a' e' : Int} (h : rdNext k b a e = some (r, a', e')) :
    Calls Tryz.prog 165 #[.pointer (some ⟨g, 0, none⟩)] w fun x w' => x = .returned (.int .i64 r) ∧ RS w0 w' g A c b a' e' v l := by
  refine (rdNext_calls k g A c b a e r a' e' w S.rd (Kd.C_below S.C S.B) S.hc h).mono ?_
  rintro x w' ⟨rfl, h1, h2, h3⟩
  refine ⟨rfl, h1, S.C, S.hc, S.hg, S.B.trans (h2 _ S.hg), ?_⟩
  exact Kd.R_mono (Kd.R_kept (Kd.R_types S.R S.rd (by intro q hq; cases hq with | head => decide | tail _ h => cases h)) h3 (fun k hk => hk.2)) (fun _ _ => trivial)
theorem RS.add {w0 w : World} {g : Nat} {A : Option Addr} {c : Nat} {b : List Int} {a e : Int} {v : Value} {l : List Int} (S : RS w0 w g A c b a e v l) (gap : Int) :
    Calls Tryz.prog 176 #[.pointer (some ⟨g, 0, none⟩), v, .int .i64 gap] w fun x w' => ∃ v', x = .returned v' ∧ RS w0 w' g A c b a (rdAdd l gap e).2 v' (rdAdd l gap e).1 := by
  refine (rdAdd_calls w0.heap.size g A b.length c a e v l gap w S.hg S.rd S.R S.B.size).mono ?_
  rintro x w' ⟨v', rfl, h1, h2, h3⟩
  exact ⟨v', rfl, h2, S.C, S.hc, S.hg, S.B.trans h3, h1⟩
theorem RS.set2 {w0 w : World} {g : Nat} {A : Option Addr} {c : Nat} {b : List Int} {a e : Int} {v : Value} {l : List Int} (S : RS w0 w g A c b a e v l) (x : Int) : RS w0 (w.setCell ⟨g, 2, none⟩ (.int .i64 x)) g A c b a x v l :=
  ⟨S.rd.set2 x, S.C, S.hc, S.hg, S.B.setCell (p := ⟨g, 2, none⟩) S.hg _, S.rd.keepR S.R 2 _⟩
def rdEven (k : Nat) (b : List Int) : Nat → List Int → Int → Int → Option (List Int × Int × Int)
  | 0, l, a, e => some (l, a, e)
  | m + 1, l, a, e => if e = 0 then (rdNext k b a e).bind fun t => rdEven k b m (rdAdd l t.1 t.2.2).1 t.2.1 (rdAdd l t.1 t.2.2).2 else rdEven k b m l a e
def rdOdd (step : Int) : Nat → Int → List Int → Int → List Int × Int
  | 0, _, l, e => (l, e)
  | m + 1, gap, l, e => if e = 0 then rdOdd step m step (rdAdd l gap e).1 (rdAdd l gap e).2 else (l, e)
def rdBody (k : Nat) (b : List Int) (n m : Int) (l : List Int) (a e : Int) : Option (List Int × Int × Int) :=
  if e ≠ 0 then some (l, a, e) else if m = 0 then rdEven k b n.toNat l a e else
  (rdNext k b a e).bind fun t => (rdNext k b t.2.1 t.2.2).bind fun u => some ((rdOdd u.1 n.toNat t.1 l u.2.2).1, u.2.1, (rdOdd u.1 n.toNat t.1 l u.2.2).2)
def rdRun (k : Nat) (b : List Int) (l : List Int) (a e : Int) : Option (List Int × Int × Int) :=
  (rdNext k b a e).bind fun t => rdBody k b (wrap64 (t.1.tdiv 2)) (t.1.tmod 2) l t.2.1 (if 65536 < wrap64 (t.1.tdiv 2) ∧ t.2.2 = 0 then 9 else t.2.2)
set_option maxRecDepth 100000 in
set_option maxHeartbeats 1000000 in
theorem rdRun_calls {w0 w : World} {g : Nat} {A : Option Addr} {c : Nat} {b : List Int} {a e : Int} {v : Value} {l : List Int} (S : RS w0 w g A c b a e v l) {k : Nat} {l' : List Int} {a' e' : Int} (h : rdRun k b l a e = some (l', a', e')) :
    Calls Tryz.prog 166 #[.pointer (some ⟨g, 0, none⟩), v] w fun x w' => ∃ v', x = .returned v' ∧ RS w0 w' g A c b a' e' v' l' := by
  obtain ⟨⟨head, a1, e1⟩, h1, h2⟩ := Option.bind_eq_some_iff.1 h
  have H1 := Aside0.mk h1
  have H2 := Aside0.mk h2
  have HS := Aside0.mk S
  clear h h1 h2 S
  go_enter Tryz.func166, Tryz.ntmps166
  go_upto_region 3 with ((go_at_call 165; refine (HS.out.next H1.out).mono ?_; rintro x w1 ⟨rfl, hS1⟩; have HS1 := Aside0.mk hS1; clear hS1))
  have H2b := H2.out
  clear H2
  generalize wrap64 (head.tdiv 2) = n at H2b ⊢
  have H2 := Aside0.mk H2b
  clear H2b
  have hr2 := HS1.out.rd.c2
  have hf2 := HS1.out.rd.fr 2
  obtain ⟨tt, htt⟩ : ∃ tt : Bool, decide (65536 < n ∧ e1 = 0) = tt := ⟨_, rfl⟩
  have HTT := Aside0.mk htt
  clear htt
  go_cut [22] (fun v22 wc => v22 = .bool tt ∧ wc = w1)
  case first =>
    by_cases hA : 65536 < n
    · have c1 : decide (65536 < n) = true := decide_eq_true hA
      have ht : tt = (e1 == 0) := by rw [← HTT.out]; by_cases h : e1 = 0 <;> simp [hA, h]
      go_wp2
      go_meet
      case rel => exact ⟨by rw [ht], rfl⟩
    · have c1 : decide (65536 < n) = false := decide_eq_false hA
      have ht : tt = false := by rw [← HTT.out]; simp [hA]
      go_wp2
      go_meet
      case rel => exact ⟨by rw [ht], rfl⟩
  case rest =>
    obtain ⟨rfl, rfl⟩ := hcut
    obtain ⟨e2, he2⟩ : ∃ e2, (if 65536 < n ∧ e1 = 0 then 9 else e1) = e2 := ⟨_, rfl⟩
    have HE2 := Aside0.mk he2
    clear he2
    go_upto_if 22 with (fail)
    go_cut [] (fun w2 => Aside0 (RS w0 w2 g A c b a1 e2 v l))
    case first =>
      cases tt
      · have he : e2 = e1 := by rw [← HE2.out, if_neg (of_decide_eq_false HTT.out)]
        go_wp2
        go_meet
        case rel => exact ⟨he ▸ HS1.out⟩
      · have he : e2 = 9 := by rw [← HE2.out, if_pos (of_decide_eq_true HTT.out)]
        go_wp2
        go_meet
        case rel => exact ⟨he ▸ HS1.out.set2 9⟩
    case rest =>
      have HS2 := hcut
      clear hcut HS1 hr2 hf2
      have hr3 := HS2.out.rd.c2
      have H3 : Aside0 (rdBody k b n (head.tmod 2) l a1 e2 = some (l', a', e')) := ⟨by rw [← HE2.out]; exact H2.out⟩
      clear H2
      by_cases hz : e2 = 0
      · subst hz
        have hn6 : n ≤ 65536 := by
          have h := HE2.out
          split at h
          · cases h
          · omega
        clear HE2 HTT tt
        by_cases hm : head.tmod 2 = 0
        · have H4 : Aside0 (rdEven k b n.toNat l a1 0 = some (l', a', e')) := ⟨by have h := H3.out; unfold rdBody at h; rwa [if_neg (by simp), if_pos hm] at h⟩
          have HN6 := Aside0.mk hn6
          clear H3 hn6
          go_wp2
          go_loopg [1, 36] n.toNat (fun gk v1 v36 W => ∃ (i : Nat) (l1 : List Int) (a2 e3 : Int), v36 = .int .i64 i ∧ Aside0 (i + gk = n.toNat) ∧ Aside0 (rdEven k b gk l1 a2 e3 = some (l', a', e')) ∧ Aside0 (RS w0 W g A c b a2 e3 v1 l1))
          case atStart => exact ⟨0, l, a1, 0, by first | rfl | simp, ⟨by omega⟩, H4, HS2⟩
          case round =>
            clear H4 hr3 HS2 hm H1
            obtain ⟨i, l1, a2, e3, rfl, HI, H5, HS3⟩ := hrel
            have hr5 := HS3.out.rd.c2
            cases gk with
            | zero =>
              have hi : decide ((i : Int) < n) = false := decide_eq_false (by have := HI.out; omega)
              go_wp2
              go_ret
              have h := H5.out
              simp only [rdEven, Option.some.injEq, Prod.mk.injEq] at h
              obtain ⟨rfl, rfl, rfl⟩ := h
              exact ⟨_, rfl, HS3.out⟩
            | succ k1 =>
              have hi : decide ((i : Int) < n) = true := decide_eq_true (by have := HI.out; omega)
              have hw : wrap64 ((i : Int) + 1) = (i : Int) + 1 := by have := HI.out; have := HN6.out; unfold wrap64; omega
              by_cases he : e3 = 0
              · subst he
                have h := H5.out
                rw [rdEven, if_pos rfl] at h
                obtain ⟨⟨gap, a4, e4⟩, h6, h7⟩ := Option.bind_eq_some_iff.1 h
                have H6 := Aside0.mk h6
                have H7 := Aside0.mk h7
                clear h h6 h7 H5
                go_wp2_with (first | (go_at_call 165; refine (HS3.out.next H6.out).mono ?_; rintro x w1 ⟨rfl, hS1⟩; have HS4 := Aside0.mk hS1; clear hS1) | (go_at_call 176; refine (HS4.out.add gap).mono ?_; rintro x w1 ⟨v1, rfl, hS1⟩; have HS5 := Aside0.mk hS1; clear hS1))
                go_roundg k1
                case measure => omega
                case rel => exact ⟨i + 1, _, _, _, by first | rfl | (simp; done) | (simp; exact hw), ⟨by have := HI.out; omega⟩, H7, HS5⟩
              · have hb : (e3 == 0) = false := beq_eq_false_iff_ne.2 he
                have h := H5.out
                rw [rdEven, if_neg he] at h
                have H7 := Aside0.mk h
                clear h H5 he
                go_wp2
                go_roundg k1
                case measure => omega
                case rel => exact ⟨i + 1, _, _, _, by first | rfl | (simp; done) | (simp; exact hw), ⟨by have := HI.out; omega⟩, H7, HS3⟩
        · have h := H3.out
          unfold rdBody at h
          rw [if_neg (by simp), if_neg hm] at h
          obtain ⟨⟨t1, a2, e3⟩, h4, h⟩ := Option.bind_eq_some_iff.1 h
          obtain ⟨⟨sp, a4, e5⟩, h5, h⟩ := Option.bind_eq_some_iff.1 h
          simp only [Option.some.injEq, Prod.mk.injEq] at h
          obtain ⟨hl, rfl, he⟩ := h
          have H4 := Aside0.mk h4
          have H5 := Aside0.mk h5
          have H6 : Aside0 (rdOdd sp n.toNat t1 l e5 = (l', e')) := ⟨Prod.ext hl he⟩
          have HN6 := Aside0.mk hn6
          have hmb : (head.tmod 2 == 0) = false := beq_eq_false_iff_ne.2 hm
          clear H3 hn6 h4 h5 hl he hm
          go_wp2_with (first | (go_at_call 165; refine (HS2.out.next H4.out).mono ?_; clear H4 HS2; rintro x w1 ⟨rfl, hS1⟩; have HS4 := Aside0.mk hS1; clear hS1) | (go_at_call 165; refine (HS4.out.next H5.out).mono ?_; clear H5 HS4; rintro x w1 ⟨rfl, hS1⟩; have HS5 := Aside0.mk hS1; clear hS1))
          go_loopg [1, 55] n.toNat (fun gk v1 v55 W => ∃ (i : Nat) (l1 : List Int) (e6 : Int), v55 = .int .i64 i ∧ Aside0 (i + gk = n.toNat) ∧ Aside0 (rdOdd sp gk (if i = 0 then t1 else sp) l1 e6 = (l', e')) ∧ Aside0 (RS w0 W g A c b a4 e6 v1 l1))
          case atStart => exact ⟨0, l, e5, by first | rfl | simp, ⟨by omega⟩, H6, HS5⟩
          case round =>
            clear H6 hr3 HS5 hmb H1
            obtain ⟨i, l1, e6, rfl, HI, H5, HS3⟩ := hrel
            have hr5 := HS3.out.rd.c2
            cases gk with
            | zero =>
              have hi : decide ((i : Int) < n) = false := decide_eq_false (by have := HI.out; omega)
              go_wp2
              go_ret
              have h := H5.out
              simp only [rdOdd, Prod.mk.injEq] at h
              obtain ⟨rfl, rfl⟩ := h
              exact ⟨_, rfl, HS3.out⟩
            | succ k1 =>
              have hi : decide ((i : Int) < n) = true := decide_eq_true (by have := HI.out; omega)
              have hw : wrap64 ((i : Int) + 1) = (i : Int) + 1 := by have := HI.out; have := HN6.out; unfold wrap64; omega
              by_cases he : e6 = 0
              · subst he
                have h := H5.out
                rw [rdOdd, if_pos rfl] at h
                by_cases hi0 : i = 0
                · rw [if_pos hi0] at h
                  have H7 := Aside0.mk h
                  have hb : ((i : Int) == 0) = true := beq_iff_eq.2 (by omega)
                  clear h H5 hi0
                  go_wp2_with (go_at_call 176; refine (HS3.out.add t1).mono ?_; rintro x w1 ⟨v1, rfl, hS1⟩; have HS5 := Aside0.mk hS1; clear hS1)
                  go_roundg k1
                  case measure => omega
                  case rel => exact ⟨i + 1, _, _, by first | rfl | (simp; done) | (simp; exact hw), ⟨by have := HI.out; omega⟩, ⟨by rw [if_neg (by omega)]; exact H7.out⟩, HS5⟩
                · rw [if_neg hi0] at h
                  have H7 := Aside0.mk h
                  have hb : ((i : Int) == 0) = false := beq_eq_false_iff_ne.2 (by omega)
                  clear h H5 hi0
                  go_wp2_with (go_at_call 176; refine (HS3.out.add sp).mono ?_; rintro x w1 ⟨v1, rfl, hS1⟩; have HS5 := Aside0.mk hS1; clear hS1)
                  go_roundg k1
                  case measure => omega
                  case rel => exact ⟨i + 1, _, _, by first | rfl | (simp; done) | (simp; exact hw), ⟨by have := HI.out; omega⟩, ⟨by rw [if_neg (by omega)]; exact H7.out⟩, HS5⟩
              · have hb : (e6 != 0) = true := bne_iff_ne.2 he
                have h := H5.out
                rw [rdOdd, if_neg he] at h
                simp only [Prod.mk.injEq] at h
                obtain ⟨rfl, rfl⟩ := h
                clear H5 he
                go_wp2
                go_ret
                exact ⟨_, rfl, HS3.out⟩
      · have hb : (e2 != 0) = true := bne_iff_ne.2 hz
        have h := H3.out
        unfold rdBody at h
        rw [if_pos hz] at h
        simp only [Option.some.injEq, Prod.mk.injEq] at h
        obtain ⟨rfl, rfl, rfl⟩ := h
        clear H3 HE2 hz
        go_wp2
        go_ret
        exact ⟨_, rfl, HS2.out⟩
end Go.Proofs.YtgcjjapcniocaaaGreatDoor.G
namespace Go.Proofs.YtgcjjapcniocaaaGreatDoor.G
open Go.RowKit Go.Proofs.YtgcjjapcniocaaaGreatDoorW.PrintWords Go.Proofs.YtgcjjapcniocaaaGreatDoorW.PrintLast Go.Proofs.YtgcjjapcniocaaaGreatDoorW.PrintMore
attribute [local go_sem] max2_int min2_int max_two min_two max_three min_three max_four min_four
set_option linter.unusedVariables false
set_option linter.unusedSimpArgs false
set_option pp.deepTerms true
set_option pp.maxSteps 100000
/-! #### what a call leaves as it was: all but S -/
structure Mo (S : Nat → Prop) (W W' : World) : Prop where
  b : Below 0 W W'
  k : Kept W W' S
section
variable {S S' : Nat → Prop} {W W1 W2 : World}
theorem Mo.refl (S : Nat → Prop) (W : World) : Mo S W W := ⟨Below.refl _ _, Kept.refl _ _⟩
theorem Mo.trans (h : Mo S W W1) (h' : Mo S W1 W2) : Mo S W W2 := ⟨h.b.trans h'.b, h.k.then_ h'.k (fun _ hk => .inl hk)⟩
theorem Mo.mono (h : Mo S W W1) (hs : ∀ k, S k → S' k) : Mo S' W W1 := ⟨h.b, h.k.mono hs⟩
theorem Mo.of_below (h : Below W.heap.size W W1) : Mo S W W1 := ⟨⟨h.os, h.tape, h.output, h.size, fun _ h => by omega⟩, Kept.of_below h S⟩
theorem Mo.then_below (h : Mo S W W1) (h' : Below W1.heap.size W1 W2) : Mo S W W2 := h.trans (Mo.of_below h')
theorem Mo.set (h : Mo S W W1) (g j : Nat) (u : Value) (hg : S g ∨ W.heap.size ≤ g) : Mo S W (W1.setCell ⟨g, j, none⟩ u) := ⟨h.b.setCell (p := ⟨g, j, none⟩) (Nat.zero_le _) u, h.k.setCell (p := ⟨g, j, none⟩) hg u⟩
theorem Mo.drewN (h : Mo S W W1) (m : Nat) : Mo S W (W1.drewN m) := ⟨pw_below_drewN h.b m, h.k.drewN m⟩
theorem Mo.alloc (h : Mo S W W1) (o : Obj) : Mo S W (W1.alloc o) := ⟨h.b.alloc (Nat.zero_le _) o, h.k.alloc o⟩
theorem Mo.size (h : Mo S W W1) : W.heap.size ≤ W1.heap.size := h.k.1
theorem Mo.blk (h : Mo S W W1) {g : Nat} {o : Obj} (hb : W.heap[g]? = some o) (hn : ¬ S g) : W1.heap[g]? = some o := blk_kept hb h.k hn
theorem Mo.below (h : Mo S W W1) {B : Nat} (hB : B ≤ W.heap.size) (hs : ∀ k, k < B → ¬ S k) : Below B W W1 := ⟨h.b.os, h.b.tape, h.b.output, h.b.size, fun k hk => h.k.2 k (by omega) (hs k hk)⟩
end
end Go.Proofs.YtgcjjapcniocaaaGreatDoor.G
namespace Go.Proofs.YtgcjjapcniocaaaGreatDoor.G
open Go.RowKit Go.Proofs.YtgcjjapcniocaaaGreatDoorW.PrintWords Go.Proofs.YtgcjjapcniocaaaGreatDoorW.PrintLast Go.Proofs.YtgcjjapcniocaaaGreatDoorW.PrintMore
attribute [local go_sem] max2_int min2_int max_two min_two max_three min_three max_four min_four
set_option linter.unusedVariables false
set_option linter.unusedSimpArgs false
set_option pp.deepTerms true
set_option pp.maxSteps 100000
/-! #### runs.Put: the closure that writes a number -/
set_option maxHeartbeats 1000000 in
theorem put1_calls (k : Nat) (g : Nat) (n : Int) (v : Value) (bs bs' : List Int) (base : Nat) (w : World) (hx : w.heap[g]? = some (.cells #[v] 23 (0, 0))) (ho : Kd.R (Kd.int .u8) 5 w base (fun _ => True) v bs) (hb : base ≤ w.heap.size) (h : vint_Put.f k bs (IntKind.u64.wrap n) = some bs') :
    Calls Tryz.prog 108 #[.int .i64 n, .pointer (some ⟨g, 0, none⟩)] w fun e w' => e = .returned (.tuple #[]) ∧ ∃ v', w'.heap[g]? = some (.cells #[v'] 23 (0, 0)) ∧ Kd.R (Kd.int .u8) 5 w' base (fun _ => True) v' bs' ∧ Mo (· = g) w w' := by
  obtain ⟨A', c', rfl, hlc, hC⟩ := Kd.R_reads ho
  have h0 : w.cell? ⟨g, 0, none⟩ = some (.slice A' bs.length c') := (blk_cell hx 0).trans rfl
  have HX := Aside0.mk hx
  have HO := Aside0.mk ho
  have HB := Aside0.mk hb
  have HH := Aside0.mk h
  have HC := Aside0.mk hC
  have HL := Aside0.mk hlc
  clear hx ho hb h hC hlc
  go_enter Tryz.func108, Tryz.ntmps108
  go_wp2_with (go_at_call 109; refine (vint_Put.calls k A' c' bs _ bs' _ HC.out HL.out HH.out).mono ?_; rintro e w1 ⟨v1, rfl, ho1, hb1⟩; have HO1 := Aside0.mk ho1; have HB1 := Aside0.mk hb1; have hc1 := (blk_cell (blk_below HX.out hb1) 0).trans (show (#[Value.slice A' bs.length c'])[0]? = _ from rfl); have hf1 := blk_frozen (blk_below HX.out hb1) 0; obtain ⟨A1, c1, rfl, hl1, hC1⟩ := Kd.R_reads ho1; clear ho1 hb1 hC1 hl1)
  go_end0
  have hx1 := blk_below HX.out HB1.out
  refine ⟨rfl, _, by simpa using blk_set hx1 0 _, ?_, (Mo.of_below HB1.out).set g 0 _ (.inl rfl)⟩
  refine Kd.R_mono (Kd.R_far (Kd.R_types (Kd.R_lower HO1.out HB.out) hx1 ?_) (p := ⟨g, 0, none⟩) (fun k hk => hk.2) _) (fun _ _ => trivial)
  intro q hq
  cases hq with
  | head => decide
  | tail _ h => cases h
end Go.Proofs.YtgcjjapcniocaaaGreatDoor.G
namespace Go.Proofs.YtgcjjapcniocaaaGreatDoor.G
open Go.RowKit Go.Proofs.YtgcjjapcniocaaaGreatDoorW.PrintWords Go.Proofs.YtgcjjapcniocaaaGreatDoorW.PrintLast Go.Proofs.YtgcjjapcniocaaaGreatDoorW.PrintMore
attribute [local go_sem] max2_int min2_int max_two min_two max_three min_three max_four min_four
set_option linter.unusedVariables false
set_option linter.unusedSimpArgs false
set_option pp.deepTerms true
set_option pp.maxSteps 100000
/-! #### runs.even -/
def evenRun (d : Int) : Int → List Int → Nat
  | _, [] => 0
  | p, x :: l => if wrap64 (x - p) = d then evenRun d x l + 1 else 0
def evenS : List Int → Nat
  | x :: y :: z :: r => if wrap64 (z - y) = wrap64 (y - x) then 3 + evenRun (wrap64 (y - x)) z r else 0
  | _ => 0
theorem cell0 {w : World} {ad : Addr} {v : Value} (h : w.cell? (ad.add 0) = some v) : w.cell? ad = some v := by rwa [Addr.add_zero'] at h
set_option maxRecDepth 100000 in
set_option maxHeartbeats 1000000 in
theorem even_calls (A : Option Addr) (c : Nat) (l : List Int) (w : World) (hr : Kd.C (Kd.int .i64) w A l.length l) :
    Calls Tryz.prog 135 #[.slice A l.length c] w fun e w' => e = .returned (.int .i64 (evenS l)) ∧ Drawn0 w w' := by
  have hlen := hr.2.1
  by_cases h3 : l.length < 3
  · have he : evenS l = 0 := by
      rcases l with _ | ⟨x, _ | ⟨y, _ | ⟨z, r⟩⟩⟩ <;> first | rfl | (simp at h3; omega)
    rw [he]
    have c1 : decide ((l.length : Int) < 3) = true := decide_eq_true (by omega)
    have c1' : decide (l.length < 3) = true := decide_eq_true h3
    clear h3 he
    go_enter Tryz.func135, Tryz.ntmps135
    go_wp2
    go_quiet (fail)
    go_wp2
    go_ret
    exact ⟨rfl, by repeat (first | exact Drawn0.refl _ | apply Drawn0.step)⟩
  · obtain ⟨x, y, z, r, rfl⟩ : ∃ x y z r, l = x :: y :: z :: r := by
      rcases l with _ | ⟨x, _ | ⟨y, _ | ⟨z, r⟩⟩⟩ <;> first | exact ⟨_, _, _, _, rfl⟩ | (simp at h3)
    obtain ⟨ad, rfl, h0⟩ := Kd.at_int hr 0 (by omega) (by omega)
    obtain ⟨ad1, e1, h1⟩ := Kd.at_int hr 1 (by omega) (by omega)
    obtain ⟨ad2, e2, h2⟩ := Kd.at_int hr 2 (by omega) (by omega)
    cases e1
    cases e2
    have HR := Aside0.mk hr
    replace h0 : w.cell? ad = some (.int .i64 x) := cell0 h0
    replace h1 : w.cell? ⟨ad.block, ad.off + 1, none⟩ = some (.int .i64 y) := h1
    replace h2 : w.cell? ⟨ad.block, ad.off + 2, none⟩ = some (.int .i64 z) := h2
    obtain ⟨n, hn⟩ : ∃ n, (x :: y :: z :: r).length = n := ⟨_, rfl⟩
    have c1 : decide ((n : Int) < 3) = false := decide_eq_false (by omega)
    have L0 : 0 < n := by omega
    have L1 : 1 < n := by omega
    have L2 : 2 < n := by omega
    have HN := Aside0.mk hn
    rw [hn] at hlen ⊢
    clear hr h3 hn
    by_cases he : wrap64 (z - y) = wrap64 (y - x)
    · have hev : evenS (x :: y :: z :: r) = 3 + evenRun (wrap64 (y - x)) z r := by rw [evenS, if_pos he]
      rw [hev]
      have c2 : (wrap64 (z - y) != wrap64 (y - x)) = false := bne_eq_false_iff_eq.2 he
      obtain ⟨T, hT⟩ : ∃ T, 3 + evenRun (wrap64 (y - x)) z r = T := ⟨_, rfl⟩
      have HT := Aside0.mk hT
      obtain ⟨l, hl⟩ : ∃ l, x :: y :: z :: r = l := ⟨_, rfl⟩
      have HL : Aside0 (3 + evenRun (wrap64 (y - x)) (rd l ((3 : Nat) - 1 : Int)) (l.drop 3) = T) := ⟨by rw [← hl]; exact hT⟩
      rw [hT]
      rw [hl] at HN HR
      have hC := HR.out
      rw [HN.out] at hC
      have HR' := Aside0.mk hC
      have HL3 := Aside0.mk L2
      clear hev he hT HT hl HR hC
      go_enter Tryz.func135, Tryz.ntmps135
      go_wp2
      go_quiet (fail)
      go_wp2
      clear c2 h2 L2 c1
      go_loopg [3] (n - 3) (fun gk v3 W => ∃ j : Nat, v3 = .int .i64 j ∧ Aside0 (j + gk = n ∧ 3 ≤ j) ∧ Aside0 (j + evenRun (wrap64 (y - x)) (rd l ((j : Nat) - 1 : Int)) (l.drop j) = T) ∧ Drawn0 w W)
      case atStart => exact ⟨3, by first | rfl | simp, ⟨by have := HL3.out; omega⟩, HL, by repeat (first | exact Drawn0.refl _ | apply Drawn0.step)⟩
      case round =>
        clear HL
        obtain ⟨j, rfl, HJ, HE, ⟨nd, rfl⟩⟩ := hrel
        cases gk with
        | zero =>
          have hj : decide ((j : Int) < (n : Int)) = false := decide_eq_false (by have := HJ.out; omega)
          have hj' : decide (j < n) = false := decide_eq_false (by have := HJ.out; omega)
          go_wp2
          go_quiet (fail)
          go_wp2
          go_ret
          obtain rfl : j = n := by have := HJ.out; omega
          have h := HE.out
          rw [List.drop_eq_nil_of_le (by rw [HN.out]; omega), evenRun] at h
          exact ⟨by rw [← h]; rfl, by repeat (first | exact Drawn0.refl _ | apply Drawn0.step)⟩
        | succ k1 =>
          have hj : decide ((j : Int) < (n : Int)) = true := decide_eq_true (by have := HJ.out; omega)
          have hj' : decide (j < n) = true := decide_eq_true (by have := HJ.out; omega)
          have hjl : j < n := by have := HJ.out; omega
          have hj1 : j - 1 < n := by have := HJ.out; omega
          have p1 : (0 : Int) ≤ (j : Int) - 1 := by have := HJ.out; omega
          have q1 : (j : Int) - 1 < (n : Int) := by have := HJ.out; omega
          have hw : wrap64 ((j : Int) - 1) = (j : Int) - 1 := by unfold wrap64; omega
          have hw2 : wrap64 ((j : Int) + 1) = (j : Int) + 1 := by unfold wrap64; omega
          obtain ⟨ad3, e3, h3⟩ := Kd.at_int HR'.out (j : Int) (by omega) (by omega)
          obtain ⟨ad4, e4, h4⟩ := Kd.at_int HR'.out ((j : Int) - 1) p1 q1
          cases e3
          cases e4
          replace h3 : w.cell? (ad.add j) = some (.int .i64 (rd l (j : Int))) := h3
          rw [show ((j : Int) - 1).toNat = j - 1 from by omega] at h4
          have hdr : l.drop j = rd l (j : Int) :: l.drop (j + 1) := by
            rw [List.drop_eq_getElem_cons (by rw [HN.out]; exact hjl)]
            simp [rd, HN.out, hjl]
          have hE := HE.out
          rw [hdr, evenRun] at hE
          clear HE hdr
          by_cases hq : wrap64 (rd l (j : Int) - rd l ((j : Int) - 1)) = wrap64 (y - x)
          · rw [if_pos hq] at hE
            have c3 : (wrap64 (rd l (j : Int) - rd l ((j : Int) - 1)) == wrap64 (y - x)) = true := beq_iff_eq.2 hq
            have HE := Aside0.mk hE
            clear hE hq
            go_wp2
            go_quiet (fail)
            go_wp2
            go_roundg k1
            case measure => omega
            case rel => exact ⟨j + 1, by first | rfl | (simp; done) | (simp; exact hw2), ⟨by have := HJ.out; omega⟩, ⟨by have := HE.out; rw [show (((j + 1 : Nat) : Int) - 1) = (j : Int) from by omega]; omega⟩, by repeat (first | exact Drawn0.refl _ | apply Drawn0.step)⟩
          · rw [if_neg hq] at hE
            have c3 : (wrap64 (rd l (j : Int) - rd l ((j : Int) - 1)) == wrap64 (y - x)) = false := beq_eq_false_iff_ne.2 hq
            have HE := Aside0.mk hE
            clear hE hq
            go_wp2
            go_quiet (fail)
            go_wp2
            go_ret
            exact ⟨by rw [← HE.out]; rfl, by repeat (first | exact Drawn0.refl _ | apply Drawn0.step)⟩
    · have hev : evenS (x :: y :: z :: r) = 0 := by rw [evenS, if_neg he]
      rw [hev]
      have c2 : (wrap64 (z - y) != wrap64 (y - x)) = true := bne_iff_ne.2 he
      clear hev he
      go_enter Tryz.func135, Tryz.ntmps135
      go_wp2
      go_quiet (fail)
      go_wp2
      go_ret
      exact ⟨rfl, by repeat (first | exact Drawn0.refl _ | apply Drawn0.step)⟩
end Go.Proofs.YtgcjjapcniocaaaGreatDoor.G
namespace Go.Proofs.YtgcjjapcniocaaaGreatDoor.G
open Go.RowKit Go.Proofs.YtgcjjapcniocaaaGreatDoorW.PrintWords Go.Proofs.YtgcjjapcniocaaaGreatDoorW.PrintLast Go.Proofs.YtgcjjapcniocaaaGreatDoorW.PrintMore
attribute [local go_sem] max2_int min2_int max_two min_two max_three min_three max_four min_four
set_option linter.unusedVariables false
set_option linter.unusedSimpArgs false
set_option pp.deepTerms true
set_option pp.maxSteps 100000
/-! #### slices of slices, by name -/
def dropA (A : Option Addr) (c m : Nat) : Option Addr := if c = m then A else A.map (·.add m)
theorem slice_from {t e : TypeId} {i : TypeInfo} (ht : Tryz.prog.underlying t = some (.slice e)) (hi : Tryz.prog.info? e = some i) (hsz : i.size = 1) (A : Option Addr) (n c m : Nat) (hm : m ≤ n) (W : World) :
    (Instr.slice t (.slice A n c) (some (.int .i64 (m : Int))) none none).run Tryz.prog W = .ok (.slice (dropA A c m) (n - m) (c - m)) W := by
  have hel : Tryz.prog.elem t = e := by simp [Program.elem, ht]
  have hu : Tryz.prog.underlying t = some (.slice (Tryz.prog.elem t)) := by rw [hel]; exact ht
  rw [run_slice_l W t A n c hu .i64 (m : Int) (Int.natCast_nonneg _) (by omega), hel]
  simp [sizeOf, typeInfo, hi, hsz, sliced, Result.andThen, dropA]
theorem slice_to {t e : TypeId} {i : TypeInfo} (ht : Tryz.prog.underlying t = some (.slice e)) (hi : Tryz.prog.info? e = some i) (hsz : i.size = 1) (A : Option Addr) (n c m : Nat) (hm : m ≤ c) (W : World) :
    (Instr.slice t (.slice A n c) none (some (.int .i64 (m : Int))) none).run Tryz.prog W = .ok (.slice A m c) W := by
  have hel : Tryz.prog.elem t = e := by simp [Program.elem, ht]
  have hu : Tryz.prog.underlying t = some (.slice (Tryz.prog.elem t)) := by rw [hel]; exact ht
  have ha : (A.map fun x => x.add 0) = A := by cases A <;> simp [Addr.add]
  rw [run_slice_h W t A n c hu .i64 (m : Int) (Int.natCast_nonneg _) (by omega), hel]
  simp [sizeOf, typeInfo, hi, hsz, sliced, Result.andThen, ha]
theorem C_dropA {k : IntKind} {w : World} {A : Option Addr} {c : Nat} {xs : List Int} (h : Kd.C (Kd.int k) w A xs.length xs) (m : Nat) (hm : m ≤ xs.length) (hc : xs.length ≤ c) : Kd.C (Kd.int k) w (dropA A c m) (xs.drop m).length (xs.drop m) := by
  have h1 := (Kd.reads_of_C (d := (0 : Int)) h).drop_ (c := c) m hm hc
  rw [show xs.length - m = (xs.drop m).length from by simp] at h1
  exact Kd.C_of_reads h1
theorem C_takeA {k : IntKind} {w : World} {A : Option Addr} {xs : List Int} (h : Kd.C (Kd.int k) w A xs.length xs) (m : Nat) (hm : m ≤ xs.length) : Kd.C (Kd.int k) w A (xs.take m).length (xs.take m) := by
  have h1 := (Kd.reads_of_C (d := (0 : Int)) h).take_ m hm
  have e : (xs.take m).length = m := by simp; omega
  rw [e]
  exact Kd.C_of_reads h1
/-! #### where runs.cuts cuts -/
theorem evenRun_le (d : Int) : ∀ (p : Int) (l : List Int), evenRun d p l ≤ l.length
  | _, [] => Nat.le_refl _
  | p, x :: l => by
    rw [evenRun]
    split
    · have := evenRun_le d x l
      simp only [List.length_cons]
      omega
    · exact Nat.zero_le _
theorem evenS_le (l : List Int) : evenS l ≤ l.length := by
  rcases l with _ | ⟨x, _ | ⟨y, _ | ⟨z, r⟩⟩⟩ <;> try exact Nat.zero_le _
  rw [evenS]
  split
  · have := evenRun_le (wrap64 (y - x)) z r
    simp only [List.length_cons]
    omega
  · exact Nat.zero_le _
def scanT : List Int → Nat
  | [] => 0
  | x :: r => if evenS (x :: r) = 0 then scanT r + 1 else 0
theorem scanT_le : ∀ l : List Int, scanT l ≤ l.length
  | [] => Nat.le_refl _
  | x :: r => by
    rw [scanT]
    split
    · have := scanT_le r
      simp only [List.length_cons]
      omega
    · exact Nat.zero_le _
def cutN (l : List Int) : Nat := if evenS l = 0 then (match l with | [] => 0 | _ :: r => scanT r + 1) else evenS l
def cutIs (l : List Int) : Bool := decide (0 < evenS l)
theorem cutN_le (l : List Int) : cutN l ≤ l.length := by
  unfold cutN
  split
  · cases l with
    | nil => exact Nat.le_refl _
    | cons x r =>
      have := scanT_le r
      simp only [List.length_cons]
      omega
  · exact evenS_le l
theorem cutN_pos {l : List Int} (h : l ≠ []) : 0 < cutN l := by
  unfold cutN
  split
  · split
    · exact absurd rfl h
    · omega
  · omega
/-- A stage: the address, the capacity, what is left. -/
abbrev CutSt := Option Addr × Nat × List Int
def cutStep (s : CutSt) : CutSt := (dropA s.1 s.2.1 (cutN s.2.2), s.2.1 - cutN s.2.2, s.2.2.drop (cutN s.2.2))
def cutAt (s : CutSt) : Nat → CutSt
  | 0 => s
  | m + 1 => cutStep (cutAt s m)
def cutEnc (s : CutSt) : Array Value := #[.slice s.1 (cutN s.2.2) s.2.1, .bool (cutIs s.2.2)]
def cutCount : Nat → List Int → Nat
  | 0, _ => 0
  | k + 1, l => if l = [] then 0 else cutCount k (l.drop (cutN l)) + 1
structure CutOk (w : World) (s : CutSt) : Prop where
  C : Kd.C (Kd.int .i64) w s.1 s.2.2.length s.2.2
  hc : s.2.2.length ≤ s.2.1
theorem CutOk.step {w : World} {s : CutSt} (h : CutOk w s) : CutOk w (cutStep s) :=
  ⟨C_dropA h.C _ (cutN_le _) h.hc, by have := h.hc; have := cutN_le s.2.2; simp only [cutStep, List.length_drop]; omega⟩
theorem CutOk.at {w : World} {s : CutSt} (h : CutOk w s) : ∀ m, CutOk w (cutAt s m)
  | 0 => h
  | m + 1 => (h.at m).step
theorem cutAt_list_succ (s : CutSt) : ∀ m, cutAt s (m + 1) = cutAt (cutStep s) m
  | 0 => rfl
  | m + 1 => by rw [cutAt, cutAt_list_succ s m]; rfl
theorem cut_some : ∀ (k : Nat) (s : CutSt) (m : Nat), s.2.2.length ≤ k → m < cutCount k s.2.2 → (cutAt s m).2.2 ≠ []
  | 0, s, m, _, h => by simp [cutCount] at h
  | k + 1, s, m, hk, h => by
    rw [cutCount] at h
    split at h
    · omega
    · rename_i hl
      cases m with
      | zero => exact hl
      | succ m =>
        rw [cutAt_list_succ]
        refine cut_some k (cutStep s) m ?_ (by simp only [cutStep]; omega)
        have := cutN_pos hl
        simp only [cutStep, List.length_drop]
        omega
theorem cut_none : ∀ (k : Nat) (s : CutSt), s.2.2.length ≤ k → (cutAt s (cutCount k s.2.2)).2.2 = []
  | 0, s, h => List.eq_nil_of_length_eq_zero (show s.2.2.length = 0 from by omega)
  | k + 1, s, hk => by
    rw [cutCount]
    split
    · rename_i hl
      exact hl
    · rename_i hl
      rw [cutAt_list_succ]
      refine cut_none k (cutStep s) ?_
      have := cutN_pos hl
      simp only [cutStep, List.length_drop]
      omega
end Go.Proofs.YtgcjjapcniocaaaGreatDoor.G
