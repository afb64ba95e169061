import Derived.Lib.Bytealg
import Derived.Lib.BytesEntry
import Derived.WalkLawsBesides
import Derived.RangeFuncNested
import Derived.RangeFuncBound
import Derived.RangeFuncCalls
import Derived.RangeFuncLeaves
import Derived.RangeFuncBox
import Derived.OwnWalkIn
import Derived.TacticsInMore
import Derived.LoopNIn
import Derived.LoopIn
import Derived.Outline
import Derived.Sort.LoopGhostIn
import Derived.Laws.EntriesVeiled
import Derived.StillTailTactics
import Derived.Maps.OwnSet
import Derived.Maps.OwnOps
import Derived.Test.YtgcjjapcniocaaaGreatDoorGx0
import Derived.Test.YtgcjjapcniocaaaGreatDoorGx2
import Derived.Test.YtgcjjapcniocaaaGreatDoorGx3
import Derived.Test.YtgcjjapcniocaaaGreatDoorGx4
import Derived.Test.YtgcjjapcniocaaaGreatDoorGx7
import Derived.Test.YtgcjjapcniocaaaGreatDoorGx9
import Derived.Test.YtgcjjapcniocaaaGreatDoorGx12
import Derived.Test.YtgcjjapcniocaaaGreatDoorH2
import Derived.Test.YtgcjjapcniocaaaGreatDoorH3
import Derived.Test.YtgcjjapcniocaaaGreatDoorH1
import Derived.Test.YtgcjjapcniocaaaGreatDoorH4
import Derived.Test.YtgcjjapcniocaaaGreatDoorH5
import Derived.Test.YtgcjjapcniocaaaGreatDoorH6
import Derived.Test.YtgcjjapcniocaaaGreatDoorH7
import Derived.Test.YtgcjjapcniocaaaGreatDoorH8
import Derived.Test.YtgcjjapcniocaaaGreatDoorH9
namespace Go.Proofs.YtgcjjapcniocaaaGreatDoor.G
open Go.RowKit Go.Proofs.YtgcjjapcniocaaaGreatDoorW.PrintWords Go.Proofs.YtgcjjapcniocaaaGreatDoorW.PrintLast Go.Proofs.YtgcjjapcniocaaaGreatDoorW.PrintMore
attribute [local go_sem] max2_int min2_int max_two min_two max_three min_three max_four min_four
set_option linter.unusedVariables false
set_option linter.unusedSimpArgs false
set_option pp.deepTerms true
set_option pp.maxSteps 100000
/-! #### deno.Get, deno.Back, deno.Forth -/
def dget (key : ByteArray) : List S50 → S50 × Bool
  | [] => (z50, false)
  | x :: l => if x.f0 = key then (x, true) else dget key l
def dgetF (l : List S50) (key : ByteArray) : Option (S50 × Bool) :=
  if l.length < 1048576 ∧ l.all (fun x => decide (x.f2.length ≤ 17592186044416)) = true then some (dget key l) else none
structure GJ (w W : World) : Prop where
  x : W.heap[w.heap.size]? = some (.cells #[.string ⟨#[]⟩, .string ⟨#[]⟩, .slice none 0 0] 50 (0, 0))
  B : Below w.heap.size w W
theorem GJ.lt {w W : World} (h : GJ w W) : w.heap.size < W.heap.size := blk_lt h.x
theorem R_set1 {W : World} {g base : Nat} {v : Value} {xs : List Int} {cs : Array Value} (ho : Kd.R (Kd.int .i64) 3 W base (fun _ => True) v xs) (hx : W.heap[g]? = some (.cells cs 50 (0, 0))) (j : Nat) (a : Value) :
    Kd.R (Kd.int .i64) 3 (W.setCell ⟨g, j, none⟩ a) base (fun _ => True) v xs :=
  Kd.R_mono (Kd.R_far (p := ⟨g, j, none⟩) (Kd.R_types ho hx (by intro q hq; cases hq with | head => decide | tail _ h => cases h)) (fun k hk => hk.2) a) (fun _ _ => trivial)
set_option maxRecDepth 100000 in
set_option maxHeartbeats 1000000 in
theorem dget_calls (A : Option Addr) (c : Nat) (l : List S50) (key : ByteArray) (x : S50) (ok : Bool) (w : World) (hr : Kd.C k50 w A l.length l) (h : dgetF l key = some (x, ok)) :
    Calls Tryz.prog 45 #[.slice A l.length c, .string key] w fun e w' => ∃ A' c', e = .returned (.tuple #[.agg #[.string x.f0, .string x.f1, .slice A' x.f2.length c'], .bool ok]) ∧ x.f2.length ≤ c' ∧ Kd.C (Kd.int .i64) w' A' x.f2.length x.f2 ∧ Below w.heap.size w w' := by
  unfold dgetF at h
  split at h
  case isFalse => cases h
  case isTrue hc =>
    have HR := Aside0.mk hr
    have HL := Aside0.mk hc.1
    have HA := Aside0.mk (List.all_eq_true.1 hc.2)
    have HT := Aside0.mk (Option.some.inj h)
    have hu50 := Tryz.underlying50
    clear hr hc h
    go_enter Tryz.func45, Tryz.ntmps45
    go_wp2
    go_loopg [10] l.length (fun gk v10 W => ∃ (i : Nat), v10 = .int .i64 i ∧ Aside0 (i + gk = l.length) ∧ Aside0 (dget key (l.drop i) = (x, ok)) ∧ Aside0 (GJ w W))
    case atStart => exact ⟨0, by first | rfl | simp, ⟨by omega⟩, HT, ⟨heap_alloc_new w _, below_alloc (Below.refl _ _) _⟩⟩
    case round =>
      clear HT
      obtain ⟨i, rfl, HI, HT, HJ⟩ := hrel
      have hi := HI.out
      have hl := HL.out
      cases gk with
      | zero =>
        obtain rfl : i = l.length := by omega
        have ht := HT.out
        rw [List.drop_eq_nil_of_le (Nat.le_refl _), dget] at ht
        simp only [Prod.mk.injEq] at ht
        obtain ⟨rfl, rfl⟩ := ht
        have c1 : decide ((l.length : Int) < (l.length : Int)) = false := decide_eq_false (by omega)
        have c1' : decide (l.length < l.length) = false := decide_eq_false (by omega)
        have q0 := (blk_cell HJ.out.x 0).trans (show (#[Value.string ⟨#[]⟩, .string ⟨#[]⟩, .slice none 0 0])[0]? = _ from rfl)
        have q1 := (blk_cell HJ.out.x 1).trans (show (#[Value.string ⟨#[]⟩, .string ⟨#[]⟩, .slice none 0 0])[1]? = _ from rfl)
        have q2 := (blk_cell HJ.out.x 2).trans (show (#[Value.string ⟨#[]⟩, .string ⟨#[]⟩, .slice none 0 0])[2]? = _ from rfl)
        have f0 := blk_frozen HJ.out.x 0
        have f1 := blk_frozen HJ.out.x 1
        have f2 := blk_frozen HJ.out.x 2
        clear hi hl
        go_wp2
        refine bodyPost_ret (results_ct rfl _ _ w.heap.size 50 #[.string ⟨#[]⟩, .string ⟨#[]⟩, .slice none 0 0] (0, 0) _ rfl ?hb hu50 rfl (by kernel_rfl)) rfl ⟨none, 0, rfl, Nat.le_refl _, Kd.C_nil _ _, ?hB⟩
        case hb =>
          refine blk_put (cs := #[.string ⟨#[]⟩, .string ⟨#[]⟩, .slice none 0 0]) ?_ 2 _ rfl
          refine blk_put (cs := #[.string ⟨#[]⟩, .string ⟨#[]⟩, .slice none 0 0]) ?_ 1 _ rfl
          refine blk_put (cs := #[.string ⟨#[]⟩, .string ⟨#[]⟩, .slice none 0 0]) ?_ 0 _ rfl
          exact HJ.out.x
        case hB => exact ((HJ.out.B.setCell (p := ⟨w.heap.size, 0, none⟩) (Nat.le_refl _) _).setCell (p := ⟨w.heap.size, 1, none⟩) (Nat.le_refl _) _).setCell (p := ⟨w.heap.size, 2, none⟩) (Nat.le_refl _) _
      | succ k1 =>
        have hlt : i < l.length := by omega
        have hlt' : (i : Int) < (l.length : Int) := by omega
        obtain ⟨ad, A2, c2, rfl, e0, e1, e2, l2, g2⟩ := at_T50 (Kd.C_below HR.out HJ.out.B) (i : Int) (by omega) hlt'
        simp only [Int.toNat_natCast] at e0 e1 e2
        have ht := HT.out
        rw [drop_rdS hlt, dget] at ht
        have hcl : cloneI.f (rd_T50 l (i : Int)).f2 = some (rd_T50 l (i : Int)).f2 := cloneI.some_ (of_decide_eq_true (HA.out _ (rdS_mem hlt)))
        obtain ⟨y, hy⟩ : ∃ y, rd_T50 l (i : Int) = y := ⟨_, rfl⟩
        rw [hy] at e0 e1 e2 l2 g2 ht hcl
        have d1 : decide ((i : Int) < (l.length : Int)) = true := decide_eq_true hlt'
        have d1' : decide (i < l.length) = true := decide_eq_true hlt
        have hw : wrap64 ((i : Int) + 1) = (i : Int) + 1 := wrap64_in _ (by omega)
        have HCL := Aside0.mk hcl
        have HG := Aside0.mk (And.intro l2 g2)
        clear hi hl HT hy hcl l2 g2
        by_cases hk : y.f0 = key
        · rw [if_pos hk] at ht
          simp only [Prod.mk.injEq] at ht
          obtain ⟨rfl, rfl⟩ := ht
          have c5 : (y.f0.toList == key.toList) = true := by rw [hk]; simp
          clear hk
          go_wp2_with (go_at_call 73; go_loud (refine (cloneI.calls A2 c2 y.f2 y.f2 _ (Kd.C_alloc HG.out.2 _) HG.out.1 HCL.out).mono ?_); rintro x w2 ⟨v2, rfl, ho2, hb2⟩; have HB2 := Aside0.mk hb2; have hx2 := blk_below (blk_new wr (.cells #[.string y.f0, .string y.f1, .slice A2 y.f2.length c2] 50)) hb2; have hg2 := blk_below (blk_alloc HJ.out.x (.cells #[.string y.f0, .string y.f1, .slice A2 y.f2.length c2] 50)) hb2; have q0 := (blk_cell hx2 0).trans (show (#[Value.string y.f0, .string y.f1, .slice A2 y.f2.length c2])[0]? = _ from rfl); have q1 := (blk_cell hx2 1).trans (show (#[Value.string y.f0, .string y.f1, .slice A2 y.f2.length c2])[1]? = _ from rfl); have q2 := (blk_cell hx2 2).trans (show (#[Value.string y.f0, .string y.f1, .slice A2 y.f2.length c2])[2]? = _ from rfl); have q3 := blk_frozen hx2 2; have p0 := (blk_cell hg2 0).trans (show (#[Value.string ⟨#[]⟩, .string ⟨#[]⟩, .slice none 0 0])[0]? = _ from rfl); have p1 := (blk_cell hg2 1).trans (show (#[Value.string ⟨#[]⟩, .string ⟨#[]⟩, .slice none 0 0])[1]? = _ from rfl); have p2 := (blk_cell hg2 2).trans (show (#[Value.string ⟨#[]⟩, .string ⟨#[]⟩, .slice none 0 0])[2]? = _ from rfl); have r0 := blk_frozen hg2 0; have r1 := blk_frozen hg2 1; have r2 := blk_frozen hg2 2; have hne : wr.heap.size ≠ w.heap.size := Nat.ne_of_gt HJ.out.lt; obtain ⟨A3, c3, rfl, hl3, hC3⟩ := Kd.R_reads ho2; have HO2 := Aside0.mk ho2; have HX2 := Aside0.mk hx2; have HG2 := Aside0.mk hg2; have HL3 := Aside0.mk hl3; clear ho2 hb2 hx2 hg2 hC3 hl3)
          have hxs := set_ne (W := w2) (r := wr.heap.size) (j := 2) (v := .slice A3 y.f2.length c3) (g := w.heap.size) hne.symm
          have hBB : Below w.heap.size w w2 := below_then (HJ.out.B.alloc HJ.out.B.size _) (Nat.le_trans HJ.out.B.size (by simp)) HB2.out
          have hR3 := R_set3 (R_set1 HO2.out HX2.out 2 (.slice A3 y.f2.length c3)) (hxs.trans HG2.out) (.string y.f0) (.string y.f1) (.slice A3 y.f2.length c3)
          obtain ⟨A4, c4, e4, hl4, hC4⟩ := Kd.R_reads hR3
          injection e4 with e5 _ e6
          subst e5 e6
          refine bodyPost_ret (results_ct rfl _ _ w.heap.size 50 #[.string y.f0, .string y.f1, .slice A3 y.f2.length c3] (0, 0) _ rfl ?hb hu50 rfl (by kernel_rfl)) rfl ⟨A3, c3, rfl, hl4, hC4, ?hB⟩
          case hb =>
            refine blk_put (cs := #[.string y.f0, .string y.f1, .slice none 0 0]) ?_ 2 _ rfl
            refine blk_put (cs := #[.string y.f0, .string ⟨#[]⟩, .slice none 0 0]) ?_ 1 _ rfl
            refine blk_put (cs := #[.string ⟨#[]⟩, .string ⟨#[]⟩, .slice none 0 0]) ?_ 0 _ rfl
            exact hxs.trans HG2.out
          case hB => exact (((hBB.setCell (p := ⟨wr.heap.size, 2, none⟩) (Nat.le_of_lt HJ.out.lt) _).setCell (p := ⟨w.heap.size, 0, none⟩) (Nat.le_refl _) _).setCell (p := ⟨w.heap.size, 1, none⟩) (Nat.le_refl _) _).setCell (p := ⟨w.heap.size, 2, none⟩) (Nat.le_refl _) _
        · rw [if_neg hk] at ht
          have HT := Aside0.mk ht
          have c5 : (y.f0.toList == key.toList) = false := toList_ne hk
          clear hk ht
          go_wp2
          go_roundg k1
          case measure => omega
          case rel => exact ⟨i + 1, by first | rfl | (simp; done) | (simp; exact hw), ⟨by have := HI.out; omega⟩, HT, ⟨blk_alloc HJ.out.x _, HJ.out.B.alloc HJ.out.B.size _⟩⟩
def dbackF (l : List S50) (key : ByteArray) : Option (List Int) := (dgetF l key).map fun t => t.1.f2
set_option maxRecDepth 100000 in
set_option maxHeartbeats 1000000 in
theorem dback_calls (A : Option Addr) (c : Nat) (l : List S50) (key : ByteArray) (r : List Int) (w : World) (hr : Kd.C k50 w A l.length l) (h : dbackF l key = some r) :
    Calls Tryz.prog 46 #[.slice A l.length c, .string key] w fun e w' => ∃ A' c', e = .returned (.slice A' r.length c') ∧ r.length ≤ c' ∧ Kd.C (Kd.int .i64) w' A' r.length r ∧ Below w.heap.size w w' := by
  obtain ⟨⟨x, ok⟩, h1, h⟩ := Option.map_eq_some_iff.1 h
  dsimp only at h
  subst h
  have HR := Aside0.mk hr
  have H1 := Aside0.mk h1
  clear hr h1
  go_enter Tryz.func46, Tryz.ntmps46
  go_wp2_with (go_at_call 45; refine (dget_calls A c l key x ok _ HR.out H1.out).mono ?_; rintro e w1 ⟨A1, c1, rfl, hl1, hC1, hb1⟩; have HC1 := Aside0.mk (And.intro hl1 hC1); have HB1 := Aside0.mk hb1; clear hl1 hC1 hb1)
  go_ret
  exact ⟨A1, c1, rfl, HC1.out.1, Kd.C_alloc HC1.out.2 _, HB1.out.alloc HB1.out.size _⟩
def dforth (off : Int) : List S50 → List ByteArray
  | [] => []
  | x :: l => if (x.f2.any fun y => off == y) = true then x.f0 :: dforth off l else dforth off l
def dforthF (l : List S50) (off : Int) : Option (List ByteArray) := if l.length < 1048576 then some (dforth off l) else none
set_option maxRecDepth 100000 in
set_option maxHeartbeats 1000000 in
theorem dforth_calls (A : Option Addr) (c : Nat) (l : List S50) (off : Int) (r : List ByteArray) (w : World) (hr : Kd.C k50 w A l.length l) (h : dforthF l off = some r) :
    Calls Tryz.prog 47 #[.slice A l.length c, .int .i64 off] w fun e w' => ∃ v, e = .returned v ∧ Kd.R Kd.string 9 w' w.heap.size (fun _ => True) v r ∧ Below w.heap.size w w' := by
  unfold dforthF at h
  split at h
  case isFalse => cases h
  case isTrue hc =>
    have HR := Aside0.mk hr
    have HL := Aside0.mk hc
    have HT := Aside0.mk (Option.some.inj h)
    clear hr hc h
    go_enter Tryz.func47, Tryz.ntmps47
    go_wp2
    go_loopg [5, 10] l.length (fun gk v5 v10 W => ∃ (i : Nat) (ks : List ByteArray), v10 = .int .i64 i ∧ Aside0 (i + gk = l.length ∧ ks.length ≤ i) ∧ Aside0 (ks ++ dforth off (l.drop i) = r) ∧ Aside0 (Kd.R Kd.string 9 W w.heap.size (fun _ => True) v5 ks) ∧ Aside0 (Below w.heap.size w W))
    case atStart => exact ⟨0, [], by first | rfl | simp, ⟨by omega, Nat.le_refl _⟩, HT, ⟨Kd.R_nil _ _ _ _ _⟩, ⟨Below.refl _ _⟩⟩
    case round =>
      clear HT
      obtain ⟨i, ks, rfl, HI, HT, HO, HB⟩ := hrel
      have hi := HI.out.1
      have hl := HL.out
      cases gk with
      | zero =>
        obtain rfl : i = l.length := by omega
        have ht := HT.out
        rw [List.drop_eq_nil_of_le (Nat.le_refl _), dforth, List.append_nil] at ht
        subst ht
        have c1 : decide ((l.length : Int) < (l.length : Int)) = false := decide_eq_false (by omega)
        have c1' : decide (l.length < l.length) = false := decide_eq_false (by omega)
        clear hi hl
        go_wp2
        go_ret
        exact ⟨_, rfl, HO.out, HB.out⟩
      | succ k1 =>
        have hlt : i < l.length := by omega
        have hlt' : (i : Int) < (l.length : Int) := by omega
        obtain ⟨ad, A2, c2, rfl, e0, e1, e2, l2, g2⟩ := at_T50 (Kd.C_below HR.out HB.out) (i : Int) (by omega) hlt'
        simp only [Int.toNat_natCast] at e0 e1 e2
        have ht := HT.out
        rw [drop_rdS hlt, dforth] at ht
        obtain ⟨y, hy⟩ : ∃ y, rd_T50 l (i : Int) = y := ⟨_, rfl⟩
        rw [hy] at e0 e1 e2 l2 g2 ht
        have d1 : decide ((i : Int) < (l.length : Int)) = true := decide_eq_true hlt'
        have d1' : decide (i < l.length) = true := decide_eq_true hlt
        have hw : wrap64 ((i : Int) + 1) = (i : Int) + 1 := wrap64_in _ (by omega)
        have HCC := Aside0.mk (fun (o : Obj) => hasInt_calls A2 c2 y.f2 off (wr.alloc o) (Kd.C_alloc g2 o))
        clear hi hl HT hy l2 g2
        obtain ⟨q, hq⟩ : ∃ q, (y.f2.any fun z => off == z) = q := ⟨_, rfl⟩
        rw [hq] at ht HCC
        clear hq
        cases q
        · rw [if_neg (by decide)] at ht
          have HT := Aside0.mk ht
          clear ht
          go_wp2_with (go_at_call 77; refine (HCC.out _).mono ?_; rintro x w4 ⟨rfl, h9⟩; rw [h9]; clear h9)
          go_roundg k1
          case measure => omega
          case rel => exact ⟨i + 1, ks, by first | rfl | (simp; done) | (simp; exact hw), ⟨by have := HI.out; omega, by have := HI.out; omega⟩, HT, ⟨Kd.R_alloc HO.out _⟩, ⟨HB.out.alloc HB.out.size _⟩⟩
        · rw [if_pos rfl] at ht
          have HT := Aside0.mk (show (ks ++ [y.f0]) ++ dforth off (l.drop (i + 1)) = r by rw [List.append_assoc]; exact ht)
          clear ht
          go_wp2_with (first | (go_at_call 77; refine (HCC.out _).mono ?_; rintro x w4 ⟨rfl, h9⟩; rw [h9]; clear h9) | (at_builtin; go_loud (refine Kd.R_append Kd.string (w0 := w) w.heap.size rfl (.tmp 18) (.tmp 21) 54 9 (.string ⟨#[]⟩) 16 rfl Tryz.underlying54 info9 rfl (by decide) (by omega) u5 ks y.f0 [.string y.f0] (fun _ => True) (fun _ => False) rfl (by simp [go_sem]) rfl (fun _ h => h.elim) (fun _ _ => trivial) (Kd.R_alloc HO.out _) (HB.out.alloc HB.out.size _) (Nat.le_trans HB.out.size (by simp)) ?_ ?_); (have h9 := HI.out; have h8 := HL.out; omega); intro v3 w3 ho3 hb3 hg3 hat3; have HO3 := Aside0.mk ho3; have HB3 := Aside0.mk hb3; clear ho3 hb3 hg3 hat3))
          go_roundg k1
          case measure => omega
          case rel => exact ⟨i + 1, ks ++ [y.f0], by first | rfl | (simp; done) | (simp; exact hw), ⟨by have := HI.out; omega, by have := HI.out; simp; omega⟩, HT, HO3, HB3⟩
end Go.Proofs.YtgcjjapcniocaaaGreatDoor.G
namespace Go.Proofs.YtgcjjapcniocaaaGreatDoor.G
open Go.RowKit Go.Proofs.YtgcjjapcniocaaaGreatDoorW.PrintWords Go.Proofs.YtgcjjapcniocaaaGreatDoorW.PrintLast Go.Proofs.YtgcjjapcniocaaaGreatDoorW.PrintMore
attribute [local go_sem] max2_int min2_int max_two min_two max_three min_three max_four min_four
set_option linter.unusedVariables false
set_option linter.unusedSimpArgs false
set_option pp.deepTerms true
set_option pp.maxSteps 100000
/-! #### the methods at nil -/
theorem errV_ne (e : Int) (h : e ≠ 0) : errV e = .iface 35 (.int .i64 e) := if_neg h
theorem valueNil_calls (key : ByteArray) (w : World) : Calls Tryz.prog 16 #[.pointer none, .string key] w fun x w' => x = .returned (.tuple #[.string ⟨#[]⟩, .iface 35 (.int .i64 7)]) ∧ w' = w := by
  go_enter Tryz.func16, Tryz.ntmps16
  go_wp2_with (go_at_call 44; refine (faultNew_calls _ _).mono ?_; rintro x w1 ⟨rfl, h9⟩; rw [h9]; clear h9)
  go_ret2
  exact ⟨rfl, rfl⟩
theorem forthNil_calls (off : Int) (w : World) : Calls Tryz.prog 19 #[.pointer none, .int .i64 off] w fun x w' => x = .returned (.tuple #[.slice none 0 0, .iface 35 (.int .i64 7)]) ∧ w' = w := by
  go_enter Tryz.func19, Tryz.ntmps19
  go_wp2_with (go_at_call 44; refine (faultNew_calls _ _).mono ?_; rintro x w1 ⟨rfl, h9⟩; rw [h9]; clear h9)
  go_ret2
  exact ⟨rfl, rfl⟩
theorem indexNil_calls (w : World) : Calls Tryz.prog 25 #[.pointer none] w fun x w' => x = .returned (.tuple #[.slice none 0 0, .iface 35 (.int .i64 7)]) ∧ w' = w := by
  go_enter Tryz.func25, Tryz.ntmps25
  go_wp2_with (go_at_call 44; refine (faultNew_calls _ _).mono ?_; rintro x w1 ⟨rfl, h9⟩; rw [h9]; clear h9)
  go_ret2
  exact ⟨rfl, rfl⟩
theorem backNil_calls (key : ByteArray) (w : World) : Calls Tryz.prog 18 #[.pointer none, .string key] w fun x w' => x = .returned (.slice none 0 0) ∧ w' = w := by
  go_enter Tryz.func18, Tryz.ntmps18
  go_wp2
  go_ret
  exact ⟨rfl, rfl⟩
theorem keysNil_calls (w : World) : Calls Tryz.prog 26 #[.pointer none] w fun x w' => x = .returned (.slice none 0 0) ∧ w' = w := by
  go_enter Tryz.func26, Tryz.ntmps26
  go_wp2
  go_ret
  exact ⟨rfl, rfl⟩
theorem allNil_calls (w : World) : Calls Tryz.prog 14 #[.pointer none] w fun x w' => x = .returned (.slice none 0 0) ∧ w' = w := by
  go_enter Tryz.func14, Tryz.ntmps14
  go_wp2
  go_ret
  exact ⟨rfl, rfl⟩
/-! #### (*Trace).Backward, (*Trace).Forward -/
set_option maxRecDepth 100000 in
theorem back_calls (g : Nat) (l : List S50) (S : Int → Bool) (key : ByteArray) (r : List Int) (w : World) (ht : TrIs w g l S) (h : dbackF l key = some r) :
    Calls Tryz.prog 18 #[.pointer (some ⟨g, 0, none⟩), .string key] w fun e w' => ∃ A' c', e = .returned (.slice A' r.length c') ∧ r.length ≤ c' ∧ Kd.C (Kd.int .i64) w' A' r.length r ∧ Below w.heap.size w w' := by
  obtain ⟨A, c, B, n, h1, h2, h3, h4⟩ := ht.h
  have q0 := (blk_cell h1 0).trans (show (#[Value.slice A l.length c, .map (some B)])[0]? = _ from rfl)
  have H3 := Aside0.mk h3
  have H := Aside0.mk h
  clear ht h1 h2 h3 h4 h
  go_enter Tryz.func18, Tryz.ntmps18
  go_wp2_with (go_at_call 46; refine (dback_calls A c l key r _ H3.out H.out).mono ?_; rintro e w1 ⟨A1, c1, rfl, hl1, hC1, hb1⟩; have HC1 := Aside0.mk (And.intro hl1 hC1); have HB1 := Aside0.mk hb1; clear hl1 hC1 hb1)
  go_ret
  exact ⟨A1, c1, rfl, HC1.out.1, HC1.out.2, HB1.out⟩
def tforthF (l : List S50) (S : Int → Bool) (off : Int) : Option (List ByteArray × Int) :=
  if (Lit.int .i64 off).wf = true then (if S off = true then (dforthF l off).map (·, 0) else some ([], 320)) else none
set_option maxRecDepth 100000 in
theorem forth_calls (g : Nat) (l : List S50) (S : Int → Bool) (off : Int) (r : List ByteArray) (e : Int) (w : World) (ht : TrIs w g l S) (h : tforthF l S off = some (r, e)) :
    Calls Tryz.prog 19 #[.pointer (some ⟨g, 0, none⟩), .int .i64 off] w fun x w' => ∃ A' c', x = .returned (.tuple #[.slice A' r.length c', errV e]) ∧ r.length ≤ c' ∧ Kd.C Kd.string w' A' r.length r ∧ Below w.heap.size w w' := by
  unfold tforthF at h
  split at h
  case isFalse => cases h
  case isTrue hwf =>
    obtain ⟨A, c, B, n, h1, h2, h3, h4⟩ := ht.h
    have q0 := (blk_cell h1 0).trans (show (#[Value.slice A l.length c, .map (some B)])[0]? = _ from rfl)
    have q1 := (blk_cell h1 1).trans (show (#[Value.slice A l.length c, .map (some B)])[1]? = _ from rfl)
    have hlk := h4.look off hwf
    have H3 := Aside0.mk h3
    obtain ⟨q, hq⟩ : ∃ q, S off = q := ⟨_, rfl⟩
    rw [hq] at hlk h
    have H := Aside0.mk h
    clear ht h1 h2 h3 h4 h hq hwf
    cases q
    · have h := H.out
      rw [if_neg (by decide)] at h
      simp only [Option.some.injEq, Prod.mk.injEq] at h
      obtain ⟨rfl, rfl⟩ := h
      go_enter Tryz.func19, Tryz.ntmps19
      go_wp2_with (go_at_call 44; refine (faultNew_calls _ _).mono ?_; rintro x w1 ⟨rfl, h9⟩; rw [h9]; clear h9)
      go_ret2
      exact ⟨none, 0, rfl, Nat.le_refl _, Kd.C_nil _ _, Below.refl _ _⟩
    · have h := H.out
      rw [if_pos rfl] at h
      obtain ⟨r1, h1, h⟩ := Option.map_eq_some_iff.1 h
      simp only [Prod.mk.injEq] at h
      obtain ⟨rfl, rfl⟩ := h
      have H1 := Aside0.mk h1
      clear h1 H
      go_enter Tryz.func19, Tryz.ntmps19
      go_wp2_with (go_at_call 47; refine (dforth_calls A c l off r1 _ H3.out H1.out).mono ?_; rintro x w1 ⟨v1, rfl, ho1, hb1⟩; obtain ⟨A1, c1, rfl, hl1, hC1⟩ := Kd.R_reads ho1; have HC1 := Aside0.mk (And.intro hl1 hC1); have HB1 := Aside0.mk hb1; clear ho1 hl1 hC1 hb1)
      go_ret2
      exact ⟨A1, c1, rfl, HC1.out.1, HC1.out.2, HB1.out⟩
end Go.Proofs.YtgcjjapcniocaaaGreatDoor.G
