import Derived.Lib.Bytealg
import Derived.Lib.BytesEntry
import Derived.WalkLawsBesides
import Derived.RangeFuncNested
import Derived.RangeFuncBound
import Derived.RangeFuncCalls
import Derived.RangeFuncLeaves
import Derived.RangeFuncBox
import Derived.OwnWalkIn
import Derived.TacticsInMore
import Derived.LoopNIn
import Derived.LoopIn
import Derived.Outline
import Derived.Sort.LoopGhostIn
import Derived.Laws.EntriesVeiled
import Derived.StillTailTactics
import Derived.Maps.OwnSet
import Derived.Maps.OwnOps
import Derived.Test.YtgcjjapcniocaaaGreatDoorGx0
import Derived.Test.YtgcjjapcniocaaaGreatDoorGx2
import Derived.Test.YtgcjjapcniocaaaGreatDoorGx12
import Derived.Test.YtgcjjapcniocaaaGreatDoorH2
import Derived.Test.YtgcjjapcniocaaaGreatDoorH3
import Derived.Test.YtgcjjapcniocaaaGreatDoorH8
import Derived.Test.YtgcjjapcniocaaaGreatDoorH1
import Derived.Test.YtgcjjapcniocaaaGreatDoorGx3
import Derived.Test.YtgcjjapcniocaaaGreatDoorGx4
import Derived.Test.YtgcjjapcniocaaaGreatDoorGx7
import Derived.Test.YtgcjjapcniocaaaGreatDoorGx9
import Derived.Test.YtgcjjapcniocaaaGreatDoorH4
import Derived.Test.YtgcjjapcniocaaaGreatDoorH5
import Derived.Test.YtgcjjapcniocaaaGreatDoorH6
import Derived.Test.YtgcjjapcniocaaaGreatDoorH7
namespace Go.Proofs.YtgcjjapcniocaaaGreatDoor.G
open Go.RowKit Go.Proofs.YtgcjjapcniocaaaGreatDoorW.PrintWords Go.Proofs.YtgcjjapcniocaaaGreatDoorW.PrintLast Go.Proofs.YtgcjjapcniocaaaGreatDoorW.PrintMore
attribute [local go_sem] max2_int min2_int max_two min_two max_three min_three max_four min_four
set_option linter.unusedVariables false
set_option linter.unusedSimpArgs false
set_option pp.deepTerms true
set_option pp.maxSteps 100000
/-! #### trace.offsets: a map from int to bool that the call makes -/
theorem zero4 (w : World) : (zeroValue 4).run Tryz.prog w = .ok (.bool false) w := by kernel_rfl
def MapIs (W : World) (B n : Nat) (S : Int → Bool) : Prop := ∃ D : DataW Unit, W.ownsMap Tryz.prog 3 (plainElem Tryz.prog 4) B n D ∧ Maps.IsMap D ∧ ∀ i : Int, (Lit.int .i64 i).wf = true → D.atKey (.int .i64 i) (.lit (.bool false)) = .lit (.bool (S i))
theorem key3 : Maps.Keyed Tryz.prog 3 := Maps.int_keyed Tryz.underlying3
theorem MapIs.made (w : World) : MapIs (w.alloc (.map #[] 0)) w.heap.size 0 (fun _ => false) :=
  ⟨.map [], World.ownsMap_made w _ _ _, Maps.isMap_empty, fun _ _ => rfl⟩
theorem MapIs.kept {W W' : World} {row : Option Nat} {B n : Nat} {S : Int → Bool} (h : MapIs W B n S) (hg : W.grownBy W' row) (hne : some B ≠ row) : MapIs W' B n S := by
  obtain ⟨D, h1, h2, h3⟩ := h
  exact ⟨D, h1.kept hg hne, h2, h3⟩
theorem below_grown {W W' : World} (h : Below W.heap.size W W') (row : Option Nat) : W.grownBy W' row := ⟨h.os, h.tape, h.output, h.size, fun k hk _ => h.block k hk⟩
theorem MapIs.below {W W' : World} {B n : Nat} {S : Int → Bool} (h : MapIs W B n S) (hb : Below W.heap.size W W') : MapIs W' B n S := h.kept (below_grown hb none) (by simp)
theorem MapIs.lt {W : World} {B n : Nat} {S : Int → Bool} (h : MapIs W B n S) : B < W.heap.size := by
  obtain ⟨D, h1, _⟩ := h
  exact h1.lt
set_option maxRecDepth 100000 in
theorem MapIs.look {W : World} {B n : Nat} {S : Int → Bool} (h : MapIs W B n S) (i : Int) (hw : (Lit.int .i64 i).wf = true) : (Instr.lookup 75 (.map (some B)) (.int .i64 i) false).run Tryz.prog W = .ok (.bool (S i)) W := by
  obtain ⟨D, h1, _, h3⟩ := h
  obtain ⟨v, ps, hrun, hv⟩ := h1.lookup key3 Tryz.underlying75 (zero4 W) (plainElem_bool Tryz.underlying4 false) (Maps.keyOf_int_mk Tryz.underlying3 hw)
  rw [h3 i hw] at hv
  have : v = .bool (S i) := by
    unfold plainElem at hv
    rw [Tryz.underlying4] at hv
    cases v <;> simp at hv
    rw [hv.1]
  rw [hrun, this]
def recOffs (l : List S102) (i : Int) : Bool := l.any (fun r => r.f0 == i)
theorem recOffs_snoc (l : List S102) (r : S102) (i : Int) : recOffs (l ++ [r]) i = (recOffs l i || r.f0 == i) := by
  unfold recOffs
  rw [List.any_append]
  simp
def rd102 (l : List S102) (i : Nat) : S102 := l.getD i z102
theorem at102 {w : World} {A : Option Addr} {n : Nat} {xs : List S102} (h : Kd.C k102 w A n xs) (i : Nat) (h1 : i < n) : ∃ ad, A = some ad ∧ w.cell? (ad.add (i * 2)) = some (.int .i64 (rd102 xs i).f0) ∧ w.cell? ⟨(ad.add (i * 2)).block, (ad.add (i * 2)).off + 1, none⟩ = some (.string (rd102 xs i).f1) := by
  obtain ⟨ad, c, e, _, hK, hc0⟩ := Kd.C_get h z102 (i : Int) (by omega) (by omega)
  have hc : ∀ j u, c[j]? = some u → w.cell? (ad.add (i * 2 + j)) = some u := hc0
  obtain rfl := k102_open hK
  exact ⟨ad, e, hc 0 _ rfl, by rw [← add_field _ _ 1 (by omega)]; exact hc 1 _ rfl⟩
end Go.Proofs.YtgcjjapcniocaaaGreatDoor.G
namespace Go.Proofs.YtgcjjapcniocaaaGreatDoor.G
open Go.RowKit Go.Proofs.YtgcjjapcniocaaaGreatDoorW.PrintWords Go.Proofs.YtgcjjapcniocaaaGreatDoorW.PrintLast Go.Proofs.YtgcjjapcniocaaaGreatDoorW.PrintMore
attribute [local go_sem] max2_int min2_int max_two min_two max_three min_three max_four min_four
set_option linter.unusedVariables false
set_option linter.unusedSimpArgs false
set_option pp.deepTerms true
set_option pp.maxSteps 100000
theorem recAt_mem (b : List Int) : ∀ m r, r ∈ recAt b m → ∃ j, j < m ∧ r.f0 = (lineAt b j : Int)
  | 0, r, h => by cases h
  | m + 1, r, h => by
    rw [recAt, List.mem_append] at h
    rcases h with h | h
    · obtain ⟨j, hj, e⟩ := recAt_mem b m r h
      exact ⟨j, by omega, e⟩
    · rw [List.mem_singleton] at h
      subst h
      exact ⟨m, by omega, rfl⟩
theorem recsF_mem (b : List Int) (r : S102) (h : r ∈ recsF b) : 0 ≤ r.f0 ∧ r.f0 < (b.length : Int) := by
  obtain ⟨j, hj, e⟩ := recAt_mem b _ r h
  have := line_some b.length j b (Nat.le_refl _) hj
  omega
theorem rd102_mem {R : List S102} {i : Nat} (h : i < R.length) : rd102 R i ∈ R := by
  unfold rd102
  rw [List.getD_eq_getElem?_getD, List.getElem?_eq_getElem h]
  exact List.getElem_mem _
theorem take102 {R : List S102} {i : Nat} (h : i < R.length) : R.take (i + 1) = R.take i ++ [rd102 R i] := by
  rw [List.take_add_one, List.getElem?_eq_getElem h]
  unfold rd102
  rw [List.getD_eq_getElem?_getD, List.getElem?_eq_getElem h]
  rfl
theorem grown_below {W W' : World} (h : W.grownBy W' none) : Below W.heap.size W W' := ⟨h.os, h.tape, h.output, h.size, fun k hk => h.block k hk (by simp)⟩
theorem MapIs.stored {W : World} {B n : Nat} {S : Int → Bool} {D : DataW Unit} (i : Int) (hw : (Lit.int .i64 i).wf = true) (h2 : Maps.IsMap D) (h3 : ∀ j : Int, (Lit.int .i64 j).wf = true → D.atKey (.int .i64 j) (.lit (.bool false)) = .lit (.bool (S j)))
    (hown : W.ownsMap Tryz.prog 3 (plainElem Tryz.prog 4) B n (D.put (.int .i64 i) (.lit (.bool true)))) : MapIs W B n (fun j => S j || i == j) := by
  refine ⟨_, hown, h2.put _ _, fun j hj => ?_⟩
  by_cases e : j = i
  · subst e
    rw [Maps.atKey_put_same h2 (show WideAt.IsKeyLit (.int .i64 j) from trivial)]
    simp
  · rw [Maps.atKey_put_other (by intro h; injection h with _ h; exact e h), h3 j hj]
    have : (i == j) = false := beq_eq_false_iff_ne.2 (fun h => e h.symm)
    simp [this]
set_option maxRecDepth 100000 in
set_option maxHeartbeats 1000000 in
theorem offsets_calls (A : Option Addr) (c : Nat) (b : List Int) (w : World) (hr : Kd.C (Kd.int .u8) w A b.length b) (hc : b.length ≤ c) (hsz : b.length < 65536) :
    Calls Tryz.prog 31 #[.slice A b.length c] w fun e w' => ∃ B, e = .returned (.tuple #[.map (some B), .nilIface]) ∧ w.heap.size ≤ B ∧ (∃ n, MapIs w' B n (recOffs (recsF b))) ∧ Below w.heap.size w w' := by
  have HR := Aside0.mk hr
  have HC := Aside0.mk hc
  have HSZ := Aside0.mk hsz
  have hwf : ∀ r ∈ recsF b, (Lit.int .i64 r.f0).wf = true := fun r h => by
    have := recsF_mem b r h
    exact WalkArith.wf_i64 (by omega)
  have hrl : (recsF b).length = lineCount b.length b := recAt_len b _
  have hrn : (recsF b).length < 65536 := by rw [hrl]; have := lineCount_le b.length b; omega
  have hmm := @run_makeMap Tryz.prog
  clear hr hc hsz hrl
  obtain ⟨R, hR⟩ : ∃ R, recsF b = R := ⟨_, rfl⟩
  have HX := Aside0.mk hR
  rw [hR] at hrn hwf ⊢
  have HWF := Aside0.mk hwf
  clear hwf
  have HRN := Aside0.mk hrn
  clear hrn hR
  go_enter Tryz.func31, Tryz.ntmps31
  go_wp2_with (go_at_call 57; refine (records_calls A c b _ HR.out HC.out HSZ.out).mono ?_; rintro x w1 ⟨v1, rfl, ho, hb⟩; rw [HX.out] at ho; have HB := Aside0.mk hb; obtain ⟨A1, c1, rfl, hl1, hC1⟩ := Kd.R_reads ho; have HC1 := Aside0.mk hC1; clear ho hb hl1 hC1)
  go_loopg [23] R.length (fun gk v23 W => ∃ (i n : Nat), v23 = .int .i64 i ∧ Aside0 (i + gk = R.length ∧ i = n) ∧ Aside0 (MapIs W w1.heap.size n (recOffs (R.take i))) ∧ Aside0 (w1.grownBy W none))
  case atStart => exact ⟨0, 0, by first | rfl | simp, ⟨by omega, rfl⟩, ⟨MapIs.made w1⟩, ⟨World.grownBy_alloc _ _ _⟩⟩
  case round =>
    obtain ⟨i, n, rfl, HI, HM, HG⟩ := hrel
    obtain ⟨hi, rfl⟩ := HI.out
    have hn := HRN.out
    cases gk with
    | zero =>
      obtain rfl : i = R.length := by omega
      have c1 : decide ((R.length : Int) < (R.length : Int)) = false := decide_eq_false (by omega)
      have c1' : decide (R.length < R.length) = false := decide_eq_false (by omega)
      clear hi hn
      go_wp2
      go_ret2
      refine ⟨w1.heap.size, rfl, HB.out.size, ⟨R.length, ?_⟩, ?_⟩
      · have h := HM.out
        rwa [List.take_of_length_le (Nat.le_refl _)] at h
      · exact HB.out.grown HG.out HB.out.size (by simp)
    | succ k1 =>
      have hlt : i < R.length := by omega
      obtain ⟨ad, rfl, e0, e1⟩ := at102 (Kd.C_below HC1.out (grown_below HG.out)) i hlt
      have hw0 := HWF.out _ (rd102_mem hlt)
      have HT := Aside0.mk (take102 hlt)
      obtain ⟨r, hr⟩ : ∃ r, rd102 R i = r := ⟨_, rfl⟩
      rw [hr] at e0 e1 hw0 HT
      have c1 : decide ((i : Int) < (R.length : Int)) = true := decide_eq_true (by omega)
      have c1' : decide (i < R.length) = true := decide_eq_true (by omega)
      have hw : wrap64 ((i : Int) + 1) = (i : Int) + 1 := wrap64_in _ (by omega)
      obtain ⟨D, hD, hD2, hD3⟩ := HM.out
      have HD := Aside0.mk hD
      have HD2 := Aside0.mk (And.intro hD2 hD3)
      have HW0 := Aside0.mk hw0
      have HN2 := Aside0.mk hn
      have HI2 := Aside0.mk hi
      have hlt' : (i : Int) < (R.length : Int) := by omega
      clear hi hn hD hD2 hD3 hw0 hr
      go_wp2_with (at_mapUpdate; go_loud (refine wpList_mapUpdate_own _ rfl _ _ _ 75 rfl 3 4 key3 Tryz.underlying75 _ w1.heap.size i D rfl (HD.out.alloc _) (by unfold maxLen; have := HN2.out; have := HI2.out; omega) _ _ _ rfl rfl (Maps.keyOf_int_mk Tryz.underlying3 HW0.out) _ [] (plainElem_bool Tryz.underlying4 true) ?_); intro w2 hown2 hg2; have HM2 := Aside0.mk (MapIs.stored _ HW0.out HD2.out.1 HD2.out.2 hown2); have HG2 := Aside0.mk hg2; clear hown2 hg2)
      go_roundg k1
      case measure => omega
      case rel =>
        refine ⟨i + 1, i + 1, by first | rfl | (simp; done) | (simp; exact hw), ⟨by have := HI2.out; omega, rfl⟩, ⟨?_⟩, ⟨?_⟩⟩
        · rw [HT.out]
          obtain ⟨D', h1, h2, h3⟩ := HM2.out
          exact ⟨D', h1, h2, fun j hj => by rw [h3 j hj, recOffs_snoc]⟩
        · exact below_grown ((((grown_below HG.out).alloc HG.out.size _).grown HG2.out (Nat.le_trans HG.out.size (by simp)) (fun k hk => by cases hk; exact Nat.le_refl _))) none
end Go.Proofs.YtgcjjapcniocaaaGreatDoor.G
namespace Go.Proofs.YtgcjjapcniocaaaGreatDoor.G
open Go.RowKit Go.Proofs.YtgcjjapcniocaaaGreatDoorW.PrintWords Go.Proofs.YtgcjjapcniocaaaGreatDoorW.PrintLast Go.Proofs.YtgcjjapcniocaaaGreatDoorW.PrintMore
attribute [local go_sem] max2_int min2_int max_two min_two max_three min_three max_four min_four
set_option linter.unusedVariables false
set_option linter.unusedSimpArgs false
set_option pp.deepTerms true
set_option pp.maxSteps 100000
/-! #### slices.ContainsFunc with trace.Open's closure -/
theorem clos_calls (box B n : Nat) (S : Int → Bool) (i : Int) (w : World) (hx : w.heap[box]? = some (.cells #[.map (some B)] 75 (0, 0))) (hm : MapIs w B n S) (hw : (Lit.int .i64 i).wf = true) :
    Calls Tryz.prog 35 #[.int .i64 i, .pointer (some ⟨box, 0, none⟩)] w fun x w' => x = .returned (.bool (!S i)) ∧ w' = w := by
  have hl := hm.look i hw
  have hc : w.cell? ⟨box, 0, none⟩ = some (.map (some B)) := (blk_cell hx 0).trans rfl
  obtain ⟨q, hq⟩ : ∃ q, S i = q := ⟨_, rfl⟩
  rw [hq] at hl ⊢
  clear hx hm hw hq
  go_enter Tryz.func35, Tryz.ntmps35
  go_wp2
  go_ret
  exact ⟨rfl, rfl⟩
def ixN (S : Int → Bool) : List Int → Int → Int
  | [], _ => -1
  | x :: l, i => if S x = true then ixN S l (i + 1) else i
theorem ixN_any (S : Int → Bool) : ∀ (l : List Int) (i : Int), 0 ≤ i → decide (0 ≤ ixN S l i) = l.any (fun x => !S x)
  | [], i, _ => rfl
  | x :: l, i, h => by
    rw [ixN, List.any_cons]
    cases hx : S x
    · simp [h]
    · simpa using ixN_any S l (i + 1) (by omega)
theorem drop_rd {l : List Int} {i : Nat} (h : i < l.length) : l.drop i = rd l (i : Int) :: l.drop (i + 1) := by
  rw [List.drop_eq_getElem_cons h]
  simp [rd, h]
set_option maxRecDepth 100000 in
set_option maxHeartbeats 1000000 in
theorem ixFunc_calls (box B n : Nat) (S : Int → Bool) (A : Option Addr) (c : Nat) (l : List Int) (w : World) (hr : Kd.C (Kd.int .i64) w A l.length l) (hx : w.heap[box]? = some (.cells #[.map (some B)] 75 (0, 0))) (hm : MapIs w B n S) (hw : ∀ x ∈ l, (Lit.int .i64 x).wf = true) :
    Calls Tryz.prog 62 #[.slice A l.length c, .func (.func 35) #[] #[.pointer (some ⟨box, 0, none⟩)]] w fun x w' => x = .returned (.int .i64 (ixN S l 0)) ∧ w' = w := by
  have HR := Aside0.mk hr
  have HX := Aside0.mk hx
  have HM := Aside0.mk hm
  have HW := Aside0.mk hw
  have HL := Aside0.mk (Kd.C_max hr)
  obtain ⟨T, hT⟩ : ∃ T, ixN S l 0 = T := ⟨_, rfl⟩
  rw [hT]
  have HT := Aside0.mk hT
  clear hr hx hm hw hT
  go_enter Tryz.func62, Tryz.ntmps62
  go_wp2
  go_loopg [8] l.length (fun gk v8 W => ∃ (i : Nat), v8 = .int .i64 i ∧ Aside0 (i + gk = l.length) ∧ Aside0 (ixN S (l.drop i) i = T) ∧ w = W)
  case atStart => exact ⟨0, by first | rfl | simp, ⟨by omega⟩, HT, rfl⟩
  case round =>
    clear HT
    obtain ⟨i, rfl, HI, HT, hW⟩ := hrel
    subst hW
    have hi := HI.out
    have hl := HL.out
    cases gk with
    | zero =>
      obtain rfl : i = l.length := by omega
      have ht := HT.out
      rw [List.drop_eq_nil_of_le (Nat.le_refl _), ixN] at ht
      subst ht
      have c1 : decide ((l.length : Int) < (l.length : Int)) = false := decide_eq_false (by omega)
      have c1' : decide (l.length < l.length) = false := decide_eq_false (by omega)
      clear hi hl
      go_wp2
      go_ret
      exact ⟨rfl, rfl⟩
    | succ k1 =>
      have hlt : i < l.length := by omega
      have hlt' : (i : Int) < (l.length : Int) := by omega
      have ht := HT.out
      rw [drop_rd hlt, ixN] at ht
      obtain ⟨ad, rfl, e0⟩ := Kd.at_int HR.out (i : Int) (by omega) hlt'
      rw [Int.toNat_natCast] at e0
      have hmem : rd l (i : Int) ∈ l := by
        have h := List.getElem_mem hlt
        have e : rd l (i : Int) = l[i] := by simp [rd, hlt]
        rw [e]; exact h
      have HC := Aside0.mk (clos_calls box B n S (rd l (i : Int)) w HX.out HM.out (HW.out _ hmem))
      have d1 : decide ((i : Int) < (l.length : Int)) = true := decide_eq_true hlt'
      have d1' : decide (i < l.length) = true := decide_eq_true hlt
      have hw : wrap64 ((i : Int) + 1) = (i : Int) + 1 := wrap64_in _ (by omega)
      clear hi hl hmem HT
      cases hs : S (rd l (i : Int))
      · rw [hs, if_neg (by simp)] at ht
        subst ht
        rw [hs] at HC
        clear hs
        go_wp2_with (go_at_call 35; refine (HC.out).mono ?_; rintro x w2 ⟨rfl, h9⟩; rw [h9]; clear h9)
        go_ret
        exact ⟨rfl, rfl⟩
      · rw [hs, if_pos rfl] at ht
        have HT := Aside0.mk ht
        rw [hs] at HC
        clear hs ht
        go_wp2_with (go_at_call 35; refine (HC.out).mono ?_; rintro x w2 ⟨rfl, h9⟩; rw [h9]; clear h9)
        go_roundg k1
        case measure => omega
        case rel => exact ⟨i + 1, by first | rfl | (simp; done) | (simp; exact hw), ⟨by have := HI.out; omega⟩, HT, rfl⟩
set_option maxRecDepth 100000 in
theorem contains_calls (box B n : Nat) (S : Int → Bool) (A : Option Addr) (c : Nat) (l : List Int) (w : World) (hr : Kd.C (Kd.int .i64) w A l.length l) (hx : w.heap[box]? = some (.cells #[.map (some B)] 75 (0, 0))) (hm : MapIs w B n S) (hw : ∀ x ∈ l, (Lit.int .i64 x).wf = true) :
    Calls Tryz.prog 34 #[.slice A l.length c, .func (.func 35) #[] #[.pointer (some ⟨box, 0, none⟩)]] w fun x w' => x = .returned (.bool (l.any fun x => !S x)) ∧ w' = w := by
  have HC := Aside0.mk (ixFunc_calls box B n S A c l w hr hx hm hw)
  have ha := ixN_any S l 0 (Int.le_refl _)
  generalize (l.any fun x => !S x) = q at ha ⊢
  generalize ixN S l 0 = T at ha HC
  clear hr hx hm hw
  go_enter Tryz.func34, Tryz.ntmps34
  go_wp2_with (go_at_call 62; refine (HC.out).mono ?_; rintro x w2 ⟨rfl, h9⟩; rw [h9]; clear h9)
  go_ret
  exact ⟨rfl, rfl⟩
end Go.Proofs.YtgcjjapcniocaaaGreatDoor.G
namespace Go.Proofs.YtgcjjapcniocaaaGreatDoor.G
open Go.RowKit Go.Proofs.YtgcjjapcniocaaaGreatDoorW.PrintWords Go.Proofs.YtgcjjapcniocaaaGreatDoorW.PrintLast Go.Proofs.YtgcjjapcniocaaaGreatDoorW.PrintMore
attribute [local go_sem] max2_int min2_int max_two min_two max_three min_three max_four min_four
set_option linter.unusedVariables false
set_option linter.unusedSimpArgs false
set_option pp.deepTerms true
set_option pp.maxSteps 100000
/-! #### trace.Open -/
structure TrIs (W : World) (g : Nat) (l : List S50) (S : Int → Bool) : Prop where
  h : ∃ A c B n, W.heap[g]? = some (.cells #[.slice A l.length c, .map (some B)] 83 (0, 0)) ∧ l.length ≤ c ∧ Kd.C k50 W A l.length l ∧ MapIs W B n S
theorem TrIs.below {W W' : World} {g : Nat} {l : List S50} {S : Int → Bool} (h : TrIs W g l S) (hb : Below W.heap.size W W') : TrIs W' g l S := by
  obtain ⟨A, c, B, n, h1, h2, h3, h4⟩ := h.h
  exact ⟨A, c, B, n, blk_below h1 hb, h2, Kd.C_below h3 hb, h4.below hb⟩
def badRow (S : Int → Bool) (r : S50) : Bool := r.f2.any fun x => !S x
def openLoop (S : Int → Bool) : List S50 → Int → Int × Int
  | [], _ => (0, 0)
  | r :: l, i => if badRow S r = true then (i, 320) else openLoop S l (i + 1)
def sPart : ByteArray := ⟨#[112, 97, 114, 116]⟩
def sJoin : ByteArray := ⟨#[106, 111, 105, 110]⟩
def sKey : ByteArray := ⟨#[107, 101, 121]⟩
def openF (k : Nat) (fs : List (List Int × List Int)) (b : List Int) : Option (List S50 × ByteArray × Int × Int) :=
  (readT k fs).bind fun t => if t.2.2 ≠ 0 then some ([], sPart, t.2.1, t.2.2) else
    (index_Right.f k t.1).bind fun ok => if ok = false then some ([], sJoin, 0, 3) else
      if t.1.all (fun r => r.f2.all fun x => (Lit.int .i64 x).wf) = true ∧ t.1.length < 1048576 then
        let u := openLoop (recOffs (recsF b)) t.1 0
        if u.2 ≠ 0 then some ([], sKey, u.1, u.2) else some (t.1, ⟨#[]⟩, 0, 0)
      else none
theorem drop_rdS {l : List S50} {i : Nat} (h : i < l.length) : l.drop i = rd_T50 l (i : Int) :: l.drop (i + 1) := by
  rw [List.drop_eq_getElem_cons h]
  unfold rd_T50
  rw [Int.toNat_natCast, List.getD_eq_getElem?_getD, List.getElem?_eq_getElem h]
  rfl
theorem rdS_mem {l : List S50} {i : Nat} (h : i < l.length) : rd_T50 l (i : Int) ∈ l := by
  unfold rd_T50
  rw [Int.toNat_natCast, List.getD_eq_getElem?_getD, List.getElem?_eq_getElem h]
  exact List.getElem_mem _
theorem slipV_zero (s : ByteArray) (n : Int) : slipV s n 0 = .nilIface := rfl
theorem slipV_ne (s : ByteArray) (n e : Int) (h : e ≠ 0) : slipV s n e = .iface 38 (.agg #[.string s, .int .i64 n, .iface 35 (.int .i64 e)]) := if_neg h
attribute [local go_sem] slipV_zero in
set_option maxRecDepth 100000 in
set_option maxHeartbeats 1000000 in
theorem open_calls (k : Nat) (A : Option Addr) (c : Nat) (fs : List (List Int × List Int)) (A' : Option Addr) (c' : Nat) (b : List Int) (r : List S50) (st : ByteArray) (no e : Int) (w : World) (hr : Kd.C kF w A fs.length fs) (hc : fs.length ≤ c) (hsz : fs.length < 65536) (hr' : Kd.C (Kd.int .u8) w A' b.length b) (hc' : b.length ≤ c') (hsz' : b.length < 65536) (h : openF k fs b = some (r, st, no, e)) :
    Calls Tryz.prog 8 #[.slice A fs.length c, .slice A' b.length c'] w fun x w' => ∃ p, x = .returned (.tuple #[.pointer p, slipV st no e]) ∧ (e ≠ 0 → p = none) ∧ (e = 0 → ∃ g, p = some ⟨g, 0, none⟩ ∧ w.heap.size ≤ g ∧ TrIs w' g r (recOffs (recsF b))) ∧ Below w.heap.size w w' := by
  obtain ⟨⟨l, no1, e1⟩, h1, h⟩ := Option.bind_eq_some_iff.1 h
  dsimp only at h
  have HR := Aside0.mk hr
  have HC := Aside0.mk hc
  have HSZ := Aside0.mk hsz
  have HR' := Aside0.mk hr'
  have HC' := Aside0.mk hc'
  have HSZ' := Aside0.mk hsz'
  have H1 := Aside0.mk h1
  clear hr hc hsz hr' hc' hsz' h1
  by_cases he : e1 = 0
  · subst he
    rw [if_neg (by simp)] at h
    obtain ⟨ok, hok, h⟩ := Option.bind_eq_some_iff.1 h
    have HOK := Aside0.mk hok
    clear hok
    cases ok
    · rw [if_pos rfl] at h
      simp only [Option.some.injEq, Prod.mk.injEq] at h
      obtain ⟨rfl, rfl, rfl, rfl⟩ := h
      go_enter Tryz.func8, Tryz.ntmps8
      go_wp2_with (first | (go_at_call 30; refine (tread_calls k A c fs l no1 0 _ HR.out HC.out HSZ.out H1.out).mono ?_; rintro x w1 ⟨A1, c1, rfl, hl1, hC1, hb1⟩; have HC1 := Aside0.mk (And.intro hl1 hC1); have HB1 := Aside0.mk hb1; clear hl1 hC1 hb1) | (go_at_call 31; refine (offsets_calls A' c' b _ (Kd.C_below HR'.out HB1.out) HC'.out HSZ'.out).mono ?_; rintro x w2 ⟨B, rfl, hB, ⟨n, hm⟩, hb2⟩; have HM2 := Aside0.mk hm; have HB2 := Aside0.mk hb2; clear hB hm hb2) | (go_at_call 32; refine (index_Right.calls k A1 c1 l _ _ (Kd.C_alloc (Kd.C_below HC1.out.2 HB2.out) _) HC1.out.1 HOK.out).mono ?_; rintro x w3 ⟨rfl, hb3⟩; have HB3 := Aside0.mk hb3; clear hb3) | (go_at_call 33; refine (wrap_calls _ _ _ _).mono ?_; rintro x w4 ⟨rfl, rfl⟩))
      go_ret2
      exact ⟨none, rfl, fun _ => rfl, fun h => absurd h (by decide), below_then (below_then HB1.out HB1.out.size HB2.out) (Nat.le_trans HB1.out.size HB2.out.size) (below_then (below_alloc (Below.refl _ _) _) (by simp) HB3.out)⟩
    · rw [if_neg (by simp)] at h
      split at h
      case isFalse => cases h
      case isTrue hx =>
        obtain ⟨hwf, hlen⟩ := hx
        have HWF := Aside0.mk (List.all_eq_true.1 hwf)
        have HLEN := Aside0.mk hlen
        have H := Aside0.mk h
        clear hwf hlen h
        go_enter Tryz.func8, Tryz.ntmps8
        go_wp2_with (first | (go_at_call 30; refine (tread_calls k A c fs l no1 0 _ HR.out HC.out HSZ.out H1.out).mono ?_; rintro x w1 ⟨A1, c1, rfl, hl1, hC1, hb1⟩; have HC1 := Aside0.mk (And.intro hl1 hC1); have HB1 := Aside0.mk hb1; clear hl1 hC1 hb1) | (go_at_call 31; refine (offsets_calls A' c' b _ (Kd.C_below HR'.out HB1.out) HC'.out HSZ'.out).mono ?_; rintro x w2 ⟨B, rfl, hB, ⟨n, hm⟩, hb2⟩; have HM2 := Aside0.mk hm; have HB2 := Aside0.mk hb2; clear hB hm hb2) | (go_at_call 32; refine (index_Right.calls k A1 c1 l _ _ (Kd.C_alloc (Kd.C_below HC1.out.2 HB2.out) _) HC1.out.1 HOK.out).mono ?_; rintro x w3 ⟨rfl, hb3⟩; have HB3 := Aside0.mk hb3; clear hb3) | (go_at_call 33; refine (wrap_calls _ _ _ _).mono ?_; rintro x w4 ⟨rfl, rfl⟩))
        have HX3 := Aside0.mk (blk_below (blk_new w2 (.cells #[.map (some B)] 75)) HB3.out)
        have HM3 := Aside0.mk ((HM2.out.below (below_alloc (Below.refl _ _) (.cells #[.map (some B)] 75))).below HB3.out)
        have HC3 := Aside0.mk (Kd.C_below (Kd.C_alloc (Kd.C_below HC1.out.2 HB2.out) (.cells #[.map (some B)] 75)) HB3.out)
        have HBB := Aside0.mk (below_then (below_then HB1.out HB1.out.size HB2.out) (Nat.le_trans HB1.out.size HB2.out.size) (below_then (below_alloc (Below.refl _ _) _) (by simp) HB3.out))
        have HSB := Aside0.mk (show w.heap.size ≤ w3.heap.size from Nat.le_trans HB1.out.size (Nat.le_trans HB2.out.size (Nat.le_trans (by simp) HB3.out.size)))
        obtain ⟨S, hS⟩ : ∃ S, recOffs (recsF b) = S := ⟨_, rfl⟩
        have h := H.out
        rw [hS] at HM3 h
        have HSS := Aside0.mk hS
        clear hS
        obtain ⟨⟨u1, u2⟩, hU⟩ : ∃ U, openLoop S l 0 = U := ⟨_, rfl⟩
        rw [hU] at h
        dsimp only at h
        have HU := Aside0.mk hU
        have H2 := Aside0.mk h
        clear h hU H HM2 HB1 HB2 HB3
        go_loopg [33] l.length (fun gk v33 W => ∃ (i : Nat), v33 = .int .i64 i ∧ Aside0 (i + gk = l.length) ∧ Aside0 (openLoop S (l.drop i) i = (u1, u2)) ∧ Aside0 (Below w3.heap.size w3 W))
        case atStart => exact ⟨0, by first | rfl | simp, ⟨by omega⟩, HU, ⟨Below.refl _ _⟩⟩
        case round =>
          clear HU
          obtain ⟨i, rfl, HI, HU, HB⟩ := hrel
          have hi := HI.out
          have hlen := HLEN.out
          cases gk with
          | zero =>
            obtain rfl : i = l.length := by omega
            have hu := HU.out
            rw [List.drop_eq_nil_of_le (Nat.le_refl _), openLoop] at hu
            simp only [Prod.mk.injEq] at hu
            obtain ⟨rfl, rfl⟩ := hu
            have h := H2.out
            rw [if_neg (by simp)] at h
            simp only [Option.some.injEq, Prod.mk.injEq] at h
            obtain ⟨rfl, rfl, rfl, rfl⟩ := h
            have d1 : decide ((l.length : Int) < (l.length : Int)) = false := decide_eq_false (by omega)
            have d1' : decide (l.length < l.length) = false := decide_eq_false (by omega)
            have hbx := (blk_cell (blk_below HX3.out HB.out) 0).trans (show (#[Value.map (some B)])[0]? = _ from rfl)
            clear hi hlen
            go_wp2
            go_ret2
            refine ⟨some ⟨wr.heap.size, 0, none⟩, rfl, ⟨wr.heap.size, rfl, Nat.le_trans HSB.out HB.out.size, ?_⟩, below_then HBB.out HSB.out (below_then HB.out HB.out.size (below_alloc (Below.refl _ _) _))⟩
            rw [HSS.out]
            exact ⟨⟨A1, c1, B, n, blk_new _ _, HC1.out.1, Kd.C_alloc (Kd.C_below HC3.out HB.out) _, (HM3.out.below HB.out).below (below_alloc (Below.refl _ _) _)⟩⟩
          | succ k1 =>
            have hlt : i < l.length := by omega
            have hlt' : (i : Int) < (l.length : Int) := by omega
            obtain ⟨ad, A2, c2, rfl, e0, e1, e2, l2, g2⟩ := at_T50 (Kd.C_below HC3.out HB.out) (i : Int) (by omega) hlt'
            simp only [Int.toNat_natCast] at e0 e1 e2
            have hu := HU.out
            rw [drop_rdS hlt, openLoop] at hu
            have hwx := List.all_eq_true.1 (HWF.out _ (rdS_mem hlt))
            obtain ⟨x, hx⟩ : ∃ x, rd_T50 l (i : Int) = x := ⟨_, rfl⟩
            rw [hx] at e0 e1 e2 l2 g2 hu hwx
            have d1 : decide ((i : Int) < (l.length : Int)) = true := decide_eq_true hlt'
            have d1' : decide (i < l.length) = true := decide_eq_true hlt
            have hw : wrap64 ((i : Int) + 1) = (i : Int) + 1 := wrap64_in _ (by omega)
            have HCC := Aside0.mk (fun (o : Obj) => contains_calls w2.heap.size B n S A2 c2 x.f2 (wr.alloc o) (Kd.C_alloc g2 o) (blk_alloc (blk_below HX3.out HB.out) o) ((HM3.out.below HB.out).below (below_alloc (Below.refl _ _) o)) hwx)
            clear hi hlen hx hwx g2 l2 HU
            obtain ⟨q, hq⟩ : ∃ q, badRow S x = q := ⟨_, rfl⟩
            have HQ := Aside0.mk (show (x.f2.any fun x => !S x) = q from hq)
            rw [hq] at hu
            rw [HQ.out] at HCC
            clear hq
            cases q
            · rw [if_neg (by simp)] at hu
              have HU := Aside0.mk hu
              clear hu
              go_wp2_with (go_at_call 34; go_loud (refine (HCC.out _).mono ?_); rintro x w4 ⟨rfl, h9⟩; rw [h9]; clear h9)
              go_roundg k1
              case measure => omega
              case rel => exact ⟨i + 1, by first | rfl | (simp; done) | (simp; exact hw), ⟨by have := HI.out; omega⟩, HU, ⟨below_then HB.out HB.out.size (below_alloc (Below.refl _ _) _)⟩⟩
            · rw [if_pos rfl] at hu
              simp only [Prod.mk.injEq] at hu
              obtain ⟨rfl, rfl⟩ := hu
              have h := H2.out
              rw [if_pos (by decide)] at h
              simp only [Option.some.injEq, Prod.mk.injEq] at h
              obtain ⟨rfl, rfl, rfl, rfl⟩ := h
              clear H2
              go_wp2_with (first | (go_at_call 34; go_loud (refine (HCC.out _).mono ?_); rintro x w4 ⟨rfl, h9⟩; rw [h9]; clear h9) | (go_at_call 33; refine (wrap_calls _ _ _ _).mono ?_; rintro x w4 ⟨rfl, h9⟩; rw [h9]; clear h9))
              go_ret2
              exact ⟨none, rfl, fun _ => rfl, fun h => absurd h (by decide), below_then HBB.out HSB.out (below_then HB.out HB.out.size (below_alloc (Below.refl _ _) _))⟩
  · rw [if_pos he] at h
    simp only [Option.some.injEq, Prod.mk.injEq] at h
    obtain ⟨rfl, rfl, rfl, rfl⟩ := h
    have hs := fun s n => slipV_ne s n e1 he
    have HE := Aside0.mk he
    clear he
    go_enter Tryz.func8, Tryz.ntmps8
    go_wp2_with (first | (go_at_call 30; refine (tread_calls k A c fs l no1 e1 _ HR.out HC.out HSZ.out H1.out).mono ?_; rintro x w1 ⟨A1, c1, rfl, hl1, hC1, hb1⟩; have HC1 := Aside0.mk (And.intro hl1 hC1); have HB1 := Aside0.mk hb1; rw [hs]; clear hl1 hC1 hb1))
    go_ret2
    exact ⟨none, by rw [show sPart = ⟨#[112, 97, 114, 116]⟩ from rfl, hs]; rfl, fun _ => rfl, fun h => absurd h HE.out, HB1.out⟩
end Go.Proofs.YtgcjjapcniocaaaGreatDoor.G
namespace Go.Proofs.YtgcjjapcniocaaaGreatDoor.G
open Go.RowKit Go.Proofs.YtgcjjapcniocaaaGreatDoorW.PrintWords Go.Proofs.YtgcjjapcniocaaaGreatDoorW.PrintLast Go.Proofs.YtgcjjapcniocaaaGreatDoorW.PrintMore
attribute [local go_sem] max2_int min2_int max_two min_two max_three min_three max_four min_four
set_option linter.unusedVariables false
set_option linter.unusedSimpArgs false
set_option pp.deepTerms true
set_option pp.maxSteps 100000
/-! #### slices.Index, slices.Contains of ints -/
set_option maxRecDepth 100000 in
set_option maxHeartbeats 1000000 in
theorem ixInt_calls (A : Option Addr) (c : Nat) (l : List Int) (a : Int) (w : World) (hr : Kd.C (Kd.int .i64) w A l.length l) :
    Calls Tryz.prog 107 #[.slice A l.length c, .int .i64 a] w fun x w' => x = .returned (.int .i64 (ixN (fun y => !(a == y)) l 0)) ∧ w' = w := by
  have HR := Aside0.mk hr
  have HL := Aside0.mk (Kd.C_max hr)
  obtain ⟨S, hS⟩ : ∃ S : Int → Bool, S = fun y => !(a == y) := ⟨_, rfl⟩
  rw [← hS]
  have HS := Aside0.mk hS
  obtain ⟨T, hT⟩ : ∃ T, ixN S l 0 = T := ⟨_, rfl⟩
  rw [hT]
  have HT := Aside0.mk hT
  clear hr hT hS
  go_enter Tryz.func107, Tryz.ntmps107
  go_wp2
  go_loopg [8] l.length (fun gk v8 W => ∃ (i : Nat), v8 = .int .i64 i ∧ Aside0 (i + gk = l.length) ∧ Aside0 (ixN S (l.drop i) i = T) ∧ w = W)
  case atStart => exact ⟨0, by first | rfl | simp, ⟨by omega⟩, HT, rfl⟩
  case round =>
    clear HT
    obtain ⟨i, rfl, HI, HT, hW⟩ := hrel
    subst hW
    have hi := HI.out
    have hl := HL.out
    cases gk with
    | zero =>
      obtain rfl : i = l.length := by omega
      have ht := HT.out
      rw [List.drop_eq_nil_of_le (Nat.le_refl _), ixN] at ht
      subst ht
      have c1 : decide ((l.length : Int) < (l.length : Int)) = false := decide_eq_false (by omega)
      have c1' : decide (l.length < l.length) = false := decide_eq_false (by omega)
      clear hi hl
      go_wp2
      go_ret
      exact ⟨rfl, rfl⟩
    | succ k1 =>
      have hlt : i < l.length := by omega
      have hlt' : (i : Int) < (l.length : Int) := by omega
      have ht := HT.out
      rw [drop_rd hlt, ixN] at ht
      obtain ⟨ad, rfl, e0⟩ := Kd.at_int HR.out (i : Int) (by omega) hlt'
      rw [Int.toNat_natCast] at e0
      have d1 : decide ((i : Int) < (l.length : Int)) = true := decide_eq_true hlt'
      have d1' : decide (i < l.length) = true := decide_eq_true hlt
      have hw : wrap64 ((i : Int) + 1) = (i : Int) + 1 := wrap64_in _ (by omega)
      obtain ⟨x, hx⟩ : ∃ x, rd l (i : Int) = x := ⟨_, rfl⟩
      rw [hx] at e0 ht
      clear hi hl HT hx
      have hs : S x = !(a == x) := by rw [HS.out]
      cases hq : (a == x)
      · rw [hq] at hs
        rw [hs, if_pos (by decide)] at ht
        have HT := Aside0.mk ht
        clear hs ht
        go_wp2
        go_roundg k1
        case measure => omega
        case rel => exact ⟨i + 1, by first | rfl | (simp; done) | (simp; exact hw), ⟨by have := HI.out; omega⟩, HT, rfl⟩
      · rw [hq] at hs
        rw [hs, if_neg (by decide)] at ht
        subst ht
        clear hs
        go_wp2
        go_ret
        exact ⟨rfl, rfl⟩
set_option maxRecDepth 100000 in
theorem hasInt_calls (A : Option Addr) (c : Nat) (l : List Int) (a : Int) (w : World) (hr : Kd.C (Kd.int .i64) w A l.length l) :
    Calls Tryz.prog 77 #[.slice A l.length c, .int .i64 a] w fun x w' => x = .returned (.bool (l.any fun y => a == y)) ∧ w' = w := by
  have HC := Aside0.mk (ixInt_calls A c l a w hr)
  have ha := ixN_any (fun y => !(a == y)) l 0 (Int.le_refl _)
  have he : (l.any fun x => !(fun y => !(a == y)) x) = l.any fun y => a == y := by simp
  rw [he] at ha
  generalize (l.any fun y => a == y) = q at ha ⊢
  generalize ixN (fun y => !(a == y)) l 0 = T at ha HC
  clear hr he
  go_enter Tryz.func77, Tryz.ntmps77
  go_wp2_with (go_at_call 107; refine (HC.out).mono ?_; rintro x w2 ⟨rfl, h9⟩; rw [h9]; clear h9)
  go_ret
  exact ⟨rfl, rfl⟩
end Go.Proofs.YtgcjjapcniocaaaGreatDoor.G
