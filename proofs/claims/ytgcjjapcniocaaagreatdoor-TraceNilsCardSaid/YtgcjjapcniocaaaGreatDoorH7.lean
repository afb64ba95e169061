import Derived.Lib.Bytealg
import Derived.Lib.BytesEntry
import Derived.WalkLawsBesides
import Derived.RangeFuncNested
import Derived.RangeFuncBound
import Derived.RangeFuncCalls
import Derived.RangeFuncLeaves
import Derived.RangeFuncBox
import Derived.OwnWalkIn
import Derived.TacticsInMore
import Derived.LoopNIn
import Derived.LoopIn
import Derived.Outline
import Derived.Sort.LoopGhostIn
import Derived.Laws.EntriesVeiled
import Derived.StillTailTactics
import Derived.Maps.OwnSet
import Derived.Maps.OwnOps
import Derived.Test.YtgcjjapcniocaaaGreatDoorGx0
import Derived.Test.YtgcjjapcniocaaaGreatDoorGx2
import Derived.Test.YtgcjjapcniocaaaGreatDoorGx3
import Derived.Test.YtgcjjapcniocaaaGreatDoorGx4
import Derived.Test.YtgcjjapcniocaaaGreatDoorGx7
import Derived.Test.YtgcjjapcniocaaaGreatDoorGx9
import Derived.Test.YtgcjjapcniocaaaGreatDoorGx12
import Derived.Test.YtgcjjapcniocaaaGreatDoorH2
import Derived.Test.YtgcjjapcniocaaaGreatDoorH3
import Derived.Test.YtgcjjapcniocaaaGreatDoorH1
import Derived.Test.YtgcjjapcniocaaaGreatDoorH4
import Derived.Test.YtgcjjapcniocaaaGreatDoorH5
import Derived.Test.YtgcjjapcniocaaaGreatDoorH6
namespace Go.Proofs.YtgcjjapcniocaaaGreatDoor.G
open Go.RowKit Go.Proofs.YtgcjjapcniocaaaGreatDoorW.PrintWords Go.Proofs.YtgcjjapcniocaaaGreatDoorW.PrintLast Go.Proofs.YtgcjjapcniocaaaGreatDoorW.PrintMore
attribute [local go_sem] max2_int min2_int max_two min_two max_three min_three max_four min_four
set_option linter.unusedVariables false
set_option linter.unusedSimpArgs false
set_option pp.deepTerms true
set_option pp.maxSteps 100000
/-! #### fault.New, fault.In, trace.wrap -/
def errV (e : Int) : Value := if e = 0 then .nilIface else .iface 35 (.int .i64 e)
def slipV (stage : ByteArray) (no e : Int) : Value := if e = 0 then .nilIface else .iface 38 (.agg #[.string stage, .int .i64 no, .iface 35 (.int .i64 e)])
theorem faultNew_calls (e : Int) (w : World) : Calls Tryz.prog 44 #[.int .i64 e] w fun x w' => x = .returned (errV e) ∧ w' = w := by
  by_cases h : e = 0
  · subst h
    go_enter Tryz.func44, Tryz.ntmps44
    go_wp2
    go_ret
    exact ⟨rfl, rfl⟩
  · have c1 : (e == 0) = false := beq_eq_false_iff_ne.2 h
    unfold errV
    rw [if_neg h]
    clear h
    go_enter Tryz.func44, Tryz.ntmps44
    go_wp2
    go_ret
    exact ⟨rfl, rfl⟩
theorem faultIn_calls (stage : ByteArray) (no e : Int) (w : World) : Calls Tryz.prog 61 #[.string stage, .int .i64 no, errV e] w fun x w' => x = .returned (slipV stage no e) ∧ w' = w := by
  unfold errV slipV
  by_cases h : e = 0
  · rw [if_pos h, if_pos h]
    clear h
    go_enter Tryz.func61, Tryz.ntmps61
    go_wp2
    go_ret
    exact ⟨rfl, rfl⟩
  · rw [if_neg h, if_neg h]
    clear h
    go_enter Tryz.func61, Tryz.ntmps61
    go_wp2
    go_ret
    exact ⟨rfl, rfl⟩
theorem wrap_calls (stage : ByteArray) (no e : Int) (w : World) : Calls Tryz.prog 33 #[.string stage, .int .i64 no, .int .i64 e] w fun x w' => x = .returned (slipV stage no e) ∧ w' = w := by
  go_enter Tryz.func33, Tryz.ntmps33
  go_wp2_with (first | (go_at_call 44; refine (faultNew_calls e _).mono ?_; rintro x w1 ⟨rfl, rfl⟩) | (go_at_call 61; refine (faultIn_calls stage no e _).mono ?_; rintro x w1 ⟨rfl, rfl⟩))
  go_ret
  exact ⟨rfl, rfl⟩
end Go.Proofs.YtgcjjapcniocaaaGreatDoor.G
namespace Go.Proofs.YtgcjjapcniocaaaGreatDoor.G
open Go.RowKit Go.Proofs.YtgcjjapcniocaaaGreatDoorW.PrintWords Go.Proofs.YtgcjjapcniocaaaGreatDoorW.PrintLast Go.Proofs.YtgcjjapcniocaaaGreatDoorW.PrintMore
attribute [local go_sem] max2_int min2_int max_two min_two max_three min_three max_four min_four
set_option linter.unusedVariables false
set_option linter.unusedSimpArgs false
set_option pp.deepTerms true
set_option pp.maxSteps 100000
/-! #### trace.read -/
def kF : Kd (List Int × List Int) := Kd.pair (Kd.slice 5 (Kd.int .u8)) (Kd.slice 5 (Kd.int .u8))
theorem info31 : (Tryz.prog.info? 31).map (fun i => (i.zero, i.size, i.bytes)) = some (some (.slice none 0 0), 1, 24) := by kernel_rfl
def rdF (l : List (List Int × List Int)) (i : Nat) : List Int × List Int := l.getD i ([], [])
theorem atF {w : World} {A : Option Addr} {n : Nat} {xs : List (List Int × List Int)} (h : Kd.C kF w A n xs) (i : Nat) (h1 : i < n) : ∃ ad A0 c0 A1 c1, A = some ad ∧ w.cell? (ad.add (i * 2)) = some (.slice A0 (rdF xs i).1.length c0) ∧ w.cell? ⟨(ad.add (i * 2)).block, (ad.add (i * 2)).off + 1, none⟩ = some (.slice A1 (rdF xs i).2.length c1) ∧ (rdF xs i).1.length ≤ c0 ∧ (rdF xs i).2.length ≤ c1 ∧ Kd.C (Kd.int .u8) w A0 (rdF xs i).1.length (rdF xs i).1 ∧ Kd.C (Kd.int .u8) w A1 (rdF xs i).2.length (rdF xs i).2 := by
  obtain ⟨ad, c, e, _, hK, hc0⟩ := Kd.C_get h (([], []) : List Int × List Int) (i : Int) (by omega) (by omega)
  have hc : ∀ j u, c[j]? = some u → w.cell? (ad.add (i * 2 + j)) = some u := hc0
  obtain ⟨_, _, rfl, ⟨A0, c0, rfl, l0, g0⟩, ⟨A1, c1, rfl, l1, g1⟩⟩ := hK
  exact ⟨ad, A0, c0, A1, c1, e, hc 0 _ rfl, by rw [← add_field _ _ 1 (by omega)]; exact hc 1 _ rfl, l0, l1, g0, g1⟩
def readLoop (k : Nat) : List (List Int × List Int) → Int → List (List S50) → Option (List (List S50) × Int × Int)
  | [], _, ps => some (ps, 0, 0)
  | f :: r, i, ps => (readF k f.1 f.2).bind fun t => if t.2 ≠ 0 then some ([], i, t.2) else readLoop k r (i + 1) (ps ++ [t.1])
def readT (k : Nat) (fs : List (List Int × List Int)) : Option (List S50 × Int × Int) :=
  (readLoop k fs 0 []).bind fun t => if t.2.2 ≠ 0 then some ([], t.2.1, t.2.2) else (joinF t.1).map fun l => (l, 0, 0)
theorem drop_rdF {l : List (List Int × List Int)} {i : Nat} (h : i < l.length) : l.drop i = rdF l i :: l.drop (i + 1) := by
  rw [List.drop_eq_getElem_cons h]
  unfold rdF
  rw [List.getD_eq_getElem?_getD, List.getElem?_eq_getElem h]
  rfl
set_option maxRecDepth 100000 in
set_option maxHeartbeats 1000000 in
theorem tread_calls (k : Nat) (A : Option Addr) (c : Nat) (fs : List (List Int × List Int)) (r : List S50) (no e : Int) (w : World) (hr : Kd.C kF w A fs.length fs) (hc : fs.length ≤ c) (hsz : fs.length < 65536) (h : readT k fs = some (r, no, e)) :
    Calls Tryz.prog 30 #[.slice A fs.length c] w fun x w' => ∃ A' c', x = .returned (.tuple #[.slice A' r.length c', slipV ⟨#[112, 97, 114, 116]⟩ no e]) ∧ r.length ≤ c' ∧ Kd.C k50 w' A' r.length r ∧ Below w.heap.size w w' := by
  obtain ⟨⟨ps, no1, e1⟩, h1, h⟩ := Option.bind_eq_some_iff.1 h
  dsimp only at h
  have HR := Aside0.mk hr
  have HC := Aside0.mk hc
  have HSZ := Aside0.mk hsz
  have H1 := Aside0.mk h1
  have H := Aside0.mk h
  clear hr hc hsz h1 h
  go_enter Tryz.func30, Tryz.ntmps30
  go_wp2
  go_loopg [4, 11] fs.length (fun gk v4 v11 W => ∃ (i : Nat) (ps0 : List (List S50)), v11 = .int .i64 i ∧ Aside0 (i + gk = fs.length ∧ ps0.length = i) ∧ Aside0 (readLoop k (fs.drop i) i ps0 = some (ps, no1, e1)) ∧ Aside0 (Kd.R (Kd.slice 50 k50) 31 W w.heap.size (fun _ => True) v4 ps0) ∧ Aside0 (Below w.heap.size w W))
  case atStart => exact ⟨0, [], by first | rfl | simp, ⟨by omega, rfl⟩, H1, ⟨Kd.R_nil _ _ _ _ _⟩, ⟨Below.refl _ _⟩⟩
  case round =>
    clear H1
    obtain ⟨i, ps0, rfl, HI, H1, HO, HB⟩ := hrel
    have hi := HI.out.1
    have hn := HSZ.out
    cases gk with
    | zero =>
      obtain rfl : i = fs.length := by omega
      have c1 : decide ((fs.length : Int) < (fs.length : Int)) = false := decide_eq_false (by omega)
      have c1' : decide (fs.length < fs.length) = false := decide_eq_false (by omega)
      have h1 := H1.out
      rw [List.drop_eq_nil_of_le (Nat.le_refl _), readLoop] at h1
      simp only [Option.some.injEq, Prod.mk.injEq] at h1
      obtain ⟨rfl, rfl, rfl⟩ := h1
      have h := H.out
      rw [if_neg (by simp)] at h
      obtain ⟨l, hj, h⟩ := Option.map_eq_some_iff.1 h
      simp only [Prod.mk.injEq] at h
      obtain ⟨rfl, rfl, rfl⟩ := h
      have HJ := Aside0.mk hj
      obtain ⟨A1, c1, rfl, hl1, hC1⟩ := Kd.R_reads HO.out
      have HC1 := Aside0.mk (And.intro hl1 hC1)
      clear hi hn hj hl1 hC1 H1 H
      go_wp2_with (go_at_call 43; refine (join_calls A1 c1 ps0 l _ HC1.out.2 HC1.out.1 HJ.out).mono ?_; rintro x w1 ⟨A2, c2, rfl, hl2, hC2, hb2⟩; have HC2 := Aside0.mk (And.intro hl2 hC2); have HB2 := Aside0.mk hb2; clear hl2 hC2 hb2)
      go_ret2
      exact ⟨A2, c2, rfl, HC2.out.1, HC2.out.2, HB.out.trans (HB2.out.mono HB.out.size)⟩
    | succ k1 =>
      have hlt : i < fs.length := by omega
      have hlt' : (i : Int) < (fs.length : Int) := by omega
      obtain ⟨ad, A0, c0, A1, c1, rfl, e0, e1', l0, l1, g0, g1⟩ := atF (Kd.C_below HR.out HB.out) i hlt
      have h1 := H1.out
      rw [drop_rdF hlt, readLoop] at h1
      obtain ⟨⟨l, e2⟩, h2, h1⟩ := Option.bind_eq_some_iff.1 h1
      dsimp only at h1
      obtain ⟨f, hf⟩ : ∃ f, rdF fs i = f := ⟨_, rfl⟩
      rw [hf] at e0 e1' l0 l1 g0 g1 h2
      have d1 : decide ((i : Int) < (fs.length : Int)) = true := decide_eq_true hlt'
      have d1' : decide (i < fs.length) = true := decide_eq_true hlt
      have hw : wrap64 ((i : Int) + 1) = (i : Int) + 1 := wrap64_in _ (by omega)
      have H2 := Aside0.mk h2
      have HG := Aside0.mk (And.intro (And.intro l0 l1) (And.intro g0 g1))
      have HLT := Aside0.mk hlt
      have HN := Aside0.mk hn
      clear hi hn h2 l0 l1 g0 g1 hf H1
      by_cases he : e2 = 0
      · subst he
        rw [if_neg (by simp)] at h1
        have H1 := Aside0.mk h1
        clear h1
        go_wp2_with (first | (go_at_call 56; refine (read_calls k A0 c0 f.1 A1 c1 f.2 l 0 _ (Kd.C_below HG.out.2.1 (by repeat (first | exact Below.refl _ _ | refine below_alloc ?_ _ | refine below_set ?_ (by simp)))) HG.out.1.1 (Kd.C_below HG.out.2.2 (by repeat (first | exact Below.refl _ _ | refine below_alloc ?_ _ | refine below_set ?_ (by simp)))) HG.out.1.2 H2.out).mono ?_; rintro x w2 ⟨v, rfl, ho2, hb2⟩; obtain ⟨A2, c2, rfl, hl2, hC2⟩ := Kd.R_reads ho2; have HO2 := Aside0.mk (Kd.R_mono (Kd.R_bound ho2) (ok' := fun j => wr.heap.size ≤ j) (fun j hj => Nat.le_trans (by simp) hj.2.1)); have HB2 := Aside0.mk (below_then (show Below wr.heap.size wr _ by repeat (first | exact Below.refl _ _ | refine below_alloc ?_ _ | refine below_set ?_ (by simp))) (by simp) hb2); have HL2 := Aside0.mk (Kd.R_lower HO2.out (Nat.le_trans HB.out.size (by simp))); clear ho2 hb2 hl2 hC2 HO2) | (at_builtin; go_loud (refine Kd.R_append (Kd.slice 50 k50) (w0 := w) w.heap.size rfl (.tmp 29) (.tmp 31) 84 31 (.slice none 0 0) 24 rfl Tryz.underlying84 info31 rfl (by decide) (by omega) u4 ps0 l [.slice A2 l.length c2] (fun _ => True) (fun j => wr.heap.size ≤ j) rfl (by simp [go_sem]) ⟨_, rfl, HL2.out⟩ (fun j hj => ⟨trivial, fun e => absurd ((Kd.R_bound HO.out).1 j e.symm).2.2.1 (by omega)⟩) (fun _ _ => trivial) (Kd.R_below HO.out HB2.out) (below_then HB.out HB.out.size HB2.out) (Nat.le_trans HB.out.size HB2.out.size) ?_ ?_); (have h9 := HI.out; have h8 := HN.out; omega); intro v3 w3 ho3 hb3 hg3 hat3; have HO3 := Aside0.mk ho3; have HB3 := Aside0.mk hb3; clear ho3 hb3 hg3 hat3))
        go_roundg k1
        case measure => omega
        case rel => exact ⟨i + 1, ps0 ++ [l], by first | rfl | (simp; done) | (simp; exact hw), ⟨by have := HI.out; simp; omega⟩, H1, HO3, HB3⟩
      · rw [if_pos he] at h1
        simp only [Option.some.injEq, Prod.mk.injEq] at h1
        obtain ⟨rfl, rfl, rfl⟩ := h1
        have h := H.out
        rw [if_pos he] at h
        simp only [Option.some.injEq, Prod.mk.injEq] at h
        obtain ⟨rfl, rfl, rfl⟩ := h
        have d2 : (e2 != 0) = true := bne_iff_ne.2 he
        clear H he
        go_wp2_with (first | (go_at_call 56; refine (read_calls k A0 c0 f.1 A1 c1 f.2 l _ _ (Kd.C_below HG.out.2.1 (by repeat (first | exact Below.refl _ _ | refine below_alloc ?_ _ | refine below_set ?_ (by simp)))) HG.out.1.1 (Kd.C_below HG.out.2.2 (by repeat (first | exact Below.refl _ _ | refine below_alloc ?_ _ | refine below_set ?_ (by simp)))) HG.out.1.2 H2.out).mono ?_; rintro x w2 ⟨v, rfl, ho2, hb2⟩; obtain ⟨A2, c2, rfl, hl2, hC2⟩ := Kd.R_reads ho2; have HB2 := Aside0.mk (below_then (show Below wr.heap.size wr _ by repeat (first | exact Below.refl _ _ | refine below_alloc ?_ _ | refine below_set ?_ (by simp))) (by simp) hb2); clear ho2 hb2 hl2 hC2) | (go_at_call 33; refine (wrap_calls _ _ _ _).mono ?_; rintro x w3 ⟨rfl, rfl⟩))
        go_ret2
        exact ⟨none, 0, rfl, Nat.le_refl _, Kd.C_nil _ _, below_then HB.out HB.out.size HB2.out⟩
end Go.Proofs.YtgcjjapcniocaaaGreatDoor.G
