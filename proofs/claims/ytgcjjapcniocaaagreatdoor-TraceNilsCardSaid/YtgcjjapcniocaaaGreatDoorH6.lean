import Derived.Lib.Bytealg
import Derived.Lib.BytesEntry
import Derived.WalkLawsBesides
import Derived.RangeFuncNested
import Derived.RangeFuncBound
import Derived.RangeFuncCalls
import Derived.RangeFuncLeaves
import Derived.RangeFuncBox
import Derived.OwnWalkIn
import Derived.TacticsInMore
import Derived.LoopNIn
import Derived.LoopIn
import Derived.Outline
import Derived.Sort.LoopGhostIn
import Derived.Laws.EntriesVeiled
import Derived.StillTailTactics
import Derived.Test.YtgcjjapcniocaaaGreatDoorGx0
import Derived.Test.YtgcjjapcniocaaaGreatDoorGx4
import Derived.Test.YtgcjjapcniocaaaGreatDoorGx12
import Derived.Test.YtgcjjapcniocaaaGreatDoorH2
import Derived.Test.YtgcjjapcniocaaaGreatDoorGx2
import Derived.Test.YtgcjjapcniocaaaGreatDoorGx7
import Derived.Test.YtgcjjapcniocaaaGreatDoorH5
namespace Go.Proofs.YtgcjjapcniocaaaGreatDoor.G
open Go.RowKit Go.Proofs.YtgcjjapcniocaaaGreatDoorW.PrintWords Go.Proofs.YtgcjjapcniocaaaGreatDoorW.PrintLast Go.Proofs.YtgcjjapcniocaaaGreatDoorW.PrintMore
attribute [local go_sem] max2_int min2_int max_two min_two max_three min_three max_four min_four
set_option linter.unusedVariables false
set_option linter.unusedSimpArgs false
set_option pp.deepTerms true
set_option pp.maxSteps 100000
/-! #### index.Join$1: the order by key -/
set_option maxRecDepth 100000 in
set_option maxHeartbeats 400000 in
theorem join1_calls (a b : ByteArray) (x1 x2 y1 y2 : Value) (r : Int) (w : World) (hx1 : x1.oneCell' = true) (hx2 : x2.oneCell' = true) (hy1 : y1.oneCell' = true) (hy2 : y2.oneCell' = true) (h : strings_Compare.f a b = some r) :
    Calls Tryz.prog 75 #[.agg #[.string a, x1, x2], .agg #[.string b, y1, y2]] w fun x w' => x = .returned (.int .i64 r) ∧ Below w.heap.size w w' := by
  have H := Aside0.mk h
  clear h
  go_enter Tryz.func75, Tryz.ntmps75
  go_wp2_with (go_at_call 76; refine (strings_Compare.calls a b r _ H.out).mono ?_; rintro x w1 ⟨rfl, nd, rfl⟩)
  go_ret
  exact ⟨rfl, by repeat (first | exact Below.refl _ _ | refine pw_below_drewN ?_ _ | refine below_alloc ?_ _)⟩
end Go.Proofs.YtgcjjapcniocaaaGreatDoor.G
namespace Go.Proofs.YtgcjjapcniocaaaGreatDoor.G
open Go.RowKit Go.Proofs.YtgcjjapcniocaaaGreatDoorW.PrintWords Go.Proofs.YtgcjjapcniocaaaGreatDoorW.PrintLast Go.Proofs.YtgcjjapcniocaaaGreatDoorW.PrintMore
attribute [local go_sem] max2_int min2_int max_two min_two max_three min_three max_four min_four
set_option linter.unusedVariables false
set_option linter.unusedSimpArgs false
set_option pp.deepTerms true
set_option pp.maxSteps 100000
/-! #### slices.insertionSortCmpFunc of records by key -/
def rdS (xs : List S50) (i : Nat) : S50 := xs.getD i z50
def rowCs (x : S50) (A : Option Addr) (c : Nat) : List Value := [.string x.f0, .string x.f1, .slice A x.f2.length c]
structure SG (w : World) (base g n cap : Nat) (rows : List S50) (W : World) : Prop where
  o : Kd.N k50 50 W base (fun _ => True) (.slice (some ⟨g, 0, none⟩) n cap) rows
  m : Mo (· = g) w W
theorem SG.len {w : World} {base g n cap : Nat} {rows : List S50} {W : World} (h : SG w base g n cap rows W) : rows.length = n :=
  (Kd.N_reads' h.o).1.symm
theorem SG.at {w : World} {base g n cap : Nat} {rows : List S50} {W : World} (h : SG w base g n cap rows W) (i : Nat) (hi : i < n) :
    ∃ A c, W.cell? ⟨g, i * 3, none⟩ = some (.string (rdS rows i).f0) ∧ W.cell? ⟨g, i * 3 + 1, none⟩ = some (.string (rdS rows i).f1) ∧ W.cell? ⟨g, i * 3 + 2, none⟩ = some (.slice A (rdS rows i).f2.length c) ∧ (∀ j, W.frozen? ⟨g, i * 3 + j, none⟩ = false) ∧ Kd.FK k50 W (fun k => k ≠ g) (rdS rows i) (rowCs (rdS rows i) A c) := by
  obtain ⟨cs, _, hM, hc, hf⟩ := Kd.N_elem h.o z50 (i : Int) (by omega) (by omega)
  obtain ⟨A, c, rfl, hl, hC⟩ := k50_open (Kd.FK_now hM)
  exact ⟨A, c, hc 0 _ rfl, hc 1 _ rfl, hc 2 _ rfl, hf, Kd.FK_mono hM (fun k hk => hk.2)⟩
theorem SG.call {w : World} {base g n cap : Nat} {rows : List S50} {W W1 : World} (h : SG w base g n cap rows W) (hb : Below W.heap.size W W1) : SG w base g n cap rows W1 :=
  ⟨Kd.N_below h.o hb, h.m.then_below hb⟩
theorem SG.again {w : World} {base g n cap : Nat} {rows : List S50} {W : World} (h : SG w base g n cap rows W) : SG W base g n cap rows W := ⟨h.o, Mo.refl _ _⟩
theorem SG.then {w : World} {base g n cap : Nat} {rows rows' : List S50} {W W' : World} (h : SG w base g n cap rows W) (h' : SG W base g n cap rows' W') : SG w base g n cap rows' W' := ⟨h'.o, h.m.trans h'.m⟩
theorem SG.seg {w : World} {base g n cap : Nat} {rows : List S50} {W : World} (h : SG w base g n cap rows W) (i : Nat) (hi : i < n) (x : S50) (A : Option Addr) (c : Nat) (hF : Kd.FK k50 W (fun k => k ≠ g) x (rowCs x A c)) (j : Nat) (seg : List Value) {A0 : Option Addr} {c0 : Nat} (h0 : W.cell? ⟨g, i * 3 + 2, none⟩ = some (.slice A0 (rdS rows i).f2.length c0)) (hj : j + seg.length ≤ 3) (hq : (rowCs (rdS rows i) A0 c0).take j ++ seg ++ (rowCs (rdS rows i) A0 c0).drop (j + seg.length) = rowCs x A c) :
    SG w base g n cap (rows.set i x) (W.setCells g (i * 3 + j) seg) ∧ W.grownBy (W.setCells g (i * 3 + j) seg) (some g) := by
  obtain ⟨A1, c1, e0, e1, e2, _⟩ := h.at i hi
  rw [h0] at e2
  injection e2 with e2
  injection e2 with ea _ ec
  subst ea ec
  have hs := Kd.N_seg h.o (i : Int) (by omega) (by omega) (c := rowCs (rdS rows i) A0 c0) (seg := seg) (j := j) (x' := x) (okp := fun k => k ≠ g) rfl (by
    intro j u hj
    rcases j with _ | _ | _ | j
    · simp [rowCs] at hj; subst hj; exact e0
    · simp [rowCs] at hj; subst hj; exact e1
    · simp [rowCs] at hj; subst hj; exact h0
    · simp [rowCs] at hj) hj (hq ▸ hF) (fun k hk => ⟨trivial, hk⟩)
  exact ⟨⟨hs.1, h.m.trans ⟨⟨hs.2.os, hs.2.tape, hs.2.output, hs.2.size, fun _ h => by omega⟩, ⟨hs.2.size, fun k hk hn => hs.2.block k hk (by simpa using hn)⟩⟩⟩, hs.2⟩
theorem SG.put {w : World} {base g n cap : Nat} {rows : List S50} {W : World} (h : SG w base g n cap rows W) (i : Nat) (hi : i < n) (x : S50) (A : Option Addr) (c : Nat) (hF : Kd.FK k50 W (fun k => k ≠ g) x (rowCs x A c)) :
    SG w base g n cap (rows.set i x) (W.setCells g (i * 3) (rowCs x A c)) ∧ W.grownBy (W.setCells g (i * 3) (rowCs x A c)) (some g) := by
  obtain ⟨A0, c0, _, _, h0, _⟩ := h.at i hi
  exact h.seg i hi x A c hF 0 (rowCs x A c) h0 (Nat.le_refl 3) rfl
def swapS (xs : List S50) (j : Nat) : List S50 := (xs.set j (rdS xs (j - 1))).set (j - 1) (rdS xs j)
theorem SG.swap {w : World} {base g n cap : Nat} {rows : List S50} {W : World} (h : SG w base g n cap rows W) (j j1 : Nat) (hj : j < n) (hj1 : j - 1 = j1) {A c A1 c1} (hF : Kd.FK k50 W (fun k => k ≠ g) (rdS rows j) (rowCs (rdS rows j) A c)) (hF1 : Kd.FK k50 W (fun k => k ≠ g) (rdS rows j1) (rowCs (rdS rows j1) A1 c1)) :
    SG w base g n cap (swapS rows j) ((W.setCells g (j * 3) (rowCs (rdS rows j1) A1 c1)).setCells g (j1 * 3) (rowCs (rdS rows j) A c)) := by
  subst hj1
  obtain ⟨h1, hg⟩ := h.put j hj _ _ _ hF1
  exact (h1.put (j - 1) (by omega) _ _ _ (Kd.FK_grown hF hg (fun k hk e => hk (by injection e)))).1
def insIn (a : Nat) : Nat → List S50 → Option (List S50)
  | 0, rows => some rows
  | m + 1, rows => (strings_Compare.f (rdS rows (a + (m + 1))).f0 (rdS rows (a + (m + 1) - 1)).f0).bind fun r => if r < 0 then insIn a m (swapS rows (a + (m + 1))) else some rows
def insOut (a : Nat) : Nat → Nat → List S50 → Option (List S50)
  | 0, _, rows => some rows
  | k + 1, i, rows => (insIn a (i - a) rows).bind (insOut a k (i + 1))
end Go.Proofs.YtgcjjapcniocaaaGreatDoor.G
namespace Go.Proofs.YtgcjjapcniocaaaGreatDoor.G
open Go.RowKit Go.Proofs.YtgcjjapcniocaaaGreatDoorW.PrintWords Go.Proofs.YtgcjjapcniocaaaGreatDoorW.PrintLast Go.Proofs.YtgcjjapcniocaaaGreatDoorW.PrintMore
attribute [local go_sem] max2_int min2_int max_two min_two max_three min_three max_four min_four
set_option linter.unusedVariables false
set_option linter.unusedSimpArgs false
set_option pp.deepTerms true
set_option pp.maxSteps 100000
set_option maxRecDepth 100000 in
set_option maxHeartbeats 1000000 in
theorem ins_calls (base g n cap a b : Nat) (rows rows' : List S50) (w : World) (hS : SG w base g n cap rows w) (hn : n ≤ 140737488355328) (hab : a ≤ b) (hbn : b ≤ n) (h : insOut a (b - (a + 1)) (a + 1) rows = some rows') :
    Calls Tryz.prog 129 #[.slice (some ⟨g, 0, none⟩) n cap, .int .i64 a, .int .i64 b, .func (.func 75) #[] #[]] w fun x w' => x = .returned (.tuple #[]) ∧ SG w base g n cap rows' w' := by
  have HS := Aside0.mk hS
  have HN := Aside0.mk (show n ≤ 140737488355328 ∧ a ≤ b ∧ b ≤ n from ⟨hn, hab, hbn⟩)
  have H := Aside0.mk h
  have hw : wrap64 ((a : Int) + 1) = (a : Int) + 1 := wrap64_in _ (by omega)
  clear hS hn hab hbn h
  go_enter Tryz.func129, Tryz.ntmps129
  go_wp2
  simp only [hw]
  go_loopg [8] (b - (a + 1)) (fun gk v8 W => ∃ (i : Nat) (rs : List S50), v8 = .int .i64 i ∧ Aside0 (a + 1 ≤ i ∧ (i + gk = b ∨ (gk = 0 ∧ b ≤ i)) ∧ i ≤ b + 1) ∧ Aside0 (insOut a gk i rs = some rows') ∧ Aside0 (SG w base g n cap rs W))
  case atStart => exact ⟨a + 1, rows, by first | rfl | (simp; done) | (simp; exact hw), ⟨by have := HN.out; omega⟩, H, HS⟩
  case round =>
    clear H HS
    obtain ⟨i, rs, rfl, HI, H, HS⟩ := hrel
    have hi := HI.out
    have hn := HN.out
    cases gk with
    | zero =>
      have c1 : decide ((i : Int) < (b : Int)) = false := decide_eq_false (by omega)
      have c1' : decide (i < b) = false := decide_eq_false (by omega)
      have h := H.out
      rw [insOut] at h
      obtain rfl := Option.some.inj h
      clear hi hn h
      go_wp2
      go_end0
      exact ⟨rfl, HS.out⟩
    | succ k1 =>
      have c1 : decide ((i : Int) < (b : Int)) = true := decide_eq_true (by omega)
      have c1' : decide (i < b) = true := decide_eq_true (by omega)
      have hw1 : wrap64 ((i : Int) + 1) = (i : Int) + 1 := wrap64_in _ (by omega)
      obtain ⟨rs1, h1, h2⟩ := Option.bind_eq_some_iff.1 H.out
      have H1 := Aside0.mk h1
      have H2 := Aside0.mk h2
      have c2 : i - a + a = i := by omega
      clear hi hn h1 h2 H
      go_upto_block 1 with (fail)
      go_cut [] (fun W => Aside0 (SG w base g n cap rs1 W))
      case first =>
        go_wp2
        go_loopg [9] (i - a) (fun gk v9 W => ∃ (m : Nat) (rs : List S50), v9 = .int .i64 ((a + m : Nat) : Int) ∧ Aside0 (m = gk ∧ a + m ≤ i) ∧ Aside0 (insIn a m rs = some rs1) ∧ Aside0 (SG w base g n cap rs W))
        case atStart => exact ⟨i - a, rs, by first | rfl | (have := HI.out; congr 2; omega), ⟨by have := HI.out; omega⟩, H1, HS⟩
        case round =>
          clear H1 HS
          obtain ⟨m, rs, rfl, HM, H, HS⟩ := hrel
          obtain ⟨rfl, hm⟩ := HM.out
          cases m with
          | zero =>
            have h := H.out
            rw [insIn] at h
            obtain rfl := Option.some.inj h
            have c3 : decide ((a : Int) < ((a + 0 : Nat) : Int)) = false := decide_eq_false (by omega)
            clear h hm
            go_wp2
            go_quiet (fail)
            go_wp2
            go_meet
            case rel => exact ⟨HS.out.call (pw_below_drewN (Below.refl _ _) _)⟩
          | succ m =>
            obtain ⟨r, h1, h2⟩ := Option.bind_eq_some_iff.1 H.out
            have hn := HN.out
            have hi := HI.out
            rw [show a + (m + 1) - 1 = a + m by omega] at h1
            obtain ⟨j, hj⟩ : ∃ j, j = a + (m + 1) := ⟨_, rfl⟩
            obtain ⟨j1, hj1⟩ : ∃ j1, j1 = a + m := ⟨_, rfl⟩
            rw [← hj] at h1 h2 ⊢
            rw [← hj1] at h1
            have c3 : decide ((a : Int) < (j : Int)) = true := decide_eq_true (by omega)
            have c3' : decide (a < j) = true := decide_eq_true (by omega)
            have hw3 : wrap64 ((j : Int) - 1) = (j1 : Int) := by rw [wrap64_in _ (by omega)]; omega
            have hw4 : IntKind.i64.wrap ((j : Int) - 1) = (j1 : Int) := (IntWalk.i64_left _).trans hw3
            have p1 : j < n := by omega
            have p2 : j1 < n := by omega
            have p3 : (j : Int) < (n : Int) := by omega
            have p4 : (j1 : Int) < (n : Int) := by omega
            obtain ⟨Aj, cj, a0, a1, a2, af, FA⟩ := HS.out.at j p1
            obtain ⟨Ak, ck, b0, b1, b2, bf, FB⟩ := HS.out.at j1 p2
            have H1 := Aside0.mk h1
            have H2 := Aside0.mk h2
            have HJ := Aside0.mk (And.intro hj hj1)
            have HP := Aside0.mk (And.intro p1 p2)
            clear h1 hn hi hm hj hj1
            go_wp2
            go_still_tail 14, (by kernel_rfl)
            have HS1 := Aside0.mk (HS.out.call (below_drew (Below.refl _ _)))
            clear a0 a1 a2 af b0 b1 b2 bf FA FB HS
            change wpList _ _ _ _ _ wr.drew
            generalize wr.drew = w1 at HS1 ⊢
            by_cases hr : r < 0
            · rw [if_pos hr] at h2
              have H2b := Aside0.mk h2
              have c4 : decide (r < 0) = true := decide_eq_true hr
              clear h2 hr
              go_wp2_with (go_at_call 75; refine (join1_calls _ _ _ _ _ _ r _ rfl rfl rfl rfl H1.out).mono ?_; rintro x w2 ⟨rfl, hb⟩; have HS2 := Aside0.mk (HS1.out.call hb); clear hb HS1)
              obtain ⟨Al, cl, a0, a1, a2, af, FA⟩ := HS2.out.at j p1
              obtain ⟨Am, cm, b0, b1, b2, bf, FB⟩ := HS2.out.at j1 p2
              have af0 : w2.frozen? ⟨g, j * 3, none⟩ = false := af 0
              have af1 : w2.frozen? ⟨g, j * 3 + 1, none⟩ = false := af 1
              have af2 : w2.frozen? ⟨g, j * 3 + 2, none⟩ = false := af 2
              have bf0 : w2.frozen? ⟨g, j1 * 3, none⟩ = false := bf 0
              have bf1 : w2.frozen? ⟨g, j1 * 3 + 1, none⟩ = false := bf 1
              have bf2 : w2.frozen? ⟨g, j1 * 3 + 2, none⟩ = false := bf 2
              have q1 : j * 3 ≠ j1 * 3 := by have := HJ.out; omega
              have HS5 := Aside0.mk (HS2.out.swap j j1 p1 (by have := HJ.out; omega) FA FB)
              clear FA FB
              go_big_region
              go_wp2
              go_roundg m
              case measure => omega
              case rel => exact ⟨m, swapS rs j, by rw [HJ.out.2], ⟨by have := HM.out; omega⟩, H2b, ⟨HS5.out.call (below_drew (Below.refl _ _))⟩⟩
            · rw [if_neg hr] at h2
              obtain rfl := Option.some.inj h2
              have c4 : decide (r < 0) = false := decide_eq_false hr
              clear h2 hr
              go_wp2_with (go_at_call 75; refine (join1_calls _ _ _ _ _ _ r _ rfl rfl rfl rfl H1.out).mono ?_; rintro x w2 ⟨rfl, hb⟩; have HS2 := Aside0.mk (HS1.out.call hb); clear hb HS1)
              go_meet
              case rel => exact HS2
      case rest =>
        have HS := hcut
        clear hcut
        go_wp2
        go_roundg k1
        case measure => omega
        case rel => exact ⟨i + 1, rs1, by first | rfl | (simp; done) | (simp; exact hw1), ⟨by have := HI.out; omega⟩, H2, HS⟩
end Go.Proofs.YtgcjjapcniocaaaGreatDoor.G
namespace Go.Proofs.YtgcjjapcniocaaaGreatDoor.G
open Go.RowKit Go.Proofs.YtgcjjapcniocaaaGreatDoorW.PrintWords Go.Proofs.YtgcjjapcniocaaaGreatDoorW.PrintLast Go.Proofs.YtgcjjapcniocaaaGreatDoorW.PrintMore
attribute [local go_sem] max2_int min2_int max_two min_two max_three min_three max_four min_four
set_option linter.unusedVariables false
set_option linter.unusedSimpArgs false
set_option pp.deepTerms true
set_option pp.maxSteps 100000
/-! #### slices.SortStableFunc of fewer than twenty records -/
def stab (n : Nat) (rows : List S50) : Option (List S50) := if n < 20 then insOut 0 (n - 1) 1 rows else none
set_option maxRecDepth 100000 in
set_option maxHeartbeats 1000000 in
theorem stable_calls (base g n cap : Nat) (rows rows' : List S50) (w : World) (hS : SG w base g n cap rows w) (h : stab n rows = some rows') :
    Calls Tryz.prog 105 #[.slice (some ⟨g, 0, none⟩) n cap, .int .i64 n, .func (.func 75) #[] #[]] w fun x w' => x = .returned (.tuple #[]) ∧ SG w base g n cap rows' w' := by
  unfold stab at h
  split at h
  case isFalse => cases h
  case isTrue hn =>
    have HS := Aside0.mk hS
    have HN := Aside0.mk hn
    have H := Aside0.mk h
    have c1 : decide (20 ≤ (n : Int)) = false := decide_eq_false (by omega)
    have c1' : decide (20 ≤ n) = false := decide_eq_false (by omega)
    have c2 : decide (20 < (n : Int)) = false := decide_eq_false (by omega)
    have c2' : decide (20 < n) = false := decide_eq_false (by omega)
    clear hS h hn
    go_enter Tryz.func105, Tryz.ntmps105
    go_wp2
    go_loopg [7, 8] 0 (fun gk v7 v8 W => v7 = .int .i64 0 ∧ v8 = .int .i64 20 ∧ Aside0 (SG w base g n cap rows W))
    case atStart => exact ⟨rfl, rfl, HS⟩
    case round =>
      clear HS
      obtain ⟨rfl, rfl, HS⟩ := hrel
      go_wp2_with (go_at_call 129; refine (ins_calls base g n cap 0 n rows rows' _ ⟨HS.out.o, Mo.refl _ _⟩ (by have := HN.out; omega) (Nat.zero_le _) (Nat.le_refl _) H.out).mono ?_; rintro x w1 ⟨rfl, hs⟩; have HS1 := Aside0.mk hs; clear hs)
      go_loopg [6] 0 (fun gk v6 W => v6 = .int .i64 20 ∧ Aside0 (SG w base g n cap rows' W))
      case atStart => exact ⟨rfl, ⟨⟨HS1.out.o, HS.out.m.trans HS1.out.m⟩⟩⟩
      case round =>
        clear HS HS1
        obtain ⟨rfl, HS⟩ := hrel
        go_wp2
        go_end0
        exact ⟨rfl, HS.out⟩
set_option maxRecDepth 100000 in
set_option maxHeartbeats 1000000 in
theorem sortStable_calls (base g n cap : Nat) (rows rows' : List S50) (w : World) (hS : SG w base g n cap rows w) (h : stab n rows = some rows') :
    Calls Tryz.prog 74 #[.slice (some ⟨g, 0, none⟩) n cap, .func (.func 75) #[] #[]] w fun x w' => x = .returned (.tuple #[]) ∧ SG w base g n cap rows' w' := by
  have HS := Aside0.mk hS
  have H := Aside0.mk h
  clear hS h
  go_enter Tryz.func74, Tryz.ntmps74
  go_wp2_with (go_at_call 105; refine (stable_calls base g n cap rows rows' _ HS.out H.out).mono ?_; rintro x w1 ⟨rfl, hs⟩; have HS1 := Aside0.mk hs; clear hs)
  go_end0
  exact ⟨rfl, HS1.out⟩
end Go.Proofs.YtgcjjapcniocaaaGreatDoor.G
namespace Go.Proofs.YtgcjjapcniocaaaGreatDoor.G
open Go.RowKit Go.Proofs.YtgcjjapcniocaaaGreatDoorW.PrintWords Go.Proofs.YtgcjjapcniocaaaGreatDoorW.PrintLast Go.Proofs.YtgcjjapcniocaaaGreatDoorW.PrintMore
attribute [local go_sem] max2_int min2_int max_two min_two max_three min_three max_four min_four
set_option linter.unusedVariables false
set_option linter.unusedSimpArgs false
set_option pp.deepTerms true
set_option pp.maxSteps 100000
/-! #### index.Join -/
def joinF (ls : List (List S50)) : Option (List S50) :=
  if ls.flatten.length * 56 ≤ 140737488355328 ∧ ls.flatten.all (fun x => decide (x.f2.length ≤ 17592186044416)) = true ∧ 0 < ls.flatten.length then stab ls.flatten.length ls.flatten else none
theorem set_rdS (xs : List S50) (i : Nat) (h : i < xs.length) : xs.set i (rdS xs i) = xs := by
  unfold rdS
  rw [List.getD_eq_getElem?_getD, List.getElem?_eq_getElem h]
  simp
theorem FK50_mk {W : World} {ok : Nat → Prop} {x : S50} {A : Option Addr} {c : Nat} (hl : x.f2.length ≤ c) (h : Kd.F (Kd.int .i64) W ok A x.f2.length x.f2) : Kd.FK k50 W ok x (rowCs x A c) :=
  Foot.imp h (fun W' hC => k50_mk W' x hl hC)
set_option maxRecDepth 100000 in
set_option maxHeartbeats 1000000 in
theorem join_calls (A : Option Addr) (c : Nat) (ls : List (List S50)) (r : List S50) (w : World) (hr : Kd.C (Kd.slice 50 k50) w A ls.length ls) (hc : ls.length ≤ c) (h : joinF ls = some r) :
    Calls Tryz.prog 43 #[.slice A ls.length c] w fun x w' => ∃ A' c', x = .returned (.slice A' r.length c') ∧ r.length ≤ c' ∧ Kd.C k50 w' A' r.length r ∧ Below w.heap.size w w' := by
  unfold joinF at h
  split at h
  case isFalse => cases h
  case isTrue hn =>
    obtain ⟨hn1, hn2, hn3⟩ := hn
    have hcc := concat_calls A c ls
    have HC := Aside0.mk (fun w' (hb : Below w.heap.size w w') => hcc w' (Kd.C_below hr hb) hc hn1)
    clear hr hc hcc
    generalize ls.flatten = xs at HC hn1 hn2 hn3 h
    have HN1 := Aside0.mk hn1
    have HN2 := Aside0.mk (List.all_eq_true.1 hn2)
    have HN3 := Aside0.mk hn3
    have H := Aside0.mk h
    clear hn1 hn2 hn3 h
    go_enter Tryz.func43, Tryz.ntmps43
    go_wp2_with (go_at_call 72; refine (HC.out _ (Below.refl _ _)).mono ?_; rintro x w1 ⟨v1, rfl, ho, hb⟩; have HB := Aside0.mk hb; obtain ⟨g, cap, rfl, hg1, hg2, _⟩ := Kd.N_form ho HN3.out; have HG := Aside0.mk (And.intro hg1 hg2); have HS := Aside0.mk (SG.mk ho (Mo.refl _ _)); clear ho hb hg1 hg2)
    go_loopg [9] xs.length (fun gk v9 W => ∃ (i : Nat), v9 = .int .i64 i ∧ Aside0 (i + gk = xs.length) ∧ Aside0 (SG w1 w.heap.size g xs.length cap xs W))
    case atStart => exact ⟨0, by first | rfl | simp, ⟨by omega⟩, HS⟩
    case round =>
      clear HS
      obtain ⟨i, rfl, HI, HS⟩ := hrel
      have hi := HI.out
      have hn := HN1.out
      cases gk with
      | zero =>
        have c1 : decide ((i : Int) < (xs.length : Int)) = false := decide_eq_false (by omega)
        have c1' : decide (i < xs.length) = false := decide_eq_false (by omega)
        clear hi hn
        go_wp2_with (go_at_call 74; refine (sortStable_calls w.heap.size g xs.length cap xs r _ HS.out.again H.out).mono ?_; rintro x w2 ⟨rfl, hs⟩; have HS2 := Aside0.mk (HS.out.then hs); clear hs)
        go_ret
        have hl := HS2.out.len
        refine ⟨_, cap, by rw [hl]; rfl, ?_, ?_, ?_⟩
        · rw [hl]; exact (Kd.N_reads' HS2.out.o).2.1
        · exact (Kd.N_reads' HS2.out.o).2.2
        · exact HB.out.trans (HS2.out.m.below HB.out.size (fun k hk e => by have := HG.out.1; omega))
      | succ k1 =>
        have c1 : decide ((i : Int) < (xs.length : Int)) = true := decide_eq_true (by omega)
        have c1' : decide (i < xs.length) = true := decide_eq_true (by omega)
        have hw : wrap64 ((i : Int) + 1) = (i : Int) + 1 := wrap64_in _ (by omega)
        have hlt : i < xs.length := by omega
        have hlt' : (i : Int) < (xs.length : Int) := by omega
        obtain ⟨A1, cc, a0, a1, a2, af, FA⟩ := HS.out.at i hlt
        obtain ⟨A1', cc', e, hl1, hC1⟩ := k50_open (Kd.FK_now FA)
        obtain ⟨rfl, rfl⟩ : A1 = A1' ∧ cc = cc' := by
          simp only [rowCs, List.cons.injEq, Value.slice.injEq] at e
          exact ⟨e.2.2.1.1, e.2.2.1.2.2⟩
        have hcl : cloneI.f (rdS xs i).f2 = some (rdS xs i).f2 := cloneI.some_ (by
          have hm := HN2.out (rdS xs i) (by unfold rdS; rw [List.getD_eq_getElem?_getD, List.getElem?_eq_getElem hlt]; exact List.getElem_mem _)
          exact of_decide_eq_true hm)
        have HC1 := Aside0.mk (And.intro hl1 hC1)
        have HCL := Aside0.mk hcl
        have HLT := Aside0.mk hlt
        clear hi hn FA e hl1 hC1 a0 a1 hcl
        go_wp2_with (go_at_call 73; refine (cloneI.calls A1 cc (rdS xs i).f2 (rdS xs i).f2 _ HC1.out.2 HC1.out.1 HCL.out).mono ?_; rintro x w2 ⟨v2, rfl, ho2, hb2⟩; have HS2 := Aside0.mk (HS.out.call hb2); clear a2 af; obtain ⟨A2, c2, rfl, hl2, hC2⟩ := Kd.R_reads ho2; obtain ⟨_, _, _, _, e2, af, _⟩ := HS2.out.at i hlt; have af2 := af 2; have HF2 := Aside0.mk (And.intro hl2 (Kd.R_F (Kd.R_mono (Kd.R_bound ho2) (ok' := fun k => k ≠ g) (fun k hk e => by have := HG.out.2; have := HS.out.m.size; have := hk.2.1; omega)))); clear ho2 hl2 hC2 hb2 af)
        have HE2 := Aside0.mk e2
        have HS3 := Aside0.mk (HS2.out.seg i HLT.out (rdS xs i) A2 c2 (FK50_mk HF2.out.1 HF2.out.2) 2 [.slice A2 (rdS xs i).f2.length c2] HE2.out (Nat.le_refl 3) rfl).1
        go_roundg k1
        case measure => omega
        case rel => exact ⟨i + 1, by first | rfl | (simp; done) | (simp; exact hw), ⟨by have := HI.out; omega⟩, ⟨by have h3 := HS3.out; rw [set_rdS xs i HLT.out] at h3; exact h3⟩⟩
end Go.Proofs.YtgcjjapcniocaaaGreatDoor.G
