import Derived.Lib.Bytealg
import Derived.Lib.BytesEntry
import Derived.WalkLawsBesides
import Derived.RangeFuncNested
import Derived.RangeFuncBound
import Derived.RangeFuncCalls
import Derived.RangeFuncLeaves
import Derived.RangeFuncBox
import Derived.OwnWalkIn
import Derived.TacticsInMore
import Derived.LoopNIn
import Derived.LoopIn
import Derived.Outline
import Derived.Sort.LoopGhostIn
import Derived.Laws.EntriesVeiled
import Derived.StillTailTactics
import Derived.Maps.OwnSet
import Derived.Maps.OwnOps
import Derived.LaidEql
import Derived.Lib.SlBytesConst
import Derived.Stop.Asserts
import Derived.RowKitTokens
import Derived.Test.YtgcjjapcniocaaaGreatDoorGx0
import Derived.Test.YtgcjjapcniocaaaGreatDoorGx2
import Derived.Test.YtgcjjapcniocaaaGreatDoorGx3
import Derived.Test.YtgcjjapcniocaaaGreatDoorGx4
import Derived.Test.YtgcjjapcniocaaaGreatDoorGx7
import Derived.Test.YtgcjjapcniocaaaGreatDoorGx9
import Derived.Test.YtgcjjapcniocaaaGreatDoorGx12
import Derived.Test.YtgcjjapcniocaaaGreatDoorH2
import Derived.Test.YtgcjjapcniocaaaGreatDoorH3
import Derived.Test.YtgcjjapcniocaaaGreatDoorH1
import Derived.Test.YtgcjjapcniocaaaGreatDoorH4
import Derived.Test.YtgcjjapcniocaaaGreatDoorH5
import Derived.Test.YtgcjjapcniocaaaGreatDoorH6
import Derived.Test.YtgcjjapcniocaaaGreatDoorH7
import Derived.Test.YtgcjjapcniocaaaGreatDoorH8
import Derived.Test.YtgcjjapcniocaaaGreatDoorH9
import Derived.Test.YtgcjjapcniocaaaGreatDoorH10
import Derived.Test.YtgcjjapcniocaaaGreatDoorGx20
import Derived.Test.YtgcjjapcniocaaaGreatDoorH0
import Derived.Test.YtgcjjapcniocaaaGreatDoorH11
import Derived.Test.YtgcjjapcniocaaaGreatDoorGx22
namespace Go.Proofs.YtgcjjapcniocaaaGreatDoor.G
open Go.RowKit Go.Proofs.YtgcjjapcniocaaaGreatDoorW.PrintWords Go.Proofs.YtgcjjapcniocaaaGreatDoorW.PrintLast Go.Proofs.YtgcjjapcniocaaaGreatDoorW.PrintMore
attribute [local go_sem] max2_int min2_int max_two min_two max_three min_three max_four min_four
set_option linter.unusedVariables false
set_option linter.unusedSimpArgs false
set_option pp.deepTerms true
set_option pp.maxSteps 100000
/-! #### rows written out; files -/
theorem C_blk {α : Type} {d : Kd α} {W : World} {g : Nat} {t : TypeId} {cs : Array Value} {fr : Nat × Nat} {xs : List α} (hb : W.heap[g]? = some (.cells cs t fr)) (hr : Reps (d.K W) d.sz xs cs.toList) (hl : xs.length ≤ 9223372036854775807) : d.C W (some ⟨g, 0, none⟩) xs.length xs := by
  refine ⟨rfl, hl, fun _ => ⟨⟨g, 0, none⟩, rfl, fun j p hj => ⟨(cs.toList.drop (j * d.sz)).take d.sz, ?_, hr.2 j p hj, fun i u hi => ?_⟩⟩⟩
  · have hjl : j < xs.length := (List.getElem?_eq_some_iff.1 hj).1
    have h1 : (j + 1) * d.sz ≤ xs.length * d.sz := Nat.mul_le_mul_right _ hjl
    rw [Nat.succ_mul] at h1
    have := hr.1
    simp only [List.length_take, List.length_drop]
    omega
  · have e : (⟨g, 0, none⟩ : Addr).add (j * d.sz + i) = ⟨g, j * d.sz + i, none⟩ := by unfold Addr.add; split <;> simp_all
    rw [e]
    refine (show W.cell? ⟨g, j * d.sz + i, none⟩ = cs[j * d.sz + i]? from by simp [World.cell?, hb]).trans ?_
    rw [List.getElem?_take] at hi
    split at hi
    · rw [List.getElem?_drop] at hi
      simpa using hi
    · cases hi
def filesF (k : Nat) (l : List S50) : Option (List (List Int × List Int)) := (gristmillref25_Files.f k l).map fun t => [t]
set_option maxRecDepth 100000 in
theorem files_calls (k : Nat) (A : Option Addr) (c : Nat) (l : List S50) (r : List (List Int × List Int)) (w : World) (hr : Kd.C k50 w A l.length l) (hc : l.length ≤ c) (h : filesF k l = some r) :
    Calls Tryz.prog 29 #[.slice A l.length c] w fun e w' => ∃ A' c', e = .returned (.slice A' r.length c') ∧ r.length ≤ c' ∧ Kd.C kF w' A' r.length r ∧ Below w.heap.size w w' := by
  obtain ⟨⟨a, b⟩, h1, h⟩ := Option.map_eq_some_iff.1 h
  subst h
  have HR := Aside0.mk hr
  have HC := Aside0.mk hc
  have H1 := Aside0.mk h1
  clear hr hc h1
  go_enter Tryz.func29, Tryz.ntmps29
  go_wp2_with (go_at_call 55; refine (gristmillref25_Files.calls k A c l a b _ HR.out HC.out H1.out).mono ?_; rintro e w1 ⟨v0, v1, rfl, ho0, ho1, hb⟩; obtain ⟨A0, c0, rfl, hl0, hC0⟩ := Kd.R_reads ho0; obtain ⟨A1, c1, rfl, hl1, hC1⟩ := Kd.R_reads ho1; have H0 := Aside0.mk (And.intro hl0 hC0); have H2 := Aside0.mk (And.intro hl1 hC1); have HB := Aside0.mk hb; clear ho0 ho1 hb hl0 hC0 hl1 hC1)
  go_ret
  refine ⟨some ⟨w1.heap.size, 0, none⟩, 1, rfl, Nat.le_refl _, ?_, HB.out.alloc HB.out.size _⟩
  refine C_blk (xs := [(a, b)]) (blk_new w1 _) (Reps.c2 ?_ (Reps.none _ _)) (by simp)
  exact ⟨[.slice A0 a.length c0], [.slice A1 b.length c1], rfl, ⟨A0, c0, rfl, H0.out.1, Kd.C_alloc H0.out.2 _⟩, ⟨A1, c1, rfl, H2.out.1, Kd.C_alloc H2.out.2 _⟩⟩
end Go.Proofs.YtgcjjapcniocaaaGreatDoor.G
namespace Go.Proofs.YtgcjjapcniocaaaGreatDoor.G
open Go.RowKit Go.Proofs.YtgcjjapcniocaaaGreatDoorW.PrintWords Go.Proofs.YtgcjjapcniocaaaGreatDoorW.PrintLast Go.Proofs.YtgcjjapcniocaaaGreatDoorW.PrintMore
attribute [local go_sem] max2_int min2_int max_two min_two max_three min_three max_four min_four
set_option linter.unusedVariables false
set_option linter.unusedSimpArgs false
set_option pp.deepTerms true
set_option pp.maxSteps 100000
/-! #### live -/
def sX : ByteArray := ⟨#[120]⟩
def lv0 : List S50 := [⟨⟨#[120]⟩, ⟨#[50]⟩, [0, 4]⟩, ⟨⟨#[121]⟩, ⟨#[49]⟩, [0]⟩]
def lvIn : List Int := [120, 32, 121, 10, 120, 10]
def lvS : Int → Bool := recOffs (recsF lvIn)
def liveF (k : Nat) : Option Bool :=
  (filesF k lv0).bind fun fs => if fs.length < 65536 then (openF k fs lvIn).bind fun t => if t.2.2.2 ≠ 0 then some false else
    (tforthF t.1 lvS 4).bind fun u => (tforthF t.1 lvS 1).bind fun v => (dbackF t.1 sX).bind fun bk => (gristmillref16_Same.f k bk [0, 4]).bind fun s => (gristmillref04_Same.f k u.1 [sX]).bind fun s2 =>
      some (s && (u.2 == 0) && s2 && (v.2 == 320)) else none
theorem C_lv0 (w : World) : Kd.C k50 (((w.alloc (.cells #[.int .i64 0, .int .i64 4] 3)).alloc (.cells #[.int .i64 0] 3)).alloc (.cells #[.string ⟨#[120]⟩, .string ⟨#[50]⟩, .slice (some ⟨w.heap.size, 0, none⟩) 2 2, .string ⟨#[121]⟩, .string ⟨#[49]⟩, .slice (some ⟨w.heap.size + 1, 0, none⟩) 1 1] 50)) (some ⟨w.heap.size + 1 + 1, 0, none⟩) lv0.length lv0 := by
  have h1 := blk_new ((w.alloc (.cells #[.int .i64 0, .int .i64 4] 3)).alloc (.cells #[.int .i64 0] 3)) (.cells #[.string ⟨#[120]⟩, .string ⟨#[50]⟩, .slice (some ⟨w.heap.size, 0, none⟩) 2 2, .string ⟨#[121]⟩, .string ⟨#[49]⟩, .slice (some ⟨w.heap.size + 1, 0, none⟩) 1 1] 50)
  have h2 := blk_new (w.alloc (.cells #[.int .i64 0, .int .i64 4] 3)) (.cells #[.int .i64 0] 3)
  have h3 := blk_new w (.cells #[.int .i64 0, .int .i64 4] 3)
  simp only [World.size_alloc] at h1 h2
  refine C_blk h1 (Reps.c3 ?_ (Reps.c3 ?_ (Reps.none _ _))) (by decide)
  · exact k50_mk _ ⟨⟨#[120]⟩, ⟨#[50]⟩, [0, 4]⟩ (by decide) (C_blk (blk_alloc (blk_alloc h3 _) _) (Reps.one rfl (Reps.one rfl (Reps.none _ _))) (by decide))
  · exact k50_mk _ ⟨⟨#[121]⟩, ⟨#[49]⟩, [0]⟩ (by decide) (C_blk (blk_alloc h2 _) (Reps.one rfl (Reps.none _ _)) (by decide))
theorem C_lvIn (w : World) : Kd.C (Kd.int .u8) (w.alloc (.cells #[.int .u8 120, .int .u8 32, .int .u8 121, .int .u8 10, .int .u8 120, .int .u8 10] 5 (6, 7))) (some ⟨w.heap.size, 0, none⟩) lvIn.length lvIn :=
  C_blk (blk_new w _) (Reps.one rfl (Reps.one rfl (Reps.one rfl (Reps.one rfl (Reps.one rfl (Reps.one rfl (Reps.none _ _))))))) (by decide)
theorem C_04 (w : World) : Kd.C (Kd.int .i64) (w.alloc (.cells #[.int .i64 0, .int .i64 4] 3)) (some ⟨w.heap.size, 0, none⟩) ([0, 4] : List Int).length [0, 4] :=
  C_blk (blk_new w _) (Reps.one rfl (Reps.one rfl (Reps.none _ _))) (by decide)
theorem C_x (w : World) : Kd.C Kd.string (w.alloc (.cells #[.string ⟨#[120]⟩] 9)) (some ⟨w.heap.size, 0, none⟩) [sX].length [sX] :=
  C_blk (blk_new w _) (Reps.one rfl (Reps.none _ _)) (by decide)
end Go.Proofs.YtgcjjapcniocaaaGreatDoor.G
namespace Go.Proofs.YtgcjjapcniocaaaGreatDoor.G
open Go.RowKit Go.Proofs.YtgcjjapcniocaaaGreatDoorW.PrintWords Go.Proofs.YtgcjjapcniocaaaGreatDoorW.PrintLast Go.Proofs.YtgcjjapcniocaaaGreatDoorW.PrintMore
attribute [local go_sem] max2_int min2_int max_two min_two max_three min_three max_four min_four
set_option linter.unusedVariables false
set_option linter.unusedSimpArgs false
set_option pp.deepTerms true
set_option pp.maxSteps 100000
theorem open_lv (k : Nat) (A : Option Addr) (c : Nat) (fs : List (List Int × List Int)) (l : List S50) (st : ByteArray) (no : Int) (w1 : World) (hr : Kd.C kF w1 A fs.length fs) (hc : fs.length ≤ c) (hsz : fs.length < 65536) (h : openF k fs lvIn = some (l, st, no, 0)) :
    Calls Tryz.prog 8 #[.slice A fs.length c, .slice (some ⟨w1.heap.size, 0, none⟩) 6 6] (w1.alloc (.cells #[.int .u8 120, .int .u8 32, .int .u8 121, .int .u8 10, .int .u8 120, .int .u8 10] 5 (6, 7))) fun x w' => ∃ g, x = .returned (.tuple #[.pointer (some ⟨g, 0, none⟩), .nilIface]) ∧ TrIs w' g l lvS ∧ Below w1.heap.size w1 w' := by
  have h0 := open_calls k A c fs (some ⟨w1.heap.size, 0, none⟩) 6 lvIn l st no 0 (w1.alloc (.cells #[.int .u8 120, .int .u8 32, .int .u8 121, .int .u8 10, .int .u8 120, .int .u8 10] 5 (6, 7))) (Kd.C_alloc hr _) hc hsz (C_lvIn w1) (by decide) (by decide) h
  refine Calls.mono h0 ?_
  rintro x w' ⟨p, hx, _, hp, hb⟩
  obtain ⟨g, hg, _, ht⟩ := hp rfl
  subst hg
  exact ⟨g, hx, ht, below_then (below_alloc (Below.refl _ _) _) (by simp) hb⟩
theorem files_lv (k : Nat) (fs : List (List Int × List Int)) (w : World) (h : filesF k lv0 = some fs) :
    Calls Tryz.prog 29 #[.slice (some ⟨w.heap.size + 1 + 1, 0, none⟩) 2 2] (((w.alloc (.cells #[.int .i64 0, .int .i64 4] 3)).alloc (.cells #[.int .i64 0] 3)).alloc (.cells #[.string ⟨#[120]⟩, .string ⟨#[50]⟩, .slice (some ⟨w.heap.size, 0, none⟩) 2 2, .string ⟨#[121]⟩, .string ⟨#[49]⟩, .slice (some ⟨w.heap.size + 1, 0, none⟩) 1 1] 50)) fun x w' => ∃ A' c', x = .returned (.slice A' fs.length c') ∧ fs.length ≤ c' ∧ Kd.C kF w' A' fs.length fs ∧ Below w.heap.size w w' := by
  refine Calls.mono (files_calls k _ 2 lv0 fs _ (C_lv0 w) (by decide) h) ?_
  rintro x w' ⟨A, c, hx, hl, hC, hb⟩
  exact ⟨A, c, hx, hl, hC, below_then (below_alloc (below_alloc (below_alloc (Below.refl _ _) _) _) _) (by simp; omega) hb⟩
theorem same_lv (k : Nat) (bk : List Int) (A : Option Addr) (c : Nat) (W : World) (hr : Kd.C (Kd.int .i64) W A bk.length bk) (hc : bk.length ≤ c) (h : gristmillref16_Same.f k bk [0, 4] = some true) :
    Calls Tryz.prog 21 #[.slice A bk.length c, .slice (some ⟨W.heap.size, 0, none⟩) 2 2] (W.alloc (.cells #[.int .i64 0, .int .i64 4] 3)) fun x w' => x = .returned (.bool true) ∧ Below W.heap.size W w' := by
  refine Calls.mono (gristmillref16_Same.calls k A c bk (some ⟨W.heap.size, 0, none⟩) 2 [0, 4] true _ (Kd.C_alloc hr _) hc (C_04 W) (by decide) h) ?_
  rintro x w' ⟨hx, n, rfl⟩
  exact ⟨hx, pw_below_drewN (below_alloc (Below.refl _ _) _) n⟩
theorem keys_lv (k : Nat) (u1 : List ByteArray) (A : Option Addr) (c : Nat) (W : World) (hr : Kd.C Kd.string W A u1.length u1) (hc : u1.length ≤ c) (h : gristmillref04_Same.f k u1 [sX] = some true) :
    Calls Tryz.prog 22 #[.slice A u1.length c, .slice (some ⟨W.heap.size, 0, none⟩) 1 1] (W.alloc (.cells #[.string ⟨#[120]⟩] 9)) fun x w' => x = .returned (.bool true) ∧ Below W.heap.size W w' := by
  refine Calls.mono (gristmillref04_Same.calls k A c u1 (some ⟨W.heap.size, 0, none⟩) 1 [sX] true _ (Kd.C_alloc hr _) hc (C_x W) (by decide) h) ?_
  rintro x w' ⟨hx, n, rfl⟩
  exact ⟨hx, pw_below_drewN (below_alloc (Below.refl _ _) _) n⟩
theorem forth_lv (g : Nat) (l : List S50) (S : Int → Bool) (r : List ByteArray) (w : World) (ht : TrIs w g l S) (h : tforthF l S 4 = some (r, 0)) :
    Calls Tryz.prog 19 #[.pointer (some ⟨g, 0, none⟩), .int .i64 4] w fun x w' => ∃ A' c', x = .returned (.tuple #[.slice A' r.length c', .nilIface]) ∧ r.length ≤ c' ∧ Kd.C Kd.string w' A' r.length r ∧ Below w.heap.size w w' := forth_calls g l S 4 r 0 w ht h
theorem forth_lv1 (g : Nat) (l : List S50) (S : Int → Bool) (r : List ByteArray) (w : World) (ht : TrIs w g l S) (h : tforthF l S 1 = some (r, 320)) :
    Calls Tryz.prog 19 #[.pointer (some ⟨g, 0, none⟩), .int .i64 1] w fun x w' => ∃ v, x = .returned (.tuple #[v, .iface 35 (.int .i64 320)]) ∧ Below w.heap.size w w' := by
  refine Calls.mono (forth_calls g l S 1 r 320 w ht h) ?_
  rintro x w' ⟨A, c, hx, _, _, hb⟩
  exact ⟨_, hx, hb⟩
set_option maxRecDepth 100000 in
set_option maxHeartbeats 1000000 in
theorem live_calls (k : Nat) (w : World) (hg : GE w) (h : liveF k = some true) : Calls Tryz.prog 7 #[] w fun e w' => e = .returned (.bool true) ∧ Below w.heap.size w w' := by
  obtain ⟨fs, h1, h⟩ := Option.bind_eq_some_iff.1 h
  split at h
  case isFalse => cases h
  case isTrue hfl =>
    obtain ⟨⟨l, st, no, e⟩, h2, h⟩ := Option.bind_eq_some_iff.1 h
    dsimp only at h
    by_cases he : e = 0
    · subst he
      rw [if_neg (by simp)] at h
      obtain ⟨⟨u1, u2⟩, h3, h⟩ := Option.bind_eq_some_iff.1 h
      obtain ⟨⟨v1, v2⟩, h4, h⟩ := Option.bind_eq_some_iff.1 h
      obtain ⟨bk, h5, h⟩ := Option.bind_eq_some_iff.1 h
      obtain ⟨s, h6, h⟩ := Option.bind_eq_some_iff.1 h
      obtain ⟨s2, h7, h⟩ := Option.bind_eq_some_iff.1 h
      simp only [Option.some.injEq, Bool.and_eq_true, beq_iff_eq] at h
      obtain ⟨⟨⟨rfl, rfl⟩, rfl⟩, rfl⟩ := h
      have HG := Aside0.mk hg
      have HW0 := Aside0.mk (files_lv k fs w h1)
      have HOP := Aside0.mk (fun A c w1 hr hc => open_lv k A c fs l st no w1 hr hc hfl h2)
      obtain ⟨S, hS⟩ : ∃ S, lvS = S := ⟨_, rfl⟩
      rw [hS] at h3 h4 HOP
      have HF4 := Aside0.mk (fun g W (ht : TrIs W g l S) => forth_lv g l S u1 W ht h3)
      have HF1 := Aside0.mk (fun g W (ht : TrIs W g l S) => forth_lv1 g l S v1 W ht h4)
      have HBK := Aside0.mk (fun g W (ht : TrIs W g l S) => back_calls g l S ⟨#[120]⟩ bk W ht h5)
      have HS6 := Aside0.mk (fun A c W hr hc => same_lv k bk A c W hr hc h6)
      have HS7 := Aside0.mk (fun A c W hr hc => keys_lv k u1 A c W hr hc h7)
      have hcv := fun W : World => Lib.run_convert_bytes_const (P := Tryz.prog) W 23 5 #[.int .u8 120, .int .u8 32, .int .u8 121, .int .u8 10, .int .u8 120, .int .u8 10] 6 6 Tryz.underlying23 Tryz.underlying5
      simp only [List.size_toArray, List.length_cons, List.length_nil, Nat.reduceAdd] at hcv
      clear hg hfl h1 h2 h3 h4 h5 h6 h7 hS
      go_enter Tryz.func7, Tryz.ntmps7
      go_wp2_with (first | (go_at_call 29; (with_reducible refine (HW0.out).mono ?_); rintro x w1 ⟨A1, c1, rfl, hl1, hC1, hb1⟩; have HC1 := Aside0.mk (And.intro hl1 hC1); have HB1 := Aside0.mk hb1; clear hl1 hC1 hb1) | (go_at_call 8; (with_reducible refine (HOP.out A1 c1 w1 HC1.out.2 HC1.out.1).mono ?_); rintro x w2 ⟨g, rfl, ht2, hb2⟩; have HT2 := Aside0.mk ht2; have HB2 := Aside0.mk (show Below w.heap.size w w2 from below_then HB1.out HB1.out.size hb2); clear ht2 hb2) | (go_at_call 19; (with_reducible refine (HF4.out g w2 HT2.out).mono ?_); rintro x w3 ⟨A3, c3, rfl, hl3, hC3, hb3⟩; have HC3 := Aside0.mk (And.intro hl3 hC3); have HT3 := Aside0.mk (HT2.out.below hb3); have HB3 := Aside0.mk (show Below w.heap.size w w3 from below_then HB2.out HB2.out.size hb3); clear hl3 hC3 hb3) | (go_at_call 19; (with_reducible refine (HF1.out g w3 HT3.out).mono ?_); rintro x w4 ⟨v4, rfl, hb4⟩; have HT4 := Aside0.mk (HT3.out.below hb4); have HC4 := Aside0.mk (Kd.C_below HC3.out.2 hb4); have HB4 := Aside0.mk (show Below w.heap.size w w4 from below_then HB3.out HB3.out.size hb4); clear hb4) | (go_at_call 18; (with_reducible refine (HBK.out g w4 HT4.out).mono ?_); rintro x w5 ⟨A5, c5, rfl, hl5, hC5, hb5⟩; have HC5 := Aside0.mk (And.intro hl5 hC5); have HC55 := Aside0.mk (Kd.C_below HC4.out hb5); have HB5 := Aside0.mk (show Below w.heap.size w w5 from below_then HB4.out HB4.out.size hb5); clear hl5 hC5 hb5) | (go_at_call 21; (with_reducible refine (HS6.out A5 c5 w5 HC5.out.2 HC5.out.1).mono ?_); rintro x w6 ⟨rfl, hb6⟩; have HC6 := Aside0.mk (Kd.C_below HC55.out hb6); have HB6 := Aside0.mk (show Below w.heap.size w w6 from below_then HB5.out HB5.out.size hb6); clear hb6) | (go_at_call 22; (with_reducible refine (HS7.out A3 c3 w6 HC6.out HC3.out.1).mono ?_); rintro x w7 ⟨rfl, hb7⟩; have HB7 := Aside0.mk (show Below w.heap.size w w7 from below_then HB6.out HB6.out.size hb7); clear hb7) | (go_at_call 10; (with_reducible refine (num_calls 320 w7 (GE.below HG.out HG.out.lt HB7.out)).mono ?_); rintro x w8 ⟨rfl, hb8⟩; have HB8 := Aside0.mk (show Below w.heap.size w w8 from below_then HB7.out HB7.out.size hb8); clear hb8))
      go_ret
      exact ⟨rfl, HB8.out⟩
    · rw [if_pos he] at h
      cases h
end Go.Proofs.YtgcjjapcniocaaaGreatDoor.G
namespace Go.Proofs.YtgcjjapcniocaaaGreatDoor.G
open Go.RowKit Go.Proofs.YtgcjjapcniocaaaGreatDoorW.PrintWords Go.Proofs.YtgcjjapcniocaaaGreatDoorW.PrintLast Go.Proofs.YtgcjjapcniocaaaGreatDoorW.PrintMore
attribute [local go_sem] max2_int min2_int max_two min_two max_three min_three max_four min_four
set_option linter.unusedVariables false
set_option linter.unusedSimpArgs false
set_option pp.deepTerms true
set_option pp.maxSteps 100000
/-! #### TraceNils -/
set_option maxRecDepth 100000 in
set_option maxHeartbeats 1000000 in
theorem nils_calls (k : Nat) (hl : liveF k = some true) (key : ByteArray) (off : Int) (w : World) (hg : GE w) : Calls Tryz.prog 5 #[.string key, .int .i64 off] w fun e w' => e = .returned (.bool true) ∧ Below w.heap.size w w' := by
  have HG := Aside0.mk hg
  have HL := Aside0.mk hl
  clear hg hl
  go_enter Tryz.func5, Tryz.ntmps5
  go_wp2_with (first | (go_at_call 16; (with_reducible refine (valueNil_calls _ _).mono ?_); rintro x wz ⟨rfl, h9⟩; rw [h9]; clear h9) | (go_at_call 19; (with_reducible refine (forthNil_calls _ _).mono ?_); rintro x wz ⟨rfl, h9⟩; rw [h9]; clear h9) | (go_at_call 25; (with_reducible refine (indexNil_calls _).mono ?_); rintro x wz ⟨rfl, h9⟩; rw [h9]; clear h9) | (go_at_call 26; (with_reducible refine (keysNil_calls _).mono ?_); rintro x wz ⟨rfl, h9⟩; rw [h9]; clear h9) | (go_at_call 18; (with_reducible refine (backNil_calls _ _).mono ?_); rintro x wz ⟨rfl, h9⟩; rw [h9]; clear h9) | (go_at_call 14; (with_reducible refine (allNil_calls _).mono ?_); rintro x wz ⟨rfl, h9⟩; rw [h9]; clear h9) | (go_at_call 10; (with_reducible refine (num_calls 7 w HG.out).mono ?_); rintro x w1 ⟨rfl, hb1⟩; have HB1 := Aside0.mk hb1; clear hb1) | (go_at_call 10; (with_reducible refine (num_calls 7 w1 (GE.below HG.out HG.out.lt HB1.out)).mono ?_); rintro x w2 ⟨rfl, hb2⟩; have HB2 := Aside0.mk (show Below w.heap.size w w2 from below_then HB1.out HB1.out.size hb2); clear hb2) | (go_at_call 10; (with_reducible refine (num_calls 7 w2 (GE.below HG.out HG.out.lt HB2.out)).mono ?_); rintro x w3 ⟨rfl, hb3⟩; have HB3 := Aside0.mk (show Below w.heap.size w w3 from below_then HB2.out HB2.out.size hb3); clear hb3) | (go_at_call 7; (with_reducible refine (live_calls k w3 (GE.below HG.out HG.out.lt HB3.out) HL.out).mono ?_); rintro x w4 ⟨rfl, hb4⟩; have HB4 := Aside0.mk (show Below w.heap.size w w4 from below_then HB3.out HB3.out.size hb4); clear hb4))
  go_ret
  exact ⟨rfl, HB4.out⟩
end Go.Proofs.YtgcjjapcniocaaaGreatDoor.G
namespace Go.Proofs.YtgcjjapcniocaaaGreatDoor.G
open Go.RowKit Go.Proofs.YtgcjjapcniocaaaGreatDoorW.PrintWords Go.Proofs.YtgcjjapcniocaaaGreatDoorW.PrintLast Go.Proofs.YtgcjjapcniocaaaGreatDoorW.PrintMore
attribute [local go_sem] max2_int min2_int max_two min_two max_three min_three max_four min_four
set_option linter.unusedVariables false
set_option linter.unusedSimpArgs false
set_option pp.deepTerms true
set_option pp.maxSteps 100000
theorem liveF_true : liveF 64 = some true := by kernel_rfl
end Go.Proofs.YtgcjjapcniocaaaGreatDoor.G
