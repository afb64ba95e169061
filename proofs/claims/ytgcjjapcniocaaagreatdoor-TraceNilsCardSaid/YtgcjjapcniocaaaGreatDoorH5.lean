import Derived.Lib.Bytealg
import Derived.Lib.BytesEntry
import Derived.WalkLawsBesides
import Derived.RangeFuncNested
import Derived.RangeFuncBound
import Derived.RangeFuncCalls
import Derived.RangeFuncLeaves
import Derived.RangeFuncBox
import Derived.OwnWalkIn
import Derived.TacticsInMore
import Derived.LoopNIn
import Derived.LoopIn
import Derived.Outline
import Derived.Sort.LoopGhostIn
import Derived.Laws.EntriesVeiled
import Derived.StillTailTactics
import Derived.Test.YtgcjjapcniocaaaGreatDoorGx0
import Derived.Test.YtgcjjapcniocaaaGreatDoorGx2
import Derived.Test.YtgcjjapcniocaaaGreatDoorGx3
import Derived.Test.YtgcjjapcniocaaaGreatDoorGx12
import Derived.Test.YtgcjjapcniocaaaGreatDoorH2
import Derived.Test.YtgcjjapcniocaaaGreatDoorH3
import Derived.Test.YtgcjjapcniocaaaGreatDoorH4
import Derived.Test.YtgcjjapcniocaaaGreatDoorGx9
import Derived.Test.YtgcjjapcniocaaaGreatDoorGx7
namespace Go.Proofs.YtgcjjapcniocaaaGreatDoor.G
open Go.RowKit Go.Proofs.YtgcjjapcniocaaaGreatDoorW.PrintWords Go.Proofs.YtgcjjapcniocaaaGreatDoorW.PrintLast Go.Proofs.YtgcjjapcniocaaaGreatDoorW.PrintMore
attribute [local go_sem] max2_int min2_int max_two min_two max_three min_three max_four min_four
set_option linter.unusedVariables false
set_option linter.unusedSimpArgs false
set_option pp.deepTerms true
set_option pp.maxSteps 100000
/-! #### index.Get -/
theorem info50 : (Tryz.prog.info? 50).map (fun i => (i.zero, i.size, i.bytes)) = some (some (.agg #[(.string ⟨#[]⟩), (.string ⟨#[]⟩), (.slice none 0 0)]), 3, 56) := by kernel_rfl
def ixLoop (k : Nat) (b : List Int) : Nat → List S50 → Int → Option (List S50 × Int × Int)
  | 0, l, a => some (l, a, 0)
  | m + 1, l, a => (oneF k b a).bind fun t => if t.2.2.2 ≠ 0 then some ([], 0, t.2.2.2) else ixLoop k b m (l ++ [⟨t.1, ⟨#[]⟩, t.2.1⟩]) t.2.2.1
def ixEnd (k : Nat) (b : List Int) (l : List S50) (a e : Int) : Option (List S50 × Int) :=
  if e ≠ 0 then some ([], e) else if a < (b.length : Int) then some ([], 3) else (index_Right.f k l).bind fun ok => if ok = true then some (l, 0) else some ([], 3)
def ixGet (k : Nat) (b : List Int) : Option (List S50 × Int) :=
  (vint_Get.f k b 0).bind fun t => if t.2.2 ≠ 0 then some ([], t.2.2) else if 65536 < t.1 then some ([], 9) else
    (ixLoop k b t.1.toNat [] t.2.1).bind fun u => ixEnd k b u.1 u.2.1 u.2.2
theorem ixLoop_len {k : Nat} {b : List Int} : ∀ (m : Nat) (l : List S50) (a : Int) (l2 : List S50) (a2 : Int), ixLoop k b m l a = some (l2, a2, 0) → l2.length = l.length + m
  | 0, l, a, l2, a2, h => by
    simp only [ixLoop, Option.some.injEq, Prod.mk.injEq] at h
    rw [← h.1]
    rfl
  | m + 1, l, a, l2, a2, h => by
    rw [ixLoop] at h
    obtain ⟨⟨t1, t2, t3, t4⟩, h1, h⟩ := Option.bind_eq_some_iff.1 h
    dsimp only at h
    split at h
    · rename_i hn
      simp only [Option.some.injEq, Prod.mk.injEq] at h
      exact absurd h.2.2 hn
    · have := ixLoop_len m _ _ _ _ h
      rw [this, List.length_append]
      simp
      omega
set_option maxRecDepth 100000 in
set_option maxHeartbeats 4000000 in
theorem ixGet_calls (k : Nat) (A : Option Addr) (c : Nat) (b : List Int) (r1 : List S50) (r2 : Int) (w : World) (hr : Kd.C (Kd.int .u8) w A b.length b) (hc : b.length ≤ c) (h : ixGet k b = some (r1, r2)) :
    Calls Tryz.prog 97 #[.slice A b.length c] w fun x w' => ∃ v, x = .returned (.tuple #[v, .int .i64 r2]) ∧ Kd.R k50 50 w' w.heap.size (fun _ => True) v r1 ∧ Below w.heap.size w w' := by
  obtain ⟨⟨t1, t2, t3⟩, h1, h⟩ := Option.bind_eq_some_iff.1 h
  have HR := Aside0.mk hr
  have HC := Aside0.mk hc
  have H1 := Aside0.mk h1
  dsimp only at h
  clear h1 hr hc
  by_cases h3 : t3 = 0
  · subst h3
    rw [if_neg (by simp)] at h
    by_cases h4 : 65536 < t1
    · rw [if_pos h4] at h
      simp only [Option.some.injEq, Prod.mk.injEq] at h
      obtain ⟨rfl, rfl⟩ := h
      have c1 : decide (65536 < t1) = true := decide_eq_true h4
      clear h4
      go_enter Tryz.func97, Tryz.ntmps97
      go_wp2_with (go_at_call 122; refine (vint_Get.calls k A c b 0 _ _ _ _ HR.out HC.out H1.out).mono ?_; rintro x w1 ⟨rfl, nd, rfl⟩)
      go_ret2
      exact ⟨_, rfl, Kd.R_nil _ _ _ _ _, pw_below_drewN (Below.refl _ _) _⟩
    · rw [if_neg h4] at h
      obtain ⟨⟨l2, a2, e2⟩, h2, h⟩ := Option.bind_eq_some_iff.1 h
      dsimp only at h
      have c1 : decide (65536 < t1) = false := decide_eq_false h4
      have H2 := Aside0.mk h2
      have H3 := Aside0.mk h
      have H4 := Aside0.mk h4
      clear h2 h h4
      go_enter Tryz.func97, Tryz.ntmps97
      go_wp2_with (go_at_call 122; refine (vint_Get.calls k A c b 0 _ _ _ _ HR.out HC.out H1.out).mono ?_; rintro x w1 ⟨rfl, nd, rfl⟩)
      go_loopg [5, 7, 25] t1.toNat (fun gk v5 v7 v25 W => ∃ (i : Nat) (l : List S50) (a : Int), v25 = .int .u64 i ∧ v5 = .int .i64 a ∧ Aside0 (i + gk = t1.toNat) ∧ Aside0 (ixLoop k b gk l a = some (l2, a2, e2)) ∧ Aside0 (Kd.R k50 50 W w.heap.size (fun _ => True) v7 l) ∧ Aside0 (l.length = i) ∧ Aside0 (Below w.heap.size w W))
      case atStart => exact ⟨0, [], t2, by first | rfl | simp, rfl, ⟨by omega⟩, H2, ⟨Kd.R_nil _ _ _ _ _⟩, ⟨rfl⟩, ⟨pw_below_drewN (Below.refl _ _) _⟩⟩
      case round =>
        clear H2 H1
        obtain ⟨i, l, a, rfl, rfl, HI, HL, HO, HLI, HB⟩ := hrel
        have h4 := H4.out
        have hi := HI.out
        cases gk with
        | zero =>
          have c2 : decide ((i : Int) < t1) = false := decide_eq_false (by omega)
          have hl := HL.out
          simp only [ixLoop, Option.some.injEq, Prod.mk.injEq] at hl
          obtain ⟨rfl, rfl, rfl⟩ := hl
          clear h4 hi
          obtain ⟨A2, c2, rfl, hl2, hC2⟩ := Kd.R_reads HO.out
          have h3 := H3.out
          unfold ixEnd at h3
          rw [if_neg (by simp)] at h3
          by_cases ha : a < (b.length : Int)
          · rw [if_pos ha] at h3
            simp only [Option.some.injEq, Prod.mk.injEq] at h3
            obtain ⟨rfl, rfl⟩ := h3
            have c3 : decide (a < (b.length : Int)) = true := decide_eq_true ha
            clear ha hl2 hC2
            go_wp2
            go_ret2
            exact ⟨_, rfl, Kd.R_nil _ _ _ _ _, HB.out⟩
          · rw [if_neg ha] at h3
            obtain ⟨ok, hok, h3⟩ := Option.bind_eq_some_iff.1 h3
            have c3 : decide (a < (b.length : Int)) = false := decide_eq_false ha
            have HOK := Aside0.mk hok
            have HC2 := Aside0.mk hC2
            have HL2 := Aside0.mk hl2
            clear ha hok hC2 hl2
            cases ok
            · rw [if_neg (by simp)] at h3
              simp only [Option.some.injEq, Prod.mk.injEq] at h3
              obtain ⟨rfl, rfl⟩ := h3
              go_wp2_with (go_at_call 32; refine (index_Right.calls k A2 c2 l false _ HC2.out HL2.out HOK.out).mono ?_; rintro x w2 ⟨rfl, hb⟩; have HB2 := Aside0.mk hb; clear hb)
              go_ret2
              exact ⟨_, rfl, Kd.R_nil _ _ _ _ _, below_then HB.out HB.out.size HB2.out⟩
            · rw [if_pos rfl] at h3
              simp only [Option.some.injEq, Prod.mk.injEq] at h3
              obtain ⟨rfl, rfl⟩ := h3
              go_wp2_with (go_at_call 32; refine (index_Right.calls k A2 c2 l true _ HC2.out HL2.out HOK.out).mono ?_; rintro x w2 ⟨rfl, hb⟩; have HB2 := Aside0.mk hb; clear hb)
              go_ret2
              exact ⟨_, rfl, Kd.R_below HO.out HB2.out, below_then HB.out HB.out.size HB2.out⟩
        | succ k1 =>
          have c2 : decide ((i : Int) < t1) = true := decide_eq_true (by omega)
          have hw : IntKind.u64.wrap ((i : Int) + 1) = (i : Int) + 1 := IntWalk.u64_in _ (by omega)
          have hl := HL.out
          rw [ixLoop] at hl
          obtain ⟨⟨key, offs, nx, e⟩, hl1, hl⟩ := Option.bind_eq_some_iff.1 hl
          dsimp only at hl
          have HL1 := Aside0.mk hl1
          clear HL hl1 h4 hi
          by_cases he : e = 0
          · subst he
            rw [if_neg (by simp)] at hl
            have HL := Aside0.mk hl
            clear hl
            go_wp2_with (first | (go_at_call 123; refine (one_calls k A c b a key offs nx 0 _ (Kd.C_below HR.out HB.out) HC.out HL1.out).mono ?_; rintro x w2 ⟨v, rfl, ho, hb⟩; obtain ⟨A2, c2, rfl, hl2, hC2⟩ := Kd.R_reads ho; have HO2 := Aside0.mk ho; have HB2 := Aside0.mk hb; clear ho hb hl2 hC2) | (at_builtin; refine Kd.R_append k50 (w0 := w) w.heap.size rfl (.tmp 37) (.tmp 39) 31 50 (.agg #[(.string ⟨#[]⟩), (.string ⟨#[]⟩), (.slice none 0 0)]) 56 rfl Tryz.underlying31 info50 rfl (by decide) (by omega) u7 l (⟨key, ⟨#[]⟩, offs⟩ : S50) [.string key, .string ⟨#[]⟩, .slice A2 offs.length c2] (fun _ => True) (fun j => wr.heap.size ≤ j) rfl (by simp [go_sem]) ?aP ?aK (fun _ _ => trivial) ?aO ?aB ?aS ?aL ?_; (case aO => exact Kd.R_below (Kd.R_below HO.out HB2.out) (by repeat (first | exact Below.refl _ _ | refine below_alloc ?_ _ | refine below_set ?_ (by simp)))); (case aB => exact below_then (below_then HB.out HB.out.size HB2.out) (by have := HB.out.size; have := HB2.out.size; omega) (by repeat (first | exact Below.refl _ _ | refine below_alloc ?_ _ | refine below_set ?_ (by simp)))); (case aS => have := HB.out.size; have := HB2.out.size; simp; omega); (case aL => have := HLI.out; have := HI.out; have := H4.out; omega); (case aK => exact fun j hj => ⟨trivial, fun e => absurd ((Kd.R_bound HO.out).1 j e.symm).2.2.1 (by omega)⟩); (case aP => refine k50_mkM _ _ _ ⟨key, ⟨#[]⟩, offs⟩ ?_; refine Kd.R_below ?_ (show Below w2.heap.size w2 _ by repeat (first | exact Below.refl _ _ | refine below_alloc ?_ _ | refine below_set ?_ (by simp))); exact Kd.R_lower (Kd.R_mono (Kd.R_bound HO2.out) (fun j hj => hj.2.1)) HB.out.size); intro v1 w3 ho3 hb3 hg3 hat3; have HO3 := Aside0.mk ho3; have HB3 := Aside0.mk hb3; clear ho3 hb3 hg3 hat3))
            go_roundg k1
            case measure => omega
            case rel => exact ⟨i + 1, _, nx, by first | rfl | (simp; done) | (simp; exact hw), rfl, ⟨by have := HI.out; omega⟩, HL, HO3, ⟨by have := HLI.out; simp; omega⟩, HB3⟩
          · rw [if_pos he] at hl
            simp only [Option.some.injEq, Prod.mk.injEq] at hl
            obtain ⟨rfl, rfl, rfl⟩ := hl
            have h3 := H3.out
            unfold ixEnd at h3
            rw [if_pos he] at h3
            simp only [Option.some.injEq, Prod.mk.injEq] at h3
            obtain ⟨rfl, rfl⟩ := h3
            have c3 : (e != 0) = true := bne_iff_ne.2 he
            clear H3 he
            go_wp2_with (go_at_call 123; refine (one_calls k A c b a key offs nx e _ (Kd.C_below HR.out HB.out) HC.out HL1.out).mono ?_; rintro x w2 ⟨v, rfl, ho, hb⟩; obtain ⟨A2, c2, rfl, hl2, hC2⟩ := Kd.R_reads ho; have HB2 := Aside0.mk hb; clear ho hb hl2 hC2)
            go_ret2
            refine ⟨_, rfl, Kd.R_nil _ _ _ _ _, ?_⟩
            exact below_then (below_then HB.out HB.out.size HB2.out) (by have := HB.out.size; have := HB2.out.size; omega) (by repeat (first | exact Below.refl _ _ | refine below_alloc ?_ _ | refine below_set ?_ (by simp)))
  · rw [if_pos h3] at h
    simp only [Option.some.injEq, Prod.mk.injEq] at h
    obtain ⟨rfl, rfl⟩ := h
    have c1 : (t3 != 0) = true := bne_iff_ne.2 h3
    clear h3
    go_enter Tryz.func97, Tryz.ntmps97
    go_wp2_with (go_at_call 122; refine (vint_Get.calls k A c b 0 _ _ _ _ HR.out HC.out H1.out).mono ?_; rintro x w1 ⟨rfl, nd, rfl⟩)
    go_ret2
    exact ⟨_, rfl, Kd.R_nil _ _ _ _ _, pw_below_drewN (Below.refl _ _) _⟩
end Go.Proofs.YtgcjjapcniocaaaGreatDoor.G
namespace Go.Proofs.YtgcjjapcniocaaaGreatDoor.G
open Go.RowKit Go.Proofs.YtgcjjapcniocaaaGreatDoorW.PrintWords Go.Proofs.YtgcjjapcniocaaaGreatDoorW.PrintLast Go.Proofs.YtgcjjapcniocaaaGreatDoorW.PrintMore
attribute [local go_sem] max2_int min2_int max_two min_two max_three min_three max_four min_four
set_option linter.unusedVariables false
set_option linter.unusedSimpArgs false
set_option pp.deepTerms true
set_option pp.maxSteps 100000
/-! #### output.whole at index.Get; output.Read -/
def wholeRes (k : Nat) (b : List Int) : Option (List S50 × Int) :=
  (frame_Get.f k b 0).bind fun t => if t.2.2 ≠ 0 then some ([], t.2.2) else if t.2.1 < (b.length : Int) then some ([], 3) else ixGet k t.1
set_option maxRecDepth 100000 in
set_option maxHeartbeats 2000000 in
theorem wholeRes_calls (k : Nat) (A : Option Addr) (c : Nat) (b : List Int) (r1 : List S50) (r2 : Int) (w : World) (hr : Kd.C (Kd.int .u8) w A b.length b) (hc : b.length ≤ c) (h : wholeRes k b = some (r1, r2)) :
    Calls Tryz.prog 96 #[.slice A b.length c, .func (.func 97) #[] #[]] w fun x w' => ∃ v, x = .returned (.tuple #[v, .int .i64 r2]) ∧ Kd.R k50 50 w' w.heap.size (fun _ => True) v r1 ∧ Below w.heap.size w w' := by
  obtain ⟨⟨t1, t2, t3⟩, h1, h⟩ := Option.bind_eq_some_iff.1 h
  have HR := Aside0.mk hr
  have HC := Aside0.mk hc
  have H1 := Aside0.mk h1
  dsimp only at h
  clear h1 hr hc
  by_cases h3 : t3 = 0
  · subst h3
    rw [if_neg (by simp)] at h
    by_cases h4 : t2 < (b.length : Int)
    · rw [if_pos h4] at h
      simp only [Option.some.injEq, Prod.mk.injEq] at h
      obtain ⟨rfl, rfl⟩ := h
      have c1 : decide (t2 < (b.length : Int)) = true := decide_eq_true h4
      clear h4
      go_enter Tryz.func96, Tryz.ntmps96
      go_wp2_with (go_at_call 119; refine (frame_Get.calls k A c b 0 _ _ _ _ HR.out HC.out H1.out).mono ?_; rintro x w1 ⟨v, rfl, ho, hb⟩; have HB := Aside0.mk hb; clear ho hb)
      go_ret2
      exact ⟨_, rfl, Kd.R_nil _ _ _ _ _, HB.out⟩
    · rw [if_neg h4] at h
      have c1 : decide (t2 < (b.length : Int)) = false := decide_eq_false h4
      have H2 := Aside0.mk h
      clear h4 h
      go_enter Tryz.func96, Tryz.ntmps96
      go_wp2_with (first | (go_at_call 119; refine (frame_Get.calls k A c b 0 _ _ _ _ HR.out HC.out H1.out).mono ?_; rintro x w1 ⟨v, rfl, ho, hb⟩; have HB := Aside0.mk hb; obtain ⟨A2, c2, rfl, hl2, hC2⟩ := Kd.R_reads ho; have HC2 := Aside0.mk hC2; have HL2 := Aside0.mk hl2; clear ho hb hC2 hl2) | (go_at_call 97; refine (ixGet_calls k A2 c2 t1 _ _ _ HC2.out HL2.out H2.out).mono ?_; rintro x w2 ⟨v2, rfl, ho2, hb2⟩; have HO2 := Aside0.mk ho2; have HB2 := Aside0.mk hb2; clear ho2 hb2))
      go_ret2
      exact ⟨_, rfl, Kd.R_lower HO2.out HB.out.size, below_then HB.out HB.out.size HB2.out⟩
  · rw [if_pos h3] at h
    simp only [Option.some.injEq, Prod.mk.injEq] at h
    obtain ⟨rfl, rfl⟩ := h
    have c1 : (t3 == 0) = false := beq_eq_false_iff_ne.2 h3
    have c2 : (t3 != 0) = true := bne_iff_ne.2 h3
    clear h3
    go_enter Tryz.func96, Tryz.ntmps96
    go_wp2_with (go_at_call 119; refine (frame_Get.calls k A c b 0 _ _ _ _ HR.out HC.out H1.out).mono ?_; rintro x w1 ⟨v, rfl, ho, hb⟩; have HB := Aside0.mk hb; clear ho hb)
    go_ret2
    exact ⟨_, rfl, Kd.R_nil _ _ _ _ _, HB.out⟩
end Go.Proofs.YtgcjjapcniocaaaGreatDoor.G
namespace Go.Proofs.YtgcjjapcniocaaaGreatDoor.G
open Go.RowKit Go.Proofs.YtgcjjapcniocaaaGreatDoorW.PrintWords Go.Proofs.YtgcjjapcniocaaaGreatDoorW.PrintLast Go.Proofs.YtgcjjapcniocaaaGreatDoorW.PrintMore
attribute [local go_sem] max2_int min2_int max_two min_two max_three min_three max_four min_four
set_option linter.unusedVariables false
set_option linter.unusedSimpArgs false
set_option pp.deepTerms true
set_option pp.maxSteps 100000
theorem R50_elem {W : World} {base g n cap : Nat} {xs : List S50} (h : Kd.R k50 50 W base (fun _ => True) (.slice (some ⟨g, 0, none⟩) n cap) xs) (i : Nat) (hi : i < n) : ∃ v, W.cell? ⟨g, i * 3, none⟩ = some (.string (rd_T50 xs (i : Int)).f0) ∧ W.cell? ⟨g, i * 3 + 1, none⟩ = some (.string (rd_T50 xs (i : Int)).f1) ∧ W.cell? ⟨g, i * 3 + 2, none⟩ = some v ∧ (∀ j, W.frozen? ⟨g, i * 3 + j, none⟩ = false) ∧ Kd.R (Kd.int .i64) 3 W base (fun k => True ∧ k ≠ g) v (rd_T50 xs (i : Int)).f2 := by
  obtain ⟨c, _, hM, hc, hf⟩ := Kd.R_elem h z50 (i : Int) (by omega) (by omega)
  obtain ⟨v, rfl, hv⟩ := k50_openM hM
  exact ⟨v, hc 0 _ rfl, hc 1 _ rfl, hc 2 _ rfl, hf, hv⟩
theorem R50_setVal {W : World} {base g n cap : Nat} {xs : List S50} (h : Kd.R k50 50 W base (fun _ => True) (.slice (some ⟨g, 0, none⟩) n cap) xs) (i : Nat) (hi : i < n) (y : ByteArray) :
    Kd.R k50 50 (W.setCell ⟨g, i * 3 + 1, none⟩ (.string y)) base (fun _ => True) (.slice (some ⟨g, 0, none⟩) n cap) (xs.set i ⟨(rd_T50 xs (i : Int)).f0, y, (rd_T50 xs (i : Int)).f2⟩) := by
  obtain ⟨v, h0, h1, h2, _, hv⟩ := R50_elem h i hi
  have := (Kd.R_seg h (i : Int) (by omega) (by omega) (c := [.string (rd_T50 xs (i : Int)).f0, .string (rd_T50 xs (i : Int)).f1, v]) (seg := [.string y]) (j := 1) (x' := ⟨(rd_T50 xs (i : Int)).f0, y, (rd_T50 xs (i : Int)).f2⟩) (okp := fun k => True ∧ k ≠ g) rfl ?_ (show 1 + 1 ≤ 3 by omega) ?_ (fun k hk => hk)).1
  · exact this
  · intro j u hj
    rcases j with _ | _ | _ | j
    · simp at hj; subst hj; exact h0
    · simp at hj; subst hj; exact h1
    · simp at hj; subst hj; exact h2
    · simp at hj
  · exact k50_mkM _ _ _ ⟨(rd_T50 xs (i : Int)).f0, y, (rd_T50 xs (i : Int)).f2⟩ hv
theorem toList_ne {a b : ByteArray} (h : ¬ a = b) : (a.toList == b.toList) = false := by
  refine beq_eq_false_iff_ne.2 (fun e => h ?_)
  rw [ByteArray.toList_eq, ByteArray.toList_eq] at e
  exact ByteArray.ext (Array.toList_inj.1 e)
theorem set_mid {α : Type} (pre : List α) (x y : α) (r : List α) (i : Nat) (h : pre.length = i) : (pre ++ x :: r).set i y = pre ++ y :: r := by
  subst h
  simp
def readZip : List S134 → List S50 → Option (List S50)
  | [], [] => some []
  | p :: l, r :: m => if r.f0 = p.f0 then (readZip l m).map (⟨r.f0, p.f1, r.f2⟩ :: ·) else none
  | _, _ => none
def readF (k : Nat) (out idx : List Int) : Option (List S50 × Int) :=
  (api_Pair_94.f k out).bind fun t => if t.2 ≠ 0 then some ([], t.2) else (wholeRes k idx).bind fun u => if u.2 ≠ 0 then some ([], u.2) else
    if t.1.length ≠ u.1.length then some ([], 3) else match readZip t.1 u.1 with | none => some ([], 3) | some m => some (m, 0)
set_option maxRecDepth 100000 in
set_option maxHeartbeats 4000000 in
theorem read_calls (k : Nat) (A : Option Addr) (c : Nat) (b : List Int) (A' : Option Addr) (c' : Nat) (b' : List Int) (r1 : List S50) (r2 : Int) (w : World) (hr : Kd.C (Kd.int .u8) w A b.length b) (hc : b.length ≤ c) (hr' : Kd.C (Kd.int .u8) w A' b'.length b') (hc' : b'.length ≤ c') (h : readF k b b' = some (r1, r2)) :
    Calls Tryz.prog 56 #[.slice A b.length c, .slice A' b'.length c'] w fun x w' => ∃ v, x = .returned (.tuple #[v, .int .i64 r2]) ∧ Kd.R k50 50 w' w.heap.size (fun _ => True) v r1 ∧ Below w.heap.size w w' := by
  obtain ⟨⟨l, e1⟩, h1, h⟩ := Option.bind_eq_some_iff.1 h
  have HR := Aside0.mk hr
  have HC := Aside0.mk hc
  have HR' := Aside0.mk hr'
  have HC' := Aside0.mk hc'
  have H1 := Aside0.mk h1
  dsimp only at h
  clear h1 hr hc hr' hc'
  by_cases he1 : e1 = 0
  · subst he1
    rw [if_neg (by simp)] at h
    obtain ⟨⟨m, e2⟩, h2, h⟩ := Option.bind_eq_some_iff.1 h
    have H2 := Aside0.mk h2
    dsimp only at h
    clear h2
    by_cases he2 : e2 = 0
    · subst he2
      rw [if_neg (by simp)] at h
      go_enter Tryz.func56, Tryz.ntmps56
      go_upto_if 31 with (first | (go_at_call 94; refine (api_Pair_94.calls k A c b _ _ _ HR.out HC.out H1.out).mono ?_; rintro x w1 ⟨v1, rfl, ho1, hb1⟩; have HO1 := Aside0.mk ho1; have HB1 := Aside0.mk hb1; obtain ⟨A1, c1, rfl, hl1, hC1⟩ := Kd.R_reads ho1; have HC1 := Aside0.mk hC1; clear ho1 hb1 hl1 hC1) | (go_at_call 96; refine (wholeRes_calls k A' c' b' _ _ _ (Kd.C_below HR'.out HB1.out) HC'.out H2.out).mono ?_; rintro x w2 ⟨v2, rfl, ho2, hb2⟩; have HO2 := Aside0.mk ho2; have HB2 := Aside0.mk hb2; obtain ⟨A2, c2, rfl, hl2, hC2⟩ := Kd.R_reads ho2; clear ho2 hb2 hl2 hC2))
      by_cases hn : l.length = m.length
      · rw [if_neg (fun h => h hn)] at h
        have c3 : ((l.length : Int) != (m.length : Int)) = false := bne_eq_false_iff_eq.2 (by omega)
        have c3' : (l.length != m.length) = false := bne_eq_false_iff_eq.2 hn
        have HN := Aside0.mk hn
        have HH := Aside0.mk h
        clear hn h
        go_wp2
        go_loopg [34] m.length (fun gk v34 W => ∃ (i : Nat) (pre : List S50), v34 = .int .i64 i ∧ Aside0 (i + gk = m.length ∧ pre.length = i) ∧ Aside0 (Kd.R k50 50 W w1.heap.size (fun _ => True) (.slice A2 m.length c2) (pre ++ m.drop i)) ∧ Aside0 ((readZip (l.drop i) (m.drop i)).map (pre ++ ·) = readZip l m) ∧ Aside0 (Below w1.heap.size w1 W))
        case atStart => exact ⟨0, [], by first | rfl | simp, ⟨by omega, rfl⟩, HO2, ⟨by simp⟩, HB2⟩
        case round =>
          clear HO2 HB2 H1 H2
          obtain ⟨i, pre, rfl, HI, HO, HZ, HB⟩ := hrel
          have hC1 := Kd.C_below HC1.out HB.out
          have hlen := hC1.2.1
          cases gk with
          | zero =>
            have hi : decide ((i : Int) < (l.length : Int)) = false := decide_eq_false (by have := HI.out; have := HN.out; omega)
            have hi' : decide (i < l.length) = false := decide_eq_false (by have := HI.out; have := HN.out; omega)
            have h := HH.out
            rw [← HZ.out, List.drop_eq_nil_of_le (by have := HI.out; have := HN.out; omega), List.drop_eq_nil_of_le (by have := HI.out; omega), readZip, Option.map_some] at h
            simp only [Option.some.injEq, Prod.mk.injEq] at h
            obtain ⟨rfl, rfl⟩ := h
            clear hC1
            go_wp2
            go_ret2
            refine ⟨_, rfl, ?_, below_then HB1.out HB1.out.size HB.out⟩
            have ho := HO.out
            rw [List.drop_eq_nil_of_le (by have := HI.out; omega)] at ho
            exact Kd.R_lower ho HB1.out.size
          | succ k1 =>
            have hil : i < l.length := by have := HI.out; have := HN.out; omega
            have him : i < m.length := by have := HI.out; omega
            have hi : decide ((i : Int) < (l.length : Int)) = true := decide_eq_true (by omega)
            have hi' : decide (i < l.length) = true := decide_eq_true hil
            have hw : wrap64 ((i : Int) + 1) = (i : Int) + 1 := by unfold wrap64; omega
            obtain ⟨p, hp⟩ : ∃ p, rd_T134 l (i : Int) = p := ⟨_, rfl⟩
            obtain ⟨x, hx⟩ : ∃ x, rd_T50 (pre ++ m.drop i) (i : Int) = x := ⟨_, rfl⟩
            have hld : l.drop i = p :: l.drop (i + 1) := by
              rw [List.drop_eq_getElem_cons hil, ← hp]
              simp [rd_T134, hil]
            have hmd : m.drop i = x :: m.drop (i + 1) := by
              have e := HI.out.2
              have hxm : x = m[i] := by
                rw [← hx]
                simp [rd_T50, List.getElem?_append, e, him]
              rw [List.drop_eq_getElem_cons him, hxm]
            obtain ⟨ad1, e1, hp0, hp1⟩ := at_T134 hC1 (i : Int) (by omega) (by omega)
            cases e1
            have hform := Kd.R_form HO.out (by rw [List.length_append, List.length_drop]; omega)
            obtain ⟨g, cap, hv, hg0, hg1, cells, hgc⟩ := hform
            injection hv with hv1 hv2 hv3
            subst hv1
            obtain ⟨v, hm0, hm1, hm2, hmf, hmv⟩ := R50_elem HO.out i him
            rw [hp] at hp0 hp1
            rw [hx] at hm0 hm1
            have hz := HZ.out
            rw [hld, hmd, readZip] at hz
            replace hp0 : wr.cell? (ad1.add (i * 2)) = some (.string p.f0) := hp0
            replace hp1 : wr.cell? ⟨(ad1.add (i * 2)).block, (ad1.add (i * 2)).off + 1, none⟩ = some (.string p.f1) := hp1
            have hmf1 := hmf 1
            have HGC := Aside0.mk hgc
            have HLD := Aside0.mk hld
            have HMD := Aside0.mk hmd
            have HX := Aside0.mk hx
            have HG1 := Aside0.mk hg1
            have HG0 := Aside0.mk hg0
            have HLL := Aside0.mk hil
            clear hC1 hp hx hld hmd hv2 hv3 hgc hmf hmv HZ hg1 hg0 hm2
            by_cases hk : x.f0 = p.f0
            · rw [if_pos hk] at hz
              have HZ := Aside0.mk hz
              have HK := Aside0.mk hk
              clear hz hk
              go_upto_region 12 with (fail)
              obtain ⟨W3, hW3⟩ : ∃ W3, wr.alloc (.cells #[.string p.f0, .string p.f1] 134) = W3 := ⟨_, rfl⟩
              have hb3 : Below wr.heap.size wr W3 := by rw [← hW3]; exact below_alloc (Below.refl _ _) _
              have hx3 : W3.heap[wr.heap.size]? = some (.cells #[.string p.f0, .string p.f1] 134 (0, 0)) := by rw [← hW3]; exact heap_alloc_new wr _
              rw [hW3]
              replace hm0 := pw_cell_below hb3 hm0
              replace hm1 := pw_cell_below hb3 hm1
              have hq0 : W3.cell? ⟨wr.heap.size, 0, none⟩ = some (.string p.f0) := (blk_cell hx3 0).trans rfl
              have hq1 : W3.cell? ⟨wr.heap.size, 1, none⟩ = some (.string p.f1) := (blk_cell hx3 1).trans rfl
              have hmf1 : W3.frozen? ⟨g, i * 3 + 1, none⟩ = false := blk_frozen (blk_below HGC.out hb3) _
              have HB3 := Aside0.mk hb3
              clear hW3 hb3 hx3 hp0 hp1
              have c5 : (x.f0.toList == p.f0.toList) = true := by rw [HK.out]; simp
              go_quiet (fail)
              go_wp2
              go_roundg k1
              case measure => omega
              case rel => exact ⟨i + 1, pre ++ [⟨x.f0, p.f1, x.f2⟩], by first | rfl | (simp; done) | (simp; exact hw), ⟨by have := HI.out; omega, by have := HI.out; simp; omega⟩, ⟨by
                  have h := R50_setVal (Kd.R_drewN (Kd.R_below HO.out HB3.out) nq) i (of_decide_eq_true (by simpa [HN.out] using hi')) p.f1
                  rw [HX.out, HMD.out, set_mid _ _ _ _ _ HI.out.2] at h
                  rw [List.append_assoc]
                  exact h⟩, ⟨by
                  rw [← HZ.out, Option.map_map]
                  congr 1
                  funext y
                  simp⟩, ⟨(pw_below_drewN (below_then HB.out HB.out.size HB3.out) nq).setCell (p := ⟨g, i * 3 + 1, none⟩) HG0.out _⟩⟩
            · rw [if_neg hk, Option.map_none] at hz
              have h := HH.out
              rw [← hz] at h
              simp only [Option.some.injEq, Prod.mk.injEq] at h
              obtain ⟨rfl, rfl⟩ := h
              have HK := Aside0.mk hk
              clear hk hz
              go_upto_region 12 with (fail)
              obtain ⟨W3, hW3⟩ : ∃ W3, wr.alloc (.cells #[.string p.f0, .string p.f1] 134) = W3 := ⟨_, rfl⟩
              have hb3 : Below wr.heap.size wr W3 := by rw [← hW3]; exact below_alloc (Below.refl _ _) _
              have hx3 : W3.heap[wr.heap.size]? = some (.cells #[.string p.f0, .string p.f1] 134 (0, 0)) := by rw [← hW3]; exact heap_alloc_new wr _
              rw [hW3]
              replace hm0 := pw_cell_below hb3 hm0
              replace hm1 := pw_cell_below hb3 hm1
              have hq0 : W3.cell? ⟨wr.heap.size, 0, none⟩ = some (.string p.f0) := (blk_cell hx3 0).trans rfl
              have hq1 : W3.cell? ⟨wr.heap.size, 1, none⟩ = some (.string p.f1) := (blk_cell hx3 1).trans rfl
              have hmf1 : W3.frozen? ⟨g, i * 3 + 1, none⟩ = false := blk_frozen (blk_below HGC.out hb3) _
              have HB3 := Aside0.mk hb3
              clear hW3 hb3 hx3 hp0 hp1
              have c5 : (x.f0.toList == p.f0.toList) = false := toList_ne HK.out
              go_quiet (fail)
              go_wp2
              go_ret2
              exact ⟨_, rfl, Kd.R_nil _ _ _ _ _, pw_below_drewN (below_then HB1.out HB1.out.size (below_then HB.out HB.out.size HB3.out)) _⟩
      · rw [if_pos hn] at h
        simp only [Option.some.injEq, Prod.mk.injEq] at h
        obtain ⟨rfl, rfl⟩ := h
        have c3 : ((l.length : Int) != (m.length : Int)) = true := bne_iff_ne.2 (by omega)
        have c3' : (l.length != m.length) = true := bne_iff_ne.2 hn
        clear hn
        go_wp2
        go_ret2
        exact ⟨_, rfl, Kd.R_nil _ _ _ _ _, below_then HB1.out HB1.out.size HB2.out⟩
    · rw [if_pos he2] at h
      simp only [Option.some.injEq, Prod.mk.injEq] at h
      obtain ⟨rfl, rfl⟩ := h
      have c3 : (e2 != 0) = true := bne_iff_ne.2 he2
      clear he2
      go_enter Tryz.func56, Tryz.ntmps56
      go_wp2_with (first | (go_at_call 94; refine (api_Pair_94.calls k A c b _ _ _ HR.out HC.out H1.out).mono ?_; rintro x w1 ⟨v1, rfl, ho1, hb1⟩; have HB1 := Aside0.mk hb1; clear ho1 hb1) | (go_at_call 96; refine (wholeRes_calls k A' c' b' _ _ _ (Kd.C_below HR'.out HB1.out) HC'.out H2.out).mono ?_; rintro x w2 ⟨v2, rfl, ho2, hb2⟩; have HB2 := Aside0.mk hb2; clear ho2 hb2))
      go_ret2
      exact ⟨_, rfl, Kd.R_nil _ _ _ _ _, below_then HB1.out HB1.out.size HB2.out⟩
  · rw [if_pos he1] at h
    simp only [Option.some.injEq, Prod.mk.injEq] at h
    obtain ⟨rfl, rfl⟩ := h
    have c3 : (e1 != 0) = true := bne_iff_ne.2 he1
    clear he1
    go_enter Tryz.func56, Tryz.ntmps56
    go_wp2_with (go_at_call 94; refine (api_Pair_94.calls k A c b _ _ _ HR.out HC.out H1.out).mono ?_; rintro x w1 ⟨v1, rfl, ho1, hb1⟩; have HB1 := Aside0.mk hb1; clear ho1 hb1)
    go_ret2
    exact ⟨_, rfl, Kd.R_nil _ _ _ _ _, HB1.out⟩
end Go.Proofs.YtgcjjapcniocaaaGreatDoor.G
namespace Go.Proofs.YtgcjjapcniocaaaGreatDoor.G
open Go.RowKit Go.Proofs.YtgcjjapcniocaaaGreatDoorW.PrintWords Go.Proofs.YtgcjjapcniocaaaGreatDoorW.PrintLast Go.Proofs.YtgcjjapcniocaaaGreatDoorW.PrintMore
attribute [local go_sem] max2_int min2_int max_two min_two max_three min_three max_four min_four
set_option linter.unusedVariables false
set_option linter.unusedSimpArgs false
set_option pp.deepTerms true
set_option pp.maxSteps 100000
/-! #### slices.Grow, for a slice of nothing -/
theorem zero50 (W : World) (base : Nat) (ok : Nat → Prop) : k50.M W base ok (⟨⟨#[]⟩, ⟨#[]⟩, []⟩ : S50) (Value.agg #[(.string ⟨#[]⟩), (.string ⟨#[]⟩), (.slice none 0 0)]).cells.toList :=
  k50_mkM W base ok ⟨⟨#[]⟩, ⟨#[]⟩, []⟩ (Kd.R_nil _ _ _ _ _)
set_option maxRecDepth 100000 in
set_option maxHeartbeats 4000000 in
theorem grow_calls (n : Int) (w : World) (h0 : 0 ≤ n) (hn : n * 56 ≤ 140737488355328) :
    Calls Tryz.prog 104 #[.slice none 0 0, .int .i64 n] w fun x w' => ∃ v, x = .returned v ∧ Kd.R k50 50 w' w.heap.size (fun _ => True) v ([] : List S50) ∧ Below w.heap.size w w' := by
  have H0 := Aside0.mk h0
  have HN := Aside0.mk hn
  have c1 : decide (n < 0) = false := decide_eq_false (by omega)
  have hw : wrap64 n = n := wrap64_in n (by omega)
  by_cases h : n = 0
  · subst h
    clear h0 hn
    go_enter Tryz.func104, Tryz.ntmps104
    go_wp2
    go_ret
    exact ⟨_, rfl, Kd.R_nil _ _ _ _ _, Below.refl _ _⟩
  · have c2 : decide (0 < n) = true := decide_eq_true (by omega)
    clear h0 hn h
    go_enter Tryz.func104, Tryz.ntmps104
    go_wp2_with (at_builtin; refine Kd.R_append_zeros k50 (w0 := w) w.heap.size rfl (.tmp 20) (.tmp 21) 31 3 50 (.agg #[(.string ⟨#[]⟩), (.string ⟨#[]⟩), (.slice none 0 0)]) 56 rfl Tryz.underlying31 Tryz.underlying3 info50 rfl (by decide) (by omega) (.slice none 0 0) [] (⟨⟨#[]⟩, ⟨#[]⟩, []⟩ : S50) n (fun _ => True) rfl (congrArg (Value.int .i64) hw) (zero50 _ _ _) (fun _ _ => trivial) (Kd.R_nil _ _ _ _ _) H0.out (Below.refl _ _) (Nat.le_refl _) ?_ ?_; (have := HN.out; have := H0.out; simp; omega); intro v1 w1 ho hb hg hat; obtain ⟨A1, c1, rfl, hl1, hC1⟩ := Kd.R_reads ho; have HO1 := Aside0.mk ho; have HB1 := Aside0.mk hb; clear ho hb hg hat hC1)
    go_ret
    exact ⟨_, rfl, Kd.R_take HO1.out (Nat.zero_le _), HB1.out⟩
end Go.Proofs.YtgcjjapcniocaaaGreatDoor.G
namespace Go.Proofs.YtgcjjapcniocaaaGreatDoor.G
open Go.RowKit Go.Proofs.YtgcjjapcniocaaaGreatDoorW.PrintWords Go.Proofs.YtgcjjapcniocaaaGreatDoorW.PrintLast Go.Proofs.YtgcjjapcniocaaaGreatDoorW.PrintMore
attribute [local go_sem] max2_int min2_int max_two min_two max_three min_three max_four min_four
set_option linter.unusedVariables false
set_option linter.unusedSimpArgs false
set_option pp.deepTerms true
set_option pp.maxSteps 100000
/-! #### slices.Concat of rows of records -/
theorem heap50 : Kd.Heap k50 := Kd.heap_iso _ (Kd.heap_pair Kd.heap_string (Kd.heap_pair Kd.heap_string (Kd.heap_slice 3 (Kd.heap_int .i64))))
theorem flat_take {α : Type} {ls : List (List α)} {i : Nat} {x : List α} (h : ls[i]? = some x) : (ls.take (i + 1)).flatten = (ls.take i).flatten ++ x := by
  rw [List.take_add_one, h]
  simp
theorem flat_take_le {α : Type} : ∀ (ls : List (List α)) (i : Nat), (ls.take i).flatten.length ≤ ls.flatten.length
  | [], i => by simp
  | x :: ls, 0 => by simp
  | x :: ls, i + 1 => by
    have := flat_take_le ls i
    simp only [List.take_succ_cons, List.flatten_cons, List.length_append]
    omega
def flLen {α : Type} (ls : List (List α)) (i : Nat) : Nat := (ls.take i).flatten.length
theorem flLen_le {α : Type} (ls : List (List α)) (i : Nat) : flLen ls i ≤ ls.flatten.length := flat_take_le ls i
theorem flLen_succ {α : Type} {ls : List (List α)} {i : Nat} {x : List α} (h : ls[i]? = some x) : flLen ls (i + 1) = flLen ls i + x.length := by
  rw [flLen, flat_take h, List.length_append, flLen]
theorem flLen_all {α : Type} (ls : List (List α)) : flLen ls ls.length = ls.flatten.length := by
  rw [flLen, List.take_of_length_le (Nat.le_refl _)]
theorem rdL7_get {ls : List (List S50)} {i : Nat} (h : i < ls.length) : ls[i]? = some (rd_L7 ls (i : Int)) := by
  unfold rd_L7
  rw [Int.toNat_natCast, List.getD_eq_getElem?_getD, List.getElem?_eq_getElem h]
  rfl
set_option maxRecDepth 100000 in
set_option maxHeartbeats 400000 in
theorem concat_calls (A : Option Addr) (c : Nat) (ls : List (List S50)) (w : World) (hr : Kd.C (Kd.slice 50 k50) w A ls.length ls) (hc : ls.length ≤ c) (hn : ls.flatten.length * 56 ≤ 140737488355328) :
    Calls Tryz.prog 72 #[.slice A ls.length c] w fun x w' => ∃ v, x = .returned v ∧ Kd.N k50 50 w' w.heap.size (fun _ => True) v ls.flatten ∧ Below w.heap.size w w' := by
  have HR := Aside0.mk hr
  have HC := Aside0.mk hc
  have HN := Aside0.mk hn
  have HM := Aside0.mk (Kd.C_max hr)
  clear hr hc hn
  go_enter Tryz.func72, Tryz.ntmps72
  go_wp2
  go_loopg [3, 11] ls.length (fun gk v3 v11 W => ∃ (i : Nat), v11 = .int .i64 i ∧ v3 = .int .i64 (flLen ls i : Int) ∧ Aside0 (i + gk = ls.length) ∧ Aside0 (w = W))
  case atStart => exact ⟨0, by first | rfl | simp, by first | rfl | simp, ⟨by omega⟩, ⟨rfl⟩⟩
  case round =>
    obtain ⟨i, rfl, rfl, HI, ⟨rfl⟩⟩ := hrel
    have hi := HI.out
    have hm := HM.out
    cases gk with
    | zero =>
      have hii : i = ls.length := by omega
      subst hii
      have c1 : decide ((ls.length : Int) < (ls.length : Int)) = false := decide_eq_false (by omega)
      have c1' : decide (ls.length < ls.length) = false := decide_eq_false (by omega)
      have ht := flLen_all ls
      generalize flLen ls ls.length = tot at ht ⊢
      have HT := Aside0.mk ht
      clear hi hm ht
      go_wp2_with (go_at_call 104; refine (grow_calls (tot : Int) _ (by omega) (by have := HN.out; have := HT.out; omega)).mono ?_; rintro x w1 ⟨v1, rfl, ho, hb⟩; have HO := Aside0.mk ho; have HB := Aside0.mk hb; clear ho hb)
      go_loopg [6, 27] ls.length (fun gk v6 v27 W => ∃ (i : Nat), v27 = .int .i64 i ∧ Aside0 (i + gk = ls.length) ∧ Aside0 (Kd.N k50 50 W w.heap.size (fun _ => True) v6 (ls.take i).flatten) ∧ Aside0 (Below w.heap.size w W))
      case atStart => exact ⟨0, by first | rfl | simp, ⟨by omega⟩, ⟨by simpa using Kd.R_N HO.out⟩, HB⟩
      case round =>
        clear HO HB HI HT
        obtain ⟨i, rfl, HI, HO, HB⟩ := hrel
        have hi := HI.out
        have hm := HM.out
        cases gk with
        | zero =>
          have c2 : decide ((i : Int) < (ls.length : Int)) = false := decide_eq_false (by omega)
          have c2' : decide (i < ls.length) = false := decide_eq_false (by omega)
          have HO2 : Aside0 (Kd.N k50 50 wr w.heap.size (fun _ => True) u6 ls.flatten) := ⟨by have := HO.out; rwa [List.take_of_length_le (by omega)] at this⟩
          clear hi hm
          go_wp2
          go_ret
          exact ⟨_, rfl, HO2.out, HB.out⟩
        | succ k1 =>
          obtain ⟨ad, cs, rfl, _, hFK, hcell, _⟩ := Kd.F_get (Kd.F_below (Kd.C_F (Kd.heap_slice 50 heap50) HR.out) HB.out) [] (i : Int) (by omega) (by omega)
          obtain ⟨A0, c0, rfl, hl0, hF⟩ := Kd.FK_slice_open hFK
          have hcell : wr.cell? (ad.add i) = some (.slice A0 (rd_L7 ls (i : Int)).length c0) := by
            have := hcell 0 _ rfl
            rwa [Int.toNat_natCast, show i * (Kd.slice 50 k50).sz + 0 = i from Nat.mul_one i] at this
          have HF := Aside0.mk hF
          have HQ : Aside0 ((ls.take (i + 1)).flatten = (ls.take i).flatten ++ rd_L7 ls (i : Int)) := ⟨flat_take (rdL7_get (by omega))⟩
          have HL : Aside0 ((ls.take i).flatten.length + (rd_L7 ls (i : Int)).length ≤ ls.flatten.length) := ⟨by have := flat_take_le ls (i + 1); rw [HQ.out, List.length_append] at this; exact this⟩
          have c2 : decide ((i : Int) < (ls.length : Int)) = true := decide_eq_true (by omega)
          have c2' : decide (i < ls.length) = true := decide_eq_true (by omega)
          have hw : wrap64 ((i : Int) + 1) = (i : Int) + 1 := wrap64_in _ (by omega)
          have hlt : i < ls.length := by omega
          clear hF hl0 hFK hi hm
          go_wp2_with (at_builtin; refine Kd.N_append_rows k50 (w0 := w) w.heap.size rfl (.tmp 31) (.tmp 32) 31 50 (.agg #[(.string ⟨#[]⟩), (.string ⟨#[]⟩), (.slice none 0 0)]) 56 rfl Tryz.underlying31 info50 rfl (by decide) (by omega) u6 (ls.take i).flatten (rd_L7 ls (i : Int)) A0 (rd_L7 ls (i : Int)).length c0 (fun _ => True) (fun k => k < w.heap.size) rfl rfl HO.out HF.out (fun k hk => ⟨trivial, fun e => absurd (Kd.N_base HO.out k e.symm) (by omega)⟩) (fun _ _ => trivial) HB.out HB.out.size ?_ ?_; (have := HN.out; have := HL.out; omega); intro v2 w2 ho2 hb2 hg2 hat2; have HO2 := Aside0.mk ho2; have HB2 := Aside0.mk hb2; clear ho2 hb2 hg2 hat2)
          go_roundg k1
          case measure => omega
          case rel => exact ⟨i + 1, by first | rfl | (simp; done) | (simp; exact hw), ⟨by have := HI.out; omega⟩, ⟨by rw [HQ.out]; exact HO2.out⟩, HB2⟩
    | succ k1 =>
      obtain ⟨ad, A0, c0, rfl, hcell, hl0, hC0⟩ := at_L7 HR.out (i : Int) (by omega) (by omega)
      simp only [Int.toNat_natCast] at hcell
      have hfl := flLen_le ls (i + 1)
      have hn := HN.out
      have hq := flLen_succ (rdL7_get (ls := ls) (i := i) (by omega))
      have c1 : decide ((i : Int) < (ls.length : Int)) = true := decide_eq_true (by omega)
      have c1' : decide (i < ls.length) = true := decide_eq_true (by omega)
      have hw : wrap64 ((i : Int) + 1) = (i : Int) + 1 := wrap64_in _ (by omega)
      have hw2 : wrap64 ((flLen ls i : Int) + ((rd_L7 ls (i : Int)).length : Int)) = (flLen ls (i + 1) : Int) := by
        rw [wrap64_in _ (by omega), hq]
        rfl
      have c2 : decide ((flLen ls (i + 1) : Int) < 0) = false := decide_eq_false (by omega)
      clear hq hfl hn hC0 hl0
      go_wp2
      go_roundg k1
      case measure => omega
      case rel => exact ⟨i + 1, by first | rfl | (simp; done) | (simp; exact hw), by first | rfl | rw [hw2], ⟨by have := HI.out; omega⟩, ⟨rfl⟩⟩
end Go.Proofs.YtgcjjapcniocaaaGreatDoor.G
namespace Go.Proofs.YtgcjjapcniocaaaGreatDoor.G
open Go.RowKit Go.Proofs.YtgcjjapcniocaaaGreatDoorW.PrintWords Go.Proofs.YtgcjjapcniocaaaGreatDoorW.PrintLast Go.Proofs.YtgcjjapcniocaaaGreatDoorW.PrintMore
attribute [local go_sem] max2_int min2_int max_two min_two max_three min_three max_four min_four
set_option linter.unusedVariables false
set_option linter.unusedSimpArgs false
set_option pp.deepTerms true
set_option pp.maxSteps 100000
def cloneI.f (l0 : List Int) : Option (List Int) := if l0.length ≤ 17592186044416 then some l0 else none
theorem cloneI.some_ {l0 : List Int} (h : l0.length ≤ 17592186044416) : cloneI.f l0 = some l0 := by unfold cloneI.f; rw [if_pos h]
set_option maxHeartbeats 400000 in
theorem cloneI.calls (A0 : Option Addr) (c0 : Nat) (l0 : List Int) (r : List Int) (w : World) (hr0 : Kd.C (Kd.int .i64) w A0 l0.length l0) (hc0 : l0.length ≤ c0) (h : cloneI.f l0 = some r) :
    Calls Tryz.prog 73 #[.slice A0 l0.length c0] w fun e w' => ∃ v0_ : Value, e = .returned (v0_) ∧ Kd.R (Kd.int .i64) 3 w' w.heap.size (fun _ => True) v0_ r ∧ Below w.heap.size w w' := by
  unfold cloneI.f at h
  split at h
  case isFalse => cases h
  case isTrue hb0 =>
  obtain rfl := Option.some.inj h
  clear h
  have HR0 := Aside0.mk hr0
  have HB0 := Aside0.mk hb0
  clear hr0 hc0 hb0
  have hnil : ∀ (W : World) (a : Option Addr) (n c n' c' : Nat), (binOp .eql 48 (.slice a n c) (.slice none n' c')).run Tryz.prog W = .ok (.bool a.isNone) W := fun W a n c n' c' => Lib.run_eql_slice_nil W _ _ a n c n' c' Tryz.underlying48
  go_enter Tryz.func73, Tryz.ntmps73
  rcases A0 with _ | ad
  · go_wp2
    go_ret
    have h0 : l0 = [] := by
      rcases l0 with _ | ⟨x, l⟩
      · rfl
      · obtain ⟨_, _, h⟩ := HR0.out
        obtain ⟨ad, e, _⟩ := h (by simp)
        cases e
    subst h0
    exact ⟨_, rfl, Kd.R_nil _ _ _ _ _, Below.refl _ _⟩
  · go_wp2_with (at_builtin; refine Kd.R_append_rows (Kd.int .i64) (Rr := (Kd.int .i64).K (w.alloc (.cells #[] 3))) (w0 := w) w.heap.size rfl (.tmp 5) (.tmp 6) 48 3 (.int .i64 0) 8 rfl Tryz.underlying48 info3 rfl (by decide) (by omega) (.slice (some ⟨w.heap.size, 0, none⟩) 0 0) [] l0 (some ad) l0.length c0 (fun _ => True) (fun _ => False) rfl rfl ?aO ?aR ?aK (fun _ h => h.elim) (fun _ _ => trivial) ?aB ?aS ?aL ?_; (case aO => exact R_empty _ (Nat.le_refl _) _); (case aR => exact Kd.C_alloc HR0.out _); (case aK => intro x cs h; (first | exact h | exact h)); (case aB => exact below_alloc (Below.refl _ _) _); (case aS => simp); (case aL => have := HB0.out; simp; omega); intro v1 w1 ho hb hg hat)
    go_ret
    exact ⟨_, rfl, by simpa using ho, hb⟩
end Go.Proofs.YtgcjjapcniocaaaGreatDoor.G
