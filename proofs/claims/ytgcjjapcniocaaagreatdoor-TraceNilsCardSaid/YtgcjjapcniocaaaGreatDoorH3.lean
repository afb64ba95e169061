import Derived.Lib.Bytealg
import Derived.Lib.BytesEntry
import Derived.WalkLawsBesides
import Derived.RangeFuncNested
import Derived.RangeFuncBound
import Derived.RangeFuncCalls
import Derived.RangeFuncLeaves
import Derived.RangeFuncBox
import Derived.OwnWalkIn
import Derived.TacticsInMore
import Derived.LoopNIn
import Derived.LoopIn
import Derived.Outline
import Derived.Laws.EntriesVeiled
import Derived.StillTailTactics
import Derived.Test.YtgcjjapcniocaaaGreatDoorGx0
import Derived.Test.YtgcjjapcniocaaaGreatDoorGx2
import Derived.Test.YtgcjjapcniocaaaGreatDoorH2
import Derived.Test.YtgcjjapcniocaaaGreatDoorGx12
import Derived.Test.YtgcjjapcniocaaaGreatDoorH1
namespace Go.Proofs.YtgcjjapcniocaaaGreatDoor.G
open Go.RowKit Go.Proofs.YtgcjjapcniocaaaGreatDoorW.PrintWords Go.Proofs.YtgcjjapcniocaaaGreatDoorW.PrintLast Go.Proofs.YtgcjjapcniocaaaGreatDoorW.PrintMore
attribute [local go_sem] max2_int min2_int max_two min_two max_three min_three max_four min_four
set_option linter.unusedVariables false
set_option linter.unusedSimpArgs false
set_option pp.deepTerms true
set_option pp.maxSteps 100000
theorem cuts_calls (A : Option Addr) (n c : Nat) (w : World) : Calls Tryz.prog 110 #[.slice A n c] w fun e w' => e = .returned (.func (.func 134) #[] #[.pointer (some ⟨w.heap.size, 0, none⟩)]) ∧ w' = w.alloc (.cells #[.slice A n c] 48) := by
  go_enter Tryz.func110, Tryz.ntmps110
  go_wp2
  go_ret
  exact ⟨rfl, rfl⟩
/-- What the iterator does between rounds: it draws, and stores into its own box. -/
def CutAb (B : Nat) (X Y : World) : Prop := (∃ m, Y = X.drewN m) ∨ ∃ v, Y = X.setCell ⟨B, 0, none⟩ v
set_option maxRecDepth 100000 in
set_option maxHeartbeats 4000000 in
theorem cuts_iter (n l B N : Nat) (s : CutSt) (w W1 : World) (Kp : World → World → Prop) (J : Nat → World → Prop) (hs : CutOk w s) (hB : w.heap.size ≤ B) (hN : N = cutCount s.2.2.length s.2.2)
    (hW : Below w.heap.size w W1) (hKw : ∀ X Y, Kp X Y → Below w.heap.size w X → Below w.heap.size w Y) (hKp : ∀ X Y v, Kp X Y → X.heap[B]? = some (.cells #[v] 48 (0, 0)) → Y.heap[B]? = some (.cells #[v] 48 (0, 0)))
    (hAb : ∀ m X Y, J m X → CutAb B X Y → J m Y)
    (hY : ∀ (m : Nat) (W : World), m < N → J m W → YieldAt Fence.wide (n - 1) Tryz.prog l (cutEnc (cutAt s m)) W fun e W' => e = .returned (.bool true) ∧ J (m + 1) W' ∧ Kp W W') (h0 : J 0 W1)
    (hx : W1.heap[B]? = some (.cells #[.slice s.1 s.2.2.length s.2.1] 48 (0, 0))) :
    CallsIn Fence.wide n Tryz.prog 134 #[.func (.yield l) #[] #[], .pointer (some ⟨B, 0, none⟩)] W1 fun e W' => (∃ v, e = .returned v) ∧ J N W' := by
  refine callsIn_wide.2 ?_
  have HS := Aside0.mk hs
  have HW := Aside0.mk hW
  have HKW := Aside0.mk hKw
  have HKP := Aside0.mk hKp
  have HAB := Aside0.mk hAb
  have HY := Aside0.mk hY
  have HJ0 := Aside0.mk h0
  have HX0 := Aside0.mk hx
  have HN := Aside0.mk hN
  have HBw := Aside0.mk hB
  obtain ⟨i3, hi3, _, hz3, _⟩ := info_parts info3
  have HI := Aside0.mk hi3
  have HZ := Aside0.mk hz3
  clear hs hW hKw hKp hAb hY h0 hx hN hB hi3 hz3
  go_enter Tryz.func134, Tryz.ntmps134
  go_wp2
  go_loopg [] N (fun gk W => ∃ m : Nat, Aside0 (m + gk = N) ∧ Aside0 (J m W) ∧ Aside0 (W.heap[B]? = some (.cells #[.slice (cutAt s m).1 (cutAt s m).2.2.length (cutAt s m).2.1] 48 (0, 0))) ∧ Aside0 (Below w.heap.size w W))
  case atStart => exact ⟨0, ⟨by omega⟩, HJ0, HX0, HW⟩
  case round =>
    clear HJ0 HX0 HW
    obtain ⟨m, HM, HJ, HX, HW⟩ := hrel
    have hc0 := (blk_cell HX.out 0).trans (show (#[Value.slice (cutAt s m).1 (cutAt s m).2.2.length (cutAt s m).2.1])[0]? = _ from rfl)
    cases gk with
    | zero =>
      have hnil : (cutAt s m).2.2 = [] := by
        have h := cut_none s.2.2.length s (Nat.le_refl _)
        rw [← HN.out] at h
        rwa [show m = N from by have := HM.out; omega]
      have hl0 : (cutAt s m).2.2.length = 0 := by rw [hnil]; rfl
      rw [hl0] at hc0
      obtain rfl : m = N := by have := HM.out; omega
      clear hnil hl0
      go_wp2
      go_end0
      exact ⟨⟨_, rfl⟩, HJ.out⟩
    | succ k1 =>
      have hne : (cutAt s m).2.2 ≠ [] := cut_some s.2.2.length s m (Nat.le_refl _) (by rw [← HN.out]; have := HM.out; omega)
      have hok := CutOk.at HS.out m
      have hY := fun W hJ => HY.out m W (by have := HM.out; omega) hJ
      have hst : cutAt s (m + 1) = cutStep (cutAt s m) := rfl
      revert hne hok hY hst hc0 HX
      generalize cutAt s m = t
      obtain ⟨A, c, L⟩ := t
      intro HX hc0 hne hok hY hst
      dsimp only at hc0 HX hne hok hY
      have hC := Kd.C_below hok.C HW.out
      have hcL : L.length ≤ c := hok.hc
      have hlen := hC.2.1
      dsimp only at hC hlen
      have hpos : 0 < L.length := List.length_pos_iff.2 hne
      have c1 : decide ((L.length : Int) > 0) = true := decide_eq_true (by omega)
      have c1' : decide (0 < L.length) = true := decide_eq_true hpos
      have hcn := cutN_le L
      have HCN := Aside0.mk hcn
      have HC := Aside0.mk hC
      have HOK := Aside0.mk hok
      have HY1 := Aside0.mk hY
      have HST := Aside0.mk hst
      have HNE := Aside0.mk hne
      have HCL := Aside0.mk hcL
      have HLEN := Aside0.mk hlen
      have HP := Aside0.mk hpos
      clear hC hok hY hst hne hcn hcL hlen hpos
      go_upto_block 2 with (first | (go_at_call 135; refine (even_calls A c L _ HC.out).mono ?_; rintro e w1 ⟨rfl, nd0, rfl⟩))
      obtain ⟨q, hq⟩ : ∃ q, decide (0 < evenS L) = q := ⟨_, rfl⟩
      have HQ := Aside0.mk hq
      rw [hq]
      clear hq
      go_cut [3] (fun v3 W => v3 = .int .i64 (cutN L) ∧ Drawn0 wr W)
      case first =>
        by_cases he : evenS L = 0
        · have hcN : cutN L = scanT (L.drop 1) + 1 := by
            unfold cutN
            rw [if_pos he]
            cases L with
            | nil => exact absurd rfl HNE.out
            | cons x r => rfl
          have HE := Aside0.mk he
          have HCE := Aside0.mk hcN
          have c3 : decide (0 < evenS L) = false := decide_eq_false (by omega)
          have c3' : decide (0 < (evenS L : Int)) = false := decide_eq_false (by omega)
          clear hcN he c1 c1'
          obtain rfl : q = false := by rw [← HQ.out]; exact c3
          clear c3 c3'
          go_wp2
          go_loopg [3] (L.length + 1) (fun gk v3 W => ∃ j : Nat, v3 = .int .i64 j ∧ Aside0 (j + gk = L.length + 1 ∧ j ≤ L.length) ∧ Aside0 (j = 0 ∨ j + scanT (L.drop j) = cutN L) ∧ Drawn0 wr W)
          case atStart => exact ⟨0, by rw [HE.out], ⟨by omega⟩, ⟨.inl rfl⟩, by repeat (first | exact Drawn0.refl _ | apply Drawn0.step)⟩
          case round =>
            obtain ⟨j, rfl, HJN, HT, nd, rfl⟩ := hrel
            cases gk with
            | zero => exact absurd HJN.out (by omega)
            | succ k2 =>
              by_cases h0 : j = 0
              · have hb : ((j : Int) == 0) = true := beq_iff_eq.2 (by omega)
                have hw : wrap64 ((j : Int) + 1) = (j : Int) + 1 := by unfold wrap64; omega
                have H0 := Aside0.mk h0
                clear h0
                go_wp2
                go_roundg k2
                case measure => omega
                case rel => exact ⟨j + 1, by first | rfl | (simp; done) | (simp; exact hw), ⟨by have := HJN.out; have := HP.out; have := H0.out; omega⟩, ⟨.inr (by have := HCE.out; have e := H0.out; rw [e, Nat.zero_add]; omega)⟩, by repeat (first | exact Drawn0.refl _ | apply Drawn0.step)⟩
              · have hb : ((j : Int) == 0) = false := beq_eq_false_iff_ne.2 (by omega)
                have HT2 : Aside0 (j + scanT (L.drop j) = cutN L) := ⟨HT.out.resolve_left h0⟩
                clear h0 HT
                by_cases hj : j < L.length
                · have c4 : decide ((j : Int) < (L.length : Int)) = true := decide_eq_true (by omega)
                  have c4' : decide (j < L.length) = true := decide_eq_true hj
                  have hs3 := slice_from Tryz.underlying48 HI.out HZ.out A L.length c j (by omega)
                  have hE := fun d => even_calls (dropA A c j) (c - j) (L.drop j) (wr.drewN d) (Kd.C_drewN (C_dropA HC.out j (by omega) HCL.out) _)
                  rw [List.length_drop] at hE
                  have HEV := Aside0.mk hE
                  have hw : wrap64 ((j : Int) + 1) = (j : Int) + 1 := by have := HLEN.out; unfold wrap64; omega
                  have HSC : Aside0 (scanT (L.drop j) = if evenS (L.drop j) = 0 then scanT (L.drop (j + 1)) + 1 else 0) := ⟨by rw [List.drop_eq_getElem_cons hj, scanT]⟩
                  clear hE hj
                  by_cases hz : evenS (L.drop j) = 0
                  · have c5 : ((evenS (L.drop j) : Int) == 0) = true := beq_iff_eq.2 (by omega)
                    have HZ0 := Aside0.mk hz
                    clear hz
                    go_wp2_with (go_at_call 135; refine (HEV.out _).mono ?_; rintro e w1 ⟨rfl, nd1, rfl⟩)
                    go_roundg k2
                    case measure => omega
                    case rel => exact ⟨j + 1, by first | rfl | (simp; done) | (simp; exact hw), ⟨by have := HJN.out; have := of_decide_eq_true c4'; omega⟩, ⟨.inr (by have := HSC.out; rw [if_pos HZ0.out] at this; have := HT2.out; omega)⟩, by repeat (first | exact Drawn0.refl _ | apply Drawn0.step)⟩
                  · have c5 : ((evenS (L.drop j) : Int) == 0) = false := beq_eq_false_iff_ne.2 (by omega)
                    have HZ0 := Aside0.mk hz
                    clear hz
                    go_wp2_with (go_at_call 135; refine (HEV.out _).mono ?_; rintro e w1 ⟨rfl, nd1, rfl⟩)
                    go_meet
                    case rel => exact ⟨by have := HSC.out; rw [if_neg HZ0.out] at this; have := HT2.out; rw [show cutN L = j from by omega], by repeat (first | exact Drawn0.refl _ | apply Drawn0.step)⟩
                · have c4 : decide ((j : Int) < (L.length : Int)) = false := decide_eq_false (by omega)
                  have c4' : decide (j < L.length) = false := decide_eq_false hj
                  have HJL := Aside0.mk hj
                  clear hj
                  go_wp2
                  go_meet
                  case rel => exact ⟨by have h := HT2.out; rw [List.drop_eq_nil_of_le (by have := HJL.out; omega), scanT] at h; rw [← h]; rfl, by repeat (first | exact Drawn0.refl _ | apply Drawn0.step)⟩
        · have hcN : cutN L = evenS L := by unfold cutN; rw [if_neg he]
          have c2 : ((evenS L : Int) == 0) = false := beq_eq_false_iff_ne.2 (by omega)
          have c2' : (evenS L == 0) = false := beq_eq_false_iff_ne.2 he
          have c3 : decide (0 < evenS L) = true := decide_eq_true (by omega)
          have c3' : decide (0 < (evenS L : Int)) = true := decide_eq_true (by omega)
          clear he
          have HCE := Aside0.mk hcN
          clear hcN
          obtain rfl : q = true := by rw [← HQ.out]; exact c3
          clear c3 c3'
          go_wp2
          go_loopg [3] 0 (fun gk v3 W => v3 = .int .i64 (evenS L) ∧ Drawn0 wr W)
          case atStart => exact ⟨rfl, by repeat (first | exact Drawn0.refl _ | apply Drawn0.step)⟩
          case round =>
            obtain ⟨rfl, nd, rfl⟩ := hrel
            go_wp2
            go_meet
            case rel => exact ⟨by rw [HCE.out], by repeat (first | exact Drawn0.refl _ | apply Drawn0.step)⟩
      case rest =>
        obtain ⟨rfl, nd, rfl⟩ := hcut
        have hs1 := slice_to Tryz.underlying48 HI.out HZ.out A L.length c (cutN L) (by have := HCN.out; have := HCL.out; omega)
        have hJ1 := HAB.out m _ _ HJ.out (.inl ⟨nd, rfl⟩)
        obtain ⟨fn, tmps_, asg, bdy, hy, hRr⟩ := HY1.out (wr.drewN nd) hJ1
        simp only [cutEnc, cutIs] at hy
        rw [HQ.out] at hy
        have HJ1 := Aside0.mk hJ1
        clear hJ1
        go_upto_region 5 with (fail)
        refine (wpIn_wide (n := n)).1 ?_
        gi_wp2
        refine ⟨fun h => (by simp [Fence.wide] at h), hRr.mono ?_⟩
        rintro e W5 ⟨rfl, hJ5, hk5⟩
        have hx5 := HKP.out _ _ _ hk5 (show (wr.drewN nd).heap[B]? = _ from HX.out)
        have hc5 := (blk_cell hx5 0).trans (show (#[Value.slice A L.length c])[0]? = _ from rfl)
        have hf5 := blk_frozen hx5 0
        have hs2 := slice_from Tryz.underlying48 HI.out HZ.out A L.length c (cutN L) HCN.out
        have HX5 := Aside0.mk hx5
        have HJ5 := Aside0.mk hJ5
        have HW5 := Aside0.mk (HKW.out _ _ hk5 (pw_below_drewN HW.out nd))
        clear hx5 hJ5 hk5 hs1 hy hRr
        gi_wp2
        go_wp2
        go_roundg k1
        case measure => omega
        case rel => exact ⟨m + 1, ⟨by have := HM.out; omega⟩, ⟨HAB.out (m + 1) _ _ HJ5.out (.inr ⟨_, rfl⟩)⟩, ⟨by rw [HST.out]; simpa [cutStep] using blk_set HX5.out 0 _⟩, ⟨HW5.out.setCell (p := ⟨B, 0, none⟩) HBw.out _⟩⟩
end Go.Proofs.YtgcjjapcniocaaaGreatDoor.G
namespace Go.Proofs.YtgcjjapcniocaaaGreatDoor.G
open Go.RowKit Go.Proofs.YtgcjjapcniocaaaGreatDoorW.PrintWords Go.Proofs.YtgcjjapcniocaaaGreatDoorW.PrintLast Go.Proofs.YtgcjjapcniocaaaGreatDoorW.PrintMore
attribute [local go_sem] max2_int min2_int max_two min_two max_three min_three max_four min_four
set_option linter.unusedVariables false
set_option linter.unusedSimpArgs false
set_option pp.deepTerms true
set_option pp.maxSteps 100000
/-! #### runs.Put -/
def pn (k : Nat) (bs : List Int) (n : Int) : Option (List Int) := vint_Put.f k bs (IntKind.u64.wrap n)
def putNums (k : Nat) : List Int → Int → List Int → Option (List Int × Int)
  | bs, last, [] => some (bs, last)
  | bs, last, n :: r => (pn k bs (wrap64 (wrap64 (n - last) - 1))).bind fun b1 => putNums k b1 n r
def putRun (k : Nat) (st : List Int × Int) (run : List Int) (is : Bool) : Option (List Int × Int) :=
  if is = true then (pn k st.1 (wrap64 (wrap64 (2 * (run.length : Int)) + 1))).bind fun b1 => (pn k b1 (wrap64 (wrap64 (rd run 0 - st.2) - 1))).bind fun b2 => (pn k b2 (wrap64 (wrap64 (rd run 1 - rd run 0) - 1))).map fun b3 => (b3, rd run ((run.length : Int) - 1))
  else (pn k st.1 (wrap64 (2 * (run.length : Int)))).bind fun b1 => (putNums k b1 st.2 run).map fun t => (t.1, rd run ((run.length : Int) - 1))
def putAt (k : Nat) (s : CutSt) : Nat → Option (List Int × Int)
  | 0 => some ([], -1)
  | m + 1 => (putAt k s m).bind fun st => putRun k st ((cutAt s m).2.2.take (cutN (cutAt s m).2.2)) (cutIs (cutAt s m).2.2)
theorem putAt_some {k : Nat} {s : CutSt} {r : List Int × Int} : ∀ {N : Nat}, putAt k s N = some r → ∀ m, m ≤ N → ∃ r', putAt k s m = some r'
  | 0, h, m, hm => by
    obtain rfl : m = 0 := by omega
    exact ⟨_, h⟩
  | N + 1, h, m, hm => by
    by_cases he : m = N + 1
    · subst he
      exact ⟨_, h⟩
    · obtain ⟨st, h1, _⟩ := Option.bind_eq_some_iff.1 h
      exact putAt_some h1 m (by omega)
structure PutJ (w : World) (k : Nat) (s : CutSt) (m : Nat) (W : World) : Prop where
  b : ∃ bs last v, putAt k s m = some (bs, last) ∧ W.heap[w.heap.size]? = some (.cells #[v] 23 (0, 0)) ∧ Kd.R (Kd.int .u8) 5 W w.heap.size (fun _ => True) v bs ∧ W.heap[w.heap.size + 3]? = some (.cells #[.int .i64 last] 3 (0, 0))
  p : W.heap[w.heap.size + 1]? = some (.cells #[.func (.func 108) #[] #[.pointer (some ⟨w.heap.size, 0, none⟩)]] 193 (0, 0))
  m : W.heap[w.heap.size + 2]? = some (.cells #[.int .i64 (m : Int)] 3 (0, 0))
  B : Below w.heap.size w W
  x : ∃ v, W.heap[w.heap.size + 4]? = some (.cells #[v] 48 (0, 0))
theorem PutJ.lt {w : World} {k : Nat} {s : CutSt} {m : Nat} {W : World} (h : PutJ w k s m W) : w.heap.size + 4 < W.heap.size := by
  obtain ⟨_, h⟩ := h.x
  exact blk_lt h
/-- Blocks that a step leaves as they are. -/
theorem PutJ.step {w : World} {k : Nat} {s : CutSt} {m : Nat} {W W' : World} (h : PutJ w k s m W) (hb : ∀ g cs t, w.heap.size ≤ g → g ≠ w.heap.size + 4 → W.heap[g]? = some (.cells cs t (0, 0)) → W'.heap[g]? = W.heap[g]?) (hB : Below w.heap.size w W') (hx : ∃ v, W'.heap[w.heap.size + 4]? = some (.cells #[v] 48 (0, 0))) : PutJ w k s m W' := by
  obtain ⟨⟨bs, last, v, h1, h2, h3, h4⟩, hp, hm, _, x, hx0⟩ := h
  refine ⟨⟨bs, last, v, h1, (hb _ _ _ (Nat.le_refl _) (by omega) h2).trans h2, ?_, (hb _ _ _ (by omega) (by omega) h4).trans h4⟩, (hb _ _ _ (by omega) (by omega) hp).trans hp, (hb _ _ _ (by omega) (by omega) hm).trans hm, hB, hx⟩
  refine Kd.R_mono (Kd.R_move (Kd.R_bound h3) ?_) (fun _ _ => trivial)
  rintro g ⟨_, hg, _, q, hq, cs, hc⟩
  refine hb g cs q hg ?_ hc
  rintro rfl
  rw [hx0] at hc
  cases hq with
  | head => cases hc
  | tail _ h => cases h
theorem set_ne {W : World} {g r : Nat} {j : Nat} {v : Value} (h : g ≠ r) : (W.setCell ⟨r, j, none⟩ v).heap[g]? = W.heap[g]? := Below.heap_setCell W ⟨r, j, none⟩ v g h
theorem ne_of_typed {W : World} {g r : Nat} {cs cs' : Array Value} {t t' : TypeId} {f f' : Nat × Nat} (h : W.heap[g]? = some (.cells cs t f)) (h' : W.heap[r]? = some (.cells cs' t' f')) (ht : t ≠ t') : g ≠ r := by
  rintro rfl
  rw [h] at h'
  injection h' with h'
  injection h' with _ h' _
  exact ht h'
theorem ne_of_noncell {W : World} {g r : Nat} {cs : Array Value} {t : TypeId} {f : Nat × Nat} {o : Obj} (h : W.heap[g]? = some (.cells cs t f)) (h' : W.heap[r]? = some o) (hc : o.isCells = false) : g ≠ r := by
  rintro rfl
  rw [h] at h'
  cases h'
  cases hc
theorem evenS_3 {l : List Int} (h : 0 < evenS l) : 3 ≤ evenS l := by
  rcases l with _ | ⟨x, _ | ⟨y, _ | ⟨z, r⟩⟩⟩
  · exact absurd h (Nat.lt_irrefl 0)
  · exact absurd h (Nat.lt_irrefl 0)
  · exact absurd h (Nat.lt_irrefl 0)
  · rw [evenS] at h ⊢
    split
    · omega
    · rename_i hn
      rw [if_neg hn] at h
      exact absurd h (Nat.lt_irrefl 0)
/-- What the iterator's box is to a round: kept. -/
def PutKp (w : World) (X Y : World) : Prop := (∀ v, X.heap[w.heap.size + 4]? = some (.cells #[v] 48 (0, 0)) → Y.heap[w.heap.size + 4]? = some (.cells #[v] 48 (0, 0))) ∧ (Below w.heap.size w X → Below w.heap.size w Y)
theorem cutCount_le : ∀ (k : Nat) (l : List Int), cutCount k l ≤ k
  | 0, l => Nat.le_refl _
  | k + 1, l => by
    rw [cutCount]
    split
    · omega
    · have := cutCount_le k (l.drop (cutN l))
      omega
/-- Put's own boxes, in a round that began at W2: the bytes, the closure, how many, the last; the iterator's box. -/
structure PB (w : World) (x : Value) (W2 : World) (bs : List Int) (last mm : Int) (W : World) : Prop where
  b : ∃ v, W.heap[w.heap.size]? = some (.cells #[v] 23 (0, 0)) ∧ Kd.R (Kd.int .u8) 5 W w.heap.size (fun _ => True) v bs
  p : W.heap[w.heap.size + 1]? = some (.cells #[.func (.func 108) #[] #[.pointer (some ⟨w.heap.size, 0, none⟩)]] 193 (0, 0))
  m : W.heap[w.heap.size + 2]? = some (.cells #[.int .i64 mm] 3 (0, 0))
  l : W.heap[w.heap.size + 3]? = some (.cells #[.int .i64 last] 3 (0, 0))
  x : W.heap[w.heap.size + 4]? = some (.cells #[x] 48 (0, 0))
  B : Below w.heap.size w W
  o : KeepsOthers W2 W
section
variable {w : World} {x : Value} {W2 : World} {bs : List Int} {last mm : Int} {W : World}
theorem PB.cp (h : PB w x W2 bs last mm W) : W.cell? ⟨w.heap.size + 1, 0, none⟩ = some (.func (.func 108) #[] #[.pointer (some ⟨w.heap.size, 0, none⟩)]) := (blk_cell h.p 0).trans rfl
theorem PB.cm (h : PB w x W2 bs last mm W) : W.cell? ⟨w.heap.size + 1 + 1, 0, none⟩ = some (.int .i64 mm) := (blk_cell h.m 0).trans rfl
theorem PB.cl (h : PB w x W2 bs last mm W) : W.cell? ⟨w.heap.size + 1 + 1 + 1, 0, none⟩ = some (.int .i64 last) := (blk_cell h.l 0).trans rfl
theorem PB.fm (h : PB w x W2 bs last mm W) : W.frozen? ⟨w.heap.size + 1 + 1, 0, none⟩ = false := blk_frozen h.m 0
theorem PB.fl (h : PB w x W2 bs last mm W) : W.frozen? ⟨w.heap.size + 1 + 1 + 1, 0, none⟩ = false := blk_frozen h.l 0
theorem PB.old (h : PB w x W2 bs last mm W) {p : Addr} {v : Value} (hp : w.cell? p = some v) : W.cell? p = some v := pw_cell_below h.B hp
theorem PB.drew (h : PB w x W2 bs last mm W) : PB w x W2 bs last mm W.drew := ⟨h.b, h.p, h.m, h.l, h.x, below_drew1 h.B, h.o.trans (KeepsOthers.drew W)⟩
theorem PB.farR {v : Value} (ho : Kd.R (Kd.int .u8) 5 W w.heap.size (fun _ => True) v bs) {g : Nat} {cs : Array Value} (hg : W.heap[g]? = some (.cells cs 3 (0, 0))) (u : Value) : Kd.R (Kd.int .u8) 5 (W.setCell ⟨g, 0, none⟩ u) w.heap.size (fun _ => True) v bs :=
  Kd.R_mono (Kd.R_far (Kd.R_types ho hg (by intro q hq; cases hq with | head => decide | tail _ h => cases h)) (p := ⟨g, 0, none⟩) (fun k hk => hk.2) u) (fun _ _ => trivial)
theorem PB.setL (h : PB w x W2 bs last mm W) (y : Int) : PB w x W2 bs y mm (W.setCell ⟨w.heap.size + 1 + 1 + 1, 0, none⟩ (.int .i64 y)) := by
  obtain ⟨⟨v, h1, h2⟩, hp, hm, hl, hx, hB, ho⟩ := h
  exact ⟨⟨v, (set_ne (by omega)).trans h1, PB.farR h2 hl _⟩, (set_ne (by omega)).trans hp, (set_ne (by omega)).trans hm, by simpa using blk_set hl 0 (.int .i64 y), (set_ne (by omega)).trans hx, hB.setCell (p := ⟨w.heap.size + 1 + 1 + 1, 0, none⟩) (show w.heap.size ≤ w.heap.size + 1 + 1 + 1 from by omega) _, ho.trans (KeepsOthers.setCell _ _ _)⟩
theorem PB.setM (h : PB w x W2 bs last mm W) (y : Int) : PB w x W2 bs last y (W.setCell ⟨w.heap.size + 1 + 1, 0, none⟩ (.int .i64 y)) := by
  obtain ⟨⟨v, h1, h2⟩, hp, hm, hl, hx, hB, ho⟩ := h
  exact ⟨⟨v, (set_ne (by omega)).trans h1, PB.farR h2 hm _⟩, (set_ne (by omega)).trans hp, by simpa using blk_set hm 0 (.int .i64 y), (set_ne (by omega)).trans hl, (set_ne (by omega)).trans hx, hB.setCell (p := ⟨w.heap.size + 1 + 1, 0, none⟩) (show w.heap.size ≤ w.heap.size + 1 + 1 from by omega) _, ho.trans (KeepsOthers.setCell _ _ _)⟩
theorem PB.put (h : PB w x W2 bs last mm W) (k : Nat) (n : Int) {bs' : List Int} (hp : pn k bs n = some bs') :
    Calls Tryz.prog 108 #[.int .i64 n, .pointer (some ⟨w.heap.size, 0, none⟩)] W fun e W' => e = .returned (.tuple #[]) ∧ PB w x W2 bs' last mm W' := by
  obtain ⟨⟨v, h1, h2⟩, hpp, hm, hl, hx, hB, ho⟩ := h
  refine (put1_calls k _ n v bs bs' _ W h1 h2 hB.size hp).mono ?_
  rintro e W' ⟨rfl, v', h3, h4, h5⟩
  refine ⟨rfl, ⟨v', h3, h4⟩, h5.blk hpp (by omega), h5.blk hm (by omega), h5.blk hl (by omega), h5.blk hx (by omega), hB.trans (h5.below hB.size (by intro k hk; omega)), ho.trans ⟨h5.size, fun g o hg hc => h5.blk hg (ne_of_noncell h1 hg hc).symm⟩⟩
end
end Go.Proofs.YtgcjjapcniocaaaGreatDoor.G
