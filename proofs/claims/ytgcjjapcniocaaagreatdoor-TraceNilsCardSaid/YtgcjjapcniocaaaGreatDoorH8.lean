import Derived.Lib.Bytealg
import Derived.Lib.BytesEntry
import Derived.WalkLawsBesides
import Derived.RangeFuncNested
import Derived.RangeFuncBound
import Derived.RangeFuncCalls
import Derived.RangeFuncLeaves
import Derived.RangeFuncBox
import Derived.OwnWalkIn
import Derived.TacticsInMore
import Derived.LoopNIn
import Derived.LoopIn
import Derived.Outline
import Derived.Sort.LoopGhostIn
import Derived.Laws.EntriesVeiled
import Derived.StillTailTactics
import Derived.Test.YtgcjjapcniocaaaGreatDoorGx0
import Derived.Test.YtgcjjapcniocaaaGreatDoorGx2
import Derived.Test.YtgcjjapcniocaaaGreatDoorH2
import Derived.Test.YtgcjjapcniocaaaGreatDoorH1
import Derived.Test.YtgcjjapcniocaaaGreatDoorGx12
import Derived.Test.YtgcjjapcniocaaaGreatDoorH3
namespace Go.Proofs.YtgcjjapcniocaaaGreatDoor.G
open Go.RowKit Go.Proofs.YtgcjjapcniocaaaGreatDoorW.PrintWords Go.Proofs.YtgcjjapcniocaaaGreatDoorW.PrintLast Go.Proofs.YtgcjjapcniocaaaGreatDoorW.PrintMore
attribute [local go_sem] max2_int min2_int max_two min_two max_three min_three max_four min_four
set_option linter.unusedVariables false
set_option linter.unusedSimpArgs false
set_option pp.deepTerms true
set_option pp.maxSteps 100000
/-! #### the lines of an input -/
def isNl (x : Int) : Bool := x.toNat.toUInt8 == 10
def nlN : List Int → Nat
  | [] => 0
  | x :: r => if isNl x = true then 0 else nlN r + 1
theorem nlN_le : ∀ l : List Int, nlN l ≤ l.length
  | [] => Nat.le_refl _
  | x :: r => by
    rw [nlN]
    have := nlN_le r
    split
    · exact Nat.zero_le _
    · simp only [List.length_cons]; omega
theorem nl_index : ∀ l : List Int, Lib.indexByte (Lib.bytesOf l) 10 = if nlN l < l.length then (nlN l : Int) else -1
  | [] => rfl
  | x :: r => by
    have ih := nl_index r
    have hle := nlN_le r
    show (if (x.toNat.toUInt8 == 10) = true then (0 : Int) else if (Lib.indexByte (Lib.bytesOf r) 10 == -1) = true then -1 else Lib.indexByte (Lib.bytesOf r) 10 + 1) = _
    rw [nlN]
    unfold isNl
    by_cases hx : (x.toNat.toUInt8 == 10) = true
    · rw [if_pos hx, if_pos hx]; simp
    · rw [if_neg hx, if_neg hx, ih]
      by_cases hn : nlN r < r.length
      · rw [if_pos hn, if_neg (by simp only [beq_iff_eq]; omega), if_pos (by simp only [List.length_cons]; omega)]
        omega
      · rw [if_neg hn, if_pos (by decide), if_neg (by simp only [List.length_cons]; omega)]
def lineAt (b : List Int) : Nat → Nat
  | 0 => 0
  | m + 1 => lineAt b m + nlN (b.drop (lineAt b m)) + 1
def lineCount : Nat → List Int → Nat
  | 0, _ => 0
  | k + 1, l => if l = [] then 0 else lineCount k (l.drop (nlN l + 1)) + 1
theorem line_drop (b : List Int) (s : Nat) : ∀ m, lineAt b m + lineAt (b.drop (lineAt b m)) s = lineAt b (m + s) := by
  induction s with
  | zero => intro m; rfl
  | succ s ih =>
    intro m
    have h := ih m
    rw [lineAt, List.drop_drop, show m + (s + 1) = (m + s) + 1 by omega, lineAt, ← h]
    omega
theorem line_some : ∀ (k m : Nat) (b : List Int), b.length ≤ k → m < lineCount k b → lineAt b m < b.length
  | 0, m, b, _, h => absurd h (Nat.not_lt_zero _)
  | k + 1, m, b, hk, h => by
    rw [lineCount] at h
    split at h
    · exact absurd h (Nat.not_lt_zero _)
    · rename_i hne
      have hpos : 0 < b.length := List.length_pos_iff.2 hne
      cases m with
      | zero => exact hpos
      | succ m =>
        have h1 := line_some k m (b.drop (nlN b + 1)) (by simp; omega) (by omega)
        have h2 := line_drop b m 1
        simp only [lineAt, List.drop_zero, Nat.zero_add, Nat.add_zero] at h2
        rw [show m + 1 = 1 + m by omega, ← h2]
        simp only [List.length_drop] at h1
        omega
theorem line_none : ∀ (k : Nat) (b : List Int), b.length ≤ k → b.length ≤ lineAt b (lineCount k b)
  | 0, b, hk => by omega
  | k + 1, b, hk => by
    rw [lineCount]
    split
    · rename_i he; subst he; exact Nat.zero_le _
    · have h1 := line_none k (b.drop (nlN b + 1)) (by simp; omega)
      have h2 := line_drop b (lineCount k (b.drop (nlN b + 1))) 1
      simp only [lineAt, List.drop_zero, Nat.zero_add, Nat.add_zero] at h2
      rw [show ∀ q, q + 1 = 1 + q from fun q => Nat.add_comm _ _, ← h2]
      simp only [List.length_drop] at h1
      omega
def lineOf (b : List Int) (m : Nat) : List Int := (b.drop (lineAt b m)).take (nlN (b.drop (lineAt b m)))
theorem slice_mid {t e : TypeId} {i : TypeInfo} (ht : Tryz.prog.underlying t = some (.slice e)) (hi : Tryz.prog.info? e = some i) (hsz : i.size = 1) (A : Option Addr) (n c lo hi' : Nat) (h1 : lo ≤ hi') (hm : hi' ≤ c) (W : World) :
    (Instr.slice t (.slice A n c) (some (.int .i64 (lo : Int))) (some (.int .i64 (hi' : Int))) none).run Tryz.prog W = .ok (.slice (dropA A c lo) (hi' - lo) (c - lo)) W := by
  have hel : Tryz.prog.elem t = e := by simp [Program.elem, ht]
  have hu : Tryz.prog.underlying t = some (.slice (Tryz.prog.elem t)) := by rw [hel]; exact ht
  rw [run_slice_lh W t A n c hu .i64 .i64 (lo : Int) (hi' : Int) (Int.natCast_nonneg _) (by omega) (by omega), hel]
  simp [sizeOf, typeInfo, hi, hsz, sliced, Result.andThen, dropA]
theorem run_ixb (w : World) (a : Addr) (n c : Nat) (xs : List Int) (hx : xs.length = n) (hc : ∀ i, i < n → w.cell? (a.add i) = some (.int .u8 (xs.getD i 0))) (cv : Int) :
    (Extern.BytealgIndexByte.indexByte #[.slice (some a) n c, .int .u8 cv]).run Tryz.prog w = .ok (.int .i64 (Lib.indexByte (Lib.bytesOf xs) cv.toNat.toUInt8)) w := by
  have hl := Lib.run_loadBytesX (P := Tryz.prog) w xs a .empty (fun j x hj => by
    have hjl : j < xs.length := (List.getElem?_eq_some_iff.1 hj).1
    rw [hc j (by omega), List.getD_eq_getElem?_getD, hj]
    rfl)
  rw [hx] at hl
  have hs := Lib.run_indexByteString (P := Tryz.prog) ⟨(Lib.bytesOf xs).toArray⟩ cv w
  have he : (⟨ByteArray.empty.data ++ (Lib.bytesOf xs).toArray⟩ : ByteArray) = ⟨(Lib.bytesOf xs).toArray⟩ := by
    apply ByteArray.ext
    show (#[] : Array UInt8) ++ (Lib.bytesOf xs).toArray = (Lib.bytesOf xs).toArray
    simp
  rw [he] at hl
  change Sem.run Tryz.prog (do
    let b ← Extern.Bytes.bytesOf (.slice (some a) n c)
    let c ← Extern.Bytes.asByte (.int .u8 cv)
    match (List.range b.size).find? fun i => b[i]! == c with
    | some i => pure (goInt i)
    | none => pure (goInt (-1))) w = _
  change Sem.run Tryz.prog (do
    let b ← Extern.Bytes.bytesOf (.string ⟨(Lib.bytesOf xs).toArray⟩)
    let c ← Extern.Bytes.asByte (.int .u8 cv)
    match (List.range b.size).find? fun i => b[i]! == c with
    | some i => pure (goInt i)
    | none => pure (goInt (-1))) w = _ at hs
  simp only [Extern.Bytes.bytesOf, Sem.run_bind, Sem.run_pure, hl, Result.andThen] at hs ⊢
  exact hs
set_option maxRecDepth 100000 in
theorem ixb_calls (A : Option Addr) (c : Nat) (l : List Int) (w : World) (hr : Kd.C (Kd.int .u8) w A l.length l) :
    Calls Tryz.prog 125 #[.slice A l.length c, .int .u8 10] w fun x w' => x = .returned (.int .i64 (if nlN l < l.length then (nlN l : Int) else -1)) ∧ w' = w := by
  have hrun : (Extern.BytealgIndexByte.indexByte #[.slice A l.length c, .int .u8 10]).run Tryz.prog w = .ok (.int .i64 (if nlN l < l.length then (nlN l : Int) else -1)) w := by
    rw [← nl_index]
    rcases A with _ | ad
    · have h0 : l = [] := by
        rcases l with _ | ⟨x, l⟩
        · rfl
        · obtain ⟨_, _, h⟩ := hr
          obtain ⟨ad, e, _⟩ := h (by simp)
          cases e
      subst h0
      exact Lib.run_indexByteNil w 0 c 10
    · exact run_ixb w ad l.length c l rfl (fun i hi => by
        obtain ⟨ad', e, h⟩ := Kd.at_int hr (i : Int) (by omega) (by omega)
        cases e
        simpa [rd] using h) 10
  generalize (if nlN l < l.length then (nlN l : Int) else -1) = r at hrun ⊢
  have HRUN := Aside0.mk hrun
  clear hrun hr
  go_enter Tryz.func125, Tryz.ntmps125
  go_wp2
  rw [run_callFunc_extern Tryz.func147 (by kernel_rfl) (by kernel_rfl) (by kernel_rfl) (e := Extern.BytealgIndexByte.indexByte) (by kernel_rfl), HRUN.out]
  simp only [Result.andThen]
  rw [Oper.upon_value]
  go_wp2
  go_ret
  exact ⟨rfl, rfl⟩
end Go.Proofs.YtgcjjapcniocaaaGreatDoor.G
namespace Go.Proofs.YtgcjjapcniocaaaGreatDoor.G
open Go.RowKit Go.Proofs.YtgcjjapcniocaaaGreatDoorW.PrintWords Go.Proofs.YtgcjjapcniocaaaGreatDoorW.PrintLast Go.Proofs.YtgcjjapcniocaaaGreatDoorW.PrintMore
attribute [local go_sem] max2_int min2_int max_two min_two max_three min_three max_four min_four
set_option linter.unusedVariables false
set_option linter.unusedSimpArgs false
set_option pp.deepTerms true
set_option pp.maxSteps 100000
theorem lines_calls (A : Option Addr) (n c : Nat) (w : World) : Calls Tryz.prog 98 #[.slice A n c] w fun e w' => e = .returned (.func (.func 124) #[] #[.pointer (some ⟨w.heap.size, 0, none⟩)]) ∧ w' = w.alloc (.cells #[.slice A n c] 23) := by
  go_enter Tryz.func98, Tryz.ntmps98
  go_wp2
  go_ret
  exact ⟨rfl, rfl⟩
theorem w_add {a b e : Nat} (h : e ≤ 1048578) (he : e = a + b) : wrap64 ((a : Int) + (b : Int)) = (e : Int) := by
  rw [wrap64_in _ (by omega)]; omega
theorem w_add1 {a e : Nat} (h : e ≤ 1048578) (he : e = a + 1) : wrap64 ((a : Int) + 1) = (e : Int) := by
  rw [wrap64_in _ (by omega)]; omega
theorem w_sub {a b e : Nat} (h : a ≤ 1048578) (he : a = b + e) : wrap64 ((a : Int) - (b : Int)) = (e : Int) := by
  rw [wrap64_in _ (by omega)]; omega
theorem w_all (a n L : Nat) (h : a + n ≤ L) (hL : L ≤ 1048576) : ∃ e n1 nx : Nat, nx = a + n + 1 ∧ a ≤ e ∧ e ≤ L ∧ e - a = n ∧ wrap64 ((a : Int) + (n : Int)) = (e : Int) ∧ wrap64 ((n : Int) + 1) = (n1 : Int) ∧ wrap64 ((a : Int) + (n1 : Int)) = (nx : Int) :=
  ⟨a + n, n + 1, a + n + 1, rfl, by omega, h, by omega, w_add (by omega) rfl, w_add1 (by omega) rfl, w_add (by omega) (by omega)⟩
theorem lineN_le (b : List Int) (m : Nat) (h : lineAt b m < b.length) : lineAt b m + nlN (b.drop (lineAt b m)) ≤ b.length := by
  have := nlN_le (b.drop (lineAt b m))
  simp only [List.length_drop] at this
  omega
set_option maxRecDepth 100000 in
set_option maxHeartbeats 4000000 in
theorem lines_iter (n l B N : Nat) (A : Option Addr) (c : Nat) (b : List Int) (w W1 : World) (Kp : World → World → Prop) (J : Nat → World → Prop) (hb : Kd.C (Kd.int .u8) w A b.length b) (hc : b.length ≤ c) (hsz : b.length ≤ 1048576) (hB : w.heap.size ≤ B) (hN : N = lineCount b.length b)
    (hW : Below w.heap.size w W1) (hKw : ∀ X Y, Kp X Y → Below w.heap.size w X → Below w.heap.size w Y) (hKp : ∀ X Y v, Kp X Y → X.heap[B]? = some (.cells #[v] 23 (0, 0)) → Y.heap[B]? = some (.cells #[v] 23 (0, 0)))
    (hAb : ∀ m X d, J m X → J m (World.drewN X d))
    (hY : ∀ (m : Nat) (W : World), m < N → J m W → YieldAt Fence.wide (n - 1) Tryz.prog l #[.int .i64 (lineAt b m : Int), .slice (dropA A c (lineAt b m)) (nlN (b.drop (lineAt b m))) (c - lineAt b m)] W fun e W' => e = .returned (.bool true) ∧ J (m + 1) W' ∧ Kp W W') (h0 : J 0 W1)
    (hx : W1.heap[B]? = some (.cells #[.slice A b.length c] 23 (0, 0))) :
    CallsIn Fence.wide n Tryz.prog 124 #[.func (.yield l) #[] #[], .pointer (some ⟨B, 0, none⟩)] W1 fun e W' => (∃ v, e = .returned v) ∧ J N W' := by
  refine callsIn_wide.2 ?_
  have HR := Aside0.mk hb
  have HC := Aside0.mk hc
  have HW := Aside0.mk hW
  have HKW := Aside0.mk hKw
  have HKP := Aside0.mk hKp
  have HAB := Aside0.mk hAb
  have HY := Aside0.mk hY
  have HJ0 := Aside0.mk h0
  have HX0 := Aside0.mk hx
  have HN := Aside0.mk hN
  have HBw := Aside0.mk hB
  have HM := Aside0.mk hsz
  obtain ⟨i5, hi5, _, hz5, _⟩ := info_parts info5
  have HI5 := Aside0.mk hi5
  have HZ := Aside0.mk hz5
  clear hb hc hsz hW hKw hKp hAb hY h0 hx hN hB hi5 hz5
  go_enter Tryz.func124, Tryz.ntmps124
  go_wp2
  go_loopg [3] N (fun gk v3 W => ∃ m : Nat, v3 = .int .i64 (lineAt b m : Int) ∧ Aside0 (m + gk = N) ∧ Aside0 (J m W) ∧ Aside0 (W.heap[B]? = some (.cells #[.slice A b.length c] 23 (0, 0))) ∧ Aside0 (Below w.heap.size w W))
  case atStart => exact ⟨0, rfl, ⟨by omega⟩, HJ0, HX0, HW⟩
  case round =>
    clear HJ0 HX0 HW
    obtain ⟨m, rfl, HMN, HJ, HX, HW⟩ := hrel
    have hc0 := (blk_cell HX.out 0).trans (show (#[Value.slice A b.length c])[0]? = _ from rfl)
    cases gk with
    | zero =>
      obtain rfl : m = N := by have := HMN.out; omega
      have hle := line_none b.length b (Nat.le_refl _)
      rw [← HN.out] at hle
      have c1 : decide ((lineAt b m : Int) < (b.length : Int)) = false := decide_eq_false (by omega)
      have c1' : decide (lineAt b m < b.length) = false := decide_eq_false (by omega)
      clear hle
      go_wp2
      go_end0
      exact ⟨⟨_, rfl⟩, HJ.out⟩
    | succ k1 =>
      have hlt := line_some b.length m b (Nat.le_refl _) (by rw [← HN.out]; have := HMN.out; omega)
      have hle := lineN_le b m hlt
      have hm := HM.out
      obtain ⟨at_, hat⟩ : ∃ a, a = lineAt b m := ⟨_, rfl⟩
      obtain ⟨nn, hnn⟩ : ∃ a, a = nlN (b.drop at_) := ⟨_, rfl⟩
      have hY := fun W hJ => HY.out m W (by have := HMN.out; omega) hJ
      have hnext : lineAt b (m + 1) = at_ + nn + 1 := by rw [lineAt, ← hat, ← hnn]
      rw [← hat] at hY hlt hle ⊢
      rw [← hnn] at hY hle
      have c1 : decide ((at_ : Int) < (b.length : Int)) = true := decide_eq_true (by omega)
      have c1' : decide (at_ < b.length) = true := decide_eq_true (by omega)
      have hC1 := C_dropA (Kd.C_below HR.out HW.out) at_ (by omega) HC.out
      have hdl : (b.drop at_).length = b.length - at_ := by simp
      have hs1 := slice_from Tryz.underlying23 HI5.out HZ.out A b.length c at_ (by omega)
      obtain ⟨ee, n1, nx, hnx, he1, he2, he3, hw1, hw2, hw3⟩ := w_all at_ nn b.length hle hm
      rw [← hnx] at hnext
      have hs2 := slice_mid Tryz.underlying23 HI5.out HZ.out A b.length c at_ ee he1 (Nat.le_trans he2 HC.out)
      rw [he3] at hs2
      obtain ⟨rr, hrr⟩ : ∃ rr : Int, rr = if nn < (b.drop at_).length then (nn : Int) else -1 := ⟨_, rfl⟩
      have hcall : ∀ W, Kd.C (Kd.int .u8) W (dropA A c at_) (b.drop at_).length (b.drop at_) → Calls Tryz.prog 125 #[.slice (dropA A c at_) (b.length - at_) (c - at_), .int .u8 10] W fun x w' => x = .returned (.int .i64 rr) ∧ w' = W := by
        intro W hC
        have h := ixb_calls (dropA A c at_) (c - at_) (b.drop at_) W hC
        rw [← hnn, ← hrr, hdl] at h
        exact h
      have HCALL := Aside0.mk (hcall _ hC1)
      have HRR := Aside0.mk hrr
      have HDL := Aside0.mk hdl
      have HNX := Aside0.mk hnext
      have HAT := Aside0.mk (And.intro hlt hle)
      have HY2 := Aside0.mk hY
      have HS2 := Aside0.mk hs2
      have HW1 := Aside0.mk hw1
      have HW2 := Aside0.mk (And.intro hw2 hw3)
      clear hC1 hcall hrr hdl hnext hlt hle hY hm hat hnn hs2 hw1 hw2 hw3 hnx he1 he2 he3
      go_upto_if 14 with (go_at_call 125; refine (HCALL.out).mono ?_; rintro x w2 ⟨rfl, h9⟩; rw [h9]; clear h9)
      obtain ⟨q, hq⟩ : ∃ q, decide (rr < 0) = q := ⟨_, rfl⟩
      have HQ := Aside0.mk hq
      rw [hq]
      clear hq
      go_cut [4] (fun v4 W => v4 = .int .i64 (nn : Int) ∧ wr = W)
      case first =>
        by_cases hn : nn < (b.drop at_).length
        · have h := HRR.out
          rw [if_pos hn] at h
          subst h
          obtain rfl : q = false := by rw [← HQ.out]; exact decide_eq_false (by omega)
          clear hn
          go_wp2
          go_meet
          case rel => exact ⟨rfl, rfl⟩
        · have h := HRR.out
          rw [if_neg hn] at h
          subst h
          obtain rfl : q = true := by rw [← HQ.out]; rfl
          have hw4 : wrap64 ((b.length : Int) - (at_ : Int)) = (nn : Int) := by
            have := HAT.out
            have := HDL.out
            have := HM.out
            exact w_sub (by omega) (by omega)
          clear hn
          go_wp2
          go_meet
          case rel => exact ⟨by first | rfl | rw [hw4], rfl⟩
      case rest =>
        obtain ⟨rfl, hwr⟩ := hcut
        subst hwr
        have hs2 := HS2.out
        have hw1 := HW1.out
        obtain ⟨fn, tmps_, asg, bdy, hy, hRr⟩ := HY2.out wr HJ.out
        go_upto_region 5 with (fail)
        refine (wpIn_wide (n := n)).1 ?_
        gi_wp2
        refine ⟨fun h => (by simp [Fence.wide] at h), hRr.mono ?_⟩
        rintro e W5 ⟨rfl, hJ5, hk5⟩
        have HX5 := Aside0.mk (HKP.out _ _ _ hk5 HX.out)
        have HJ5 := Aside0.mk hJ5
        have HW5 := Aside0.mk (HKW.out _ _ hk5 HW.out)
        have hw2 := HW2.out.1
        have hw3 := HW2.out.2
        clear hJ5 hk5 hs2 hw1 hy hRr
        gi_wp2
        go_wp2
        go_roundg k1
        case measure => omega
        case rel => exact ⟨m + 1, by rw [hw3, HNX.out], ⟨by have := HMN.out; omega⟩, HJ5, HX5, HW5⟩
end Go.Proofs.YtgcjjapcniocaaaGreatDoor.G
namespace Go.Proofs.YtgcjjapcniocaaaGreatDoor.G
open Go.RowKit Go.Proofs.YtgcjjapcniocaaaGreatDoorW.PrintWords Go.Proofs.YtgcjjapcniocaaaGreatDoorW.PrintLast Go.Proofs.YtgcjjapcniocaaaGreatDoorW.PrintMore
attribute [local go_sem] max2_int min2_int max_two min_two max_three min_three max_four min_four
set_option linter.unusedVariables false
set_option linter.unusedSimpArgs false
set_option pp.deepTerms true
set_option pp.maxSteps 100000
/-! #### input.Records -/
structure S102 where
  f0 : Int
  f1 : ByteArray
def z102 : S102 := ⟨0, ⟨#[]⟩⟩
def k102 : Kd S102 := Kd.iso (Kd.pair (Kd.int .i64) Kd.string) (fun x : S102 => (x.f0, x.f1))
theorem k102_mkM (w : World) (base : Nat) (ok : Nat → Prop) (x : S102) : k102.M w base ok x [.int .i64 x.f0, .string x.f1] := ⟨[.int .i64 x.f0], [.string x.f1], rfl, rfl, rfl⟩
theorem k102_open {w : World} {x : S102} {cs : List Value} (h : k102.K w x cs) : cs = [.int .i64 x.f0, .string x.f1] := by
  obtain ⟨_, _, rfl, rfl, rfl⟩ := h
  exact rfl
theorem info102 : (Tryz.prog.info? 102).map (fun i => (i.zero, i.size, i.bytes)) = some (some (.agg #[(.int .i64 0), (.string ⟨#[]⟩)]), 2, 24) := by kernel_rfl
def recAt (b : List Int) : Nat → List S102
  | 0 => []
  | m + 1 => recAt b m ++ [⟨(lineAt b m : Int), strOfNums (lineOf b m)⟩]
def recsF (b : List Int) : List S102 := recAt b (lineCount b.length b)
theorem recAt_len (b : List Int) : ∀ m, (recAt b m).length = m
  | 0 => rfl
  | m + 1 => by rw [recAt, List.length_append, recAt_len b m]; rfl
theorem lineCount_le : ∀ (k : Nat) (b : List Int), lineCount k b ≤ k
  | 0, b => Nat.le_refl _
  | k + 1, b => by
    rw [lineCount]
    split
    · omega
    · have := lineCount_le k (b.drop (nlN b + 1))
      omega
structure RJ (w : World) (A : Option Addr) (c : Nat) (b : List Int) (m : Nat) (W : World) : Prop where
  l : ∃ v, W.heap[w.heap.size]? = some (.cells #[v] 43 (0, 0)) ∧ Kd.R k102 102 W w.heap.size (fun _ => True) v (recAt b m)
  a : W.heap[w.heap.size + 1]? = some (.cells #[.int .i64 0] 3 (0, 0))
  e : W.heap[w.heap.size + 2]? = some (.cells #[.int .i64 0] 35 (0, 0))
  x : W.heap[w.heap.size + 3]? = some (.cells #[.slice A b.length c] 23 (0, 0))
  B : Below w.heap.size w W
theorem RJ.step {w : World} {A : Option Addr} {c : Nat} {b : List Int} {m : Nat} {W W' : World} (h : RJ w A c b m W) (hb : ∀ g cs t, w.heap.size ≤ g → W.heap[g]? = some (.cells cs t (0, 0)) → W'.heap[g]? = W.heap[g]?) (hB : Below w.heap.size w W') : RJ w A c b m W' := by
  obtain ⟨⟨v, h1, h2⟩, ha, he, hx, _⟩ := h
  refine ⟨⟨v, (hb _ _ _ (Nat.le_refl _) h1).trans h1, ?_⟩, (hb _ _ _ (by omega) ha).trans ha, (hb _ _ _ (by omega) he).trans he, (hb _ _ _ (by omega) hx).trans hx, hB⟩
  refine Kd.R_mono (Kd.R_move (Kd.R_bound h2) ?_) (fun _ _ => trivial)
  rintro g ⟨_, hg, _, q, hq, cs, hc⟩
  exact hb g cs q hg hc
def RKp (w : World) (X Y : World) : Prop := (∀ v, X.heap[w.heap.size + 3]? = some (.cells #[v] 23 (0, 0)) → Y.heap[w.heap.size + 3]? = some (.cells #[v] 23 (0, 0))) ∧ (Below w.heap.size w X → Below w.heap.size w Y)
theorem results_recs {tmps : Array Value} {w : World} {g : Nat} {v : Value} {x y : Value} (hp : tmps.getD 2 undef = .pointer (some ⟨g, 0, none⟩)) (hq : tmps.getD 3 undef = .pointer (some ⟨g + 1, 0, none⟩)) (hr : tmps.getD 4 undef = .pointer (some ⟨g + 2, 0, none⟩))
    (h0 : w.cell? ⟨g, 0, none⟩ = some v) (h1 : w.cell? ⟨g + 1, 0, none⟩ = some x) (h2 : w.cell? ⟨g + 2, 0, none⟩ = some y) : (results Tryz.f57 tmps).run Tryz.prog w = .ok (.tuple #[v, x, y]) w := by
  have e0 : tmps[2]?.getD undef = .pointer (some ⟨g, 0, none⟩) := by simpa using hp
  have e1 : tmps[3]?.getD undef = .pointer (some ⟨g + 1, 0, none⟩) := by simpa using hq
  have e2 : tmps[4]?.getD undef = .pointer (some ⟨g + 2, 0, none⟩) := by simpa using hr
  simp [results, show Tryz.f57.results = #[.cell 2 43, .cell 3 3, .cell 4 35] from rfl, e0, e1, e2, asAddr, go_sem, Tryz.underlying43, Tryz.underlying3, Tryz.underlying35, h0, h1, h2]
end Go.Proofs.YtgcjjapcniocaaaGreatDoor.G
namespace Go.Proofs.YtgcjjapcniocaaaGreatDoor.G
open Go.RowKit Go.Proofs.YtgcjjapcniocaaaGreatDoorW.PrintWords Go.Proofs.YtgcjjapcniocaaaGreatDoorW.PrintLast Go.Proofs.YtgcjjapcniocaaaGreatDoorW.PrintMore
attribute [local go_sem] max2_int min2_int max_two min_two max_three min_three max_four min_four
set_option linter.unusedVariables false
set_option linter.unusedSimpArgs false
set_option pp.deepTerms true
set_option pp.maxSteps 100000
theorem keep102 {W : World} {base : Nat} {v : Value} {xs : List S102} (ho : Kd.R k102 102 W base (fun _ => True) v xs) {g : Nat} {cs : Array Value} {t : TypeId} (hg : W.heap[g]? = some (.cells cs t (0, 0))) (ht : 102 ≠ t) (u : Value) : Kd.R k102 102 (W.setCell ⟨g, 0, none⟩ u) base (fun _ => True) v xs :=
  Kd.R_mono (Kd.R_far (Kd.R_types ho hg (by intro q hq; cases hq with | head => exact ht | tail _ h => cases h)) (p := ⟨g, 0, none⟩) (fun k hk => hk.2) u) (fun _ _ => trivial)
attribute [local go_sem] Oper.semAt_some in
set_option maxRecDepth 100000 in
set_option maxHeartbeats 8000000 in
theorem records_calls (A : Option Addr) (c : Nat) (b : List Int) (w : World) (hr : Kd.C (Kd.int .u8) w A b.length b) (hc : b.length ≤ c) (hsz : b.length < 65536) :
    Calls Tryz.prog 57 #[.slice A b.length c] w fun e w' => ∃ v, e = .returned (.tuple #[v, .int .i64 (b.length : Int), .int .i64 0]) ∧ Kd.R k102 102 w' w.heap.size (fun _ => True) v (recsF b) ∧ Below w.heap.size w w' := by
  have HR := Aside0.mk hr
  have HC := Aside0.mk hc
  have HSZ := Aside0.mk hsz
  have c1 : decide ((b.length : Int) > 1048576) = false := decide_eq_false (by omega)
  have c1' : decide (1048576 < b.length) = false := decide_eq_false (by omega)
  clear hr hc hsz
  refine (callsIn_wide (n := 4)).1 ?_
  refine callsIn_of_wp_marks Tryz.func57 rfl trivial ?_
  simp only [Tryz.ntmps57, List.size_toArray, List.length_cons, List.length_nil, Nat.reduceAdd, Nat.reduceSub, Array.replicate_succ, Array.replicate_zero, List.push_toArray, List.append_toArray, List.nil_append, List.cons_append]
  refine wpIn_wide.2 ?_
  go_wp2_with (go_at_call 98; refine (lines_calls A b.length c _).mono ?_; rintro e w1 ⟨rfl, rfl⟩)
  obtain ⟨W0, hW0⟩ : ∃ W0, (((w.alloc (.cells #[.slice none 0 0] 43)).alloc (.cells #[.int .i64 0] 3)).alloc (.cells #[.int .i64 0] 35)).alloc (.cells #[.slice A b.length c] 23) = W0 := ⟨_, rfl⟩
  have e0 : W0.heap[w.heap.size]? = some (.cells #[.slice none 0 0] 43 (0, 0)) := by rw [← hW0]; simp only [World.alloc, World.drewN, Array.getElem?_push, Array.size_push]; repeat (first | rw [if_pos trivial] | rw [if_pos (by omega)] | rw [if_neg (by omega)]); try rfl
  have e1 : W0.heap[w.heap.size + 1]? = some (.cells #[.int .i64 0] 3 (0, 0)) := by rw [← hW0]; simp only [World.alloc, World.drewN, Array.getElem?_push, Array.size_push]; repeat (first | rw [if_pos trivial] | rw [if_pos (by omega)] | rw [if_neg (by omega)]); try rfl
  have e2 : W0.heap[w.heap.size + 2]? = some (.cells #[.int .i64 0] 35 (0, 0)) := by rw [← hW0]; simp only [World.alloc, World.drewN, Array.getElem?_push, Array.size_push]; repeat (first | rw [if_pos trivial] | rw [if_pos (by omega)] | rw [if_neg (by omega)]); try rfl
  have e3 : W0.heap[w.heap.size + 3]? = some (.cells #[.slice A b.length c] 23 (0, 0)) := by rw [← hW0]; simp only [World.alloc, World.drewN, Array.getElem?_push, Array.size_push]; repeat (first | rw [if_pos trivial] | rw [if_pos (by omega)] | rw [if_neg (by omega)]); try rfl
  have es : W0.heap.size = w.heap.size + 4 := by rw [← hW0]; simp
  have eB : Below w.heap.size w W0 := by rw [← hW0]; repeat (first | exact Below.refl _ _ | apply below_alloc)
  rw [hW0]
  have HJ0 : Aside0 (RJ w A c b 0 W0) := ⟨⟨⟨.slice none 0 0, e0, Kd.R_nil _ _ _ _ _⟩, e1, e2, e3, eB⟩⟩
  have HE3 := Aside0.mk e3
  have HES := Aside0.mk es
  clear hW0 e0 e1 e2 e3 es eB
  obtain ⟨N, hN⟩ : ∃ N, N = lineCount b.length b := ⟨_, rfl⟩
  have HN := Aside0.mk hN
  have HNL := Aside0.mk (show N < 65536 from by have := lineCount_le b.length b; have := HSZ.out; omega)
  clear hN
  refine (wpIn_wide (n := 4)).1 ?_
  refine range_stage (gf := 124) (lb := #[.pointer (some ⟨w.heap.size + 3, 0, none⟩)]) (by simp [go_sem]) (fun args w => enters_ Tryz.func124 (by kernel_rfl) rfl args w) N (fun m => #[.int .i64 (lineAt b m : Int), .slice (dropA A c (lineAt b m)) (nlN (b.drop (lineAt b m))) (c - lineAt b m)]) (fun _ => rfl)
    (RKp w) (fun X Y => ∃ m, Y = X.drewN m) (RJ w A c b) ?jo ?jn HJ0.out ?abo ?abj (fun h k => ⟨fun v hv => k.1 v (h.1 v hv), fun hb => k.2 (h.2 hb)⟩) ?kb ?iter ?round ?done
  case jo =>
    intro m W g o o' hg ho hco hJ
    exact hJ.step (fun i cs t hi hx => World.putObj_heap_other (ne_of_noncell hx ho hco)) (hJ.B.trans ⟨rfl, rfl, rfl, by simp, fun i hi => World.putObj_heap_other (by have := HES.out; omega)⟩)
  case jn =>
    intro W o hJ
    exact hJ.step (fun i cs t hi hx => (blk_alloc hx _).trans hx.symm) (hJ.B.alloc hJ.B.size _)
  case abo =>
    rintro X Y g o ⟨m, rfl⟩ hk hc
    exact hk
  case abj =>
    rintro m X Y hJ ⟨d, rfl⟩
    exact hJ.step (fun _ _ _ _ _ => rfl) (pw_below_drewN hJ.B d)
  case kb =>
    intro W g o o' hg ho hco
    exact ⟨fun v hv => (World.putObj_heap_other (ne_of_noncell hv ho hco)).trans hv, fun hb => hb.trans ⟨rfl, rfl, rfl, by simp, fun i hi => World.putObj_heap_other (by have := HES.out; omega)⟩⟩
  case iter =>
    intro li W1 Jr hg hs hAb hY h0
    have hB1 : Below w.heap.size w W1 := HJ0.out.B.grown hg (by have := HES.out; omega) (by simp)
    exact lines_iter 3 li (w.heap.size + 3) N A c b w W1 (RKp w) Jr HR.out HC.out (by have := HSZ.out; omega) (by omega) HN.out hB1 (fun X Y h => h.2) (fun X Y v h => h.1 v) (fun m X d h => hAb m X _ h ⟨d, rfl⟩) hY h0 (blk_grown HE3.out hg (by simp))
  case done =>
    intro D W hD hJ hK
    obtain ⟨⟨v, h1, h2⟩, h3, h4, h5, h6⟩ := hJ
    obtain ⟨Al, cl, rfl, hl, hC⟩ := Kd.R_reads h2
    have k0 : W.cell? ⟨w.heap.size, 0, none⟩ = some (.slice Al (recAt b N).length cl) := (blk_cell h1 0).trans rfl
    have k1 : W.cell? ⟨w.heap.size + 1, 0, none⟩ = some (.int .i64 0) := (blk_cell h3 0).trans rfl
    have k2 : W.cell? ⟨w.heap.size + 1 + 1, 0, none⟩ = some (.int .i64 0) := (blk_cell h4 0).trans rfl
    have f0 : W.frozen? ⟨w.heap.size, 0, none⟩ = false := blk_frozen h1 0
    have f1 : W.frozen? ⟨w.heap.size + 1, 0, none⟩ = false := blk_frozen h3 0
    have f2 : W.frozen? ⟨w.heap.size + 1 + 1, 0, none⟩ = false := blk_frozen h4 0
    have H1 := Aside0.mk h1
    have H2 := Aside0.mk h2
    have H3 := Aside0.mk h3
    have H4 := Aside0.mk h4
    have H6 := Aside0.mk h6
    have HK := Aside0.mk hK
    have HD := Aside0.mk hD
    clear h1 h2 h3 h4 h5 h6 hK hD hC hl
    gi_wp2
    go_wp2
    have hd1 : D ≠ w.heap.size := by have := HD.out; have := HES.out; omega
    have hd2 : D ≠ w.heap.size + 1 := by have := HD.out; have := HES.out; omega
    have hd3 : D ≠ w.heap.size + 1 + 1 := by have := HD.out; have := HES.out; omega
    obtain ⟨W1, hW1⟩ : ∃ W1, W.setCell ⟨w.heap.size, 0, none⟩ (.slice Al (recAt b N).length cl) = W1 := ⟨_, rfl⟩
    have a0 : W1.heap[w.heap.size]? = some (.cells #[.slice Al (recAt b N).length cl] 43 (0, 0)) := by rw [← hW1]; simpa using blk_set H1.out 0 (.slice Al (recAt b N).length cl)
    have a1 : W1.heap[w.heap.size + 1]? = some (.cells #[.int .i64 0] 3 (0, 0)) := by rw [← hW1]; exact (set_ne (by omega)).trans H3.out
    have a2 : W1.heap[w.heap.size + 2]? = some (.cells #[.int .i64 0] 35 (0, 0)) := by rw [← hW1]; exact (set_ne (by omega)).trans H4.out
    have aD : W1.heap[D]? = some (.deferred (some [])) := by rw [← hW1]; exact (set_ne hd1).trans HK.out
    have aR := keep102 H2.out H1.out (by decide) (.slice Al (recAt b N).length cl)
    have aB : Below w.heap.size w W1 := by rw [← hW1]; exact H6.out.setCell (p := ⟨w.heap.size, 0, none⟩) (Nat.le_refl _) _
    rw [hW1] at aR ⊢
    clear hW1
    obtain ⟨W2, hW2⟩ : ∃ W2, W1.setCell ⟨w.heap.size + 1, 0, none⟩ (.int .i64 b.length) = W2 := ⟨_, rfl⟩
    have b0 : W2.heap[w.heap.size]? = some (.cells #[.slice Al (recAt b N).length cl] 43 (0, 0)) := by rw [← hW2]; exact (set_ne (by omega)).trans a0
    have b1 : W2.heap[w.heap.size + 1]? = some (.cells #[.int .i64 b.length] 3 (0, 0)) := by rw [← hW2]; simpa using blk_set a1 0 (.int .i64 b.length)
    have b2 : W2.heap[w.heap.size + 2]? = some (.cells #[.int .i64 0] 35 (0, 0)) := by rw [← hW2]; exact (set_ne (by omega)).trans a2
    have bD : W2.heap[D]? = some (.deferred (some [])) := by rw [← hW2]; exact (set_ne hd2).trans aD
    have bR := keep102 aR a1 (by decide) (.int .i64 b.length)
    have bB : Below w.heap.size w W2 := by rw [← hW2]; exact aB.setCell (p := ⟨w.heap.size + 1, 0, none⟩) (Nat.le_succ _) _
    rw [hW2] at bR ⊢
    clear hW2
    obtain ⟨W3, hW3⟩ : ∃ W3, W2.setCell ⟨w.heap.size + 1 + 1, 0, none⟩ (.int .i64 0) = W3 := ⟨_, rfl⟩
    have c0 : W3.heap[w.heap.size]? = some (.cells #[.slice Al (recAt b N).length cl] 43 (0, 0)) := by rw [← hW3]; exact (set_ne (by omega)).trans b0
    have c1 : W3.heap[w.heap.size + 1]? = some (.cells #[.int .i64 b.length] 3 (0, 0)) := by rw [← hW3]; exact (set_ne (by omega)).trans b1
    have c2 : W3.heap[w.heap.size + 2]? = some (.cells #[.int .i64 0] 35 (0, 0)) := by rw [← hW3]; simpa using blk_set b2 0 (.int .i64 0)
    have cD : W3.heap[D]? = some (.deferred (some [])) := by rw [← hW3]; exact (set_ne hd3).trans bD
    have cR := keep102 bR b2 (by decide) (.int .i64 0)
    have cB : Below w.heap.size w W3 := by rw [← hW3]; exact bB.setCell (p := ⟨w.heap.size + 1 + 1, 0, none⟩) (Nat.le_trans (Nat.le_succ _) (Nat.le_succ _)) _
    rw [hW3] at cR ⊢
    clear hW3 aR bR a0 a1 a2 b0 b1 b2
    refine ⟨by simp, .inl ⟨_, _, rfl, run_takeDeferred cD, ?_⟩⟩
    refine ⟨_, results_recs (g := w.heap.size) (v := .slice Al (recAt b N).length cl) rfl rfl rfl ?_ ?_ ?_, .slice Al (recAt b N).length cl, rfl, ?_, ?_⟩
    · exact (blk_cell ((World.putObj_heap_other (ne_of_noncell c0 cD rfl)).trans c0) 0).trans rfl
    · exact (blk_cell ((World.putObj_heap_other (ne_of_noncell c1 cD rfl)).trans c1) 0).trans rfl
    · exact (blk_cell ((World.putObj_heap_other (ne_of_noncell c2 cD rfl)).trans c2) 0).trans rfl
    · show Kd.R k102 102 _ _ _ _ (recAt b (lineCount b.length b))
      rw [← HN.out]
      refine Kd.R_mono (Kd.R_move (Kd.R_bound cR) ?_) (fun _ _ => trivial)
      rintro g ⟨_, _, _, q, _, cs, hc⟩
      exact World.putObj_heap_other (ne_of_noncell hc cD rfl)
    · exact cB.trans ⟨rfl, rfl, rfl, by simp, fun i hi => World.putObj_heap_other (by have := HD.out; have := HES.out; omega)⟩
  case round =>
    intro li m W hm hl hJ
    gi_wp2
    refine ⟨KeepsOthers.refl _, hJ, ⟨fun _ h => h, fun h => h⟩, ?_⟩
    clear hJ
    intro W2 hJ _ _
    have hlt := line_some b.length m b (Nat.le_refl _) (by rw [← HN.out]; exact hm)
    have hle := lineN_le b m hlt
    have hsz := HSZ.out
    have hmn := HNL.out
    have hrl := recAt_len b m
    obtain ⟨⟨v, h1, h2⟩, h3, h4, h5, h6⟩ := hJ
    obtain ⟨Al, cl, rfl, hl2, hC⟩ := Kd.R_reads h2
    rw [hrl] at h1 h2
    have hCL : Kd.C (Kd.int .u8) W2 (dropA A c (lineAt b m)) (nlN (b.drop (lineAt b m))) (lineOf b m) := by
      have h := C_takeA (C_dropA (Kd.C_below HR.out h6) (lineAt b m) (by omega) HC.out) (nlN (b.drop (lineAt b m))) (nlN_le _)
      have e : (lineOf b m).length = nlN (b.drop (lineAt b m)) := by
        unfold lineOf
        rw [List.length_take]
        have := nlN_le (b.drop (lineAt b m))
        omega
      rw [← e]
      exact h
    have hrec : recAt b (m + 1) = recAt b m ++ [⟨(lineAt b m : Int), strOfNums (lineOf b m)⟩] := rfl
    obtain ⟨L, hL⟩ : ∃ L, lineOf b m = L := ⟨_, rfl⟩
    obtain ⟨RC, hRC⟩ : ∃ RC, recAt b m = RC := ⟨_, rfl⟩
    obtain ⟨RN, hRN⟩ : ∃ RN, recAt b (m + 1) = RN := ⟨_, rfl⟩
    rw [hL] at hCL hrec
    rw [hRC] at h2 hrl hrec
    rw [hRN] at hrec
    obtain ⟨n, hn⟩ : ∃ n, nlN (b.drop (lineAt b m)) = n := ⟨_, rfl⟩
    rw [hn] at hCL hle ⊢
    obtain ⟨at_, hat⟩ : ∃ a, lineAt b m = a := ⟨_, rfl⟩
    rw [hat] at hCL hle hlt hrec ⊢
    have hcv := Kd.C_string (P := Tryz.prog) (c := c - at_) Tryz.underlying23 Tryz.underlying5 Tryz.underlying9 hCL
    have g1 : decide ((n : Int) > 65536) = false := decide_eq_false (by omega)
    have g1' : decide (65536 < n) = false := decide_eq_false (by omega)
    have g2 : decide ((m : Int) ≥ 65536) = false := decide_eq_false (by omega)
    have g2' : decide (65536 ≤ m) = false := decide_eq_false (by omega)
    have k0 : W2.cell? ⟨w.heap.size, 0, none⟩ = some (.slice Al m cl) := (blk_cell h1 0).trans rfl
    have f0 : W2.frozen? ⟨w.heap.size, 0, none⟩ = false := blk_frozen h1 0
    have H1 := Aside0.mk h1
    have H2 := Aside0.mk h2
    have H3 := Aside0.mk h3
    have H4 := Aside0.mk h4
    have H5 := Aside0.mk h5
    have H6 := Aside0.mk h6
    have HREC := Aside0.mk hrec
    have HRN := Aside0.mk hRN
    have HM := Aside0.mk (And.intro hmn hm)
    have HRL := Aside0.mk hrl
    clear h1 h2 h3 h4 h5 h6 hlt hle hsz hmn hrl hrec hCL hC hl2 hn hat hL hRC hRN hl hm
    gi_wp2_with (gi_at_builtin; refine wpListIn_of_wpList (no_lets (fun _ _ h => by have h' : Exit.outgrown = Exit.normal ∧ _ := h; cases h'.1)) _ _ _ (by rfl) ?_; go_loud (refine Kd.R_append k102 (w0 := w) w.heap.size rfl (.tmp 24) (.tmp 29) 43 102 (.agg #[(.int .i64 0), (.string ⟨#[]⟩)]) 24 rfl Tryz.underlying43 info102 rfl (by decide) (by omega) (.slice Al m cl) RC (⟨(at_ : Int), strOfNums L⟩ : S102) [.int .i64 (at_ : Int), .string (strOfNums L)] (fun _ => True) (fun j => True ∧ some j ≠ (Value.slice Al m cl).ownBlock) rfl (by simp [go_sem]) (k102_mkM _ _ _ ⟨(at_ : Int), strOfNums L⟩) (fun k hk => hk) (fun _ _ => trivial) H2.out H6.out H6.out.size ?_ ?_; (have h9 := HRL.out; have h8 := HM.out; omega); intro v1 w3 ho3 hb3 hg3 hat3; rw [← HREC.out] at ho3; obtain ⟨A3, c3, hv3, _, _⟩ := Kd.R_reads ho3; obtain ⟨ln, hln⟩ : ∃ ln, RN.length = ln := ⟨_, rfl⟩; rw [hln] at hv3; subst hv3; clear hln; have x3 := blk_grown H1.out hg3 (Kd.R_ne H2.out H1.out (by decide)); have f3 := blk_frozen x3 0; have k3 := (blk_cell x3 0).trans (show (#[Value.slice Al m cl])[0]? = _ from rfl); have HO3 := Aside0.mk ho3; have HB3 := Aside0.mk hb3; have HG3 := Aside0.mk hg3; have HX3 := Aside0.mk x3; clear ho3 hb3 hg3 hat3 x3))
    go_wp2
    have hB := HB3.out.setCell (p := ⟨w.heap.size, 0, none⟩) (Nat.le_refl _) (.slice A3 ln c3)
    refine ⟨?_, ?_, ?_⟩
    · refine (KeepsOthers.of_grownBy HG3.out (fun j o hj ho => ?_)).trans (KeepsOthers.setCell _ _ _)
      obtain ⟨_, _, _, q, _, cs, hc⟩ := (Kd.R_bound H2.out).1 j hj
      rw [ho] at hc
      cases hc
      rfl
    · refine ⟨⟨.slice A3 ln c3, by simpa using blk_set HX3.out 0 (.slice A3 ln c3), ?_⟩, ?_, ?_, ?_, hB⟩
      · rw [HRN.out]
        exact keep102 HO3.out HX3.out (by decide) _
      · exact (set_ne (by omega)).trans (blk_grown H3.out HG3.out (Kd.R_ne H2.out H3.out (by decide)))
      · exact (set_ne (by omega)).trans (blk_grown H4.out HG3.out (Kd.R_ne H2.out H4.out (by decide)))
      · exact (set_ne (by omega)).trans (blk_grown H5.out HG3.out (Kd.R_ne H2.out H5.out (by decide)))
    · exact ⟨fun v hv => (set_ne (by omega)).trans (blk_grown hv HG3.out (Kd.R_ne H2.out hv (by decide))), fun _ => hB⟩
end Go.Proofs.YtgcjjapcniocaaaGreatDoor.G
