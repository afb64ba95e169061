/- What sorted, order and their comparisons answer at the lists of the law's own example. No condition. -/
import Derived.Test.YteaipankdlmeoaaGx0
import Derived.WalkSpells
import Derived.WalkLawsBesides
import Derived.RangeFuncNested
import Derived.RangeFuncBound
import Derived.RangeFuncCalls
import Derived.RangeFuncLeaves
import Derived.RangeFuncBox
import Derived.OwnWalkIn
import Derived.TacticsInMore
import Derived.LoopNIn
import Derived.LoopIn
import Derived.Outline
namespace Go.Proofs.Yteaipankdlmeoaa.G
open Go.RowKit Go.Proofs.YteaipankdlmeoaaW.PrintWords Go.Proofs.YteaipankdlmeoaaW.PrintLast Go.Proofs.YteaipankdlmeoaaW.PrintMore
set_option linter.unusedVariables false
set_option linter.unusedSimpArgs false
theorem bx_at {W : World} {b t : Nat} {cs : Array Value} {v : Value} (h : W.heap[b]? = some (.cells cs t (0, 0))) (j : Nat) (hj : cs[j]? = some v) : W.cell? ⟨b, j, none⟩ = some v := (blk_cell h j).trans hj
section
variable {P : Program} {ops : Array Oper} {Q : Exit → Act → World → Prop} {md : Region.Mode} {S : World → Prop} {ds : List Nat}
/-- A call of a function value that is at hand. -/
theorem goesv_ {oi : Oper} {N : Option Tmp} {a : Act} {w : World} {K : Act → World → Prop} {f : FuncId} {fn : Func} {ps : Array Operand} {ts : Array TypeId} {t : Operand} {cap : Array Value} (hf : P.funcs[f]? = some fn) (hname : (fn.name == "runtime.NumGoroutine") = false) (hb : fn.body.isSome = true) (args : Array Value)
    (hw : Region.wanted oi (yielded ops a.tmps) = true) (hN : oi.dst = N) (hop : oi.op = .call { callee := .value t, args := ps, argTypes := ts }) (hv : a.eval t = .func (.func f) #[] cap) (hargs : ps.map a.eval ++ cap = args)
    (h : Calls P f args w fun e w' => ∃ v, e = .returned v ∧ K (a.put N v) w') : if Region.wanted oi (yielded ops a.tmps) = true then Oper.wp P oi a w K Q else K (a.put N undef) w := by
  refine call_ f args hw hN ?_ h
  have he := enters_ hf hname hb args w
  unfold execOp
  subst hargs
  simp only [hop, resolve, Deferred.ofValue, invoke, hv]
  simpa using he
end
theorem no_lets {Q : Exit → Act → World → Prop} (h : ∀ a w, ¬ Q .outgrown a w) : ¬ LetsOut Q := fun ⟨a, w, hq⟩ => h a w hq
/-- sorted's own comparison at 'b' and 'a'. -/
theorem cmp_ba (u1 u2 u3 u4 : Value) (w : World) :
    Calls Try.prog 32 #[.agg #[.string ⟨#[98]⟩, u1, u2], .agg #[.string ⟨#[97]⟩, u3, u4]] w fun e w' => e = .returned (.int .i64 1) ∧ Below w.heap.size w w' := by
  go_enter Try.func32, Try.ntmps32
  go_wp2
  go_ret
  exact ⟨rfl, by repeat (first | (with_reducible first | exact Below.refl _ _ | apply below_alloc | apply below_drew))⟩
/-- Is a list of one item sorted? -/
theorem isSorted_1 (A : Option Addr) (c : Nat) (w : World) :
    Calls Try.prog 31 #[.slice A 1 c, .func (.func 32) #[] #[]] w fun e w' => e = .returned (.bool true) ∧ Below w.heap.size w w' := by
  go_enter Try.func31, Try.ntmps31
  go_wp2
  go_loopg [5] 0 (fun gk v5 w' => v5 = .int .i64 0 ∧ Aside0 (Below w.heap.size w w'))
  case atStart => exact ⟨rfl, ⟨by repeat (first | (with_reducible first | exact Below.refl _ _ | apply below_alloc | apply below_drew))⟩⟩
  case round =>
    obtain ⟨rfl, HB⟩ := hrel
    go_wp2
    go_ret
    exact ⟨rfl, HB.out⟩
set_option maxHeartbeats 1000000 in
/-- Is the list of 'a' and 'b' sorted? -/
theorem isSorted_ab {g c n1 c1 n2 c2 m1 d1 m2 d2 : Nat} {a1 a2 b1 b2 : Option Addr} (w : World) (hx : w.heap[g]? = some (.cells #[.string ⟨#[97]⟩, .slice a1 n1 c1, .slice a2 n2 c2, .string ⟨#[98]⟩, .slice b1 m1 d1, .slice b2 m2 d2] 30 (0, 0))) :
    Calls Try.prog 31 #[.slice (some ⟨g, 0, none⟩) 2 c, .func (.func 32) #[] #[]] w fun e w' => e = .returned (.bool true) ∧ Below w.heap.size w w' := by
  have HX0 := Aside0.mk hx
  clear hx
  go_enter Try.func31, Try.ntmps31
  go_wp2
  go_loopg [5] 1 (fun gk v5 w' => v5 = .int .i64 (gk : Int) ∧ Aside0 (gk ≤ 1) ∧ Aside0 (Below w.heap.size w w'))
  case atStart => exact ⟨by first | rfl | simp, ⟨by omega⟩, ⟨by repeat (first | (with_reducible first | exact Below.refl _ _ | apply below_alloc | apply below_drew))⟩⟩
  case round =>
    obtain ⟨rfl, HK, HB⟩ := hrel
    cases gk with
    | zero =>
      go_wp2
      go_ret
      exact ⟨rfl, HB.out⟩
    | succ k1 =>
      obtain rfl : k1 = 0 := by have := HK.out; omega
      have HX : Aside0 (wr.heap[g]? = some (.cells #[.string ⟨#[97]⟩, .slice a1 n1 c1, .slice a2 n2 c2, .string ⟨#[98]⟩, .slice b1 m1 d1, .slice b2 m2 d2] 30 (0, 0))) := ⟨blk_below HX0.out HB.out⟩
      have hw0 : wrap64 0 = 0 := by unfold wrap64; omega
      go_upto_region 4 with (fail)
      refine start_ (n := 12) (S := fun w' => w'.cell? ⟨g, 0, none⟩ = some (.string ⟨#[97]⟩) ∧ w'.cell? ⟨g, 1, none⟩ = some (.slice a1 n1 c1) ∧ w'.cell? ⟨g, 2, none⟩ = some (.slice a2 n2 c2) ∧ w'.cell? ⟨g, 3, none⟩ = some (.string ⟨#[98]⟩) ∧ w'.cell? ⟨g, 4, none⟩ = some (.slice b1 m1 d1) ∧ w'.cell? ⟨g, 5, none⟩ = some (.slice b2 m2 d2)) (ds := []) #[false, false, false, false, false, false, false, false, false, false, false, false] (by kernel_rfl) rfl rfl ⟨bx_at (blk_drew HX.out) 0 rfl, bx_at (blk_drew HX.out) 1 rfl, bx_at (blk_drew HX.out) 2 rfl, bx_at (blk_drew HX.out) 3 rfl, bx_at (blk_drew HX.out) 4 rfl, bx_at (blk_drew HX.out) 5 rfl⟩ (fun hHeld => ?_)
      refine pure_ (i := 0) (N := some 13) (v := ?_) (a' := ?_) #[true, false, false, false, false, false, false, false, false, false, false, false] rfl rfl (by kernel_rfl) (fun _ _ _ h => h) (Or.inl ⟨by rfl, ?_⟩) ?_ ?_
      rotate_left
      · intro w'
        go_simp
        with_reducible rfl
      rotate_left
      · simp only [Act.put, List.setIfInBounds_toArray, List.set_cons_zero, List.set_cons_succ, i64_w, i32_w]
        rfl
      refine pure_ (i := 1) (N := some 14) (v := ?_) (a' := ?_) #[true, true, false, false, false, false, false, false, false, false, false, false] rfl rfl (by kernel_rfl) (fun _ _ _ h => h) (Or.inl ⟨by rfl, ?_⟩) ?_ ?_
      rotate_left
      · intro w'
        go_simp
        with_reducible rfl
      rotate_left
      · simp only [Act.put, List.setIfInBounds_toArray, List.set_cons_zero, List.set_cons_succ, i64_w, i32_w]
        rfl
      refine pure_ (i := 2) (N := some 15) (v := ?_) (a' := ?_) #[true, true, true, false, false, false, false, false, false, false, false, false] rfl rfl (by kernel_rfl) (fun _ _ _ h => h) (Or.inl ⟨by rfl, ?_⟩) ?_ ?_
      rotate_left
      · intro w'
        go_simp
        with_reducible rfl
      rotate_left
      · simp only [Act.put, List.setIfInBounds_toArray, List.set_cons_zero, List.set_cons_succ, i64_w, i32_w]
        rfl
      refine pure_ (i := 3) (N := some 16) (v := ?_) (a' := ?_) #[true, true, true, true, false, false, false, false, false, false, false, false] rfl rfl (by kernel_rfl) (fun _ _ _ h => h) (Or.inl ⟨by rfl, ?_⟩) ?_ ?_
      rotate_left
      · intro w'
        go_simp
        with_reducible rfl
      rotate_left
      · simp only [Act.put, List.setIfInBounds_toArray, List.set_cons_zero, List.set_cons_succ, i64_w, i32_w]
        rfl
      refine pure_ (i := 5) (N := some 18) (v := ?_) (a' := ?_) #[true, true, true, true, false, true, false, false, false, false, false, false] rfl rfl (by kernel_rfl) (fun _ _ _ h => h) (Or.inl ⟨by rfl, ?_⟩) ?_ ?_
      rotate_left
      · intro w'
        go_simp
        with_reducible rfl
      rotate_left
      · simp only [Act.put, List.setIfInBounds_toArray, List.set_cons_zero, List.set_cons_succ, i64_w, i32_w]
        rfl
      refine pure_ (i := 6) (N := some 19) (v := ?_) (a' := ?_) #[true, true, true, true, false, true, true, false, false, false, false, false] rfl rfl (by kernel_rfl) (fun _ _ _ h => h) (Or.inl ⟨by rfl, ?_⟩) ?_ ?_
      rotate_left
      · intro w'
        go_simp
        with_reducible rfl
      rotate_left
      · simp only [Act.put, List.setIfInBounds_toArray, List.set_cons_zero, List.set_cons_succ, i64_w, i32_w]
        rfl
      refine pure_ (i := 7) (N := some 20) (v := ?_) (a' := ?_) #[true, true, true, true, false, true, true, true, false, false, false, false] rfl rfl (by kernel_rfl) (fun _ _ _ h => h) (Or.inl ⟨by rfl, ?_⟩) ?_ ?_
      rotate_left
      · intro w'
        go_simp
        with_reducible rfl
      rotate_left
      · simp only [Act.put, List.setIfInBounds_toArray, List.set_cons_zero, List.set_cons_succ, i64_w, i32_w]
        rfl
      refine pure_ (i := 8) (N := some 21) (v := ?_) (a' := ?_) #[true, true, true, true, false, true, true, true, true, false, false, false] rfl rfl (by kernel_rfl) (fun _ _ _ h => h) (Or.inl ⟨by rfl, ?_⟩) ?_ ?_
      rotate_left
      · intro w'
        go_simp
        with_reducible rfl
      rotate_left
      · simp only [Act.put, List.setIfInBounds_toArray, List.set_cons_zero, List.set_cons_succ, i64_w, i32_w]
        rfl
      refine take_ (i := 4) (N := some 17) (v := ?_) (a' := ?_) #[true, true, true, true, true, true, true, true, true, false, false, false] rfl rfl (by kernel_rfl) (fun _ _ _ h => h) (Or.inl ⟨by rfl, ?_⟩) hHeld ?_ ?_
      rotate_left
      · rintro w' ⟨s0, s1, s2, s3, s4, s5⟩
        go_simp
        with_reducible rfl
      rotate_left
      · simp only [Act.put, List.setIfInBounds_toArray, List.set_cons_zero, List.set_cons_succ, i64_w, i32_w]
        rfl
      refine take_ (i := 9) (N := some 22) (v := ?_) (a' := ?_) #[true, true, true, true, true, true, true, true, true, true, false, false] rfl rfl (by kernel_rfl) (fun _ _ _ h => h) (Or.inl ⟨by rfl, ?_⟩) hHeld ?_ ?_
      rotate_left
      · rintro w' ⟨s0, s1, s2, s3, s4, s5⟩
        go_simp
        with_reducible rfl
      rotate_left
      · simp only [Act.put, List.setIfInBounds_toArray, List.set_cons_zero, List.set_cons_succ, i64_w, i32_w]
        rfl
      refine one_ (i := 10) (N := some 23) #[true, true, true, true, true, true, true, true, true, true, true, false] rfl rfl (by kernel_rfl) (by decide) (fun K hK => ?_)
      refine goesv_ Try.func32 (by kernel_rfl) rfl #[.agg #[.string ⟨#[98]⟩, .slice b1 m1 d1, .slice b2 m2 d2], .agg #[.string ⟨#[97]⟩, .slice a1 n1 c1, .slice a2 n2 c2]] (by rfl) rfl rfl (by rfl) (by simp only [List.map_toArray, List.map_cons, List.map_nil]; rfl) ?_
      with_reducible refine (cmp_ba _ _ _ _ _).mono ?_
      rintro e w3 ⟨rfl, hb⟩
      refine ⟨_, rfl, ?_⟩
      have HB3 := Aside0.mk hb
      clear hb
      refine hK.out _ _ ⟨bx_at (blk_below (blk_drew HX.out) HB3.out) 0 rfl, bx_at (blk_below (blk_drew HX.out) HB3.out) 1 rfl, bx_at (blk_below (blk_drew HX.out) HB3.out) 2 rfl, bx_at (blk_below (blk_drew HX.out) HB3.out) 3 rfl, bx_at (blk_below (blk_drew HX.out) HB3.out) 4 rfl, bx_at (blk_below (blk_drew HX.out) HB3.out) 5 rfl⟩ (fun hHeld => ?_)
      clear hK K
      refine norm_ (a' := ?_) ?_ ?_
      rotate_left
      · show Act.put _ (some 23) _ = _
        simp only [Act.put, List.setIfInBounds_toArray, List.set_cons_zero, List.set_cons_succ, i64_w, i32_w]
        rfl
      refine pure_ (i := 11) (N := some 24) (v := ?_) (a' := ?_) #[true, true, true, true, true, true, true, true, true, true, true, true] rfl rfl (by kernel_rfl) (fun _ _ _ h => h) (Or.inl ⟨by rfl, ?_⟩) ?_ ?_
      rotate_left
      · intro w'
        go_simp
        with_reducible rfl
      rotate_left
      · simp only [Act.put, List.setIfInBounds_toArray, List.set_cons_zero, List.set_cons_succ, i64_w, i32_w]
        rfl
      refine done_ (by kernel_rfl) ?_
      go_wp2
      go_roundg 0
      case measure => omega
      case rel => exact ⟨by first | rfl | simp, ⟨by omega⟩, ⟨below_then (below_drew HB.out) HB.out.size HB3.out⟩⟩
theorem sorted_1 (A : Option Addr) (c : Nat) (w : World) :
    Calls Try.prog 23 #[.slice A 1 c] w fun e w' => e = .returned (.bool true) ∧ Below w.heap.size w w' := by
  go_enter Try.func23, Try.ntmps23
  go_wp2_with (go_at_call 31; refine (isSorted_1 _ _ _).mono ?_; rintro e w1 ⟨rfl, hb⟩)
  go_ret
  exact ⟨rfl, hb⟩
theorem sorted_ab {g c n1 c1 n2 c2 m1 d1 m2 d2 : Nat} {a1 a2 b1 b2 : Option Addr} (w : World) (hx : w.heap[g]? = some (.cells #[.string ⟨#[97]⟩, .slice a1 n1 c1, .slice a2 n2 c2, .string ⟨#[98]⟩, .slice b1 m1 d1, .slice b2 m2 d2] 30 (0, 0))) :
    Calls Try.prog 23 #[.slice (some ⟨g, 0, none⟩) 2 c] w fun e w' => e = .returned (.bool true) ∧ Below w.heap.size w w' := by
  have HX0 := Aside0.mk hx
  clear hx
  go_enter Try.func23, Try.ntmps23
  go_wp2_with (go_at_call 31; refine (isSorted_ab _ HX0.out).mono ?_; rintro e w1 ⟨rfl, hb⟩)
  go_ret
  exact ⟨rfl, hb⟩
theorem order_1 (A : Option Addr) (c : Nat) (w : World) :
    Calls Try.prog 18 #[.slice A 1 c] w fun e w' => e = .returned (.slice A 1 c) ∧ Below w.heap.size w w' := by
  go_enter Try.func18, Try.ntmps18
  go_wp2_with (go_at_call 23; refine (sorted_1 _ _ _).mono ?_; rintro e w1 ⟨rfl, hb⟩)
  go_ret
  exact ⟨rfl, hb⟩
theorem order_ab {g c n1 c1 n2 c2 m1 d1 m2 d2 : Nat} {a1 a2 b1 b2 : Option Addr} (w : World) (hx : w.heap[g]? = some (.cells #[.string ⟨#[97]⟩, .slice a1 n1 c1, .slice a2 n2 c2, .string ⟨#[98]⟩, .slice b1 m1 d1, .slice b2 m2 d2] 30 (0, 0))) :
    Calls Try.prog 18 #[.slice (some ⟨g, 0, none⟩) 2 c] w fun e w' => e = .returned (.slice (some ⟨g, 0, none⟩) 2 c) ∧ Below w.heap.size w w' := by
  have HX0 := Aside0.mk hx
  clear hx
  go_enter Try.func18, Try.ntmps18
  go_wp2_with (go_at_call 23; refine (sorted_ab _ HX0.out).mono ?_; rintro e w1 ⟨rfl, hb⟩)
  go_ret
  exact ⟨rfl, hb⟩
end Go.Proofs.Yteaipankdlmeoaa.G
