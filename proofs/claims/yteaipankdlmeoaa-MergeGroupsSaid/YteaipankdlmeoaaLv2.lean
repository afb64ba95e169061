/- What runs.Both answers where both lists are nil. No condition. -/
import Derived.Test.YteaipankdlmeoaaGx0
import Derived.Test.YteaipankdlmeoaaLv1
import Derived.WalkSpells
import Derived.WalkLawsBesides
import Derived.RangeFuncNested
import Derived.RangeFuncBound
import Derived.RangeFuncCalls
import Derived.RangeFuncLeaves
import Derived.RangeFuncBox
import Derived.OwnWalkIn
import Derived.TacticsInMore
import Derived.LoopNIn
import Derived.LoopIn
import Derived.Outline
namespace Go.Proofs.Yteaipankdlmeoaa.G
open Go.RowKit Go.Proofs.YteaipankdlmeoaaW.PrintWords Go.Proofs.YteaipankdlmeoaaW.PrintLast Go.Proofs.YteaipankdlmeoaaW.PrintMore
set_option linter.unusedVariables false
set_option linter.unusedSimpArgs false
theorem grow_0 (w : World) : Calls Try.prog 27 #[.slice none 0 0, .int .i64 0] w fun e w' => e = .returned (.slice none 0 0) ∧ Below w.heap.size w w' := by
  go_enter Try.func27, Try.ntmps27
  go_wp2
  go_ret
  exact ⟨rfl, Below.refl _ _⟩
theorem compact_0 (w : World) : Calls Try.prog 21 #[.slice none 0 0] w fun e w' => e = .returned (.slice none 0 0) ∧ Below w.heap.size w w' := by
  go_enter Try.func21, Try.ntmps21
  go_wp2
  go_ret
  exact ⟨rfl, Below.refl _ _⟩
theorem ins_0 (w : World) : Calls Try.prog 34 #[.slice none 0 0, .int .i64 0, .int .i64 0] w fun e w' => e = .returned (.tuple #[]) ∧ Below w.heap.size w w' := by
  go_enter Try.func34, Try.ntmps34
  go_wp2
  go_loopg [6] 0 (fun gk v6 w' => v6 = .int .i64 1 ∧ Aside0 (Below w.heap.size w w'))
  case atStart => exact ⟨by first | rfl | simp, ⟨Below.refl _ _⟩⟩
  case round =>
    obtain ⟨rfl, HB⟩ := hrel
    go_wp2
    go_end0
    exact ⟨rfl, HB.out⟩
set_option maxRecDepth 100000 in
theorem pdq_0 (L : Int) (w : World) : Calls Try.prog 28 #[.slice none 0 0, .int .i64 0, .int .i64 0, .int .i64 L] w fun e w' => e = .returned (.tuple #[]) ∧ Below w.heap.size w w' := by
  go_enter Try.func28, Try.ntmps28
  go_wp2
  go_loopg [1, 2, 3, 8, 9, 10] 0 (fun gk v1 v2 v3 v8 v9 v10 w' => v1 = .int .i64 0 ∧ v2 = .int .i64 0 ∧ v3 = .int .i64 L ∧ v8 = .bool true ∧ v9 = .bool true ∧ Aside0 (Below w.heap.size w w'))
  case atStart => exact ⟨rfl, rfl, rfl, rfl, rfl, ⟨Below.refl _ _⟩⟩
  case round =>
    obtain ⟨rfl, rfl, rfl, rfl, rfl, HB⟩ := hrel
    go_wp2_with (go_at_call 34; refine (ins_0 _).mono ?_; rintro e w1 ⟨rfl, hb⟩)
    refine bodyPost_ret (results_none rfl _ _ _) rfl ?_
    exact ⟨rfl, below_then HB.out HB.out.size hb⟩
def SomeI64 (w : World) (e : Ending) (w' : World) : Prop := (∃ c : Int, e = .returned (.int .i64 c)) ∧ Below w.heap.size w w'
set_option maxRecDepth 100000 in
theorem len_0 (w : World) : Calls Try.prog 29 #[.int .u64 0] w (SomeI64 w) := by
  go_enter Try.func29, Try.ntmps29
  go_wp2
  go_ret
  exact ⟨⟨_, rfl⟩, Below.refl _ _⟩
theorem sort_0 (w : World) : Calls Try.prog 20 #[.slice none 0 0] w fun e w' => e = .returned (.tuple #[]) ∧ Below w.heap.size w w' := by
  go_enter Try.func20, Try.ntmps20
  go_wp2_with (first | (go_at_call 29; refine (len_0 _).mono ?_; rintro e w1 ⟨⟨L, rfl⟩, hb⟩) | (go_at_call 28; refine (pdq_0 _ _).mono ?_; rintro e w2 ⟨rfl, hb2⟩))
  go_end0
  exact ⟨rfl, below_then hb hb.size hb2⟩
set_option maxHeartbeats 1000000 in
theorem concat_0 {g c : Nat} (w : World) (hx : w.heap[g]? = some (.cells #[.slice none 0 0, .slice none 0 0] 28 (0, 0))) : Calls Try.prog 19 #[.slice (some ⟨g, 0, none⟩) 2 c] w fun e w' => e = .returned (.slice none 0 0) ∧ Below w.heap.size w w' := by
  have HX0 := Aside0.mk hx
  clear hx
  go_enter Try.func19, Try.ntmps19
  go_wp2
  go_loopg [3, 11] 2 (fun gk v3 v11 w' => v3 = .int .i64 0 ∧ v11 = .int .i64 (2 - (gk : Int)) ∧ Aside0 (gk ≤ 2) ∧ Aside0 (Below w.heap.size w w'))
  case atStart => exact ⟨rfl, by first | rfl | simp, ⟨by omega⟩, ⟨Below.refl _ _⟩⟩
  case round =>
    obtain ⟨rfl, rfl, HK, HB⟩ := hrel
    have h0 : wr.cell? ⟨g, 0, none⟩ = some (.slice none 0 0) := bx_at (blk_below HX0.out HB.out) 0 rfl
    have h1 : wr.cell? ⟨g, 1, none⟩ = some (.slice none 0 0) := bx_at (blk_below HX0.out HB.out) 1 rfl
    match gk, HK with
    | 0, _ =>
      go_wp2_with (go_at_call 27; refine (grow_0 _).mono ?_; rintro e w1 ⟨rfl, hb⟩)
      have HB1 := Aside0.mk (below_then HB.out HB.out.size hb)
      clear hb h0 h1
      go_loopg [6, 27] 2 (fun gk v6 v27 w' => v6 = .slice none 0 0 ∧ v27 = .int .i64 (2 - (gk : Int)) ∧ Aside0 (gk ≤ 2) ∧ Aside0 (Below w.heap.size w w'))
      case atStart => exact ⟨rfl, by first | rfl | simp, ⟨by omega⟩, HB1⟩
      case round =>
        clear HB HB1 HK
        obtain ⟨rfl, rfl, HK, HB⟩ := hrel
        have h0 : wr.cell? ⟨g, 0, none⟩ = some (.slice none 0 0) := bx_at (blk_below HX0.out HB.out) 0 rfl
        have h1 : wr.cell? ⟨g, 1, none⟩ = some (.slice none 0 0) := bx_at (blk_below HX0.out HB.out) 1 rfl
        match gk, HK with
        | 0, _ =>
          go_wp2
          go_ret
          exact ⟨rfl, HB.out⟩
        | 1, _ =>
          go_wp2
          go_roundg 0
          case measure => omega
          case rel => exact ⟨rfl, by first | rfl | simp, ⟨by omega⟩, HB⟩
        | 2, _ =>
          go_wp2
          go_roundg 1
          case measure => omega
          case rel => exact ⟨rfl, by first | rfl | simp, ⟨by omega⟩, HB⟩
        | n + 3, h => exact absurd h.out (by omega)
    | 1, _ =>
      go_wp2
      go_roundg 0
      case measure => omega
      case rel => exact ⟨rfl, by first | rfl | simp, ⟨by omega⟩, HB⟩
    | 2, _ =>
      go_wp2
      go_roundg 1
      case measure => omega
      case rel => exact ⟨rfl, by first | rfl | simp, ⟨by omega⟩, HB⟩
    | n + 3, h => exact absurd h.out (by omega)
set_option maxHeartbeats 1000000 in
theorem both_0 (w : World) : Calls Try.prog 15 #[.slice none 0 0, .slice none 0 0] w fun e w' => e = .returned (.slice none 0 0) ∧ Below w.heap.size w w' := by
  go_enter Try.func15, Try.ntmps15
  go_wp2_with (first | (go_at_call 19; refine (concat_0 _ (heap_alloc_new w _)).mono ?_; rintro e w1 ⟨rfl, hb⟩) | (go_at_call 20; refine (sort_0 _).mono ?_; rintro e w2 ⟨rfl, hb2⟩) | (go_at_call 21; refine (compact_0 _).mono ?_; rintro e w3 ⟨rfl, hb3⟩))
  go_ret
  have hb0 := below_alloc (Below.refl w.heap.size w) (.cells #[.slice none 0 0, .slice none 0 0] 28)
  exact ⟨rfl, below_then (below_then (below_then hb0 hb0.size hb) (Nat.le_trans hb0.size hb.size) hb2) (Nat.le_trans (Nat.le_trans hb0.size hb.size) hb2.size) hb3⟩
end Go.Proofs.Yteaipankdlmeoaa.G
