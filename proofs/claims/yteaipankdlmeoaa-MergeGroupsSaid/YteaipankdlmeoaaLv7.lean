/- The law's own example: live answers true, and leaves what lay there. No condition. -/
import Derived.Test.YteaipankdlmeoaaGx0
import Derived.Test.YteaipankdlmeoaaLv6
import Derived.WalkSpells
import Derived.WalkLawsBesides
import Derived.RangeFuncNested
import Derived.RangeFuncBound
import Derived.RangeFuncCalls
import Derived.RangeFuncLeaves
import Derived.RangeFuncBox
import Derived.OwnWalkIn
import Derived.TacticsInMore
import Derived.LoopNIn
import Derived.LoopIn
import Derived.Outline
namespace Go.Proofs.Yteaipankdlmeoaa.G
open Go.RowKit Go.Proofs.YteaipankdlmeoaaW.PrintWords Go.Proofs.YteaipankdlmeoaaW.PrintLast Go.Proofs.YteaipankdlmeoaaW.PrintMore
set_option linter.unusedVariables false
set_option linter.unusedSimpArgs false
theorem one_calls (k : _) (n : Int) (w : World) : Calls Try.prog 8 #[.string k, .int .i64 n] w fun e w' => ∃ g, e = .returned (.agg #[.string k, PV g, .slice none 0 0]) ∧ w'.heap[g]? = some (.cells (part n).toArray 35 (0, 0)) ∧ Below w.heap.size w w' := by
  go_enter Try.func8, Try.ntmps8
  go_wp2
  have hb := heap_alloc_new w (.cells #[.string k, PV (w.heap.size + 1), .slice none 0 0] 30)
  refine bodyPost_ret (results_cell_row (P := Try.prog) rfl _ _ w.heap.size 30 #[.string k, PV (w.heap.size + 1), .slice none 0 0] (0, 0) _ rfl (blk_alloc hb _) Try.underlying30 rfl (by kernel_rfl)) rfl ?_
  refine ⟨w.heap.size + 1, rfl, ?_, below_alloc (below_alloc (Below.refl _ _) _) _⟩
  have h := heap_alloc_new (w.alloc (.cells #[.string k, PV (w.heap.size + 1), .slice none 0 0] 30)) (.cells (part n).toArray 35)
  rwa [World.size_alloc] at h
theorem live_data {wA wB wC : World} {gA gB gC : Nat} (hA : wA.heap[gA]? = some (.cells (part 1).toArray 35 (0, 0))) (hB : wB.heap[gB]? = some (.cells (part 2).toArray 35 (0, 0))) (hC : wC.heap[gC]? = some (.cells (part 3).toArray 35 (0, 0)))
    (hAB : Below (wA.alloc (.cells #[.string ⟨#[97]⟩, PV gA, .slice none 0 0] 30)).heap.size (wA.alloc (.cells #[.string ⟨#[97]⟩, PV gA, .slice none 0 0] 30)) wB) (hBC : Below wB.heap.size wB wC) (W : World)
    (hW : W = (wC.alloc (.cells #[.string ⟨#[97]⟩, PV gB, .slice none 0 0, .string ⟨#[98]⟩, PV gC, .slice none 0 0] 30)).alloc (.cells #[.slice (some ⟨wA.heap.size, 0, none⟩) 1 1, .slice (some ⟨wC.heap.size, 0, none⟩) 2 2] 22)) :
    W.heap[wC.heap.size + 1]? = some (.cells #[.slice (some ⟨wA.heap.size, 0, none⟩) 1 1, .slice (some ⟨wC.heap.size, 0, none⟩) 2 2] 22 (0, 0)) ∧
    W.heap[wA.heap.size]? = some (.cells #[.string ⟨#[97]⟩, PV gA, .slice none 0 0] 30 (0, 0)) ∧
    W.heap[wC.heap.size]? = some (.cells #[.string ⟨#[97]⟩, PV gB, .slice none 0 0, .string ⟨#[98]⟩, PV gC, .slice none 0 0] 30 (0, 0)) ∧ Pts gA gB gC W ∧ Below wA.heap.size wA W := by
  have hx := heap_alloc_new wA (.cells #[.string ⟨#[97]⟩, PV gA, .slice none 0 0] 30)
  have h1 := blk_below (blk_below hx hAB) hBC
  have h2 := heap_alloc_new wC (.cells #[.string ⟨#[97]⟩, PV gB, .slice none 0 0, .string ⟨#[98]⟩, PV gC, .slice none 0 0] 30)
  have h3 := heap_alloc_new (wC.alloc (.cells #[.string ⟨#[97]⟩, PV gB, .slice none 0 0, .string ⟨#[98]⟩, PV gC, .slice none 0 0] 30)) (.cells #[.slice (some ⟨wA.heap.size, 0, none⟩) 1 1, .slice (some ⟨wC.heap.size, 0, none⟩) 2 2] 22)
  rw [World.size_alloc] at h3
  have hb0 : Below wA.heap.size wA (wA.alloc (.cells #[.string ⟨#[97]⟩, PV gA, .slice none 0 0] 30)) := below_alloc (Below.refl _ _) _
  have hb1 := below_then (below_then hb0 hb0.size hAB) (Nat.le_trans hb0.size hAB.size) hBC
  subst hW
  exact ⟨h3, blk_alloc (blk_alloc h1 _) _, blk_alloc h2 _, ⟨blk_alloc (blk_alloc (blk_below (blk_below (blk_alloc hA _) hAB) hBC) _) _, blk_alloc (blk_alloc (blk_below hB hBC) _) _, blk_alloc (blk_alloc hC _) _⟩, below_alloc (below_alloc hb1 _) _⟩
set_option maxHeartbeats 1000000 in
theorem live_calls (w : World) : Calls Try.prog 5 #[] w fun e w' => e = .returned (.bool true) ∧ Below w.heap.size w w' := by
  go_enter Try.func5, Try.ntmps5
  go_wp2_with (first | (go_at_call 8; with_reducible refine (one_calls _ 1 _).mono ?_; rintro e wA ⟨gA, rfl, hgA, hbA⟩) | (go_at_call 8; with_reducible refine (one_calls _ 2 _).mono ?_; rintro e wB ⟨gB, rfl, hgB, hbB⟩) | (go_at_call 8; with_reducible refine (one_calls _ 3 _).mono ?_; rintro e wC ⟨gC, rfl, hgC, hbC⟩) | (go_at_call 9; obtain ⟨h1, h2, h3, h4, h5⟩ := live_data hgA hgB hgC hbB hbC _ rfl; refine (all_calls _ h1 h2 h3 h4).mono ?_; rintro e w9 ⟨v, p, q, rfl, ho, hp, hb9⟩; obtain ⟨g, cg, rfl, _, _⟩ := ho.form (by omega); obtain ⟨gp, cp, rfl, _, _⟩ := hp.form (by omega); have hc1 : w9.cell? ⟨g, 1, none⟩ = some (.slice (some ⟨gp, 0, none⟩) 2 cp) := (own_cell ho 1 rfl).1; have hc3 : w9.cell? ⟨g, 3, none⟩ = some (.string ⟨#[98]⟩) := (own_cell ho 3 rfl).1; have hc5 : w9.cell? ⟨gp, 5, none⟩ = some (.int .i64 2) := (own_cell hp 5 rfl).1; have HB := Aside0.mk (below_then (below_then hbA hbA.size h5) (Nat.le_trans hbA.size h5.size) hb9); clear ho hp hb9 h1 h2 h3 h4 h5 hgA hgB hgC hbA hbB hbC))
  go_ret
  exact ⟨rfl, HB.out⟩
end Go.Proofs.Yteaipankdlmeoaa.G
