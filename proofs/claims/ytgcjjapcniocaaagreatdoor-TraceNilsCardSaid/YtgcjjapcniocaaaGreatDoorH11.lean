import Derived.Lib.Bytealg
import Derived.Lib.BytesEntry
import Derived.WalkLawsBesides
import Derived.RangeFuncNested
import Derived.RangeFuncBound
import Derived.RangeFuncCalls
import Derived.RangeFuncLeaves
import Derived.RangeFuncBox
import Derived.OwnWalkIn
import Derived.TacticsInMore
import Derived.LoopNIn
import Derived.LoopIn
import Derived.Outline
import Derived.Sort.LoopGhostIn
import Derived.Laws.EntriesVeiled
import Derived.StillTailTactics
import Derived.Maps.OwnSet
import Derived.Maps.OwnOps
import Derived.LaidEql
import Derived.Stop.Asserts
import Derived.RowKitTokens
import Derived.Test.YtgcjjapcniocaaaGreatDoorGx0
import Derived.Test.YtgcjjapcniocaaaGreatDoorGx2
import Derived.Test.YtgcjjapcniocaaaGreatDoorGx3
import Derived.Test.YtgcjjapcniocaaaGreatDoorGx4
import Derived.Test.YtgcjjapcniocaaaGreatDoorGx7
import Derived.Test.YtgcjjapcniocaaaGreatDoorGx9
import Derived.Test.YtgcjjapcniocaaaGreatDoorGx12
import Derived.Test.YtgcjjapcniocaaaGreatDoorH2
import Derived.Test.YtgcjjapcniocaaaGreatDoorH3
import Derived.Test.YtgcjjapcniocaaaGreatDoorH1
import Derived.Test.YtgcjjapcniocaaaGreatDoorH4
import Derived.Test.YtgcjjapcniocaaaGreatDoorH5
import Derived.Test.YtgcjjapcniocaaaGreatDoorH6
import Derived.Test.YtgcjjapcniocaaaGreatDoorH7
import Derived.Test.YtgcjjapcniocaaaGreatDoorH8
import Derived.Test.YtgcjjapcniocaaaGreatDoorH9
import Derived.Test.YtgcjjapcniocaaaGreatDoorH10
import Derived.Test.YtgcjjapcniocaaaGreatDoorH0
namespace Go.Proofs.YtgcjjapcniocaaaGreatDoor.G
open Go.RowKit Go.Proofs.YtgcjjapcniocaaaGreatDoorW.PrintWords Go.Proofs.YtgcjjapcniocaaaGreatDoorW.PrintLast Go.Proofs.YtgcjjapcniocaaaGreatDoorW.PrintMore
attribute [local go_sem] max2_int min2_int max_two min_two max_three min_three max_four min_four
set_option linter.unusedVariables false
set_option linter.unusedSimpArgs false
set_option pp.deepTerms true
set_option pp.maxSteps 100000
/-! #### num -/
def GE (w : World) : Prop := w.cell? ⟨0, 0, none⟩ = some (.iface 137 (.agg #[.pointer (some ⟨2, 28, none⟩)]))
theorem GE.lt {w : World} (h : GE w) : 0 < w.heap.size := World.block_lt_of_cell? w _ h
theorem GE.below {w w' : World} (h : GE w) {B : Nat} (hB : 0 < B) (hb : Below B w w') : GE w' := (hb.cell (p := ⟨0, 0, none⟩) hB).trans h
theorem numNil_calls (w : World) : Calls Tryz.prog 10 #[.nilIface] w fun x w' => x = .returned (.int .i64 0) ∧ w' = w := by
  go_enter Tryz.func10, Tryz.ntmps10
  go_wp2
  go_ret
  exact ⟨rfl, rfl⟩
set_option maxRecDepth 100000 in
theorem num_calls (e : Int) (w : World) (hg : GE w) : Calls Tryz.prog 10 #[.iface 35 (.int .i64 e)] w fun x w' => x = .returned (.int .i64 e) ∧ Below w.heap.size w w' := by
  have hlt := hg.lt
  have h1 : Calls Tryz.prog 12 #[.iface 35 (.int .i64 e), .iface 88 (.pointer (some ⟨w.heap.size, 0, none⟩))] (w.alloc (.cells #[.int .i64 0] 35)) fun ev w' => ev = .returned (.bool true) ∧ w'.cell? ⟨w.heap.size, 0, none⟩ = some (.int .i64 e) ∧ Below w.heap.size w w' := by
    refine (as_hit e ⟨w.heap.size, 0, none⟩ (.int .i64 0) (w.alloc (.cells #[.int .i64 0] 35)) ?_ (by simp) (by simp)).mono ?_
    · rw [World.cell?_alloc_lt _ _ ⟨0, 0, none⟩ hlt]; exact hg
    · rintro ev w' ⟨rfl, rfl⟩
      refine ⟨rfl, ?_, ?_⟩
      · unfold asW
        have hb : ((((((w.alloc (.cells #[.int .i64 0] 35)).alloc (.cells #[.pointer (some ⟨w.heap.size, 0, none⟩)] 88)).alloc (.cells #[.pointer (some ⟨2, 88, none⟩), .pointer (some ⟨(w.alloc (.cells #[.int .i64 0] 35)).heap.size, 0, none⟩), .int .u64 150] 92)).alloc (.cells #[.pointer (some ⟨2, 88, none⟩), .pointer (some ⟨(w.alloc (.cells #[.int .i64 0] 35)).heap.size, 0, none⟩), .int .u64 150] 92)).alloc (.cells #[.int .i64 e] 35))).heap[w.heap.size]? = some (.cells #[.int .i64 0] 35 (0, 0)) :=
          blk_alloc (blk_alloc (blk_alloc (blk_alloc (blk_new w (.cells #[.int .i64 0] 35)) _) _) _) _
        exact (blk_cell (blk_put (cs' := #[.int .i64 e]) hb 0 (.int .i64 e) rfl) 0).trans rfl
      · unfold asW
        exact (below_alloc (below_alloc (below_alloc (below_alloc (below_alloc (Below.refl _ _) _) _) _) _) _).setCell (p := ⟨w.heap.size, 0, none⟩) (Nat.le_refl _) _
  have H1 := Aside0.mk h1
  clear h1 hg hlt
  go_enter Tryz.func10, Tryz.ntmps10
  go_wp2_with (go_at_call 12; refine (H1.out).mono ?_; rintro x w1 ⟨rfl, hc, hb⟩; have HB := Aside0.mk hb; clear hb)
  go_ret
  exact ⟨rfl, HB.out⟩
end Go.Proofs.YtgcjjapcniocaaaGreatDoor.G
