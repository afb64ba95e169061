/- TraceNils' tied card, closed by the builder's one call. -/
import Derived.Test.YtgcjjapcniocaaaGreatDoorLaw
namespace Go.Proofs.YtgcjjapcniocaaaGreatDoor
open Go
set_option maxRecDepth 100000 in
theorem traceNils_card_holds : Rows.TraceNilsCardSaid :=
  Claim7.holds_tied_plain_at .later [] [.handle] true (true, "8a53ec92495a67fb27de19e7deb0d3620b7fbd6dd5cc2b63d51a905bdcdaad08") true
    traceNils.over (fun _ h => by cases h) (by kernel_rfl) (fun _ h => by cases h) traceNils_row_tie rfl ⟨rfl, rfl⟩ (by kernel_rfl) rfl
    (fun f fn hf hfn => by
      obtain rfl : f = 5 := Option.some.inj ((show Tryz.prog.funcNamed "gristmill/gristmilllaw32.TraceNils" = some 5 by kernel_rfl).symm.trans hf) |>.symm
      obtain rfl : fn = Tryz.f5 := (Option.some.inj (Tryz.func5.symm.trans hfn)).symm
      exact ⟨by kernel_rfl, fun j t ht => by
        rw [Tryz.params5] at ht
        have h3 : t = 9 ∨ t = 3 := by
          rcases j with _ | _ | j
          · exact .inl (by simpa using ht.symm)
          · exact .inr (by simpa using ht.symm)
          · simp at ht
        rcases h3 with rfl | rfl
        · exact (show Tryz.prog.wantsStandIn 9 = false by kernel_rfl)
        · exact (show Tryz.prog.wantsStandIn 3 = false by kernel_rfl)⟩)
    (by kernel_rfl)
#print axioms traceNils_card_holds
end Go.Proofs.YtgcjjapcniocaaaGreatDoor
