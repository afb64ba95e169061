import Derived.Lib.Bytealg
import Derived.Lib.BytesEntry
import Derived.WalkLawsBesides
import Derived.RangeFuncNested
import Derived.RangeFuncBound
import Derived.RangeFuncCalls
import Derived.RangeFuncLeaves
import Derived.RangeFuncBox
import Derived.OwnWalkIn
import Derived.TacticsInMore
import Derived.LoopNIn
import Derived.LoopIn
import Derived.Outline
import Derived.Sort.LoopGhostIn
import Derived.Laws.EntriesVeiled
import Derived.StillTailTactics
import Derived.Test.YtgcjjapcniocaaaGreatDoorGx0
import Derived.Test.YtgcjjapcniocaaaGreatDoorGx12
import Derived.Test.YtgcjjapcniocaaaGreatDoorH2
import Derived.Test.YtgcjjapcniocaaaGreatDoorH3
import Derived.Test.YtgcjjapcniocaaaGreatDoorH1
import Derived.Test.YtgcjjapcniocaaaGreatDoorGx2
import Derived.Test.YtgcjjapcniocaaaGreatDoorGx3
namespace Go.Proofs.YtgcjjapcniocaaaGreatDoor.G
open Go.RowKit Go.Proofs.YtgcjjapcniocaaaGreatDoorW.PrintWords Go.Proofs.YtgcjjapcniocaaaGreatDoorW.PrintLast Go.Proofs.YtgcjjapcniocaaaGreatDoorW.PrintMore
attribute [local go_sem] max2_int min2_int max_two min_two max_three min_three max_four min_four
set_option linter.unusedVariables false
set_option linter.unusedSimpArgs false
set_option pp.deepTerms true
set_option pp.maxSteps 100000
theorem cutAt_list {s t : CutSt} (h : s.2.2 = t.2.2) : ∀ m, (cutAt s m).2.2 = (cutAt t m).2.2
  | 0 => h
  | m + 1 => by simp only [cutAt, cutStep, cutAt_list h m]
theorem putAt_list {k : Nat} {s t : CutSt} (h : s.2.2 = t.2.2) : ∀ m, putAt k s m = putAt k t m
  | 0 => rfl
  | m + 1 => by simp only [putAt, putAt_list h m, cutAt_list h m]
def putF (k : Nat) (l : List Int) : Option (List Int × Int) :=
  (runs_Right.f k l).bind fun ok => if ok = false then some ([], 3) else
    (putAt k (none, 0, l) (cutCount l.length l)).bind fun st => (vint_Put.f k [] (IntKind.u64.wrap (cutCount l.length l : Nat))).bind fun h =>
      if h.length + st.1.length ≤ 140737488355328 then some (h ++ st.1, 0) else none
attribute [local go_sem] Oper.semAt_some in
set_option maxRecDepth 100000 in
set_option maxHeartbeats 8000000 in
theorem put_calls (k : Nat) (A : Option Addr) (c : Nat) (l : List Int) (r1 : List Int) (r2 : Int) (w : World) (hr : Kd.C (Kd.int .i64) w A l.length l) (hc : l.length ≤ c) (h : putF k l = some (r1, r2)) :
    Calls Tryz.prog 80 #[.slice A l.length c] w fun e w' => ∃ v, e = .returned (.tuple #[v, .int .i64 r2]) ∧ Kd.R (Kd.int .u8) 5 w' w.heap.size (fun _ => True) v r1 ∧ Below w.heap.size w w' := by
  obtain ⟨ok, hok, h⟩ := Option.bind_eq_some_iff.1 h
  have HOK := Aside0.mk hok
  have HR := Aside0.mk hr
  have HC := Aside0.mk hc
  clear hok hr hc
  cases ok
  · rw [if_pos rfl] at h
    simp only [Option.some.injEq, Prod.mk.injEq] at h
    obtain ⟨rfl, rfl⟩ := h
    go_enter Tryz.func80, Tryz.ntmps80
    go_wp2_with (go_at_call 58; refine (runs_Right.calls k A c l _ _ HR.out HC.out HOK.out).mono ?_; rintro e w1 ⟨rfl, nd, rfl⟩)
    go_ret2
    exact ⟨_, rfl, Kd.R_nil _ _ _ _ _, by repeat (first | exact Below.refl _ _ | apply pw_below_drewN)⟩
  · rw [if_neg (by simp)] at h
    obtain ⟨⟨bs, lst⟩, hp, h⟩ := Option.bind_eq_some_iff.1 h
    obtain ⟨hd, hh, h⟩ := Option.bind_eq_some_iff.1 h
    have hsz : hd.length + bs.length ≤ 140737488355328 := by
      split at h
      · assumption
      · cases h
    rw [if_pos hsz] at h
    simp only [Option.some.injEq, Prod.mk.injEq] at h
    obtain ⟨rfl, rfl⟩ := h
    have HP := Aside0.mk hp
    have HH := Aside0.mk hh
    have HSZ := Aside0.mk hsz
    clear hp hh hsz
    refine (callsIn_wide (n := 4)).1 ?_
    refine callsIn_of_wp_marks Tryz.func80 rfl trivial ?_
    simp only [Tryz.ntmps80, List.size_toArray, List.length_cons, List.length_nil, Nat.reduceAdd, Nat.reduceSub, Array.replicate_succ, Array.replicate_zero, List.push_toArray, List.append_toArray, List.nil_append, List.cons_append]
    refine wpIn_wide.2 ?_
    go_wp2_with (first | (go_at_call 58; refine (runs_Right.calls k A c l _ _ HR.out HC.out HOK.out).mono ?_; rintro e w1 ⟨rfl, nd, rfl⟩) | (go_at_call 110; refine (cuts_calls A l.length c _).mono ?_; rintro e w1 ⟨rfl, rfl⟩))
    obtain ⟨W0, hW0⟩ : ∃ W0, (((((w.drewN nd).alloc (.cells #[.slice none 0 0] 23)).alloc (.cells #[.func (.func 108) #[] #[.pointer (some ⟨w.heap.size, 0, none⟩)]] 193)).alloc (.cells #[.int .i64 0] 3)).alloc (.cells #[.int .i64 (-1)] 3)).alloc (.cells #[.slice A l.length c] 48) = W0 := ⟨_, rfl⟩
    have e0 : W0.heap[w.heap.size]? = some (.cells #[.slice none 0 0] 23 (0, 0)) := by rw [← hW0]; simp only [World.alloc, World.drewN, Array.getElem?_push, Array.size_push]; repeat (first | rw [if_pos trivial] | rw [if_pos (by omega)] | rw [if_neg (by omega)]); try rfl
    have e1 : W0.heap[w.heap.size + 1]? = some (.cells #[.func (.func 108) #[] #[.pointer (some ⟨w.heap.size, 0, none⟩)]] 193 (0, 0)) := by rw [← hW0]; simp only [World.alloc, World.drewN, Array.getElem?_push, Array.size_push]; repeat (first | rw [if_pos trivial] | rw [if_pos (by omega)] | rw [if_neg (by omega)]); try rfl
    have e2 : W0.heap[w.heap.size + 2]? = some (.cells #[.int .i64 ((0 : Nat) : Int)] 3 (0, 0)) := by rw [← hW0]; simp only [World.alloc, World.drewN, Array.getElem?_push, Array.size_push]; repeat (first | rw [if_pos trivial] | rw [if_pos (by omega)] | rw [if_neg (by omega)]); try rfl
    have e3 : W0.heap[w.heap.size + 3]? = some (.cells #[.int .i64 (-1)] 3 (0, 0)) := by rw [← hW0]; simp only [World.alloc, World.drewN, Array.getElem?_push, Array.size_push]; repeat (first | rw [if_pos trivial] | rw [if_pos (by omega)] | rw [if_neg (by omega)]); try rfl
    have e4 : W0.heap[w.heap.size + 4]? = some (.cells #[.slice A l.length c] 48 (0, 0)) := by rw [← hW0]; simp only [World.alloc, World.drewN, Array.getElem?_push, Array.size_push]; repeat (first | rw [if_pos trivial] | rw [if_pos (by omega)] | rw [if_neg (by omega)]); try rfl
    have es : W0.heap.size = w.heap.size + 5 := by rw [← hW0]; simp
    have eB : Below w.heap.size w W0 := by rw [← hW0]; repeat (first | exact Below.refl _ _ | apply below_alloc | apply pw_below_drewN)
    rw [hW0]
    have HJ0 : Aside0 (PutJ w k (A, c, l) 0 W0) := ⟨⟨⟨[], -1, .slice none 0 0, rfl, e0, Kd.R_nil _ _ _ _ _, e3⟩, e1, e2, eB, _, e4⟩⟩
    have HE4 := Aside0.mk e4
    have HES := Aside0.mk es
    clear hW0 e0 e1 e2 e3 e4 es eB
    obtain ⟨N, hN⟩ : ∃ N, N = cutCount l.length l := ⟨_, rfl⟩
    rw [← hN] at HP HH
    have HPN : Aside0 (putAt k (A, c, l) N = some (bs, lst)) := ⟨(putAt_list (s := (A, c, l)) (t := (none, 0, l)) rfl N).trans HP.out⟩
    have HN := Aside0.mk hN
    clear HP hN
    refine (wpIn_wide (n := 4)).1 ?_
    refine range_stage (gf := 134) (lb := #[.pointer (some ⟨w.heap.size + 4, 0, none⟩)]) (by simp [go_sem]) (fun args w => enters_ Tryz.func134 (by kernel_rfl) rfl args w) N (fun m => cutEnc (cutAt (A, c, l) m)) (fun _ => rfl)
      (PutKp w) (CutAb (w.heap.size + 4)) (PutJ w k (A, c, l)) ?jo ?jn HJ0.out ?abo ?abj (fun h k => ⟨fun v hv => k.1 v (h.1 v hv), fun hb => k.2 (h.2 hb)⟩) ?kb ?iter ?round ?done
    case jo =>
      intro m W g o o' hg ho hco hJ
      obtain ⟨x, hx⟩ := hJ.x
      exact hJ.step (fun i cs t hi _ hx => World.putObj_heap_other (ne_of_noncell hx ho hco)) (hJ.B.trans ⟨rfl, rfl, rfl, by simp, fun i hi => World.putObj_heap_other (by have := HES.out; omega)⟩) ⟨x, (World.putObj_heap_other (ne_of_noncell hx ho hco)).trans hx⟩
    case jn =>
      intro W o hJ
      obtain ⟨x, hx⟩ := hJ.x
      exact hJ.step (fun i cs t hi _ hx => (blk_alloc hx _).trans hx.symm) (hJ.B.alloc hJ.B.size _) ⟨x, blk_alloc hx _⟩
    case abo =>
      rintro X Y g o (⟨m, rfl⟩ | ⟨v, rfl⟩) hk hc
      · exact hk
      · exact (KeepsOthers.setCell X _ v).same g o hk hc
    case abj =>
      rintro m X Y hJ (⟨d, rfl⟩ | ⟨v, rfl⟩)
      · exact hJ.step (fun _ _ _ _ _ _ => rfl) (pw_below_drewN hJ.B d) hJ.x
      · obtain ⟨x, hx⟩ := hJ.x
        exact hJ.step (fun i cs t hi hn _ => set_ne hn) (hJ.B.setCell (p := ⟨w.heap.size + 4, 0, none⟩) (by simp) v) ⟨v, by simpa using blk_set hx 0 v⟩
    case kb =>
      intro W g o o' hg ho hco
      exact ⟨fun v hv => (World.putObj_heap_other (ne_of_noncell hv ho hco)).trans hv, fun hb => hb.trans ⟨rfl, rfl, rfl, by simp, fun i hi => World.putObj_heap_other (by have := HES.out; omega)⟩⟩
    case iter =>
      intro li W1 Jr hg hs hAb hY h0
      have hB1 : Below w.heap.size w W1 := HJ0.out.B.grown hg (by have := HES.out; omega) (by simp)
      exact cuts_iter 3 li (w.heap.size + 4) N (A, c, l) w W1 (PutKp w) Jr ⟨HR.out, HC.out⟩ (by omega) HN.out hB1 (fun X Y h => h.2) (fun X Y v h => h.1 v) hAb hY h0 (blk_grown HE4.out hg (by simp))
    case done =>
      intro D W hD hJ hK
      obtain ⟨⟨bs1, lst1, v, h1, h2, h3, h4⟩, h5, h6, h7, h8⟩ := hJ
      rw [HPN.out] at h1
      simp only [Option.some.injEq, Prod.mk.injEq] at h1
      obtain ⟨rfl, rfl⟩ := h1
      obtain ⟨A', c', rfl, hlc, hC⟩ := Kd.R_reads h3
      have hcb : W.cell? ⟨w.heap.size, 0, none⟩ = some (.slice A' bs.length c') := (blk_cell h2 0).trans rfl
      have hcm : W.cell? ⟨w.heap.size + 1 + 1, 0, none⟩ = some (.int .i64 (N : Int)) := (blk_cell h6 0).trans rfl
      have H2 := Aside0.mk h2
      have H3 := Aside0.mk h3
      have H6 := Aside0.mk h6
      have H7 := Aside0.mk h7
      have HK := Aside0.mk hK
      have HD := Aside0.mk hD
      have HCc := Aside0.mk hC
      have HLC := Aside0.mk hlc
      clear h2 h3 h4 h5 h6 h7 h8 hK hD hC hlc
      gi_wp2
      go_wp2
      go_region_held3 (fun w' => w'.cell? ⟨w.heap.size, 0, none⟩ = some (.slice A' bs.length c') ∧ w'.cell? ⟨w.heap.size + 1 + 1, 0, none⟩ = some (.int .i64 (N : Int)))
        (first | exact ⟨hcb, hcm⟩ | exact ⟨hcb1, hcm1⟩ | exact ⟨hcb2, hcm2⟩)
        (first
          | (go_at_call 109; refine (vint_Put.calls k none 0 [] _ hd _ (Kd.C_nil _ _) (by simp) HH.out).mono ?_; rintro e w1 ⟨v1, rfl, ho1, hb1⟩; have hcb1 : w1.cell? ⟨w.heap.size, 0, none⟩ = some (.slice A' bs.length c') := pw_cell_below hb1 hcb; have hcm1 : w1.cell? ⟨w.heap.size + 1 + 1, 0, none⟩ = some (.int .i64 (N : Int)) := pw_cell_below hb1 hcm; have hx1 := Aside0.mk (blk_below (w := W.drew) H2.out hb1); have hm1 := Aside0.mk (blk_below (w := W.drew) H6.out hb1); have HC1 := Aside0.mk (Kd.C_below (Kd.C_drew HCc.out) hb1); have HO1 := Aside0.mk (Kd.R_lower ho1 (show w.heap.size ≤ W.drew.heap.size from H7.out.size)); have HB1 := Aside0.mk (show Below w.heap.size w w1 from below_then (below_drew1 H7.out) (below_drew1 H7.out).size hb1); clear ho1; have HB0 := Aside0.mk hb1; clear hb1)
          | (refine Kd.R_append_rows_step (Kd.int .u8) (Rr := (Kd.int .u8).K w1) (w0 := w) w.heap.size (by rfl) (.tmp 74) (.tmp 75) 23 5 (.int .u8 0) 1 (by rfl) Tryz.underlying23 info5 rfl (by decide) (by omega) v1 hd bs A' bs.length c' (fun _ => True) (fun _ => False) (by rfl) (by rfl) HO1.out HC1.out (fun x cs h => h) (fun _ h => h.elim) (fun _ _ => trivial) HB1.out HB1.out.size (by have := HSZ.out; omega) ?_; intro v2 w2 ho2 hb2 hg2 hat2; have hcb2 : w2.cell? ⟨w.heap.size, 0, none⟩ = some (.slice A' bs.length c') := (blk_cell (blk_grown hx1.out hg2 (Kd.R_ne HO1.out hx1.out (by decide))) 0).trans rfl; have hcm2 : w2.cell? ⟨w.heap.size + 1 + 1, 0, none⟩ = some (.int .i64 (N : Int)) := (blk_cell (blk_grown hm1.out hg2 (Kd.R_ne HO1.out hm1.out (by decide))) 0).trans rfl))
      have hk1 : w1.heap[D]? = some (.deferred (some [])) := blk_below (w := W.drew) HK.out HB0.out
      have hk2 : w2.heap[D]? = some (.deferred (some [])) := blk_grown hk1 hg2 (fun e => by
        obtain ⟨_, _, _, q, _, cs, hc⟩ := (Kd.R_bound HO1.out).1 D e.symm
        rw [hk1] at hc
        cases hc)
      have HK2 := Aside0.mk hk2
      have HO2 := Aside0.mk ho2
      have HB2 := Aside0.mk hb2
      clear hk1 hk2 ho2 hb2 hg2 hat2
      go_wp2
      refine ⟨by simp, .inl ⟨_, _, rfl, run_takeDeferred HK2.out, ?_⟩⟩
      refine ⟨_, results_tmp2 rfl _ _ _, v2, rfl, ?_, ?_⟩
      · refine Kd.R_mono (Kd.R_move (Kd.R_bound HO2.out) ?_) (fun _ _ => trivial)
        rintro g ⟨_, _, _, q, _, cs, hc⟩
        exact World.putObj_heap_other (ne_of_noncell hc HK2.out rfl)
      · exact HB2.out.trans ⟨rfl, rfl, rfl, by simp, fun i hi => World.putObj_heap_other (by have := HD.out; have := HES.out; omega)⟩
    case round =>
      intro li m W hm hl hJ
      simp only [cutEnc]
      gi_wp2
      refine ⟨KeepsOthers.refl _, hJ, ⟨fun _ h => h, fun h => h⟩, ?_⟩
      clear hJ
      intro W2 hJ _ _
      obtain ⟨⟨bs1, lst1, v, h1, h2, h3, h4⟩, h5, h6, h7, x, h8⟩ := hJ
      obtain ⟨⟨bs2, lst2⟩, hst⟩ := putAt_some HPN.out (m + 1) (by omega)
      have hrun := hst
      rw [putAt, h1, Option.bind_some] at hrun
      have HST := Aside0.mk hst
      have HB0 : Aside0 (PB w x W2 bs1 lst1 m W2) := ⟨⟨v, h2, h3⟩, h5, h6, h4, h8, h7, KeepsOthers.refl _⟩
      clear h1 h2 h3 h4 h5 h6 h7 h8 hst
      have hok := CutOk.at (w := w) (s := (A, c, l)) ⟨HR.out, HC.out⟩ m
      have hne : (cutAt (A, c, l) m).2.2 ≠ [] := cut_some l.length (A, c, l) m (Nat.le_refl _) (by rw [← HN.out]; exact hm)
      have hmN : (m : Int) + 1 ≤ 9223372036854775807 := by
        have h1 := cutCount_le l.length l
        have h2 := HR.out.2.1
        have h3 := HN.out
        omega
      have hw1 : wrap64 ((m : Int) + 1) = (m : Int) + 1 := by unfold wrap64; omega
      have HFIN : Aside0 (∀ W', PB w x W2 bs2 lst2 ((m : Int) + 1) W' → KeepsOthers W2 W' ∧ PutJ w k (A, c, l) (m + 1) W' ∧ PutKp w W2 W') := by
        have hx := HB0.out.x
        have hB := HB0.out.B
        refine ⟨fun W' h => ⟨h.o, ⟨?_, h.p, h.m, h.B, x, h.x⟩, fun y hy => ?_, fun _ => h.B⟩⟩
        · obtain ⟨v', h1, h2⟩ := h.b
          exact ⟨bs2, lst2, v', HST.out, h1, h2, h.l⟩
        · rw [hx] at hy
          cases hy
          exact h.x
      clear HST
      revert hok hne hrun
      generalize cutAt (A, c, l) m = t
      obtain ⟨A1, c1, L⟩ := t
      intro hrun hok hne
      dsimp only at hrun hok hne
      have hC : Kd.C (Kd.int .i64) w A1 L.length L := hok.C
      have hnL := cutN_le L
      have hn0 := cutN_pos hne
      have hlen := hC.2.1
      have hCR := C_takeA hC (cutN L) hnL
      have hcut : cutIs L = decide (0 < evenS L) := rfl
      have hev : 0 < evenS L → 3 ≤ cutN L := fun h => by have := evenS_3 h; unfold cutN; rw [if_neg (by omega)]; omega
      obtain ⟨n, hn⟩ : ∃ n, cutN L = n := ⟨_, rfl⟩
      rw [hn] at hrun hnL hn0 hCR hev ⊢
      obtain ⟨q, hq⟩ : ∃ q, cutIs L = q := ⟨_, rfl⟩
      rw [hq] at hrun hcut ⊢
      obtain ⟨R, hR⟩ : ∃ R, L.take n = R := ⟨_, rfl⟩
      have hRl : R.length = n := by rw [← hR, List.length_take]; omega
      rw [hR, hRl] at hCR
      rw [hR] at hrun
      have hnn : n ≤ 9223372036854775807 := by omega
      have HCR := Aside0.mk hCR
      have HRL := Aside0.mk hRl
      have HRUN := Aside0.mk hrun
      have HEV := Aside0.mk hev
      have HQ := Aside0.mk hcut
      have HN0 := Aside0.mk hn0
      have HNN := Aside0.mk hnn
      have hcm := HB0.out.cm
      have hcp := HB0.out.cp
      have hfm := HB0.out.fm
      clear hok hne hC hnL hn0 hlen hCR hcut hev hn hq hR hRl hrun hnn hmN
      have HB1 := Aside0.mk (HB0.out.setM ((m : Int) + 1))
      clear HB0
      obtain ⟨ad, rfl, hx0⟩ := Kd.at_int HCR.out 0 (by omega) (by have := HN0.out; omega)
      replace hx0 := cell0 hx0
      obtain ⟨ad2, e2, hxl⟩ := Kd.at_int HCR.out ((n : Int) - 1) (by have := HN0.out; omega) (by omega)
      cases e2
      rw [show ((n : Int) - 1).toNat = n - 1 from by omega] at hxl
      have HX0 := Aside0.mk hx0
      have HXL := Aside0.mk hxl
      have hwn : wrap64 ((n : Int) - 1) = (n : Int) - 1 := by have := HN0.out; have := HNN.out; unfold wrap64; omega
      have HWN := Aside0.mk hwn
      clear hx0 hxl hwn
      rcases q with _ | _
      · have hrun := HRUN.out
        rw [putRun, if_neg (by simp), HRL.out] at hrun
        obtain ⟨b1, p1, hrun⟩ := Option.bind_eq_some_iff.1 hrun
        obtain ⟨⟨b3, l3⟩, p2, hrun⟩ := Option.map_eq_some_iff.1 hrun
        simp only [Prod.mk.injEq] at hrun
        obtain ⟨rfl, rfl⟩ := hrun
        have P1 := Aside0.mk p1
        have P2 := Aside0.mk p2
        clear p1 p2
        gi_wp2_with (refine ⟨trivial, ?_⟩; gi_at_call 108; refine (CallsIn.inRound li (callsIn_wide.2 (HB1.out.put k _ P1.out))).mono ?_; rintro e w1 ⟨rfl, hb2⟩; have HB2 := Aside0.mk hb2; clear hb2)
        gi_loopg [54] n (fun gk v54 W' => ∃ (i : Nat) (bsi : List Int) (lsti : Int), v54 = .int .i64 i ∧ Aside0 (i + gk = n) ∧ Aside0 (putNums k bsi lsti (R.drop i) = some (b3, l3)) ∧ Aside0 (PB w x W2 bsi lsti ((m : Int) + 1) W'))
        case atStart => exact ⟨0, b1, lst1, by first | rfl | simp, ⟨by omega⟩, ⟨by simpa using P2.out⟩, HB2⟩
        case round =>
          clear P2 HB2 HX0 hcm hcp hfm hw1
          obtain ⟨i, bsi, lsti, rfl, HI, HP2, HB2⟩ := hrel
          cases gk with
          | zero =>
            have hi : decide ((i : Int) < (n : Int)) = false := decide_eq_false (by have := HI.out; omega)
            have hi' : decide (i < n) = false := decide_eq_false (by have := HI.out; omega)
            have hbb : b3 = bsi := by
              have h := HP2.out
              rw [List.drop_eq_nil_of_le (by rw [HRL.out]; have := HI.out; omega), putNums] at h
              simp only [Option.some.injEq, Prod.mk.injEq] at h
              exact h.1.symm
            subst hbb
            have hxz := HB2.out.old HXL.out
            have hfl := HB2.out.fl
            have hcl6 := HB2.out.cl
            have hwn := HWN.out
            have hpos := HN0.out
            have hlt : n - 1 < n := by omega
            have p1 : (0 : Int) ≤ (n : Int) - 1 := by omega
            have q1 : (n : Int) - 1 < (n : Int) := by omega
            clear hpos
            gi_wp2
            exact HFIN.out _ (HB2.out.setL _)
          | succ k1 =>
            have hin : i < n := by have := HI.out; omega
            have hi : decide ((i : Int) < (n : Int)) = true := decide_eq_true (by omega)
            have hi' : decide (i < n) = true := decide_eq_true hin
            have hwi : wrap64 ((i : Int) + 1) = (i : Int) + 1 := by have := HNN.out; unfold wrap64; omega
            have hdr : R.drop i = rd R (i : Int) :: R.drop (i + 1) := by
              rw [List.drop_eq_getElem_cons (by rw [HRL.out]; exact hin)]
              simp [rd, HRL.out, hin]
            have h := HP2.out
            rw [hdr, putNums] at h
            obtain ⟨b4, p4, p5⟩ := Option.bind_eq_some_iff.1 h
            have P4 := Aside0.mk p4
            have P5 := Aside0.mk p5
            obtain ⟨ad3, e3, hx3⟩ := Kd.at_int HCR.out (i : Int) (by omega) (by omega)
            cases e3
            replace hx3 : w.cell? (ad.add i) = some (.int .i64 (rd R (i : Int))) := hx3
            have hx4 := HB2.out.old hx3
            have hcp2 := HB2.out.cp
            have hcl2 := HB2.out.cl
            clear hdr h p4 p5 HP2 hx3
            gi_wp2_with (refine ⟨trivial, ?_⟩; gi_at_call 108; refine (CallsIn.inRound li (callsIn_wide.2 (HB2.out.put k _ P4.out))).mono ?_; rintro e w5 ⟨rfl, hb2⟩; have HB5 := Aside0.mk hb2; have hcl5 := hb2.cl; have hfl5 := hb2.fl; clear hb2)
            gi_roundg k1
            case measure => omega
            case rel => exact ⟨i + 1, b4, _, by first | rfl | (simp; done) | (simp; exact hwi), ⟨by have := HI.out; omega⟩, P5, ⟨HB5.out.setL _⟩⟩
      · have hrun := HRUN.out
        rw [putRun, if_pos rfl, HRL.out] at hrun
        obtain ⟨b1, p1, hrun⟩ := Option.bind_eq_some_iff.1 hrun
        obtain ⟨b2, p2, hrun⟩ := Option.bind_eq_some_iff.1 hrun
        obtain ⟨b3, p3, hrun⟩ := Option.map_eq_some_iff.1 hrun
        simp only [Prod.mk.injEq] at hrun
        obtain ⟨rfl, rfl⟩ := hrun
        have P1 := Aside0.mk p1
        have P2 := Aside0.mk p2
        have P3 := Aside0.mk p3
        have hn3 : 3 ≤ n := HEV.out (of_decide_eq_true HQ.out.symm)
        obtain ⟨ad1, e1, hx1⟩ := Kd.at_int HCR.out 1 (by omega) (by omega)
        cases e1
        replace hx1 : w.cell? ⟨ad.block, ad.off + 1, none⟩ = some (.int .i64 (rd R 1)) := hx1
        have HX1 := Aside0.mk hx1
        have HN3 := Aside0.mk hn3
        clear p1 p2 p3 hx1 hn3
        gi_wp2_with (refine ⟨trivial, ?_⟩; gi_at_call 108; refine (CallsIn.inRound li (callsIn_wide.2 (HB1.out.put k _ P1.out))).mono ?_; rintro e w1 ⟨rfl, hb2⟩; have HB2 := Aside0.mk hb2; clear hb2)
        have hcp2 := HB2.out.cp
        have hcl2 := HB2.out.cl
        have hxa := HB2.out.old HX0.out
        have hpos := HN0.out
        refine stillTailIn_ 7 (no_lets (fun _ _ h => by have h' : Exit.outgrown = Exit.normal ∧ _ := h; cases h'.1)) (by kernel_rfl) (by kernel_rfl) (by kernel_rfl) ?_
        simp only [List.take_succ_cons, List.take_zero, List.drop_succ_cons, List.drop_zero]
        repeat still_step
        refine wpStill_nil ?_
        have HB3 := Aside0.mk HB2.out.drew
        clear HB2 hcp2 hcl2 hxa
        change wpList _ _ _ _ _ w1.drew
        generalize w1.drew = w2 at HB3 ⊢
        go_wp2_with (go_at_call 108; refine (HB3.out.put k _ P2.out).mono ?_; rintro e w3 ⟨rfl, hb4⟩; have HB4 := Aside0.mk hb4; clear hb4)
        gi_wp2
        have hcp2 := HB4.out.cp
        have hxa := HB4.out.old HX0.out
        have hxb := HB4.out.old HX1.out
        have hpos1 : (1 : Int) < (n : Int) := by have := HN3.out; omega
        refine stillTailIn_ 9 (no_lets (fun _ _ h => by have h' : Exit.outgrown = Exit.normal ∧ _ := h; cases h'.1)) (by kernel_rfl) (by kernel_rfl) (by kernel_rfl) ?_
        simp only [List.take_succ_cons, List.take_zero, List.drop_succ_cons, List.drop_zero]
        repeat still_step
        refine wpStill_nil ?_
        have HB5 := Aside0.mk HB4.out.drew
        clear HB4 hcp2 hxa hxb hpos1
        change wpList _ _ _ _ _ w3.drew
        generalize w3.drew = w4 at HB5 ⊢
        go_wp2_with (go_at_call 108; refine (HB5.out.put k _ P3.out).mono ?_; rintro e w5 ⟨rfl, hb6⟩; have HB6 := Aside0.mk hb6; clear hb6)
        have hxz := HB6.out.old HXL.out
        have hfl := HB6.out.fl
        have hcl6 := HB6.out.cl
        have hwn := HWN.out
        have hlt : n - 1 < n := by omega
        have p1 : (0 : Int) ≤ (n : Int) - 1 := by omega
        have q1 : (n : Int) - 1 < (n : Int) := by omega
        clear hpos
        gi_wp2
        exact HFIN.out _ (HB6.out.setL _)
end Go.Proofs.YtgcjjapcniocaaaGreatDoor.G
namespace Go.Proofs.YtgcjjapcniocaaaGreatDoor.G
open Go.RowKit Go.Proofs.YtgcjjapcniocaaaGreatDoorW.PrintWords Go.Proofs.YtgcjjapcniocaaaGreatDoorW.PrintLast Go.Proofs.YtgcjjapcniocaaaGreatDoorW.PrintMore
attribute [local go_sem] max2_int min2_int max_two min_two max_three min_three max_four min_four
set_option linter.unusedVariables false
set_option linter.unusedSimpArgs false
set_option pp.deepTerms true
set_option pp.maxSteps 100000
/-! #### bytes.Equal, runs.Get -/
def eqB (x y : List Int) : Bool := (strOfNums x).toList == (strOfNums y).toList
set_option maxRecDepth 100000 in
theorem bytesEqual_calls (A0 : Option Addr) (c0 : Nat) (l0 : List Int) (A1 : Option Addr) (c1 : Nat) (l1 : List Int) (w : World) (hr0 : Kd.C (Kd.int .u8) w A0 l0.length l0) (hr1 : Kd.C (Kd.int .u8) w A1 l1.length l1) :
    Calls Tryz.prog 167 #[.slice A0 l0.length c0, .slice A1 l1.length c1] w fun e w' => e = .returned (.bool (eqB l0 l1)) ∧ Drawn0 w w' := by
  have hcv3 := Kd.C_string (P := Tryz.prog) (A := A0) (c := c0) Tryz.underlying23 Tryz.underlying5 Tryz.underlying9 hr0
  have hcv4 := Kd.C_string (P := Tryz.prog) (A := A1) (c := c1) Tryz.underlying23 Tryz.underlying5 Tryz.underlying9 hr1
  clear hr0 hr1
  go_enter Tryz.func167, Tryz.ntmps167
  go_wp2
  go_ret
  exact ⟨rfl, by repeat (first | exact Drawn0.refl _ | apply Drawn0.step)⟩
def getLoop (k : Nat) (b : List Int) (many : Int) : Nat → Nat → List Int → Int → Int → Option (List Int × Int × Int)
  | 0, _, _, _, _ => none
  | j + 1, i, l, a, e => if (i : Int) < many ∧ e = 0 then (rdRun k b l a e).bind fun t => getLoop k b many j (i + 1) t.1 t.2.1 t.2.2 else some (l, a, e)
def getEnd (k : Nat) (b : List Int) (l : List Int) (a e : Int) : Option (List Int × Int) :=
  if e ≠ 0 then some ([], e) else if a < (b.length : Int) then some ([], 3) else (putF k l).bind fun c => if c.2 ≠ 0 then some ([], 3) else if eqB b c.1 = true then some (l, 0) else some ([], 3)
def getF (k : Nat) (b : List Int) : Option (List Int × Int) :=
  (rdNext k b 0 0).bind fun t => if t.1 ≤ 9000000000000000000 then (getLoop k b t.1 k 0 [] t.2.1 t.2.2).bind fun u => getEnd k b u.1 u.2.1 u.2.2 else none
set_option maxRecDepth 100000 in
set_option maxHeartbeats 4000000 in
theorem get_calls (k : Nat) (A : Option Addr) (c : Nat) (b : List Int) (r1 : List Int) (r2 : Int) (w : World) (hr : Kd.C (Kd.int .u8) w A b.length b) (hc : b.length ≤ c) (h : getF k b = some (r1, r2)) :
    Calls Tryz.prog 146 #[.slice A b.length c] w fun e w' => ∃ v, e = .returned (.tuple #[v, .int .i64 r2]) ∧ Kd.R (Kd.int .i64) 3 w' w.heap.size (fun _ => True) v r1 ∧ Below w.heap.size w w' := by
  obtain ⟨⟨many, a1, e1⟩, h1, h⟩ := Option.bind_eq_some_iff.1 h
  have hmany : many ≤ 9000000000000000000 := by
    by_cases hm : many ≤ 9000000000000000000
    · exact hm
    · rw [if_neg hm] at h; cases h
  rw [if_pos hmany] at h
  obtain ⟨⟨l2, a2, e2⟩, h2, h⟩ := Option.bind_eq_some_iff.1 h
  have H1 := Aside0.mk h1
  have H2 := Aside0.mk h2
  have H3 := Aside0.mk h
  have HM := Aside0.mk hmany
  have HS : Aside0 (RS w (w.alloc (.cells #[.slice A b.length c, .int .i64 0, .int .i64 0] 248)) w.heap.size A c b 0 0 (.slice none 0 0) []) := ⟨⟨heap_alloc_new w _, hr, hc, Nat.le_refl _, below_alloc (Below.refl _ _) _, Kd.R_nil _ _ _ _ _⟩⟩
  clear h h1 h2 hr hc hmany
  go_enter Tryz.func146, Tryz.ntmps146
  go_upto_block 0 with (go_at_call 165; refine (HS.out.next H1.out).mono ?_; clear H1 HS; rintro x w1 ⟨rfl, hS1⟩; have HS1 := Aside0.mk hS1; clear hS1)
  go_cut [5] (fun v5 W => Aside0 (RS w W w.heap.size A c b a2 e2 v5 l2))
  case first =>
    clear H3
    go_wp2
    go_loopg [5, 7] k (fun gk v5 v7 W => ∃ (i : Nat) (l1 : List Int) (a3 e3 : Int), v7 = .int .i64 i ∧ Aside0 ((i : Int) ≤ many ∨ i = 0) ∧ Aside0 (getLoop k b many gk i l1 a3 e3 = some (l2, a2, e2)) ∧ Aside0 (RS w W w.heap.size A c b a3 e3 v5 l1))
    case atStart => exact ⟨0, [], a1, e1, by first | rfl | simp, ⟨.inr rfl⟩, H2, HS1⟩
    case round =>
      clear H2 HS1
      obtain ⟨i, l1, a3, e3, rfl, HI, HG, HS1⟩ := hrel
      have hr5 := HS1.out.rd.c2
      cases gk with
      | zero => exact absurd HG.out (by simp [getLoop])
      | succ k1 =>
        have hg := HG.out
        rw [getLoop] at hg
        by_cases hi : (i : Int) < many
        · have c1 : decide ((i : Int) < many) = true := decide_eq_true hi
          by_cases he : e3 = 0
          · subst he
            rw [if_pos ⟨hi, rfl⟩] at hg
            obtain ⟨⟨l4, a4, e4⟩, hg1, hg2⟩ := Option.bind_eq_some_iff.1 hg
            have HG1 := Aside0.mk hg1
            have HG2 := Aside0.mk hg2
            have hw : wrap64 ((i : Int) + 1) = (i : Int) + 1 := by have := HM.out; unfold wrap64; omega
            have HIM := Aside0.mk hi
            clear hg hg1 hg2 HG hi
            go_wp2_with (go_at_call 166; refine (rdRun_calls HS1.out HG1.out).mono ?_; rintro x w1 ⟨v1, rfl, hS1⟩; have HS2 := Aside0.mk hS1; clear hS1)
            go_roundg k1
            case measure => omega
            case rel => exact ⟨i + 1, l4, a4, e4, by first | rfl | (simp; done) | (simp; exact hw), ⟨.inl (by have := HIM.out; omega)⟩, HG2, HS2⟩
          · rw [if_neg (fun h => he h.2)] at hg
            simp only [Option.some.injEq, Prod.mk.injEq] at hg
            obtain ⟨rfl, rfl, rfl⟩ := hg
            have c2 : (e3 == 0) = false := beq_eq_false_iff_ne.2 he
            clear he hi HG
            go_wp2
            go_meet
            case rel => exact HS1
        · rw [if_neg (fun h => hi h.1)] at hg
          simp only [Option.some.injEq, Prod.mk.injEq] at hg
          obtain ⟨rfl, rfl, rfl⟩ := hg
          have c1 : decide ((i : Int) < many) = false := decide_eq_false hi
          clear hi HG
          go_wp2
          go_meet
          case rel => exact HS1
  case rest =>
    clear HS1 H2
    have HS1 := hcut
    clear hcut
    have hr5 := HS1.out.rd.c2
    have hr6 := HS1.out.rd.c1
    have hf5 := HS1.out.rd.fr 2
    have h := H3.out
    clear H3
    unfold getEnd at h
    by_cases he : e2 = 0
    · subst he
      rw [if_neg (by simp)] at h
      by_cases ha : a2 < (b.length : Int)
      · rw [if_pos ha] at h
        simp only [Option.some.injEq, Prod.mk.injEq] at h
        obtain ⟨rfl, rfl⟩ := h
        have c1 : decide (a2 < (b.length : Int)) = true := decide_eq_true ha
        clear ha
        go_wp2
        go_quiet (fail)
        go_wp2
        go_ret2
        exact ⟨_, rfl, Kd.R_nil _ _ _ _ _, pw_below_drewN (HS1.out.set2 3).B _⟩
      · rw [if_neg ha] at h
        obtain ⟨⟨cs, pe⟩, hp, h⟩ := Option.bind_eq_some_iff.1 h
        have c1 : decide (a2 < (b.length : Int)) = false := decide_eq_false ha
        obtain ⟨A', c', rfl, hlc, hC⟩ := Kd.R_reads HS1.out.R
        have HP := Aside0.mk hp
        have HLC := Aside0.mk hlc
        have HC := Aside0.mk hC
        dsimp only at h
        clear ha hp hlc hC
        by_cases hpe : pe = 0
        · subst hpe
          rw [if_neg (by simp)] at h
          by_cases hq : eqB b cs = true
          · rw [if_pos hq] at h
            simp only [Option.some.injEq, Prod.mk.injEq] at h
            obtain ⟨rfl, rfl⟩ := h
            have HQ := Aside0.mk hq
            clear hq
            go_wp2_with (first | (go_at_call 80; refine (put_calls k A' c' l2 cs 0 _ HC.out HLC.out HP.out).mono ?_; rintro x w1 ⟨v1, rfl, ho1, hb1⟩; obtain ⟨A1, c1, rfl, hl1, hC1⟩ := Kd.R_reads ho1; have HC1 := Aside0.mk hC1; have HB1 := Aside0.mk hb1; clear ho1 hl1 hC1 hb1) | (go_at_call 167; refine (bytesEqual_calls A c b A1 c1 cs _ (Kd.C_below (Kd.C_below HS1.out.C HS1.out.B) HB1.out) HC1.out).mono ?_; rintro x w2 ⟨rfl, nd, rfl⟩; rw [HQ.out]))
            go_ret2
            refine ⟨_, rfl, ?_, pw_below_drewN (below_then HS1.out.B HS1.out.B.size HB1.out) _⟩
            exact Kd.R_drewN (Kd.R_below HS1.out.R HB1.out) _
          · rw [if_neg hq] at h
            simp only [Option.some.injEq, Prod.mk.injEq] at h
            obtain ⟨rfl, rfl⟩ := h
            have HQ : Aside0 (eqB b cs = false) := ⟨by simpa using hq⟩
            clear hq
            go_wp2_with (first | (go_at_call 80; refine (put_calls k A' c' l2 cs 0 _ HC.out HLC.out HP.out).mono ?_; rintro x w1 ⟨v1, rfl, ho1, hb1⟩; obtain ⟨A1, c1, rfl, hl1, hC1⟩ := Kd.R_reads ho1; have HC1 := Aside0.mk hC1; have HB1 := Aside0.mk hb1; clear ho1 hl1 hC1 hb1) | (go_at_call 167; refine (bytesEqual_calls A c b A1 c1 cs _ (Kd.C_below (Kd.C_below HS1.out.C HS1.out.B) HB1.out) HC1.out).mono ?_; rintro x w2 ⟨rfl, nd, rfl⟩; rw [HQ.out]))
            go_ret2
            exact ⟨_, rfl, Kd.R_nil _ _ _ _ _, pw_below_drewN (below_then HS1.out.B HS1.out.B.size HB1.out) _⟩
        · rw [if_pos hpe] at h
          simp only [Option.some.injEq, Prod.mk.injEq] at h
          obtain ⟨rfl, rfl⟩ := h
          have c3 : (pe != 0) = true := bne_iff_ne.2 hpe
          clear hpe
          go_wp2_with (go_at_call 80; refine (put_calls k A' c' l2 cs pe _ HC.out HLC.out HP.out).mono ?_; rintro x w1 ⟨v1, rfl, ho1, hb1⟩; have HB1 := Aside0.mk hb1; clear ho1 hb1)
          go_ret2
          exact ⟨_, rfl, Kd.R_nil _ _ _ _ _, below_then HS1.out.B HS1.out.B.size HB1.out⟩
    · rw [if_pos he] at h
      simp only [Option.some.injEq, Prod.mk.injEq] at h
      obtain ⟨rfl, rfl⟩ := h
      have c2 : (e2 == 0) = false := beq_eq_false_iff_ne.2 he
      have c3 : (e2 != 0) = true := bne_iff_ne.2 he
      clear he
      go_wp2
      go_quiet (fail)
      go_wp2
      go_ret2
      exact ⟨_, rfl, Kd.R_nil _ _ _ _ _, pw_below_drewN HS1.out.B _⟩
end Go.Proofs.YtgcjjapcniocaaaGreatDoor.G
namespace Go.Proofs.YtgcjjapcniocaaaGreatDoor.G
open Go.RowKit Go.Proofs.YtgcjjapcniocaaaGreatDoorW.PrintWords Go.Proofs.YtgcjjapcniocaaaGreatDoorW.PrintLast Go.Proofs.YtgcjjapcniocaaaGreatDoorW.PrintMore
attribute [local go_sem] max2_int min2_int max_two min_two max_three min_three max_four min_four
set_option linter.unusedVariables false
set_option linter.unusedSimpArgs false
set_option pp.deepTerms true
set_option pp.maxSteps 100000
/-! #### index.one -/
def oneF (k : Nat) (b : List Int) (a : Int) : Option (ByteArray × List Int × Int × Int) :=
  (vint_GetText.f k b a 65536).bind fun t => if t.2.2 ≠ 0 then some (⟨#[]⟩, [], 0, t.2.2) else
  (vint_GetText.f k b t.2.1 65536).bind fun u => if u.2.2 ≠ 0 then some (⟨#[]⟩, [], 0, u.2.2) else
  if u.1.size ≤ 140737488355328 then (getF k (bytesOf u.1)).bind fun g => some (t.1, g.1, u.2.1, g.2) else none
theorem R_set3 {W : World} {g base : Nat} {v : Value} {xs : List Int} {cs : Array Value} (ho : Kd.R (Kd.int .i64) 3 W base (fun _ => True) v xs) (hx : W.heap[g]? = some (.cells cs 50 (0, 0))) (a b c : Value) :
    Kd.R (Kd.int .i64) 3 (((W.setCell ⟨g, 0, none⟩ a).setCell ⟨g, 1, none⟩ b).setCell ⟨g, 2, none⟩ c) base (fun _ => True) v xs := by
  have h := Kd.R_types ho hx (by intro q hq; cases hq with | head => decide | tail _ h => cases h)
  exact Kd.R_mono (Kd.R_far (p := ⟨g, 2, none⟩) (Kd.R_far (p := ⟨g, 1, none⟩) (Kd.R_far (p := ⟨g, 0, none⟩) h (fun k hk => hk.2) a) (fun k hk => hk.2) b) (fun k hk => hk.2) c) (fun _ _ => trivial)
theorem bw_blk {W w2 : World} {g : Nat} {o : Obj} {s : ByteArray} (h : W.heap[g]? = some o) (hb : Below (Lib.bytesWorld W 5 s).heap.size (Lib.bytesWorld W 5 s) w2) : w2.heap[g]? = some o := blk_below ((Lib.bytesWorld_at_old W 5 s g (blk_lt h)).trans h) hb
set_option maxRecDepth 100000 in
set_option maxHeartbeats 1000000 in
theorem one_calls (k : Nat) (A : Option Addr) (c : Nat) (b : List Int) (a : Int) (key : ByteArray) (offs : List Int) (n e : Int) (w : World) (hr : Kd.C (Kd.int .u8) w A b.length b) (hc : b.length ≤ c) (h : oneF k b a = some (key, offs, n, e)) :
    Calls Tryz.prog 123 #[.slice A b.length c, .int .i64 a] w fun x w' => ∃ v, x = .returned (.tuple #[.agg #[.string key, .string ⟨#[]⟩, v], .int .i64 n, .int .i64 e]) ∧ Kd.R (Kd.int .i64) 3 w' w.heap.size (fun _ => True) v offs ∧ Below w.heap.size w w' := by
  obtain ⟨⟨t1, t2, t3⟩, h1, h⟩ := Option.bind_eq_some_iff.1 h
  have HR := Aside0.mk hr
  have HC := Aside0.mk hc
  have H1 := Aside0.mk h1
  dsimp only at h
  clear h1 hr hc
  have hu50 := Tryz.underlying50
  by_cases h3 : t3 = 0
  · subst h3
    rw [if_neg (by simp)] at h
    obtain ⟨⟨u1, u2, u3⟩, h2, h⟩ := Option.bind_eq_some_iff.1 h
    have H2 := Aside0.mk h2
    dsimp only at h
    clear h2
    by_cases hu3 : u3 = 0
    · subst hu3
      rw [if_neg (by simp)] at h
      have hsz : u1.size ≤ 140737488355328 := by
        split at h
        · assumption
        · cases h
      rw [if_pos hsz] at h
      obtain ⟨⟨g1, g2⟩, h3, h⟩ := Option.bind_eq_some_iff.1 h
      simp only [Option.some.injEq, Prod.mk.injEq] at h
      obtain ⟨rfl, rfl, rfl, rfl⟩ := h
      have H3 := Aside0.mk h3
      have HSZ := Aside0.mk hsz
      have hcv : ∀ W : World, (convert 9 23 (.string u1)).run Tryz.prog W = .ok (.slice (some ⟨W.heap.size, 0, none⟩) u1.size (grownCap W u1.size 0 5)) (Lib.bytesWorld W 5 u1) := fun W => Lib.run_convert_string_bytes W 9 23 5 u1 Tryz.underlying9 Tryz.underlying23 Tryz.underlying5
      have HG : Aside0 (∀ (W : World) (g : Nat), W.heap.size = g → Calls Tryz.prog 146 #[.slice (some ⟨g, 0, none⟩) u1.size (grownCap W u1.size 0 5)] (Lib.bytesWorld W 5 u1) fun e w' => ∃ v, e = .returned (.tuple #[v, .int .i64 g2]) ∧ Kd.R (Kd.int .i64) 3 w' (Lib.bytesWorld W 5 u1).heap.size (fun _ => True) v g1 ∧ Below (Lib.bytesWorld W 5 u1).heap.size (Lib.bytesWorld W 5 u1) w') := by
        refine ⟨fun W g hg => ?_⟩
        subst hg
        have hl := bytesOf_length u1
        have hc1 : Kd.C (Kd.int .u8) (Lib.bytesWorld W 5 u1) (some ⟨W.heap.size, 0, none⟩) (bytesOf u1).length (bytesOf u1) := by
          rw [hl]
          exact Kd.C_of_reads (bytes_reads W 5 u1 (by omega))
        have := get_calls k (some ⟨W.heap.size, 0, none⟩) (grownCap W u1.size 0 5) (bytesOf u1) g1 g2 (Lib.bytesWorld W 5 u1) hc1 (by rw [hl]; exact grownCap_ge W u1.size 0 5) h3
        rwa [hl] at this
      clear h3 hsz
      go_enter Tryz.func123, Tryz.ntmps123
      go_wp2_with (first | (go_at_call 145; refine (vint_GetText.calls k A c b a 65536 _ _ _ _ (Kd.C_alloc HR.out _) HC.out H1.out).mono ?_; clear H1; rintro x w1 ⟨rfl, nd, rfl⟩) | (go_at_call 145; refine (vint_GetText.calls k A c b t2 65536 _ _ _ _ (Kd.C_drewN (Kd.C_alloc HR.out _) _) HC.out H2.out).mono ?_; clear H2; rintro x w1 ⟨rfl, nd2, rfl⟩) | (go_at_call 146; (with_reducible refine (HG.out _ _ (by simp)).mono ?_); rintro x w2 ⟨v, rfl, ho, hb⟩; obtain ⟨A2, c2, rfl, hl2, hC2⟩ := Kd.R_reads ho; have hx2 := bw_blk (blk_drewN (heap_alloc_new w (.cells #[.string ⟨#[]⟩, .string ⟨#[]⟩, .slice none 0 0] 50)) _) hb; have hc0 := (blk_cell hx2 0).trans (show (#[Value.string ⟨#[]⟩, .string ⟨#[]⟩, .slice none 0 0])[0]? = _ from rfl); have hc1 := (blk_cell hx2 1).trans (show (#[Value.string ⟨#[]⟩, .string ⟨#[]⟩, .slice none 0 0])[1]? = _ from rfl); have hc2 := (blk_cell hx2 2).trans (show (#[Value.string ⟨#[]⟩, .string ⟨#[]⟩, .slice none 0 0])[2]? = _ from rfl); have hf0 := blk_frozen hx2 0; have hf1 := blk_frozen hx2 1; have hf2 := blk_frozen hx2 2; have HX2 := Aside0.mk hx2; have HO := Aside0.mk ho; have HB := Aside0.mk hb; clear ho hb hl2 hC2 hx2))
      have hB : Below w.heap.size w w2 := below_then (bytes_below (pw_below_drewN (below_alloc (Below.refl _ _) _) _) (by simp) 5 u1) (by rw [Lib.bytesWorld_size]; simp; omega) HB.out
      refine bodyPost_ret (results_ctt rfl _ _ w.heap.size 50 #[.string t1, .string ⟨#[]⟩, .slice A2 g1.length c2] (0, 0) _ rfl ?hb hu50 rfl (by kernel_rfl)) rfl ⟨_, rfl, ?hR, ?hB⟩
      case hb =>
        refine blk_put (cs := #[.string t1, .string ⟨#[]⟩, .slice none 0 0]) ?_ 2 _ rfl
        refine blk_put (cs := #[.string t1, .string ⟨#[]⟩, .slice none 0 0]) ?_ 1 _ rfl
        refine blk_put (cs := #[.string ⟨#[]⟩, .string ⟨#[]⟩, .slice none 0 0]) ?_ 0 _ rfl
        exact HX2.out
      case hR => exact R_set3 (Kd.R_lower HO.out (by rw [Lib.bytesWorld_size]; simp; omega)) HX2.out _ _ _
      case hB => exact ((hB.setCell (p := ⟨w.heap.size, 0, none⟩) (Nat.le_refl _) _).setCell (p := ⟨w.heap.size, 1, none⟩) (Nat.le_refl _) _).setCell (p := ⟨w.heap.size, 2, none⟩) (Nat.le_refl _) _
    · rw [if_pos hu3] at h
      simp only [Option.some.injEq, Prod.mk.injEq] at h
      obtain ⟨rfl, rfl, rfl, rfl⟩ := h
      have c1 : (u3 != 0) = true := bne_iff_ne.2 hu3
      clear hu3
      go_enter Tryz.func123, Tryz.ntmps123
      go_wp2_with (first | (go_at_call 145; refine (vint_GetText.calls k A c b a 65536 _ _ _ _ (Kd.C_alloc HR.out _) HC.out H1.out).mono ?_; clear H1; rintro x w1 ⟨rfl, nd, rfl⟩) | (go_at_call 145; refine (vint_GetText.calls k A c b t2 65536 _ _ _ _ (Kd.C_drewN (Kd.C_alloc HR.out _) _) HC.out H2.out).mono ?_; clear H2; rintro x w1 ⟨rfl, nd2, rfl⟩))
      refine bodyPost_ret (results_ctt rfl _ _ w.heap.size 50 #[.string ⟨#[]⟩, .string ⟨#[]⟩, .slice none 0 0] (0, 0) _ rfl ?hb hu50 rfl (by kernel_rfl)) rfl ⟨_, rfl, Kd.R_nil _ _ _ _ _, ?hB⟩
      case hb =>
        refine blk_put (cs := #[.string ⟨#[]⟩, .string ⟨#[]⟩, .slice none 0 0]) ?_ 2 _ rfl
        refine blk_put (cs := #[.string ⟨#[]⟩, .string ⟨#[]⟩, .slice none 0 0]) ?_ 1 _ rfl
        refine blk_put (cs := #[.string ⟨#[]⟩, .string ⟨#[]⟩, .slice none 0 0]) ?_ 0 _ rfl
        exact heap_alloc_new w _
      case hB => exact (((pw_below_drewN (below_alloc (Below.refl _ _) _) _).setCell (p := ⟨w.heap.size, 0, none⟩) (Nat.le_refl _) _).setCell (p := ⟨w.heap.size, 1, none⟩) (Nat.le_refl _) _).setCell (p := ⟨w.heap.size, 2, none⟩) (Nat.le_refl _) _
  · rw [if_pos h3] at h
    simp only [Option.some.injEq, Prod.mk.injEq] at h
    obtain ⟨rfl, rfl, rfl, rfl⟩ := h
    have c1 : (t3 != 0) = true := bne_iff_ne.2 h3
    clear h3
    go_enter Tryz.func123, Tryz.ntmps123
    go_wp2_with (go_at_call 145; refine (vint_GetText.calls k A c b a 65536 _ _ _ _ (Kd.C_alloc HR.out _) HC.out H1.out).mono ?_; rintro x w1 ⟨rfl, nd, rfl⟩)
    refine bodyPost_ret (results_ctt rfl _ _ w.heap.size 50 #[.string ⟨#[]⟩, .string ⟨#[]⟩, .slice none 0 0] (0, 0) _ rfl ?hb hu50 rfl (by kernel_rfl)) rfl ⟨_, rfl, Kd.R_nil _ _ _ _ _, ?hB⟩
    case hb =>
      refine blk_put (cs := #[.string ⟨#[]⟩, .string ⟨#[]⟩, .slice none 0 0]) ?_ 2 _ rfl
      refine blk_put (cs := #[.string ⟨#[]⟩, .string ⟨#[]⟩, .slice none 0 0]) ?_ 1 _ rfl
      refine blk_put (cs := #[.string ⟨#[]⟩, .string ⟨#[]⟩, .slice none 0 0]) ?_ 0 _ rfl
      exact heap_alloc_new w _
    case hB => exact (((pw_below_drewN (below_alloc (Below.refl _ _) _) _).setCell (p := ⟨w.heap.size, 0, none⟩) (Nat.le_refl _) _).setCell (p := ⟨w.heap.size, 1, none⟩) (Nat.le_refl _) _).setCell (p := ⟨w.heap.size, 2, none⟩) (Nat.le_refl _) _
end Go.Proofs.YtgcjjapcniocaaaGreatDoor.G
