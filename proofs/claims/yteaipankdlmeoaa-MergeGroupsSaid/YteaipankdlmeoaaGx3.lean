-- PRINTED by the session's mp.py (the kit's print.py with contracts of the session's own); not trusted: Lean checks it.
import Derived.Test.YteaipankdlmeoaaGx0
import Derived.Test.YteaipankdlmeoaaGx1
import Derived.Test.YteaipankdlmeoaaGx2
namespace Go.Proofs.Yteaipankdlmeoaa.G
open Go.RowKit Go.Proofs.YteaipankdlmeoaaW.PrintWords Go.Proofs.YteaipankdlmeoaaW.PrintLast Go.Proofs.YteaipankdlmeoaaW.PrintMore
attribute [local go_sem] max2_int min2_int max_two min_two max_three min_three max_four min_four   -- for this text's walks alone
set_option linter.unusedVariables false
set_option linter.unusedSimpArgs false

/-! ### merge_Groups: function 6 -/
/-- The groups so far: the outer row's m + 1 values are ci and, the last, vl; the last group's row is apart from the others. -/
structure GMid (W : World) (base : Nat) (ok : Nat → Prop) (v : Value) (m : Nat) (gi : List (List S30)) (gl : List S30) (ci : List Value) (vl : Value) : Prop where
  own : W.ownsRow base 22 1 v (m + 1) (ci ++ [vl])
  len : ci.length = m
  lenG : gi.length = m
  vok : ∀ k, v.ownBlock = some k → ok k
  init : ∀ (j : Nat) (x : List S30) (c : Value), gi[j]? = some x → ci[j]? = some c → Kd.R k30 30 W base (fun k => (ok k ∧ some k ≠ v.ownBlock) ∧ some k ≠ vl.ownBlock) c x
  last : Kd.R k30 30 W base (fun k => ok k ∧ some k ≠ v.ownBlock) vl gl
section
variable {W W1 w1 : World} {base m : Nat} {ok ok' : Nat → Prop} {v v1 : Value} {gi : List (List S30)} {gl gl1 : List S30} {ci : List Value} {vl vl1 : Value} {g cap : Nat}
/-- Any mover. -/
theorem GMid.step (h : GMid W base ok v m gi gl ci vl) (hm : ∀ k, ok k → k < W.heap.size → W1.heap[k]? = W.heap[k]?) : GMid W1 base ok v m gi gl ci vl :=
  ⟨own_move h.own (fun k hk => hm k (h.vok k hk) (own_lt h.own k hk)), h.len, h.lenG, h.vok, fun j x c hx hc => Kd.R_step (h.init j x c hx hc) (fun k hk hlt => hm k hk.1.1 hlt), Kd.R_step h.last (fun k hk hlt => hm k hk.1 hlt)⟩
theorem GMid.below (h : GMid W base ok v m gi gl ci vl) (hb : Below W.heap.size W W1) : GMid W1 base ok v m gi gl ci vl := h.step (fun k _ hk => hb.block k hk)
theorem GMid.far (h : GMid W base ok v m gi gl ci vl) {p : Addr} (hp : ∀ k, ok k → k ≠ p.block) (u : Value) : GMid (W.setCell p u) base ok v m gi gl ci vl := h.step (fun k hk _ => Below.heap_setCell W p u k (hp k hk))
/-- What is ok may be told anew of the blocks that lie there. -/
theorem GMid.imp (h : GMid W base ok v m gi gl ci vl) (hi : ∀ k, ok k → k < W.heap.size → ok' k) : GMid W base ok' v m gi gl ci vl :=
  ⟨h.own, h.len, h.lenG, fun k hk => hi k (h.vok k hk) (own_lt h.own k hk), fun j x c hx hc => Kd.R_mono (Kd.R_bound (h.init j x c hx hc)) (fun k hk => ⟨⟨hi k hk.1.1.1 hk.2.2.1, hk.1.1.2⟩, hk.1.2⟩), Kd.R_mono (Kd.R_bound h.last) (fun k hk => ⟨hi k hk.1.1 hk.2.2.1, hk.1.2⟩)⟩
theorem GMid.newer (h : GMid W base (fun _ => True) v m gi gl ci vl) : GMid W base (fun k => k ≠ W.heap.size) v m gi gl ci vl := h.imp (fun _ _ hk => Nat.ne_of_lt hk)
/-- A new group, empty yet: the outer row has been appended to. -/
theorem GMid.open_ (h : GMid W base ok v m gi gl ci vl)
    (ho : w1.ownsRow base 22 1 v1 (m + 1 + 1) ((ci ++ [vl]) ++ [.slice none 0 0])) (hg : W.grownBy w1 v.ownBlock) (hat : v1.ownBlock = v.ownBlock ∨ ∃ b, v1.ownBlock = some b ∧ W.heap.size ≤ b) (hf : ∀ k, W.heap.size ≤ k → ok k) :
    GMid w1 base ok v1 (m + 1) (gi ++ [gl]) [] (ci ++ [vl]) (.slice none 0 0) := by
  have hne : ∀ k, (some k ≠ v.ownBlock) → k < W.heap.size → some k ≠ v1.ownBlock := by
    intro k hk hlt
    rcases hat with hat | ⟨b, hb, hle⟩
    · rw [hat]; exact hk
    · rw [hb]; intro he; injection he with he; omega
  refine ⟨ho, by simp [h.len], by simp [h.lenG], ?_, ?_, Kd.R_nil _ _ _ _ _⟩
  · intro k hk
    rcases hat with hat | ⟨b, hb, hle⟩
    · exact h.vok k (by rw [← hat]; exact hk)
    · rw [hb] at hk; injection hk with hk; subst hk; exact hf _ hle
  · intro j x c hx hc
    rcases Nat.lt_or_ge j m with hj | hj
    · rw [List.getElem?_append_left (by rw [h.lenG]; exact hj)] at hx
      rw [List.getElem?_append_left (by rw [h.len]; exact hj)] at hc
      have h1 := Kd.R_bound (h.init j x c hx hc)
      refine Kd.R_mono (Kd.R_step h1 (fun k hk hlt => hg.block k hlt hk.1.1.2)) (fun k hk => ⟨⟨hk.1.1.1, hne k hk.1.1.2 hk.2.2.1⟩, by simp [Value.ownBlock]⟩)
    · rw [List.getElem?_append_right (by rw [h.lenG]; exact hj), h.lenG] at hx
      rw [List.getElem?_append_right (by rw [h.len]; exact hj), h.len] at hc
      have hj0 : j - m = 0 := by
        have := (List.getElem?_eq_some_iff.1 hx).1
        simp at this; omega
      rw [hj0] at hx hc
      simp at hx hc
      subst hx hc
      have h1 := Kd.R_bound h.last
      refine Kd.R_mono (Kd.R_step h1 (fun k hk hlt => hg.block k hlt hk.1.2)) (fun k hk => ⟨⟨hk.1.1, hne k hk.1.2 hk.2.2.1⟩, by simp [Value.ownBlock]⟩)
/-- The first group. -/
theorem GMid.first (ho : w1.ownsRow base 22 1 v1 1 [.slice none 0 0]) (hat : v1.ownBlock = none ∨ ∃ b, v1.ownBlock = some b ∧ W.heap.size ≤ b) (hf : ∀ k, W.heap.size ≤ k → ok k) :
    GMid w1 base ok v1 0 [] [] [] (.slice none 0 0) :=
  ⟨ho, rfl, rfl, fun k hk => by
    rcases hat with hat | ⟨b, hb, hle⟩
    · rw [hat] at hk; cases hk
    · rw [hb] at hk; injection hk with hk; subst hk; exact hf _ hle, fun j x c hx hc => by simp at hx, Kd.R_nil _ _ _ _ _⟩
theorem own_last (h : W.ownsRow base 22 1 (.slice (some ⟨g, 0, none⟩) (m + 1) cap) (m + 1) (ci ++ [vl])) (hl : ci.length = m) : W.cell? ⟨g, m, none⟩ = some vl ∧ W.frozen? ⟨g, m, none⟩ = false := by
  have hx : (ci ++ [vl])[m]? = some vl := by rw [← hl]; simp
  rcases h.2 with ⟨h1, _⟩ | ⟨g', cap', cur, h1, hb, hg, hnc, hcm, hcs, htake⟩
  · cases h1
  · injection h1 with h1 _ h2
    injection h1 with h1
    injection h1 with h1
    subst h1 h2
    refine ⟨(blk_cell hg _).trans ?_, blk_frozen hg _⟩
    rw [← htake, List.getElem?_take] at hx
    split at hx
    · rw [← hx]; simp
    · cases hx
theorem GMid.cell (h : GMid W base ok (.slice (some ⟨g, 0, none⟩) (m + 1) cap) m gi gl ci vl) : W.cell? ⟨g, m, none⟩ = some vl := (own_last h.own h.len).1
theorem GMid.own_grown (h : GMid W base ok (.slice (some ⟨g, 0, none⟩) (m + 1) cap) m gi gl ci vl) (hg : W.grownBy w1 vl.ownBlock) : w1.ownsRow base 22 1 (.slice (some ⟨g, 0, none⟩) (m + 1) cap) (m + 1) (ci ++ [vl]) :=
  own_move h.own (fun k hk => by
    have : g = k := by simpa [Value.ownBlock] using hk
    subst this
    exact hg.block g (own_lt h.own g rfl) (fun he => (h.last.1 g he.symm).2 rfl))
theorem GMid.cell_grown (h : GMid W base ok (.slice (some ⟨g, 0, none⟩) (m + 1) cap) m gi gl ci vl) (hg : W.grownBy w1 vl.ownBlock) : w1.cell? ⟨g, m, none⟩ = some vl ∧ w1.frozen? ⟨g, m, none⟩ = false := own_last (h.own_grown hg) h.len
/-- An item has been appended to the last group's row, and the row has been put back. -/
theorem GMid.put (h : GMid W base ok (.slice (some ⟨g, 0, none⟩) (m + 1) cap) m gi gl ci vl)
    (hr : Kd.R k30 30 w1 base (fun k => ok k ∧ some k ≠ (Value.slice (some ⟨g, 0, none⟩) (m + 1) cap).ownBlock) vl1 gl1) (hg : W.grownBy w1 vl.ownBlock) (hat : vl1.ownBlock = vl.ownBlock ∨ ∃ b, vl1.ownBlock = some b ∧ W.heap.size ≤ b) :
    GMid (w1.setCell ⟨g, m, none⟩ vl1) base ok (.slice (some ⟨g, 0, none⟩) (m + 1) cap) m gi gl1 ci vl1 := by
  have ho2 := (World.ownsRow.stored (h.own_grown hg) m vl1).1
  have hset : (ci ++ [vl]).set m vl1 = ci ++ [vl1] := by rw [← h.len, List.set_append_right _ _ (Nat.le_refl _)]; simp
  rw [hset] at ho2
  have hnb : ∀ k, some k ≠ (Value.slice (some ⟨g, 0, none⟩) (m + 1) cap).ownBlock → k ≠ g := fun k hk e => hk (by rw [e]; rfl)
  refine ⟨ho2, h.len, h.lenG, h.vok, ?_, Kd.R_far (p := ⟨g, m, none⟩) hr (fun k hk => hnb k hk.2) vl1⟩
  intro j x c hx hc
  have h1 := Kd.R_bound (h.init j x c hx hc)
  refine Kd.R_far (p := ⟨g, m, none⟩) (Kd.R_mono (Kd.R_step h1 (fun k hk hlt => hg.block k hlt hk.1.2)) (fun k hk => ⟨hk.1.1, ?_⟩)) (fun k hk => hnb k hk.1.2) vl1
  rcases hat with hat | ⟨b, hb, hle⟩
  · rw [hat]; exact hk.1.2
  · rw [hb]; intro he; injection he with he; have := hk.2.2.1; omega
/-- All groups, as a row of rows. -/
theorem GMid.row (h : GMid W base ok v m gi gl ci vl) : Kd.R (Kd.slice 30 k30) 22 W base (fun _ => True) v (gi ++ [gl]) := by
  refine ⟨fun _ _ => trivial, ci ++ [vl], by rw [List.length_append, h.lenG]; exact h.own, ⟨by simp [h.len, h.lenG, show (Kd.slice 30 k30).sz = 1 from rfl], ?_⟩⟩
  intro j x hx
  rw [show (Kd.slice 30 k30).sz = 1 from rfl, Nat.mul_one]
  have hjl := (List.getElem?_eq_some_iff.1 hx).1
  rw [List.length_append, List.length_singleton, h.lenG] at hjl
  have hcl : j < (ci ++ [vl]).length := by simp [h.len]; omega
  have htk : ((ci ++ [vl]).drop j).take 1 = [(ci ++ [vl])[j]] := by rw [List.drop_eq_getElem_cons hcl, List.take_succ_cons, List.take_zero]
  rw [htk]
  rcases Nat.lt_or_ge j m with hj | hj
  · rw [List.getElem?_append_left (by rw [h.lenG]; exact hj)] at hx
    have hjc : j < ci.length := by rw [h.len]; exact hj
    have hc : ci[j]? = some ci[j] := List.getElem?_eq_getElem hjc
    rw [List.getElem_append_left hjc]
    exact ⟨_, rfl, Kd.R_mono (h.init j x _ hx hc) (fun k hk => ⟨trivial, hk.1.2⟩)⟩
  · have hj0 : j = m := by omega
    subst hj0
    rw [List.getElem?_append_right (by rw [h.lenG]; exact Nat.le_refl _)] at hx
    simp [h.lenG] at hx
    subst hx
    rw [List.getElem_append_right (by rw [h.len]; exact Nat.le_refl _)]
    simp only [List.getElem_singleton]
    exact ⟨_, rfl, Kd.R_mono h.last (fun k hk => ⟨trivial, hk.2⟩)⟩
end
theorem below_of_grown0 {W w1 : World} (hg : W.grownBy w1 (Value.slice none 0 0).ownBlock) : Below W.heap.size W w1 :=
  ⟨hg.os, hg.tape, hg.output, hg.size, fun i hi => hg.block i hi (by simp [Value.ownBlock])⟩
theorem box_at {W : World} {b t : Nat} {cs : Array Value} {v : Value} (h : W.heap[b]? = some (.cells cs t (0, 0))) (j : Nat) (hj : cs[j]? = some v) : W.cell? ⟨b, j, none⟩ = some v := (blk_cell h j).trans hj
/-- By types: what rows of other types lead to. -/
theorem R_apart_types {α : Type} {d : Kd α} {e base : Nat} {ok P : Nat → Prop} {W : World} {v : Value} {xs : List α} (h : d.R e W base ok v xs) (hq : ∀ q, q ∈ e :: d.E → q ≠ 30 ∧ q ≠ 22) (hP : ∀ k cells t, W.heap[k]? = some (.cells cells t (0, 0)) → t ≠ 30 → t ≠ 22 → P k) : d.R e W base P v xs :=
  Kd.R_mono (Kd.R_bound h) (fun k hk => by
    obtain ⟨_, _, _, q, hqm, cells, hc⟩ := hk
    exact hP k cells q hc (hq q hqm).1 (hq q hqm).2)
theorem GMid.types {W : World} {base m bx : Nat} {v : Value} {gi : List (List S30)} {gl : List S30} {ci : List Value} {vl : Value} {cs : Array Value} (h : GMid W base (fun k => k ≠ bx) v m gi gl ci vl) (hb : W.heap[bx]? = some (.cells cs 30 (0, 0))) :
    ∀ k cells t, W.heap[k]? = some (.cells cells t (0, 0)) → t ≠ 30 → t ≠ 22 → (k ≠ bx ∧ some k ≠ v.ownBlock) ∧ some k ≠ vl.ownBlock := by
  intro k cells t hk h30 h22
  refine ⟨⟨?_, ?_⟩, ?_⟩
  · rintro rfl
    rw [hk] at hb
    injection hb with hb
    injection hb with _ hb
    exact h30 hb
  · intro he
    obtain ⟨cells', hc⟩ := own_typed h.own k he.symm
    rw [hk] at hc
    injection hc with hc
    injection hc with _ hc
    exact h22 hc
  · intro he
    obtain ⟨cells', hc⟩ := Kd.R_typed h.last k he.symm
    rw [hk] at hc
    injection hc with hc
    injection hc with _ hc
    exact h30 hc
def groupsStep (g : List (List S30)) (x : S30) : List (List S30) :=
  if g.length = 0 then [[x]] else if (rd_T30 (g.getLastD []) 0).f0.toList = x.f0.toList then g.dropLast ++ [g.getLastD [] ++ [x]] else g ++ [[x]]
def groupsOf (l : List S30) : List (List S30) := l.foldl groupsStep []
def merge_Groups.f (l0 : List S30) : Option (List (List S30)) := if l0.length ≤ 2199023255551 ∧ ∀ x ∈ l0, x.f1.length ≤ 3518437208883 ∧ x.f2.length ≤ 17592186044416 then some (groupsOf l0) else none
/-- The groups of a row of the call's own: none yet, or some, the last apart. -/
def GInv (W : World) (base : Nat) (v : Value) (g : List (List S30)) : Prop :=
  (g = [] ∧ v = .slice none 0 0) ∨ ∃ m gi gl ci vl, g = gi ++ [gl] ∧ gl ≠ [] ∧ GMid W base (fun _ => True) v m gi gl ci vl
theorem GInv.row {W : World} {base : Nat} {v : Value} {g : List (List S30)} (h : GInv W base v g) : Kd.R (Kd.slice 30 k30) 22 W base (fun _ => True) v g := by
  rcases h with ⟨rfl, rfl⟩ | ⟨m, gi, gl, ci, vl, rfl, _, h⟩
  · exact Kd.R_nil _ _ _ _ _
  · exact h.row
theorem groupsOf_snoc (l : List S30) (x : S30) : groupsOf (l ++ [x]) = groupsStep (groupsOf l) x := by simp [groupsOf]
theorem groupsStep_len (g : List (List S30)) (x : S30) : (groupsStep g x).length ≤ g.length + 1 := by
  unfold groupsStep
  split
  · simp
  · split
    · simp [List.length_append, List.length_dropLast]
    · simp
theorem groupsOf_take (l : List S30) (i : Nat) (h : i < l.length) : groupsOf (l.take (i + 1)) = groupsStep (groupsOf (l.take i)) (rd_T30 l (i : Int)) := by
  rw [List.take_succ_eq_append_getElem h, groupsOf_snoc]
  simp [rd_T30, h]
theorem groupsOf_take_len (l : List S30) (i : Nat) : i ≤ l.length → (groupsOf (l.take i)).length ≤ i := by
  induction i with
  | zero => intro _; simp [groupsOf]
  | succ i ih =>
    intro h
    rw [groupsOf_take l i (by omega)]
    have := groupsStep_len (groupsOf (l.take i)) (rd_T30 l (i : Int))
    have := ih (by omega)
    omega
theorem groupsStep_same (gi : List (List S30)) (gl : List S30) (x : S30) (h : (rd_T30 gl 0).f0.toList = x.f0.toList) : groupsStep (gi ++ [gl]) x = gi ++ [gl ++ [x]] := by
  simp [groupsStep, List.getLastD_eq_getLast?, h]
theorem groupsStep_diff (gi : List (List S30)) (gl : List S30) (x : S30) (h : ¬ (rd_T30 gl 0).f0.toList = x.f0.toList) : groupsStep (gi ++ [gl]) x = (gi ++ [gl]) ++ [[x]] := by
  simp [groupsStep, List.getLastD_eq_getLast?, h]
theorem groupsStep_flat (g : List (List S30)) (x : S30) : (groupsStep g x).flatten = g.flatten ++ [x] := by
  rcases List.eq_nil_or_concat g with rfl | ⟨gi, gl, rfl⟩
  · simp [groupsStep]
  · rw [List.concat_eq_append]
    by_cases h : (rd_T30 gl 0).f0.toList = x.f0.toList
    · rw [groupsStep_same _ _ _ h]; simp
    · rw [groupsStep_diff _ _ _ h]; simp
theorem foldl_flat (l : List S30) : ∀ g : List (List S30), (l.foldl groupsStep g).flatten = g.flatten ++ l := by
  induction l with
  | nil => intro g; simp
  | cons x l ih => intro g; rw [List.foldl_cons, ih, groupsStep_flat]; simp
theorem groupsOf_flat (l : List S30) : (groupsOf l).flatten = l := by unfold groupsOf; rw [foldl_flat]; simp
theorem groupsOf_last_len (l : List S30) (i : Nat) (gi : List (List S30)) (gl : List S30) (hi : i ≤ l.length) (h : groupsOf (l.take i) = gi ++ [gl]) : gl.length ≤ i := by
  have h1 := congrArg List.length (groupsOf_flat (l.take i))
  rw [h, List.length_take] at h1
  simp at h1
  omega
theorem rd_T30_mem (l : List S30) {i : Nat} (h : i < l.length) : rd_T30 l (i : Int) ∈ l := by
  have : rd_T30 l (i : Int) = l[i] := by simp [rd_T30, h]
  rw [this]
  exact List.getElem_mem h
set_option maxHeartbeats 1000000 in
theorem merge_Groups.calls (A0 : Option Addr) (c0 : Nat) (l0 : List S30) (r : List (List S30)) (w : World) (hr0 : Kd.C k30 w A0 l0.length l0) (hc0 : l0.length ≤ c0) (h : merge_Groups.f l0 = some r) :
    Calls Try.prog 6 #[.slice A0 l0.length c0] w fun e w' => ∃ v0_ : Value, e = .returned (v0_) ∧ Kd.R (Kd.slice 30 k30) 22 w' w.heap.size (fun _ => True) v0_ r ∧ Below w.heap.size w w' := by
  unfold merge_Groups.f at h
  split at h
  case isFalse => cases h
  case isTrue hb0 =>
  obtain rfl := Option.some.inj h
  clear h
  have HR0 := Aside0.mk hr0
  have HB0 := Aside0.mk hb0
  have HN := Aside0.mk hr0.2.1
  clear hr0 hc0 hb0
  go_enter Try.func6, Try.ntmps6
  go_wp2
  go_loopg [3, 9] l0.length (fun gk v3 v9 w' => ∃ i : Nat, v9 = .int .i64 i ∧ Aside0 (i + gk = l0.length) ∧ Aside0 (GInv w' w.heap.size v3 (groupsOf (l0.take i))) ∧ Aside0 (Below w.heap.size w w'))
  case atStart => exact ⟨0, rfl, ⟨by omega⟩, ⟨.inl ⟨rfl, rfl⟩⟩, ⟨Below.refl _ _⟩⟩
  case round =>
    obtain ⟨i, rfl, HI, HG, HB⟩ := hrel
    cases gk with
    | zero =>
      have hi : l0.length = i := by have := HI.out; omega
      have c1 : ¬ ((i : Int) < (l0.length : Int)) := by omega
      have c1b : decide ((i : Int) < (l0.length : Int)) = false := decide_eq_false c1
      have c1c : decide (i < l0.length) = false := decide_eq_false (by omega)
      have HH := Aside0.mk hi
      clear hi c1
      go_wp2
      go_ret
      refine ⟨_, rfl, ?_, HB.out⟩
      have h1 := HG.out.row
      rw [← HH.out, List.take_length] at h1
      exact h1
    | succ k1 =>
      have hi : i < l0.length := by have := HI.out; omega
      have c1b : decide ((i : Int) < (l0.length : Int)) = true := decide_eq_true (by omega)
      have c1c : decide (i < l0.length) = true := decide_eq_true hi
      have p1 : (0 : Int) ≤ (i : Int) := by omega
      have q1 : (i : Int) < (l0.length : Int) := by omega
      have hlb : (i : Int) ≤ 2199023255551 := by have := HB0.out.1; omega
      obtain ⟨ad1, A1, c1, A2, c2, e1, hx1, hx2, hx3, hl1, hi1, hl2, hi2⟩ := at_T30 HR0.out (i : Int) p1 q1
      cases e1
      replace hx1 := pw_cell_below HB.out hx1
      replace hx2 := pw_cell_below HB.out hx2
      replace hx3 := pw_cell_below HB.out hx3
      rw [show ((i : Int)).toNat = i from rfl] at hx1 hx2 hx3
      have HR1 := Aside0.mk hi1
      have HC1 := Aside0.mk hl1
      have HR2 := Aside0.mk hi2
      have HC2 := Aside0.mk hl2
      have HI1 := Aside0.mk hi
      have HN1 := Aside0.mk (HB0.out.2 _ (rd_T30_mem l0 hi))
      have HLN := Aside0.mk (groupsOf_take_len l0 i (Nat.le_of_lt hi))
      clear hi1 hi2 hl1 hl2
      rcases HG.out with ⟨hg0, rfl⟩ | ⟨m, gi, gl, ci, vl, hg1, hgl, hm⟩
      · have HG0 := Aside0.mk hg0
        clear hg0 HG
        go_upto_region 6 with (fail)
        refine start_ (n := 14) (S := fun w' => True) (ds := []) #[false, false, false, false, false, false, false, false, false, false, false, false, false, false] (by kernel_rfl) rfl rfl trivial (fun hHeld => ?_)
        refine pure_ (i := 0) (N := some 16) (v := ?_) (a' := ?_) #[true, false, false, false, false, false, false, false, false, false, false, false, false, false] rfl rfl (by kernel_rfl) (fun _ _ _ h => h) (Or.inl ⟨by rfl, ?_⟩) ?_ ?_
        rotate_left
        · intro w'
          go_simp
          with_reducible rfl
        rotate_left
        · simp only [Act.put, List.setIfInBounds_toArray, List.set_cons_zero, List.set_cons_succ, i64_w, i32_w]
          rfl
        refine pure_ (i := 1) (N := some 17) (v := ?_) (a' := ?_) #[true, true, false, false, false, false, false, false, false, false, false, false, false, false] rfl rfl (by kernel_rfl) (fun _ _ _ h => h) (Or.inl ⟨by rfl, ?_⟩) ?_ ?_
        rotate_left
        · intro w'
          go_simp
          with_reducible rfl
        rotate_left
        · simp only [Act.put, List.setIfInBounds_toArray, List.set_cons_zero, List.set_cons_succ, i64_w, i32_w]
          rfl
        refine pure_ (i := 2) (N := some 18) (v := ?_) (a' := ?_) #[true, true, true, false, false, false, false, false, false, false, false, false, false, false] rfl rfl (by kernel_rfl) (fun _ _ _ h => h) (Or.inl ⟨by rfl, ?_⟩) ?_ ?_
        rotate_left
        · intro w'
          go_simp
          with_reducible rfl
        rotate_left
        · simp only [Act.put, List.setIfInBounds_toArray, List.set_cons_zero, List.set_cons_succ, i64_w, i32_w]
          rfl
        refine pure_ (i := 3) (N := some 19) (v := undef) (a' := ?_) #[true, true, true, true, false, false, false, false, false, false, false, false, false, false] rfl rfl (by kernel_rfl) (fun _ _ _ h => h) (Or.inr ⟨by rfl, rfl⟩) ?_ ?_
        rotate_left
        · simp only [Act.put, List.setIfInBounds_toArray, List.set_cons_zero, List.set_cons_succ, i64_w, i32_w]
          rfl
        refine pure_ (i := 4) (N := some 20) (v := undef) (a' := ?_) #[true, true, true, true, true, false, false, false, false, false, false, false, false, false] rfl rfl (by kernel_rfl) (fun _ _ _ h => h) (Or.inr ⟨by rfl, rfl⟩) ?_ ?_
        rotate_left
        · simp only [Act.put, List.setIfInBounds_toArray, List.set_cons_zero, List.set_cons_succ, i64_w, i32_w]
          rfl
        refine pure_ (i := 5) (N := some 21) (v := undef) (a' := ?_) #[true, true, true, true, true, true, false, false, false, false, false, false, false, false] rfl rfl (by kernel_rfl) (fun _ _ _ h => h) (Or.inr ⟨by rfl, rfl⟩) ?_ ?_
        rotate_left
        · simp only [Act.put, List.setIfInBounds_toArray, List.set_cons_zero, List.set_cons_succ, i64_w, i32_w]
          rfl
        refine pure_ (i := 6) (N := some 22) (v := undef) (a' := ?_) #[true, true, true, true, true, true, true, false, false, false, false, false, false, false] rfl rfl (by kernel_rfl) (fun _ _ _ h => h) (Or.inr ⟨by rfl, rfl⟩) ?_ ?_
        rotate_left
        · simp only [Act.put, List.setIfInBounds_toArray, List.set_cons_zero, List.set_cons_succ, i64_w, i32_w]
          rfl
        refine pure_ (i := 7) (N := some 23) (v := undef) (a' := ?_) #[true, true, true, true, true, true, true, true, false, false, false, false, false, false] rfl rfl (by kernel_rfl) (fun _ _ _ h => h) (Or.inr ⟨by rfl, rfl⟩) ?_ ?_
        rotate_left
        · simp only [Act.put, List.setIfInBounds_toArray, List.set_cons_zero, List.set_cons_succ, i64_w, i32_w]
          rfl
        refine pure_ (i := 8) (N := some 24) (v := undef) (a' := ?_) #[true, true, true, true, true, true, true, true, true, false, false, false, false, false] rfl rfl (by kernel_rfl) (fun _ _ _ h => h) (Or.inr ⟨by rfl, rfl⟩) ?_ ?_
        rotate_left
        · simp only [Act.put, List.setIfInBounds_toArray, List.set_cons_zero, List.set_cons_succ, i64_w, i32_w]
          rfl
        refine pure_ (i := 9) (N := some 25) (v := undef) (a' := ?_) #[true, true, true, true, true, true, true, true, true, true, false, false, false, false] rfl rfl (by kernel_rfl) (fun _ _ _ h => h) (Or.inr ⟨by rfl, rfl⟩) ?_ ?_
        rotate_left
        · simp only [Act.put, List.setIfInBounds_toArray, List.set_cons_zero, List.set_cons_succ, i64_w, i32_w]
          rfl
        refine pure_ (i := 10) (N := some 26) (v := undef) (a' := ?_) #[true, true, true, true, true, true, true, true, true, true, true, false, false, false] rfl rfl (by kernel_rfl) (fun _ _ _ h => h) (Or.inr ⟨by rfl, rfl⟩) ?_ ?_
        rotate_left
        · simp only [Act.put, List.setIfInBounds_toArray, List.set_cons_zero, List.set_cons_succ, i64_w, i32_w]
          rfl
        refine pure_ (i := 11) (N := some 27) (v := undef) (a' := ?_) #[true, true, true, true, true, true, true, true, true, true, true, true, false, false] rfl rfl (by kernel_rfl) (fun _ _ _ h => h) (Or.inr ⟨by rfl, rfl⟩) ?_ ?_
        rotate_left
        · simp only [Act.put, List.setIfInBounds_toArray, List.set_cons_zero, List.set_cons_succ, i64_w, i32_w]
          rfl
        refine pure_ (i := 12) (N := some 28) (v := undef) (a' := ?_) #[true, true, true, true, true, true, true, true, true, true, true, true, true, false] rfl rfl (by kernel_rfl) (fun _ _ _ h => h) (Or.inr ⟨by rfl, rfl⟩) ?_ ?_
        rotate_left
        · simp only [Act.put, List.setIfInBounds_toArray, List.set_cons_zero, List.set_cons_succ, i64_w, i32_w]
          rfl
        refine pure_ (i := 13) (N := some 29) (v := ?_) (a' := ?_) #[true, true, true, true, true, true, true, true, true, true, true, true, true, true] rfl rfl (by kernel_rfl) (fun _ _ _ h => h) (Or.inl ⟨by rfl, ?_⟩) ?_ ?_
        rotate_left
        · intro w'
          go_simp
          with_reducible rfl
        rotate_left
        · simp only [Act.put, List.setIfInBounds_toArray, List.set_cons_zero, List.set_cons_succ, i64_w, i32_w]
          rfl
        refine done_ (by kernel_rfl) ?_
        go_upto_region 9 with (at_builtin; refine print_append_cells (w0 := w) (W := (wr.alloc (.cells #[.string (rd_T30 l0 (i : Int)).f0, .slice A1 (rd_T30 l0 (i : Int)).f1.length c1, .slice A2 (rd_T30 l0 (i : Int)).f2.length c2] 30)).drew) w.heap.size rfl (.tmp 30) (.tmp 31) 25 22 (.slice none 0 0) 1 24 rfl Try.underlying25 info22 rfl (by decide) (by omega) (.slice none 0 0) 0 [] [.slice none 0 0] rfl ?aX rfl (fun u hu => by rw [List.mem_singleton.1 hu]; rfl) ?aO ?aB ?aS ?aL ?_; (case aX => (show Value.slice (some ⟨wr.heap.size + 1, 0, none⟩) 1 1 = _); simp); (case aO => exact own_nil _ _ _ _); (case aB => exact below_drew (below_alloc HB.out _)); (case aS => exact Nat.le_trans HB.out.size (by simp)); (case aL => omega); intro v1 w1 ho hb hg hat; obtain ⟨g9, cap9, rfl, hgb9, hgl9⟩ := ho.form (by omega))
        have HX : Aside0 (w1.heap[wr.heap.size]? = some (.cells #[.string (rd_T30 l0 (i : Int)).f0, .slice A1 (rd_T30 l0 (i : Int)).f1.length c1, .slice A2 (rd_T30 l0 (i : Int)).f2.length c2] 30 (0, 0))) := ⟨blk_grown (blk_drew (heap_alloc_new wr _)) hg (by show some wr.heap.size ≠ (Value.slice none 0 0).ownBlock; simp [Value.ownBlock])⟩
        have HM : Aside0 (GMid w1 w.heap.size (fun k => k ≠ wr.heap.size) (.slice (some ⟨g9, 0, none⟩) 1 cap9) 0 [] [] [] (.slice none 0 0)) := ⟨GMid.first (W := (wr.alloc (.cells #[.string (rd_T30 l0 (i : Int)).f0, .slice A1 (rd_T30 l0 (i : Int)).f1.length c1, .slice A2 (rd_T30 l0 (i : Int)).f2.length c2] 30)).drew) ho hat (fun k hk e => by have hk : (wr.alloc (.cells #[.string (rd_T30 l0 (i : Int)).f0, .slice A1 (rd_T30 l0 (i : Int)).f1.length c1, .slice A2 (rd_T30 l0 (i : Int)).f2.length c2] 30)).heap.size ≤ k := hk; simp at hk; omega)⟩
        have HBl := Aside0.mk hb
        have HFG : Aside0 (groupsOf (List.take (i + 1) l0) = [] ++ [[] ++ [(rd_T30 l0 (i : Int))]]) := ⟨by rw [groupsOf_take _ _ HI1.out, HG0.out]; simp [groupsStep]⟩
        have HGL : Aside0 (([] : List S30).length ≤ i) := ⟨by simp⟩
        clear ho hb hg hat
        have HRa := Aside0.mk (Kd.C_below HR1.out HBl.out)
        have HRb := Aside0.mk (Kd.C_below HR2.out HBl.out)
        go_upto_region 9 with (fail)
        refine start_ (n := 10) (S := fun w' => w'.cell? ⟨wr.heap.size, 1, none⟩ = some (.slice A1 (rd_T30 l0 (i : Int)).f1.length c1) ∧ w'.cell? ⟨wr.heap.size, 2, none⟩ = some (.slice A2 (rd_T30 l0 (i : Int)).f2.length c2)) (ds := [7, 9]) #[false, false, false, false, false, false, false, false, false, false] (by kernel_rfl) rfl rfl ⟨box_at (blk_drew HX.out) 1 rfl, box_at (blk_drew HX.out) 2 rfl⟩ (fun hHeld => ?_)
        refine pure_ (i := 0) (N := some 35) (v := ?_) (a' := ?_) #[true, false, false, false, false, false, false, false, false, false] rfl rfl (by kernel_rfl) (fun _ _ _ h => h) (Or.inl ⟨by rfl, ?_⟩) ?_ ?_
        rotate_left
        · intro w'
          go_simp
          with_reducible rfl
        rotate_left
        · simp only [Act.put, List.setIfInBounds_toArray, List.set_cons_zero, List.set_cons_succ, i64_w, i32_w]
          rfl
        refine pure_ (i := 3) (N := some 38) (v := ?_) (a' := ?_) #[true, false, false, true, false, false, false, false, false, false] rfl rfl (by kernel_rfl) (fun _ _ _ h => h) (Or.inl ⟨by rfl, ?_⟩) ?_ ?_
        rotate_left
        · intro w'
          go_simp
          with_reducible rfl
        rotate_left
        · simp only [Act.put, List.setIfInBounds_toArray, List.set_cons_zero, List.set_cons_succ, i64_w, i32_w]
          rfl
        refine take_ (i := 1) (N := some 36) (v := ?_) (a' := ?_) #[true, true, false, true, false, false, false, false, false, false] rfl rfl (by kernel_rfl) (fun _ _ _ h => h) (Or.inl ⟨by rfl, ?_⟩) hHeld ?_ ?_
        rotate_left
        · rintro w' ⟨s0, s1⟩
          go_simp
          with_reducible rfl
        rotate_left
        · simp only [Act.put, List.setIfInBounds_toArray, List.set_cons_zero, List.set_cons_succ, i64_w, i32_w]
          rfl
        refine take_ (i := 4) (N := some 39) (v := ?_) (a' := ?_) #[true, true, false, true, true, false, false, false, false, false] rfl rfl (by kernel_rfl) (fun _ _ _ h => h) (Or.inl ⟨by rfl, ?_⟩) hHeld ?_ ?_
        rotate_left
        · rintro w' ⟨s0, s1⟩
          go_simp
          with_reducible rfl
        rotate_left
        · simp only [Act.put, List.setIfInBounds_toArray, List.set_cons_zero, List.set_cons_succ, i64_w, i32_w]
          rfl
        refine one_ (i := 2) (N := some 37) #[true, true, true, true, true, false, false, false, false, false] rfl rfl (by kernel_rfl) (by decide) (fun K hK => ?_)
        refine goes_ Try.func10 (by kernel_rfl) rfl #[.slice A1 (rd_T30 l0 (i : Int)).f1.length c1] (by rfl) rfl rfl (by simp only [List.map_toArray, List.map_cons, List.map_nil]; rfl) ?_
        with_reducible refine (api_Part.calls _ _ (rd_T30 l0 (i : Int)).f1 (rd_T30 l0 (i : Int)).f1 _ (Kd.C_drew HRa.out) HC1.out (api_Part.some_ HN1.out.1)).mono ?_
        rintro e w3 ⟨v37, rfl, hv37, hb37⟩
        refine ⟨_, rfl, ?_⟩
        have HV37 := Aside0.mk hv37
        have HB37 := Aside0.mk hb37
        clear hv37 hb37
        refine hK.out _ _ ⟨box_at (blk_below (blk_drew HX.out) HB37.out) 1 rfl, box_at (blk_below (blk_drew HX.out) HB37.out) 2 rfl⟩ (fun hHeld => ?_)
        clear hK K
        refine norm_ (a' := ?_) ?_ ?_
        rotate_left
        · show Act.put _ (some 37) _ = _
          simp only [Act.put, List.setIfInBounds_toArray, List.set_cons_zero, List.set_cons_succ, i64_w, i32_w]
          rfl
        refine pure_ (i := 6) (N := some 41) (v := ?_) (a' := ?_) #[true, true, true, true, true, false, true, false, false, false] rfl rfl (by kernel_rfl) (fun _ _ _ h => h) (Or.inl ⟨by rfl, ?_⟩) ?_ ?_
        rotate_left
        · intro w'
          go_simp
          with_reducible rfl
        rotate_left
        · simp only [Act.put, List.setIfInBounds_toArray, List.set_cons_zero, List.set_cons_succ, i64_w, i32_w]
          rfl
        refine one_ (i := 5) (N := some 40) #[true, true, true, true, true, true, true, false, false, false] rfl rfl (by kernel_rfl) (by decide) (fun K hK => ?_)
        refine goes_ Try.func11 (by kernel_rfl) rfl #[.slice A2 (rd_T30 l0 (i : Int)).f2.length c2] (by rfl) rfl rfl (by simp only [List.map_toArray, List.map_cons, List.map_nil]; rfl) ?_
        with_reducible refine (slices_Clone_int_int.calls _ _ (rd_T30 l0 (i : Int)).f2 (rd_T30 l0 (i : Int)).f2 _ (Kd.C_below (Kd.C_drew HRb.out) HB37.out) HC2.out (slices_Clone_int_int.some_ HN1.out.2)).mono ?_
        rintro e w4 ⟨v40, rfl, hv40, hb40⟩
        refine ⟨_, rfl, ?_⟩
        have HV40 := Aside0.mk hv40
        have HB40 := Aside0.mk hb40
        clear hv40 hb40
        obtain ⟨A37, k37, e37⟩ := Kd.R_slice HV37.out
        obtain ⟨A40, k40, e40⟩ := Kd.R_slice HV40.out
        subst e37 e40
        refine hK.out _ _ ⟨box_at (blk_below (blk_below (blk_drew HX.out) HB37.out) HB40.out) 1 rfl, box_at (blk_below (blk_below (blk_drew HX.out) HB37.out) HB40.out) 2 rfl⟩ (fun hHeld => ?_)
        clear hK K
        refine norm_ (a' := ?_) ?_ ?_
        rotate_left
        · show Act.put _ (some 40) _ = _
          simp only [Act.put, List.setIfInBounds_toArray, List.set_cons_zero, List.set_cons_succ, i64_w, i32_w]
          rfl
        refine last_ (i := 7) (N := none) #[true, true, true, true, true, true, true, true, false, false] rfl rfl (by kernel_rfl) (by decide) (fun K hK => ?_)
        have hx7 : w4.cell? ⟨wr.heap.size, 1, none⟩ = some (.slice A1 (rd_T30 l0 (i : Int)).f1.length c1) := box_at (blk_below (blk_below (blk_drew HX.out) HB37.out) HB40.out) 1 rfl
        have hz7 : w4.frozen? ⟨wr.heap.size, 1, none⟩ = false := blk_frozen (blk_below (blk_below (blk_drew HX.out) HB37.out) HB40.out) 1
        refine skip_ (w1 := ?_) (by rfl) rfl ?_ ?_
        rotate_left
        · go_simp
          rfl
        clear hx7 hz7
        refine hK.out _ _ ?_
        clear hK K
        refine pure_ (i := 8) (N := some 42) (v := ?_) (a' := ?_) #[true, true, true, true, true, true, true, true, true, false] rfl rfl (by kernel_rfl) (fun _ _ _ h => h) (Or.inl ⟨by rfl, ?_⟩) ?_ ?_
        rotate_left
        · intro w'
          go_simp
          with_reducible rfl
        rotate_left
        · simp only [Act.put, List.setIfInBounds_toArray, List.set_cons_zero, List.set_cons_succ, i64_w, i32_w]
          rfl
        refine last_ (i := 9) (N := none) #[true, true, true, true, true, true, true, true, true, true] rfl rfl (by kernel_rfl) (by decide) (fun K hK => ?_)
        have hx9 : (w4.setCell ⟨wr.heap.size, 1, none⟩ (.slice A37 (rd_T30 l0 (i : Int)).f1.length k37)).cell? ⟨wr.heap.size, 2, none⟩ = some (.slice A2 (rd_T30 l0 (i : Int)).f2.length c2) := box_at (blk_set (blk_below (blk_below (blk_drew HX.out) HB37.out) HB40.out) 1 _) 2 rfl
        have hz9 : (w4.setCell ⟨wr.heap.size, 1, none⟩ (.slice A37 (rd_T30 l0 (i : Int)).f1.length k37)).frozen? ⟨wr.heap.size, 2, none⟩ = false := blk_frozen (blk_set (blk_below (blk_below (blk_drew HX.out) HB37.out) HB40.out) 1 _) 2
        refine skip_ (w1 := ?_) (by rfl) rfl ?_ ?_
        rotate_left
        · go_simp
          rfl
        clear hx9 hz9
        refine hK.out _ _ ?_
        clear hK K
        refine done_ (by kernel_rfl) ?_
        have HX9 : Aside0 (((w4.setCell ⟨wr.heap.size, 1, none⟩ (.slice A37 (rd_T30 l0 (i : Int)).f1.length k37)).setCell ⟨wr.heap.size, 2, none⟩ (.slice A40 (rd_T30 l0 (i : Int)).f2.length k40)).heap[wr.heap.size]? = some (.cells #[.string (rd_T30 l0 (i : Int)).f0, .slice A37 (rd_T30 l0 (i : Int)).f1.length k37, .slice A40 (rd_T30 l0 (i : Int)).f2.length k40] 30 (0, 0))) := ⟨blk_set (blk_set (blk_below (blk_below (blk_drew HX.out) HB37.out) HB40.out) 1 _) 2 _⟩
        have HM9 : Aside0 (GMid ((w4.setCell ⟨wr.heap.size, 1, none⟩ (.slice A37 (rd_T30 l0 (i : Int)).f1.length k37)).setCell ⟨wr.heap.size, 2, none⟩ (.slice A40 (rd_T30 l0 (i : Int)).f2.length k40)) w.heap.size (fun k => k ≠ wr.heap.size) (.slice (some ⟨g9, 0, none⟩) 1 cap9) 0 [] [] [] (.slice none 0 0)) := ⟨((((HM.out.below (below_drew1 (Below.refl _ _))).below HB37.out).below HB40.out).far (p := ⟨wr.heap.size, 1, none⟩) (fun _ hk => hk) _).far (p := ⟨wr.heap.size, 2, none⟩) (fun _ hk => hk) _⟩
        have HBl9 : Aside0 (Below w.heap.size w ((w4.setCell ⟨wr.heap.size, 1, none⟩ (.slice A37 (rd_T30 l0 (i : Int)).f1.length k37)).setCell ⟨wr.heap.size, 2, none⟩ (.slice A40 (rd_T30 l0 (i : Int)).f2.length k40))) := ⟨below_set (below_set (below_then (below_then (below_drew HBl.out) HBl.out.size HB37.out) (Nat.le_trans HBl.out.size HB37.out.size) HB40.out) HB.out.size) HB.out.size⟩
        have HV37' : Aside0 (Kd.R k35 35 ((w4.setCell ⟨wr.heap.size, 1, none⟩ (.slice A37 (rd_T30 l0 (i : Int)).f1.length k37)).setCell ⟨wr.heap.size, 2, none⟩ (.slice A40 (rd_T30 l0 (i : Int)).f2.length k40)) w.heap.size (fun _ => True) (.slice A37 (rd_T30 l0 (i : Int)).f1.length k37) (rd_T30 l0 (i : Int)).f1) := ⟨Kd.R_lower (Kd.R_set (Kd.R_set (Kd.R_below HV37.out HB40.out) (blk_below (blk_below (blk_drew HX.out) HB37.out) HB40.out) (by decide) 1 _) (blk_set (blk_below (blk_below (blk_drew HX.out) HB37.out) HB40.out) 1 _) (by decide) 2 _) HBl.out.size⟩
        have HV40' : Aside0 (Kd.R (Kd.int .i64) 3 ((w4.setCell ⟨wr.heap.size, 1, none⟩ (.slice A37 (rd_T30 l0 (i : Int)).f1.length k37)).setCell ⟨wr.heap.size, 2, none⟩ (.slice A40 (rd_T30 l0 (i : Int)).f2.length k40)) w.heap.size (fun _ => True) (.slice A40 (rd_T30 l0 (i : Int)).f2.length k40) (rd_T30 l0 (i : Int)).f2) := ⟨Kd.R_lower (Kd.R_set (Kd.R_set HV40.out (blk_below (blk_below (blk_drew HX.out) HB37.out) HB40.out) (by decide) 1 _) (blk_set (blk_below (blk_below (blk_drew HX.out) HB37.out) HB40.out) 1 _) (by decide) 2 _) (Nat.le_trans HBl.out.size HB37.out.size)⟩
        obtain ⟨W9, hW9⟩ : ∃ W, ((w4.setCell ⟨wr.heap.size, 1, none⟩ (.slice A37 (rd_T30 l0 (i : Int)).f1.length k37)).setCell ⟨wr.heap.size, 2, none⟩ (.slice A40 (rd_T30 l0 (i : Int)).f2.length k40)) = W := ⟨_, rfl⟩
        rw [hW9] at HX9 HM9 HBl9 HV37' HV40' ⊢
        clear hW9 HV37 HV40 HB37 HB40 HM HX HBl HRa HRb
        go_upto_region 10 with (fail)
        refine start_ (n := 11) (S := fun w' => w'.cell? ⟨g9, 0, none⟩ = some (.slice none 0 0) ∧ w'.cell? ⟨wr.heap.size, 0, none⟩ = some (.string (rd_T30 l0 (i : Int)).f0) ∧ w'.cell? ⟨wr.heap.size, 1, none⟩ = some (.slice A37 (rd_T30 l0 (i : Int)).f1.length k37) ∧ w'.cell? ⟨wr.heap.size, 2, none⟩ = some (.slice A40 (rd_T30 l0 (i : Int)).f2.length k40)) (ds := [10]) #[false, false, false, false, false, false, false, false, false, false, false] (by kernel_rfl) rfl rfl ⟨(HM9.out.below (below_drew1 (Below.refl _ _))).cell, box_at (blk_drew HX9.out) 0 rfl, box_at (blk_drew HX9.out) 1 rfl, box_at (blk_drew HX9.out) 2 rfl⟩ (fun hHeld => ?_)
        refine pure_ (i := 0) (N := some 43) (v := ?_) (a' := ?_) #[true, false, false, false, false, false, false, false, false, false, false] rfl rfl (by kernel_rfl) (fun _ _ _ h => h) (Or.inl ⟨by rfl, ?_⟩) ?_ ?_
        rotate_left
        · intro w'
          go_simp
          with_reducible rfl
        rotate_left
        · simp only [Act.put, List.setIfInBounds_toArray, List.set_cons_zero, List.set_cons_succ, i64_w, i32_w]
          rfl
        refine pure_ (i := 1) (N := some 44) (v := ?_) (a' := ?_) #[true, true, false, false, false, false, false, false, false, false, false] rfl rfl (by kernel_rfl) (fun _ _ _ h => h) (Or.inl ⟨by rfl, ?_⟩) ?_ ?_
        rotate_left
        · intro w'
          go_simp
          with_reducible rfl
        rotate_left
        · simp only [Act.put, List.setIfInBounds_toArray, List.set_cons_zero, List.set_cons_succ, i64_w, i32_w]
          rfl
        refine pure_ (i := 2) (N := some 45) (v := ?_) (a' := ?_) #[true, true, true, false, false, false, false, false, false, false, false] rfl rfl (by kernel_rfl) (fun _ _ _ h => h) (Or.inl ⟨by rfl, ?_⟩) ?_ ?_
        rotate_left
        · intro w'
          go_simp
          with_reducible rfl
        rotate_left
        · simp only [Act.put, List.setIfInBounds_toArray, List.set_cons_zero, List.set_cons_succ, i64_w, i32_w]
          rfl
        refine pure_ (i := 3) (N := some 46) (v := ?_) (a' := ?_) #[true, true, true, true, false, false, false, false, false, false, false] rfl rfl (by kernel_rfl) (fun _ _ _ h => h) (Or.inl ⟨by rfl, ?_⟩) ?_ ?_
        rotate_left
        · intro w'
          go_simp
          with_reducible rfl
        rotate_left
        · simp only [Act.put, List.setIfInBounds_toArray, List.set_cons_zero, List.set_cons_succ, i64_w, i32_w]
          rfl
        refine pure_ (i := 4) (N := some 47) (v := ?_) (a' := ?_) #[true, true, true, true, true, false, false, false, false, false, false] rfl rfl (by kernel_rfl) (fun _ _ _ h => h) (Or.inl ⟨by rfl, ?_⟩) ?_ ?_
        rotate_left
        · intro w'
          go_simp
          with_reducible rfl
        rotate_left
        · simp only [Act.put, List.setIfInBounds_toArray, List.set_cons_zero, List.set_cons_succ, i64_w, i32_w]
          rfl
        refine take_ (i := 5) (N := some 48) (v := ?_) (a' := ?_) #[true, true, true, true, true, true, false, false, false, false, false] rfl rfl (by kernel_rfl) (fun _ _ _ h => h) (Or.inl ⟨by rfl, ?_⟩) hHeld ?_ ?_
        rotate_left
        · rintro w' ⟨s0, s1, s2, s3⟩
          go_simp
          with_reducible rfl
        rotate_left
        · simp only [Act.put, List.setIfInBounds_toArray, List.set_cons_zero, List.set_cons_succ, i64_w, i32_w]
          rfl
        refine take_ (i := 6) (N := some 49) (v := ?_) (a' := ?_) #[true, true, true, true, true, true, true, false, false, false, false] rfl rfl (by kernel_rfl) (fun _ _ _ h => h) (Or.inl ⟨by rfl, ?_⟩) hHeld ?_ ?_
        rotate_left
        · rintro w' ⟨s0, s1, s2, s3⟩
          go_simp
          with_reducible rfl
        rotate_left
        · simp only [Act.put, List.setIfInBounds_toArray, List.set_cons_zero, List.set_cons_succ, i64_w, i32_w]
          rfl
        refine one_ (i := 7) (N := some 50) #[true, true, true, true, true, true, true, true, false, false, false] rfl rfl (by kernel_rfl) (by decide) (fun K hK => ?_)
        refine value_ (w1 := ?_) (v := ?_) (by rfl) rfl ?_ ?_
        rotate_left 2
        · go_simp
          constructor
          · rfl
          · rfl
        refine hK.out _ _ ⟨((HM9.out.below (below_drew1 (Below.refl _ _))).below (below_alloc (Below.refl _ _) _)).cell, box_at (blk_alloc (blk_drew HX9.out) _) 0 rfl, box_at (blk_alloc (blk_drew HX9.out) _) 1 rfl, box_at (blk_alloc (blk_drew HX9.out) _) 2 rfl⟩ (fun hHeld => ?_)
        clear hK K
        refine norm_ (a' := ?_) ?_ ?_
        rotate_left
        · show Act.put _ (some 50) _ = _
          simp only [Act.put, List.setIfInBounds_toArray, List.set_cons_zero, List.set_cons_succ, i64_w, i32_w]
          rfl
        refine one_ (i := 8) (N := some 51) #[true, true, true, true, true, true, true, true, true, false, false] rfl rfl (by kernel_rfl) (by decide) (fun K hK => ?_)
        refine Kd.R_append_step k30 (w0 := w) (W := W9.drew) w.heap.size (by rfl) (.tmp 48) (.tmp 50) 22 30 (.agg #[(.string ⟨#[]⟩), (.slice none 0 0), (.slice none 0 0)]) 64 rfl Try.underlying22 info30 rfl (by decide) (by omega) (.slice none 0 0) [] (rd_T30 l0 (i : Int)) [.string (rd_T30 l0 (i : Int)).f0, (.slice A37 (rd_T30 l0 (i : Int)).f1.length k37), (.slice A40 (rd_T30 l0 (i : Int)).f2.length k40)] (fun k => k ≠ wr.heap.size ∧ some k ≠ ((.slice (some ⟨g9, 0, none⟩) 1 cap9) : Value).ownBlock) (fun k => (k ≠ wr.heap.size ∧ some k ≠ ((.slice (some ⟨g9, 0, none⟩) 1 cap9) : Value).ownBlock) ∧ some k ≠ ((.slice none 0 0) : Value).ownBlock) rfl ?aX ?aM (fun _ h => h) ?aF ?aO ?aB ?aS ?aL ?_
        case aX => rfl
        case aM => exact k30_mkM _ _ _ _ (R_apart_types (Kd.R_drew HV37'.out) (by decide) ((HM9.out.below (below_drew1 (Below.refl _ _))).types (blk_drew HX9.out))) (R_apart_types (Kd.R_drew HV40'.out) (by decide) ((HM9.out.below (below_drew1 (Below.refl _ _))).types (blk_drew HX9.out)))
        case aF => exact fun k hk => ⟨fun e => by have := blk_lt HX9.out; have hk : W9.heap.size ≤ k := hk; omega, fun e => by have := own_lt HM9.out.own k e.symm; have hk : W9.heap.size ≤ k := hk; omega⟩
        case aO => exact (HM9.out.below (below_drew1 (Below.refl _ _))).last
        case aB => exact below_drew HBl9.out
        case aS => exact HBl9.out.size
        case aL => have := HGL.out; have := HB0.out.1; have := HI1.out; omega
        intro v51 w51 hr51 hb51 hg51 hat51
        have HR51 := Aside0.mk hr51
        have HBl51 := Aside0.mk hb51
        have HG51 := Aside0.mk hg51
        have HAT51 := Aside0.mk hat51
        clear hr51 hb51 hg51 hat51
        obtain ⟨A51, k51, e51⟩ := Kd.R_slice HR51.out
        simp only [List.nil_append, List.length_append, List.length_singleton] at e51
        subst e51
        have HX51 : Aside0 (w51.heap[wr.heap.size]? = some (.cells #[.string (rd_T30 l0 (i : Int)).f0, (.slice A37 (rd_T30 l0 (i : Int)).f1.length k37), (.slice A40 (rd_T30 l0 (i : Int)).f2.length k40)] 30 (0, 0))) := ⟨blk_grown (blk_drew HX9.out) HG51.out (fun he => ((HM9.out.below (below_drew1 (Below.refl _ _))).last.1 _ he.symm).1 rfl)⟩
        refine hK.out _ _ ⟨((HM9.out.below (below_drew1 (Below.refl _ _))).cell_grown HG51.out).1, box_at HX51.out 0 rfl, box_at HX51.out 1 rfl, box_at HX51.out 2 rfl⟩ (fun hHeld => ?_)
        clear hK K
        refine norm_ (a' := ?_) ?_ ?_
        rotate_left
        · show Act.put _ (some 51) _ = _
          simp only [Act.put, List.setIfInBounds_toArray, List.set_cons_zero, List.set_cons_succ, i64_w, i32_w]
          rfl
        refine pure_ (i := 9) (N := some 52) (v := ?_) (a' := ?_) #[true, true, true, true, true, true, true, true, true, true, false] rfl rfl (by kernel_rfl) (fun _ _ _ h => h) (Or.inl ⟨by rfl, ?_⟩) ?_ ?_
        rotate_left
        · intro w'
          go_simp
          with_reducible rfl
        rotate_left
        · simp only [Act.put, List.setIfInBounds_toArray, List.set_cons_zero, List.set_cons_succ, i64_w, i32_w]
          rfl
        refine last_ (i := 10) (N := none) #[true, true, true, true, true, true, true, true, true, true, true] rfl rfl (by kernel_rfl) (by decide) (fun K hK => ?_)
        have hx10 : w51.cell? ⟨g9, 0, none⟩ = some (.slice none 0 0) := ((HM9.out.below (below_drew1 (Below.refl _ _))).cell_grown HG51.out).1
        have hz10 : w51.frozen? ⟨g9, 0, none⟩ = false := ((HM9.out.below (below_drew1 (Below.refl _ _))).cell_grown HG51.out).2
        refine skip_ (w1 := ?_) (by rfl) rfl ?_ ?_
        rotate_left
        · go_simp
          rfl
        clear hx10 hz10
        refine hK.out _ _ ?_
        clear hK K
        refine done_ (by kernel_rfl) ?_
        have HM11 : Aside0 (GMid (w51.setCell ⟨g9, 0, none⟩ (.slice A51 1 k51)) w.heap.size (fun _ => True) (.slice (some ⟨g9, 0, none⟩) 1 cap9) 0 [] ([] ++ [(rd_T30 l0 (i : Int))]) [] (.slice A51 1 k51)) := ⟨(GMid.put (HM9.out.below (below_drew1 (Below.refl _ _))) HR51.out HG51.out HAT51.out).imp (fun _ _ _ => trivial)⟩
        have HBl11 : Aside0 (Below w.heap.size w (w51.setCell ⟨g9, 0, none⟩ (.slice A51 1 k51))) := ⟨below_set HBl51.out (own_base HM9.out.own _ rfl)⟩
        go_wp2
        go_roundg k1
        case measure => omega
        case rel => exact ⟨i + 1, by first | rfl | (simp; done), ⟨by have := HI.out; omega⟩, ⟨.inr ⟨_, _, _, _, _, HFG.out, by simp, HM11.out⟩⟩, HBl11⟩
      · have HG1 := Aside0.mk hg1
        have HGN := Aside0.mk hgl
        obtain ⟨g9, cap9, rfl, _, _⟩ := hm.own.form (by omega)
        obtain ⟨A7, k7, e7, hl7, hr7⟩ := Kd.R_reads hm.last
        subst e7
        have HM0 := Aside0.mk hm
        have hpos : 0 < gl.length := List.length_pos_iff.2 hgl
        have hml : m + 1 ≤ i := by have h1 := HLN.out; rw [hg1, List.length_append, hm.lenG] at h1; exact h1
        have hmb : (m : Int) ≤ 2199023255551 := by omega
        have HML := Aside0.mk hml
        obtain ⟨ad7, A71, c71, A72, c72, e7, hy1, hy2, hy3, _, _, _, _⟩ := at_T30 hr7 0 (by omega) (by omega)
        cases e7
        have hg7 : some wr.heap.size ≠ (Value.slice (some ad7) gl.length k7).ownBlock := fun he => Nat.lt_irrefl _ (Kd.R_lt hm.last _ he.symm)
        have HL7 := Aside0.mk hl7
        have HR7 := Aside0.mk hr7
        have HY1 : Aside0 (wr.cell? ad7 = some (.string (rd_T30 gl 0).f0)) := ⟨hy1⟩
        have HPOS := Aside0.mk hpos
        have hd1 : decide ((m : Int) < 0) = false := decide_eq_false (by omega)
        have hd2 : decide ((0 : Int) < (gl.length : Int)) = true := decide_eq_true (by omega)
        have hd4 : ((m : Int) < (m : Int) + 1) = True := eq_true (by omega)
        have hd5 : ((0 : Int) ≤ (m : Int)) = True := eq_true (by omega)
        have hd6 : ((0 : Int) < (gl.length : Int)) = True := eq_true (by omega)
        have hd3 : decide (0 < gl.length) = true := decide_eq_true hpos
        clear hm hl7 hr7 hy1 hy2 hy3 hg1 hgl hml hg7 HG
        by_cases kb : (rd_T30 gl 0).f0.toList = (rd_T30 l0 (i : Int)).f0.toList
        · have kb1 : ((rd_T30 gl 0).f0.toList == (rd_T30 l0 (i : Int)).f0.toList) = true := beq_iff_eq.2 kb
          have kb2 : ((rd_T30 gl 0).f0.toList != (rd_T30 l0 (i : Int)).f0.toList) = false := by rw [bne, kb1]; rfl
          have KB := Aside0.mk kb
          clear kb
          go_upto_region 6 with (fail)
          refine start_ (n := 14) (S := fun w' => w'.cell? ⟨g9, m, none⟩ = some (.slice (some ad7) gl.length k7) ∧ w'.cell? ad7 = some (.string (rd_T30 gl 0).f0) ∧ w'.cell? ⟨wr.heap.size, 0, none⟩ = some (.string (rd_T30 l0 (i : Int)).f0)) (ds := []) #[false, false, false, false, false, false, false, false, false, false, false, false, false, false] (by kernel_rfl) rfl rfl ⟨(HM0.out.below (below_drew1 (below_alloc (Below.refl _ _) _))).cell, (pw_cell_below (below_drew1 (below_alloc (Below.refl _ _) _)) HY1.out), box_at (blk_drew (heap_alloc_new wr _)) 0 rfl⟩ (fun hHeld => ?_)
          refine pure_ (i := 0) (N := some 16) (v := ?_) (a' := ?_) #[true, false, false, false, false, false, false, false, false, false, false, false, false, false] rfl rfl (by kernel_rfl) (fun _ _ _ h => h) (Or.inl ⟨by rfl, ?_⟩) ?_ ?_
          rotate_left
          · intro w'
            go_simp
            with_reducible rfl
          rotate_left
          · simp only [Act.put, List.setIfInBounds_toArray, List.set_cons_zero, List.set_cons_succ, i64_w, i32_w]
            rfl
          refine pure_ (i := 1) (N := some 17) (v := ?_) (a' := ?_) #[true, true, false, false, false, false, false, false, false, false, false, false, false, false] rfl rfl (by kernel_rfl) (fun _ _ _ h => h) (Or.inl ⟨by rfl, ?_⟩) ?_ ?_
          rotate_left
          · intro w'
            go_simp
            with_reducible rfl
          rotate_left
          · simp only [Act.put, List.setIfInBounds_toArray, List.set_cons_zero, List.set_cons_succ, i64_w, i32_w]
            rfl
          refine pure_ (i := 2) (N := some 18) (v := ?_) (a' := ?_) #[true, true, true, false, false, false, false, false, false, false, false, false, false, false] rfl rfl (by kernel_rfl) (fun _ _ _ h => h) (Or.inl ⟨by rfl, ?_⟩) ?_ ?_
          rotate_left
          · intro w'
            go_simp
            with_reducible rfl
          rotate_left
          · simp only [Act.put, List.setIfInBounds_toArray, List.set_cons_zero, List.set_cons_succ, i64_w, i32_w]
            rfl
          refine pure_ (i := 3) (N := some 19) (v := ?_) (a' := ?_) #[true, true, true, true, false, false, false, false, false, false, false, false, false, false] rfl rfl (by kernel_rfl) (fun _ _ _ h => h) (Or.inl ⟨by rfl, ?_⟩) ?_ ?_
          rotate_left
          · intro w'
            go_simp
            with_reducible rfl
          rotate_left
          · simp only [Act.put, List.setIfInBounds_toArray, List.set_cons_zero, List.set_cons_succ, i64_w, i32_w]
            rfl
          refine pure_ (i := 4) (N := some 20) (v := ?_) (a' := ?_) #[true, true, true, true, true, false, false, false, false, false, false, false, false, false] rfl rfl (by kernel_rfl) (fun _ _ _ h => h) (Or.inl ⟨by rfl, ?_⟩) ?_ ?_
          rotate_left
          · intro w'
            go_simp
            with_reducible rfl
          rotate_left
          · simp only [Act.put, List.setIfInBounds_toArray, List.set_cons_zero, List.set_cons_succ, i64_w, i32_w]
            rfl
          refine pure_ (i := 5) (N := some 21) (v := ?_) (a' := ?_) #[true, true, true, true, true, true, false, false, false, false, false, false, false, false] rfl rfl (by kernel_rfl) (fun _ _ _ h => h) (Or.inl ⟨by rfl, ?_⟩) ?_ ?_
          rotate_left
          · intro w'
            go_simp
            with_reducible rfl
          rotate_left
          · simp only [Act.put, List.setIfInBounds_toArray, List.set_cons_zero, List.set_cons_succ, i64_w, i32_w]
            rfl
          refine pure_ (i := 10) (N := some 26) (v := ?_) (a' := ?_) #[true, true, true, true, true, true, false, false, false, false, true, false, false, false] rfl rfl (by kernel_rfl) (fun _ _ _ h => h) (Or.inl ⟨by rfl, ?_⟩) ?_ ?_
          rotate_left
          · intro w'
            go_simp
            with_reducible rfl
          rotate_left
          · simp only [Act.put, List.setIfInBounds_toArray, List.set_cons_zero, List.set_cons_succ, i64_w, i32_w]
            rfl
          refine take_ (i := 6) (N := some 22) (v := ?_) (a' := ?_) #[true, true, true, true, true, true, true, false, false, false, true, false, false, false] rfl rfl (by kernel_rfl) (fun _ _ _ h => h) (Or.inl ⟨by rfl, ?_⟩) hHeld ?_ ?_
          rotate_left
          · rintro w' ⟨s0, s1, s2⟩
            go_simp
            with_reducible rfl
          rotate_left
          · simp only [Act.put, List.setIfInBounds_toArray, List.set_cons_zero, List.set_cons_succ, i64_w, i32_w]
            rfl
          refine pure_ (i := 7) (N := some 23) (v := ?_) (a' := ?_) #[true, true, true, true, true, true, true, true, false, false, true, false, false, false] rfl rfl (by kernel_rfl) (fun _ _ _ h => h) (Or.inl ⟨by rfl, ?_⟩) ?_ ?_
          rotate_left
          · intro w'
            go_simp
            with_reducible rfl
          rotate_left
          · simp only [Act.put, List.setIfInBounds_toArray, List.set_cons_zero, List.set_cons_succ, i64_w, i32_w]
            rfl
          refine pure_ (i := 8) (N := some 24) (v := ?_) (a' := ?_) #[true, true, true, true, true, true, true, true, true, false, true, false, false, false] rfl rfl (by kernel_rfl) (fun _ _ _ h => h) (Or.inl ⟨by rfl, ?_⟩) ?_ ?_
          rotate_left
          · intro w'
            go_simp
            with_reducible rfl
          rotate_left
          · simp only [Act.put, List.setIfInBounds_toArray, List.set_cons_zero, List.set_cons_succ, i64_w, i32_w]
            rfl
          refine take_ (i := 9) (N := some 25) (v := ?_) (a' := ?_) #[true, true, true, true, true, true, true, true, true, true, true, false, false, false] rfl rfl (by kernel_rfl) (fun _ _ _ h => h) (Or.inl ⟨by rfl, ?_⟩) hHeld ?_ ?_
          rotate_left
          · rintro w' ⟨s0, s1, s2⟩
            go_simp
            with_reducible rfl
          rotate_left
          · simp only [Act.put, List.setIfInBounds_toArray, List.set_cons_zero, List.set_cons_succ, i64_w, i32_w]
            rfl
          refine take_ (i := 11) (N := some 27) (v := ?_) (a' := ?_) #[true, true, true, true, true, true, true, true, true, true, true, true, false, false] rfl rfl (by kernel_rfl) (fun _ _ _ h => h) (Or.inl ⟨by rfl, ?_⟩) hHeld ?_ ?_
          rotate_left
          · rintro w' ⟨s0, s1, s2⟩
            go_simp
            with_reducible rfl
          rotate_left
          · simp only [Act.put, List.setIfInBounds_toArray, List.set_cons_zero, List.set_cons_succ, i64_w, i32_w]
            rfl
          refine pure_ (i := 12) (N := some 28) (v := ?_) (a' := ?_) #[true, true, true, true, true, true, true, true, true, true, true, true, true, false] rfl rfl (by kernel_rfl) (fun _ _ _ h => h) (Or.inl ⟨by rfl, ?_⟩) ?_ ?_
          rotate_left
          · intro w'
            go_simp
            with_reducible rfl
          rotate_left
          · simp only [Act.put, List.setIfInBounds_toArray, List.set_cons_zero, List.set_cons_succ, i64_w, i32_w]
            rfl
          refine pure_ (i := 13) (N := some 29) (v := ?_) (a' := ?_) #[true, true, true, true, true, true, true, true, true, true, true, true, true, true] rfl rfl (by kernel_rfl) (fun _ _ _ h => h) (Or.inl ⟨by rfl, ?_⟩) ?_ ?_
          rotate_left
          · intro w'
            go_simp
            with_reducible rfl
          rotate_left
          · simp only [Act.put, List.setIfInBounds_toArray, List.set_cons_zero, List.set_cons_succ, i64_w, i32_w]
            rfl
          refine done_ (by kernel_rfl) ?_
          have HX : Aside0 ((wr.alloc (.cells #[.string (rd_T30 l0 (i : Int)).f0, .slice A1 (rd_T30 l0 (i : Int)).f1.length c1, .slice A2 (rd_T30 l0 (i : Int)).f2.length c2] 30)).drew.heap[wr.heap.size]? = some (.cells #[.string (rd_T30 l0 (i : Int)).f0, .slice A1 (rd_T30 l0 (i : Int)).f1.length c1, .slice A2 (rd_T30 l0 (i : Int)).f2.length c2] 30 (0, 0))) := ⟨blk_drew (heap_alloc_new wr _)⟩
          have HM : Aside0 (GMid (wr.alloc (.cells #[.string (rd_T30 l0 (i : Int)).f0, .slice A1 (rd_T30 l0 (i : Int)).f1.length c1, .slice A2 (rd_T30 l0 (i : Int)).f2.length c2] 30)).drew w.heap.size (fun k => k ≠ wr.heap.size) (.slice (some ⟨g9, 0, none⟩) (m + 1) cap9) m gi gl ci (.slice (some ad7) gl.length k7)) := ⟨(HM0.out.newer.below (below_drew1 (below_alloc (Below.refl _ _) _)))⟩
          have HBl : Aside0 (Below w.heap.size w (wr.alloc (.cells #[.string (rd_T30 l0 (i : Int)).f0, .slice A1 (rd_T30 l0 (i : Int)).f1.length c1, .slice A2 (rd_T30 l0 (i : Int)).f2.length c2] 30)).drew) := ⟨below_drew (below_alloc HB.out _)⟩
          have HFG : Aside0 (groupsOf (List.take (i + 1) l0) = gi ++ [gl ++ [(rd_T30 l0 (i : Int))]]) := ⟨by rw [groupsOf_take _ _ HI1.out, HG1.out, groupsStep_same _ _ _ KB.out]⟩
          have HGL : Aside0 (gl.length ≤ i) := ⟨groupsOf_last_len _ _ _ _ (Nat.le_of_lt HI1.out) HG1.out⟩
          have HRa := Aside0.mk (Kd.C_below HR1.out HBl.out)
          have HRb := Aside0.mk (Kd.C_below HR2.out HBl.out)
          go_upto_region 9 with (fail)
          refine start_ (n := 10) (S := fun w' => w'.cell? ⟨wr.heap.size, 1, none⟩ = some (.slice A1 (rd_T30 l0 (i : Int)).f1.length c1) ∧ w'.cell? ⟨wr.heap.size, 2, none⟩ = some (.slice A2 (rd_T30 l0 (i : Int)).f2.length c2)) (ds := [7, 9]) #[false, false, false, false, false, false, false, false, false, false] (by kernel_rfl) rfl rfl ⟨box_at (blk_drew HX.out) 1 rfl, box_at (blk_drew HX.out) 2 rfl⟩ (fun hHeld => ?_)
          refine pure_ (i := 0) (N := some 35) (v := ?_) (a' := ?_) #[true, false, false, false, false, false, false, false, false, false] rfl rfl (by kernel_rfl) (fun _ _ _ h => h) (Or.inl ⟨by rfl, ?_⟩) ?_ ?_
          rotate_left
          · intro w'
            go_simp
            with_reducible rfl
          rotate_left
          · simp only [Act.put, List.setIfInBounds_toArray, List.set_cons_zero, List.set_cons_succ, i64_w, i32_w]
            rfl
          refine pure_ (i := 3) (N := some 38) (v := ?_) (a' := ?_) #[true, false, false, true, false, false, false, false, false, false] rfl rfl (by kernel_rfl) (fun _ _ _ h => h) (Or.inl ⟨by rfl, ?_⟩) ?_ ?_
          rotate_left
          · intro w'
            go_simp
            with_reducible rfl
          rotate_left
          · simp only [Act.put, List.setIfInBounds_toArray, List.set_cons_zero, List.set_cons_succ, i64_w, i32_w]
            rfl
          refine take_ (i := 1) (N := some 36) (v := ?_) (a' := ?_) #[true, true, false, true, false, false, false, false, false, false] rfl rfl (by kernel_rfl) (fun _ _ _ h => h) (Or.inl ⟨by rfl, ?_⟩) hHeld ?_ ?_
          rotate_left
          · rintro w' ⟨s0, s1⟩
            go_simp
            with_reducible rfl
          rotate_left
          · simp only [Act.put, List.setIfInBounds_toArray, List.set_cons_zero, List.set_cons_succ, i64_w, i32_w]
            rfl
          refine take_ (i := 4) (N := some 39) (v := ?_) (a' := ?_) #[true, true, false, true, true, false, false, false, false, false] rfl rfl (by kernel_rfl) (fun _ _ _ h => h) (Or.inl ⟨by rfl, ?_⟩) hHeld ?_ ?_
          rotate_left
          · rintro w' ⟨s0, s1⟩
            go_simp
            with_reducible rfl
          rotate_left
          · simp only [Act.put, List.setIfInBounds_toArray, List.set_cons_zero, List.set_cons_succ, i64_w, i32_w]
            rfl
          refine one_ (i := 2) (N := some 37) #[true, true, true, true, true, false, false, false, false, false] rfl rfl (by kernel_rfl) (by decide) (fun K hK => ?_)
          refine goes_ Try.func10 (by kernel_rfl) rfl #[.slice A1 (rd_T30 l0 (i : Int)).f1.length c1] (by rfl) rfl rfl (by simp only [List.map_toArray, List.map_cons, List.map_nil]; rfl) ?_
          with_reducible refine (api_Part.calls _ _ (rd_T30 l0 (i : Int)).f1 (rd_T30 l0 (i : Int)).f1 _ (Kd.C_drew HRa.out) HC1.out (api_Part.some_ HN1.out.1)).mono ?_
          rintro e w3 ⟨v37, rfl, hv37, hb37⟩
          refine ⟨_, rfl, ?_⟩
          have HV37 := Aside0.mk hv37
          have HB37 := Aside0.mk hb37
          clear hv37 hb37
          refine hK.out _ _ ⟨box_at (blk_below (blk_drew HX.out) HB37.out) 1 rfl, box_at (blk_below (blk_drew HX.out) HB37.out) 2 rfl⟩ (fun hHeld => ?_)
          clear hK K
          refine norm_ (a' := ?_) ?_ ?_
          rotate_left
          · show Act.put _ (some 37) _ = _
            simp only [Act.put, List.setIfInBounds_toArray, List.set_cons_zero, List.set_cons_succ, i64_w, i32_w]
            rfl
          refine pure_ (i := 6) (N := some 41) (v := ?_) (a' := ?_) #[true, true, true, true, true, false, true, false, false, false] rfl rfl (by kernel_rfl) (fun _ _ _ h => h) (Or.inl ⟨by rfl, ?_⟩) ?_ ?_
          rotate_left
          · intro w'
            go_simp
            with_reducible rfl
          rotate_left
          · simp only [Act.put, List.setIfInBounds_toArray, List.set_cons_zero, List.set_cons_succ, i64_w, i32_w]
            rfl
          refine one_ (i := 5) (N := some 40) #[true, true, true, true, true, true, true, false, false, false] rfl rfl (by kernel_rfl) (by decide) (fun K hK => ?_)
          refine goes_ Try.func11 (by kernel_rfl) rfl #[.slice A2 (rd_T30 l0 (i : Int)).f2.length c2] (by rfl) rfl rfl (by simp only [List.map_toArray, List.map_cons, List.map_nil]; rfl) ?_
          with_reducible refine (slices_Clone_int_int.calls _ _ (rd_T30 l0 (i : Int)).f2 (rd_T30 l0 (i : Int)).f2 _ (Kd.C_below (Kd.C_drew HRb.out) HB37.out) HC2.out (slices_Clone_int_int.some_ HN1.out.2)).mono ?_
          rintro e w4 ⟨v40, rfl, hv40, hb40⟩
          refine ⟨_, rfl, ?_⟩
          have HV40 := Aside0.mk hv40
          have HB40 := Aside0.mk hb40
          clear hv40 hb40
          obtain ⟨A37, k37, e37⟩ := Kd.R_slice HV37.out
          obtain ⟨A40, k40, e40⟩ := Kd.R_slice HV40.out
          subst e37 e40
          refine hK.out _ _ ⟨box_at (blk_below (blk_below (blk_drew HX.out) HB37.out) HB40.out) 1 rfl, box_at (blk_below (blk_below (blk_drew HX.out) HB37.out) HB40.out) 2 rfl⟩ (fun hHeld => ?_)
          clear hK K
          refine norm_ (a' := ?_) ?_ ?_
          rotate_left
          · show Act.put _ (some 40) _ = _
            simp only [Act.put, List.setIfInBounds_toArray, List.set_cons_zero, List.set_cons_succ, i64_w, i32_w]
            rfl
          refine last_ (i := 7) (N := none) #[true, true, true, true, true, true, true, true, false, false] rfl rfl (by kernel_rfl) (by decide) (fun K hK => ?_)
          have hx7 : w4.cell? ⟨wr.heap.size, 1, none⟩ = some (.slice A1 (rd_T30 l0 (i : Int)).f1.length c1) := box_at (blk_below (blk_below (blk_drew HX.out) HB37.out) HB40.out) 1 rfl
          have hz7 : w4.frozen? ⟨wr.heap.size, 1, none⟩ = false := blk_frozen (blk_below (blk_below (blk_drew HX.out) HB37.out) HB40.out) 1
          refine skip_ (w1 := ?_) (by rfl) rfl ?_ ?_
          rotate_left
          · go_simp
            rfl
          clear hx7 hz7
          refine hK.out _ _ ?_
          clear hK K
          refine pure_ (i := 8) (N := some 42) (v := ?_) (a' := ?_) #[true, true, true, true, true, true, true, true, true, false] rfl rfl (by kernel_rfl) (fun _ _ _ h => h) (Or.inl ⟨by rfl, ?_⟩) ?_ ?_
          rotate_left
          · intro w'
            go_simp
            with_reducible rfl
          rotate_left
          · simp only [Act.put, List.setIfInBounds_toArray, List.set_cons_zero, List.set_cons_succ, i64_w, i32_w]
            rfl
          refine last_ (i := 9) (N := none) #[true, true, true, true, true, true, true, true, true, true] rfl rfl (by kernel_rfl) (by decide) (fun K hK => ?_)
          have hx9 : (w4.setCell ⟨wr.heap.size, 1, none⟩ (.slice A37 (rd_T30 l0 (i : Int)).f1.length k37)).cell? ⟨wr.heap.size, 2, none⟩ = some (.slice A2 (rd_T30 l0 (i : Int)).f2.length c2) := box_at (blk_set (blk_below (blk_below (blk_drew HX.out) HB37.out) HB40.out) 1 _) 2 rfl
          have hz9 : (w4.setCell ⟨wr.heap.size, 1, none⟩ (.slice A37 (rd_T30 l0 (i : Int)).f1.length k37)).frozen? ⟨wr.heap.size, 2, none⟩ = false := blk_frozen (blk_set (blk_below (blk_below (blk_drew HX.out) HB37.out) HB40.out) 1 _) 2
          refine skip_ (w1 := ?_) (by rfl) rfl ?_ ?_
          rotate_left
          · go_simp
            rfl
          clear hx9 hz9
          refine hK.out _ _ ?_
          clear hK K
          refine done_ (by kernel_rfl) ?_
          have HX9 : Aside0 (((w4.setCell ⟨wr.heap.size, 1, none⟩ (.slice A37 (rd_T30 l0 (i : Int)).f1.length k37)).setCell ⟨wr.heap.size, 2, none⟩ (.slice A40 (rd_T30 l0 (i : Int)).f2.length k40)).heap[wr.heap.size]? = some (.cells #[.string (rd_T30 l0 (i : Int)).f0, .slice A37 (rd_T30 l0 (i : Int)).f1.length k37, .slice A40 (rd_T30 l0 (i : Int)).f2.length k40] 30 (0, 0))) := ⟨blk_set (blk_set (blk_below (blk_below (blk_drew HX.out) HB37.out) HB40.out) 1 _) 2 _⟩
          have HM9 : Aside0 (GMid ((w4.setCell ⟨wr.heap.size, 1, none⟩ (.slice A37 (rd_T30 l0 (i : Int)).f1.length k37)).setCell ⟨wr.heap.size, 2, none⟩ (.slice A40 (rd_T30 l0 (i : Int)).f2.length k40)) w.heap.size (fun k => k ≠ wr.heap.size) (.slice (some ⟨g9, 0, none⟩) (m + 1) cap9) m gi gl ci (.slice (some ad7) gl.length k7)) := ⟨((((HM.out.below (below_drew1 (Below.refl _ _))).below HB37.out).below HB40.out).far (p := ⟨wr.heap.size, 1, none⟩) (fun _ hk => hk) _).far (p := ⟨wr.heap.size, 2, none⟩) (fun _ hk => hk) _⟩
          have HBl9 : Aside0 (Below w.heap.size w ((w4.setCell ⟨wr.heap.size, 1, none⟩ (.slice A37 (rd_T30 l0 (i : Int)).f1.length k37)).setCell ⟨wr.heap.size, 2, none⟩ (.slice A40 (rd_T30 l0 (i : Int)).f2.length k40))) := ⟨below_set (below_set (below_then (below_then (below_drew HBl.out) HBl.out.size HB37.out) (Nat.le_trans HBl.out.size HB37.out.size) HB40.out) HB.out.size) HB.out.size⟩
          have HV37' : Aside0 (Kd.R k35 35 ((w4.setCell ⟨wr.heap.size, 1, none⟩ (.slice A37 (rd_T30 l0 (i : Int)).f1.length k37)).setCell ⟨wr.heap.size, 2, none⟩ (.slice A40 (rd_T30 l0 (i : Int)).f2.length k40)) w.heap.size (fun _ => True) (.slice A37 (rd_T30 l0 (i : Int)).f1.length k37) (rd_T30 l0 (i : Int)).f1) := ⟨Kd.R_lower (Kd.R_set (Kd.R_set (Kd.R_below HV37.out HB40.out) (blk_below (blk_below (blk_drew HX.out) HB37.out) HB40.out) (by decide) 1 _) (blk_set (blk_below (blk_below (blk_drew HX.out) HB37.out) HB40.out) 1 _) (by decide) 2 _) HBl.out.size⟩
          have HV40' : Aside0 (Kd.R (Kd.int .i64) 3 ((w4.setCell ⟨wr.heap.size, 1, none⟩ (.slice A37 (rd_T30 l0 (i : Int)).f1.length k37)).setCell ⟨wr.heap.size, 2, none⟩ (.slice A40 (rd_T30 l0 (i : Int)).f2.length k40)) w.heap.size (fun _ => True) (.slice A40 (rd_T30 l0 (i : Int)).f2.length k40) (rd_T30 l0 (i : Int)).f2) := ⟨Kd.R_lower (Kd.R_set (Kd.R_set HV40.out (blk_below (blk_below (blk_drew HX.out) HB37.out) HB40.out) (by decide) 1 _) (blk_set (blk_below (blk_below (blk_drew HX.out) HB37.out) HB40.out) 1 _) (by decide) 2 _) (Nat.le_trans HBl.out.size HB37.out.size)⟩
          obtain ⟨W9, hW9⟩ : ∃ W, ((w4.setCell ⟨wr.heap.size, 1, none⟩ (.slice A37 (rd_T30 l0 (i : Int)).f1.length k37)).setCell ⟨wr.heap.size, 2, none⟩ (.slice A40 (rd_T30 l0 (i : Int)).f2.length k40)) = W := ⟨_, rfl⟩
          rw [hW9] at HX9 HM9 HBl9 HV37' HV40' ⊢
          clear hW9 HV37 HV40 HB37 HB40 HM HX HBl HRa HRb
          go_upto_region 10 with (fail)
          refine start_ (n := 11) (S := fun w' => w'.cell? ⟨g9, m, none⟩ = some (.slice (some ad7) gl.length k7) ∧ w'.cell? ⟨wr.heap.size, 0, none⟩ = some (.string (rd_T30 l0 (i : Int)).f0) ∧ w'.cell? ⟨wr.heap.size, 1, none⟩ = some (.slice A37 (rd_T30 l0 (i : Int)).f1.length k37) ∧ w'.cell? ⟨wr.heap.size, 2, none⟩ = some (.slice A40 (rd_T30 l0 (i : Int)).f2.length k40)) (ds := [10]) #[false, false, false, false, false, false, false, false, false, false, false] (by kernel_rfl) rfl rfl ⟨(HM9.out.below (below_drew1 (Below.refl _ _))).cell, box_at (blk_drew HX9.out) 0 rfl, box_at (blk_drew HX9.out) 1 rfl, box_at (blk_drew HX9.out) 2 rfl⟩ (fun hHeld => ?_)
          refine pure_ (i := 0) (N := some 43) (v := ?_) (a' := ?_) #[true, false, false, false, false, false, false, false, false, false, false] rfl rfl (by kernel_rfl) (fun _ _ _ h => h) (Or.inl ⟨by rfl, ?_⟩) ?_ ?_
          rotate_left
          · intro w'
            go_simp
            with_reducible rfl
          rotate_left
          · simp only [Act.put, List.setIfInBounds_toArray, List.set_cons_zero, List.set_cons_succ, i64_w, i32_w]
            rfl
          refine pure_ (i := 1) (N := some 44) (v := ?_) (a' := ?_) #[true, true, false, false, false, false, false, false, false, false, false] rfl rfl (by kernel_rfl) (fun _ _ _ h => h) (Or.inl ⟨by rfl, ?_⟩) ?_ ?_
          rotate_left
          · intro w'
            go_simp
            with_reducible rfl
          rotate_left
          · simp only [Act.put, List.setIfInBounds_toArray, List.set_cons_zero, List.set_cons_succ, i64_w, i32_w]
            rfl
          refine pure_ (i := 2) (N := some 45) (v := ?_) (a' := ?_) #[true, true, true, false, false, false, false, false, false, false, false] rfl rfl (by kernel_rfl) (fun _ _ _ h => h) (Or.inl ⟨by rfl, ?_⟩) ?_ ?_
          rotate_left
          · intro w'
            go_simp
            with_reducible rfl
          rotate_left
          · simp only [Act.put, List.setIfInBounds_toArray, List.set_cons_zero, List.set_cons_succ, i64_w, i32_w]
            rfl
          refine pure_ (i := 3) (N := some 46) (v := ?_) (a' := ?_) #[true, true, true, true, false, false, false, false, false, false, false] rfl rfl (by kernel_rfl) (fun _ _ _ h => h) (Or.inl ⟨by rfl, ?_⟩) ?_ ?_
          rotate_left
          · intro w'
            go_simp
            with_reducible rfl
          rotate_left
          · simp only [Act.put, List.setIfInBounds_toArray, List.set_cons_zero, List.set_cons_succ, i64_w, i32_w]
            rfl
          refine pure_ (i := 4) (N := some 47) (v := ?_) (a' := ?_) #[true, true, true, true, true, false, false, false, false, false, false] rfl rfl (by kernel_rfl) (fun _ _ _ h => h) (Or.inl ⟨by rfl, ?_⟩) ?_ ?_
          rotate_left
          · intro w'
            go_simp
            with_reducible rfl
          rotate_left
          · simp only [Act.put, List.setIfInBounds_toArray, List.set_cons_zero, List.set_cons_succ, i64_w, i32_w]
            rfl
          refine take_ (i := 5) (N := some 48) (v := ?_) (a' := ?_) #[true, true, true, true, true, true, false, false, false, false, false] rfl rfl (by kernel_rfl) (fun _ _ _ h => h) (Or.inl ⟨by rfl, ?_⟩) hHeld ?_ ?_
          rotate_left
          · rintro w' ⟨s0, s1, s2, s3⟩
            go_simp
            with_reducible rfl
          rotate_left
          · simp only [Act.put, List.setIfInBounds_toArray, List.set_cons_zero, List.set_cons_succ, i64_w, i32_w]
            rfl
          refine take_ (i := 6) (N := some 49) (v := ?_) (a' := ?_) #[true, true, true, true, true, true, true, false, false, false, false] rfl rfl (by kernel_rfl) (fun _ _ _ h => h) (Or.inl ⟨by rfl, ?_⟩) hHeld ?_ ?_
          rotate_left
          · rintro w' ⟨s0, s1, s2, s3⟩
            go_simp
            with_reducible rfl
          rotate_left
          · simp only [Act.put, List.setIfInBounds_toArray, List.set_cons_zero, List.set_cons_succ, i64_w, i32_w]
            rfl
          refine one_ (i := 7) (N := some 50) #[true, true, true, true, true, true, true, true, false, false, false] rfl rfl (by kernel_rfl) (by decide) (fun K hK => ?_)
          refine value_ (w1 := ?_) (v := ?_) (by rfl) rfl ?_ ?_
          rotate_left 2
          · go_simp
            constructor
            · rfl
            · rfl
          refine hK.out _ _ ⟨((HM9.out.below (below_drew1 (Below.refl _ _))).below (below_alloc (Below.refl _ _) _)).cell, box_at (blk_alloc (blk_drew HX9.out) _) 0 rfl, box_at (blk_alloc (blk_drew HX9.out) _) 1 rfl, box_at (blk_alloc (blk_drew HX9.out) _) 2 rfl⟩ (fun hHeld => ?_)
          clear hK K
          refine norm_ (a' := ?_) ?_ ?_
          rotate_left
          · show Act.put _ (some 50) _ = _
            simp only [Act.put, List.setIfInBounds_toArray, List.set_cons_zero, List.set_cons_succ, i64_w, i32_w]
            rfl
          refine one_ (i := 8) (N := some 51) #[true, true, true, true, true, true, true, true, true, false, false] rfl rfl (by kernel_rfl) (by decide) (fun K hK => ?_)
          refine Kd.R_append_step k30 (w0 := w) (W := W9.drew) w.heap.size (by rfl) (.tmp 48) (.tmp 50) 22 30 (.agg #[(.string ⟨#[]⟩), (.slice none 0 0), (.slice none 0 0)]) 64 rfl Try.underlying22 info30 rfl (by decide) (by omega) (.slice (some ad7) gl.length k7) gl (rd_T30 l0 (i : Int)) [.string (rd_T30 l0 (i : Int)).f0, (.slice A37 (rd_T30 l0 (i : Int)).f1.length k37), (.slice A40 (rd_T30 l0 (i : Int)).f2.length k40)] (fun k => k ≠ wr.heap.size ∧ some k ≠ ((.slice (some ⟨g9, 0, none⟩) (m + 1) cap9) : Value).ownBlock) (fun k => (k ≠ wr.heap.size ∧ some k ≠ ((.slice (some ⟨g9, 0, none⟩) (m + 1) cap9) : Value).ownBlock) ∧ some k ≠ ((.slice (some ad7) gl.length k7) : Value).ownBlock) rfl ?aX ?aM (fun _ h => h) ?aF ?aO ?aB ?aS ?aL ?_
          case aX => rfl
          case aM => exact k30_mkM _ _ _ _ (R_apart_types (Kd.R_drew HV37'.out) (by decide) ((HM9.out.below (below_drew1 (Below.refl _ _))).types (blk_drew HX9.out))) (R_apart_types (Kd.R_drew HV40'.out) (by decide) ((HM9.out.below (below_drew1 (Below.refl _ _))).types (blk_drew HX9.out)))
          case aF => exact fun k hk => ⟨fun e => by have := blk_lt HX9.out; have hk : W9.heap.size ≤ k := hk; omega, fun e => by have := own_lt HM9.out.own k e.symm; have hk : W9.heap.size ≤ k := hk; omega⟩
          case aO => exact (HM9.out.below (below_drew1 (Below.refl _ _))).last
          case aB => exact below_drew HBl9.out
          case aS => exact HBl9.out.size
          case aL => have := HGL.out; have := HB0.out.1; have := HI1.out; omega
          intro v51 w51 hr51 hb51 hg51 hat51
          have HR51 := Aside0.mk hr51
          have HBl51 := Aside0.mk hb51
          have HG51 := Aside0.mk hg51
          have HAT51 := Aside0.mk hat51
          clear hr51 hb51 hg51 hat51
          obtain ⟨A51, k51, e51⟩ := Kd.R_slice HR51.out
          simp only [List.nil_append, List.length_append, List.length_singleton] at e51
          subst e51
          have HX51 : Aside0 (w51.heap[wr.heap.size]? = some (.cells #[.string (rd_T30 l0 (i : Int)).f0, (.slice A37 (rd_T30 l0 (i : Int)).f1.length k37), (.slice A40 (rd_T30 l0 (i : Int)).f2.length k40)] 30 (0, 0))) := ⟨blk_grown (blk_drew HX9.out) HG51.out (fun he => ((HM9.out.below (below_drew1 (Below.refl _ _))).last.1 _ he.symm).1 rfl)⟩
          refine hK.out _ _ ⟨((HM9.out.below (below_drew1 (Below.refl _ _))).cell_grown HG51.out).1, box_at HX51.out 0 rfl, box_at HX51.out 1 rfl, box_at HX51.out 2 rfl⟩ (fun hHeld => ?_)
          clear hK K
          refine norm_ (a' := ?_) ?_ ?_
          rotate_left
          · show Act.put _ (some 51) _ = _
            simp only [Act.put, List.setIfInBounds_toArray, List.set_cons_zero, List.set_cons_succ, i64_w, i32_w]
            rfl
          refine pure_ (i := 9) (N := some 52) (v := ?_) (a' := ?_) #[true, true, true, true, true, true, true, true, true, true, false] rfl rfl (by kernel_rfl) (fun _ _ _ h => h) (Or.inl ⟨by rfl, ?_⟩) ?_ ?_
          rotate_left
          · intro w'
            go_simp
            with_reducible rfl
          rotate_left
          · simp only [Act.put, List.setIfInBounds_toArray, List.set_cons_zero, List.set_cons_succ, i64_w, i32_w]
            rfl
          refine last_ (i := 10) (N := none) #[true, true, true, true, true, true, true, true, true, true, true] rfl rfl (by kernel_rfl) (by decide) (fun K hK => ?_)
          have hx10 : w51.cell? ⟨g9, m, none⟩ = some (.slice (some ad7) gl.length k7) := ((HM9.out.below (below_drew1 (Below.refl _ _))).cell_grown HG51.out).1
          have hz10 : w51.frozen? ⟨g9, m, none⟩ = false := ((HM9.out.below (below_drew1 (Below.refl _ _))).cell_grown HG51.out).2
          refine skip_ (w1 := ?_) (by rfl) rfl ?_ ?_
          rotate_left
          · go_simp
            rfl
          clear hx10 hz10
          refine hK.out _ _ ?_
          clear hK K
          refine done_ (by kernel_rfl) ?_
          have HM11 : Aside0 (GMid (w51.setCell ⟨g9, m, none⟩ (.slice A51 (gl.length + 1) k51)) w.heap.size (fun _ => True) (.slice (some ⟨g9, 0, none⟩) (m + 1) cap9) m gi (gl ++ [(rd_T30 l0 (i : Int))]) ci (.slice A51 (gl.length + 1) k51)) := ⟨(GMid.put (HM9.out.below (below_drew1 (Below.refl _ _))) HR51.out HG51.out HAT51.out).imp (fun _ _ _ => trivial)⟩
          have HBl11 : Aside0 (Below w.heap.size w (w51.setCell ⟨g9, m, none⟩ (.slice A51 (gl.length + 1) k51))) := ⟨below_set HBl51.out (own_base HM9.out.own _ rfl)⟩
          go_wp2
          go_roundg k1
          case measure => omega
          case rel => exact ⟨i + 1, by first | rfl | (simp; done), ⟨by have := HI.out; omega⟩, ⟨.inr ⟨_, _, _, _, _, HFG.out, by simp, HM11.out⟩⟩, HBl11⟩
        · have kb1 : ((rd_T30 gl 0).f0.toList == (rd_T30 l0 (i : Int)).f0.toList) = false := beq_eq_false_iff_ne.2 kb
          have kb2 : ((rd_T30 gl 0).f0.toList != (rd_T30 l0 (i : Int)).f0.toList) = true := by rw [bne, kb1]; rfl
          have KB := Aside0.mk kb
          clear kb
          have hd7 : ((m : Int) + 1 < (m : Int) + 1 + 1) = True := eq_true (by omega)
          have hd8 : ((0 : Int) ≤ (m : Int) + 1) = True := eq_true (by omega)
          go_upto_region 6 with (fail)
          refine start_ (n := 14) (S := fun w' => w'.cell? ⟨g9, m, none⟩ = some (.slice (some ad7) gl.length k7) ∧ w'.cell? ad7 = some (.string (rd_T30 gl 0).f0) ∧ w'.cell? ⟨wr.heap.size, 0, none⟩ = some (.string (rd_T30 l0 (i : Int)).f0)) (ds := []) #[false, false, false, false, false, false, false, false, false, false, false, false, false, false] (by kernel_rfl) rfl rfl ⟨(HM0.out.below (below_drew1 (below_alloc (Below.refl _ _) _))).cell, (pw_cell_below (below_drew1 (below_alloc (Below.refl _ _) _)) HY1.out), box_at (blk_drew (heap_alloc_new wr _)) 0 rfl⟩ (fun hHeld => ?_)
          refine pure_ (i := 0) (N := some 16) (v := ?_) (a' := ?_) #[true, false, false, false, false, false, false, false, false, false, false, false, false, false] rfl rfl (by kernel_rfl) (fun _ _ _ h => h) (Or.inl ⟨by rfl, ?_⟩) ?_ ?_
          rotate_left
          · intro w'
            go_simp
            with_reducible rfl
          rotate_left
          · simp only [Act.put, List.setIfInBounds_toArray, List.set_cons_zero, List.set_cons_succ, i64_w, i32_w]
            rfl
          refine pure_ (i := 1) (N := some 17) (v := ?_) (a' := ?_) #[true, true, false, false, false, false, false, false, false, false, false, false, false, false] rfl rfl (by kernel_rfl) (fun _ _ _ h => h) (Or.inl ⟨by rfl, ?_⟩) ?_ ?_
          rotate_left
          · intro w'
            go_simp
            with_reducible rfl
          rotate_left
          · simp only [Act.put, List.setIfInBounds_toArray, List.set_cons_zero, List.set_cons_succ, i64_w, i32_w]
            rfl
          refine pure_ (i := 2) (N := some 18) (v := ?_) (a' := ?_) #[true, true, true, false, false, false, false, false, false, false, false, false, false, false] rfl rfl (by kernel_rfl) (fun _ _ _ h => h) (Or.inl ⟨by rfl, ?_⟩) ?_ ?_
          rotate_left
          · intro w'
            go_simp
            with_reducible rfl
          rotate_left
          · simp only [Act.put, List.setIfInBounds_toArray, List.set_cons_zero, List.set_cons_succ, i64_w, i32_w]
            rfl
          refine pure_ (i := 3) (N := some 19) (v := ?_) (a' := ?_) #[true, true, true, true, false, false, false, false, false, false, false, false, false, false] rfl rfl (by kernel_rfl) (fun _ _ _ h => h) (Or.inl ⟨by rfl, ?_⟩) ?_ ?_
          rotate_left
          · intro w'
            go_simp
            with_reducible rfl
          rotate_left
          · simp only [Act.put, List.setIfInBounds_toArray, List.set_cons_zero, List.set_cons_succ, i64_w, i32_w]
            rfl
          refine pure_ (i := 4) (N := some 20) (v := ?_) (a' := ?_) #[true, true, true, true, true, false, false, false, false, false, false, false, false, false] rfl rfl (by kernel_rfl) (fun _ _ _ h => h) (Or.inl ⟨by rfl, ?_⟩) ?_ ?_
          rotate_left
          · intro w'
            go_simp
            with_reducible rfl
          rotate_left
          · simp only [Act.put, List.setIfInBounds_toArray, List.set_cons_zero, List.set_cons_succ, i64_w, i32_w]
            rfl
          refine pure_ (i := 5) (N := some 21) (v := ?_) (a' := ?_) #[true, true, true, true, true, true, false, false, false, false, false, false, false, false] rfl rfl (by kernel_rfl) (fun _ _ _ h => h) (Or.inl ⟨by rfl, ?_⟩) ?_ ?_
          rotate_left
          · intro w'
            go_simp
            with_reducible rfl
          rotate_left
          · simp only [Act.put, List.setIfInBounds_toArray, List.set_cons_zero, List.set_cons_succ, i64_w, i32_w]
            rfl
          refine pure_ (i := 10) (N := some 26) (v := ?_) (a' := ?_) #[true, true, true, true, true, true, false, false, false, false, true, false, false, false] rfl rfl (by kernel_rfl) (fun _ _ _ h => h) (Or.inl ⟨by rfl, ?_⟩) ?_ ?_
          rotate_left
          · intro w'
            go_simp
            with_reducible rfl
          rotate_left
          · simp only [Act.put, List.setIfInBounds_toArray, List.set_cons_zero, List.set_cons_succ, i64_w, i32_w]
            rfl
          refine take_ (i := 6) (N := some 22) (v := ?_) (a' := ?_) #[true, true, true, true, true, true, true, false, false, false, true, false, false, false] rfl rfl (by kernel_rfl) (fun _ _ _ h => h) (Or.inl ⟨by rfl, ?_⟩) hHeld ?_ ?_
          rotate_left
          · rintro w' ⟨s0, s1, s2⟩
            go_simp
            with_reducible rfl
          rotate_left
          · simp only [Act.put, List.setIfInBounds_toArray, List.set_cons_zero, List.set_cons_succ, i64_w, i32_w]
            rfl
          refine pure_ (i := 7) (N := some 23) (v := ?_) (a' := ?_) #[true, true, true, true, true, true, true, true, false, false, true, false, false, false] rfl rfl (by kernel_rfl) (fun _ _ _ h => h) (Or.inl ⟨by rfl, ?_⟩) ?_ ?_
          rotate_left
          · intro w'
            go_simp
            with_reducible rfl
          rotate_left
          · simp only [Act.put, List.setIfInBounds_toArray, List.set_cons_zero, List.set_cons_succ, i64_w, i32_w]
            rfl
          refine pure_ (i := 8) (N := some 24) (v := ?_) (a' := ?_) #[true, true, true, true, true, true, true, true, true, false, true, false, false, false] rfl rfl (by kernel_rfl) (fun _ _ _ h => h) (Or.inl ⟨by rfl, ?_⟩) ?_ ?_
          rotate_left
          · intro w'
            go_simp
            with_reducible rfl
          rotate_left
          · simp only [Act.put, List.setIfInBounds_toArray, List.set_cons_zero, List.set_cons_succ, i64_w, i32_w]
            rfl
          refine take_ (i := 9) (N := some 25) (v := ?_) (a' := ?_) #[true, true, true, true, true, true, true, true, true, true, true, false, false, false] rfl rfl (by kernel_rfl) (fun _ _ _ h => h) (Or.inl ⟨by rfl, ?_⟩) hHeld ?_ ?_
          rotate_left
          · rintro w' ⟨s0, s1, s2⟩
            go_simp
            with_reducible rfl
          rotate_left
          · simp only [Act.put, List.setIfInBounds_toArray, List.set_cons_zero, List.set_cons_succ, i64_w, i32_w]
            rfl
          refine take_ (i := 11) (N := some 27) (v := ?_) (a' := ?_) #[true, true, true, true, true, true, true, true, true, true, true, true, false, false] rfl rfl (by kernel_rfl) (fun _ _ _ h => h) (Or.inl ⟨by rfl, ?_⟩) hHeld ?_ ?_
          rotate_left
          · rintro w' ⟨s0, s1, s2⟩
            go_simp
            with_reducible rfl
          rotate_left
          · simp only [Act.put, List.setIfInBounds_toArray, List.set_cons_zero, List.set_cons_succ, i64_w, i32_w]
            rfl
          refine pure_ (i := 12) (N := some 28) (v := ?_) (a' := ?_) #[true, true, true, true, true, true, true, true, true, true, true, true, true, false] rfl rfl (by kernel_rfl) (fun _ _ _ h => h) (Or.inl ⟨by rfl, ?_⟩) ?_ ?_
          rotate_left
          · intro w'
            go_simp
            with_reducible rfl
          rotate_left
          · simp only [Act.put, List.setIfInBounds_toArray, List.set_cons_zero, List.set_cons_succ, i64_w, i32_w]
            rfl
          refine pure_ (i := 13) (N := some 29) (v := ?_) (a' := ?_) #[true, true, true, true, true, true, true, true, true, true, true, true, true, true] rfl rfl (by kernel_rfl) (fun _ _ _ h => h) (Or.inl ⟨by rfl, ?_⟩) ?_ ?_
          rotate_left
          · intro w'
            go_simp
            with_reducible rfl
          rotate_left
          · simp only [Act.put, List.setIfInBounds_toArray, List.set_cons_zero, List.set_cons_succ, i64_w, i32_w]
            rfl
          refine done_ (by kernel_rfl) ?_
          go_upto_region 9 with (at_builtin; refine print_append_cells (w0 := w) (W := (wr.alloc (.cells #[.string (rd_T30 l0 (i : Int)).f0, .slice A1 (rd_T30 l0 (i : Int)).f1.length c1, .slice A2 (rd_T30 l0 (i : Int)).f2.length c2] 30)).drew) w.heap.size rfl (.tmp 30) (.tmp 31) 25 22 (.slice none 0 0) 1 24 rfl Try.underlying25 info22 rfl (by decide) (by omega) (.slice (some ⟨g9, 0, none⟩) (m + 1) cap9) (m + 1) (ci ++ [.slice (some ad7) gl.length k7]) [.slice none 0 0] rfl ?aX rfl (fun u hu => by rw [List.mem_singleton.1 hu]; rfl) ?aO ?aB ?aS ?aL ?_; (case aX => (show Value.slice (some ⟨wr.heap.size + 1, 0, none⟩) 1 1 = _); simp); (case aO => exact (HM0.out.newer.below (below_drew1 (below_alloc (Below.refl _ _) _))).own); (case aB => exact below_drew (below_alloc HB.out _)); (case aS => exact Nat.le_trans HB.out.size (by simp)); (case aL => omega); intro v1 w1 ho hb hg hat; obtain ⟨g9, cap9, rfl, hgb9, hgl9⟩ := ho.form (by omega))
          have HX : Aside0 (w1.heap[wr.heap.size]? = some (.cells #[.string (rd_T30 l0 (i : Int)).f0, .slice A1 (rd_T30 l0 (i : Int)).f1.length c1, .slice A2 (rd_T30 l0 (i : Int)).f2.length c2] 30 (0, 0))) := ⟨blk_grown (blk_drew (heap_alloc_new wr _)) hg (fun he => HM0.out.newer.vok _ he.symm rfl)⟩
          have HM : Aside0 (GMid w1 w.heap.size (fun k => k ≠ wr.heap.size) (.slice (some ⟨g9, 0, none⟩) (m + 1 + 1) cap9) (m + 1) (gi ++ [gl]) [] (ci ++ [.slice (some ad7) gl.length k7]) (.slice none 0 0)) := ⟨GMid.open_ (HM0.out.newer.below (below_drew1 (below_alloc (Below.refl _ _) _))) ho hg hat (fun k hk e => by have hk : (wr.alloc (.cells #[.string (rd_T30 l0 (i : Int)).f0, .slice A1 (rd_T30 l0 (i : Int)).f1.length c1, .slice A2 (rd_T30 l0 (i : Int)).f2.length c2] 30)).heap.size ≤ k := hk; simp at hk; omega)⟩
          have HBl := Aside0.mk hb
          have HFG : Aside0 (groupsOf (List.take (i + 1) l0) = (gi ++ [gl]) ++ [[] ++ [(rd_T30 l0 (i : Int))]]) := ⟨by rw [groupsOf_take _ _ HI1.out, HG1.out, groupsStep_diff _ _ _ KB.out]; rfl⟩
          have HGL : Aside0 (([] : List S30).length ≤ i) := ⟨by simp⟩
          clear ho hb hg hat
          have HRa := Aside0.mk (Kd.C_below HR1.out HBl.out)
          have HRb := Aside0.mk (Kd.C_below HR2.out HBl.out)
          go_upto_region 9 with (fail)
          refine start_ (n := 10) (S := fun w' => w'.cell? ⟨wr.heap.size, 1, none⟩ = some (.slice A1 (rd_T30 l0 (i : Int)).f1.length c1) ∧ w'.cell? ⟨wr.heap.size, 2, none⟩ = some (.slice A2 (rd_T30 l0 (i : Int)).f2.length c2)) (ds := [7, 9]) #[false, false, false, false, false, false, false, false, false, false] (by kernel_rfl) rfl rfl ⟨box_at (blk_drew HX.out) 1 rfl, box_at (blk_drew HX.out) 2 rfl⟩ (fun hHeld => ?_)
          refine pure_ (i := 0) (N := some 35) (v := ?_) (a' := ?_) #[true, false, false, false, false, false, false, false, false, false] rfl rfl (by kernel_rfl) (fun _ _ _ h => h) (Or.inl ⟨by rfl, ?_⟩) ?_ ?_
          rotate_left
          · intro w'
            go_simp
            with_reducible rfl
          rotate_left
          · simp only [Act.put, List.setIfInBounds_toArray, List.set_cons_zero, List.set_cons_succ, i64_w, i32_w]
            rfl
          refine pure_ (i := 3) (N := some 38) (v := ?_) (a' := ?_) #[true, false, false, true, false, false, false, false, false, false] rfl rfl (by kernel_rfl) (fun _ _ _ h => h) (Or.inl ⟨by rfl, ?_⟩) ?_ ?_
          rotate_left
          · intro w'
            go_simp
            with_reducible rfl
          rotate_left
          · simp only [Act.put, List.setIfInBounds_toArray, List.set_cons_zero, List.set_cons_succ, i64_w, i32_w]
            rfl
          refine take_ (i := 1) (N := some 36) (v := ?_) (a' := ?_) #[true, true, false, true, false, false, false, false, false, false] rfl rfl (by kernel_rfl) (fun _ _ _ h => h) (Or.inl ⟨by rfl, ?_⟩) hHeld ?_ ?_
          rotate_left
          · rintro w' ⟨s0, s1⟩
            go_simp
            with_reducible rfl
          rotate_left
          · simp only [Act.put, List.setIfInBounds_toArray, List.set_cons_zero, List.set_cons_succ, i64_w, i32_w]
            rfl
          refine take_ (i := 4) (N := some 39) (v := ?_) (a' := ?_) #[true, true, false, true, true, false, false, false, false, false] rfl rfl (by kernel_rfl) (fun _ _ _ h => h) (Or.inl ⟨by rfl, ?_⟩) hHeld ?_ ?_
          rotate_left
          · rintro w' ⟨s0, s1⟩
            go_simp
            with_reducible rfl
          rotate_left
          · simp only [Act.put, List.setIfInBounds_toArray, List.set_cons_zero, List.set_cons_succ, i64_w, i32_w]
            rfl
          refine one_ (i := 2) (N := some 37) #[true, true, true, true, true, false, false, false, false, false] rfl rfl (by kernel_rfl) (by decide) (fun K hK => ?_)
          refine goes_ Try.func10 (by kernel_rfl) rfl #[.slice A1 (rd_T30 l0 (i : Int)).f1.length c1] (by rfl) rfl rfl (by simp only [List.map_toArray, List.map_cons, List.map_nil]; rfl) ?_
          with_reducible refine (api_Part.calls _ _ (rd_T30 l0 (i : Int)).f1 (rd_T30 l0 (i : Int)).f1 _ (Kd.C_drew HRa.out) HC1.out (api_Part.some_ HN1.out.1)).mono ?_
          rintro e w3 ⟨v37, rfl, hv37, hb37⟩
          refine ⟨_, rfl, ?_⟩
          have HV37 := Aside0.mk hv37
          have HB37 := Aside0.mk hb37
          clear hv37 hb37
          refine hK.out _ _ ⟨box_at (blk_below (blk_drew HX.out) HB37.out) 1 rfl, box_at (blk_below (blk_drew HX.out) HB37.out) 2 rfl⟩ (fun hHeld => ?_)
          clear hK K
          refine norm_ (a' := ?_) ?_ ?_
          rotate_left
          · show Act.put _ (some 37) _ = _
            simp only [Act.put, List.setIfInBounds_toArray, List.set_cons_zero, List.set_cons_succ, i64_w, i32_w]
            rfl
          refine pure_ (i := 6) (N := some 41) (v := ?_) (a' := ?_) #[true, true, true, true, true, false, true, false, false, false] rfl rfl (by kernel_rfl) (fun _ _ _ h => h) (Or.inl ⟨by rfl, ?_⟩) ?_ ?_
          rotate_left
          · intro w'
            go_simp
            with_reducible rfl
          rotate_left
          · simp only [Act.put, List.setIfInBounds_toArray, List.set_cons_zero, List.set_cons_succ, i64_w, i32_w]
            rfl
          refine one_ (i := 5) (N := some 40) #[true, true, true, true, true, true, true, false, false, false] rfl rfl (by kernel_rfl) (by decide) (fun K hK => ?_)
          refine goes_ Try.func11 (by kernel_rfl) rfl #[.slice A2 (rd_T30 l0 (i : Int)).f2.length c2] (by rfl) rfl rfl (by simp only [List.map_toArray, List.map_cons, List.map_nil]; rfl) ?_
          with_reducible refine (slices_Clone_int_int.calls _ _ (rd_T30 l0 (i : Int)).f2 (rd_T30 l0 (i : Int)).f2 _ (Kd.C_below (Kd.C_drew HRb.out) HB37.out) HC2.out (slices_Clone_int_int.some_ HN1.out.2)).mono ?_
          rintro e w4 ⟨v40, rfl, hv40, hb40⟩
          refine ⟨_, rfl, ?_⟩
          have HV40 := Aside0.mk hv40
          have HB40 := Aside0.mk hb40
          clear hv40 hb40
          obtain ⟨A37, k37, e37⟩ := Kd.R_slice HV37.out
          obtain ⟨A40, k40, e40⟩ := Kd.R_slice HV40.out
          subst e37 e40
          refine hK.out _ _ ⟨box_at (blk_below (blk_below (blk_drew HX.out) HB37.out) HB40.out) 1 rfl, box_at (blk_below (blk_below (blk_drew HX.out) HB37.out) HB40.out) 2 rfl⟩ (fun hHeld => ?_)
          clear hK K
          refine norm_ (a' := ?_) ?_ ?_
          rotate_left
          · show Act.put _ (some 40) _ = _
            simp only [Act.put, List.setIfInBounds_toArray, List.set_cons_zero, List.set_cons_succ, i64_w, i32_w]
            rfl
          refine last_ (i := 7) (N := none) #[true, true, true, true, true, true, true, true, false, false] rfl rfl (by kernel_rfl) (by decide) (fun K hK => ?_)
          have hx7 : w4.cell? ⟨wr.heap.size, 1, none⟩ = some (.slice A1 (rd_T30 l0 (i : Int)).f1.length c1) := box_at (blk_below (blk_below (blk_drew HX.out) HB37.out) HB40.out) 1 rfl
          have hz7 : w4.frozen? ⟨wr.heap.size, 1, none⟩ = false := blk_frozen (blk_below (blk_below (blk_drew HX.out) HB37.out) HB40.out) 1
          refine skip_ (w1 := ?_) (by rfl) rfl ?_ ?_
          rotate_left
          · go_simp
            rfl
          clear hx7 hz7
          refine hK.out _ _ ?_
          clear hK K
          refine pure_ (i := 8) (N := some 42) (v := ?_) (a' := ?_) #[true, true, true, true, true, true, true, true, true, false] rfl rfl (by kernel_rfl) (fun _ _ _ h => h) (Or.inl ⟨by rfl, ?_⟩) ?_ ?_
          rotate_left
          · intro w'
            go_simp
            with_reducible rfl
          rotate_left
          · simp only [Act.put, List.setIfInBounds_toArray, List.set_cons_zero, List.set_cons_succ, i64_w, i32_w]
            rfl
          refine last_ (i := 9) (N := none) #[true, true, true, true, true, true, true, true, true, true] rfl rfl (by kernel_rfl) (by decide) (fun K hK => ?_)
          have hx9 : (w4.setCell ⟨wr.heap.size, 1, none⟩ (.slice A37 (rd_T30 l0 (i : Int)).f1.length k37)).cell? ⟨wr.heap.size, 2, none⟩ = some (.slice A2 (rd_T30 l0 (i : Int)).f2.length c2) := box_at (blk_set (blk_below (blk_below (blk_drew HX.out) HB37.out) HB40.out) 1 _) 2 rfl
          have hz9 : (w4.setCell ⟨wr.heap.size, 1, none⟩ (.slice A37 (rd_T30 l0 (i : Int)).f1.length k37)).frozen? ⟨wr.heap.size, 2, none⟩ = false := blk_frozen (blk_set (blk_below (blk_below (blk_drew HX.out) HB37.out) HB40.out) 1 _) 2
          refine skip_ (w1 := ?_) (by rfl) rfl ?_ ?_
          rotate_left
          · go_simp
            rfl
          clear hx9 hz9
          refine hK.out _ _ ?_
          clear hK K
          refine done_ (by kernel_rfl) ?_
          have HX9 : Aside0 (((w4.setCell ⟨wr.heap.size, 1, none⟩ (.slice A37 (rd_T30 l0 (i : Int)).f1.length k37)).setCell ⟨wr.heap.size, 2, none⟩ (.slice A40 (rd_T30 l0 (i : Int)).f2.length k40)).heap[wr.heap.size]? = some (.cells #[.string (rd_T30 l0 (i : Int)).f0, .slice A37 (rd_T30 l0 (i : Int)).f1.length k37, .slice A40 (rd_T30 l0 (i : Int)).f2.length k40] 30 (0, 0))) := ⟨blk_set (blk_set (blk_below (blk_below (blk_drew HX.out) HB37.out) HB40.out) 1 _) 2 _⟩
          have HM9 : Aside0 (GMid ((w4.setCell ⟨wr.heap.size, 1, none⟩ (.slice A37 (rd_T30 l0 (i : Int)).f1.length k37)).setCell ⟨wr.heap.size, 2, none⟩ (.slice A40 (rd_T30 l0 (i : Int)).f2.length k40)) w.heap.size (fun k => k ≠ wr.heap.size) (.slice (some ⟨g9, 0, none⟩) (m + 1 + 1) cap9) (m + 1) (gi ++ [gl]) [] (ci ++ [.slice (some ad7) gl.length k7]) (.slice none 0 0)) := ⟨((((HM.out.below (below_drew1 (Below.refl _ _))).below HB37.out).below HB40.out).far (p := ⟨wr.heap.size, 1, none⟩) (fun _ hk => hk) _).far (p := ⟨wr.heap.size, 2, none⟩) (fun _ hk => hk) _⟩
          have HBl9 : Aside0 (Below w.heap.size w ((w4.setCell ⟨wr.heap.size, 1, none⟩ (.slice A37 (rd_T30 l0 (i : Int)).f1.length k37)).setCell ⟨wr.heap.size, 2, none⟩ (.slice A40 (rd_T30 l0 (i : Int)).f2.length k40))) := ⟨below_set (below_set (below_then (below_then (below_drew HBl.out) HBl.out.size HB37.out) (Nat.le_trans HBl.out.size HB37.out.size) HB40.out) HB.out.size) HB.out.size⟩
          have HV37' : Aside0 (Kd.R k35 35 ((w4.setCell ⟨wr.heap.size, 1, none⟩ (.slice A37 (rd_T30 l0 (i : Int)).f1.length k37)).setCell ⟨wr.heap.size, 2, none⟩ (.slice A40 (rd_T30 l0 (i : Int)).f2.length k40)) w.heap.size (fun _ => True) (.slice A37 (rd_T30 l0 (i : Int)).f1.length k37) (rd_T30 l0 (i : Int)).f1) := ⟨Kd.R_lower (Kd.R_set (Kd.R_set (Kd.R_below HV37.out HB40.out) (blk_below (blk_below (blk_drew HX.out) HB37.out) HB40.out) (by decide) 1 _) (blk_set (blk_below (blk_below (blk_drew HX.out) HB37.out) HB40.out) 1 _) (by decide) 2 _) HBl.out.size⟩
          have HV40' : Aside0 (Kd.R (Kd.int .i64) 3 ((w4.setCell ⟨wr.heap.size, 1, none⟩ (.slice A37 (rd_T30 l0 (i : Int)).f1.length k37)).setCell ⟨wr.heap.size, 2, none⟩ (.slice A40 (rd_T30 l0 (i : Int)).f2.length k40)) w.heap.size (fun _ => True) (.slice A40 (rd_T30 l0 (i : Int)).f2.length k40) (rd_T30 l0 (i : Int)).f2) := ⟨Kd.R_lower (Kd.R_set (Kd.R_set HV40.out (blk_below (blk_below (blk_drew HX.out) HB37.out) HB40.out) (by decide) 1 _) (blk_set (blk_below (blk_below (blk_drew HX.out) HB37.out) HB40.out) 1 _) (by decide) 2 _) (Nat.le_trans HBl.out.size HB37.out.size)⟩
          obtain ⟨W9, hW9⟩ : ∃ W, ((w4.setCell ⟨wr.heap.size, 1, none⟩ (.slice A37 (rd_T30 l0 (i : Int)).f1.length k37)).setCell ⟨wr.heap.size, 2, none⟩ (.slice A40 (rd_T30 l0 (i : Int)).f2.length k40)) = W := ⟨_, rfl⟩
          rw [hW9] at HX9 HM9 HBl9 HV37' HV40' ⊢
          clear hW9 HV37 HV40 HB37 HB40 HM HX HBl HRa HRb
          go_upto_region 10 with (fail)
          refine start_ (n := 11) (S := fun w' => w'.cell? ⟨g9, (m + 1), none⟩ = some (.slice none 0 0) ∧ w'.cell? ⟨wr.heap.size, 0, none⟩ = some (.string (rd_T30 l0 (i : Int)).f0) ∧ w'.cell? ⟨wr.heap.size, 1, none⟩ = some (.slice A37 (rd_T30 l0 (i : Int)).f1.length k37) ∧ w'.cell? ⟨wr.heap.size, 2, none⟩ = some (.slice A40 (rd_T30 l0 (i : Int)).f2.length k40)) (ds := [10]) #[false, false, false, false, false, false, false, false, false, false, false] (by kernel_rfl) rfl rfl ⟨(HM9.out.below (below_drew1 (Below.refl _ _))).cell, box_at (blk_drew HX9.out) 0 rfl, box_at (blk_drew HX9.out) 1 rfl, box_at (blk_drew HX9.out) 2 rfl⟩ (fun hHeld => ?_)
          refine pure_ (i := 0) (N := some 43) (v := ?_) (a' := ?_) #[true, false, false, false, false, false, false, false, false, false, false] rfl rfl (by kernel_rfl) (fun _ _ _ h => h) (Or.inl ⟨by rfl, ?_⟩) ?_ ?_
          rotate_left
          · intro w'
            go_simp
            with_reducible rfl
          rotate_left
          · simp only [Act.put, List.setIfInBounds_toArray, List.set_cons_zero, List.set_cons_succ, i64_w, i32_w]
            rfl
          refine pure_ (i := 1) (N := some 44) (v := ?_) (a' := ?_) #[true, true, false, false, false, false, false, false, false, false, false] rfl rfl (by kernel_rfl) (fun _ _ _ h => h) (Or.inl ⟨by rfl, ?_⟩) ?_ ?_
          rotate_left
          · intro w'
            go_simp
            with_reducible rfl
          rotate_left
          · simp only [Act.put, List.setIfInBounds_toArray, List.set_cons_zero, List.set_cons_succ, i64_w, i32_w]
            rfl
          refine pure_ (i := 2) (N := some 45) (v := ?_) (a' := ?_) #[true, true, true, false, false, false, false, false, false, false, false] rfl rfl (by kernel_rfl) (fun _ _ _ h => h) (Or.inl ⟨by rfl, ?_⟩) ?_ ?_
          rotate_left
          · intro w'
            go_simp
            with_reducible rfl
          rotate_left
          · simp only [Act.put, List.setIfInBounds_toArray, List.set_cons_zero, List.set_cons_succ, i64_w, i32_w]
            rfl
          refine pure_ (i := 3) (N := some 46) (v := ?_) (a' := ?_) #[true, true, true, true, false, false, false, false, false, false, false] rfl rfl (by kernel_rfl) (fun _ _ _ h => h) (Or.inl ⟨by rfl, ?_⟩) ?_ ?_
          rotate_left
          · intro w'
            go_simp
            with_reducible rfl
          rotate_left
          · simp only [Act.put, List.setIfInBounds_toArray, List.set_cons_zero, List.set_cons_succ, i64_w, i32_w]
            rfl
          refine pure_ (i := 4) (N := some 47) (v := ?_) (a' := ?_) #[true, true, true, true, true, false, false, false, false, false, false] rfl rfl (by kernel_rfl) (fun _ _ _ h => h) (Or.inl ⟨by rfl, ?_⟩) ?_ ?_
          rotate_left
          · intro w'
            go_simp
            with_reducible rfl
          rotate_left
          · simp only [Act.put, List.setIfInBounds_toArray, List.set_cons_zero, List.set_cons_succ, i64_w, i32_w]
            rfl
          refine take_ (i := 5) (N := some 48) (v := ?_) (a' := ?_) #[true, true, true, true, true, true, false, false, false, false, false] rfl rfl (by kernel_rfl) (fun _ _ _ h => h) (Or.inl ⟨by rfl, ?_⟩) hHeld ?_ ?_
          rotate_left
          · rintro w' ⟨s0, s1, s2, s3⟩
            go_simp
            with_reducible rfl
          rotate_left
          · simp only [Act.put, List.setIfInBounds_toArray, List.set_cons_zero, List.set_cons_succ, i64_w, i32_w]
            rfl
          refine take_ (i := 6) (N := some 49) (v := ?_) (a' := ?_) #[true, true, true, true, true, true, true, false, false, false, false] rfl rfl (by kernel_rfl) (fun _ _ _ h => h) (Or.inl ⟨by rfl, ?_⟩) hHeld ?_ ?_
          rotate_left
          · rintro w' ⟨s0, s1, s2, s3⟩
            go_simp
            with_reducible rfl
          rotate_left
          · simp only [Act.put, List.setIfInBounds_toArray, List.set_cons_zero, List.set_cons_succ, i64_w, i32_w]
            rfl
          refine one_ (i := 7) (N := some 50) #[true, true, true, true, true, true, true, true, false, false, false] rfl rfl (by kernel_rfl) (by decide) (fun K hK => ?_)
          refine value_ (w1 := ?_) (v := ?_) (by rfl) rfl ?_ ?_
          rotate_left 2
          · go_simp
            constructor
            · rfl
            · rfl
          refine hK.out _ _ ⟨((HM9.out.below (below_drew1 (Below.refl _ _))).below (below_alloc (Below.refl _ _) _)).cell, box_at (blk_alloc (blk_drew HX9.out) _) 0 rfl, box_at (blk_alloc (blk_drew HX9.out) _) 1 rfl, box_at (blk_alloc (blk_drew HX9.out) _) 2 rfl⟩ (fun hHeld => ?_)
          clear hK K
          refine norm_ (a' := ?_) ?_ ?_
          rotate_left
          · show Act.put _ (some 50) _ = _
            simp only [Act.put, List.setIfInBounds_toArray, List.set_cons_zero, List.set_cons_succ, i64_w, i32_w]
            rfl
          refine one_ (i := 8) (N := some 51) #[true, true, true, true, true, true, true, true, true, false, false] rfl rfl (by kernel_rfl) (by decide) (fun K hK => ?_)
          refine Kd.R_append_step k30 (w0 := w) (W := W9.drew) w.heap.size (by rfl) (.tmp 48) (.tmp 50) 22 30 (.agg #[(.string ⟨#[]⟩), (.slice none 0 0), (.slice none 0 0)]) 64 rfl Try.underlying22 info30 rfl (by decide) (by omega) (.slice none 0 0) [] (rd_T30 l0 (i : Int)) [.string (rd_T30 l0 (i : Int)).f0, (.slice A37 (rd_T30 l0 (i : Int)).f1.length k37), (.slice A40 (rd_T30 l0 (i : Int)).f2.length k40)] (fun k => k ≠ wr.heap.size ∧ some k ≠ ((.slice (some ⟨g9, 0, none⟩) (m + 1 + 1) cap9) : Value).ownBlock) (fun k => (k ≠ wr.heap.size ∧ some k ≠ ((.slice (some ⟨g9, 0, none⟩) (m + 1 + 1) cap9) : Value).ownBlock) ∧ some k ≠ ((.slice none 0 0) : Value).ownBlock) rfl ?aX ?aM (fun _ h => h) ?aF ?aO ?aB ?aS ?aL ?_
          case aX => rfl
          case aM => exact k30_mkM _ _ _ _ (R_apart_types (Kd.R_drew HV37'.out) (by decide) ((HM9.out.below (below_drew1 (Below.refl _ _))).types (blk_drew HX9.out))) (R_apart_types (Kd.R_drew HV40'.out) (by decide) ((HM9.out.below (below_drew1 (Below.refl _ _))).types (blk_drew HX9.out)))
          case aF => exact fun k hk => ⟨fun e => by have := blk_lt HX9.out; have hk : W9.heap.size ≤ k := hk; omega, fun e => by have := own_lt HM9.out.own k e.symm; have hk : W9.heap.size ≤ k := hk; omega⟩
          case aO => exact (HM9.out.below (below_drew1 (Below.refl _ _))).last
          case aB => exact below_drew HBl9.out
          case aS => exact HBl9.out.size
          case aL => have := HGL.out; have := HB0.out.1; have := HI1.out; omega
          intro v51 w51 hr51 hb51 hg51 hat51
          have HR51 := Aside0.mk hr51
          have HBl51 := Aside0.mk hb51
          have HG51 := Aside0.mk hg51
          have HAT51 := Aside0.mk hat51
          clear hr51 hb51 hg51 hat51
          obtain ⟨A51, k51, e51⟩ := Kd.R_slice HR51.out
          simp only [List.nil_append, List.length_append, List.length_singleton] at e51
          subst e51
          have HX51 : Aside0 (w51.heap[wr.heap.size]? = some (.cells #[.string (rd_T30 l0 (i : Int)).f0, (.slice A37 (rd_T30 l0 (i : Int)).f1.length k37), (.slice A40 (rd_T30 l0 (i : Int)).f2.length k40)] 30 (0, 0))) := ⟨blk_grown (blk_drew HX9.out) HG51.out (fun he => ((HM9.out.below (below_drew1 (Below.refl _ _))).last.1 _ he.symm).1 rfl)⟩
          refine hK.out _ _ ⟨((HM9.out.below (below_drew1 (Below.refl _ _))).cell_grown HG51.out).1, box_at HX51.out 0 rfl, box_at HX51.out 1 rfl, box_at HX51.out 2 rfl⟩ (fun hHeld => ?_)
          clear hK K
          refine norm_ (a' := ?_) ?_ ?_
          rotate_left
          · show Act.put _ (some 51) _ = _
            simp only [Act.put, List.setIfInBounds_toArray, List.set_cons_zero, List.set_cons_succ, i64_w, i32_w]
            rfl
          refine pure_ (i := 9) (N := some 52) (v := ?_) (a' := ?_) #[true, true, true, true, true, true, true, true, true, true, false] rfl rfl (by kernel_rfl) (fun _ _ _ h => h) (Or.inl ⟨by rfl, ?_⟩) ?_ ?_
          rotate_left
          · intro w'
            go_simp
            with_reducible rfl
          rotate_left
          · simp only [Act.put, List.setIfInBounds_toArray, List.set_cons_zero, List.set_cons_succ, i64_w, i32_w]
            rfl
          refine last_ (i := 10) (N := none) #[true, true, true, true, true, true, true, true, true, true, true] rfl rfl (by kernel_rfl) (by decide) (fun K hK => ?_)
          have hx10 : w51.cell? ⟨g9, (m + 1), none⟩ = some (.slice none 0 0) := ((HM9.out.below (below_drew1 (Below.refl _ _))).cell_grown HG51.out).1
          have hz10 : w51.frozen? ⟨g9, (m + 1), none⟩ = false := ((HM9.out.below (below_drew1 (Below.refl _ _))).cell_grown HG51.out).2
          refine skip_ (w1 := ?_) (by rfl) rfl ?_ ?_
          rotate_left
          · go_simp
            rfl
          clear hx10 hz10
          refine hK.out _ _ ?_
          clear hK K
          refine done_ (by kernel_rfl) ?_
          have HM11 : Aside0 (GMid (w51.setCell ⟨g9, (m + 1), none⟩ (.slice A51 1 k51)) w.heap.size (fun _ => True) (.slice (some ⟨g9, 0, none⟩) (m + 1 + 1) cap9) (m + 1) (gi ++ [gl]) ([] ++ [(rd_T30 l0 (i : Int))]) (ci ++ [.slice (some ad7) gl.length k7]) (.slice A51 1 k51)) := ⟨(GMid.put (HM9.out.below (below_drew1 (Below.refl _ _))) HR51.out HG51.out HAT51.out).imp (fun _ _ _ => trivial)⟩
          have HBl11 : Aside0 (Below w.heap.size w (w51.setCell ⟨g9, (m + 1), none⟩ (.slice A51 1 k51))) := ⟨below_set HBl51.out (own_base HM9.out.own _ rfl)⟩
          go_wp2
          go_roundg k1
          case measure => omega
          case rel => exact ⟨i + 1, by first | rfl | (simp; done), ⟨by have := HI.out; omega⟩, ⟨.inr ⟨_, _, _, _, _, HFG.out, by simp, HM11.out⟩⟩, HBl11⟩


end Go.Proofs.Yteaipankdlmeoaa.G
