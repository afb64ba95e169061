/- What is known in a round of merge.All at the law's own example. No condition. -/
import Derived.Test.YteaipankdlmeoaaGx0
import Derived.Test.YteaipankdlmeoaaLv4
import Derived.Test.YteaipankdlmeoaaLv2
import Derived.WalkSpells
import Derived.WalkLawsBesides
import Derived.RangeFuncNested
import Derived.RangeFuncBound
import Derived.RangeFuncCalls
import Derived.RangeFuncLeaves
import Derived.RangeFuncBox
import Derived.OwnWalkIn
import Derived.TacticsInMore
import Derived.LoopNIn
import Derived.LoopIn
import Derived.Outline
namespace Go.Proofs.Yteaipankdlmeoaa.G
open Go.RowKit Go.Proofs.YteaipankdlmeoaaW.PrintWords Go.Proofs.YteaipankdlmeoaaW.PrintLast Go.Proofs.YteaipankdlmeoaaW.PrintMore
set_option linter.unusedVariables false
set_option linter.unusedSimpArgs false
section
variable {P : Program} {ops : Array Oper} {o : Oper} {a : Act} {Q : Exit → Act → World → Prop} {K : Act → World → Prop}
/-- append(v, x), x a slice of one value that lies by itself: as a step of a region that draws. -/
theorem step_append_at {w0 W : World} (base : Nat) (hw : Region.wanted o (yielded ops a.tmps) = true) (s x : Operand) (t e : TypeId) (z : Value) (size bytes : Nat)
    (ho : o.op = .call { callee := .builtin .append, args := #[s, x], argTypes := #[t, t] })
    (ht : P.underlying t = some (.slice e)) (hinfo : (P.info? e).map (fun i => (i.zero, i.size, i.bytes)) = some (some z, size, bytes)) (hz : z.cells.size = size) (hs0 : 0 < size) (hb0 : 0 < bytes)
    (v : Value) (n g c : Nat) (xs ys : List Value) (hs : a.eval s = v) (hx : a.eval x = .slice (some ⟨g, 0, none⟩) 1 c) (hys : ys.length = size) (h1 : ∀ u ∈ ys, u.oneCell' = true) (hblk : W.heap[g]? = some (.cells ys.toArray e (0, 0)))
    (HO : W.ownsRow base e size v n xs) (HB : Below base w0 W) (hbase : base ≤ W.heap.size) (hl : (n + 1) * bytes ≤ 140737488355328)
    (h : ∀ v1 w1, w1.ownsRow base e size v1 (n + 1) (xs ++ ys) → Below base w0 w1 → W.grownBy w1 v.ownBlock → (v1.ownBlock = v.ownBlock ∨ ∃ b, v1.ownBlock = some b ∧ W.heap.size ≤ b) → K (a.put o.dst v1) w1) :
    if Region.wanted o (yielded ops a.tmps) = true then Oper.wp P o a W K Q else K (a.put o.dst undef) W := by
  obtain ⟨i0, hi, hzz⟩ := Option.map_eq_some_iff.1 hinfo
  simp only [Prod.mk.injEq] at hzz
  obtain ⟨hz0, hz1, hz2⟩ := hzz
  have hlen : n + 1 ≤ 140737488355328 := Nat.le_trans (Nat.le_mul_of_pos_right _ hb0) hl
  rw [if_pos hw]
  obtain ⟨v1, w1, hr, hown, hg, _, hat⟩ := run_append_own_at (P := P) W base t o.type e i0 z size bytes ht hi hz0 hz1 hz2 hz hs0 v n xs HO ⟨g, 0, none⟩ 1 c ys (by rw [hys]; simp)
    (by simpa using World.news_of_block (cs := ys.toArray) (t := e) (fr := (0, 0)) hblk) h1 (by simp only [maxLen]; omega) hl hbase
  unfold Oper.wp execOp
  simp only [ho, resolve, invoke, builtin, Sem.run_bind, Sem.run_pure, Result.andThen_ok, List.map_toArray, List.map_cons, List.map_nil, hs, hx, hr]
  refine h v1 w1 hown (HB.grown hg hbase (own_base HO)) hg ?_
  rcases hat with hat | hat
  · exact .inl hat
  · exact .inr ⟨_, hat, Nat.le_refl _⟩
end
/-- A cell of an own row. -/
theorem own_cell {W : World} {base g n cap e size : Nat} {xs : List Value} (h : W.ownsRow base e size (.slice (some ⟨g, 0, none⟩) n cap) n xs) (j : Nat) {u : Value} (hu : xs[j]? = some u) : W.cell? ⟨g, j, none⟩ = some u ∧ W.frozen? ⟨g, j, none⟩ = false := by
  rcases h.2 with ⟨h1, _⟩ | ⟨g', cap', cur, h1, hb, hg, hnc, hcm, hcs, htake⟩
  · cases h1
  · injection h1 with h1 _ h2
    injection h1 with h1
    injection h1 with h1
    subst h1 h2
    refine ⟨(blk_cell hg _).trans ?_, blk_frozen hg _⟩
    rw [← htake, List.getElem?_take] at hu
    split at hu
    · rw [← hu]; simp
    · cases hu
theorem own_blk {W : World} {base g n n' cap e size : Nat} {xs : List Value} (h : W.ownsRow base e size (.slice (some ⟨g, 0, none⟩) n' cap) n xs) : base ≤ g ∧ ∃ cells, W.heap[g]? = some (.cells cells e (0, 0)) := by
  rcases h.2 with ⟨h1, _⟩ | ⟨g', cap', cur, h1, hb, hg, _⟩
  · cases h1
  · injection h1 with h1
    injection h1 with h1
    injection h1 with h1
    subst h1
    exact ⟨hb, cur, hg⟩
theorem own_blk' {W : World} {base n e size : Nat} {v : Value} {xs : List Value} (h : W.ownsRow base e size v n xs) : ∀ k, v.ownBlock = some k → base ≤ k ∧ ∃ cells, W.heap[k]? = some (.cells cells e (0, 0)) := by
  intro k hk
  rcases h.2 with ⟨rfl, _⟩ | ⟨g', cap', cur, rfl, hb, hg, _⟩
  · cases hk
  · cases hk
    exact ⟨hb, cur, hg⟩
theorem own_apart {W : World} {base base' n n' e e' size size' : Nat} {v v' : Value} {xs xs' : List Value} (h : W.ownsRow base e size v n xs) (h' : W.ownsRow base' e' size' v' n' xs') (hne : e ≠ e') : ∀ k, v.ownBlock = some k → some k ≠ v'.ownBlock := by
  intro k hk hk'
  obtain ⟨_, c1, h1⟩ := own_blk' h k hk
  obtain ⟨_, c2, h2⟩ := own_blk' h' k hk'.symm
  rw [h1] at h2
  injection h2 with h2
  injection h2 with _ h2
  exact hne h2
/-- What the round of All leaves as it lies. -/
structure Mv (n0 B0 : Nat) (A B : World) : Prop where
  size : A.heap.size ≤ B.heap.size
  others : ∀ (k : Nat) (o : Obj), A.heap[k]? = some o → o.isCells = false → B.heap[k]? = some o
  old : ∀ (k : Nat) (o : Obj), A.heap[k]? = some o → k < n0 → k ≠ B0 → B.heap[k]? = some o
  rows : ∀ (k : Nat) (cells : Array Value), A.heap[k]? = some (.cells cells 22 (0, 0)) → n0 ≤ k → B.heap[k]? = some (.cells cells 22 (0, 0))
section
variable {n0 B0 : Nat} {A B C : World}
theorem Mv.refl (A : World) : Mv n0 B0 A A := ⟨Nat.le_refl _, fun _ _ h _ => h, fun _ _ h _ _ => h, fun _ _ h _ => h⟩
theorem Mv.trans (h : Mv n0 B0 A B) (k : Mv n0 B0 B C) : Mv n0 B0 A C :=
  ⟨Nat.le_trans h.size k.size, fun i o hi ho => k.others i o (h.others i o hi ho) ho, fun i o hi h1 h2 => k.old i o (h.old i o hi h1 h2) h1 h2, fun i o hi h1 => k.rows i o (h.rows i o hi h1) h1⟩
theorem Mv.below (h : Below A.heap.size A B) : Mv n0 B0 A B :=
  have hs : ∀ (k : Nat) (o : Obj), A.heap[k]? = some o → B.heap[k]? = some o := fun k o hk => (h.block k (Array.getElem?_eq_some_iff.1 hk).1).trans hk
  ⟨h.size, fun k o hk _ => hs k o hk, fun k o hk _ _ => hs k o hk, fun k _ hk _ => hs k _ hk⟩
theorem Mv.grown {row : Option Nat} (hg : A.grownBy B row) (hr : ∀ r, row = some r → n0 ≤ r ∧ ∃ cells t, A.heap[r]? = some (.cells cells t (0, 0)) ∧ t ≠ 22) : Mv n0 B0 A B := by
  have hs : ∀ (k : Nat) (o : Obj), A.heap[k]? = some o → some k ≠ row → B.heap[k]? = some o := fun k o hk h => (hg.block k (Array.getElem?_eq_some_iff.1 hk).1 h).trans hk
  refine ⟨hg.size, fun k o hk ho => hs k o hk ?_, fun k o hk h1 _ => hs k o hk ?_, fun k c hk h1 => hs k _ hk ?_⟩
  · intro e
    obtain ⟨_, c, t, hc, _⟩ := hr k e.symm
    rw [hk] at hc
    cases hc
    cases ho
  · intro e
    have := (hr k e.symm).1
    omega
  · intro e
    obtain ⟨_, c, t, hc, ht⟩ := hr k e.symm
    rw [hk] at hc
    cases hc
    exact ht rfl
theorem Mv.set {b j : Nat} {v : Value} {cells : Array Value} {t : Nat} (hb : n0 ≤ b) (hc : A.heap[b]? = some (.cells cells t (0, 0))) (ht : t ≠ 22) : Mv n0 B0 A (A.setCell ⟨b, j, none⟩ v) :=
  Mv.grown (grownBy_setAt A b j v) (fun r hr => by cases hr; exact ⟨hb, cells, t, hc, ht⟩)
theorem Mv.setBox {j : Nat} {v : Value} {cells : Array Value} {t : Nat} (hb : B0 < n0) (hc : A.heap[B0]? = some (.cells cells t (0, 0))) : Mv n0 B0 A (A.setCell ⟨B0, j, none⟩ v) := by
  have hg := grownBy_setAt A B0 j v
  have hs : ∀ (k : Nat) (o : Obj), A.heap[k]? = some o → k ≠ B0 → (A.setCell ⟨B0, j, none⟩ v).heap[k]? = some o := fun k o hk h => (hg.block k (Array.getElem?_eq_some_iff.1 hk).1 (fun e => h (by cases e; rfl))).trans hk
  refine ⟨hg.size, fun k o hk ho => hs k o hk ?_, fun k o hk h1 h2 => hs k o hk h2, fun k c hk h1 => hs k _ hk (by omega)⟩
  rintro rfl
  rw [hk] at hc
  cases hc
  cases ho
theorem Mv.keeps (h : Mv n0 B0 A B) : KeepsOthers A B := ⟨h.size, h.others⟩
end
theorem heads_calls (g n c : Nat) (w : World) : Calls Try.prog 14 #[.slice (some ⟨g, 0, none⟩) n c] w fun e w' => e = .returned (.func (.func 17) #[] #[.pointer (some ⟨w.heap.size, 0, none⟩)]) ∧ w' = w.alloc (.cells #[.slice (some ⟨g, 0, none⟩) n c] 25) := by
  go_enter Try.func14, Try.ntmps14
  go_wp2
  go_ret
  exact ⟨rfl, rfl⟩
def part (n : Int) : List Value := [.int .u8 0, .int .i64 n, .string ⟨#[]⟩, .int .i64 1]
structure Pts (pa pb pc : Nat) (W : World) : Prop where
  a : W.heap[pa]? = some (.cells (part 1).toArray 35 (0, 0))
  b : W.heap[pb]? = some (.cells (part 2).toArray 35 (0, 0))
  c : W.heap[pc]? = some (.cells (part 3).toArray 35 (0, 0))
theorem Pts.below {pa pb pc : Nat} {W W1 : World} (h : Pts pa pb pc W) (hb : Below W.heap.size W W1) : Pts pa pb pc W1 := ⟨blk_below h.a hb, blk_below h.b hb, blk_below h.c hb⟩
abbrev PV (p : Nat) : Value := .slice (some ⟨p, 0, none⟩) 1 1
/-- What All has so far. -/
def Out (n0 B0 : Nat) (W : World) : Nat → Prop
  | 0 => W.heap[B0]? = some (.cells #[.slice none 0 0] 22 (0, 0))
  | 1 => ∃ v p, W.heap[B0]? = some (.cells #[v] 22 (0, 0)) ∧ W.ownsRow n0 30 3 v 1 [.string ⟨#[97]⟩, p, .slice none 0 0] ∧ W.ownsRow n0 35 4 p 1 (part 1)
  | 2 => ∃ v p, W.heap[B0]? = some (.cells #[v] 22 (0, 0)) ∧ W.ownsRow n0 30 3 v 1 [.string ⟨#[97]⟩, p, .slice none 0 0] ∧ W.ownsRow n0 35 4 p 2 (part 1 ++ part 2)
  | _ => ∃ v p q, W.heap[B0]? = some (.cells #[v] 22 (0, 0)) ∧ W.ownsRow n0 30 3 v 2 [.string ⟨#[97]⟩, p, .slice none 0 0, .string ⟨#[98]⟩, q, .slice none 0 0] ∧ W.ownsRow n0 35 4 p 2 (part 1 ++ part 2) ∧ W.ownsRow n0 35 4 q 1 (part 3)
theorem Out.move {n0 B0 m : Nat} {W W1 : World} (h : Out n0 B0 W m) (hm : ∀ (k : Nat) (cells : Array Value) (t : Nat), W.heap[k]? = some (.cells cells t (0, 0)) → k = B0 ∨ (n0 ≤ k ∧ t ≠ 22) → W1.heap[k]? = W.heap[k]?) : Out n0 B0 W1 m := by
  have hB : ∀ {v : Value}, W.heap[B0]? = some (.cells #[v] 22 (0, 0)) → W1.heap[B0]? = some (.cells #[v] 22 (0, 0)) := fun h => (hm _ _ _ h (.inl rfl)).trans h
  have hO : ∀ {e size n : Nat} {v : Value} {xs : List Value}, e ≠ 22 → W.ownsRow n0 e size v n xs → W1.ownsRow n0 e size v n xs := fun he h => own_move h (fun k hk => by
    obtain ⟨h1, c, h2⟩ := own_blk' h k hk
    exact hm k c _ h2 (.inr ⟨h1, he⟩))
  match m, h with
  | 0, h => exact hB h
  | 1, ⟨v, p, h1, h2, h3⟩ => exact ⟨v, p, hB h1, hO (by decide) h2, hO (by decide) h3⟩
  | 2, ⟨v, p, h1, h2, h3⟩ => exact ⟨v, p, hB h1, hO (by decide) h2, hO (by decide) h3⟩
  | _ + 3, ⟨v, p, q, h1, h2, h3, h4⟩ => exact ⟨v, p, q, hB h1, hO (by decide) h2, hO (by decide) h3, hO (by decide) h4⟩
/-- What is known between two rounds of All. -/
structure Jx (s0 gl cl ga gb pa pb pc : Nat) (w : World) (m : Nat) (W : World) : Prop where
  src : Src (s0 + 1) gl cl ga gb (PV pa) (PV pb) (PV pc) W
  pts : Pts pa pb pc W
  out : Out (s0 + 2) s0 W m
  size : s0 + 2 ≤ W.heap.size
  below : Below s0 w W
section
variable {s0 gl cl ga gb pa pb pc m : Nat} {w W W1 : World}
theorem Jx.move (h : Jx s0 gl cl ga gb pa pb pc w m W) (hs : W.heap.size ≤ W1.heap.size) (hb : Below s0 W W1)
    (hl : gl < s0 ∧ ga < s0 ∧ gb < s0 ∧ pa < s0 ∧ pb < s0 ∧ pc < s0) (hm : ∀ (k : Nat) (cells : Array Value) (t : Nat), W.heap[k]? = some (.cells cells t (0, 0)) → k < s0 + 2 ∨ t ≠ 22 → W1.heap[k]? = W.heap[k]?) : Jx s0 gl cl ga gb pa pb pc w m W1 := by
  obtain ⟨h1, h2, h3, h4, h5, h6⟩ := hl
  refine ⟨h.src.step (fun k c t hk hc => hm k c t hk (.inl (by omega))), ⟨(hm _ _ _ h.pts.a (.inl (by omega))).trans h.pts.a, (hm _ _ _ h.pts.b (.inl (by omega))).trans h.pts.b, (hm _ _ _ h.pts.c (.inl (by omega))).trans h.pts.c⟩,
    h.out.move (fun k c t hk hc => hm k c t hk (by omega)), Nat.le_trans h.size hs, h.below.trans hb⟩
end
theorem own_below {W W1 : World} {base e size n : Nat} {v : Value} {xs : List Value} (h : W.ownsRow base e size v n xs) (hb : Below W.heap.size W W1) : W1.ownsRow base e size v n xs := own_move h (fun k hk => hb.block k (own_lt h k hk))
theorem own_grown {W W1 : World} {base e size n : Nat} {v : Value} {xs : List Value} {row : Option Nat} (h : W.ownsRow base e size v n xs) (hg : W.grownBy W1 row) (hne : ∀ k, v.ownBlock = some k → some k ≠ row) : W1.ownsRow base e size v n xs := own_move h (fun k hk => hg.block k (own_lt h k hk) (hne k hk))
/-- The round of All half way. -/
structure Rd (s0 bi : Nat) (it : Array Value) (A X : World) (v : Value) (nv : Nat) (xs : List Value) (p : Value) (np : Nat) (ps : List Value) (q : Value) (nq : Nat) (qs : List Value) : Prop where
  mv : Mv (s0 + 2) s0 A X
  bl : Below s0 A X
  sz : s0 + 2 ≤ X.heap.size
  hbi : s0 + 2 ≤ bi
  hit : X.heap[bi]? = some (.cells it 30 (0, 0))
  ap : some bi ≠ v.ownBlock
  box : X.heap[s0]? = some (.cells #[v] 22 (0, 0))
  ov : X.ownsRow (s0 + 2) 30 3 v nv xs
  op : X.ownsRow (s0 + 2) 35 4 p np ps
  oq : X.ownsRow (s0 + 2) 35 4 q nq qs
  aq : ∀ k, p.ownBlock = some k → some k ≠ q.ownBlock
section
variable {s0 bi : Nat} {it : Array Value} {A X Y : World} {v : Value} {nv : Nat} {xs : List Value} {p : Value} {np : Nat} {ps : List Value} {q : Value} {nq : Nat} {qs : List Value}
theorem Rd.below (h : Rd s0 bi it A X v nv xs p np ps q nq qs) (hb : Below X.heap.size X Y) : Rd s0 bi it A Y v nv xs p np ps q nq qs :=
  ⟨h.mv.trans (Mv.below hb), below_then h.bl (by have := h.sz; omega) hb, Nat.le_trans h.sz hb.size, h.hbi, blk_below h.hit hb, h.ap, blk_below h.box hb, own_below h.ov hb, own_below h.op hb, own_below h.oq hb, h.aq⟩
theorem fresh_ne {X : World} {v v1 : Value} {k : Nat} (hk : k < X.heap.size) (hat : v1.ownBlock = v.ownBlock ∨ ∃ b, v1.ownBlock = some b ∧ X.heap.size ≤ b) (hne : some k ≠ v.ownBlock) : some k ≠ v1.ownBlock := by
  rcases hat with hat | ⟨b, hb, hle⟩
  · rw [hat]; exact hne
  · rw [hb]; intro he; injection he with he; omega
/-- Out has been appended to, and the box holds it. -/
theorem Rd.app (h : Rd s0 bi it A X v nv xs p np ps q nq qs) {v1 : Value} {n1 : Nat} {xs1 : List Value} (ho : Y.ownsRow (s0 + 2) 30 3 v1 n1 xs1) (hg : X.grownBy Y v.ownBlock) (hat : v1.ownBlock = v.ownBlock ∨ ∃ b, v1.ownBlock = some b ∧ X.heap.size ≤ b) :
    Rd s0 bi it A (Y.setCell ⟨s0, 0, none⟩ v1) v1 n1 xs1 p np ps q nq qs := by
  have hv := own_blk' h.ov
  have hbx : ∀ k, v.ownBlock = some k → s0 ≠ k := fun k hk e => by have := (hv k hk).1; omega
  have hY : Y.heap[s0]? = some (.cells #[v] 22 (0, 0)) := blk_grown h.box hg (fun e => hbx s0 e.symm rfl)
  have hfar : ∀ {e size n : Nat} {u : Value} {ys : List Value}, Y.ownsRow (s0 + 2) e size u n ys → (Y.setCell ⟨s0, 0, none⟩ v1).ownsRow (s0 + 2) e size u n ys := fun h => own_move h (fun k hk => Below.heap_setCell _ _ _ _ (by have := (own_blk' h k hk).1; show k ≠ s0; omega))
  refine ⟨h.mv.trans ((Mv.grown hg ?_).trans (Mv.setBox (by omega) hY)), (h.bl.grown hg (by have := h.sz; omega) (fun k hk => by have := (hv k hk).1; omega)).setCell (Nat.le_refl _) _, Nat.le_trans h.sz (Nat.le_trans hg.size (by simp [World.setCell])), h.hbi,
    blk_far (blk_grown h.hit hg h.ap) (p := ⟨s0, 0, none⟩) (by have := h.hbi; show bi ≠ s0; omega) _, fresh_ne (blk_lt h.hit) hat h.ap, ?_, hfar ho, hfar (own_grown h.op hg (own_apart h.op h.ov (by decide))), hfar (own_grown h.oq hg (own_apart h.oq h.ov (by decide))), h.aq⟩
  · intro r hr
    obtain ⟨h1, c, h2⟩ := hv r hr
    exact ⟨h1, c, 30, h2, by decide⟩
  · exact blk_set hY 0 v1
/-- The item's parts have been appended to. -/
theorem Rd.appQ (h : Rd s0 bi it A X v nv xs p np ps q nq qs) {q1 : Value} {n1 : Nat} {qs1 : List Value} (ho : Y.ownsRow (s0 + 2) 35 4 q1 n1 qs1) (hg : X.grownBy Y q.ownBlock) (hat : q1.ownBlock = q.ownBlock ∨ ∃ b, q1.ownBlock = some b ∧ X.heap.size ≤ b) :
    Rd s0 bi it A Y v nv xs p np ps q1 n1 qs1 := by
  have hv := own_blk' h.oq
  have hbx : ∀ k, q.ownBlock = some k → s0 ≠ k := fun k hk e => by have := (hv k hk).1; omega
  refine ⟨h.mv.trans (Mv.grown hg ?_), h.bl.grown hg (by have := h.sz; omega) (fun k hk => by have := (hv k hk).1; omega), Nat.le_trans h.sz hg.size, h.hbi,
    blk_grown h.hit hg (fun e => ?_), h.ap, blk_grown h.box hg (fun e => hbx s0 e.symm rfl), own_grown h.ov hg (own_apart h.ov h.oq (by decide)), own_grown h.op hg h.aq, ho, fun k hk => fresh_ne (own_lt h.op k hk) hat (h.aq k hk)⟩
  · intro r hr
    obtain ⟨h1, c, h2⟩ := hv r hr
    exact ⟨h1, c, 35, h2, by decide⟩
  · obtain ⟨_, c, h2⟩ := hv bi e.symm
    have h3 := h.hit
    rw [h2] at h3
    injection h3 with h3
    injection h3 with _ h3
    cases h3
/-- A store into out's row. -/
theorem Rd.put {g cap : Nat} (h : Rd s0 bi it A X (.slice (some ⟨g, 0, none⟩) nv cap) nv xs p np ps q nq qs) (j : Nat) (u : Value) : Rd s0 bi it A (X.setCell ⟨g, j, none⟩ u) (.slice (some ⟨g, 0, none⟩) nv cap) nv (xs.set j u) p np ps q nq qs := by
  obtain ⟨hb, c, hc⟩ := own_blk h.ov
  have hfar : ∀ {e size n : Nat} {v : Value} {ys : List Value}, e ≠ 30 → X.ownsRow (s0 + 2) e size v n ys → (X.setCell ⟨g, j, none⟩ u).ownsRow (s0 + 2) e size v n ys := fun he h' => own_move h' (fun k hk => Below.heap_setCell _ _ _ _ (by
    rintro rfl
    obtain ⟨_, c2, h2⟩ := own_blk' h' _ hk
    rw [hc] at h2
    injection h2 with h2
    injection h2 with _ h2
    exact he h2.symm))
  exact ⟨h.mv.trans (Mv.set hb hc (by decide)), h.bl.setCell (show s0 ≤ g by omega) _, Nat.le_trans h.sz (by simp [World.setCell]), h.hbi, blk_far h.hit (p := ⟨g, j, none⟩) (fun e => h.ap (by rw [e]; rfl)) _, h.ap, blk_far h.box (p := ⟨g, j, none⟩) (by show s0 ≠ g; omega) _,
    (World.ownsRow.stored h.ov j u).1, hfar (by decide) h.op, hfar (by decide) h.oq, h.aq⟩
theorem Rd.cell {g cap : Nat} (h : Rd s0 bi it A X (.slice (some ⟨g, 0, none⟩) nv cap) nv xs p np ps q nq qs) (j : Nat) {u : Value} (hu : xs[j]? = some u) : X.cell? ⟨g, j, none⟩ = some u := (own_cell h.ov j hu).1
theorem Rd.frozen {g cap : Nat} (h : Rd s0 bi it A X (.slice (some ⟨g, 0, none⟩) nv cap) nv xs p np ps q nq qs) (j : Nat) {u : Value} (hu : xs[j]? = some u) : X.frozen? ⟨g, j, none⟩ = false := (own_cell h.ov j hu).2
end
section
variable {s0 gl cl ga gb pa pb pc m : Nat} {w W W1 : World}
theorem Jx.below_ (h : Jx s0 gl cl ga gb pa pb pc w m W) (hb : Below W.heap.size W W1) : Jx s0 gl cl ga gb pa pb pc w m W1 :=
  ⟨h.src.below hb, h.pts.below hb, h.out.move (fun k c t hk _ => hb.block k (blk_lt hk)), Nat.le_trans h.size hb.size, below_then h.below (by have := h.size; omega) hb⟩
theorem Jx.next {m' : Nat} (h : Jx s0 gl cl ga gb pa pb pc w m W) (hv : Mv (s0 + 2) s0 W W1) (hb : Below s0 W W1) (hs : s0 + 2 ≤ W1.heap.size) (hl : gl < s0 ∧ ga < s0 ∧ gb < s0 ∧ pa < s0 ∧ pb < s0 ∧ pc < s0) (ho : Out (s0 + 2) s0 W1 m') : Jx s0 gl cl ga gb pa pb pc w m' W1 := by
  obtain ⟨h1, h2, h3, h4, h5, h6⟩ := hl
  exact ⟨h.src.step (fun k c t hk hc => (hv.old k _ hk (by omega) (by omega)).trans hk.symm), ⟨hv.old _ _ h.pts.a (by omega) (by omega), hv.old _ _ h.pts.b (by omega) (by omega), hv.old _ _ h.pts.c (by omega) (by omega)⟩, ho, hs, h.below.trans hb⟩
end

theorem Rd.start {s0 : Nat} {it : Array Value} {W W₂ : World} {v : Value} {nv : Nat} {xs : List Value} {p : Value} {np : Nat} {ps : List Value} {q : Value} {nq : Nat} {qs : List Value} (hsz : s0 + 2 ≤ W.heap.size)
    (hbx : W.heap[s0]? = some (.cells #[v] 22 (0, 0))) (ho : W.ownsRow (s0 + 2) 30 3 v nv xs) (hp : W.ownsRow (s0 + 2) 35 4 p np ps) (hq : W.ownsRow (s0 + 2) 35 4 q nq qs) (aq : ∀ k, p.ownBlock = some k → some k ≠ q.ownBlock)
    (hc2 : ∀ (k : Nat) (o : Obj), (W.alloc (.cells it 30)).heap[k]? = some o → o.isCells = true → W₂.heap[k]? = some o) (hs2 : s0 + 2 ≤ W₂.heap.size) : Rd s0 W.heap.size it W₂ W₂ v nv xs p np ps q nq qs := by
  have hm : ∀ {e size n : Nat} {u : Value} {ys : List Value}, W.ownsRow (s0 + 2) e size u n ys → W₂.ownsRow (s0 + 2) e size u n ys := fun h => own_move h (fun k hk => by
    obtain ⟨_, c, h2⟩ := own_blk' h k hk
    exact (hc2 _ _ (blk_alloc h2 _) rfl).trans h2.symm)
  exact ⟨Mv.refl _, Below.refl _ _, hs2, hsz, hc2 _ _ (heap_alloc_new W _) rfl, fun e => by have := own_lt ho _ e.symm; omega, hc2 _ _ (blk_alloc hbx _) rfl, hm ho, hm hp, hm hq, aq⟩
section
variable {P : Program} {ops : Array Oper} {rest : List Oper} {o : Oper} {a : Act} {Q : Exit → Act → World → Prop}
/-- append(v, x), x of several cells, in a round; the goal's world is 'W.alloc' of the variadic's box. -/
theorem listIn_append_cells {l nn : Nat} {w0 W : World} (base : Nat) (hgd : o.guard = none) (s x : Operand) (t e : TypeId) (z : Value) (size bytes : Nat)
    (ho : o.op = .call { callee := .builtin .append, args := #[s, x], argTypes := #[t, t] })
    (ht : P.underlying t = some (.slice e)) (hinfo : (P.info? e).map (fun i => (i.zero, i.size, i.bytes)) = some (some z, size, bytes)) (hz : z.cells.size = size) (hs0 : 0 < size) (hb0 : 0 < bytes)
    (v : Value) (n : Nat) (xs ys : List Value) (hs : a.eval s = v) (hx : a.eval x = .slice (some ⟨W.heap.size, 0, none⟩) 1 1) (hys : ys.length = size) (h1 : ∀ u ∈ ys, u.oneCell' = true)
    (HO : W.ownsRow base e size v n xs) (HB : Below base w0 W) (hbase : base ≤ W.heap.size) (hl : (n + 1) * bytes ≤ 140737488355328)
    (h : ∀ v1 w1, w1.ownsRow base e size v1 (n + 1) (xs ++ ys) → Below base w0 w1 → W.grownBy w1 v.ownBlock → (v1.ownBlock = v.ownBlock ∨ ∃ b, v1.ownBlock = some b ∧ W.heap.size ≤ b) → wpListIn (Fence.wide.inRound l) nn P ops Q rest (a.put o.dst v1) w1) :
    wpListIn (Fence.wide.inRound l) nn P ops Q (o :: rest) a (W.alloc (.cells ys.toArray e)) := by
  have hw : Region.wanted o (yielded ops a.tmps) = true := by simp [Region.wanted, hgd]
  have hp : opPlain o = true := by simp [opPlain, ho]
  have h0 := step_append_cells (P := P) (Q := Q) (K := fun a' w' => wpListIn (Fence.wide.inRound l) nn P ops Q rest a' w') base hw s x t e z size bytes ho ht hinfo hz hs0 hb0 v n xs ys hs hx hys h1 HO HB hbase hl h
  rw [if_pos hw] at h0
  unfold wpListIn
  rw [if_pos hw]
  exact wpIn_of_wp hp h0
end
theorem part_one (n : Int) : ∀ u ∈ part n, u.oneCell' = true := by
  intro u hu
  simp only [part, List.mem_cons, List.not_mem_nil, or_false] at hu
  rcases hu with rfl | rfl | rfl | rfl <;> rfl
theorem Rd.boxG {s0 bi : Nat} {it : Array Value} {A X Y : World} {v : Value} {nv : Nat} {xs : List Value} {p : Value} {np : Nat} {ps : List Value} {q : Value} {nq : Nat} {qs : List Value} (h : Rd s0 bi it A X v nv xs p np ps q nq qs) (hg : X.grownBy Y v.ownBlock) : Y.heap[s0]? = some (.cells #[v] 22 (0, 0)) :=
  blk_grown h.box hg (fun e => by have := (own_blk' h.ov s0 e.symm).1; omega)
/-- What a round keeps. -/
structure Kx (n0 B0 : Nat) (A B : World) : Prop where
  old : ∀ (k : Nat) (o : Obj), A.heap[k]? = some o → k < n0 → k ≠ B0 → B.heap[k]? = some o
  rows : ∀ (k : Nat) (cells : Array Value), A.heap[k]? = some (.cells cells 22 (0, 0)) → n0 ≤ k → B.heap[k]? = some (.cells cells 22 (0, 0))
section
variable {n0 B0 : Nat} {A B C : World}
theorem Mv.kx (h : Mv n0 B0 A B) : Kx n0 B0 A B := ⟨h.old, h.rows⟩
theorem Kx.trans (h : Kx n0 B0 A B) (k : Kx n0 B0 B C) : Kx n0 B0 A C := ⟨fun i o hi h1 h2 => k.old i o (h.old i o hi h1 h2) h1 h2, fun i o hi h1 => k.rows i o (h.rows i o hi h1) h1⟩
theorem Kx.put {k : Nat} {o o' : Obj} (hk : n0 ≤ k) (ho : A.heap[k]? = some o) (hc : o.isCells = false) : Kx n0 B0 A (A.putObj k o') :=
  ⟨fun i _ hi h1 _ => (World.putObj_heap_other (by omega)).trans hi, fun i c hi _ => (World.putObj_heap_other (by rintro rfl; rw [ho] at hi; cases hi; cases hc)).trans hi⟩
theorem Ab.same (h : Ab n0 A B) {k : Nat} {o : Obj} (hk : A.heap[k]? = some o) (hn : k < n0 ∨ ∀ cells, o ≠ .cells cells 22 (0, 0)) : B.heap[k]? = some o := by
  rcases h with h | ⟨r, c, h1, h2, h3⟩
  · exact blk_grown hk h (by simp)
  · refine blk_grown hk h3 (fun e => ?_)
    injection e with e
    subst e
    rcases hn with hn | hn
    · omega
    · rw [hk] at h2
      cases h2
      exact hn _ rfl
theorem Ab.below (h : Ab n0 A B) {s : Nat} (hs : s ≤ n0) (hA : s ≤ A.heap.size) : Below s A B ∧ A.heap.size ≤ B.heap.size := by
  rcases h with h | ⟨r, c, h1, h2, h3⟩
  · exact ⟨(Below.refl _ _).grown h hA (by simp), h.size⟩
  · exact ⟨(Below.refl _ _).grown h3 hA (fun k hk => by cases hk; omega), h3.size⟩
end
section
variable {s0 gl cl ga gb pa pb pc m : Nat} {w W W1 : World}
theorem Jx.put (h : Jx s0 gl cl ga gb pa pb pc w m W) (hl : gl < s0 ∧ ga < s0 ∧ gb < s0 ∧ pa < s0 ∧ pb < s0 ∧ pc < s0) {k : Nat} {o o' : Obj} (hk : s0 + 2 ≤ k) (ho : W.heap[k]? = some o) (hc : o.isCells = false) : Jx s0 gl cl ga gb pa pb pc w m (W.putObj k o') := by
  have hg := grownBy_putObj' W k o'
  refine h.move hg.size ((Below.refl _ _).grown hg (by have := h.size; omega) (fun i hi => by cases hi; omega)) hl (fun i c t hi _ => World.putObj_heap_other ?_)
  rintro rfl
  rw [ho] at hi
  cases hi
  cases hc
theorem Jx.ab {B : World} (h : Jx s0 gl cl ga gb pa pb pc w m W) (hl : gl < s0 ∧ ga < s0 ∧ gb < s0 ∧ pa < s0 ∧ pb < s0 ∧ pc < s0) (hab : Ab (s0 + 2) W B) : Jx s0 gl cl ga gb pa pb pc w m B := by
  obtain ⟨h1, h2⟩ := hab.below (s := s0) (by omega) (by have := h.size; omega)
  refine h.move h2 h1 hl (fun k c t hk hn => (hab.same hk ?_).trans hk.symm)
  rcases hn with hn | hn
  · exact .inl hn
  · refine .inr (fun c' e => ?_)
    cases e
    exact hn rfl
end
end Go.Proofs.Yteaipankdlmeoaa.G
