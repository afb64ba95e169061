import Derived.Lib.Bytealg
import Derived.Lib.BytesEntry
import Derived.WalkLawsBesides
import Derived.RangeFuncNested
import Derived.RangeFuncBound
import Derived.RangeFuncCalls
import Derived.RangeFuncLeaves
import Derived.RangeFuncBox
import Derived.OwnWalkIn
import Derived.TacticsInMore
import Derived.LoopNIn
import Derived.LoopIn
import Derived.Outline
import Derived.StillTailTactics
import Derived.Test.YtgcjjapcniocaaaGreatDoorGx0
namespace Go.Proofs.YtgcjjapcniocaaaGreatDoor.G
open Go.RowKit Go.Proofs.YtgcjjapcniocaaaGreatDoorW.PrintWords Go.Proofs.YtgcjjapcniocaaaGreatDoorW.PrintLast Go.Proofs.YtgcjjapcniocaaaGreatDoorW.PrintMore
attribute [local go_sem] max2_int min2_int max_two min_two max_three min_three max_four min_four
set_option linter.unusedVariables false
set_option linter.unusedSimpArgs false
set_option pp.deepTerms true
set_option pp.maxSteps 100000
theorem no_lets {Q : Exit → Act → World → Prop} (h : ∀ a w, ¬ Q .outgrown a w) : ¬ LetsOut Q := fun ⟨a, w, hq⟩ => h a w hq
section
variable {P : Program} {ops : Array Oper} {Q : Exit → Act → World → Prop} {md : Region.Mode} {S : World → Prop} {ds : List Nat} {l n : Nat}
theorem uponIn_of_upon {o : Oper} {a : Act} {next : Act → World → Prop} (r : Result Next) (h : o.upon P a next Q r) : o.uponIn (Fence.wide.inRound l) n P a next Q r := by
  cases r with
  | halt hh w' => cases hh <;> first | exact h | exact h.elim
  | ok v w' =>
    cases v <;> first | exact h | exact h.elim | skip
    case enter f args => exact ⟨fun hd => (by simp [Fence.wide] at hd), CallsIn.inRound l (callsIn_wide.2 h)⟩
    case row row args =>
      refine ⟨fun hd => (by simp [Fence.wide] at hd), fun c cs _ => ?_⟩
      obtain ⟨v, w', r, s⟩ := h c cs
      exact ⟨v, w', r, stepsIn_wide.2 s⟩
def opPlain (o : Oper) : Bool := match o.op with | .defer _ => false | _ => true
theorem opPlain_spec {o : Oper} (h : opPlain o = true) : ∀ c, o.op ≠ .defer c := by
  intro c hc
  simp [opPlain, hc] at h
theorem wpIn_of_wp {o : Oper} {a : Act} {w : World} {K : Act → World → Prop} (hp : opPlain o = true) (h : o.wp P a w K Q) : o.wpIn (Fence.wide.inRound l) n P a w K Q := by
  refine ⟨fun _ _ => trivial, ?_⟩
  rw [Oper.semAt_eq _ _ _ (opPlain_spec hp)]
  exact uponIn_of_upon _ h
theorem wpOpIn_of_wpOp {i : Nat} {K : Act → World → Prop} {a : Act} {w : World} (hL : ¬ LetsOut Q) (hp : ops.all opPlain = true) (h : wpOp P ops Q i K a w) : wpOpIn (Fence.wide.inRound l) n P ops Q i K a w := by
  unfold wpOp at h
  unfold wpOpIn
  cases ho : ops[i]? with
  | none => rw [ho] at h; exact h
  | some o =>
    rw [ho] at h
    have hpo : opPlain o = true := by
      obtain ⟨hi, he⟩ := Array.getElem?_eq_some_iff.1 ho
      rw [Array.all_eq_true] at hp
      rw [← he]
      exact hp i hi
    show (if Region.wanted o (yielded ops a.tmps) = true then _ else _)
    by_cases hw : Region.wanted o (yielded ops a.tmps) = true
    · rw [if_pos hw]
      simp only [hw, if_true] at h
      rcases h with h | h
      · exact wpIn_of_wp hpo h
      · exact absurd h.2 hL
    · rw [if_neg hw]
      simp only [hw] at h
      exact ⟨fun _ _ => trivial, h⟩
theorem wpAnyIn_of_wpAny (hL : ¬ LetsOut Q) (hp : ops.all opPlain = true) : ∀ (fuel : Nat) (listed : Array Bool) (a : Act) (w : World), wpAny P md ops Q fuel listed a w → wpAnyIn (Fence.wide.inRound l) n P md ops Q fuel listed a w
  | 0, _, _, _, h => h
  | fuel + 1, listed, a, w, h => ⟨h.1, fun i hi => wpOpIn_mono (fun a' w' h' => wpAnyIn_of_wpAny hL hp fuel _ a' w' h') (wpOpIn_of_wpOp hL hp (h.2 i hi))⟩
/-- A region that draws, in a round of a range over a function: walked as anywhere. -/
theorem startIn_ {id m : Nat} {a : Act} {w : World} (hL : ¬ LetsOut Q) (hp : ops.all opPlain = true) (lb : Array Bool) (hm : P.follows .mixedOrders = true) (hn : ops.size = m) (hl : Array.replicate m false = lb) (hS : S w.drew)
    (h : S w.drew → wpAnyLast P .any ops Q S ds m lb a w.drew) : (Code.region id ops true).wpIn (Fence.wide.inRound l) n P Q a w := by
  subst hn
  subst hl
  exact wpIn_region_any hm (wpAnyIn_of_wpAny hL hp _ _ _ _ (wpAny_of_last _ _ _ _ (h hS)))
theorem wpListIn_of_wpList (hL : ¬ LetsOut Q) : ∀ (os : List Oper) (a : Act) (w : World), os.all opPlain = true → wpList P ops Q os a w → wpListIn (Fence.wide.inRound l) n P ops Q os a w
  | [], _, _, _, h => h
  | o :: rest, a, w, hp, h => by
    rw [List.all_cons, Bool.and_eq_true] at hp
    unfold wpList at h
    unfold wpListIn
    by_cases hw : Region.wanted o (yielded ops a.tmps) = true
    · rw [if_pos hw]
      simp only [hw, if_true] at h
      rcases h with h | h
      · exact Oper.wpIn_mono (fun a' w' h' => wpListIn_of_wpList hL rest a' w' hp.2 h') (wpIn_of_wp hp.1 h)
      · exact absurd h.2 hL
    · rw [if_neg hw]
      simp only [hw] at h
      exact ⟨fun _ _ => trivial, wpListIn_of_wpList hL rest _ w hp.2 h⟩
/-- A plain region, in a round. -/
theorem listIn_ {id : Nat} {a : Act} {w : World} (hL : ¬ LetsOut Q) (hp : ops.toList.all opPlain = true) (h : wpList P ops Q ops.toList a w) : (Code.region id ops false).wpIn (Fence.wide.inRound l) n P Q a w :=
  wpIn_region_list (wpListIn_of_wpList hL _ _ _ hp h)
/-- Code outside a round. -/
theorem wideIn_ {c : Code} {a : Act} {w : World} (h : c.wp P Q a w) : c.wpIn Fence.wide n P Q a w := wpIn_wide.2 h
end
section
variable {P : Program} {n : Nat}
/-- A range over a function that gives N values, stage by stage, outside every other round; the body never leaves early. J: what is known behind m rounds; Kp: what a round keeps; Ab: what the iterator does between rounds. -/
theorem range_stage {g : Operand} {ps : Array Tmp} {assign body : Code} {Q : Exit → Act → World → Prop} {a : Act} {w : World} {gf : Nat} {lb : Array Value}
    (hg : a.eval g = .func (.func gf) #[] lb) (eg : ∀ args w, (callFunc gf args).run P w = .ok (.enter gf args) w)
    (N : Nat) (encs : Nat → Array Value) (hps : ∀ m, (encs m).size = ps.size) (Kp Ab : World → World → Prop) (J : Nat → World → Prop)
    (hJo : ∀ (m : Nat) (W : World) (k : Nat) (o o' : Obj), w.heap.size ≤ k → W.heap[k]? = some o → o.isCells = false → J m W → J m (W.putObj k o'))
    (hJn : ∀ (W : World) (o : Obj), J 0 W → J 0 (W.alloc o)) (h0 : J 0 w)
    (hAbO : ∀ (A B : World) (k : Nat) (o : Obj), Ab A B → A.heap[k]? = some o → o.isCells = false → B.heap[k]? = some o)
    (hAbJ : ∀ (m : Nat) (A B : World), J m A → Ab A B → J m B)
    (hKt : ∀ {A B C : World}, Kp A B → Kp B C → Kp A C) (hKb : ∀ (W : World) (k : Nat) (o o' : Obj), w.heap.size ≤ k → W.heap[k]? = some o → o.isCells = false → Kp W (W.putObj k o'))
    (hiter : ∀ (l : Nat) (W1 : World) (Jr : Nat → World → Prop), w.grownBy W1 none → W1.heap.size = w.heap.size + 2 → (∀ (m : Nat) (A B : World), Jr m A → Ab A B → Jr m B) →
      (∀ (m : Nat) (W : World), m < N → Jr m W → YieldAt Fence.wide (n - 1 - 1) P l (encs m) W fun e W' => e = .returned (.bool true) ∧ Jr (m + 1) W' ∧ Kp W W') → Jr 0 W1 →
      CallsIn Fence.wide (n - 1) P gf (#[.func (.yield l) #[] #[]] ++ lb) W1 fun e W' => (∃ v, e = .returned v) ∧ Jr N W')
    (hround : ∀ (l m : Nat) (W : World), m < N → w.heap.size < l → J m W →
      assign.wpIn (Fence.wide.inRound l) (n - 1 - 1) P (Exit.then (fun a₁ W₁ => KeepsOthers W W₁ ∧ J m W₁ ∧ Kp W W₁ ∧
        ∀ W₂ : World, J m W₂ → W₂.heap.size = W₁.heap.size → (∀ (k : Nat) (o : Obj), W₁.heap[k]? = some o → o.isCells = true → W₂.heap[k]? = some o) →
          body.wpIn (Fence.wide.inRound l) (n - 1 - 1) P (fun e _ W₃ => e = .normal ∧ KeepsOthers W₂ W₃ ∧ J (m + 1) W₃ ∧ Kp W₂ W₃) a₁ W₂) (fun _ _ _ => False))
        { tmps := (ps.zip (encs m)).foldl (fun t (p, v) => t.setIfInBounds p v) a.tmps, defers := [] } W)
    (hdone : ∀ (D : Nat) (W : World), w.heap.size ≤ D → J N W → W.heap[D]? = some (.deferred (some [])) → Q .normal { a with defers := { target := .collected D, args := #[] } :: a.defers } W) :
    (Code.rangeFunc g ps assign body).wpIn Fence.wide n P Q a w := by
  refine wpIn_rangeFunc ?_
  intro fn _
  let rec_ : LoopState → Loop := fun st => { state := st, pending := none, fn, tmps := a.tmps, params := ps, assign, body, defers := w.heap.size }
  have hs1 : (w.alloc (.deferred (some []))).heap.size = w.heap.size + 1 := by simp
  have hL1 : ((w.alloc (.deferred (some []))).alloc (.loop (rec_ .ready))).heap[w.heap.size + 1]? = some (.loop (rec_ .ready)) := by
    have h := World.alloc_heap_new (w.alloc (.deferred (some []))) (.loop (rec_ .ready))
    rwa [hs1] at h
  have hD1 : ((w.alloc (.deferred (some []))).alloc (.loop (rec_ .ready))).heap[w.heap.size]? = some (.deferred (some [])) := (Below.heap_alloc _ _ _ (by simp)).trans (World.alloc_heap_new w _)
  refine ⟨w.heap.size + 1, [{ target := .collected w.heap.size, args := #[] }], (w.alloc (.deferred (some []))).alloc (.loop (rec_ .ready)), { target := .fn (.func gf) lb, args := #[.func (.yield (w.heap.size + 1)) #[] #[]] }, (w.alloc (.deferred (some []))).alloc (.loop (rec_ .ready)), gf,
    #[.func (.yield (w.heap.size + 1)) #[] #[]] ++ lb, (w.alloc (.deferred (some []))).alloc (.loop (rec_ .ready)), run_enterLoop_outer _ _ _ _ _, ?_, fun _ _ => trivial, ?_, fun h => (by simp [Fence.wide] at h), ?_⟩
  · simp only [resolve, hg]
    simp [go_sem]
  · simp [invoke, go_sem, eg]
  · refine (hiter (w.heap.size + 1) _ (fun m W => J m W ∧ W.heap[w.heap.size + 1]? = some (.loop (rec_ .ready)) ∧ W.heap[w.heap.size]? = some (.deferred (some [])))
      (World.grownBy.trans (World.grownBy_alloc w _ none) (World.grownBy_alloc _ _ none)) (by simp)
      (fun m A B h hab => ⟨hAbJ m A B h.1 hab, hAbO A B _ _ hab h.2.1 rfl, hAbO A B _ _ hab h.2.2 rfl⟩) ?_ ⟨hJn _ _ (hJn _ _ h0), hL1, hD1⟩).mono ?_
    · rintro m W hm ⟨hj, hl, hd⟩
      have hlt : w.heap.size + 1 < W.heap.size := (Array.getElem?_eq_some_iff.1 hl).1
      refine ⟨fn, _, assign, body, run_yield hl (hps m), roundIn_of_wpIn trivial (wpIn_mono (hround (w.heap.size + 1) m W hm (by omega) hj) ?_)⟩
      intro e a1 W1 h1
      cases e with
      | normal =>
        obtain ⟨hk1, hj1, hp1, hb⟩ := h1
        have hl1 := hk1.same _ _ hl rfl
        have hd1 := hk1.same _ _ hd rfl
        have hlt1 : w.heap.size + 1 < W1.heap.size := (Array.getElem?_eq_some_iff.1 hl1).1
        refine ⟨_, run_beginRound hl1 rfl, wpIn_mono (hb (W1.putObj (w.heap.size + 1) (.loop { rec_ .ready with state := .busy })) (hJo m W1 _ _ _ (by omega) hl1 rfl hj1) (by simp) ?_) ?_⟩
        · intro k o hk hc
          refine (World.putObj_heap_other ?_).trans hk
          rintro rfl
          rw [hl1] at hk
          injection hk with hk
          rw [← hk] at hc
          cases hc
        · rintro e3 a3 W3 ⟨rfl, hk3, hj3, hp3⟩
          have hl2 : (W1.putObj (w.heap.size + 1) (.loop { rec_ .ready with state := .busy })).heap[w.heap.size + 1]? = some (.loop { rec_ .ready with state := .busy }) := World.putObj_heap_same hlt1
          have hd2 : (W1.putObj (w.heap.size + 1) (.loop { rec_ .ready with state := .busy })).heap[w.heap.size]? = some (.deferred (some [])) := (World.putObj_heap_other (by omega)).trans hd1
          have hl3 := hk3.same _ _ hl2 rfl
          have hd3 := hk3.same _ _ hd2 rfl
          have hlt3 : w.heap.size + 1 < W3.heap.size := (Array.getElem?_eq_some_iff.1 hl3).1
          refine ⟨_, _, run_endRound none hl3, rfl, ⟨hJo (m + 1) W3 _ _ _ (by omega) hl3 rfl hj3, World.putObj_heap_same hlt3, (World.putObj_heap_other (by omega)).trans hd3⟩, ?_⟩
          exact hKt (hKt (hKt hp1 (hKb W1 _ _ _ (by omega) hl1 rfl)) hp3) (hKb W3 _ _ _ (by omega) hl3 rfl)
      | _ => exact h1.elim
    · rintro e W2 ⟨⟨v, rfl⟩, hj, hl, hd⟩
      have hlt : w.heap.size + 1 < W2.heap.size := (Array.getElem?_eq_some_iff.1 hl).1
      exact ⟨none, _, run_endLoop hl (by show LoopState.ready ≠ .busy; decide), hdone _ _ (Nat.le_refl _) (hJo N W2 _ _ _ (by omega) hl rfl hj) ((World.putObj_heap_other (by omega)).trans hd)⟩
end
section
variable {P : Program} {Q : Exit → Act → World → Prop} {l₀ m₀ : Nat}
/-- A region that draws and only reads, in a round. -/
theorem quietIn_ {id : Nat} {a : Act} {w : World} {l : List Oper} (hL : ¬ LetsOut Q) (hp : l.toArray.all opPlain = true) (hm : P.follows .mixedOrders = true) (hB : Region.lexB .any l.toArray = true)
    (h : wpQuiet P l.toArray (fun w' => ∃ n, w' = w.drewN n) (fun a' => ∀ w', (∃ n, w' = w.drewN n) → Q .normal a' w') l a) : (Code.region id l.toArray true).wpIn (Fence.wide.inRound l₀) m₀ P Q a w := by
  simp only [Region.lexB, Bool.and_eq_true] at hB
  refine wpIn_region_any hm (wpAnyIn_of_wpAny hL hp _ _ _ _ (wpAny_of_quiet (C := fun w' => ∃ n, w' = w.drewN n) (Q := fun a' => ∀ w', (∃ n, w' = w.drewN n) → Q .normal a' w') (fun _ w' hw' h => h w' hw') _ _ _ _ ⟨1, rfl⟩ ?_))
  have := wpAnyQ_lex (C := fun w' => ∃ n, w' = w.drewN n) (md := .any) hB.1 l.toArray.toList 0 (Array.replicate l.toArray.size false) a (by simp) (by simpa using hB.2) (by simpa using h)
  simpa using this
/-- A region that draws: reads, then a tail whose order is forced; in a round. -/
theorem stillTailIn_ {id : Nat} {a : Act} {w : World} {l : List Oper} (n : Nat) (hL : ¬ LetsOut Q) (hp : l.toArray.all opPlain = true) (hm : P.follows .mixedOrders = true) (hB : Region.lexTailB .any l.toArray n = true)
    (h : wpStill P l.toArray { w with drawn := w.drawn + 1 } (fun a' => wpList P l.toArray Q (l.drop n) a' { w with drawn := w.drawn + 1 }) (l.take n) a) : (Code.region id l.toArray true).wpIn (Fence.wide.inRound l₀) m₀ P Q a w := by
  simp only [Region.lexTailB, Bool.and_eq_true, decide_eq_true_eq] at hB
  obtain ⟨⟨⟨⟨hsel, hn⟩, hs⟩, hc⟩, hlex⟩ := hB
  have hn' : n < l.length := by simpa using hn
  have htl : (l.take n).length = n := by simp; omega
  have hdl : (l.drop n).length = l.toArray.size - n := by simp
  have inv0 : HeadInv .any l.toArray n (Array.replicate l.toArray.size false) :=
    ⟨by simp, fun j oj _ hl => (by rw [getD_replicate_false] at hl; cases hl), fun t _ ht => getD_in (by simpa using ht) (getD_replicate_false _ _)⟩
  have H := wpAnyL_lex (md := .any) (g := l.toArray.size - n) hsel hs hc hn (l.take n) 0 _ a (fun j hj => by
    have hj' : j < n := by rw [htl] at hj; exact hj
    simp [hj']) (by simpa using htl) inv0 (by rw [htl]; exact hlex) h
  have := wpAny_of_head (Q' := Q) (g := l.toArray.size - n) (fun listed a' hL => by
    have := wpAny_of_seq (md := .any) (Q' := Q) (l.drop n) n listed a' { w with drawn := w.drawn + 1 } (fun j => by simp [List.getElem?_drop]) (by rw [hdl]; exact hL.1) hL.2
    rwa [hdl] at this) _ _ _ H
  rw [htl, show n + (l.toArray.size - n) = l.toArray.size by omega] at this
  exact wpIn_region_any hm (wpAnyIn_of_wpAny hL hp _ _ _ _ this)
end
end Go.Proofs.YtgcjjapcniocaaaGreatDoor.G
