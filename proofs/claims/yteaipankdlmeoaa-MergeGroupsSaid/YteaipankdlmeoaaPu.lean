/- The plain law: cut wherever the next key is another one, all there, and the same as what came in. No condition. -/
import Derived.Test.YteaipankdlmeoaaGx7
import Derived.Test.YteaipankdlmeoaaOp
namespace Go.Proofs.Yteaipankdlmeoaa.G
open Go.RowKit Go.Proofs.YteaipankdlmeoaaW.PrintWords Go.Proofs.YteaipankdlmeoaaW.PrintLast Go.Proofs.YteaipankdlmeoaaW.PrintMore
set_option linter.unusedVariables false
set_option linter.unusedSimpArgs false
theorem wrap_up {x : Int} (h0 : 0 ≤ x) (h1 : x < 9223372036854775807) : wrap64 (x + 1) = x + 1 := by unfold wrap64; omega
/-! ### Much answers -/
theorem much_l1 (l : List S30) (x4 : Int) (h0 : 0 ≤ x4) (h1 : x4 < (l.length : Int)) (h2 : x4 < 60) (hc : ∀ x3, ∃ b, Ev (fun k => gristmillref22_Much.l0 k l x3 (x4 + 1)) b) :
    ∀ (m : Nat) (x3 x5 : Int), 0 ≤ x5 → x5 + m = 300 → ∃ b, Ev (fun k => gristmillref22_Much.l1 k l x3 x4 x5) b := by
  have hend : ∀ x3 : Int, ∃ b, Ev (fun k => if x3 > 1500 then some true else gristmillref22_Much.l0 k l x3 (wrap64 (x4 + 1))) b := by
    intro x3
    by_cases c : x3 > 1500
    · exact ⟨true, 0, fun k _ => if_pos c⟩
    · obtain ⟨b, hb⟩ := hc x3
      refine ⟨b, Ev.congr (fun k => ?_) hb⟩
      rw [if_neg c, wrap_up h0 (by omega)]
  intro m
  induction m with
  | zero =>
    intro x3 x5 hx h
    obtain ⟨b, hb⟩ := hend x3
    refine ⟨b, Ev.step (fun k => ?_) hb⟩
    simp only [gristmillref22_Much.l1]
    rw [if_pos h0, if_pos h1]
    by_cases c : x5 < (((rd_T30 l x4).f1).length : Int)
    · rw [if_pos c, if_neg (show ¬ x5 < 300 by omega)]
    · rw [if_neg c]
  | succ m ih =>
    intro x3 x5 hx h
    by_cases c : x5 < (((rd_T30 l x4).f1).length : Int)
    · obtain ⟨b, hb⟩ := ih (wrap64 (x3 + (((rd_T35 ((rd_T30 l x4).f1) x5).f0.f2).size : Int))) (x5 + 1) (by omega) (by omega)
      refine ⟨b, Ev.step (fun k => ?_) hb⟩
      simp only [gristmillref22_Much.l1]
      rw [if_pos h0, if_pos h1, if_pos c, if_pos (show x5 < 300 by omega), if_pos hx, wrap_up hx (by omega)]
    · obtain ⟨b, hb⟩ := hend x3
      refine ⟨b, Ev.step (fun k => ?_) hb⟩
      simp only [gristmillref22_Much.l1]
      rw [if_pos h0, if_pos h1, if_neg c]
theorem much_l0 (l : List S30) : ∀ (m : Nat) (x3 x4 : Int), 0 ≤ x4 → x4 + m = 60 → ∃ b, Ev (fun k => gristmillref22_Much.l0 k l x3 x4) b := by
  have hno : ∀ (x3 x4 : Int), Ev (fun k => gristmillref22_Much.j1 k l x3 x4 false) (decide ((l.length : Int) > 60)) := fun x3 x4 => ⟨1, fun k hk => by
    obtain ⟨k, rfl⟩ : ∃ k', k = k' + 1 := ⟨k - 1, by omega⟩
    simp [gristmillref22_Much.j1]⟩
  intro m
  induction m with
  | zero =>
    intro x3 x4 h0 h
    refine ⟨_, Ev.step (fun k => ?_) (hno x3 x4)⟩
    simp only [gristmillref22_Much.l0]
    rw [show decide (x4 < 60) = false from decide_eq_false (by omega)]
    split <;> rfl
  | succ m ih =>
    intro x3 x4 h0 h
    by_cases c : x4 < (l.length : Int)
    · obtain ⟨b, hb⟩ := much_l1 l x4 h0 c (by omega) (fun y => ih y (x4 + 1) (by omega) (by omega)) 300 (wrap64 ((wrap64 ((wrap64 (x3 + (((rd_T30 l x4).f0).size : Int))) + (wrap64 (4 * (((rd_T30 l x4).f2).length : Int))))) + (wrap64 (4 * (((rd_T30 l x4).f1).length : Int))))) 0 (by omega) (by omega)
      refine ⟨b, Ev.step (f := fun k => gristmillref22_Much.j1 k l x3 x4 true) (fun k => ?_) (Ev.step (fun k => ?_) hb)⟩
      · simp only [gristmillref22_Much.l0]
        rw [if_pos c, show decide (x4 < 60) = true from decide_eq_true (by omega)]
      · simp only [gristmillref22_Much.j1]
        rw [if_pos trivial, if_pos h0, if_pos c]
    · refine ⟨_, Ev.step (fun k => ?_) (hno x3 x4)⟩
      simp only [gristmillref22_Much.l0]
      rw [if_neg c]
theorem much (l : List S30) : ∃ b, Ev (fun k => gristmillref22_Much.f k l) b := much_l0 l 60 0 0 (by omega) (by omega)
/-! ### A list is the same as itself -/
theorem same16_l0 (l : List Int) (hl : l.length ≤ maxLen) : ∀ (m i : Nat), i + m = l.length → Ev (fun k => gristmillref16_Same.l0 k l l (i : Int)) true := by
  simp only [maxLen] at hl
  intro m
  induction m with
  | zero =>
    intro i h
    refine Ev.step (f := fun _ => some true) (fun k => ?_) (Ev.now _)
    simp only [gristmillref16_Same.l0]
    rw [if_neg (by omega)]
  | succ m ih =>
    intro i h
    refine Ev.step (fun k => ?_) (ih (i + 1) (by omega))
    simp only [gristmillref16_Same.l0]
    rw [if_pos (by omega), if_pos (by omega), if_pos (by omega), if_pos trivial, wrap_up (by omega) (by omega)]
    rfl
theorem same16 (l : List Int) (hl : l.length ≤ maxLen) : Ev (fun k => gristmillref16_Same.f k l l) true :=
  Ev.congr (fun k => by simp only [gristmillref16_Same.f]; rw [if_pos trivial]; rfl) (same16_l0 l hl l.length 0 (by omega))
theorem less_l0 (s : ByteArray) (hs : s.size ≤ maxLen) : ∀ (m i : Nat), i + m = s.size → Ev (fun k => gristmillref04_Less.l0 k s s (i : Int)) false := by
  simp only [maxLen] at hs
  intro m
  induction m with
  | zero =>
    intro i h
    refine Ev.step (f := fun k => gristmillref04_Less.j1 k s s (i : Int) false) (fun k => ?_) (Ev.step (f := fun _ => some false) (fun k => ?_) (Ev.now _))
    · simp only [gristmillref04_Less.l0]
      rw [if_neg (by omega)]
    · simp [gristmillref04_Less.j1]
  | succ m ih =>
    intro i h
    refine Ev.step (f := fun k => gristmillref04_Less.j1 k s s (i : Int) true) (fun k => ?_) (Ev.step (fun k => ?_) (ih (i + 1) (by omega)))
    · simp only [gristmillref04_Less.l0]
      rw [if_pos (by omega), show decide ((i : Int) < (s.size : Int)) = true from decide_eq_true (by omega)]
    · simp only [gristmillref04_Less.j1]
      rw [if_pos trivial, if_pos (by omega), if_pos (by omega), if_pos (by omega), if_pos trivial, wrap_up (by omega) (by omega)]
      rfl
theorem less (s : ByteArray) (hs : s.size ≤ maxLen) : Ev (fun k => gristmillref04_Less.f k s s) false := less_l0 s hs s.size 0 (by omega)
theorem order (a b : Int) (s : ByteArray) (hs : s.size ≤ maxLen) : Ev (fun k => gristmillref08_Order.f k a b s a b s) 0 := by
  by_cases c : a = 0
  · refine Ev.congr (f := fun k => gristmillref08_Order.j0 k true a b s a b s) (fun k => ?_) (Ev.step (f := fun _ => some 0) (fun k => ?_) (Ev.now _))
    · simp only [gristmillref08_Order.f]
      rw [if_pos c, show (a == 0) = true from by simp [c]]
    · simp only [gristmillref08_Order.j0]
      rw [if_pos trivial, if_neg (by omega), if_neg (by omega)]
  · refine Ev.congr (f := fun k => gristmillref08_Order.j0 k false a b s a b s) (fun k => ?_) (Ev.step (f := fun k => (gristmillref04_Less.f k s s).bind fun t => if t = true then some (-1) else if s.toList = s.toList then some 0 else some 1) (fun k => ?_) (Ev.bind (less s hs) ⟨0, fun k _ => by simp⟩))
    · simp only [gristmillref08_Order.f]
      rw [if_neg c]
    · simp only [gristmillref08_Order.j0]
      rw [if_neg (by decide), if_neg c, if_neg c]
theorem same15 (a b : Int) (s : ByteArray) (n : Int) (hs : s.size ≤ maxLen) : Ev (fun k => gristmillref15_Same.f k a b s n a b s n) true := by
  refine Ev.congr (fun k => ?_) (Ev.bind (f := fun _ t => some t) (Ev.congr (g := fun k => gristmillref08_Same.f k a b s a b s) (fun k => rfl) (Ev.bind (f := fun _ t => some (t == 0)) (order a b s hs) (Ev.now _))) (Ev.now _))
  simp only [gristmillref15_Same.f]
  rw [if_pos trivial]
/-- What a list of items weighs, at most. -/
structure Bd (l : List S30) : Prop where
  len : l.length ≤ 2199023255488
  key : ∀ x ∈ l, x.f0.size ≤ maxLen
  parts : ∀ x ∈ l, x.f1.length ≤ 3518437208783
  names : ∀ x ∈ l, ∀ y ∈ x.f1, y.f0.f2.size ≤ maxLen
  offs : ∀ x ∈ l, x.f2.length ≤ 17592186043904
theorem rd_T35_mem (l : List S35) {i : Nat} (h : i < l.length) : rd_T35 l (i : Int) ∈ l := by
  have : rd_T35 l (i : Int) = l[i] := by simp [rd_T35, h]
  rw [this]
  exact List.getElem_mem h
theorem same22_l1 (l : List S30) (hB : Bd l) (i : Nat) (hi : i < l.length) (hc : Ev (fun k => gristmillref22_Same.l0 k l l ((i + 1 : Nat) : Int)) true) :
    ∀ (m j : Nat), j + m = (rd_T30 l (i : Int)).f1.length → Ev (fun k => gristmillref22_Same.l1 k l l (i : Int) (j : Int)) true := by
  have hm := rd_T30_mem l hi
  have hp := hB.parts _ hm
  have hlen := hB.len
  intro m
  induction m with
  | zero =>
    intro j h
    refine Ev.step (fun k => ?_) hc
    simp only [gristmillref22_Same.l1]
    rw [if_pos (by omega), if_pos (by omega), if_neg (by omega), wrap_up (by omega) (by omega)]
    rfl
  | succ m ih =>
    intro j h
    have hj : j < (rd_T30 l (i : Int)).f1.length := by omega
    have hn := hB.names _ hm _ (rd_T35_mem _ hj)
    refine Ev.step (fun k => ?_) (Ev.bind (same15 (rd_T35 ((rd_T30 l (i : Int)).f1) (j : Int)).f0.f0 (rd_T35 ((rd_T30 l (i : Int)).f1) (j : Int)).f0.f1 (rd_T35 ((rd_T30 l (i : Int)).f1) (j : Int)).f0.f2 (rd_T35 ((rd_T30 l (i : Int)).f1) (j : Int)).f1 hn) (f := fun k t => if t = true then gristmillref22_Same.l1 k l l (i : Int) (wrap64 ((j : Int) + 1)) else some false) (Ev.congr (fun k => ?_) (ih (j + 1) (by omega))))
    · simp only [gristmillref22_Same.l1]
      rw [if_pos (by omega), if_pos (by omega), if_pos (by omega), if_pos (by omega), if_pos (by omega), if_pos (by omega)]
    · simp only []
      rw [if_pos trivial, wrap_up (by omega) (by omega)]
      rfl
theorem same22_l0 (l : List S30) (hB : Bd l) : ∀ (m i : Nat), i + m = l.length → Ev (fun k => gristmillref22_Same.l0 k l l (i : Int)) true := by
  have hlen := hB.len
  intro m
  induction m with
  | zero =>
    intro i h
    refine Ev.step (f := fun _ => some true) (fun k => ?_) (Ev.now _)
    simp only [gristmillref22_Same.l0]
    rw [if_neg (by omega)]
  | succ m ih =>
    intro i h
    have hi : i < l.length := by omega
    have ho := hB.offs _ (rd_T30_mem l hi)
    refine Ev.step (fun k => ?_) (Ev.bind (same16 (rd_T30 l (i : Int)).f2 (by simp only [maxLen]; omega)) (f := fun k t => gristmillref22_Same.j1 k l l (i : Int) (!t)) (Ev.step (fun k => ?_) (same22_l1 l hB i hi (ih (i + 1) (by omega)) _ 0 (Nat.zero_add _))))
    · simp only [gristmillref22_Same.l0]
      rw [if_pos (by omega), if_pos (by omega), if_pos (by omega), if_pos trivial, if_pos trivial]
    · simp only [gristmillref22_Same.j1]
      rw [if_neg (by decide)]
      rfl
theorem same22 (l : List S30) (hB : Bd l) : Ev (fun k => gristmillref22_Same.f k l l) true :=
  Ev.congr (fun k => by simp only [gristmillref22_Same.f]; rw [if_pos trivial]; rfl) (same22_l0 l hB l.length 0 (by omega))
/-! ### The groups -/
/-- Cut wherever the next key is another one. -/
structure Good (g : List (List S30)) : Prop where
  ne : ∀ x ∈ g, x ≠ []
  same : ∀ x ∈ g, ∀ y ∈ x, y.f0.toList = (rd_T30 x 0).f0.toList
  diff : ∀ i : Nat, i + 1 < g.length → (rd_T30 (rd_L8 g (i : Int)) 0).f0.toList ≠ (rd_T30 (rd_L8 g ((i + 1 : Nat) : Int)) 0).f0.toList
theorem rd_L8_at (g : List (List S30)) {i : Nat} (h : i < g.length) : rd_L8 g (i : Int) = g[i] := by simp [rd_L8, h]
theorem head_app (l r : List S30) (h : l ≠ []) : rd_T30 (l ++ r) 0 = rd_T30 l 0 := by
  cases l with
  | nil => exact absurd rfl h
  | cons a l => simp [rd_T30]
theorem good_nil : Good [] := ⟨by simp, by simp, fun i h => by simp at h⟩
theorem good_one (x : S30) : Good [[x]] := ⟨by simp, by simp [rd_T30], fun i h => by simp at h⟩
theorem good_step (g : List (List S30)) (x : S30) (h : Good g) : Good (groupsStep g x) := by
  rcases List.eq_nil_or_concat g with rfl | ⟨gi, gl, rfl⟩
  · exact good_one x
  · rw [List.concat_eq_append] at h ⊢
    have hgl := h.ne gl (by simp)
    by_cases c : (rd_T30 gl 0).f0.toList = x.f0.toList
    · rw [groupsStep_same _ _ _ c]
      refine ⟨?_, ?_, ?_⟩
      · intro y hy
        rcases List.mem_append.1 hy with hy | hy
        · exact h.ne y (by simp [hy])
        · simp at hy
          subst hy
          simp
      · intro y hy z hz
        rcases List.mem_append.1 hy with hy | hy
        · exact h.same y (by simp [hy]) z hz
        · simp only [List.mem_singleton] at hy
          subst hy
          rw [head_app _ _ hgl]
          rcases List.mem_append.1 hz with hz | hz
          · exact h.same gl (by simp) z hz
          · simp only [List.mem_singleton] at hz
            subst hz
            exact c.symm
      · intro i hi
        have hi' : i + 1 < (gi ++ [gl]).length := by simpa using hi
        have hd := h.diff i hi'
        have hlt : i < gi.length := by simp at hi; omega
        rw [rd_L8_at _ (by omega), rd_L8_at _ hi'] at hd
        rw [rd_L8_at _ (by omega), rd_L8_at _ hi]
        rw [List.getElem_append_left hlt] at hd ⊢
        by_cases e : i + 1 < gi.length
        · rw [List.getElem_append_left e] at hd ⊢
          exact hd
        · rw [List.getElem_append_right (by omega)] at hd ⊢
          simp only [List.getElem_singleton] at hd ⊢
          rw [head_app _ _ hgl]
          exact hd
    · rw [groupsStep_diff _ _ _ c]
      refine ⟨?_, ?_, ?_⟩
      · intro y hy
        rcases List.mem_append.1 hy with hy | hy
        · exact h.ne y hy
        · simp at hy
          subst hy
          simp
      · intro y hy z hz
        rcases List.mem_append.1 hy with hy | hy
        · exact h.same y hy z hz
        · simp only [List.mem_singleton] at hy
          subst hy
          simp only [List.mem_singleton] at hz
          subst hz
          simp [rd_T30]
      · intro i hi
        by_cases e : i + 1 < (gi ++ [gl]).length
        · have hd := h.diff i e
          rw [rd_L8_at _ (by omega), rd_L8_at _ e] at hd
          rw [rd_L8_at _ (by omega), rd_L8_at _ hi, List.getElem_append_left (by omega), List.getElem_append_left e]
          exact hd
        · have hi2 : i = gi.length := by simp at hi e; omega
          subst hi2
          rw [rd_L8_at _ (by simp), rd_L8_at _ hi, List.getElem_append_left (by simp), List.getElem_append_right (by simp)]
          simpa [rd_T30] using c
theorem good_fold (l : List S30) : ∀ g, Good g → Good (l.foldl groupsStep g) := by
  induction l with
  | nil => exact fun g h => h
  | cons x l ih => exact fun g h => ih _ (good_step g x h)
theorem good_of (l : List S30) : Good (groupsOf l) := good_fold l [] good_nil
/-! ### The law's own loops -/
theorem law_l1 (l : List S30) (g : List (List S30)) (hg : Good g) (x4 : List S30) (i : Nat) (hi : i < g.length) (hx : x4.length + (rd_L8 g (i : Int)).length < 2199023255552) (hgl : g.length ≤ 2199023255552)
    (hc : Ev (fun k => gristmilllaw24_MergeGroups.l0 k l g (x4 ++ rd_L8 g (i : Int)) ((i + 1 : Nat) : Int)) true) :
    ∀ (m j : Nat), j + m = (rd_L8 g (i : Int)).length → Ev (fun k => gristmilllaw24_MergeGroups.l1 k l g x4 (i : Int) (j : Int)) true := by
  have hm : rd_L8 g (i : Int) ∈ g := by rw [rd_L8_at g hi]; exact List.getElem_mem hi
  intro m
  induction m with
  | zero =>
    intro j h
    refine Ev.step (fun k => ?_) hc
    simp only [gristmilllaw24_MergeGroups.l1]
    rw [if_pos (by omega), if_pos (by omega), if_neg (by omega), if_pos hx, wrap_up (by omega) (by omega)]
    rfl
  | succ m ih =>
    intro j h
    have hs := hg.same _ hm _ (rd_T30_mem (rd_L8 g (i : Int)) (i := j) (by omega))
    refine Ev.step (fun k => ?_) (ih (j + 1) (by omega))
    simp only [gristmilllaw24_MergeGroups.l1]
    rw [if_pos (by omega), if_pos (by omega), if_pos (by omega), if_pos (by omega), if_pos (by omega), if_pos hs, wrap_up (by omega) (by omega)]
    rfl
theorem take_flat (g : List (List S30)) (i : Nat) (hi : i < g.length) : (g.take i).flatten ++ rd_L8 g (i : Int) = (g.take (i + 1)).flatten := by
  rw [List.take_succ_eq_append_getElem hi, List.flatten_append, rd_L8_at g hi]
  simp
theorem flat_len (g : List (List S30)) (i : Nat) : ((g.take i).flatten).length ≤ g.flatten.length := by
  have h := congrArg (fun x : List (List S30) => x.flatten.length) (List.take_append_drop i g)
  simp only [List.flatten_append, List.length_append] at h
  omega
theorem law_l0 (l : List S30) (hB : Bd l) (g : List (List S30)) (hg : Good g) (hf : g.flatten = l) (hgl : g.length ≤ l.length) :
    ∀ (m i : Nat), i + m = g.length → Ev (fun k => gristmilllaw24_MergeGroups.l0 k l g (g.take i).flatten (i : Int)) true := by
  have hlen := hB.len
  intro m
  induction m with
  | zero =>
    intro i h
    have ht : (g.take i).flatten = l := by rw [List.take_of_length_le (by omega), hf]
    rw [ht]
    refine Ev.step (f := fun k => (gristmillref22_Same.f k l l).bind fun t => if t = true then (gristmilllaw24_live.f).bind fun t' => some t' else some false) (fun k => ?_) (Ev.bind (same22 l hB) ⟨0, fun k _ => by simp [gristmilllaw24_live.f]⟩)
    simp only [gristmilllaw24_MergeGroups.l0]
    rw [if_neg (by omega)]
  | succ m ih =>
    intro i h
    have hi : i < g.length := by omega
    have hm : rd_L8 g (i : Int) ∈ g := by rw [rd_L8_at g hi]; exact List.getElem_mem hi
    have hpos : 0 < (rd_L8 g (i : Int)).length := List.length_pos_iff.2 (hg.ne _ hm)
    have hx : (g.take i).flatten.length + (rd_L8 g (i : Int)).length < 2199023255552 := by
      have h1 := flat_len g (i + 1)
      rw [← take_flat g i hi, List.length_append, hf] at h1
      omega
    have hin := law_l1 l g hg (g.take i).flatten i hi hx (by omega) (by rw [take_flat g i hi]; exact ih (i + 1) (by omega)) _ 0 (Nat.zero_add _)
    refine Ev.step (f := fun k => gristmilllaw24_MergeGroups.j1 k l g (g.take i).flatten (i : Int) false) (fun k => ?_) (Ev.step (fun k => ?_) hin)
    · simp only [gristmilllaw24_MergeGroups.l0]
      rw [if_pos (by omega), if_pos (by omega), if_neg (by omega)]
      by_cases c : (i : Int) > 0
      · have hw : wrap64 ((i : Int) - 1) = ((i - 1 : Nat) : Int) := by unfold wrap64; omega
        have hd := hg.diff (i - 1) (by omega)
        rw [show i - 1 + 1 = i by omega] at hd
        have hm2 : rd_L8 g ((i - 1 : Nat) : Int) ∈ g := by rw [rd_L8_at g (by omega)]; exact List.getElem_mem _
        have hpos2 : 0 < (rd_L8 g ((i - 1 : Nat) : Int)).length := List.length_pos_iff.2 (hg.ne _ hm2)
        rw [if_pos c, hw, if_pos (by omega), if_pos (by omega), if_pos (by omega), if_pos (by omega), beq_eq_false_iff_ne.2 hd]
      · rw [if_neg c]
    · simp only [gristmilllaw24_MergeGroups.j1]
      rw [if_neg (by decide)]
      rfl
theorem groupsOf_length (l : List S30) : (groupsOf l).length ≤ l.length := by
  have h := groupsOf_take_len l l.length (Nat.le_refl _)
  rwa [List.take_length] at h
theorem law_pure (l : List S30) (hB : Bd l) : ∃ k, gristmilllaw24_MergeGroups.f k l = some true := by
  obtain ⟨b, hb⟩ := much l
  refine Ev.rounds (Ev.congr (fun k => rfl) (Ev.bind (f := fun k t => if t = true then (gristmilllaw24_live.f).bind fun t' => some t' else (merge_Groups.f l).bind fun t' => gristmilllaw24_MergeGroups.l0 k l t' [] 0) hb ?_))
  cases b with
  | true => exact ⟨0, fun k _ => by simp [gristmilllaw24_live.f]⟩
  | false =>
    have hlen := hB.len
    have hf : merge_Groups.f l = some (groupsOf l) := by
      unfold merge_Groups.f
      rw [if_pos ⟨by omega, fun x hx => ⟨Nat.le_trans (hB.parts x hx) (by omega), Nat.le_trans (hB.offs x hx) (by omega)⟩⟩]
    refine Ev.congr (fun k => ?_) (law_l0 l hB (groupsOf l) (good_of l) (groupsOf_flat l) (groupsOf_length l) _ 0 (Nat.zero_add _))
    rw [if_neg (by decide), hf]
    rfl
end Go.Proofs.Yteaipankdlmeoaa.G
