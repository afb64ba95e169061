/- What is read at a type, as a value of its kind, with its weights: for whole numbers, strings, slices and structs. No condition. -/
import Derived.Test.YteaipankdlmeoaaGx0
import Derived.Deep.Strs
import Derived.SizedLaws
import Derived.ProofKit
namespace Go.Proofs.Yteaipankdlmeoaa.G
open Go.RowKit Go.Proofs.YteaipankdlmeoaaW.PrintWords Go.Proofs.YteaipankdlmeoaaW.PrintLast Go.Proofs.YteaipankdlmeoaaW.PrintMore
set_option linter.unusedVariables false
set_option linter.unusedSimpArgs false
section
variable {H : Type} {enc : TypeId × Value → H} {P : Program} {W : World} {base : Nat} {spare : Nat → Bool} {held : Bool}
/-- What is read at type t, and weighs no more than can be reached, is a value of kind d that B tells of. -/
def Opens {α : Type} (enc : TypeId × Value → H) (P : Program) (W : World) (base : Nat) (spare : Nat → Bool) (held : Bool) (t : TypeId) (d : Kd α) (B : α → Prop) : Prop :=
  ∀ (fuel : Nat) (cs : List Value) (x : DataW H × List MemPlace), DataW.trod enc P W base spare held fuel t cs = some x → (∀ n ∈ x.1.weights P t, n ≤ reachBytes) → ∃ a : α, d.K W a cs ∧ B a
theorem opens_int {t : TypeId} {k : IntKind} (ht : P.underlying t = some (.int k)) : Opens enc P W base spare held t (Kd.int k) (fun n => (Lit.int k n).wf = true) := by
  intro fuel cs x h _
  obtain ⟨n, rfl, _, hw⟩ := DataW.trod_int ht h
  exact ⟨n, rfl, hw⟩
theorem opens_bool {t : TypeId} (ht : P.underlying t = some .bool) : Opens enc P W base spare held t Kd.bool (fun _ => True) := by
  intro fuel cs x h _
  cases fuel with
  | zero => simp [DataW.trod] at h
  | succ n =>
    unfold DataW.trod at h
    rw [ht] at h
    split at h <;> first | (exact ⟨_, rfl, trivial⟩) | simp_all
theorem opens_string {t : TypeId} (ht : P.underlying t = some .string) : Opens enc P W base spare held t Kd.string (fun s => s.size ≤ reachBytes) := by
  intro fuel cs x h hw
  obtain ⟨s, rfl, rfl, _⟩ := DataW.trod_string ht h
  exact ⟨s, rfl, by simpa using hw s.data.toList.length (by simp [DataW.weights])⟩
theorem weights_all {e : TypeId} : ∀ {ds : List (DataW H)} {d : DataW H}, d ∈ ds → ∀ n ∈ d.weights P e, n ∈ DataW.weightsAll P e ds
  | d0 :: ds, d, hd, n, hn => by
    simp only [DataW.weightsAll, List.mem_append]
    rcases List.mem_cons.1 hd with rfl | hd
    · exact .inl hn
    · exact .inr (weights_all hd n hn)
theorem opens_slice {α : Type} {t e : TypeId} {d : Kd α} {B : α → Prop} (a0 : α) (ht : P.underlying t = some (.slice e)) (hc : P.cellsOf e = d.sz) {b : Nat} (hB : P.bytesOf e = b) (h : Opens enc P W base spare held e d B) :
    Opens enc P W base spare held t (Kd.slice e d) (fun xs => xs.length * b ≤ reachBytes ∧ xs.length ≤ maxLen ∧ ∀ x ∈ xs, B x) := by
  intro fuel cs x hx hw
  rcases Go.Deep.open_slice ht hx with ⟨rfl, rfl⟩ | ⟨a, len, cap, m, n, D, Pl, rfl, _, hl, hm, hmm, rfl, hel⟩
  · exact ⟨[], ⟨none, 0, rfl, Nat.le_refl _, rfl, Nat.zero_le _, fun h => absurd h (by simp)⟩, by simp, by simp, by simp⟩
  · rw [hc] at hel
    have hlm : len ≤ m := by rw [hmm]; split <;> omega
    have hin : ∀ i, i < len → ∃ y : α, ∃ c, W.cells? base (a.add (i * d.sz)) d.sz = some c ∧ d.K W y c ∧ B y := fun i hi => by
      obtain ⟨c, h1, h2⟩ := hel i (by omega)
      obtain ⟨y, h3, h4⟩ := h n c _ h2 (fun k hk => hw k (by
        simp only [DataW.weights, ht, List.mem_cons, List.mem_append]
        exact .inr (.inl (weights_all (List.mem_map.2 ⟨i, List.mem_range.2 hi, rfl⟩) k hk))))
      exact ⟨y, c, h1, h3, h4⟩
    haveI : Inhabited α := ⟨a0⟩
    obtain ⟨f, hf⟩ := Go.Deep.choose_lt (p := fun i y => ∃ c, W.cells? base (a.add (i * d.sz)) d.sz = some c ∧ d.K W y c ∧ B y) hin
    have hfl : ((List.range len).map f).length = len := by simp
    refine ⟨(List.range len).map f, ⟨some a, cap, by rw [hfl], by rw [hfl]; exact hl, ?_⟩, ?_, ?_, ?_⟩
    · refine ⟨rfl, by rw [hfl]; simp only [maxLen] at hm; omega, fun _ => ⟨a, rfl, fun j p hj => ?_⟩⟩
      have hj2 : j < len := by
        have := (List.getElem?_eq_some_iff.1 hj).1
        rwa [hfl] at this
      have hp : p = f j := by
        rw [List.getElem?_map, List.getElem?_range hj2] at hj
        exact (Option.some.inj hj).symm
      subst hp
      obtain ⟨c, h1, h2, _⟩ := hf j hj2
      obtain ⟨_, h3, h4⟩ := World.cells?_some h1
      refine ⟨c, h3, h2, fun i u hu => ?_⟩
      have hi : i < d.sz := by
        have := (List.getElem?_eq_some_iff.1 hu).1
        omega
      rw [← Go.Deep.add_add, h4 i hi, hu]
    · rw [hfl]
      have := hw ((((List.range len).map D).length + ((List.range (m - len)).map fun j => D (len + j)).length) * P.bytesOf e) (by simp only [DataW.weights, ht, List.mem_cons]; exact .inl trivial)
      rw [hB] at this
      refine Nat.le_trans (Nat.mul_le_mul_right _ ?_) this
      simp
    · rw [hfl]
      exact Nat.le_trans hl hm
    · intro y hy
      obtain ⟨i, hi, rfl⟩ := List.mem_map.1 hy
      obtain ⟨_, _, _, hb⟩ := hf i (List.mem_range.1 hi)
      exact hb
/-- The fields of a struct, from a place on. -/
def OpensT {α : Type} (enc : TypeId × Value → H) (P : Program) (W : World) (base : Nat) (spare : Nat → Bool) (held : Bool) (fs : List Field) (off : Nat) (d : Kd α) (B : α → Prop) : Prop :=
  ∀ (n : Nat) (cs : List Value) (ys : List (DataW H × List MemPlace)), cs.length = off + d.sz → ys.length = fs.length → (∀ (i : Nat) (f : Field), fs[i]? = some f → DataW.trod enc P W base spare held n f.type ((cs.drop f.offset).take (P.cellsOf f.type)) = ys[i]?) →
    (∀ k ∈ DataW.weightsEach P (fs.map (·.type)) (ys.map (·.1)), k ≤ reachBytes) → ∃ a : α, d.K W a (cs.drop off) ∧ B a
theorem opensT_one {α : Type} {f : Field} {off : Nat} {d : Kd α} {B : α → Prop} (ho : f.offset = off) (hc : P.cellsOf f.type = d.sz) (h : Opens enc P W base spare held f.type d B) : OpensT enc P W base spare held [f] off d B := by
  intro n cs ys hl hys ht hw
  match ys, hys with
  | [y], _ =>
    have h1 := ht 0 f rfl
    rw [ho, hc, List.take_of_length_le (by simp; omega)] at h1
    exact h n _ y (by simpa using h1) (fun k hk => hw k (by simp [DataW.weightsEach, hk]))
theorem opensT_cons {α β : Type} {f : Field} {fs : List Field} {off : Nat} {d0 : Kd α} {d1 : Kd β} {B0 : α → Prop} {B1 : β → Prop} (ho : f.offset = off) (hc : P.cellsOf f.type = d0.sz) (h : Opens enc P W base spare held f.type d0 B0)
    (h1 : OpensT enc P W base spare held fs (off + d0.sz) d1 B1) : OpensT enc P W base spare held (f :: fs) off (Kd.pair d0 d1) (fun x => B0 x.1 ∧ B1 x.2) := by
  intro n cs ys hl hys ht hw
  match ys, hys with
  | y :: ys, hys =>
    have h0 := ht 0 f rfl
    rw [ho, hc] at h0
    obtain ⟨a, ha, hBa⟩ := h n _ y (by simpa using h0) (fun k hk => hw k (by simp [DataW.weightsEach, hk]))
    have hsz : (Kd.pair d0 d1).sz = d0.sz + d1.sz := rfl
    obtain ⟨b, hb, hBb⟩ := h1 n cs ys (by omega) (by simpa using hys) (fun i g hg => by simpa using ht (i + 1) g (by simpa using hg)) (fun k hk => hw k (by simp only [List.map_cons, DataW.weightsEach, List.mem_append]; exact .inr hk))
    refine ⟨(a, b), ⟨_, _, ?_, ha, hb⟩, hBa, hBb⟩
    rw [← List.drop_drop]
    exact (List.take_append_drop _ _).symm
theorem opens_struct {α β : Type} {t : TypeId} {fs : Array Field} {d : Kd α} {B : α → Prop} (f : β → α) (g : α → β) (hfg : ∀ a, f (g a) = a) (ht : P.underlying t = some (.struct fs)) (hc : P.cellsOf t = d.sz) (h : OpensT enc P W base spare held fs.toList 0 d B) :
    Opens enc P W base spare held t (Kd.iso d f) (fun x => B (f x)) := by
  intro fuel cs x hx hw
  obtain ⟨ys, n, _, rfl, hl, hys, hf⟩ := DataW.trod_struct ht hx
  obtain ⟨a, ha, hB⟩ := h n cs ys (by omega) (by simpa using hys) (fun i q hq => hf i q (by simpa using hq)) (fun k hk => hw k (by simpa [DataW.weights, ht] using hk))
  refine ⟨g a, ?_, ?_⟩
  · show d.K W (f (g a)) cs
    rw [hfg]
    simpa using ha
  · show B (f (g a))
    rw [hfg]
    exact hB
end
end Go.Proofs.Yteaipankdlmeoaa.G
