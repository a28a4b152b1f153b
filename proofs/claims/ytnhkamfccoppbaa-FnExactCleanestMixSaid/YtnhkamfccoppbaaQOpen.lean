/- What an argument that reads as data holds: whole numbers, bools, strings, structs and slices of these, at any depth, told by the printed kinds. Conditions: none. -/
import Derived.Deep.Slices
import Derived.Deep.Fields
import Derived.ChangeSame
import Derived.Test.YtnhkamfccoppbaaWWords
namespace Go.Proofs.Ytnhkamfccoppbaa.QOpen
open Go.ChangeShapes Go.WideShapes Go.Deep Go.RowKit Go.Proofs.YtnhkamfccoppbaaW.PrintWords
/-- Whatever reads as data of type t is of this kind, and its value is well formed. -/
def Opens (P : Program) (w : World) (t : TypeId) {α : Type} (d : Kd α) (wf : α → Prop) : Prop :=
  ∀ (H : Type) (enc : TypeId × Value → H) (base : Nat) (spare : Nat → Bool) (held : Bool) (fuel : Nat) (cs : List Value) (x : DataW H × List MemPlace),
    DataW.trod enc P w base spare held fuel t cs = some x → ∃ a, d.K w a cs ∧ wf a
def wfI (k : IntKind) (n : Int) : Prop := (Lit.int k n).wf = true
def wfS (s : ByteArray) : Prop := s.size ≤ 9223372036854775807
def wfB (_ : Bool) : Prop := True
def wfL {α : Type} (wf : α → Prop) (l : List α) : Prop := l.length ≤ 9223372036854775807 ∧ ∀ x ∈ l, wf x
theorem wfI_i64 {n : Int} (h : wfI .i64 n) : -9223372036854775808 ≤ n ∧ n ≤ 9223372036854775807 := by
  unfold wfI Lit.wf at h
  simp [IntKind.min, IntKind.max, IntKind.signed, IntKind.bits] at h
  omega
theorem wfI_u8 {n : Int} (h : wfI .u8 n) : 0 ≤ n ∧ n ≤ 255 := by
  unfold wfI Lit.wf at h
  simp [IntKind.min, IntKind.max, IntKind.signed, IntKind.bits] at h
  omega
theorem Opens.int {P : Program} {w : World} {t : TypeId} {k : IntKind} (hu : P.underlying t = some (.int k)) : Opens P w t (Kd.int k) (wfI k) := by
  intro H enc base spare held fuel cs x h
  obtain ⟨n, rfl, _, hw⟩ := DataW.trod_int hu h
  exact ⟨n, rfl, hw⟩
theorem Opens.bool {P : Program} {w : World} {t : TypeId} (hu : P.underlying t = some .bool) : Opens P w t Kd.bool wfB := by
  intro H enc base spare held fuel cs x h
  obtain ⟨n, rfl, _⟩ := DataW.trod_bool hu h
  exact ⟨n, rfl, trivial⟩
theorem Opens.string {P : Program} {w : World} {t : TypeId} (hu : P.underlying t = some .string) : Opens P w t Kd.string wfS := by
  intro H enc base spare held fuel cs x h
  obtain ⟨n, rfl, _, hw⟩ := DataW.trod_string hu h
  exact ⟨n, rfl, by unfold maxLen at hw; exact hw⟩
theorem cs_cons {n : Nat} {cs : List Value} (h : cs.length = n + 1) : ∃ c t, cs = c :: t ∧ t.length = n := by
  cases cs with
  | nil => simp at h
  | cons c t => exact ⟨c, t, rfl, by simpa using h⟩
theorem field_seg {H : Type} {enc : TypeId × Value → H} {P : Program} {w : World} {base : Nat} {spare : Nat → Bool} {held : Bool} {n : Nat} {cs : List Value} {f : Field} {x : Option (DataW H × List MemPlace)}
    (h : DataW.trod enc P w base spare held n f.type ((cs.drop f.offset).take (P.cellsOf f.type)) = x) (T off sz : Nat) (seg : List Value) (ht : f.type = T) (ho : f.offset = off) (hs : P.cellsOf T = sz) (hseg : (cs.drop off).take sz = seg) :
    DataW.trod enc P w base spare held n T seg = x := by
  subst ht ho hs hseg
  exact h
theorem list_of {α : Type} (Q : Nat → α → Prop) : ∀ n : Nat, (∀ i, i < n → ∃ x, Q i x) → ∃ xs : List α, xs.length = n ∧ ∀ j p, xs[j]? = some p → Q j p
  | 0, _ => ⟨[], rfl, fun j p h => by simp at h⟩
  | n + 1, h => by
    obtain ⟨xs, hl, hq⟩ := list_of Q n (fun i hi => h i (by omega))
    obtain ⟨x, hx⟩ := h n (by omega)
    refine ⟨xs ++ [x], by simp [hl], fun j p hj => ?_⟩
    by_cases hjn : j < n
    · rw [List.getElem?_append_left (by omega)] at hj
      exact hq j p hj
    · rw [List.getElem?_append_right (by omega), hl] at hj
      have hj0 : j = n := by
        by_cases e : j = n
        · exact e
        · rw [List.getElem?_eq_none (by simp; omega)] at hj
          cases hj
      subst hj0
      simp at hj
      subst hj
      exact hx
theorem Opens.slice {P : Program} {w : World} {t e : TypeId} {α : Type} {d : Kd α} {wf : α → Prop} (hu : P.underlying t = some (.slice e)) (hC : P.cellsOf e = d.sz) (h : Opens P w e d wf) : Opens P w t (Kd.slice e d) (wfL wf) := by
  intro H enc base spare held fuel cs x hx
  rcases open_slice hu hx with ⟨rfl, _⟩ | ⟨a, len, cap, m, n, D, Pl, rfl, hb, hl, hm, hmm, _, hi⟩
  · exact ⟨[], ⟨none, 0, rfl, Nat.le_refl _, rfl, by simp, fun h0 => absurd h0 (by simp)⟩, by simp, by simp⟩
  · have hlm : len ≤ m := by rw [hmm]; split <;> omega
    have key : ∀ i, i < len → ∃ y : α, (∃ c : List Value, c.length = d.sz ∧ d.K w y c ∧ ∀ j u, c[j]? = some u → w.cell? (a.add (i * d.sz + j)) = some u) ∧ wf y := by
      intro i hil
      obtain ⟨cs', hc, ht⟩ := hi i (by omega)
      obtain ⟨y, hK, hw⟩ := h _ _ _ _ _ _ _ _ ht
      obtain ⟨_, hcl, hat⟩ := World.cells?_some hc
      refine ⟨y, ⟨cs', d.K_len hK, hK, fun j u hj => ?_⟩, hw⟩
      have hjl : j < cs'.length := (List.getElem?_eq_some_iff.1 hj).1
      have := hat j (by omega)
      rw [hC] at this
      rw [← Go.Deep.add_add, this, hj]
    obtain ⟨xs, hxl, hq⟩ := list_of _ len key
    unfold maxLen at hm
    subst hxl
    refine ⟨xs, ⟨some a, cap, rfl, hl, rfl, by omega, fun _ => ⟨a, rfl, fun j p hj => (hq j p hj).1⟩⟩, by omega, fun y hy => ?_⟩
    obtain ⟨j, hj⟩ := List.getElem?_of_mem hy
    exact (hq j y hj).2
end Go.Proofs.Ytnhkamfccoppbaa.QOpen
