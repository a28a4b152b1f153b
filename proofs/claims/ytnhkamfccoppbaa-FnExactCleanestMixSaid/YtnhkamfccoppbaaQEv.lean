/- Words of this session for the pure proofs: what comes of a function with rounds, tests, calls and lists. Conditions: none. -/
import Derived.Test.YtnhkamfccoppbaaWWords
import Derived.Test.YtnhkamfccoppbaaQOpen
namespace Go.Proofs.Ytnhkamfccoppbaa.QEv
open Go.RowKit Go.Proofs.YtnhkamfccoppbaaW.PrintWords Go.Proofs.Ytnhkamfccoppbaa.QOpen
theorem wid {n : Int} (h0 : -9223372036854775808 ≤ n) (h1 : n ≤ 9223372036854775807) : wrap64 n = n := by
  unfold wrap64
  omega
theorem wnat (i : Nat) (h : i < 9223372036854775807) : wrap64 ((i : Int) + 1) = ((i + 1 : Nat) : Int) := by
  rw [wid (by omega) (by omega)]
  omega
section
variable {α β : Type}
theorem Ev.succ {g : Nat → Option α} {r : α} (h : Ev (fun k => g (k + 1)) r) : Ev g r := by
  obtain ⟨K, hK⟩ := h
  refine ⟨K + 1, fun k hk => ?_⟩
  obtain ⟨m, rfl⟩ : ∃ m, k = m + 1 := ⟨k - 1, by omega⟩
  exact hK m (by omega)
theorem Ev.pos {c : Prop} [Decidable c] {A B : Nat → Option α} {r : α} (hc : c) (h : Ev A r) : Ev (fun k => if c then A k else B k) r := by
  obtain ⟨K, hK⟩ := h
  exact ⟨K, fun k hk => (if_pos hc).trans (hK k hk)⟩
theorem Ev.neg {c : Prop} [Decidable c] {A B : Nat → Option α} {r : α} (hc : ¬ c) (h : Ev B r) : Ev (fun k => if c then A k else B k) r := by
  obtain ⟨K, hK⟩ := h
  exact ⟨K, fun k hk => (if_neg hc).trans (hK k hk)⟩
theorem Ev.ite {c : Prop} [Decidable c] {A B : Nat → Option α} {r : α} (hp : c → Ev A r) (hn : ¬ c → Ev B r) : Ev (fun k => if c then A k else B k) r := by
  by_cases h : c
  · exact Ev.pos h (hp h)
  · exact Ev.neg h (hn h)
theorem Ev.sb {a : α} {f : Nat → α → Option β} {r : β} (h : Ev (fun k => f k a) r) : Ev (fun k => (some a).bind (f k)) r := h
theorem Ev.eqn {g : Nat → Option α} {r s : α} (h : Ev g r) (e : r = s) : Ev g s := e ▸ h
theorem Ev.lit {o : Option α} {r : α} (h : o = some r) : Ev (fun _ => o) r := ⟨0, fun _ _ => h⟩
theorem Ev.uniq {g : Nat → Option α} {r s : α} (h : Ev g r) (h' : Ev g s) : r = s := by
  obtain ⟨K, hK⟩ := h
  obtain ⟨L, hL⟩ := h'
  have a := hK (K + L) (by omega)
  have b := hL (K + L) (by omega)
  rw [a] at b
  exact Option.some.inj b
theorem Ev.shift {g : Nat → Option α} {r : α} (h : Ev g r) : Ev (fun k => g (k + 1)) r := by
  obtain ⟨K, hK⟩ := h
  exact ⟨K, fun k hk => hK (k + 1) (by omega)⟩
theorem getD_set (xs : List α) (i j : Nat) (v d : α) (h : i < xs.length) : (xs.set i v).getD j d = if j = i then v else xs.getD j d := by
  simp only [List.getD_eq_getElem?_getD]
  by_cases e : j = i
  · subst e
    rw [if_pos rfl, List.getElem?_set_self h]
    rfl
  · rw [if_neg e, List.getElem?_set_ne (Ne.symm e)]
theorem getD_at (xs : List α) (j : Nat) (d : α) (h : j < xs.length) : xs.getD j d = xs[j] := by
  rw [List.getD_eq_getElem?_getD, List.getElem?_eq_getElem h]
  rfl
theorem ext_getD (d : α) {xs ys : List α} (hl : xs.length = ys.length) (h : ∀ j, j < xs.length → xs.getD j d = ys.getD j d) : xs = ys := by
  apply List.ext_getElem hl
  intro j h1 h2
  have := h j h1
  rwa [getD_at _ _ _ h1, getD_at _ _ _ h2] at this
theorem drop_step (l : List α) (i : Nat) (d : α) (h : i < l.length) : l.drop i = l.getD i d :: l.drop (i + 1) := by
  rw [List.drop_eq_getElem_cons h, getD_at _ _ _ h]
theorem drop_end (l : List α) (i : Nat) (h : i + 0 = l.length) : l.drop i = [] := List.drop_of_length_le (by omega)
theorem getD_map (f : α → β) (xs : List α) (j : Nat) (d : α) (e : β) (h : j < xs.length) : (xs.map f).getD j e = f (xs.getD j d) := by
  rw [getD_at _ _ _ (by simpa using h), getD_at _ _ _ h, List.getElem_map]
theorem getD_mem (xs : List α) (j : Nat) (d : α) (h : j < xs.length) : xs.getD j d ∈ xs := by
  rw [getD_at _ _ _ h]
  exact List.getElem_mem h
theorem wfL_get {wf : α → Prop} {l : List α} (h : wfL wf l) {j : Nat} (d : α) (hj : j < l.length) : wf (l.getD j d) := h.2 _ (getD_mem l j d hj)
end
def smT {α : Type} (_ : α) : Prop := True
def smS (s : ByteArray) : Prop := s.size ≤ 1048576
def smL {α : Type} (sm : α → Prop) (l : List α) : Prop := l.length ≤ 1048576 ∧ ∀ x ∈ l, sm x
theorem smL_get {α : Type} {sm : α → Prop} {l : List α} (h : smL sm l) {j : Nat} (d : α) (hj : j < l.length) : sm (l.getD j d) := h.2 _ (getD_mem l j d hj)
theorem smL_map {α β : Type} {sm : α → Prop} {sm' : β → Prop} {l : List α} (f : α → β) (hf : ∀ x, sm x → sm' (f x)) (h : smL sm l) : smL sm' (l.map f) := by
  refine ⟨by simpa using h.1, fun y hy => ?_⟩
  obtain ⟨x, hx, rfl⟩ := List.mem_map.1 hy
  exact hf x (h.2 x hx)
theorem smL_of {α : Type} {sm : α → Prop} {l : List α} (d : α) (h0 : l.length ≤ 1048576) (h : ∀ j, j < l.length → sm (l.getD j d)) : smL sm l := by
  refine ⟨h0, fun x hx => ?_⟩
  obtain ⟨j, hj, e⟩ := List.getElem_of_mem hx
  have := h j hj
  rwa [getD_at _ _ _ hj, e] at this
theorem toList_data (s : ByteArray) : s.toList = s.data.toList := ByteArray.toList_eq s
theorem toList_size (s : ByteArray) : s.toList.length = s.size := by
  rw [toList_data]
  rfl
theorem bytes_ext {s t : ByteArray} (h : s.toList = t.toList) : s = t := by
  rw [toList_data, toList_data] at h
  cases s; cases t
  congr 1
  exact Array.toList_inj.mp h
theorem strOne (c : Int) : (strOfNums [c]).size = 1 := rfl
end Go.Proofs.Ytnhkamfccoppbaa.QEv
