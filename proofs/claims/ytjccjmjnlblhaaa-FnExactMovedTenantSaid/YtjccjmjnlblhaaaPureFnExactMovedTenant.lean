/- FnExactMovedTenant: the program's MovedTenant and the reference's return one and the same for all arguments, and the tenants stay as they were. Conditions: none beyond the statement's own guard. -/
import Derived.Test.YtjccjmjnlblhaaaQMovedTenantx1
import Derived.Test.YtjccjmjnlblhaaaQMovedTenantx2
import Derived.Test.YtjccjmjnlblhaaaQMovedTenantx3
import Derived.Test.YtjccjmjnlblhaaaQMovedTenantx4
import Derived.Test.YtjccjmjnlblhaaaQMovedTenantx5
import Derived.Test.YtjccjmjnlblhaaaQMovedTenantx6
import Derived.Test.YtjccjmjnlblhaaaQMovedTenantx7
import Derived.Test.YtjccjmjnlblhaaaQMovedTenantx8
import Derived.Test.YtjccjmjnlblhaaaQMovedTenantx9
import Derived.Test.YtjccjmjnlblhaaaQMovedTenantx12
import Derived.Test.YtjccjmjnlblhaaaQMovedTenantxL
import Derived.Test.YtjccjmjnlblhaaaQMovedTenantxDCut
import Derived.Test.YtjccjmjnlblhaaaQMovedTenantxDLessC
import Derived.Test.YtjccjmjnlblhaaaQMovedTenantxDTenantsS
import Derived.Test.YtjccjmjnlblhaaaQMovedTenantxDDiv
namespace Go.Proofs.Ytjccjmjnlblhaaa.Pure
open Go.RowKit Go.Proofs.Ytjccjmjnlblhaaa.QMovedTenant Go.Proofs.YtjccjmjnlblhaaaW.PrintWords Go.Proofs.Ytjccjmjnlblhaaa.QOpen Go.Proofs.Ytjccjmjnlblhaaa.QEv
set_option linter.unusedVariables false
set_option linter.unusedSimpArgs false
def nm (l : List S129) (j : Nat) : List UInt8 := (l.getD j z129).f0.toList
theorem findLoop (l : List S129) (hl : l.length ≤ 1048576) (a : ByteArray) : ∀ d i : Nat, i + d = l.length →
    ∃ t : Int, Ev (fun k => spec_l22Find.l0 k l a (i : Int)) t ∧ Ev (fun k => slices_IndexFunc_Tenant.l0 k l (l.length : Int) (i : Int) a) t ∧ ((t < 0 ∧ ∀ j, i ≤ j → j < l.length → nm l j ≠ a.toList) ∨ ∃ j : Nat, t = (j : Int) ∧ j < l.length ∧ nm l j = a.toList) := by
  intro d
  induction d with
  | zero =>
    intro i hi
    refine ⟨-1, Ev.succ ?_, Ev.succ ?_, Or.inl ⟨by omega, fun j h1 h2 => absurd h1 (by omega)⟩⟩
    · simp only [spec_l22Find.l0]
      exact Ev.neg (by omega) (Ev.now _)
    · simp only [slices_IndexFunc_Tenant.l0]
      exact Ev.neg (by omega) (Ev.now _)
  | succ d ih =>
    intro i hi
    by_cases c : (rd_T129 l (i : Int)).f0.toList = a.toList
    · refine ⟨(i : Int), Ev.succ ?_, Ev.succ ?_, Or.inr ⟨i, rfl, by omega, c⟩⟩
      · simp only [spec_l22Find.l0]
        repeat' first | (with_reducible exact Ev.now _) | ((with_reducible refine Ev.pos ?_ ?_); focus (first | with_reducible assumption | with_reducible rfl | omega | rfl | trivial)) | ((with_reducible refine Ev.neg ?_ ?_); focus (first | with_reducible assumption | omega | (simp; done) | (dsimp only; omega))) | (with_reducible refine Ev.sb ?_) | dsimp only
      · simp only [slices_IndexFunc_Tenant.l0, impl_tenantAt_1.f, beq_iff_eq, Option.bind_some]
        repeat' first | (with_reducible exact Ev.now _) | ((with_reducible refine Ev.pos ?_ ?_); focus (first | with_reducible assumption | with_reducible rfl | omega | rfl | trivial)) | ((with_reducible refine Ev.neg ?_ ?_); focus (first | with_reducible assumption | omega | (simp; done) | (dsimp only; omega))) | (with_reducible refine Ev.sb ?_) | dsimp only
    · obtain ⟨t, h1, h2, h3⟩ := ih (i + 1) (by omega)
      refine ⟨t, Ev.succ ?_, Ev.succ ?_, ?_⟩
      · simp only [spec_l22Find.l0, wnat i (by omega)]
        repeat' first | (with_reducible exact Ev.now _) | (with_reducible exact h1) | ((with_reducible refine Ev.pos ?_ ?_); focus (first | with_reducible assumption | with_reducible rfl | omega | rfl | trivial)) | ((with_reducible refine Ev.neg ?_ ?_); focus (first | with_reducible assumption | omega | (simp; done) | (dsimp only; omega))) | (with_reducible refine Ev.bind h1 ?_) | (with_reducible refine Ev.bind (Ev.shift h1) ?_) | (with_reducible refine Ev.sb ?_) | dsimp only
      · simp only [slices_IndexFunc_Tenant.l0, impl_tenantAt_1.f, beq_iff_eq, Option.bind_some, wnat i (by omega)]
        repeat' first | (with_reducible exact Ev.now _) | (with_reducible exact h2) | ((with_reducible refine Ev.pos ?_ ?_); focus (first | with_reducible assumption | with_reducible rfl | omega | rfl | trivial)) | ((with_reducible refine Ev.neg ?_ ?_); focus (first | with_reducible assumption | omega | (simp; done) | (dsimp only; omega))) | (with_reducible refine Ev.bind h2 ?_) | (with_reducible refine Ev.bind (Ev.shift h2) ?_) | (with_reducible refine Ev.sb ?_) | dsimp only
      · rcases h3 with ⟨h3, h4⟩ | h3
        · refine Or.inl ⟨h3, fun j hj hj2 => ?_⟩
          by_cases e : j = i
          · subst e; exact c
          · exact h4 j (by omega) hj2
        · exact Or.inr h3
theorem find_both (l : List S129) (hl : l.length ≤ 1048576) (a : ByteArray) : ∃ t : Int, Ev (fun k => spec_l22Find.f k l a) t ∧ Ev (fun k => impl_tenantAt.f k l a) t ∧ ((t < 0 ∧ ∀ j, j < l.length → nm l j ≠ a.toList) ∨ ∃ j : Nat, t = (j : Int) ∧ j < l.length ∧ nm l j = a.toList) := by
  obtain ⟨t, h1, h2, h3⟩ := findLoop l hl a l.length 0 (by omega)
  refine ⟨t, by simp only [spec_l22Find.f]; exact h1, ?_, ?_⟩
  · simp only [impl_tenantAt.f, slices_IndexFunc_Tenant.f]
    exact Ev.bind h2 (Ev.now _)
  · rcases h3 with ⟨h3, h4⟩ | h3
    · exact Or.inl ⟨h3, fun j hj => h4 j (by omega) hj⟩
    · exact Or.inr h3
theorem nm_less (l : List S129) (h : ∀ j, j < l.length → TenantAt l j) : ∀ d i : Nat, i + d + 1 < l.length → Op.bytesLess (nm l i) (nm l (i + d + 1)) = true := by
  intro d
  induction d with
  | zero =>
    intro i hi
    have a := (h (i + 0 + 1) hi).2.2 (by omega)
    exact a
  | succ d ih =>
    intro i hi
    have a := ih i (by omega)
    have b := (h (i + (d + 1) + 1) hi).2.2 (by omega)
    exact less_trans _ _ _ a b
def Bef (l : List S129) (y : ByteArray) (j : Nat) : Prop := Op.bytesLess (nm l j) y.toList = true
theorem bef_cut (l m : List S129) (h : ∀ j, j < l.length → TenantAt l j) (hm : m.length = l.length) (hnm : ∀ j, nm m j = nm l j) (y : ByteArray) : ∃ c, IsCut (Bef m y) m.length c :=
  cut_ex _ _ fun i j hi hj hp => by
    unfold Bef at *
    rw [hnm] at hp ⊢
    by_cases e : i = j
    · subst e; exact hp
    · have a := nm_less l h (j - i - 1) i (by omega)
      rw [show i + (j - i - 1) + 1 = j by omega] at a
      exact less_trans _ _ _ a hp
theorem cmpT (a : ByteArray) (b c : Int) (x : ByteArray) (y z : Int) : impl_MovedTenant_1.f a b c x y z = some (if Op.bytesLess a.toList x.toList = true then -1 else if Op.bytesLess x.toList a.toList = true then 1 else 0) := by
  simp only [impl_MovedTenant_1.f, comp_eq, Option.bind_some]
theorem binLoop (l : List S129) (hn : l.length ≤ 1000) (x : ByteArray) (y z : Int) (c : Nat) (hc : IsCut (Bef l x) l.length c) : ∀ d lo hi : Nat, hi - lo ≤ d → lo ≤ c → c ≤ hi → hi ≤ l.length →
    ∃ bb : Bool, Ev (fun k => slices_BinarySearchFunc_Tenant.l0 k l (l.length : Int) (lo : Int) (hi : Int) x y z) ((c : Int), bb) := by
  have stop : ∀ lo hi : Nat, ¬ lo < hi → lo ≤ c → c ≤ hi → ∃ bb : Bool, Ev (fun k => slices_BinarySearchFunc_Tenant.l0 k l (l.length : Int) (lo : Int) (hi : Int) x y z) ((c : Int), bb) := by
    intro lo hi h0 h1 h2
    have e1 : lo = c := by omega
    have e2 : hi = c := by omega
    subst e1
    rw [e2]
    by_cases h : lo < l.length
    · refine ⟨((if Op.bytesLess (rd_T129 l (lo : Int)).f0.toList x.toList = true then -1 else if Op.bytesLess x.toList (rd_T129 l (lo : Int)).f0.toList = true then 1 else 0 : Int) == 0), Ev.succ ?_⟩
      simp only [slices_BinarySearchFunc_Tenant.l0, cmpT, Option.bind_some]
      exact Ev.neg (by omega) (Ev.pos (by omega) (Ev.pos (by omega) (Ev.pos (by omega) (Ev.now _))))
    · refine ⟨false, Ev.succ ?_⟩
      simp only [slices_BinarySearchFunc_Tenant.l0, cmpT, Option.bind_some]
      exact Ev.neg (by omega) (Ev.neg (by omega) (Ev.now _))
  intro d
  induction d with
  | zero =>
    intro lo hi h0 h1 h2 h3
    exact stop lo hi (by omega) h1 h2
  | succ d ih =>
    intro lo hi h0 h1 h2 h3
    by_cases h : lo < hi
    · have em := mid_eq lo hi (by omega)
      by_cases hp : Op.bytesLess (nm l ((lo + hi) / 2)) x.toList = true
      · have hm : (lo + hi) / 2 < c := by
          by_cases g : (lo + hi) / 2 < c
          · exact g
          · exact absurd hp (hc.2.2 _ (by omega) (by omega))
        obtain ⟨bb, hb⟩ := ih ((lo + hi) / 2 + 1) hi (by omega) (by omega) h2 h3
        refine ⟨bb, Ev.succ ?_⟩
        have hp' : Op.bytesLess (rd_T129 l (((lo + hi) / 2 : Nat) : Int)).f0.toList x.toList = true := hp
        simp only [slices_BinarySearchFunc_Tenant.l0, em, cmpT, Option.bind_some, hp', if_true, wnat ((lo + hi) / 2) (by omega)]
        exact Ev.pos (by omega) (Ev.pos (by omega) (Ev.pos (by omega) (Ev.pos (by decide) hb)))
      · have hm : c ≤ (lo + hi) / 2 := by
          by_cases g : c ≤ (lo + hi) / 2
          · exact g
          · exact absurd (hc.2.1 _ (by omega)) hp
        obtain ⟨bb, hb⟩ := ih lo ((lo + hi) / 2) (by omega) h1 hm (by omega)
        refine ⟨bb, Ev.succ ?_⟩
        have hp' : ¬ Op.bytesLess (rd_T129 l (((lo + hi) / 2 : Nat) : Int)).f0.toList x.toList = true := hp
        simp only [slices_BinarySearchFunc_Tenant.l0, em, cmpT, Option.bind_some, if_neg hp']
        exact Ev.pos (by omega) (Ev.pos (by omega) (Ev.pos (by omega) (Ev.neg (by split <;> decide) hb)))
    · exact stop lo hi h h1 h2
def check (o : List S129) (k : Nat) : Option (List S129 × Int) := (spec_l22Ok.f k o).bind fun t => if t = true then some (o, 0) else some (([] : List S129), 6)
theorem drop_cons (m : List S129) (i : Nat) (h : i < m.length) : m.drop i = m.getD i z129 :: m.drop (i + 1) := by
  rw [getD_at m i _ h]
  exact List.drop_eq_getElem_cons h
section loops
variable (l m : List S129) (hn : l.length ≤ 1000) (hm : m.length = l.length) (at_ : Nat) (x y : S129) (hx : ∀ i, i < l.length → m.getD i z129 = if i = at_ then x else l.getD i z129)
include hn hm hx
theorem doneLoop : ∀ (d i : Nat) (out : List S129) (r : List S129 × Int), i + d = l.length → out.length ≤ 2 * i + 2 → Ev (fun k => check (out ++ m.drop i) k) r →
    Ev (fun k => spec_MovedTenant.l0 k l (at_ : Int) out true (i : Int) x.f0 x.f1 x.f2 y.f0 y.f1 y.f2) r := by
  intro d
  induction d with
  | zero =>
    intro i out r hi ho h
    rw [List.drop_eq_nil_of_le (by omega), List.append_nil] at h
    refine Ev.succ ?_
    simp only [spec_MovedTenant.l0]
    exact Ev.neg (by omega) (Ev.pos (by first | rfl | trivial) h)
  | succ d ih =>
    intro i out r hi ho h
    rw [drop_cons m i (by omega), show out ++ m.getD i z129 :: m.drop (i + 1) = (out ++ [m.getD i z129]) ++ m.drop (i + 1) by simp, hx i (by omega)] at h
    have g := ih (i + 1) _ r (by omega) (by simp; omega) h
    refine Ev.succ ?_
    simp only [spec_MovedTenant.l0]
    refine Ev.pos (by omega) (Ev.pos (by first | rfl | trivial) (Ev.succ ?_))
    simp only [spec_MovedTenant.j2, wnat i (by omega)]
    by_cases e : i = at_
    · rw [if_pos e] at g
      exact Ev.neg (by decide) (Ev.pos (by omega) (Ev.pos (by omega) g))
    · rw [if_neg e] at g
      exact Ev.neg (by decide) (Ev.neg (by omega) (Ev.pos (by omega) (Ev.pos (by omega) (Ev.pos (by omega) g))))
theorem restLoop (c : Nat) (hc : c ≤ l.length) (h1 : ∀ j, j < c → Op.bytesLess y.f0.toList (nm l j) = false) (h2 : c < l.length → Op.bytesLess y.f0.toList (nm l c) = true) : ∀ (d i : Nat) (out : List S129) (r : List S129 × Int), i + d = c → out = m.take i → Ev (fun k => check (m.take c ++ [y] ++ m.drop c) k) r →
    Ev (fun k => spec_MovedTenant.l0 k l (at_ : Int) out false (i : Int) x.f0 x.f1 x.f2 y.f0 y.f1 y.f2) r := by
  intro d
  induction d with
  | zero =>
    intro i out r hi ho h
    have e : i = c := by omega
    subst e
    have lo : out.length = i := by rw [ho, List.length_take]; omega
    rw [← ho] at h
    by_cases g : i < l.length
    · have t := h2 g
      rw [drop_cons m i (by omega), show out ++ [y] ++ m.getD i z129 :: m.drop (i + 1) = (out ++ [y] ++ [m.getD i z129]) ++ m.drop (i + 1) by simp, hx i (by omega)] at h
      have q := doneLoop l m hn hm at_ x y hx (l.length - (i + 1)) (i + 1) _ r (by omega) (by simp; omega) h
      refine Ev.succ ?_
      have t' : Op.bytesLess y.f0.toList ((rd_T129 l (i : Int)).f0).toList = true := t
      simp only [spec_MovedTenant.l0, t']
      refine Ev.pos (by omega) (Ev.neg (by decide) (Ev.pos (by omega) (Ev.succ ?_)))
      simp only [spec_MovedTenant.j2, wnat i (by omega), Option.bind_some]
      by_cases e : i = at_
      · rw [if_pos e] at q
        exact Ev.pos (by first | rfl | trivial) (Ev.pos (by omega) (Ev.pos (by omega) (Ev.pos (by simp; omega) q)))
      · rw [if_neg e] at q
        exact Ev.pos (by first | rfl | trivial) (Ev.pos (by omega) (Ev.neg (by omega) (Ev.pos (by omega) (Ev.pos (by omega) (Ev.pos (by simp; omega) q)))))
    · rw [List.drop_eq_nil_of_le (by omega), List.append_nil] at h
      refine Ev.succ ?_
      simp only [spec_MovedTenant.l0, Option.bind_some]
      exact Ev.neg (by omega) (Ev.neg (by decide) (Ev.pos (by omega) h))
  | succ d ih =>
    intro i out r hi ho h
    have lo : out.length = i := by rw [ho, List.length_take]; omega
    have t := h1 i (by omega)
    have g := ih (i + 1) (out ++ [m.getD i z129]) r (by omega) (by rw [ho, getD_at m i _ (by omega)]; exact (List.take_succ_eq_append_getElem (by omega)).symm) h
    rw [hx i (by omega)] at g
    refine Ev.succ ?_
    have t' : Op.bytesLess y.f0.toList ((rd_T129 l (i : Int)).f0).toList = false := t
    simp only [spec_MovedTenant.l0, t']
    refine Ev.pos (by omega) (Ev.neg (by decide) (Ev.pos (by omega) (Ev.succ ?_)))
    simp only [spec_MovedTenant.j2, wnat i (by omega)]
    by_cases e : i = at_
    · rw [if_pos e] at g
      exact Ev.neg (by decide) (Ev.pos (by omega) (Ev.pos (by omega) g))
    · rw [if_neg e] at g
      exact Ev.neg (by decide) (Ev.neg (by omega) (Ev.pos (by omega) (Ev.pos (by omega) (Ev.pos (by omega) g))))
end loops
theorem moved_end (l : List S129) (hl : smL sm129 l) (hn : l.length ≤ 12) (hp : ∀ j, j < l.length → TenantAt l j) (a : ByteArray) (b c : Int) (hc : 365 ≤ c ∧ c ≤ 366) (hb : 0 ≤ b ∧ b ≤ c) :
    ∃ (r : List S129) (e : Int), (Ev (fun k => spec_MovedTenant.j0 k l a b c false) (r, e)) ∧ (∀ t, Ev (fun k => impl_tenantAt.f k l a) t → Ev (fun k => impl_MovedTenant.j0 k l a b c t false) (r, e)) ∧ r.length ≤ 13 := by
  obtain ⟨t, f1, f2, f3⟩ := find_both l hl.1 a
  have look : ∀ (r : List S129) (e : Int), Ev (fun k => impl_MovedTenant.j0 k l a b c t false) (r, e) → ∀ t', Ev (fun k => impl_tenantAt.f k l a) t' → Ev (fun k => impl_MovedTenant.j0 k l a b c t' false) (r, e) := by
    intro r e h t' h'
    rw [Ev.uniq h' f2]
    exact h
  rcases f3 with ⟨f3, _⟩ | ⟨j, rfl, hj, hnj⟩
  · refine ⟨[], 3, Ev.succ ?_, look _ _ (Ev.succ ?_), by simp⟩
    · simp only [spec_MovedTenant.j0]
      exact Ev.neg (by decide) (Ev.bind f1 (Ev.pos f3 (Ev.now _)))
    · simp only [impl_MovedTenant.j0]
      exact Ev.neg (by decide) (Ev.pos f3 (Ev.now _))
  have oj := hp j hj
  have sz : a.size = (l.getD j z129).f0.size := by
    have h := congrArg List.length hnj
    rw [toList_size] at h
    unfold nm at h
    rw [toList_size] at h
    omega
  have sz1 := oj.2.1
  have zb : (⟨#[98]⟩ : ByteArray).size = 1 := rfl
  have sa : (a ++ (⟨#[98]⟩ : ByteArray)).size = a.size + 1 := by rw [ByteArray.size_append, zb]
  obtain ⟨nb, enb⟩ : ∃ nb, nb = a ++ (⟨#[98]⟩ : ByteArray) := ⟨_, rfl⟩
  obtain ⟨t2, g1, g2, g3⟩ := find_both l hl.1 nb
  rcases g3 with ⟨g3, g4⟩ | ⟨j2, rfl, hj2, _⟩
  rotate_left
  · refine ⟨[], 4, Ev.succ ?_, look _ _ (Ev.succ ?_), by simp⟩
    · simp only [spec_MovedTenant.j0, ← enb]
      exact Ev.neg (by decide) (Ev.bind f1 (Ev.neg (by omega) (Ev.pos (by omega) (Ev.bind g1 (Ev.pos (by omega) (Ev.now _))))))
    · simp only [impl_MovedTenant.j0, ← enb]
      exact Ev.neg (by decide) (Ev.neg (by omega) (Ev.pos (by omega) (Ev.bind g2 (Ev.pos (by omega) (Ev.now _)))))
  by_cases h12 : l.length = 12
  · refine ⟨[], 5, Ev.succ ?_, look _ _ (Ev.succ ?_), by simp⟩
    · simp only [spec_MovedTenant.j0, ← enb]
      exact Ev.neg (by decide) (Ev.bind f1 (Ev.neg (by omega) (Ev.pos (by omega) (Ev.bind g1 (Ev.neg (by omega) (Ev.pos (by omega) (Ev.now _)))))))
    · simp only [impl_MovedTenant.j0, ← enb]
      exact Ev.neg (by decide) (Ev.neg (by omega) (Ev.pos (by omega) (Ev.bind g2 (Ev.neg (by omega) (Ev.pos (by omega) (Ev.now _))))))
  obtain ⟨v, hv⟩ : ∃ v, v = l.getD j z129 := ⟨_, rfl⟩
  have erd : rd_T129 l (j : Int) = v := hv.symm
  have ov := oj.1
  rw [← hv] at ov sz sz1
  unfold TenantOk at ov
  have p0 : 0 ≤ v.f2 * b := Int.mul_nonneg ov.2.2.1 hb.1
  have p1 : v.f2 * b ≤ 1000000 * 366 := Int.mul_le_mul ov.2.2.2 (by omega) hb.1 (by omega)
  have ew : wrap64 (v.f2 * b) = v.f2 * b := wid (by omega) (by omega)
  obtain ⟨q, hq⟩ : ∃ q, q = (2 * (v.f2 * b) + c) / (2 * c) := ⟨_, rfl⟩
  have d1 : spec_l01Div.f (v.f2 * b) c = some q := by rw [hq]; exact l01Div_eq _ _ p0 (by omega) (by omega) (by omega)
  have d2 : impl_divRound.f (v.f2 * b) c = some q := by rw [hq]; exact divRound_eq _ _ p0 (by omega) (by omega) (by omega)
  obtain ⟨x, hx⟩ : ∃ x, x = (⟨v.f0, v.f1, q⟩ : S129) := ⟨_, rfl⟩
  obtain ⟨y, hy⟩ : ∃ y, y = (⟨nb, v.f1, wrap64 (v.f2 - q)⟩ : S129) := ⟨_, rfl⟩
  obtain ⟨m, hmm⟩ : ∃ m, m = l.set j x := ⟨_, rfl⟩
  have lm : m.length = l.length := by rw [hmm]; exact List.length_set
  have gm : ∀ i, i < l.length → m.getD i z129 = if i = j then x else l.getD i z129 := fun i hi => by rw [hmm]; exact getD_set l j i x _ hj
  have hnm : ∀ i, nm m i = nm l i := by
    intro i
    by_cases hi : i < l.length
    · unfold nm
      rw [gm i hi]
      by_cases e : i = j
      · rw [if_pos e, e, hx, hv]
      · rw [if_neg e]
    · unfold nm
      rw [List.getD_eq_getElem?_getD, List.getElem?_eq_none (by omega), List.getD_eq_getElem?_getD, List.getElem?_eq_none (by omega)]
  obtain ⟨cut, hcut⟩ := bef_cut l m hp lm hnm nb
  have hcn := hcut.1
  obtain ⟨res, hres⟩ : ∃ res, res = m.take cut ++ [y] ++ m.drop cut := ⟨_, rfl⟩
  have lr : res.length = l.length + 1 := by
    rw [hres]
    simp only [List.length_append, List.length_take, List.length_drop, List.length_cons, List.length_nil]
    omega
  have smx : sm129 x := by rw [hx]; exact ⟨by show v.f0.size ≤ 1048576; omega, trivial, trivial⟩
  have smy : sm129 y := by rw [hy]; exact ⟨by show nb.size ≤ 1048576; rw [enb]; omega, trivial, trivial⟩
  have smm : ∀ w ∈ m, sm129 w := by
    intro w hw
    rw [hmm] at hw
    rcases List.mem_or_eq_of_mem_set hw with h | h
    · exact hl.2 w h
    · rw [h]; exact smx
  have smr : smL sm129 res := by
    refine ⟨by omega, fun w hw => ?_⟩
    rw [hres] at hw
    simp only [List.mem_append, List.mem_singleton] at hw
    rcases hw with (h | h) | h
    · exact smm w (List.mem_of_mem_take h)
    · rw [h]; exact smy
    · exact smm w (List.mem_of_mem_drop h)
  obtain ⟨b2, v1, v2, _⟩ := tenants_bothS res smr
  obtain ⟨bb, hbin⟩ := binLoop m (by omega) nb v.f1 (wrap64 (v.f2 - q)) cut hcut m.length 0 m.length (by omega) (by omega) hcut.1 (Nat.le_refl _)
  have hcl : slices_Clone_Tenant.f l = some l := by
    simp only [slices_Clone_Tenant.f, Option.bind_some, List.nil_append, List.length_nil]
    rw [if_pos (by omega)]
  have hin : slices_Insert_Tenant.f m (cut : Int) [y] = some res := by
    rw [slices_Insert_Tenant.f, if_pos ⟨by omega, by omega, rfl, by omega⟩, Int.toNat_natCast, hres]
  have c1 : ∀ i, i < cut → Op.bytesLess y.f0.toList (nm l i) = false := by
    intro i hi
    have h := hcut.2.1 i hi
    unfold Bef at h
    rw [hnm] at h
    rw [hy]
    exact less_asymm h
  have c2 : cut < l.length → Op.bytesLess y.f0.toList (nm l cut) = true := by
    intro hi
    have h := hcut.2.2 cut (Nat.le_refl _) (by omega)
    unfold Bef at h
    rw [hnm] at h
    rw [hy]
    show Op.bytesLess nb.toList (nm l cut) = true
    cases e : Op.bytesLess nb.toList (nm l cut) with
    | true => rfl
    | false => exact absurd (less_eq (by simpa using h) e) (g4 cut hi)
  have S : ∀ r : List S129 × Int, Ev (fun k => check res k) r → Ev (fun k => spec_MovedTenant.j0 k l a b c false) r := by
    intro r hr
    rw [hres] at hr
    have h := restLoop l m (by omega) lm j x y gm cut (by omega) c1 c2 cut 0 [] r (by omega) rfl hr
    rw [hx, hy] at h
    refine Ev.succ ?_
    simp only [spec_MovedTenant.j0, ← enb]
    refine Ev.neg (by decide) (Ev.bind f1 (Ev.neg (by omega) (Ev.pos (by omega) (Ev.bind g1 (Ev.neg (by omega) (Ev.neg (by omega) (Ev.pos (by omega) (Ev.pos (by omega) ?_))))))))
    simp only [erd, ew, d1, Option.bind_some]
    exact h
  have I : ∀ r : List S129 × Int, Ev (fun k => (impl_ValidTenants.f k res).bind fun t => if t = true then some (res, 0) else some (([] : List S129), 6)) r → Ev (fun k => impl_MovedTenant.j0 k l a b c (j : Int) false) r := by
    intro r hr
    refine Ev.succ ?_
    have hbin2 : Ev (fun k => slices_BinarySearchFunc_Tenant.f k m nb v.f1 (wrap64 (v.f2 - q))) ((cut : Int), bb) := hbin
    simp only [impl_MovedTenant.j0, ← enb, hcl, erd, ew, d2, Option.bind_some, Int.toNat_natCast, ← hx, ← hy, ← hmm]
    exact Ev.neg (by decide) (Ev.neg (by omega) (Ev.pos (by omega) (Ev.bind g2 (Ev.neg (by omega) (Ev.neg (by omega) (Ev.pos (by omega) (Ev.pos (by omega) (Ev.bind hbin2 (Ev.bind (Ev.lit hin) hr)))))))))
  cases b2 with
  | true => exact ⟨res, 0, S _ (Ev.bind v1 (Ev.pos rfl (Ev.now _))), look _ _ (I _ (Ev.bind v2 (Ev.pos rfl (Ev.now _)))), by omega⟩
  | false => exact ⟨[], 6, S _ (Ev.bind v1 (Ev.neg (by decide) (Ev.now _))), look _ _ (I _ (Ev.bind v2 (Ev.neg (by decide) (Ev.now _)))), by simp⟩
theorem moved_both (l : List S129) (hl : smL sm129 l) (a : ByteArray) (b c : Int) : ∃ (r : List S129) (e : Int), Ev (fun k => spec_MovedTenant.f k l a b c) (r, e) ∧ Ev (fun k => impl_MovedTenant.f k l a b c) (r, e) ∧ r.length ≤ 13 := by
  obtain ⟨v, g1, g2, g3⟩ := tenants_bothS l hl
  obtain ⟨t, f1, f2, f3⟩ := find_both l hl.1 a
  simp only [spec_MovedTenant.f, impl_MovedTenant.f, spec_in_eq, impl_within_eq, Option.bind_some, decide_eq_true_eq]
  cases v with
  | false => exact ⟨[], 1, Ev.bind g1 (Ev.neg (by decide) (Ev.now _)), Ev.bind f2 (Ev.bind g2 (Ev.neg (by decide) (Ev.now _))), by simp⟩
  | true =>
    obtain ⟨hn, hp⟩ := g3 rfl
    have bad : ∃ (r : List S129) (e : Int), Ev (fun k => spec_MovedTenant.j0 k l a b c true) (r, e) ∧ Ev (fun k => impl_MovedTenant.j0 k l a b c t true) (r, e) ∧ r.length ≤ 13 := by
      refine ⟨[], 2, Ev.succ ?_, Ev.succ ?_, by simp⟩
      · simp only [spec_MovedTenant.j0]
        exact Ev.pos (by first | rfl | trivial) (Ev.now _)
      · simp only [impl_MovedTenant.j0]
        exact Ev.pos (by first | rfl | trivial) (Ev.now _)
    by_cases hc : 365 ≤ c ∧ c ≤ 366
    · by_cases hb : 0 ≤ b ∧ b ≤ c
      · obtain ⟨r, e, s1, s2, s3⟩ := moved_end l hl hn hp a b c hc hb
        refine ⟨r, e, Ev.bind g1 (Ev.pos rfl (Ev.pos hc ?_)), Ev.bind f2 (Ev.bind g2 (Ev.pos rfl ?_)), s3⟩
        · rw [decide_eq_true hb]
          exact s1
        · by_cases h5 : c = 365
          · refine Ev.pos h5 ?_
            rw [decide_eq_true hb]
            exact s2 t f2
          · refine Ev.neg h5 (Ev.pos (by omega) ?_)
            rw [decide_eq_true hb]
            exact s2 t f2
      · obtain ⟨r, e, s1, s2, s3⟩ := bad
        refine ⟨r, e, Ev.bind g1 (Ev.pos rfl (Ev.pos hc ?_)), Ev.bind f2 (Ev.bind g2 (Ev.pos rfl ?_)), s3⟩
        · rw [decide_eq_false hb]
          exact s1
        · by_cases h5 : c = 365
          · refine Ev.pos h5 ?_
            rw [decide_eq_false hb]
            exact s2
          · refine Ev.neg h5 (Ev.pos (by omega) ?_)
            rw [decide_eq_false hb]
            exact s2
    · obtain ⟨r, e, s1, s2, s3⟩ := bad
      exact ⟨r, e, Ev.bind g1 (Ev.pos rfl (Ev.neg hc s1)), Ev.bind f2 (Ev.bind g2 (Ev.pos rfl (Ev.neg (by omega) (Ev.neg (by omega) s2)))), s3⟩
theorem FnExactMovedTenant : ∀ (x0 : List (S125)) (x1 : ByteArray) (x2 : Int) (x3 : Int), (wfL wf125) x0 → wfS x1 → (wfI .i64) x2 → (wfI .i64) x3 → ∃ k, laws_FnExactMovedTenant.f k x0 x1 x2 x3 = some true := by
  intro x0 x1 x2 x3 hw0 hw1 hw2 hw3
  refine Ev.rounds (r := true) ?_
  simp only [laws_FnExactMovedTenant.f]
  by_cases c0 : (x1.size : Int) > 1048576
  · exact Ev.pos c0 (Ev.now _)
  refine Ev.neg c0 ?_
  obtain ⟨t, ht, _, _, hs⟩ := laws_szTenantS_ev x0 1048576 hw0 (by omega) (by omega)
  refine Ev.bind ht ?_
  by_cases c : t < 0
  · exact Ev.pos c (Ev.now _)
  refine Ev.neg c ?_
  have sm := hs (by omega)
  have sm2 := smL_map cv125 cv125_sm sm
  have hto := laws_toTenantS_ev x0 sm
  obtain ⟨r, e, h1, h2, h3⟩ := moved_both _ sm2 x1 x2 x3
  have hn := sm2.1
  have q0 := laws_eqTenantS_refl (x0.map cv125) (by omega)
  have q1 := laws_eqTenantS_refl r (by omega)
  obtain ⟨m0, k0, _, _⟩ := laws_markTenantS_ev (x0.map cv125) 1 (by omega) (by omega)
  obtain ⟨m1, k1, e1, j1⟩ := laws_markTenantS_ev r 1 (by omega) (by omega)
  have v1 := laws_heldTenantS_ev 1 (by omega) m1 (by omega) (by rw [e1]; exact j1)
  rw [e1] at v1
  repeat' first | (with_reducible exact Ev.now _) | (with_reducible exact hto) | (with_reducible exact h1) | (with_reducible exact h2) | (with_reducible exact q0) | (with_reducible exact q1) | (with_reducible exact k0) | (with_reducible exact k1) | (with_reducible exact v1) | ((with_reducible refine Ev.pos ?_ ?_); focus (first | with_reducible assumption | with_reducible rfl | omega | rfl | trivial)) | ((with_reducible refine Ev.neg ?_ ?_); focus (first | with_reducible assumption | omega | (simp; done) | (dsimp only; omega))) | (with_reducible refine Ev.bind hto ?_) | (with_reducible refine Ev.bind h1 ?_) | (with_reducible refine Ev.bind h2 ?_) | (with_reducible refine Ev.bind q0 ?_) | (with_reducible refine Ev.bind q1 ?_) | (with_reducible refine Ev.bind k0 ?_) | (with_reducible refine Ev.bind k1 ?_) | (with_reducible refine Ev.bind v1 ?_) | (with_reducible refine Ev.bind (Ev.shift hto) ?_) | (with_reducible refine Ev.bind (Ev.shift h1) ?_) | (with_reducible refine Ev.bind (Ev.shift h2) ?_) | (with_reducible refine Ev.bind (Ev.shift q0) ?_) | (with_reducible refine Ev.bind (Ev.shift q1) ?_) | (with_reducible refine Ev.bind (Ev.shift k0) ?_) | (with_reducible refine Ev.bind (Ev.shift k1) ?_) | (with_reducible refine Ev.bind (Ev.shift v1) ?_) | (refine Ev.succ ?_; simp only [laws_FnExactMovedTenant.j0]) | (refine Ev.succ ?_; simp only [laws_FnExactMovedTenant.j1]) | (refine Ev.succ ?_; simp only [laws_FnExactMovedTenant.j2]) | (with_reducible refine Ev.sb ?_) | dsimp only
end Go.Proofs.Ytjccjmjnlblhaaa.Pure
