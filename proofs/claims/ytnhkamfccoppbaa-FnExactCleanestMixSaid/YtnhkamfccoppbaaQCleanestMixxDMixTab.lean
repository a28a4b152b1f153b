/- MixTab: the reference's table of least emissions. Conditions: valid fuels. -/
import Derived.Test.YtnhkamfccoppbaaQCleanestMixx3
import Derived.Test.YtnhkamfccoppbaaQCleanestMixx9
import Derived.Test.YtnhkamfccoppbaaQCleanestMixxL
import Derived.Test.YtnhkamfccoppbaaQCleanestMixxDMixMore
namespace Go.Proofs.Ytnhkamfccoppbaa.QCleanestMix
open Go.RowKit Go.Proofs.YtnhkamfccoppbaaW.PrintWords Go.Proofs.Ytnhkamfccoppbaa.QOpen Go.Proofs.Ytnhkamfccoppbaa.QEv
set_option linter.unusedVariables false
set_option linter.unusedSimpArgs false
def emi (x : S46) : Int := x.f1
theorem price_emi (x : S46) : impl_price.f x.f0 x.f1 x.f2 x.f3 = some (emi x) := rfl
theorem rd_range (g : Nat → Int) (n : Nat) (i : Int) (h0 : 0 ≤ i) (h1 : i < (n : Int)) : rd ((List.range n).map g) i = g i.toNat := by
  show ((List.range n).map g).getD i.toNat 0 = _
  rw [List.getD_eq_getElem?_getD, List.getElem?_map, List.getElem?_range (by omega)]
  rfl
theorem range_snoc {α : Type} (g : Nat → α) (n : Nat) : (List.range n).map g ++ [g n] = (List.range (n + 1)).map g := by
  rw [List.range_succ, List.map_append]
  rfl
theorem rest_bd {pr : S46 → Int} {l : List S46} (h6 : l.length ≤ 6) (hg : GOk pr l) (q : Nat) : ∀ d e, -1 ≤ mL pr (l.drop q) d e ∧ mL pr (l.drop q) d e ≤ 120000 := fun d e => by
  have := mL_bd pr (l.drop q) (fun y hy => hg y (List.mem_of_mem_drop hy)) d e
  have hl : (l.drop q).length ≤ 6 := by rw [List.length_drop]; omega
  omega
theorem vf_of (l : List S46) (h6 : l.length ≤ 6) (h : ∀ j, j < l.length → FuelOk (l.getD j z46)) (d e : Int) (hd : 0 ≤ d ∧ d ≤ 120) (he : 0 ≤ e ∧ e ≤ 2401) : vfB l d e = true := by
  simp only [vfB, Bool.and_eq_true, decide_eq_true_eq, List.all_eq_true]
  refine ⟨⟨h6, fun x hx => ?_⟩, hd, he⟩
  obtain ⟨j, hj, e_⟩ := List.getElem_of_mem hx
  have := h j hj
  rw [getD_at _ _ _ hj, e_] at this
  unfold FuelOk at this
  omega
theorem gok_of (l : List S46) (h : ∀ j, j < l.length → FuelOk (l.getD j z46)) : GOk emi l := fun x hx => by
  obtain ⟨j, hj, e_⟩ := List.getElem_of_mem hx
  have := h j hj
  rw [getD_at _ _ _ hj, e_] at this
  refine ⟨this, ?_⟩
  unfold FuelOk at this
  unfold emi
  omega
def trow (ys : List S46) (n : Nat) : List Int := (List.range n).map (fun d : Nat => mL emi ys (d : Int) 2400)
theorem trow_len (ys : List S46) (n : Nat) : (trow ys n).length = n := by simp [trow]
theorem tab_l0 (l : List S46) (D : Nat) (hD : D ≤ 120) (R : List (List Int)) (h : Ev (fun k => spec_l16Table.l1 k l (D : Int) [trow [] (D + 1)] (wrap64 ((l.length : Int) - 1))) R) : ∀ m d : Nat, d + m = D + 1 → 1 ≤ d →
    Ev (fun k => spec_l16Table.l0 k l (D : Int) (trow [] d) (d : Int)) R := by
  intro m
  induction m with
  | zero =>
    intro d hd _
    have e1 : d = D + 1 := by omega
    subst e1
    refine Ev.succ ?_
    simp only [spec_l16Table.l0]
    exact Ev.neg (by omega) h
  | succ m ih =>
    intro d hd h1
    have g := ih (d + 1) (by omega) (by omega)
    have sn : trow [] d ++ [mL emi [] (d : Int) 2400] = trow [] (d + 1) := range_snoc _ _
    simp only [mL] at sn
    rw [if_pos (by omega)] at sn
    refine Ev.succ ?_
    simp only [spec_l16Table.l0, wnat d (by omega), trow_len, sn]
    exact Ev.pos (by omega) (Ev.pos (by omega) g)
theorem tab_l3 (l : List S46) (D : Nat) (hD : D ≤ 120) (h6 : l.length ≤ 6) (out : List (List Int)) (q : Nat) (hq : q < l.length) (d : Nat) (hd : d ≤ D) (row : List Int) (hrow : row.length ≤ 3000) (x : S46) (ex : x = l.getD q z46) (hx : FuelOk x)
    (rest : Int → Int → Int) (hr : ∀ d e, -1 ≤ rest d e ∧ rest d e ≤ 120000) (hbig : ∀ (d : Int) (b : Nat), b ≤ 20 → rest d (2400 - (b : Int) * x.f1) = rest d 2400) (hout : 0 < (out.length : Int)) (hlook : ∀ d' : Int, 0 ≤ d' ∧ d' ≤ (D : Int) → rd (rd_L4 out 0) d' = rest d' 2400 ∧ d' < ((rd_L4 out 0).length : Int))
    (R : List (List Int)) (h : Ev (fun k => spec_l16Table.l2 k l (D : Int) out (q : Int) (row ++ [mFold (emi x) x rest (d : Int) 2400 (x.f3 + 1).toNat]) ((d + 1 : Nat) : Int)) R) :
    ∀ m b : Nat, b + m = (x.f3 + 1).toNat → Ev (fun k => spec_l16Table.l3 k l (D : Int) out (q : Int) row (d : Int) (mFold (emi x) x rest (d : Int) 2400 b) (b : Int)) R := by
  have er : rd_T46 l (q : Int) = x := ex.symm
  have hok := hx
  unfold FuelOk at hok
  have exit : ∀ (v : Int) (b : Int), v = mFold (emi x) x rest (d : Int) 2400 (x.f3 + 1).toNat → Ev (fun k => spec_l16Table.j4 k l (D : Int) out (q : Int) row (d : Int) v b false) R := by
    intro v b hv
    subst hv
    refine Ev.succ ?_
    simp only [spec_l16Table.j4, wnat d (by omega)]
    exact Ev.neg (by decide) (Ev.pos (by omega) h)
  intro m
  induction m with
  | zero =>
    intro b hb
    refine Ev.succ ?_
    simp only [spec_l16Table.l3, er]
    exact Ev.pos (by omega) (Ev.pos (by omega) (Ev.neg (by omega) (exit _ _ (by rw [show b = (x.f3 + 1).toNat by omega]))))
  | succ m ih =>
    intro b hb
    have m1 := mul_bd (b := (b : Int)) (c := x.f1) (m := 20) (n := 20) (by omega) (by omega) hok.1.1 hok.1.2
    have w1 : wrap64 ((b : Int) * x.f1) = (b : Int) * x.f1 := wid (by omega) (by omega)
    have w2 : wrap64 ((d : Int) - (b : Int)) = (d : Int) - (b : Int) := wid (by omega) (by omega)
    by_cases c : 0 ≤ (d : Int) - (b : Int)
    · have g := ih (b + 1) (by omega)
      simp only [mFold, mStep] at g
      rw [if_pos ⟨c, by omega⟩, hbig _ b (by omega)] at g
      obtain ⟨k1, k2⟩ := hlook ((d : Int) - (b : Int)) (by omega)
      have hrr := hr ((d : Int) - (b : Int)) 2400
      have w5 : wrap64 (rest ((d : Int) - (b : Int)) 2400 + (b : Int) * x.f1) = rest ((d : Int) - (b : Int)) 2400 + (b : Int) * x.f1 := wid (by omega) (by omega)
      refine Ev.succ ?_
      simp only [spec_l16Table.l3, er]
      refine Ev.pos (by omega) (Ev.pos (by omega) (Ev.pos (by omega) (Ev.succ ?_)))
      simp only [spec_l16Table.j4, er, w1, w2, k1, w5, decide_eq_true_eq, wnat b (by omega)]
      refine Ev.pos (by omega) (Ev.pos hout (Ev.pos (by omega) (Ev.pos k2 ?_)))
      by_cases c2 : rest ((d : Int) - (b : Int)) 2400 ≥ 0
      · refine Ev.pos c2 ?_
        by_cases c3 : mFold (emi x) x rest (d : Int) 2400 b < 0
        · rw [if_pos ⟨c2, .inl c3⟩] at g
          exact Ev.pos c3 (Ev.pos (by omega) (Ev.pos (by omega) g))
        · refine Ev.neg c3 (Ev.pos (by omega) (Ev.pos (by omega) ?_))
          by_cases c4 : rest ((d : Int) - (b : Int)) 2400 + (b : Int) * x.f1 < mFold (emi x) x rest (d : Int) 2400 b
          · rw [if_pos ⟨c2, .inr c4⟩] at g
            exact Ev.pos c4 g
          · rw [if_neg (fun h => h.2.elim c3 c4)] at g
            exact Ev.neg c4 g
      · rw [if_neg (fun h => c2 h.1)] at g
        exact Ev.neg c2 g
    · have st := fold_stop (c := emi x) (rest := rest) (d := (d : Int)) (e := 2400) hx (b := b) (fun h => c h.1) (m + 1)
      rw [hb] at st
      refine Ev.succ ?_
      simp only [spec_l16Table.l3, er]
      refine Ev.pos (by omega) (Ev.pos (by omega) (Ev.pos (by omega) ?_))
      rw [decide_eq_false (by omega : ¬ (b : Int) ≤ (d : Int))]
      exact exit _ _ st.symm
/-- The rows from the i-th fuel on. -/
def TSuff (l : List S46) (D i : Nat) (out : List (List Int)) : Prop := out.length + i = l.length + 1 ∧ ∀ j, i + j ≤ l.length → out.getD j [] = trow (l.drop (i + j)) (D + 1)
theorem tsuff_look {l : List S46} {D i : Nat} {out : List (List Int)} (hs : TSuff l D i out) (j : Nat) (hj : i + j ≤ l.length) (d : Int) (hd : 0 ≤ d ∧ d ≤ (D : Int)) :
    rd (rd_L4 out (j : Int)) d = mL emi (l.drop (i + j)) d 2400 ∧ d < ((rd_L4 out (j : Int)).length : Int) ∧ (j : Int) < (out.length : Int) := by
  have e0 : rd_L4 out (j : Int) = trow (l.drop (i + j)) (D + 1) := hs.2 j hj
  have e2 : rd (trow (l.drop (i + j)) (D + 1)) d = mL emi (l.drop (i + j)) ((d.toNat : Nat) : Int) 2400 := rd_range _ _ d hd.1 (by omega)
  rw [Int.toNat_of_nonneg hd.1] at e2
  rw [e0]
  exact ⟨e2, by rw [trow_len]; omega, by have := hs.1; omega⟩
theorem tab_l2 (l : List S46) (D : Nat) (hD : D ≤ 120) (h6 : l.length ≤ 6) (hg : GOk emi l) (out : List (List Int)) (q : Nat) (hq : q < l.length) (hs : TSuff l D (q + 1) out)
    (R : List (List Int)) (h : Ev (fun k => spec_l16Table.l1 k l (D : Int) (trow (l.drop q) (D + 1) :: out) ((q : Int) - 1)) R) :
    ∀ m d : Nat, d + m = D + 1 → Ev (fun k => spec_l16Table.l2 k l (D : Int) out (q : Int) (trow (l.drop q) d) (d : Int)) R := by
  intro m
  induction m with
  | zero =>
    intro d hd
    have e1 : d = D + 1 := by omega
    subst e1
    have w : wrap64 ((q : Int) - 1) = (q : Int) - 1 := wid (by omega) (by omega)
    refine Ev.succ ?_
    simp only [spec_l16Table.l2, Option.bind_some, w, List.cons_append, List.nil_append, List.length_cons, List.length_nil]
    exact Ev.neg (by omega) (Ev.pos (by have := hs.1; omega) h)
  | succ m ih =>
    intro d hd
    obtain ⟨x, ex⟩ : ∃ x, x = l.getD q z46 := ⟨_, rfl⟩
    have hx := hg x (by rw [ex]; exact getD_mem l q _ (by omega))
    have hok := hx.1
    unfold FuelOk at hok
    have sn : trow (l.drop q) d ++ [mL emi (l.drop q) (d : Int) 2400] = trow (l.drop q) (d + 1) := range_snoc _ _
    have mv : mL emi (l.drop q) (d : Int) 2400 = mFold (emi x) x (mL emi (l.drop (q + 1))) (d : Int) 2400 (x.f3 + 1).toNat := by
      rw [drop_step l q z46 (by omega), ← ex]
      rfl
    rw [mv] at sn
    have g := ih (d + 1) (by omega)
    rw [← sn] at g
    have hl : (l.drop (q + 1)).length ≤ 5 := by rw [List.length_drop]; omega
    have hbig : ∀ (d : Int) (b : Nat), b ≤ 20 → mL emi (l.drop (q + 1)) d (2400 - (b : Int) * x.f1) = mL emi (l.drop (q + 1)) d 2400 := by
      intro d b hb
      have m1 := mul_bd (b := (b : Int)) (c := x.f1) (m := 20) (n := 20) (by omega) (by omega) hok.1.1 hok.1.2
      exact mL_big emi _ (fun y hy => hg y (List.mem_of_mem_drop hy)) d _ _ (by omega) (by omega)
    have := tab_l3 l D hD h6 out q hq d (by omega) (trow (l.drop q) d) (by rw [trow_len]; omega) x ex hx.1 (mL emi (l.drop (q + 1))) (rest_bd h6 hg (q + 1)) hbig (by have := hs.1; omega)
      (fun d' hd' => by obtain ⟨a1, a2, _⟩ := tsuff_look hs 0 (by omega) d' hd'; exact ⟨a1, a2⟩) R g (x.f3 + 1).toNat 0 (by omega)
    refine Ev.succ ?_
    simp only [spec_l16Table.l2]
    exact Ev.pos (by omega) this
theorem tab_l1 (l : List S46) (D : Nat) (hD : D ≤ 120) (h6 : l.length ≤ 6) (hg : GOk emi l) : ∀ (i : Nat) (out : List (List Int)), i ≤ l.length → TSuff l D i out →
    ∃ T, TSuff l D 0 T ∧ Ev (fun k => spec_l16Table.l1 k l (D : Int) out ((i : Int) - 1)) T := by
  intro i
  induction i with
  | zero =>
    intro out _ hs
    refine ⟨out, hs, Ev.succ ?_⟩
    simp only [spec_l16Table.l1]
    exact Ev.neg (by omega) (Ev.now _)
  | succ q ih =>
    intro out hi hs
    obtain ⟨T, hT, g⟩ := ih (trow (l.drop q) (D + 1) :: out) (by omega) ⟨by have := hs.1; simp only [List.length_cons]; omega, fun j hj => by
      cases j with
      | zero => rfl
      | succ j =>
        have := hs.2 j (by omega)
        rw [show q + 1 + j = q + (j + 1) by omega] at this
        exact this⟩
    refine ⟨T, hT, Ev.succ ?_⟩
    simp only [spec_l16Table.l1]
    have e1 : ((q + 1 : Nat) : Int) - 1 = (q : Int) := by omega
    rw [e1]
    exact Ev.pos (by omega) (tab_l2 l D hD h6 hg out q (by omega) hs T g (D + 1) 0 (by omega))
theorem tab_ev (l : List S46) (D : Nat) (hD : D ≤ 120) (h6 : l.length ≤ 6) (hg : GOk emi l) : ∃ T, TSuff l D 0 T ∧ Ev (fun k => spec_l16Table.f k l (D : Int)) T := by
  obtain ⟨T, hT, g⟩ := tab_l1 l D hD h6 hg l.length [trow [] (D + 1)] (Nat.le_refl _) ⟨by simp; omega, fun j hj => by
    have : j = 0 := by omega
    subst this
    rw [List.drop_of_length_le (by omega)]
    rfl⟩
  have w : wrap64 ((l.length : Int) - 1) = (l.length : Int) - 1 := wid (by omega) (by omega)
  refine ⟨T, hT, ?_⟩
  rw [← w] at g
  have t1 : trow [] 1 = [0] := by simp [trow, mL, List.range_succ]
  have g0 := tab_l0 l D hD T g D 1 (by omega) (by omega)
  rw [t1] at g0
  simp only [spec_l16Table.f]
  exact g0
end Go.Proofs.Ytnhkamfccoppbaa.QCleanestMix
