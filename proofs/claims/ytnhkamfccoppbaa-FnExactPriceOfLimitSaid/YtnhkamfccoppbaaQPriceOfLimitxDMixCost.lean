/- MixCost: the reference's table of least costs. Conditions: valid fuels. -/
import Derived.Test.YtnhkamfccoppbaaQPriceOfLimitx3
import Derived.Test.YtnhkamfccoppbaaQPriceOfLimitxL
import Derived.Test.YtnhkamfccoppbaaQPriceOfLimitxDMixL
namespace Go.Proofs.Ytnhkamfccoppbaa.QPriceOfLimit
open Go.RowKit Go.Proofs.YtnhkamfccoppbaaW.PrintWords Go.Proofs.Ytnhkamfccoppbaa.QOpen Go.Proofs.Ytnhkamfccoppbaa.QEv
set_option linter.unusedVariables false
set_option linter.unusedSimpArgs false
def cst (x : S46) : Int := x.f2
theorem rd_range (g : Nat → Int) (n : Nat) (i : Int) (h0 : 0 ≤ i) (h1 : i < (n : Int)) : rd ((List.range n).map g) i = g i.toNat := by
  show ((List.range n).map g).getD i.toNat 0 = _
  rw [List.getD_eq_getElem?_getD, List.getElem?_map, List.getElem?_range (by omega)]
  rfl
theorem rdl_range (g : Nat → List Int) (n : Nat) (i : Int) (h0 : 0 ≤ i) (h1 : i < (n : Int)) : rd_L4 ((List.range n).map g) i = g i.toNat := by
  show ((List.range n).map g).getD i.toNat [] = _
  rw [List.getD_eq_getElem?_getD, List.getElem?_map, List.getElem?_range (by omega)]
  rfl
theorem range_snoc {α : Type} (g : Nat → α) (n : Nat) : (List.range n).map g ++ [g n] = (List.range (n + 1)).map g := by
  rw [List.range_succ, List.map_append]
  rfl
def crow (ys : List S46) (d n : Nat) : List Int := (List.range n).map (fun e : Nat => mL cst ys (d : Int) (e : Int))
def cplane (ys : List S46) (n m : Nat) : List (List Int) := (List.range n).map (fun d : Nat => crow ys d m)
theorem crow_len (ys : List S46) (d n : Nat) : (crow ys d n).length = n := by simp [crow]
theorem cplane_len (ys : List S46) (n m : Nat) : (cplane ys n m).length = n := by simp [cplane]
theorem costs_l1 (l : List S46) (D E : Nat) (hD : D ≤ 120) (hE : E ≤ 2401) (R : List (List (List Int))) : ∀ m e d : Nat, e + m = E + 1 → d ≤ D →
    Ev (fun k => spec_l16Costs.l0 k l (D : Int) (E : Int) (cplane [] (d + 1) (E + 1)) ((d + 1 : Nat) : Int)) R → Ev (fun k => spec_l16Costs.l1 k l (D : Int) (E : Int) (cplane [] d (E + 1)) (d : Int) (crow [] d e) (e : Int)) R := by
  intro m
  induction m with
  | zero =>
    intro e d he hd h
    have e1 : e = E + 1 := by omega
    subst e1
    have sn : cplane [] d (E + 1) ++ [crow [] d (E + 1)] = cplane [] (d + 1) (E + 1) := range_snoc _ _
    refine Ev.succ ?_
    simp only [spec_l16Costs.l1, wnat d (by omega), cplane_len, sn]
    exact Ev.neg (by omega) (Ev.pos (by omega) h)
  | succ m ih =>
    intro e d he hd h
    have g := ih (e + 1) d (by omega) hd h
    have sn : crow [] d e ++ [mL cst [] (d : Int) (e : Int)] = crow [] d (e + 1) := range_snoc _ _
    simp only [mL] at sn
    refine Ev.succ ?_
    simp only [spec_l16Costs.l1, wnat e (by omega), crow_len]
    refine Ev.pos (by omega) ?_
    by_cases c : (d : Int) = 0
    · rw [if_neg (by omega)] at sn
      rw [sn]
      exact Ev.pos c (Ev.pos (by omega) g)
    · rw [if_pos (by omega)] at sn
      rw [sn]
      exact Ev.neg c (Ev.pos (by omega) g)
theorem costs_l0 (l : List S46) (D E : Nat) (hD : D ≤ 120) (hE : E ≤ 2401) (R : List (List (List Int))) (h : Ev (fun k => spec_l16Costs.l2 k l (D : Int) (E : Int) [cplane [] (D + 1) (E + 1)] (wrap64 ((l.length : Int) - 1))) R) : ∀ m d : Nat, d + m = D + 1 →
    Ev (fun k => spec_l16Costs.l0 k l (D : Int) (E : Int) (cplane [] d (E + 1)) (d : Int)) R := by
  intro m
  induction m with
  | zero =>
    intro d hd
    have e1 : d = D + 1 := by omega
    subst e1
    refine Ev.succ ?_
    simp only [spec_l16Costs.l0]
    exact Ev.neg (by omega) h
  | succ m ih =>
    intro d hd
    have g := costs_l1 l D E hD hE R (E + 1) 0 d (by omega) (by omega) (ih (d + 1) (by omega))
    refine Ev.succ ?_
    simp only [spec_l16Costs.l0]
    exact Ev.pos (by omega) g
theorem costs_l5 (l : List S46) (D E : Nat) (hD : D ≤ 120) (hE : E ≤ 2401) (h6 : l.length ≤ 6) (out : List (List (List Int))) (q : Nat) (hq : q < l.length) (plane : List (List Int)) (d e : Nat) (hd : d ≤ D) (he : e ≤ E) (row : List Int) (hrow : row.length ≤ 3000) (x : S46) (ex : x = l.getD q z46) (hx : FuelOk x)
    (rest : Int → Int → Int) (hr : ∀ d e, -1 ≤ rest d e ∧ rest d e ≤ 120000) (hout : 0 < (out.length : Int)) (hlook : ∀ d' e' : Int, 0 ≤ d' ∧ d' ≤ (D : Int) → 0 ≤ e' ∧ e' ≤ (E : Int) → rd (rd_L4 (rd_L5 out 0) d') e' = rest d' e' ∧ d' < ((rd_L5 out 0).length : Int) ∧ e' < ((rd_L4 (rd_L5 out 0) d').length : Int))
    (R : List (List (List Int))) (h : Ev (fun k => spec_l16Costs.l4 k l (D : Int) (E : Int) out (q : Int) plane (d : Int) (row ++ [mFold (cst x) x rest (d : Int) (e : Int) (x.f3 + 1).toNat]) ((e + 1 : Nat) : Int)) R) :
    ∀ m b : Nat, b + m = (x.f3 + 1).toNat → Ev (fun k => spec_l16Costs.l5 k l (D : Int) (E : Int) out (q : Int) plane (d : Int) row (e : Int) (mFold (cst x) x rest (d : Int) (e : Int) b) (b : Int)) R := by
  have er : rd_T46 l (q : Int) = x := ex.symm
  have hok := hx
  unfold FuelOk at hok
  have exit : ∀ (v : Int) (b : Int), v = mFold (cst x) x rest (d : Int) (e : Int) (x.f3 + 1).toNat → Ev (fun k => spec_l16Costs.j6 k l (D : Int) (E : Int) out (q : Int) plane (d : Int) row (e : Int) v b false) R := by
    intro v b hv
    subst hv
    refine Ev.succ ?_
    simp only [spec_l16Costs.j6, wnat e (by omega)]
    exact Ev.neg (by decide) (Ev.pos (by omega) h)
  intro m
  induction m with
  | zero =>
    intro b hb
    refine Ev.succ ?_
    simp only [spec_l16Costs.l5, er]
    exact Ev.pos (by omega) (Ev.pos (by omega) (Ev.neg (by omega) (exit _ _ (by rw [show b = (x.f3 + 1).toNat by omega]))))
  | succ m ih =>
    intro b hb
    have m1 := mul_bd (b := (b : Int)) (c := x.f1) (m := 20) (n := 20) (by omega) (by omega) hok.1.1 hok.1.2
    have m2 := mul_bd (b := (b : Int)) (c := x.f2) (m := 20) (n := 1000) (by omega) (by omega) hok.2.1.1 hok.2.1.2
    have w1 : wrap64 ((b : Int) * x.f1) = (b : Int) * x.f1 := wid (by omega) (by omega)
    have w2 : wrap64 ((d : Int) - (b : Int)) = (d : Int) - (b : Int) := wid (by omega) (by omega)
    have w3 : wrap64 ((e : Int) - (b : Int) * x.f1) = (e : Int) - (b : Int) * x.f1 := wid (by omega) (by omega)
    have w4 : wrap64 ((b : Int) * x.f2) = (b : Int) * x.f2 := wid (by omega) (by omega)
    by_cases c : 0 ≤ (d : Int) - (b : Int) ∧ 0 ≤ (e : Int) - (b : Int) * x.f1
    · have g := ih (b + 1) (by omega)
      simp only [mFold, mStep] at g
      rw [if_pos c] at g
      obtain ⟨k1, k2, k3⟩ := hlook ((d : Int) - (b : Int)) ((e : Int) - (b : Int) * x.f1) (by omega) (by omega)
      have hrr := hr ((d : Int) - (b : Int)) ((e : Int) - (b : Int) * x.f1)
      have w5 : wrap64 (rest ((d : Int) - (b : Int)) ((e : Int) - (b : Int) * x.f1) + (b : Int) * x.f2) = rest ((d : Int) - (b : Int)) ((e : Int) - (b : Int) * x.f1) + (b : Int) * x.f2 := wid (by omega) (by omega)
      refine Ev.succ ?_
      simp only [spec_l16Costs.l5, er, w1]
      refine Ev.pos (by omega) (Ev.pos (by omega) (Ev.pos (by omega) (Ev.pos (by omega) (Ev.succ ?_))))
      simp only [spec_l16Costs.j6, er, w1, w2, w3, w4, k1, w5, decide_eq_true_eq, wnat b (by omega)]
      refine Ev.pos (by omega) (Ev.pos hout (Ev.pos (by omega) (Ev.pos k2 (Ev.pos (by omega) (Ev.pos (by omega) (Ev.pos (by omega) (Ev.pos k3 ?_)))))))
      by_cases c2 : rest ((d : Int) - (b : Int)) ((e : Int) - (b : Int) * x.f1) ≥ 0
      · refine Ev.pos c2 ?_
        by_cases c3 : mFold (cst x) x rest (d : Int) (e : Int) b < 0
        · rw [if_pos ⟨c2, .inl c3⟩] at g
          exact Ev.pos c3 g
        · refine Ev.neg c3 ?_
          by_cases c4 : rest ((d : Int) - (b : Int)) ((e : Int) - (b : Int) * x.f1) + (b : Int) * x.f2 < mFold (cst x) x rest (d : Int) (e : Int) b
          · rw [if_pos ⟨c2, .inr c4⟩] at g
            exact Ev.pos c4 g
          · rw [if_neg (fun h => h.2.elim c3 c4)] at g
            exact Ev.neg c4 g
      · rw [if_neg (fun h => c2 h.1)] at g
        exact Ev.neg c2 g
    · have st := fold_stop (c := cst x) (rest := rest) hx c (m + 1)
      rw [hb] at st
      refine Ev.succ ?_
      simp only [spec_l16Costs.l5, er, w1]
      refine Ev.pos (by omega) (Ev.pos (by omega) (Ev.pos (by omega) ?_))
      by_cases c4 : (b : Int) ≤ (d : Int)
      · refine Ev.pos c4 ?_
        rw [decide_eq_false (by omega : ¬ (b : Int) * x.f1 ≤ (e : Int))]
        exact exit _ _ st.symm
      · exact Ev.neg c4 (exit _ _ st.symm)
/-- The planes from the i-th fuel on. -/
def Suff (l : List S46) (D E i : Nat) (out : List (List (List Int))) : Prop := out.length + i = l.length + 1 ∧ ∀ j, i + j ≤ l.length → out.getD j [] = cplane (l.drop (i + j)) (D + 1) (E + 1)
theorem suff_look {l : List S46} {D E i : Nat} {out : List (List (List Int))} (hs : Suff l D E i out) (j : Nat) (hj : i + j ≤ l.length) (d e : Int) (hd : 0 ≤ d ∧ d ≤ (D : Int)) (he : 0 ≤ e ∧ e ≤ (E : Int)) :
    rd (rd_L4 (rd_L5 out (j : Int)) d) e = mL cst (l.drop (i + j)) d e ∧ d < ((rd_L5 out (j : Int)).length : Int) ∧ e < ((rd_L4 (rd_L5 out (j : Int)) d).length : Int) ∧ (j : Int) < (out.length : Int) := by
  have e0 : rd_L5 out (j : Int) = cplane (l.drop (i + j)) (D + 1) (E + 1) := hs.2 j hj
  have e1 : rd_L4 (cplane (l.drop (i + j)) (D + 1) (E + 1)) d = crow (l.drop (i + j)) d.toNat (E + 1) := rdl_range _ _ d hd.1 (by omega)
  have e2 : rd (crow (l.drop (i + j)) d.toNat (E + 1)) e = mL cst (l.drop (i + j)) ((d.toNat : Nat) : Int) ((e.toNat : Nat) : Int) := rd_range _ _ e he.1 (by omega)
  rw [Int.toNat_of_nonneg hd.1, Int.toNat_of_nonneg he.1] at e2
  rw [e0, e1]
  refine ⟨e2, by rw [cplane_len]; omega, by rw [crow_len]; omega, by have := hs.1; omega⟩
theorem rest_bd {pr : S46 → Int} {l : List S46} (h6 : l.length ≤ 6) (hg : GOk pr l) (q : Nat) : ∀ d e, -1 ≤ mL pr (l.drop q) d e ∧ mL pr (l.drop q) d e ≤ 120000 := fun d e => by
  have := mL_bd pr (l.drop q) (fun y hy => hg y (List.mem_of_mem_drop hy)) d e
  have hl : (l.drop q).length ≤ 6 := by rw [List.length_drop]; omega
  omega
theorem costs_l4 (l : List S46) (D E : Nat) (hD : D ≤ 120) (hE : E ≤ 2401) (h6 : l.length ≤ 6) (hg : GOk cst l) (out : List (List (List Int))) (q : Nat) (hq : q < l.length) (hs : Suff l D E (q + 1) out) (plane : List (List Int)) (hpl : plane.length ≤ 200) (d : Nat) (hd : d ≤ D)
    (R : List (List (List Int))) (h : Ev (fun k => spec_l16Costs.l3 k l (D : Int) (E : Int) out (q : Int) (plane ++ [crow (l.drop q) d (E + 1)]) ((d + 1 : Nat) : Int)) R) :
    ∀ m e : Nat, e + m = E + 1 → Ev (fun k => spec_l16Costs.l4 k l (D : Int) (E : Int) out (q : Int) plane (d : Int) (crow (l.drop q) d e) (e : Int)) R := by
  intro m
  induction m with
  | zero =>
    intro e he
    have e1 : e = E + 1 := by omega
    subst e1
    refine Ev.succ ?_
    simp only [spec_l16Costs.l4, wnat d (by omega)]
    exact Ev.neg (by omega) (Ev.pos (by omega) h)
  | succ m ih =>
    intro e he
    obtain ⟨x, ex⟩ : ∃ x, x = l.getD q z46 := ⟨_, rfl⟩
    have hx := hg x (by rw [ex]; exact getD_mem l q _ (by omega))
    have sn : crow (l.drop q) d e ++ [mL cst (l.drop q) (d : Int) (e : Int)] = crow (l.drop q) d (e + 1) := range_snoc _ _
    have mv : mL cst (l.drop q) (d : Int) (e : Int) = mFold (cst x) x (mL cst (l.drop (q + 1))) (d : Int) (e : Int) (x.f3 + 1).toNat := by
      rw [drop_step l q z46 (by omega), ← ex]
      rfl
    rw [mv] at sn
    have g := ih (e + 1) (by omega)
    rw [← sn] at g
    have := costs_l5 l D E hD hE h6 out q hq plane d e hd (by omega) (crow (l.drop q) d e) (by rw [crow_len]; omega) x ex hx.1 (mL cst (l.drop (q + 1))) (rest_bd h6 hg (q + 1)) (by have := hs.1; omega)
      (fun d' e' hd' he' => by obtain ⟨a1, a2, a3, _⟩ := suff_look hs 0 (by omega) d' e' hd' he'; exact ⟨a1, a2, a3⟩) R g (x.f3 + 1).toNat 0 (by omega)
    refine Ev.succ ?_
    simp only [spec_l16Costs.l4]
    exact Ev.pos (by omega) this
theorem costs_l3 (l : List S46) (D E : Nat) (hD : D ≤ 120) (hE : E ≤ 2401) (h6 : l.length ≤ 6) (hg : GOk cst l) (out : List (List (List Int))) (q : Nat) (hq : q < l.length) (hs : Suff l D E (q + 1) out)
    (R : List (List (List Int))) (h : Ev (fun k => spec_l16Costs.l2 k l (D : Int) (E : Int) (cplane (l.drop q) (D + 1) (E + 1) :: out) ((q : Int) - 1)) R) :
    ∀ m d : Nat, d + m = D + 1 → Ev (fun k => spec_l16Costs.l3 k l (D : Int) (E : Int) out (q : Int) (cplane (l.drop q) d (E + 1)) (d : Int)) R := by
  intro m
  induction m with
  | zero =>
    intro d hd
    have e1 : d = D + 1 := by omega
    subst e1
    have w : wrap64 ((q : Int) - 1) = (q : Int) - 1 := wid (by omega) (by omega)
    refine Ev.succ ?_
    simp only [spec_l16Costs.l3, Option.bind_some, w, List.cons_append, List.nil_append, List.length_cons, List.length_nil]
    exact Ev.neg (by omega) (Ev.pos (by have := hs.1; omega) h)
  | succ m ih =>
    intro d hd
    have sn : cplane (l.drop q) d (E + 1) ++ [crow (l.drop q) d (E + 1)] = cplane (l.drop q) (d + 1) (E + 1) := range_snoc _ _
    have g := ih (d + 1) (by omega)
    rw [← sn] at g
    have := costs_l4 l D E hD hE h6 hg out q hq hs (cplane (l.drop q) d (E + 1)) (by rw [cplane_len]; omega) d (by omega) R g (E + 1) 0 (by omega)
    refine Ev.succ ?_
    simp only [spec_l16Costs.l3]
    exact Ev.pos (by omega) this
theorem costs_l2 (l : List S46) (D E : Nat) (hD : D ≤ 120) (hE : E ≤ 2401) (h6 : l.length ≤ 6) (hg : GOk cst l) : ∀ (i : Nat) (out : List (List (List Int))), i ≤ l.length → Suff l D E i out →
    ∃ T, Suff l D E 0 T ∧ Ev (fun k => spec_l16Costs.l2 k l (D : Int) (E : Int) out ((i : Int) - 1)) T := by
  intro i
  induction i with
  | zero =>
    intro out _ hs
    refine ⟨out, hs, Ev.succ ?_⟩
    simp only [spec_l16Costs.l2]
    exact Ev.neg (by omega) (Ev.now _)
  | succ q ih =>
    intro out hi hs
    obtain ⟨T, hT, g⟩ := ih (cplane (l.drop q) (D + 1) (E + 1) :: out) (by omega) ⟨by have := hs.1; simp only [List.length_cons]; omega, fun j hj => by
      cases j with
      | zero => rfl
      | succ j =>
        have := hs.2 j (by omega)
        rw [show q + 1 + j = q + (j + 1) by omega] at this
        exact this⟩
    refine ⟨T, hT, Ev.succ ?_⟩
    simp only [spec_l16Costs.l2]
    have e1 : ((q + 1 : Nat) : Int) - 1 = (q : Int) := by omega
    rw [e1]
    exact Ev.pos (by omega) (costs_l3 l D E hD hE h6 hg out q (by omega) hs T g (D + 1) 0 (by omega))
theorem costs_ev (l : List S46) (D E : Nat) (hD : D ≤ 120) (hE : E ≤ 2401) (h6 : l.length ≤ 6) (hg : GOk cst l) : ∃ T, Suff l D E 0 T ∧ Ev (fun k => spec_l16Costs.f k l (D : Int) (E : Int)) T := by
  obtain ⟨T, hT, g⟩ := costs_l2 l D E hD hE h6 hg l.length [cplane [] (D + 1) (E + 1)] (Nat.le_refl _) ⟨by simp; omega, fun j hj => by
    have : j = 0 := by omega
    subst this
    rw [List.drop_of_length_le (by omega)]
    rfl⟩
  have w : wrap64 ((l.length : Int) - 1) = (l.length : Int) - 1 := wid (by omega) (by omega)
  refine ⟨T, hT, ?_⟩
  rw [← w] at g
  simp only [spec_l16Costs.f]
  exact costs_l0 l D E hD hE T g (D + 1) 0 (by omega)
end Go.Proofs.Ytnhkamfccoppbaa.QPriceOfLimit
