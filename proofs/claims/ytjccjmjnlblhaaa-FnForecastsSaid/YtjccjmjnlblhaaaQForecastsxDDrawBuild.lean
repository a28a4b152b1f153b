/- DrawBuild: buildings and a day that are drawn from some bytes are valid. Conditions: bytes. -/
import Derived.Test.YtjccjmjnlblhaaaQForecastsx1
import Derived.Test.YtjccjmjnlblhaaaQForecastsx2
import Derived.Test.YtjccjmjnlblhaaaQForecastsx3
import Derived.Test.YtjccjmjnlblhaaaQForecastsx4
import Derived.Test.YtjccjmjnlblhaaaQForecastsx9
import Derived.Test.YtjccjmjnlblhaaaQForecastsxL
import Derived.Test.YtjccjmjnlblhaaaQForecastsxDSrc
import Derived.Test.YtjccjmjnlblhaaaQForecastsxDCmp
import Derived.Test.YtjccjmjnlblhaaaQForecastsxDBuilding
import Derived.Test.YtjccjmjnlblhaaaQForecastsxDDayI
namespace Go.Proofs.Ytjccjmjnlblhaaa.QForecasts
open Go.RowKit Go.Proofs.YtjccjmjnlblhaaaW.PrintWords Go.Proofs.Ytjccjmjnlblhaaa.QOpen Go.Proofs.Ytjccjmjnlblhaaa.QEv
set_option linter.unusedVariables false
set_option linter.unusedSimpArgs false
def nms : List ByteArray := [(⟨#[98, 97]⟩ : ByteArray), (⟨#[98, 98]⟩ : ByteArray), (⟨#[98, 99]⟩ : ByteArray), (⟨#[98, 100]⟩ : ByteArray)]
def nmq (q : Nat) : ByteArray := rdOf ByteArray.empty nms (q : Int)
theorem nmq_size : ∀ q : Fin 4, (nmq q.val).size = 2 := by decide
theorem nmq_b0 : ∀ q : Fin 4, bt (nmq q.val) 0 = 98 := by decide
theorem nmq_b1 : ∀ q : Fin 4, bt (nmq q.val) 1 = 97 + (q.val : Int) := by decide
theorem nmq_lt : ∀ i j : Fin 4, i < j → Op.bytesLess (nmq i.val).data.toList (nmq j.val).data.toList = true := by decide
theorem nameTrue (q : Nat) (hq : q < 4) : Ev (fun k => impl_IsName.f k (nmq q)) true := by
  have z := nmq_size ⟨q, hq⟩
  have b0 := nmq_b0 ⟨q, hq⟩
  have b1 := nmq_b1 ⟨q, hq⟩
  simp only at z b0 b1
  have w0 : wrap64 ((0 : Int) + 1) = 1 := wid (by omega) (by omega)
  have w1 : wrap64 ((1 : Int) + 1) = 2 := wid (by omega) (by omega)
  have h2 : Ev (fun k => impl_onlyNameBytes.l0 k (nmq q) ((nmq q).size : Int) 2) true := by
    refine Ev.succ ?_
    simp only [impl_onlyNameBytes.l0]
    exact Ev.neg (by omega) (Ev.now _)
  have h1 : Ev (fun k => impl_onlyNameBytes.l0 k (nmq q) ((nmq q).size : Int) 1) true := by
    refine Ev.succ ?_
    simp only [impl_onlyNameBytes.l0, w1]
    exact Ev.pos (by omega) (Ev.pos (by omega) (Ev.pos (by omega) (Ev.neg (by omega) (Ev.neg (by omega) h2))))
  have h0 : Ev (fun k => impl_onlyNameBytes.l0 k (nmq q) ((nmq q).size : Int) 0) true := by
    refine Ev.succ ?_
    simp only [impl_onlyNameBytes.l0, w0]
    exact Ev.pos (by omega) (Ev.pos (by omega) (Ev.pos (by omega) (Ev.neg (by omega) (Ev.neg (by omega) h1))))
  simp only [impl_IsName.f, impl_onlyNameBytes.f]
  exact Ev.neg (by omega) (Ev.neg (by omega) (Ev.pos (by omega) (Ev.neg (by omega) (Ev.neg (by omega) (Ev.bind h0 (Ev.now _))))))
theorem nmq_less (i j : Nat) (h : i < j) (hj : j < 4) : Op.bytesLess (nmq i).toList (nmq j).toList = true := by
  rw [ByteArray.toList_eq, ByteArray.toList_eq]
  exact nmq_lt ⟨i, by omega⟩ ⟨j, hj⟩ h
theorem build_true (x : S94) (hx : BuildOk x) (q : Nat) (hq : q < 4) (e : x.f0 = nmq q) : Ev (fun k => impl_Building_valid.f k x.f0 x.f1 x.f2 x.f3 x.f4 x.f5) true ∧ Ev (fun k => spec_l05One.f k x.f0 x.f1 x.f2 x.f3 x.f4 x.f5) true := by
  have hn := nameTrue q hq
  rw [← e] at hn
  have z := nmq_size ⟨q, hq⟩
  simp only at z
  rw [← e] at z
  obtain ⟨a0, a1, b0, b1, c0, c1, d0, d1, l5, p5⟩ := hx
  have hi : impl_allWithin.f x.f5 0 3000 = some (x.f5.all fun n => decide (0 ≤ n ∧ n ≤ 3000)) := by
    simp only [impl_allWithin.f]
    rw [if_pos (by omega)]
  have ha : (x.f5.all fun n => decide (0 ≤ n ∧ n ≤ 3000)) = true := by
    refine List.all_eq_true.2 fun y hy => ?_
    obtain ⟨j, hj, e⟩ := List.getElem_of_mem hy
    have h := p5 j (by omega)
    rw [getD_at x.f5 j 0 hj, e] at h
    exact decide_eq_true h
  have hv : Ev (fun k => impl_Building_valid.f k x.f0 x.f1 x.f2 x.f3 x.f4 x.f5) true := by
    simp only [impl_Building_valid.f, impl_nodeOk.f, impl_outdoorOk.f, impl_within_eq, hi, ha, Option.bind_some, decide_eq_true_eq]
    exact Ev.bind hn (Ev.pos rfl (Ev.pos ⟨a0, a1⟩ (Ev.pos ⟨b0, b1⟩ (Ev.pos ⟨c0, c1⟩ (Ev.pos ⟨d0, d1⟩ (Ev.pos (by omega) (Ev.now _)))))))
  obtain ⟨b, s1, s2, _⟩ := build_both x (by omega) (by omega)
  have eb : b = true := Ev.uniq s2 hv
  rw [eb] at s1
  exact ⟨hv, s1⟩
theorem drawProf (c : List Int) (hc : BytesOk c) (n : ByteArray) (a b e f : Int) : ∀ (d i : Nat) (p s : Int) (prof : List Int), i + d = 24 → prof.length = i → (∀ x ∈ prof, 0 ≤ x ∧ x ≤ 3000) → 0 ≤ p → p + 10 * (d : Int) ≤ 4611686018427000000 →
    ∃ (r : List Int) (p' s' : Int), Ev (fun k => spec_l05DrawOne.l0 k (i : Int) c p s n a b e f prof) (n, a, b, e, f, r, p', s') ∧ r.length = 24 ∧ (∀ x ∈ r, 0 ≤ x ∧ x ≤ 3000) ∧ p ≤ p' ∧ p' ≤ p + 10 * (d : Int) := by
  intro d
  induction d with
  | zero =>
    intro i p s prof hi hl hp h0 h1
    refine ⟨prof, p, s, Ev.succ ?_, by omega, hp, by omega, by omega⟩
    simp only [spec_l05DrawOne.l0]
    exact Ev.neg (by omega) (Ev.now _)
  | succ d ih =>
    intro i p s prof hi hl hp h0 h1
    obtain ⟨x, p1, s1, e1, hx, a0, a1⟩ := among_ev c hc p s [400, 1000, 1000, 1500, 2200] h0 (by omega) (by decide) (by decide)
    have hx2 : 0 ≤ x ∧ x ≤ 3000 := by
      simp only [List.mem_cons, List.mem_nil_iff, or_false] at hx
      omega
    obtain ⟨r, p', s', g1, g2, g3, g4, g5⟩ := ih (i + 1) p1 s1 (prof ++ [x]) (by omega) (by simp; omega) (fun y hy => by
      rcases List.mem_append.1 hy with h | h
      · exact hp y h
      · rw [List.mem_singleton.1 h]; exact hx2) (by omega) (by omega)
    refine ⟨r, p', s', Ev.succ ?_, g2, g3, by omega, by omega⟩
    simp only [spec_l05DrawOne.l0, e1, Option.bind_some, wnat i (by omega)]
    exact Ev.pos (by omega) (Ev.pos (by omega) g1)
theorem drawBuild (c : List Int) (hc : BytesOk c) (p s : Int) (n : ByteArray) (h0 : 0 ≤ p) (h1 : p ≤ 4611686018426000000) :
    ∃ (x : S94) (p' s' : Int), Ev (fun k => spec_l05DrawOne.f k c p s n) (x.f0, x.f1, x.f2, x.f3, x.f4, x.f5, p', s') ∧ x.f0 = n ∧ BuildOk x ∧ p ≤ p' ∧ p' ≤ p + 300 := by
  obtain ⟨x1, p1, s1, e1, l1, u1, a1, b1⟩ := pick_ev c hc p s 6 h0 (by omega) (by omega)
  obtain ⟨x2, p2, s2, e2, l2, u2, a2, b2⟩ := pick_ev c hc p1 s1 200 (by omega) (by omega) (by omega)
  obtain ⟨x3, p3, s3, e3, l3, u3, a3, b3⟩ := pick_ev c hc p2 s2 40 (by omega) (by omega) (by omega)
  obtain ⟨x4, p4, s4, e4, l4, u4, a4, b4⟩ := pick_ev c hc p3 s3 8 (by omega) (by omega) (by omega)
  have u1 := u1 (by omega)
  have u2 := u2 (by omega)
  have u3 := u3 (by omega)
  have u4 := u4 (by omega)
  have w1 : wrap64 (100 * x2) = 100 * x2 := wid (by omega) (by omega)
  have w2 : wrap64 (50 * x3) = 50 * x3 := wid (by omega) (by omega)
  have w3 : wrap64 (100 * x4) = 100 * x4 := wid (by omega) (by omega)
  have w4 : wrap64 (1200 + 100 * x4) = 1200 + 100 * x4 := wid (by omega) (by omega)
  obtain ⟨r, p', s', g1, g2, g3, g4, g5⟩ := drawProf c hc n x1 (100 * x2) (50 * x3) (1200 + 100 * x4) 24 0 p4 s4 [] (by omega) rfl (fun x hx => by cases hx) (by omega) (by omega)
  refine ⟨⟨n, x1, 100 * x2, 50 * x3, 1200 + 100 * x4, r⟩, p', s', ?_, rfl, ⟨l1, by show x1 ≤ 15; omega, by show 0 ≤ 100 * x2; omega, by show 100 * x2 ≤ 1000000; omega, by show 0 ≤ 50 * x3; omega, by show 50 * x3 ≤ 100000; omega, by show -4000 ≤ 1200 + 100 * x4; omega, by show 1200 + 100 * x4 ≤ 4500; omega, g2, fun j hj => g3 _ (getD_mem r j 0 (by omega))⟩, by omega, by omega⟩
  simp only [spec_l05DrawOne.f, e1, e2, e3, e4, w1, w2, w3, w4, Option.bind_some]
  exact g1
def InvB (l : List S94) (i : Nat) : Prop := (∀ x ∈ l, BuildOk x) ∧ (∀ x ∈ l, ∃ q, q < i ∧ x.f0 = nmq q) ∧ ∀ j, 0 < j → j < l.length → Op.bytesLess (l.getD (j - 1) z94).f0.toList (l.getD j z94).f0.toList = true
theorem invB_up (l : List S94) (i : Nat) (h : InvB l i) : InvB l (i + 1) := ⟨h.1, fun x hx => by
  obtain ⟨q, h1, h2⟩ := h.2.1 x hx
  exact ⟨q, by omega, h2⟩, h.2.2⟩
theorem app_old (l : List S94) (x : S94) (j : Nat) (h : j < l.length) : (l ++ [x]).getD j z94 = l.getD j z94 := by
  rw [List.getD_eq_getElem?_getD, List.getElem?_append_left h, List.getD_eq_getElem?_getD]
theorem app_new (l : List S94) (x : S94) : (l ++ [x]).getD l.length z94 = x := by
  rw [List.getD_eq_getElem?_getD, List.getElem?_append_right (Nat.le_refl _), Nat.sub_self]
  rfl
theorem invB_app (l : List S94) (i : Nat) (h : InvB l i) (hi : i < 4) (x : S94) (hx : BuildOk x) (e : x.f0 = nmq i) : InvB (l ++ [x]) (i + 1) := by
  refine ⟨fun y hy => ?_, fun y hy => ?_, fun j h0 hj => ?_⟩
  · rcases List.mem_append.1 hy with z | z
    · exact h.1 y z
    · rw [List.mem_singleton.1 z]; exact hx
  · rcases List.mem_append.1 hy with z | z
    · obtain ⟨q, h1, h2⟩ := h.2.1 y z
      exact ⟨q, by omega, h2⟩
    · exact ⟨i, by omega, by rw [List.mem_singleton.1 z]; exact e⟩
  · rw [List.length_append, List.length_singleton] at hj
    by_cases c : j < l.length
    · rw [app_old l x j c, app_old l x (j - 1) (by omega)]
      exact h.2.2 j h0 c
    · have ej : j = l.length := by omega
      subst ej
      rw [app_new, app_old l x _ (by omega), e]
      obtain ⟨q, h1, h2⟩ := h.2.1 _ (getD_mem l (l.length - 1) z94 (by omega))
      rw [h2]
      exact nmq_less q i h1 hi
theorem drawLoop (c : List Int) (hc : BytesOk c) : ∀ (d i : Nat) (l : List S94) (p s : Int), i + d = 4 → l.length ≤ i → InvB l i → 0 ≤ p → p + 400 * (d : Int) ≤ 4611686018425000000 →
    ∃ (r : List S94) (p' s' : Int), Ev (fun k => spec_l05Draw.l0 k nms l (i : Int) c p s) (r, p', s') ∧ r.length ≤ 4 ∧ InvB r 4 := by
  intro d
  induction d with
  | zero =>
    intro i l p s hi hl hv h0 h1
    have e : i = 4 := by omega
    subst e
    refine ⟨l, p, s, Ev.succ ?_, hl, hv⟩
    simp only [spec_l05Draw.l0]
    exact Ev.neg (by decide) (Ev.now _)
  | succ d ih =>
    intro i l p s hi hl hv h0 h1
    have hlen : nms.length = 4 := rfl
    obtain ⟨b, p1, s1, e1, a0, a1⟩ := one_ev c hc p s 2 h0 (by omega) (by omega)
    cases b with
    | false =>
      obtain ⟨r, p', s', g1, g2⟩ := ih (i + 1) l p1 s1 (by omega) (by omega) (invB_up l i hv) (by omega) (by omega)
      refine ⟨r, p', s', Ev.succ ?_, g2⟩
      simp only [spec_l05Draw.l0, e1, Option.bind_some, wnat i (by omega)]
      exact Ev.pos (by omega) (Ev.neg (by decide) g1)
    | true =>
      obtain ⟨x, p2, s2, f1, f2, f3, f4, f5⟩ := drawBuild c hc p1 s1 (nmq i) (by omega) (by omega)
      obtain ⟨r, p', s', g1, g2⟩ := ih (i + 1) (l ++ [x]) p2 s2 (by omega) (by simp; omega) (invB_app l i hv (by omega) x f3 f2) (by omega) (by omega)
      refine ⟨r, p', s', Ev.succ ?_, g2⟩
      simp only [spec_l05Draw.l0, e1, Option.bind_some, wnat i (by omega)]
      exact Ev.pos (by omega) (Ev.pos (by first | rfl | trivial) (Ev.pos (by omega) (Ev.bind f1 (Ev.pos (by omega) g1))))
theorem draw_builds (c : List Int) (hc : BytesOk c) : ∃ r : List S94, Ev (fun k => spec_R8Buildings.f k c) r ∧ r.length ≤ 4 ∧ InvB r 4 := by
  obtain ⟨r, p', s', g1, g2, g3⟩ := drawLoop c hc 4 0 [] 0 0 (by omega) (by simp) ⟨(fun x hx => by cases hx), (fun x hx => by cases hx), (fun j h0 hj => by cases hj)⟩ (by omega) (by omega)
  refine ⟨r, ?_, g2, g3⟩
  simp only [spec_R8Buildings.f, spec_l00From.f, spec_l05Draw.f, Option.bind_some]
  exact Ev.bind g1 (Ev.now _)
theorem builds_true (l : List S94) (hn : l.length ≤ 4) (hv : InvB l 4) : Ev (fun k => impl_ValidBuildings.f k l) true := by
  have loop : ∀ d i : Nat, i + d = l.length → Ev (fun k => impl_ValidBuildings.l0 k l l (l.length : Int) (i : Int)) true := by
    intro d
    induction d with
    | zero =>
      intro i hi
      refine Ev.succ ?_
      simp only [impl_ValidBuildings.l0]
      exact Ev.neg (by omega) (Ev.now _)
    | succ d ih =>
      intro i hi
      have hx := getD_mem l i z94 (by omega)
      obtain ⟨q, q1, q2⟩ := hv.2.1 _ hx
      have g := (build_true _ (hv.1 _ hx) q q1 q2).1
      have er : rd_T94 l (i : Int) = l.getD i z94 := rfl
      have h := ih (i + 1) (by omega)
      refine Ev.succ ?_
      by_cases h0 : 0 < i
      · have w : wrap64 ((i : Int) - 1) = ((i - 1 : Nat) : Int) := by rw [wid (by omega) (by omega)]; omega
        have er2 : rd_T94 l ((i - 1 : Nat) : Int) = l.getD (i - 1) z94 := rfl
        have less := hv.2.2 i h0 (by omega)
        simp only [impl_ValidBuildings.l0, er, w, er2, wnat i (by omega)]
        exact Ev.pos (by omega) (Ev.pos (by omega) (Ev.pos (by omega) (Ev.bind g (Ev.pos rfl (Ev.pos (by omega) (Ev.pos (by omega) (Ev.pos (by omega) (Ev.pos less h))))))))
      · simp only [impl_ValidBuildings.l0, er, wnat i (by omega)]
        exact Ev.pos (by omega) (Ev.pos (by omega) (Ev.pos (by omega) (Ev.bind g (Ev.pos rfl (Ev.neg (by omega) h)))))
  simp only [impl_ValidBuildings.f]
  exact Ev.neg (by omega) (loop l.length 0 (by omega))
theorem dayDraw (c : List Int) (hc : BytesOk c) : ∀ (d i : Nat) (o : List Int) (t p s : Int), i + d = 24 → o.length = i → (∀ x ∈ o, -4000 ≤ x ∧ x ≤ 4500) → -1500 - 100 * (i : Int) ≤ t → t ≤ 1400 + 100 * (i : Int) → 0 ≤ p → p + 10 * (d : Int) ≤ 4611686018427000000 →
    ∃ r : List Int, Ev (fun k => spec_R8Day.l0 k o t (i : Int) c p s) r ∧ r.length = 24 ∧ ∀ x ∈ r, -4000 ≤ x ∧ x ≤ 4500 := by
  intro d
  induction d with
  | zero =>
    intro i o t p s hi ho hb t0 t1 h0 h1
    refine ⟨o, Ev.succ ?_, by omega, hb⟩
    simp only [spec_R8Day.l0]
    exact Ev.neg (by omega) (Ev.now _)
  | succ d ih =>
    intro i o t p s hi ho hb t0 t1 h0 h1
    obtain ⟨x, p1, s1, e1, l1, u1, a1, b1⟩ := pick_ev c hc p s 5 h0 (by omega) (by omega)
    have u1 := u1 (by omega)
    have w1 : wrap64 (50 * x) = 50 * x := wid (by omega) (by omega)
    have w2 : wrap64 (50 * x - 100) = 50 * x - 100 := wid (by omega) (by omega)
    have w3 : wrap64 (t + (50 * x - 100)) = t + (50 * x - 100) := wid (by omega) (by omega)
    obtain ⟨r, g1, g2, g3⟩ := ih (i + 1) (o ++ [t]) (t + (50 * x - 100)) p1 s1 (by omega) (by simp; omega) (fun y hy => by
      rcases List.mem_append.1 hy with h | h
      · exact hb y h
      · rw [List.mem_singleton.1 h]; omega) (by omega) (by omega) (by omega) (by omega)
    refine ⟨r, Ev.succ ?_, g2, g3⟩
    simp only [spec_R8Day.l0, e1, Option.bind_some, w1, w2, w3, wnat i (by omega)]
    exact Ev.pos (by omega) (Ev.pos (by omega) g1)
theorem draw_day (c : List Int) (hc : BytesOk c) : ∃ r : List Int, Ev (fun k => spec_R8Day.f k c) r ∧ DayOk r := by
  obtain ⟨x, p1, s1, e1, l1, u1, a1, b1⟩ := pick_ev c hc 0 0 30 (by omega) (by omega) (by omega)
  have u1 := u1 (by omega)
  have w1 : wrap64 (100 * x) = 100 * x := wid (by omega) (by omega)
  have w2 : wrap64 (100 * x - 1500) = 100 * x - 1500 := wid (by omega) (by omega)
  obtain ⟨r, g1, g2, g3⟩ := dayDraw c hc 24 0 [] (100 * x - 1500) p1 s1 (by omega) rfl (fun x hx => by cases hx) (by omega) (by omega) (by omega) (by omega)
  refine ⟨r, ?_, g2, fun j hj => g3 _ (getD_mem r j 0 (by omega))⟩
  simp only [spec_R8Day.f, spec_l00From.f, Option.bind_some, e1, w1, w2]
  exact g1
end Go.Proofs.Ytjccjmjnlblhaaa.QForecasts
