/- DrawShares: tenants, weights and money that are drawn from some bytes: the draws come to an end. Conditions: bytes. -/
import Derived.Test.YtglhbjmagfchiaaQSharesx1
import Derived.Test.YtglhbjmagfchiaaQSharesx3
import Derived.Test.YtglhbjmagfchiaaQSharesxL
import Derived.Test.YtglhbjmagfchiaaQSharesxDSrcText
namespace Go.Proofs.Ytglhbjmagfchiaa.QShares
open Go.RowKit Go.Proofs.YtglhbjmagfchiaaW.PrintWords Go.Proofs.Ytglhbjmagfchiaa.QOpen Go.Proofs.Ytglhbjmagfchiaa.QEv
set_option linter.unusedVariables false
set_option linter.unusedSimpArgs false
theorem drawOne_ev (c : List Int) (hc : BytesOk c) (p s : Int) (n : ByteArray) (h0 : 0 ≤ p) (h1 : p ≤ 4611686018427300000) : ∃ a u p' s' : Int, spec_l22DrawOne.f c p s n = some (n, a, u, p', s') ∧ p ≤ p' ∧ p' ≤ p + 4 := by
  obtain ⟨x, p1, s1, e, _, _, a0, a1⟩ := pick_ev c hc p s 120 h0 (by omega) (by omega)
  obtain ⟨y, p2, s2, e2, _, b0, b1⟩ := among_ev c hc p1 s1 [0, 100, 1500, 777, 3000] (by omega) (by omega) (by decide) (by decide)
  simp only [spec_l22DrawOne.f, e, e2, Option.bind_some]
  exact ⟨_, _, _, _, rfl, by omega, by omega⟩
theorem bend_ev (c : List Int) (hc : BytesOk c) (p s : Int) (n : ByteArray) (a u : Int) (h0 : 0 ≤ p) (h1 : p ≤ 4611686018427300000) (hn : n.size ≤ 1000) : ∃ (n' : ByteArray) (a' u' p' s' : Int), spec_l22Bend.f c p s n a u = some (n', a', u', p', s') ∧ p ≤ p' ∧ p' ≤ p + 4 ∧ n'.size ≤ 1000 := by
  obtain ⟨x, p1, s1, e, _, _, a0, a1⟩ := pick_ev c hc p s 18 h0 (by omega) (by omega)
  simp only [spec_l22Bend.f, e, Option.bind_some]
  by_cases c0 : x = 0
  · obtain ⟨y, p2, s2, e2, _, b0, b1⟩ := among_ev c hc p1 s1 [0, 1, 10000, 10001] (by omega) (by omega) (by decide) (by decide)
    rw [if_pos c0]
    simp only [e2, Option.bind_some]
    exact ⟨_, _, _, _, _, rfl, by omega, by omega, hn⟩
  · rw [if_neg c0]
    by_cases c1 : x = 1
    · obtain ⟨y, p2, s2, e2, _, b0, b1⟩ := among_ev c hc p1 s1 [(-1), 1000000, 1000001] (by omega) (by omega) (by decide) (by decide)
      rw [if_pos c1]
      simp only [e2, Option.bind_some]
      exact ⟨_, _, _, _, _, rfl, by omega, by omega, hn⟩
    · rw [if_neg c1]
      by_cases c2 : x = 2
      · obtain ⟨y, p2, s2, e2, hy, b0, b1⟩ := text_ev c hc p1 s1 [(⟨#[]⟩ : ByteArray), (⟨#[84]⟩ : ByteArray)] (by omega) (by omega) (by decide) (by decide)
        rw [if_pos c2]
        simp only [e2, Option.bind_some]
        refine ⟨_, _, _, _, _, rfl, by omega, by omega, ?_⟩
        simp only [List.mem_cons, List.mem_nil_iff, or_false] at hy
        rcases hy with rfl | rfl <;> decide
      · rw [if_neg c2]
        exact ⟨_, _, _, _, _, rfl, by omega, by omega, hn⟩
def NamesOk (l : List S243) : Prop := ∀ x ∈ l, x.f0.size ≤ 1000
theorem names_app (l : List S243) (x : S243) (h : NamesOk l) (hx : x.f0.size ≤ 1000) : NamesOk (l ++ [x]) := fun y hy => by
  rcases List.mem_append.1 hy with z | z
  · exact h y z
  · rw [List.mem_singleton.1 z]
    exact hx
theorem draw2 (c : List Int) (p s : Int) : ∀ (d i : Nat) (l : List S243), i + d = l.length → l.length ≤ 1000 → NamesOk l → ∃ (r : List S243), Ev (fun k => spec_l22Draw.l2 k l (i : Int) c p s) (r, p, s) ∧ r.length ≤ 1000 ∧ NamesOk r := by
  intro d
  induction d with
  | zero =>
    intro i l hi hn hl
    refine ⟨l, Ev.succ ?_, hn, hl⟩
    simp only [spec_l22Draw.l2]
    exact Ev.neg (by omega) (Ev.now _)
  | succ d ih =>
    intro i l hi hn hl
    obtain ⟨r, h1, h2, h3⟩ := ih (i + 1) (l.set ((i : Int)).toNat (⟨(rd_T243 l (i : Int)).f0, (rd_T243 l (i : Int)).f1, 0⟩ : S243)) (by simp; omega) (by simpa using hn) (fun x hx => by
      rcases List.mem_or_eq_of_mem_set hx with z | z
      · exact hl x z
      · rw [z]
        exact hl (rd_T243 l (i : Int)) (getD_mem l i z243 (by omega)))
    refine ⟨r, Ev.succ ?_, h2, h3⟩
    simp only [spec_l22Draw.l2, wnat i (by omega)]
    exact Ev.pos (by omega) (Ev.pos (by omega) h1)
theorem draw1 (c : List Int) (hc : BytesOk c) (m : Int) (hm : m ≤ 13) : ∀ (d : Nat) (i : Nat) (l : List S243) (p s : Int), m ≤ (i : Int) + d → l.length ≤ i → i ≤ 13 → NamesOk l → 0 ≤ p → p + 10 * (d : Int) ≤ 4611686018427200000 →
    ∃ (r : List S243) (p' s' : Int), Ev (fun k => spec_l22Draw.l1 k l m (i : Int) c p s) (r, p', s') ∧ r.length ≤ 1000 ∧ NamesOk r ∧ 0 ≤ p' ∧ p' ≤ p + 10 * (d : Int) := by
  intro d
  induction d with
  | zero =>
    intro i l p s hi hn hi2 hl h0 h1
    refine ⟨l, p, s, Ev.succ ?_, by omega, hl, h0, by omega⟩
    simp only [spec_l22Draw.l1]
    exact Ev.neg (by omega) (Ev.now _)
  | succ d ih =>
    intro i l p s hi hn hi2 hl h0 h1
    by_cases c0 : (i : Int) < m
    · have hz : ((⟨#[110]⟩ : ByteArray) ++ strOfNums [(wrap64 (97 + (i : Int))) % 256]).size = 2 := by
        rw [ByteArray.size_append, strOne]
        rfl
      obtain ⟨a, u, p1, s1, e, b0, b1⟩ := drawOne_ev c hc p s ((⟨#[110]⟩ : ByteArray) ++ strOfNums [(wrap64 (97 + (i : Int))) % 256]) h0 (by omega)
      obtain ⟨r, p', s', g1, g2, g3, g4, g5⟩ := ih (i + 1) (l ++ [(⟨(⟨#[110]⟩ : ByteArray) ++ strOfNums [(wrap64 (97 + (i : Int))) % 256], a, u⟩ : S243)]) p1 s1 (by omega) (by simp; omega) (by omega) (names_app _ _ hl (by dsimp only; rw [hz]; omega)) (by omega) (by omega)
      refine ⟨r, p', s', Ev.succ ?_, g2, g3, g4, by omega⟩
      simp only [spec_l22Draw.l1, wnat i (by omega), e, Option.bind_some]
      refine Ev.pos c0 (Ev.pos (by rw [strOne]; omega) ?_)
      exact Ev.pos (by omega) g1
    · refine ⟨l, p, s, Ev.succ ?_, by omega, hl, h0, by omega⟩
      simp only [spec_l22Draw.l1]
      exact Ev.neg c0 (Ev.now _)
theorem draw0 (c : List Int) (hc : BytesOk c) (ns : List ByteArray) (hns : ∀ x ∈ ns, x.size ≤ 1000) (hlen : ns.length ≤ 5) : ∀ (d i : Nat) (l : List S243) (p s : Int), i + d = ns.length → l.length ≤ i → NamesOk l → 0 ≤ p → p + 10 * (d : Int) ≤ 4611686018427100000 →
    ∃ (r : List S243) (p' s' : Int), Ev (fun k => spec_l22Draw.l0 k ns l (i : Int) c p s) (r, p', s') ∧ r.length ≤ 1000 ∧ NamesOk r ∧ 0 ≤ p' ∧ p' ≤ p + 10 * (d : Int) + 1000 := by
  intro d
  induction d with
  | zero =>
    intro i l p s hi hn hl h0 h1
    obtain ⟨x, p1, s1, e, x0, x1, a0, a1⟩ := pick_ev c hc p s 20 h0 (by omega) (by omega)
    by_cases c0 : x = 0
    · obtain ⟨a, u, p2, s2, e2, b0, b1⟩ := drawOne_ev c hc p1 s1 (⟨#[122, 122]⟩ : ByteArray) (by omega) (by omega)
      obtain ⟨n', a', u', p3, s3, e3, d0, d1, hs⟩ := bend_ev c hc p2 s2 (⟨#[122, 122]⟩ : ByteArray) a u (by omega) (by omega) (by decide)
      refine ⟨l ++ [(⟨n', a', u'⟩ : S243)], p3, s3, Ev.succ ?_, by simp; omega, names_app _ _ hl hs, by omega, by omega⟩
      simp only [spec_l22Draw.l0, e, e2, e3, Option.bind_some]
      exact Ev.neg (by omega) (Ev.pos c0 (Ev.pos (by omega) (Ev.now _)))
    · by_cases c1 : x = 1
      · obtain ⟨y, p2, s2, e2, hy, b0, b1⟩ := among_ev c hc p1 s1 [12, 13] (by omega) (by omega) (by decide) (by decide)
        have hy13 : 0 ≤ y ∧ y ≤ 13 := by
          simp only [List.mem_cons, List.mem_nil_iff, or_false] at hy
          omega
        obtain ⟨r, p', s', g1, g2, g3, g4, g5⟩ := draw1 c hc y (by omega) 13 0 [] p2 s2 (by omega) (by simp) (by omega) (fun x hx => by cases hx) (by omega) (by omega)
        refine ⟨r, p', s', Ev.succ ?_, g2, g3, g4, by omega⟩
        simp only [spec_l22Draw.l0, e, e2, Option.bind_some]
        exact Ev.neg (by omega) (Ev.neg c0 (Ev.pos c1 g1))
      · by_cases c2 : x = 2
        · obtain ⟨r, g1, g2, g3⟩ := draw2 c p1 s1 l.length 0 l (by omega) (by omega) hl
          refine ⟨r, p1, s1, Ev.succ ?_, g2, g3, by omega, by omega⟩
          simp only [spec_l22Draw.l0, e, Option.bind_some]
          exact Ev.neg (by omega) (Ev.neg c0 (Ev.neg c1 (Ev.pos c2 g1)))
        · by_cases c3 : x = 3
          · obtain ⟨a, u, p2, s2, e2, b0, b1⟩ := drawOne_ev c hc p1 s1 (⟨#[97, 98, 99, 100, 101, 102, 103, 104, 105, 106]⟩ : ByteArray) (by omega) (by omega)
            refine ⟨[(⟨(⟨#[97, 98, 99, 100, 101, 102, 103, 104, 105, 106]⟩ : ByteArray), a, u⟩ : S243)], p2, s2, Ev.succ ?_, by simp, fun x hx => by rw [List.mem_singleton.1 hx]; dsimp only; decide, by omega, by omega⟩
            simp only [spec_l22Draw.l0, e, e2, Option.bind_some]
            exact Ev.neg (by omega) (Ev.neg c0 (Ev.neg c1 (Ev.neg c2 (Ev.pos c3 (Ev.now _)))))
          · refine ⟨l, p1, s1, Ev.succ ?_, by omega, hl, by omega, by omega⟩
            simp only [spec_l22Draw.l0, e, Option.bind_some]
            exact Ev.neg (by omega) (Ev.neg c0 (Ev.neg c1 (Ev.neg c2 (Ev.neg c3 (Ev.now _)))))
  | succ d ih =>
    intro i l p s hi hn hl h0 h1
    obtain ⟨b, p1, s1, e, a0, a1⟩ := one_ev c hc p s 3 h0 (by omega) (by omega)
    cases b with
    | true =>
      obtain ⟨r, p', s', g1, g2, g3, g4, g5⟩ := ih (i + 1) l p1 s1 (by omega) (by omega) hl (by omega) (by omega)
      refine ⟨r, p', s', Ev.succ ?_, g2, g3, g4, by omega⟩
      simp only [spec_l22Draw.l0, e, Option.bind_some, wnat i (by omega)]
      exact Ev.pos (by omega) (Ev.pos (by first | rfl | trivial) g1)
    | false =>
      have hz := hns _ (getD_mem ns i ByteArray.empty (by omega))
      have er : rdOf ByteArray.empty ns (i : Int) = ns.getD i ByteArray.empty := rfl
      obtain ⟨a, u, p2, s2, e2, b0, b1⟩ := drawOne_ev c hc p1 s1 (ns.getD i ByteArray.empty) (by omega) (by omega)
      obtain ⟨r, p', s', g1, g2, g3, g4, g5⟩ := ih (i + 1) (l ++ [(⟨ns.getD i ByteArray.empty, a, u⟩ : S243)]) p2 s2 (by omega) (by simp; omega) (names_app _ _ hl hz) (by omega) (by omega)
      refine ⟨r, p', s', Ev.succ ?_, g2, g3, g4, by omega⟩
      simp only [spec_l22Draw.l0, e, er, e2, Option.bind_some, wnat i (by omega)]
      exact Ev.pos (by omega) (Ev.neg (by decide) (Ev.pos (by omega) (Ev.pos (by omega) g1)))
theorem drawMoney_ev (c : List Int) (hc : BytesOk c) (p s : Int) (h0 : 0 ≤ p) (h1 : p ≤ 4611686018427300000) : ∃ m p' s' : Int, spec_l22DrawMoney.f c p s = some (m, p', s') ∧ 0 ≤ p' ∧ p' ≤ p + 10 := by
  obtain ⟨b, p1, s1, e, a0, a1⟩ := one_ev c hc p s 9 h0 (by omega) (by omega)
  simp only [spec_l22DrawMoney.f, e, Option.bind_some]
  cases b with
  | true =>
    obtain ⟨y, p2, s2, e2, hy, b0, b1⟩ := among_ev c hc p1 s1 [(-1), 0, 1000000000, 1000000001] (by omega) (by omega) (by decide) (by decide)
    rw [if_pos rfl]
    simp only [e2, Option.bind_some]
    exact ⟨_, _, _, rfl, by omega, by omega⟩
  | false =>
    obtain ⟨y, p2, s2, e2, _, _, b0, b1⟩ := pick_ev c hc p1 s1 30000 (by omega) (by omega) (by omega)
    rw [if_neg (by decide)]
    simp only [e2, Option.bind_some]
    exact ⟨_, _, _, rfl, by omega, by omega⟩
theorem drawFixed_ev (c : List Int) (hc : BytesOk c) (p s : Int) (h0 : 0 ≤ p) (h1 : p ≤ 4611686018427300000) : ∃ m p' s' : Int, spec_l22DrawFixed.f c p s = some (m, p', s') := by
  obtain ⟨y, p2, s2, e2, hy, b0, b1⟩ := among_ev c hc p s [0, 300, 500, 1000, 1001, (-1), 333] (by omega) (by omega) (by decide) (by decide)
  simp only [spec_l22DrawFixed.f, e2, Option.bind_some]
  exact ⟨_, _, _, rfl⟩
theorem drawLargest_ev (c : List Int) (hc : BytesOk c) : ∃ (l : List S243) (m f : Int), Ev (fun k => spec_DrawLargestShare.f k c) (l, m, f) ∧ l.length ≤ 1000 ∧ NamesOk l := by
  obtain ⟨l, p1, s1, g1, g2, g3, g4, g5⟩ := draw0 c hc [(⟨#[97, 110, 97]⟩ : ByteArray), (⟨#[98, 101, 110]⟩ : ByteArray), (⟨#[98, 101, 110, 98]⟩ : ByteArray), (⟨#[99, 108, 97, 114, 97]⟩ : ByteArray), (⟨#[100, 111, 114, 97]⟩ : ByteArray)] (fun x hx => by
    simp only [List.mem_cons, List.mem_nil_iff, or_false] at hx
    rcases hx with rfl | rfl | rfl | rfl | rfl <;> decide) (by decide) 5 0 [] 0 0 rfl (by simp) (fun x hx => by cases hx) (by omega) (by omega)
  obtain ⟨m, p2, s2, e2, a0, a1⟩ := drawMoney_ev c hc p1 s1 g4 (by omega)
  obtain ⟨f, p3, s3, e3⟩ := drawFixed_ev c hc p2 s2 a0 (by omega)
  refine ⟨l, m, f, ?_, g2, g3⟩
  have g1' : Ev (fun k => spec_l22Draw.f k c 0 0) (l, p1, s1) := by
    simp only [spec_l22Draw.f]
    exact g1
  simp only [spec_DrawLargestShare.f, spec_l00From.f, Option.bind_some]
  refine Ev.bind g1' ?_
  simp only [e2, e3, Option.bind_some]
  exact Ev.now _
theorem drawWeights (c : List Int) (hc : BytesOk c) : ∀ (d : Nat) (n : Int) (w : List Int) (p s : Int), n ≤ (d : Int) → w.length ≤ 100 - d → d ≤ 10 → 0 ≤ p → p + 10 * (d : Int) ≤ 4611686018427100000 →
    ∃ (m : Int) (r : List Int), Ev (fun k => spec_DrawDivideMoney.l0 k w n c p s) (m, r) ∧ r.length ≤ 1000 := by
  intro d
  induction d with
  | zero =>
    intro n w p s hn hw hd h0 h1
    obtain ⟨x, p1, s1, e, x0, x1, a0, a1⟩ := pick_ev c hc p s 16 h0 (by omega) (by omega)
    by_cases c0 : x = 0
    · obtain ⟨y, p2, s2, e2, hy, b0, b1⟩ := among_ev c hc p1 s1 [(-1), 1000000, 1000001] (by omega) (by omega) (by decide) (by decide)
      obtain ⟨m, p3, s3, e3, _, _⟩ := drawMoney_ev c hc p2 s2 (by omega) (by omega)
      refine ⟨m, w ++ [y], Ev.succ ?_, by simp; omega⟩
      simp only [spec_DrawDivideMoney.l0, e, e2, e3, Option.bind_some]
      exact Ev.neg (by omega) (Ev.pos c0 (Ev.pos (by omega) (Ev.now _)))
    · by_cases c1 : x = 1
      · obtain ⟨y, p2, s2, e2, hy, b0, b1⟩ := among_ev c hc p1 s1 [12, 13] (by omega) (by omega) (by decide) (by decide)
        have hy13 : 0 ≤ y ∧ y ≤ 13 := by
          simp only [List.mem_cons, List.mem_nil_iff, or_false] at hy
          omega
        obtain ⟨m, p3, s3, e3, _, _⟩ := drawMoney_ev c hc p2 s2 (by omega) (by omega)
        refine ⟨m, List.replicate y.toNat 0, Ev.succ ?_, by simp; omega⟩
        simp only [spec_DrawDivideMoney.l0, e, e2, e3, Option.bind_some]
        exact Ev.neg (by omega) (Ev.neg c0 (Ev.pos c1 (Ev.pos (by omega) (Ev.pos (by omega) (Ev.now _)))))
      · obtain ⟨m, p3, s3, e3, _, _⟩ := drawMoney_ev c hc p1 s1 (by omega) (by omega)
        refine ⟨m, w, Ev.succ ?_, by omega⟩
        simp only [spec_DrawDivideMoney.l0, e, e3, Option.bind_some]
        exact Ev.neg (by omega) (Ev.neg c0 (Ev.neg c1 (Ev.now _)))
  | succ d ih =>
    intro n w p s hn hw hd h0 h1
    by_cases c0 : n > 0
    · obtain ⟨y, p2, s2, e2, hy, b0, b1⟩ := among_ev c hc p s [0, 1, 1, 3, 50] (by omega) (by omega) (by decide) (by decide)
      have w1 : wrap64 (n - 1) = n - 1 := wid (by omega) (by omega)
      obtain ⟨m, r, g1, g2⟩ := ih (n - 1) (w ++ [y]) p2 s2 (by omega) (by simp; omega) (by omega) (by omega) (by omega)
      refine ⟨m, r, Ev.succ ?_, g2⟩
      simp only [spec_DrawDivideMoney.l0, e2, Option.bind_some, w1]
      exact Ev.pos c0 (Ev.pos (by omega) g1)
    · obtain ⟨m, r, g1, g2⟩ := ih n w p s (by omega) (by omega) (by omega) h0 (by omega)
      exact ⟨m, r, g1, g2⟩
theorem drawDivide_ev (c : List Int) (hc : BytesOk c) : ∃ (m : Int) (w : List Int), Ev (fun k => spec_DrawDivideMoney.f k c) (m, w) ∧ w.length ≤ 1000 := by
  obtain ⟨x, p1, s1, e, x0, x1, a0, a1⟩ := pick_ev c hc 0 0 6 (by omega) (by omega) (by omega)
  have x1 := x1 (by omega)
  obtain ⟨m, r, g1, g2⟩ := drawWeights c hc 6 x [] p1 s1 (by omega) (by simp) (by omega) (by omega) (by omega)
  refine ⟨m, r, ?_, g2⟩
  simp only [spec_DrawDivideMoney.f, spec_l00From.f, e, Option.bind_some]
  exact g1
end Go.Proofs.Ytglhbjmagfchiaa.QShares
