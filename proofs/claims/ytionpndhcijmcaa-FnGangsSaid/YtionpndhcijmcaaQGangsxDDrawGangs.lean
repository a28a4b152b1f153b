/- DrawGangs: repairs, an order and gangs that are drawn from some bytes: the draws come to an end. Conditions: bytes. -/
import Derived.Test.YtionpndhcijmcaaQGangsx5
import Derived.Test.YtionpndhcijmcaaQGangsx6
import Derived.Test.YtionpndhcijmcaaQGangsx7
import Derived.Test.YtionpndhcijmcaaQGangsxL
import Derived.Test.YtionpndhcijmcaaQGangsxDSrc
import Derived.Test.YtionpndhcijmcaaQGangsxDGangsI
namespace Go.Proofs.Ytionpndhcijmcaa.QGangs
open Go.RowKit Go.Proofs.YtionpndhcijmcaaW.PrintWords Go.Proofs.Ytionpndhcijmcaa.QOpen Go.Proofs.Ytionpndhcijmcaa.QEv
set_option linter.unusedVariables false
set_option linter.unusedSimpArgs false
theorem dec_ev (n : Nat) (hn : n ≤ 9) : ∃ t : ByteArray, Ev (fun k => spec_l01Dec.f k (n : Int)) t ∧ t.size ≤ 1 := by
  by_cases c : n = 0
  · subst c
    refine ⟨(⟨#[48]⟩ : ByteArray), ?_, by decide⟩
    simp only [spec_l01Dec.f]
    exact Ev.pos rfl (Ev.now _)
  · have e1 : Int.tmod (n : Int) 10 = (n : Int) := by rw [Int.tmod_eq_emod_of_nonneg (by omega)]; omega
    have e2 : Int.tdiv (n : Int) 10 = 0 := by rw [Int.tdiv_eq_ediv_of_nonneg (by omega)]; omega
    have w0 : wrap64 (0 : Int) = 0 := wid (by omega) (by omega)
    have w1 : wrap64 ((1 : Int) - 1) = 0 := wid (by omega) (by omega)
    have w2 : wrap64 ((0 : Int) - 1) = -1 := wid (by omega) (by omega)
    obtain ⟨v, hv⟩ : ∃ v : Int, (wrap64 (48 + (n : Int))) % 256 = v := ⟨_, rfl⟩
    have er : rd [v] 0 = v := rfl
    refine ⟨strOfNums [v], ?_, by rw [strOne]; omega⟩
    simp only [spec_l01Dec.f]
    refine Ev.neg (by omega) (Ev.succ ?_)
    simp only [spec_l01Dec.l0, e1, e2, w0, hv, List.nil_append]
    refine Ev.neg (by omega) (Ev.neg (by omega) (Ev.pos (by simp) (Ev.succ ?_)))
    simp only [spec_l01Dec.l0]
    refine Ev.pos trivial (Ev.neg (by omega) (Ev.succ ?_))
    simp only [spec_l01Dec.j1, List.length_singleton, Int.natCast_one, w1]
    refine Ev.succ ?_
    simp only [spec_l01Dec.l1, w2, List.nil_append, er]
    refine Ev.pos (by omega) (Ev.pos (by omega) (Ev.pos (by simp) (Ev.pos (by simp) (Ev.succ ?_))))
    simp only [spec_l01Dec.l1]
    exact Ev.neg (by omega) (Ev.now _)
theorem one20_ev (c : List Int) (hc : BytesOk c) (p s : Int) (n : ByteArray) (h0 : 0 ≤ p) (h1 : p ≤ 4611686018427300000) : ∃ a u v p' s' : Int, spec_l20DrawOne.f c p s n = some (n, a, u, v, p', s') ∧ p ≤ p' ∧ p' ≤ p + 6 := by
  obtain ⟨x, p1, s1, e, _, _, a0, a1⟩ := pick_ev c hc p s 12 h0 (by omega) (by omega)
  obtain ⟨y, p2, s2, e2, _, _, b0, b1⟩ := pick_ev c hc p1 s1 60 (by omega) (by omega) (by omega)
  obtain ⟨z, p3, s3, e3, _, c0, c1⟩ := among_ev c hc p2 s2 [0, 0, 0, 5, 20] (by omega) (by omega) (by decide) (by decide)
  simp only [spec_l20DrawOne.f, e, e2, e3, Option.bind_some]
  exact ⟨_, _, _, _, _, rfl, by omega, by omega⟩
theorem bend20_ev (c : List Int) (hc : BytesOk c) (p s : Int) (n : ByteArray) (a u v : Int) (h0 : 0 ≤ p) (h1 : p ≤ 4611686018427300000) : ∃ a' u' v' p' s' : Int, spec_l20Bend.f c p s n a u v = some (n, a', u', v', p', s') ∧ p ≤ p' ∧ p' ≤ p + 4 := by
  obtain ⟨x, p1, s1, e, _, _, a0, a1⟩ := pick_ev c hc p s 18 h0 (by omega) (by omega)
  simp only [spec_l20Bend.f, e, Option.bind_some]
  by_cases c0 : x = 0
  · obtain ⟨y, p2, s2, e2, _, b0, b1⟩ := among_ev c hc p1 s1 [0, 100, 101] (by omega) (by omega) (by decide) (by decide)
    rw [if_pos c0]
    simp only [e2, Option.bind_some]
    exact ⟨_, _, _, _, _, rfl, by omega, by omega⟩
  · rw [if_neg c0]
    by_cases c1 : x = 1
    · obtain ⟨y, p2, s2, e2, _, b0, b1⟩ := among_ev c hc p1 s1 [(-1), 100000, 100001] (by omega) (by omega) (by decide) (by decide)
      rw [if_pos c1]
      simp only [e2, Option.bind_some]
      exact ⟨_, _, _, _, _, rfl, by omega, by omega⟩
    · rw [if_neg c1]
      by_cases c2 : x = 2
      · obtain ⟨y, p2, s2, e2, _, b0, b1⟩ := among_ev c hc p1 s1 [(-1), 1000, 1001] (by omega) (by omega) (by decide) (by decide)
        rw [if_pos c2]
        simp only [e2, Option.bind_some]
        exact ⟨_, _, _, _, _, rfl, by omega, by omega⟩
      · rw [if_neg c2]
        exact ⟨_, _, _, _, _, rfl, by omega, by omega⟩
theorem ids_app (l : List S47) (x : S47) (h : IdsOk l) (hx : x.f0.size ≤ 1000) : IdsOk (l ++ [x]) := fun y hy => by
  rcases List.mem_append.1 hy with z | z
  · exact h y z
  · rw [List.mem_singleton.1 z]
    exact hx
theorem draw20_1 (c : List Int) (hc : BytesOk c) (m : Int) (hm : m ≤ 9) : ∀ (d : Nat) (i : Nat) (l : List S47) (p s : Int), m ≤ (i : Int) + d → l.length ≤ i → i ≤ 9 → IdsOk l → 0 ≤ p → p + 10 * (d : Int) ≤ 4611686018427200000 →
    ∃ (r : List S47) (p' s' : Int), Ev (fun k => spec_l20Draw.l1 k l m (i : Int) c p s) (r, p', s') ∧ r.length ≤ 20 ∧ IdsOk r ∧ 0 ≤ p' ∧ p' ≤ p + 10 * (d : Int) := by
  intro d
  induction d with
  | zero =>
    intro i l p s hi hn hi2 hl h0 h1
    refine ⟨l, p, s, Ev.succ ?_, by omega, hl, h0, by omega⟩
    simp only [spec_l20Draw.l1]
    exact Ev.neg (by omega) (Ev.now _)
  | succ d ih =>
    intro i l p s hi hn hi2 hl h0 h1
    by_cases c0 : (i : Int) < m
    · obtain ⟨t, ht, hts⟩ := dec_ev i (by omega)
      have hz : ((⟨#[110]⟩ : ByteArray) ++ t).size ≤ 2 := by
        rw [ByteArray.size_append]
        have : (⟨#[110]⟩ : ByteArray).size = 1 := rfl
        omega
      obtain ⟨a, u, v, p1, s1, e, b0, b1⟩ := one20_ev c hc p s ((⟨#[110]⟩ : ByteArray) ++ t) h0 (by omega)
      obtain ⟨r, p', s', g1, g2, g3, g4, g5⟩ := ih (i + 1) (l ++ [(⟨(⟨#[110]⟩ : ByteArray) ++ t, a, u, v⟩ : S47)]) p1 s1 (by omega) (by simp; omega) (by omega) (ids_app _ _ hl (by dsimp only; omega)) (by omega) (by omega)
      refine ⟨r, p', s', Ev.succ ?_, g2, g3, g4, by omega⟩
      simp only [spec_l20Draw.l1, wnat i (by omega)]
      refine Ev.pos c0 (Ev.bind ht (Ev.pos (by omega) ?_))
      simp only [e, Option.bind_some]
      exact Ev.pos (by omega) g1
    · refine ⟨l, p, s, Ev.succ ?_, by omega, hl, h0, by omega⟩
      simp only [spec_l20Draw.l1]
      exact Ev.neg c0 (Ev.now _)
theorem draw20_0 (c : List Int) (hc : BytesOk c) (ns : List ByteArray) (hns : ∀ x ∈ ns, x.size ≤ 1000) (hlen : ns.length ≤ 5) : ∀ (d i : Nat) (l : List S47) (p s : Int), i + d = ns.length → l.length ≤ i → IdsOk l → 0 ≤ p → p + 10 * (d : Int) ≤ 4611686018427100000 →
    ∃ (r : List S47) (p' s' : Int), Ev (fun k => spec_l20Draw.l0 k ns l (i : Int) c p s) (r, p', s') ∧ r.length ≤ 20 ∧ IdsOk r ∧ 0 ≤ p' ∧ p' ≤ p + 10 * (d : Int) + 1000 := by
  intro d
  induction d with
  | zero =>
    intro i l p s hi hn hl h0 h1
    obtain ⟨x, p1, s1, e, x0, x1, a0, a1⟩ := pick_ev c hc p s 24 h0 (by omega) (by omega)
    by_cases c0 : x = 0
    · obtain ⟨a, u, v, p2, s2, e2, b0, b1⟩ := one20_ev c hc p1 s1 (⟨#[122, 122]⟩ : ByteArray) (by omega) (by omega)
      obtain ⟨a', u', v', p3, s3, e3, d0, d1⟩ := bend20_ev c hc p2 s2 (⟨#[122, 122]⟩ : ByteArray) a u v (by omega) (by omega)
      refine ⟨l ++ [(⟨(⟨#[122, 122]⟩ : ByteArray), a', u', v'⟩ : S47)], p3, s3, Ev.succ ?_, by simp; omega, ids_app _ _ hl (by dsimp only; decide), by omega, by omega⟩
      simp only [spec_l20Draw.l0, e, e2, e3, Option.bind_some]
      exact Ev.neg (by omega) (Ev.pos c0 (Ev.pos (by omega) (Ev.now _)))
    · by_cases c1 : x = 1
      · obtain ⟨y, p2, s2, e2, hy, b0, b1⟩ := among_ev c hc p1 s1 [7, 9] (by omega) (by omega) (by decide) (by decide)
        have hy9 : 0 ≤ y ∧ y ≤ 9 := by
          simp only [List.mem_cons, List.mem_nil_iff, or_false] at hy
          omega
        obtain ⟨r, p', s', g1, g2, g3, g4, g5⟩ := draw20_1 c hc y (by omega) 9 0 [] p2 s2 (by omega) (by simp) (by omega) (fun x hx => by cases hx) (by omega) (by omega)
        refine ⟨r, p', s', Ev.succ ?_, g2, g3, g4, by omega⟩
        simp only [spec_l20Draw.l0, e, e2, Option.bind_some]
        exact Ev.neg (by omega) (Ev.neg c0 (Ev.pos c1 g1))
      · refine ⟨l, p1, s1, Ev.succ ?_, by omega, hl, by omega, by omega⟩
        simp only [spec_l20Draw.l0, e, Option.bind_some]
        exact Ev.neg (by omega) (Ev.neg c0 (Ev.neg c1 (Ev.now _)))
  | succ d ih =>
    intro i l p s hi hn hl h0 h1
    obtain ⟨b, p1, s1, e, a0, a1⟩ := one_ev c hc p s 3 h0 (by omega) (by omega)
    cases b with
    | true =>
      obtain ⟨r, p', s', g1, g2, g3, g4, g5⟩ := ih (i + 1) l p1 s1 (by omega) (by omega) hl (by omega) (by omega)
      refine ⟨r, p', s', Ev.succ ?_, g2, g3, g4, by omega⟩
      simp only [spec_l20Draw.l0, e, Option.bind_some, wnat i (by omega)]
      exact Ev.pos (by omega) (Ev.pos (by first | rfl | trivial) g1)
    | false =>
      have hz := hns _ (getD_mem ns i ByteArray.empty (by omega))
      have er : rdOf ByteArray.empty ns (i : Int) = ns.getD i ByteArray.empty := rfl
      obtain ⟨a, u, v, p2, s2, e2, b0, b1⟩ := one20_ev c hc p1 s1 (ns.getD i ByteArray.empty) (by omega) (by omega)
      obtain ⟨r, p', s', g1, g2, g3, g4, g5⟩ := ih (i + 1) (l ++ [(⟨ns.getD i ByteArray.empty, a, u, v⟩ : S47)]) p2 s2 (by omega) (by simp; omega) (ids_app _ _ hl hz) (by omega) (by omega)
      refine ⟨r, p', s', Ev.succ ?_, g2, g3, g4, by omega⟩
      simp only [spec_l20Draw.l0, e, er, e2, Option.bind_some, wnat i (by omega)]
      exact Ev.pos (by omega) (Ev.neg (by decide) (Ev.pos (by omega) (Ev.pos (by omega) g1)))
theorem draw20_ev (c : List Int) (hc : BytesOk c) : ∃ (l : List S47) (p' s' : Int), Ev (fun k => spec_l20Draw.f k c 0 0) (l, p', s') ∧ l.length ≤ 20 ∧ IdsOk l ∧ 0 ≤ p' ∧ p' ≤ 2000 := by
  obtain ⟨l, p1, s1, g1, g2, g3, g4, g5⟩ := draw20_0 c hc [(⟨#[97, 114, 99, 104]⟩ : ByteArray), (⟨#[98, 101, 110, 100]⟩ : ByteArray), (⟨#[99, 97, 112]⟩ : ByteArray), (⟨#[100, 117, 99, 116]⟩ : ByteArray), (⟨#[101, 110, 100]⟩ : ByteArray)] (fun x hx => by
    simp only [List.mem_cons, List.mem_nil_iff, or_false] at hx
    rcases hx with rfl | rfl | rfl | rfl | rfl <;> decide) (by decide) 5 0 [] 0 0 rfl (by simp) (fun x hx => by cases hx) (by omega) (by omega)
  refine ⟨l, p1, s1, ?_, g2, g3, g4, by omega⟩
  simp only [spec_l20Draw.f]
  exact g1
theorem order2_ev (c : List Int) (hc : BytesOk c) (n : Nat) (hn : n ≤ 20) (o : List Int) (ho : o.length = n) (p s : Int) (h0 : 0 ≤ p) (h1 : p ≤ 4611686018427000000) : ∃ (r : List Int) (p' s' : Int), Ev (fun k => spec_l20DrawOrder.j2 k (n : Int) o c p s) (r, p', s') ∧ r.length ≤ 100 ∧ 0 ≤ p' ∧ p' ≤ p + 10 := by
  obtain ⟨x, p1, s1, e, x0, x1, a0, a1⟩ := pick_ev c hc p s 16 h0 (by omega) (by omega)
  by_cases c0 : x = 0
  · refine ⟨o ++ [0], p1, s1, Ev.succ ?_, by simp; omega, by omega, by omega⟩
    simp only [spec_l20DrawOrder.j2, e, Option.bind_some]
    exact Ev.pos c0 (Ev.pos (by omega) (Ev.now _))
  · by_cases c1 : x = 1
    · by_cases c2 : (n : Int) > 0
      · obtain ⟨y, p2, s2, e2, _, b0, b1⟩ := among_ev c hc p1 s1 [(-1), (n : Int), 0] (by omega) (by omega) (by simp) (by simp)
        refine ⟨o.set 0 y, p2, s2, Ev.succ ?_, by simp; omega, by omega, by omega⟩
        simp only [spec_l20DrawOrder.j2, e, e2, Option.bind_some]
        exact Ev.neg c0 (Ev.pos c1 (Ev.pos c2 (Ev.pos (by omega) (Ev.now _))))
      · refine ⟨o, p1, s1, Ev.succ ?_, by omega, by omega, by omega⟩
        simp only [spec_l20DrawOrder.j2, e, Option.bind_some]
        exact Ev.neg c0 (Ev.pos c1 (Ev.neg c2 (Ev.now _)))
    · refine ⟨o, p1, s1, Ev.succ ?_, by omega, by omega, by omega⟩
      simp only [spec_l20DrawOrder.j2, e, Option.bind_some]
      exact Ev.neg c0 (Ev.neg c1 (Ev.now _))
theorem order1_ev (c : List Int) (hc : BytesOk c) (n : Nat) (hn : n ≤ 20) (o : List Int) (ho : o.length = n) (b : Bool) (hb : b = true → 1 < n) (p s : Int) (h0 : 0 ≤ p) (h1 : p ≤ 4611686018426000000) : ∃ (r : List Int) (p' s' : Int), Ev (fun k => spec_l20DrawOrder.j1 k (n : Int) o b c p s) (r, p', s') ∧ r.length ≤ 100 ∧ 0 ≤ p' ∧ p' ≤ p + 20 := by
  cases b with
  | true =>
    have := hb rfl
    obtain ⟨x, p1, s1, e, x0, x1, a0, a1⟩ := pick_ev c hc p s (n : Int) h0 (by omega) (by omega)
    have x1 := x1 (by omega)
    obtain ⟨r, p', s', g1, g2, g3, g4⟩ := order2_ev c hc n hn ((o.set (0 : Int).toNat (rd o x)).set x.toNat (rd o 0)) (by simp; omega) p1 s1 (by omega) (by omega)
    refine ⟨r, p', s', Ev.succ ?_, g2, g3, by omega⟩
    simp only [spec_l20DrawOrder.j1, e, Option.bind_some]
    exact Ev.pos (by first | rfl | trivial) (Ev.pos (by omega) (Ev.pos (by omega) (Ev.pos (by omega) g1)))
  | false =>
    obtain ⟨r, p', s', g1, g2, g3, g4⟩ := order2_ev c hc n hn o ho p s h0 (by omega)
    refine ⟨r, p', s', Ev.succ ?_, g2, g3, by omega⟩
    simp only [spec_l20DrawOrder.j1]
    exact Ev.neg (by decide) g1
theorem order0_ev (c : List Int) (hc : BytesOk c) (n : Nat) (hn : n ≤ 20) (by_ : Int) (y0 : 0 ≤ by_) (y1 : by_ ≤ 100) : ∀ (d i : Nat) (o : List Int) (p s : Int), i + d = n → o.length = i → 0 ≤ p → p ≤ 4611686018425000000 →
    ∃ (r : List Int) (p' s' : Int), Ev (fun k => spec_l20DrawOrder.l0 k (n : Int) o by_ (i : Int) c p s) (r, p', s') ∧ r.length ≤ 100 ∧ 0 ≤ p' ∧ p' ≤ p + 30 := by
  intro d
  induction d with
  | zero =>
    intro i o p s hi ho h0 h1
    by_cases c0 : (n : Int) > 1
    · obtain ⟨b, p1, s1, e, a0, a1⟩ := one_ev c hc p s 2 h0 (by omega) (by omega)
      obtain ⟨r, p', s', g1, g2, g3, g4⟩ := order1_ev c hc n hn o (by omega) b (fun _ => by omega) p1 s1 (by omega) (by omega)
      refine ⟨r, p', s', Ev.succ ?_, g2, g3, by omega⟩
      simp only [spec_l20DrawOrder.l0, e, Option.bind_some]
      exact Ev.neg (by omega) (Ev.pos c0 g1)
    · obtain ⟨r, p', s', g1, g2, g3, g4⟩ := order1_ev c hc n hn o (by omega) false (fun h => by cases h) p s (by omega) (by omega)
      refine ⟨r, p', s', Ev.succ ?_, g2, g3, by omega⟩
      simp only [spec_l20DrawOrder.l0]
      exact Ev.neg (by omega) (Ev.neg c0 g1)
  | succ d ih =>
    intro i o p s hi ho h0 h1
    obtain ⟨r, p', s', g1, g2, g3, g4⟩ := ih (i + 1) (o ++ [Int.tmod (wrap64 ((i : Int) + by_)) (n : Int)]) p s (by omega) (by simp; omega) h0 h1
    refine ⟨r, p', s', Ev.succ ?_, g2, g3, g4⟩
    simp only [spec_l20DrawOrder.l0, wnat i (by omega)]
    exact Ev.pos (by omega) (Ev.neg (by omega) (Ev.pos (by omega) g1))
theorem order_ev (c : List Int) (hc : BytesOk c) (n : Nat) (hn : n ≤ 20) (p s : Int) (h0 : 0 ≤ p) (h1 : p ≤ 4611686018424000000) : ∃ (r : List Int) (p' s' : Int), Ev (fun k => spec_l20DrawOrder.f k c p s (n : Int)) (r, p', s') ∧ r.length ≤ 100 ∧ 0 ≤ p' ∧ p' ≤ p + 40 := by
  have hm : spec_l00Max.f 1 (n : Int) = some (max 1 (n : Int)) := by
    simp only [spec_l00Max.f]
    split <;> (congr 1; omega)
  obtain ⟨x, p1, s1, e, x0, x1, a0, a1⟩ := pick_ev c hc p s (max 1 (n : Int)) h0 (by omega) (by omega)
  have x1 := x1 (by omega)
  obtain ⟨r, p', s', g1, g2, g3, g4⟩ := order0_ev c hc n hn x x0 (by omega) n 0 [] p1 s1 (by omega) rfl (by omega) (by omega)
  refine ⟨r, p', s', ?_, g2, g3, by omega⟩
  simp only [spec_l20DrawOrder.f, hm, e, Option.bind_some]
  exact g1
theorem drawGangEnds_ev (c : List Int) (hc : BytesOk c) : ∃ (l : List S47) (o : List Int) (g : Int), Ev (fun k => spec_DrawGangEnds.f k c) (l, o, g) ∧ l.length ≤ 20 ∧ IdsOk l ∧ o.length ≤ 100 := by
  obtain ⟨l, p1, s1, g1, g2, g3, g4, g5⟩ := draw20_ev c hc
  obtain ⟨o, p2, s2, k1, k2, k3, k4⟩ := order_ev c hc l.length g2 p1 s1 g4 (by omega)
  obtain ⟨y, p3, s3, e3, _, b0, b1⟩ := among_ev c hc p2 s2 [1, 2, 3, 2, 0, 4] (by omega) (by omega) (by decide) (by decide)
  refine ⟨l, o, y, ?_, g2, g3, k2⟩
  simp only [spec_DrawGangEnds.f, spec_l00From.f, spec_l20DrawGangs.f, Option.bind_some]
  refine Ev.bind g1 (Ev.bind k1 ?_)
  simp only [e3, Option.bind_some]
  exact Ev.now _
theorem drawFewest_ev (c : List Int) (hc : BytesOk c) : ∃ (l : List S47) (o : List Int) (t : Int), Ev (fun k => spec_DrawFewestGangs.f k c) (l, o, t) ∧ l.length ≤ 20 ∧ IdsOk l ∧ o.length ≤ 100 := by
  obtain ⟨l, p1, s1, g1, g2, g3, g4, g5⟩ := draw20_ev c hc
  obtain ⟨o, p2, s2, k1, k2, k3, k4⟩ := order_ev c hc l.length g2 p1 s1 g4 (by omega)
  obtain ⟨b, p3, s3, e, a0, a1⟩ := one_ev c hc p2 s2 9 (by omega) (by omega) (by omega)
  cases b with
  | true =>
    obtain ⟨y, p4, s4, e4, _, b0, b1⟩ := among_ev c hc p3 s3 [(-1), 0, 10000, 10001] (by omega) (by omega) (by decide) (by decide)
    refine ⟨l, o, y, ?_, g2, g3, k2⟩
    simp only [spec_DrawFewestGangs.f, spec_l00From.f, Option.bind_some]
    refine Ev.bind g1 (Ev.bind k1 ?_)
    simp only [e, e4, Option.bind_some]
    exact Ev.pos (by first | rfl | trivial) (Ev.now _)
  | false =>
    obtain ⟨y, p4, s4, e4, _, _, b0, b1⟩ := pick_ev c hc p3 s3 50 (by omega) (by omega) (by omega)
    refine ⟨l, o, y, ?_, g2, g3, k2⟩
    simp only [spec_DrawFewestGangs.f, spec_l00From.f, Option.bind_some]
    refine Ev.bind g1 (Ev.bind k1 ?_)
    simp only [e, e4, Option.bind_some]
    exact Ev.neg (by decide) (Ev.now _)
end Go.Proofs.Ytionpndhcijmcaa.QGangs
