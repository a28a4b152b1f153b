/- DrawPost: postings that are drawn from some bytes are valid and in order. Conditions: bytes. -/
import Derived.Test.YtnmdljdkbpgdaaaQInterestx1
import Derived.Test.YtnmdljdkbpgdaaaQInterestx2
import Derived.Test.YtnmdljdkbpgdaaaQInterestx4
import Derived.Test.YtnmdljdkbpgdaaaQInterestx5
import Derived.Test.YtnmdljdkbpgdaaaQInterestxL
import Derived.Test.YtnmdljdkbpgdaaaQInterestxDSrcTextP
import Derived.Test.YtnmdljdkbpgdaaaQInterestxDPostOnlyP
namespace Go.Proofs.Ytnmdljdkbpgdaaa.QInterest
open Go.RowKit Go.Proofs.YtnmdljdkbpgdaaaW.PrintWords Go.Proofs.Ytnmdljdkbpgdaaa.QOpen Go.Proofs.Ytnmdljdkbpgdaaa.QEv
set_option linter.unusedVariables false
set_option linter.unusedSimpArgs false
def acs : List ByteArray := [(⟨#[98, 97, 110, 107]⟩ : ByteArray), (⟨#[104, 111, 117, 115, 101, 49]⟩ : ByteArray), (⟨#[104, 111, 117, 115, 101, 50]⟩ : ByteArray), (⟨#[112, 108, 97, 110, 116]⟩ : ByteArray)]
def acq (q : Nat) : ByteArray := rdOf ByteArray.empty acs (q : Int)
theorem acq_size : ∀ q : Fin 4, 1 ≤ (acq q.val).size ∧ (acq q.val).size ≤ 6 := by decide
theorem acq_b : ∀ q : Fin 4, ∀ j : Fin 6, j.val < (acq q.val).size → (97 ≤ bt (acq q.val) (j.val : Int) ∧ bt (acq q.val) (j.val : Int) ≤ 122) ∨ (48 ≤ bt (acq q.val) (j.val : Int) ∧ bt (acq q.val) (j.val : Int) ≤ 57) := by decide
theorem acq_0 : ∀ q : Fin 4, 97 ≤ bt (acq q.val) 0 ∧ bt (acq q.val) 0 ≤ 122 := by decide
theorem acTrue (q : Nat) (hq : q < 4) : Ev (fun k => impl_IsName.f k (acq q)) true := by
  have z := acq_size ⟨q, hq⟩
  have b0 := acq_0 ⟨q, hq⟩
  simp only at z b0
  have loop : ∀ d i : Nat, i + d = (acq q).size → Ev (fun k => impl_onlyNameBytes.l0 k (acq q) ((acq q).size : Int) (i : Int)) true := by
    intro d
    induction d with
    | zero =>
      intro i hi
      refine Ev.succ ?_
      simp only [impl_onlyNameBytes.l0]
      exact Ev.neg (by omega) (Ev.now _)
    | succ d ih =>
      intro i hi
      have h := ih (i + 1) (by omega)
      have hi6 : i < 6 := by omega
      have hiz : i < (acq q).size := by omega
      have b := acq_b ⟨q, hq⟩ ⟨i, hi6⟩ hiz
      simp only at b
      refine Ev.succ ?_
      simp only [impl_onlyNameBytes.l0, wnat i (by omega)]
      repeat' first | (with_reducible exact h) | ((with_reducible refine Ev.pos ?_ ?_); omega) | ((with_reducible refine Ev.neg ?_ ?_); omega) | (exfalso; omega) | (with_reducible refine Ev.ite (fun _ => ?_) (fun _ => ?_))
  have h0 : Ev (fun k => impl_onlyNameBytes.f k (acq q)) true := loop (acq q).size 0 (by omega)
  simp only [impl_IsName.f]
  exact Ev.neg (by omega) (Ev.neg (by omega) (Ev.pos (by omega) (Ev.neg (by omega) (Ev.neg (by omega) (Ev.bind h0 (Ev.now _))))))
theorem ac_of (x : ByteArray) (h : x ∈ acs) : ∃ q, q < 4 ∧ x = acq q := by
  obtain ⟨j, hj, e⟩ := List.getElem_of_mem h
  refine ⟨j, hj, ?_⟩
  rw [← e]
  exact (getD_at acs j ByteArray.empty hj).symm
def PostV (x : S128) : Prop := (∃ q, q < 4 ∧ x.f0 = acq q) ∧ -10000 ≤ x.f1 ∧ x.f1 ≤ 10000 ∧ x.f1 ≠ 0 ∧ 0 ≤ x.f2 ∧ x.f2 ≤ 300
def Srt (l : List S128) : Prop := l.Pairwise (fun a b => a.f2 ≤ b.f2)
theorem srt_app (l : List S128) (x : S128) (h : Srt l) (hx : ∀ y ∈ l, y.f2 ≤ x.f2) : Srt (l ++ [x]) :=
  List.pairwise_append.2 ⟨h, List.pairwise_singleton _ _, fun a ha b hb => by rw [List.mem_singleton.1 hb]; exact hx a ha⟩
theorem postV_ok (x : S128) (h : PostV x) : PostOk x := by
  obtain ⟨_, a, b, _, c, d⟩ := h
  exact ⟨by omega, by omega, c, by omega⟩
theorem posts_true (l : List S128) (hn : l.length ≤ 32) (hv : ∀ y ∈ l, PostV y) (hs : Srt l) : Ev (fun k => impl_ValidPostings.f k l) true ∧ Ev (fun k => spec_l23Ok.f k l) true := by
  have hi : Ev (fun k => impl_ValidPostings.f k l) true := by
    have loop : ∀ d i : Nat, i + d = l.length → Ev (fun k => impl_ValidPostings.l0 k l l (l.length : Int) (i : Int)) true := by
      intro d
      induction d with
      | zero =>
        intro i hi
        refine Ev.succ ?_
        simp only [impl_ValidPostings.l0]
        exact Ev.neg (by omega) (Ev.now _)
      | succ d ih =>
        intro i hi
        have h := ih (i + 1) (by omega)
        obtain ⟨⟨q, hq, e⟩, a, b, z, c, c2⟩ := hv _ (getD_mem l i z128 (by omega))
        have er : rd_T128 l (i : Int) = l.getD i z128 := rfl
        have nt := acTrue q hq
        rw [← e] at nt
        have g : Ev (fun k => impl_Posting_valid.f k (l.getD i z128).f0 (l.getD i z128).f1 (l.getD i z128).f2) true := by
          simp only [impl_Posting_valid.f, impl_accountDay.f, impl_within_eq, Option.bind_some, decide_eq_true_eq]
          exact Ev.bind nt (Ev.pos rfl (Ev.pos (by omega) (Ev.neg z (Ev.eqn (Ev.now _) (decide_eq_true (by omega))))))
        refine Ev.succ ?_
        by_cases h0 : 0 < i
        · have w : wrap64 ((i : Int) - 1) = ((i - 1 : Nat) : Int) := by rw [wid (by omega) (by omega)]; omega
          have er2 : rd_T128 l ((i - 1 : Nat) : Int) = l.getD (i - 1) z128 := rfl
          have le : (l.getD (i - 1) z128).f2 ≤ (l.getD i z128).f2 := by
            rw [getD_at l (i - 1) _ (by omega), getD_at l i _ (by omega)]
            exact (List.pairwise_iff_getElem.1 hs) (i - 1) i (by omega) (by omega) (by omega)
          simp only [impl_ValidPostings.l0, er, w, er2, wnat i (by omega)]
          exact Ev.pos (by omega) (Ev.pos (by omega) (Ev.pos (by omega) (Ev.bind g (Ev.pos rfl (Ev.pos (by omega) (Ev.pos (by omega) (Ev.pos (by omega) (Ev.neg (by omega) h))))))))
        · simp only [impl_ValidPostings.l0, er, wnat i (by omega)]
          exact Ev.pos (by omega) (Ev.pos (by omega) (Ev.pos (by omega) (Ev.bind g (Ev.pos rfl (Ev.neg (by omega) h)))))
    simp only [impl_ValidPostings.f]
    exact Ev.neg (by omega) (loop l.length 0 (by omega))
  have sm : smL smP l := ⟨by omega, fun x hx => by
    obtain ⟨⟨q, hq, e⟩, _⟩ := hv x hx
    have z := acq_size ⟨q, hq⟩
    simp only at z
    exact ⟨by show x.f0.size ≤ 1048576; rw [e]; omega, trivial, trivial⟩⟩
  obtain ⟨b, s1, s2, _⟩ := posts_both l sm
  have eb : b = true := Ev.uniq s2 hi
  rw [eb] at s1
  exact ⟨hi, s1⟩
theorem drawPost (c : List Int) (hc : BytesOk c) : ∀ (d : Nat) (l : List S128) (day p s : Int), l.length + d ≤ 7 → (∀ y ∈ l, PostV y ∧ y.f2 ≤ day) → Srt l → 0 ≤ day → day + 5 * (d : Int) ≤ 60 → 0 ≤ p → p + 10 * (d : Int) ≤ 4611686018427000000 →
    ∃ (r : List S128) (p' s' : Int), Ev (fun k => spec_l23Draw.l0 k l day (d : Int) c p s) (r, p', s') ∧ r.length ≤ 7 ∧ (∀ y ∈ r, PostV y) ∧ Srt r := by
  intro d
  induction d with
  | zero =>
    intro l day p s hl hv hs h0 h1 h2 h3
    refine ⟨l, p, s, Ev.succ ?_, by omega, fun y hy => (hv y hy).1, hs⟩
    simp only [spec_l23Draw.l0]
    exact Ev.neg (by omega) (Ev.now _)
  | succ d ih =>
    intro l day p s hl hv hs h0 h1 h2 h3
    obtain ⟨n, p1, s1, e1, hn, a1, b1⟩ := text_ev c hc p s acs h2 (by omega) (by decide) (by decide)
    obtain ⟨x, p2, s2, e2, l2, u2, a2, b2⟩ := pick_ev c hc p1 s1 90 (by omega) (by omega) (by omega)
    obtain ⟨y, p3, s3, e3, l3, u3, a3, b3⟩ := pick_ev c hc p2 s2 6 (by omega) (by omega) (by omega)
    have u2 := u2 (by omega)
    have u3 := u3 (by omega)
    have ac : spec_l23Account.f c p s = some (n, p1, s1) := by
      have e1' : spec_l00Src_text.f c p s [(⟨#[98, 97, 110, 107]⟩ : ByteArray), (⟨#[104, 111, 117, 115, 101, 49]⟩ : ByteArray), (⟨#[104, 111, 117, 115, 101, 50]⟩ : ByteArray), (⟨#[112, 108, 97, 110, 116]⟩ : ByteArray)] = some (n, p1, s1) := e1
      simp only [spec_l23Account.f, e1', Option.bind_some]
    have w1 : wrap64 (100 * x) = 100 * x := wid (by omega) (by omega)
    have w2 : wrap64 (100 * x - 4000) = 100 * x - 4000 := wid (by omega) (by omega)
    have w3 : wrap64 (day + y) = day + y := wid (by omega) (by omega)
    have w4 : wrap64 (((d + 1 : Nat) : Int) - 1) = (d : Int) := by rw [wid (by omega) (by omega)]; omega
    have up : ∀ v : Int, -10000 ≤ v → v ≤ 10000 → v ≠ 0 → ∃ (r : List S128) (p' s' : Int), Ev (fun k => spec_l23Draw.l0 k (l ++ [(⟨n, v, day⟩ : S128)]) (day + y) (d : Int) c p3 s3) (r, p', s') ∧ r.length ≤ 7 ∧ (∀ y ∈ r, PostV y) ∧ Srt r := by
      intro v v0 v1 v2
      refine ih _ (day + y) p3 s3 (by simp; omega) (fun z hz => ?_) (srt_app l _ hs (fun z hz => (hv z hz).2)) (by omega) (by omega) (by omega) (by omega)
      rcases List.mem_append.1 hz with h | h
      · have := hv z h
        exact ⟨this.1, by omega⟩
      · rw [List.mem_singleton.1 h]
        exact ⟨⟨ac_of n hn, v0, v1, v2, h0, by show day ≤ 300; omega⟩, by show day ≤ day + y; omega⟩
    by_cases c0 : 100 * x - 4000 = 0
    · obtain ⟨r, p', s', g1, g2⟩ := up 7 (by omega) (by omega) (by omega)
      refine ⟨r, p', s', Ev.succ ?_, g2⟩
      simp only [spec_l23Draw.l0, ac, e2, e3, Option.bind_some, w1, w2, w3, w4]
      exact Ev.pos (by omega) (Ev.pos c0 (Ev.pos (by omega) g1))
    · obtain ⟨r, p', s', g1, g2⟩ := up (100 * x - 4000) (by omega) (by omega) c0
      refine ⟨r, p', s', Ev.succ ?_, g2⟩
      simp only [spec_l23Draw.l0, ac, e2, e3, Option.bind_some, w1, w2, w3, w4]
      exact Ev.pos (by omega) (Ev.neg c0 (Ev.pos (by omega) g1))
theorem draw_posts (c : List Int) (hc : BytesOk c) : ∃ r : List S128, Ev (fun k => spec_R8Postings.f k c) r ∧ r.length ≤ 7 ∧ (∀ y ∈ r, PostV y) ∧ Srt r := by
  obtain ⟨x, p1, s1, e1, l1, u1, a1, b1⟩ := pick_ev c hc 0 0 20 (by omega) (by omega) (by omega)
  obtain ⟨y, p2, s2, e2, l2, u2, a2, b2⟩ := pick_ev c hc p1 s1 8 (by omega) (by omega) (by omega)
  have u1 := u1 (by omega)
  have u2 := u2 (by omega)
  obtain ⟨n, rfl⟩ := Int.eq_ofNat_of_zero_le l2
  obtain ⟨r, p', s', g1, g2⟩ := drawPost c hc n [] x p2 s2 (by simp; omega) (fun y hy => by cases hy) List.Pairwise.nil l1 (by omega) (by omega) (by omega)
  refine ⟨r, ?_, g2⟩
  simp only [spec_R8Postings.f, spec_l00From.f, spec_l23Draw.f, Option.bind_some, e1, e2]
  exact Ev.bind g1 (Ev.now _)
end Go.Proofs.Ytnmdljdkbpgdaaa.QInterest
