/- Dec: the decimal numeral of a number, by both sides. Conditions: none beyond 64 bits. -/
import Derived.Lib.ItoaLen
import Derived.Test.YtidfchlgdmnopaaDoorQReadingsTextx3
import Derived.Test.YtidfchlgdmnopaaDoorQReadingsTextx4
import Derived.Test.YtidfchlgdmnopaaDoorQReadingsTextxL
namespace Go.Proofs.YtidfchlgdmnopaaDoor.QReadingsText
open Go.RowKit Go.Proofs.YtidfchlgdmnopaaDoorW.PrintWords Go.Proofs.YtidfchlgdmnopaaDoor.QOpen Go.Proofs.YtidfchlgdmnopaaDoor.QEv
set_option linter.unusedVariables false
set_option linter.unusedSimpArgs false
def numsOf (l : List UInt8) : List Int := l.map fun b => (b.toNat : Int)
theorem strOf_nums (l : List UInt8) : strOfNums (numsOf l) = ⟨l.toArray⟩ := by
  unfold strOfNums numsOf
  rw [List.map_map]
  have e : ((fun n : Int => UInt8.ofNat n.toNat) ∘ fun b : UInt8 => (b.toNat : Int)) = id := by
    funext b
    simp
  rw [e, List.map_id]
theorem digit_byte (d : Nat) (h : d < 10) : ((UInt8.ofNat (48 + d)).toNat : Int) = 48 + (d : Int) := by
  rw [UInt8.toNat_ofNat']
  omega
theorem dec_small {u : Nat} (h : u < 10) : Go.Lib.decDigits u = [UInt8.ofNat (48 + u)] := by rw [Go.Lib.decDigits, dif_pos h]
theorem dec_big {u : Nat} (h : ¬ u < 10) : Go.Lib.decDigits u = Go.Lib.decDigits (u / 10) ++ [UInt8.ofNat (48 + u % 10)] := by rw [Go.Lib.decDigits, dif_neg h]
theorem tmodP (u : Nat) : Int.tmod (u : Int) 10 = ((u % 10 : Nat) : Int) := by
  rw [Int.tmod_eq_emod_of_nonneg (by omega)]
  omega
theorem tmodN (u : Nat) : Int.tmod (-(u : Int)) 10 = -((u % 10 : Nat) : Int) := by
  rw [Int.neg_tmod, tmodP]
theorem tdivP (u : Nat) : Int.tdiv (u : Int) 10 = ((u / 10 : Nat) : Int) := by
  rw [Int.tdiv_eq_ediv_of_nonneg (by omega)]
  omega
theorem tdivN (u : Nat) : Int.tdiv (-(u : Int)) 10 = -((u / 10 : Nat) : Int) := by
  rw [Int.neg_tdiv, tdivP]
theorem wDig (d : Nat) (h : d < 10) : (wrap64 (48 + (d : Int))) % 256 = 48 + (d : Int) := by
  rw [wid (by omega) (by omega)]
  omega
theorem wDigN (d : Nat) (h : d < 10) : wrap64 (-(-(d : Int))) = (d : Int) := by
  rw [wid (by omega) (by omega)]
  omega
theorem decBack (x : List Int) (hx : x.length ≤ 100000) : ∀ (i : Nat) (o : List Int), i ≤ x.length → o.length + i ≤ 200000 → Ev (fun k => spec_l01Dec.l1 k x o ((i : Int) - 1)) (strOfNums (o ++ (x.take i).reverse)) := by
  intro i
  induction i with
  | zero =>
    intro o hi ho
    refine Ev.succ ?_
    simp only [spec_l01Dec.l1]
    exact Ev.neg (by omega) (Ev.eqn (Ev.now _) (by simp))
  | succ i ih =>
    intro o hi ho
    refine Ev.succ ?_
    have e0 : ((i + 1 : Nat) : Int) - 1 = (i : Int) := by omega
    have w : wrap64 ((i : Int) - 1) = (i : Int) - 1 := wid (by omega) (by omega)
    have e1 : (x.take (i + 1)).reverse = rd x (i : Int) :: (x.take i).reverse := by
      have hlt : i < x.length := by omega
      rw [List.take_succ_eq_append_getElem hlt, List.reverse_append]
      have e2 : rd x (i : Int) = x[i] := by
        show x.getD i 0 = x[i]
        exact getD_at x i 0 hlt
      rw [e2]
      rfl
    simp only [spec_l01Dec.l1, e0, w]
    refine Ev.pos (by omega) (Ev.pos (by omega) (Ev.pos (by omega) (Ev.pos (by omega) (Ev.eqn (ih (o ++ [rd x (i : Int)]) (by omega) (by simp; omega)) ?_))))
    rw [e1]
    simp
theorem decEnd (x : List Int) (hx : x.length ≤ 100000) : Ev (fun k => spec_l01Dec.j1 k x) (strOfNums x.reverse) := by
  have h := decBack x hx x.length [] (Nat.le_refl _) (by simp; omega)
  rw [List.take_length, List.nil_append] at h
  refine Ev.succ ?_
  simp only [spec_l01Dec.j1]
  rw [wid (by omega) (by omega)]
  exact h
theorem decLoop (n : Int) : ∀ (f u : Nat), u ≤ f → u ≤ 9223372036854775808 → ∀ (m : Int) (x : List Int), (m = (u : Int) ∨ m = -(u : Int)) → -9223372036854775808 ≤ m → m ≤ 9223372036854775807 → x.length + (Go.Lib.decDigits u).length ≤ 1000 →
    ∀ r, Ev (fun k => spec_l01Dec.l0 k n (x ++ (if u = 0 then [] else (numsOf (Go.Lib.decDigits u)).reverse)) 0) r → Ev (fun k => spec_l01Dec.l0 k n x m) r := by
  intro f
  induction f with
  | zero =>
    intro u hu _ m x hm _ _ _ r hr
    have e : u = 0 := by omega
    subst e
    have e2 : m = 0 := by omega
    subst e2
    simpa using hr
  | succ f ih =>
    intro u hu hu2 m x hm h0 h1 hx r hr
    by_cases c : u = 0
    · subst c
      have e2 : m = 0 := by omega
      subst e2
      simpa using hr
    · have hq : Int.tdiv m 10 = ((u / 10 : Nat) : Int) ∨ Int.tdiv m 10 = -((u / 10 : Nat) : Int) := by
        rcases hm with rfl | rfl
        · exact .inl (tdivP u)
        · exact .inr (tdivN u)
      have w : wrap64 (Int.tdiv m 10) = Int.tdiv m 10 := by
        rcases hq with e | e <;> (rw [e]; exact wid (by omega) (by omega))
      have hd := digit_byte (u % 10) (by omega)
      have hlen : (Go.Lib.decDigits (u / 10)).length ≤ (Go.Lib.decDigits u).length := by
        by_cases c10 : u < 10
        · rw [dec_small c10, dec_small (by omega)]
          simp
        · rw [dec_big c10, List.length_append]
          omega
      have hone : 1 ≤ (Go.Lib.decDigits u).length := by
        by_cases c10 : u < 10
        · rw [dec_small c10]; simp
        · rw [dec_big c10, List.length_append]; simp
      have hlen2 : u / 10 = 0 ∨ (Go.Lib.decDigits (u / 10)).length + 1 ≤ (Go.Lib.decDigits u).length := by
        by_cases c10 : u < 10
        · exact .inl (by omega)
        · refine .inr ?_
          rw [dec_big c10, List.length_append]
          simp
      have hz : (Go.Lib.decDigits 0).length = 1 := by rw [dec_small (by omega)]; rfl
      -- what is told of the rest
      have rest : Ev (fun k => spec_l01Dec.l0 k n (x ++ [48 + ((u % 10 : Nat) : Int)]) (Int.tdiv m 10)) r := by
        by_cases c10 : u < 10
        · have e : Int.tdiv m 10 = 0 := by rcases hq with e | e <;> (rw [e]; omega)
          rw [e]
          rw [if_neg c, dec_small c10] at hr
          have e3 : (numsOf [UInt8.ofNat (48 + u)]).reverse = [48 + ((u % 10 : Nat) : Int)] := by
            have hd' := digit_byte u c10
            simp only [numsOf, List.map_cons, List.map_nil, List.reverse_cons, List.reverse_nil, List.nil_append, hd']
            congr 1
            omega
          rw [e3] at hr
          exact hr
        · refine ih (u / 10) (by omega) (by omega) _ _ hq (by rcases hq with e | e <;> omega) (by rcases hq with e | e <;> omega) (by rcases hlen2 with e | e <;> (simp only [List.length_append, List.length_cons, List.length_nil]; omega)) r ?_
          rw [if_neg c, dec_big c10] at hr
          rw [if_neg (by omega)]
          have e3 : x ++ (numsOf (Go.Lib.decDigits (u / 10) ++ [UInt8.ofNat (48 + u % 10)])).reverse = (x ++ [48 + ((u % 10 : Nat) : Int)]) ++ (numsOf (Go.Lib.decDigits (u / 10))).reverse := by
            simp only [numsOf, List.map_append, List.map_cons, List.map_nil, List.reverse_append, List.reverse_cons, List.reverse_nil, List.nil_append, List.append_assoc, List.singleton_append, hd]
          rw [e3] at hr
          exact hr
      refine Ev.succ ?_
      simp only [spec_l01Dec.l0, w]
      refine Ev.neg (by omega) ?_
      have hx2 : x.length < 140737488355328 := by omega
      have hd10 : u % 10 < 10 := by omega
      clear hlen hone hlen2 hz ih hd hq
      rcases hm with rfl | rfl
      · rw [tmodP, wDig _ hd10]
        exact Ev.neg (by omega) (Ev.pos hx2 rest)
      · rw [tmodN, wDigN _ hd10, wDig _ hd10]
        by_cases cd : u % 10 = 0
        · have e5 : (wrap64 (48 + -((u % 10 : Nat) : Int))) % 256 = 48 + ((u % 10 : Nat) : Int) := by
            rw [cd, wid (by omega) (by omega)]
            omega
          rw [e5]
          exact Ev.neg (by omega) (Ev.pos hx2 rest)
        · exact Ev.pos (by omega) (Ev.pos hx2 rest)
def decOf (n : Int) : ByteArray := ⟨(Go.Lib.itoa n).toArray⟩
theorem decOf_size (n : Int) (h0 : -9223372036854775808 ≤ n) (h1 : n ≤ 9223372036854775807) : (decOf n).size ≤ 21 := by
  have := Go.Lib.itoa_length_le n h0 h1
  simpa [decOf, ByteArray.size] using this
theorem dec_impl (n : Int) (h0 : -9223372036854775808 ≤ n) (h1 : n ≤ 9223372036854775807) : impl_Decimal.f n = some (decOf n) := by
  simp only [impl_Decimal.f, strconv_FormatInt_99.f]
  rw [if_pos ⟨by first | rfl | trivial, h0, h1⟩]
  rfl
theorem dec_spec (n : Int) (h0 : -9223372036854775808 ≤ n) (h1 : n ≤ 9223372036854775807) : Ev (fun k => spec_l01Dec.f k n) (decOf n) := by
  simp only [spec_l01Dec.f]
  by_cases c : n = 0
  · subst c
    refine Ev.pos (by first | rfl | trivial) (Ev.eqn (Ev.now _) ?_)
    have e : Go.Lib.itoa 0 = [48] := by
      show (if (0 : Int) < 0 then _ else Go.Lib.decDigits (0 : Int).toNat) = _
      rw [if_neg (by omega)]
      show Go.Lib.decDigits 0 = _
      rw [dec_small (by omega)]
      rfl
    rw [decOf, e]
  · refine Ev.neg c ?_
    have hl := Go.Lib.itoa_length_le n h0 h1
    have hdl : (Go.Lib.decDigits n.natAbs).length ≤ 21 := by
      unfold Go.Lib.itoa at hl
      by_cases cn : n < 0
      · rw [if_pos cn, List.length_cons] at hl
        omega
      · rw [if_neg cn] at hl
        rw [show n.natAbs = n.toNat by omega]
        exact hl
    refine decLoop n n.natAbs n.natAbs (Nat.le_refl _) (by omega) n [] (by omega) h0 h1 (by simp; omega) _ ?_
    rw [if_neg (by omega), List.nil_append]
    refine Ev.succ ?_
    simp only [spec_l01Dec.l0]
    refine Ev.pos (by first | rfl | trivial) ?_
    have hnl : (numsOf (Go.Lib.decDigits n.natAbs)).length ≤ 21 := by simpa [numsOf] using hdl
    by_cases cn : n < 0
    · refine Ev.pos cn (Ev.pos (by simp; omega) (Ev.eqn (decEnd _ (by simp; omega)) ?_))
      rw [List.reverse_append, List.reverse_reverse]
      have e : [(45 : Int)].reverse ++ numsOf (Go.Lib.decDigits n.natAbs) = numsOf (45 :: Go.Lib.decDigits n.natAbs) := rfl
      rw [e, strOf_nums, decOf]
      have e2 : Go.Lib.itoa n = 45 :: Go.Lib.decDigits n.natAbs := by
        unfold Go.Lib.itoa
        rw [if_pos cn]
      rw [e2]
    · refine Ev.neg cn (Ev.eqn (decEnd _ (by simp; omega)) ?_)
      rw [List.reverse_reverse, strOf_nums, decOf]
      have e2 : Go.Lib.itoa n = Go.Lib.decDigits n.natAbs := by
        unfold Go.Lib.itoa
        rw [if_neg cn, show n.natAbs = n.toNat by omega]
      rw [e2]
end Go.Proofs.YtidfchlgdmnopaaDoor.QReadingsText
