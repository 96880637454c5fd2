/- The law FnCodes. -/
import Derived.Test.YtopkembjkoljgaaPAllx0
import Derived.Test.YtopkembjkoljgaaPAllx11
import Derived.Test.YtopkembjkoljgaaPAllx12
import Derived.Test.YtopkembjkoljgaaPAllx14
import Derived.Test.YtopkembjkoljgaaPAllx15
import Derived.Test.YtopkembjkoljgaaPAllx16
import Derived.Test.YtopkembjkoljgaaPAllx18
import Derived.Test.YtopkembjkoljgaaDrawM
import Derived.Test.YtopkembjkoljgaaML
import Derived.Test.YtopkembjkoljgaaCodesR
import Derived.Test.YtopkembjkoljgaaPrefix
import Derived.Test.YtopkembjkoljgaaCbInts
import Derived.Test.YtopkembjkoljgaaPow
import Derived.Test.YtopkembjkoljgaaCodesAt
namespace Go.Proofs.Ytopkembjkoljgaa.My
open Go Go.RowKit Go.Proofs.YtopkembjkoljgaaW.PrintWords Go.Proofs.YtopkembjkoljgaaW.PrintLast Go.Proofs.YtopkembjkoljgaaW.PrintMore Go.Proofs.Ytopkembjkoljgaa.PAll

theorem inner_l (l : List Int) (hk : okLens l = true) (hl : l.length ≤ 300) (i : Nat) (hi : i < l.length) (K : Nat) (next : ∀ k, K ≤ k → laws_FnCodes.l0 k l (codesL l) (((i + 1 : Nat)) : Int) = some true) (d : Nat) :
    ∀ (k j : Nat), j ≤ i → i - j = d → K + 2 * d + 100 ≤ k → laws_FnCodes.l1 k l (codesL l) (i : Int) (j : Int) = some true := by
  have hcl := codesL_length l
  have fin : ∀ k j, K + 50 ≤ k → laws_FnCodes.j4 k l (codesL l) (i : Int) j false = some true := by
    intro k j hk2
    obtain ⟨k, rfl⟩ : ∃ m, k = m + 1 := ⟨k - 1, by omega⟩
    rw [laws_FnCodes.j4, if_neg (by simp), w64 (by omega) (by omega), show ((i : Int) + 1) = ((i + 1 : Nat) : Int) by omega]
    exact next k (by omega)
  induction d with
  | zero =>
    intro k j hj hd hk2
    obtain ⟨k, rfl⟩ : ∃ m, k = m + 1 := ⟨k - 1, by omega⟩
    rw [laws_FnCodes.l1, if_neg (by omega)]
    exact fin k _ (by omega)
  | succ d ih =>
    intro k j hj hd hk2
    obtain ⟨k, rfl⟩ : ∃ m, k = m + 1 := ⟨k - 1, by omega⟩
    rw [laws_FnCodes.l1, if_pos (by omega), if_pos (by omega), if_pos (by omega)]
    by_cases hp : rd l i > 0
    · obtain ⟨k, rfl⟩ : ∃ m, k = m + 1 := ⟨k - 1, by omega⟩
      rw [decide_eq_true hp, laws_FnCodes.j4, if_pos rfl, if_pos (by omega), if_pos (by omega), w64 (x := (j : Int) + 1) (by omega) (by omega), show ((j : Int) + 1) = ((j + 1 : Nat) : Int) by omega]
      have go := ih k (j + 1) (by omega) (by omega) (by omega)
      by_cases h0 : rd l j = 0
      · rw [if_pos h0]; exact go
      · obtain ⟨n, hn, n1, n2, hcn, hbn⟩ := codes_at hk hi (by omega)
        obtain ⟨m, hm, m1, m2, hcm, hbm⟩ := codes_at hk (show j < l.length by omega) h0
        have pn : 2 ^ n ≤ 2 ^ 15 := Nat.pow_le_pow_right (by decide) n2
        have pm : 2 ^ m ≤ 2 ^ 15 := Nat.pow_le_pow_right (by decide) m2
        rw [if_neg h0, if_pos (by omega), if_pos (by omega), if_pos (by omega), if_pos (by omega), hcn, hcm, hn, hm]
        by_cases hgt : (n : Int) > (m : Int)
        · have hx := code_prefix (l := l) (i := j) (j := i) (by omega) hi hm hn m1 (by omega)
          rw [if_pos hgt, w64 (x := (n : Int) - (m : Int)) (by omega) (by omega), show ((n : Int) - (m : Int)) = ((n - m : Nat) : Int) by omega, cbPow_f (by omega) (by omega), Option.bind_some]
          have hz : 0 < 2 ^ (n - m) := Nat.pow_pos (by decide)
          have hle : code l i / 2 ^ (n - m) ≤ code l i := Nat.div_le_self _ _
          have e : Int.tdiv (code l i : Int) ((2 ^ (n - m) : Nat) : Int) = ((code l i / 2 ^ (n - m) : Nat) : Int) := by rw [tdiv_pos (by omega)]; exact (Int.natCast_ediv _ _).symm
          generalize 2 ^ (n - m) = z at *
          rw [if_neg (by omega), e, w64 (by omega) (by omega), if_neg (by omega), if_neg (by omega)]
          exact go
        · rw [if_neg hgt, w64 (x := (m : Int) - (n : Int)) (by omega) (by omega), show ((m : Int) - (n : Int)) = ((m - n : Nat) : Int) by omega, cbPow_f (by omega) (by omega), Option.bind_some]
          have hz : 0 < 2 ^ (m - n) := Nat.pow_pos (by decide)
          have hle : code l j / 2 ^ (m - n) ≤ code l j := Nat.div_le_self _ _
          have e : Int.tdiv (code l j : Int) ((2 ^ (m - n) : Nat) : Int) = ((code l j / 2 ^ (m - n) : Nat) : Int) := by rw [tdiv_pos (by omega)]; exact (Int.natCast_ediv _ _).symm
          by_cases heq : n = m
          · have hx := code_mono (l := l) (i := j) (j := i) (by omega) (by omega) (by rw [hn, hm, heq])
            have e2 : code l j / 2 ^ (m - n) = code l j := by rw [heq, Nat.sub_self, Nat.pow_zero, Nat.div_one]
            rw [e2] at e
            rw [if_neg (by omega), e, w64 (by omega) (by omega), if_neg (by omega), if_pos (by omega), if_neg (by omega)]
            exact go
          · have hx := code_prefix (l := l) (i := i) (j := j) hi (by omega) hn hm n1 (by omega)
            generalize 2 ^ (m - n) = z at *
            rw [if_neg (by omega), e, w64 (by omega) (by omega), if_neg (by omega), if_neg (by omega)]
            exact go
    · rw [decide_eq_false hp]
      exact fin k _ (by omega)
theorem outer_l (l : List Int) (hk : okLens l = true) (hl : l.length ≤ 300) (d : Nat) : ∀ (k i : Nat), i ≤ l.length → l.length - i = d → 1000 * d + 100 ≤ k → laws_FnCodes.l0 k l (codesL l) (i : Int) = some true := by
  have hcl := codesL_length l
  induction d with
  | zero =>
    intro k i hi hd hk2
    obtain ⟨k, rfl⟩ : ∃ m, k = m + 1 := ⟨k - 1, by omega⟩
    rw [laws_FnCodes.l0, if_neg (by omega), hcl]
    simp
  | succ d ih =>
    intro k i hi hd hk2
    obtain ⟨k, rfl⟩ : ∃ m, k = m + 1 := ⟨k - 1, by omega⟩
    have hil : i < l.length := by omega
    have hr := len_range hk hil
    obtain ⟨n, hn⟩ := Int.eq_ofNat_of_zero_le hr.1
    have hc : 0 ≤ rd (codesL l) i ∧ rd (codesL l) i < ((2 ^ n : Nat) : Int) := by
      by_cases h0 : rd l i = 0
      · rw [codesL_rd hil, codeI, if_neg (by omega)]
        have : 0 < 2 ^ n := Nat.pow_pos (by decide)
        omega
      · obtain ⟨m, h1, h2, h3, h4, h5⟩ := codes_at hk hil h0
        have e : m = n := by omega
        subst e
        rw [h4]
        omega
    have go := inner_l l hk hl i hil (1000 * d + 100) (fun k hk3 => ih k (i + 1) (by omega) (by omega) hk3) i (k - 1) 0 (by omega) (by omega) (by omega)
    obtain ⟨k, rfl⟩ : ∃ m, k = m + 1 := ⟨k - 1, by omega⟩
    rw [laws_FnCodes.l0, if_pos (by omega), if_pos (by omega), if_pos (by omega), if_neg (by omega), hn, cbPow_f (by omega) (by omega), Option.bind_some, decide_eq_false (by omega), laws_FnCodes.j2, if_neg (by simp)]
    exact go
theorem LawCodes : laws_FnCodes.Pure := by
  intro l0 _ _ hl0
  obtain ⟨b, hb, ho⟩ := open_f hl0
  obtain ⟨l, q, hl1, hl2, _, _, hd⟩ := lens_f hb (p := 0) (by omega) (by omega)
  refine ⟨400001, ?_⟩
  have S : ∀ k, 100000 ≤ k → spec_LensOk.f k l = some (okLens l) := fun k hk => spec_LensOk_f l (by omega) (by omega)
  have I : ∀ k, 100000 ≤ k → impl_LensOk.f k l = some (okLens l) := fun k hk => impl_LensOk_f l (by omega)
  have C : ∀ k, 100000 ≤ k → impl_CodesOf.f k l = some (codesR l) := fun k hk => impl_CodesOf_f l (by omega)
  have P : ∀ k, 100000 ≤ k → spec_CodesOf.f k l = some (codesR l) := fun k hk => spec_CodesOf_f l (by omega) (by omega)
  have hcl := codesR_length l
  have E : ∀ k, 100000 ≤ k → laws_cbInts.f k (codesR l) (codesR l) = some true := fun k hk => cbInts_f _ (by omega) (by omega)
  have D : spec_DrawCodesOf.f 400001 l0 = some l := by unfold spec_DrawCodesOf.f; rw [ho, Option.bind_some, hd _ (by omega), Option.bind_some]
  unfold laws_FnCodes.f
  by_cases hz : (l0.length : Int) > 1048576
  · rw [if_pos hz]
  rw [if_neg hz, D, Option.bind_some, C _ (by omega), Option.bind_some, I _ (by omega), Option.bind_some, S _ (by omega), Option.bind_some, if_neg (by simp), P _ (by omega), Option.bind_some, E _ (by omega), Option.bind_some, if_pos rfl, laws_FnCodes.j0]
  cases hk : okLens l with
  | false =>
    rw [if_pos (show (!false) = true from rfl), S _ (by omega), Option.bind_some, hk, if_pos (by rfl), P _ (by omega), Option.bind_some, E _ (by omega), Option.bind_some]
  | true =>
    have e : codesR l = codesL l := by unfold codesR; rw [if_pos hk]
    rw [if_neg (by simp), e]
    exact outer_l l hk (by omega) l.length 400000 0 (by omega) (by omega) (by omega)
end Go.Proofs.Ytopkembjkoljgaa.My
