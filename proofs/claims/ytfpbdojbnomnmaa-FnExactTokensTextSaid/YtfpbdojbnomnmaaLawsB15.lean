/- The law FnExactTokensText: the printed functions of both packages, by one plain function. -/
import Derived.Test.YtfpbdojbnomnmaaPAllx10
import Derived.Test.YtfpbdojbnomnmaaPAllx11
import Derived.Test.YtfpbdojbnomnmaaPAllx12
import Derived.Test.YtfpbdojbnomnmaaPAllx13
import Derived.Test.YtfpbdojbnomnmaaPAllx14
import Derived.Test.YtfpbdojbnomnmaaPAllx15
import Derived.Test.YtfpbdojbnomnmaaPAllx16
import Derived.Test.YtfpbdojbnomnmaaBase
import Derived.Test.YtfpbdojbnomnmaaLinkPiece
namespace Go.Proofs.Ytfpbdojbnomnmaa.My
open Go Go.RowKit Go.Proofs.YtfpbdojbnomnmaaW.PrintWords Go.Proofs.YtfpbdojbnomnmaaW.PrintLast Go.Proofs.YtfpbdojbnomnmaaW.PrintMore Go.Proofs.Ytfpbdojbnomnmaa.PAll

/-! ### Tokens, plain -/
def okT (n : Nat) (a b c : Int) : Bool :=
  if b = 0 then decide (c = 0) && (decide (0 ≤ a) && decide (a ≤ 255))
  else decide (a = 0) && ((decide (3 ≤ b) && decide (b ≤ 60)) && ((decide (1 ≤ c) && decide (c ≤ 250)) && decide (c ≤ (n : Int))))
def copyL (c : Int) : Nat → List Int → List Int
  | 0, out => out
  | n + 1, out => copyL c n (out ++ [rd out ((out.length : Int) - c)])
def addL (out : List Int) (a b c : Int) : List Int := if b = 0 then out ++ [a % 256] else copyL c b.toNat out
def textL : List S70 → List Int → List Int × Bool
  | [], out => (out, true)
  | t :: r, out => if okT out.length t.f0 t.f1 t.f2 then (if 300 < (addL out t.f0 t.f1 t.f2).length then ([], false) else textL r (addL out t.f0 t.f1 t.f2)) else ([], false)
theorem spec_copy_l (a b c : Int) (d : Nat) : ∀ (k : Nat) (out : List Int) (i : Nat), b = ((i + d : Nat) : Int) → b ≤ 60 → 1 ≤ c → c ≤ (out.length : Int) → out.length + d ≤ 1000 → d < k →
    spec_l4Add.l0 k out (i : Int) a b c = some (copyL c d out, true) := by
  induction d with
  | zero =>
    intro k out i hb h60 h1 hc ho hk
    obtain ⟨k, rfl⟩ : ∃ m, k = m + 1 := ⟨k - 1, by omega⟩
    rw [spec_l4Add.l0, if_neg (by omega)]
    rfl
  | succ d ih =>
    intro k out i hb h60 h1 hc ho hk
    obtain ⟨k, rfl⟩ : ∃ m, k = m + 1 := ⟨k - 1, by omega⟩
    rw [spec_l4Add.l0, if_pos (by omega), w64 (x := (out.length : Int) - c) (by omega) (by omega), if_pos (by omega), if_pos (by omega), if_pos (by omega), w64 (by omega) (by omega), show ((i : Int) + 1) = ((i + 1 : Nat) : Int) by omega]
    rw [ih k _ (i + 1) (by omega) h60 h1 (by simp; omega) (by simp; omega) (by omega)]
    rfl
theorem impl_copy_l (a b c : Int) (d : Nat) : ∀ (k : Nat) (out : List Int) (i : Nat), b = ((i + d : Nat) : Int) → b ≤ 60 → 1 ≤ c → c ≤ (out.length : Int) → out.length + d ≤ 1000 → d < k →
    impl_add.l0 k out b (i : Int) a b c = some (copyL c d out, true) := by
  induction d with
  | zero =>
    intro k out i hb h60 h1 hc ho hk
    obtain ⟨k, rfl⟩ : ∃ m, k = m + 1 := ⟨k - 1, by omega⟩
    rw [impl_add.l0, if_neg (by omega)]
    rfl
  | succ d ih =>
    intro k out i hb h60 h1 hc ho hk
    obtain ⟨k, rfl⟩ : ∃ m, k = m + 1 := ⟨k - 1, by omega⟩
    rw [impl_add.l0, if_pos (by omega), w64 (x := (out.length : Int) - c) (by omega) (by omega), if_pos (by omega), if_pos (by omega), if_pos (by omega), w64 (by omega) (by omega), show ((i : Int) + 1) = ((i + 1 : Nat) : Int) by omega]
    rw [ih k _ (i + 1) (by omega) h60 h1 (by simp; omega) (by simp; omega) (by omega)]
    rfl
theorem spec_add_f {k : Nat} (out : List Int) (a b c : Int) (ho : out.length ≤ 300) (hk : 200 ≤ k) : ∃ x, spec_l4Add.f k out a b c = some (x, okT out.length a b c) ∧ (okT out.length a b c = true → x = addL out a b c) := by
  obtain ⟨k, rfl⟩ : ∃ m, k = m + 1 := ⟨k - 1, by omega⟩
  unfold spec_l4Add.f okT addL
  by_cases hb : b = 0
  · rw [if_pos hb, if_pos hb, if_pos hb, if_pos (by omega), Option.bind_some, l1In_f, Option.bind_some]
    cases h1 : (decide (0 ≤ a) && decide (a ≤ 255)) with
    | false => exact ⟨_, by rw [if_neg (by simp), Bool.and_false], fun h => by simp at h⟩
    | true =>
      refine ⟨_, ?_, fun _ => rfl⟩
      rw [if_pos rfl, Bool.and_true]
      congr 2
  · rw [if_neg hb, if_neg hb, if_neg hb]
    have no : spec_l4Add.j0 (k + 1) out true a b c = some (out, false) := by rw [spec_l4Add.j0, if_pos rfl]
    by_cases ha : a = 0
    · rw [if_pos ha, l1In_f, Option.bind_some]
      cases h1 : (decide (3 ≤ b) && decide (b ≤ 60)) with
      | false => exact ⟨out, by rw [if_neg (by simp), no]; simp, fun h => by simp at h⟩
      | true =>
        rw [if_pos rfl, l1In_f, Option.bind_some]
        cases h2 : (decide (1 ≤ c) && decide (c ≤ 250)) with
        | false => exact ⟨out, by rw [if_neg (by simp), no]; simp, fun h => by simp at h⟩
        | true =>
          rw [if_pos rfl, spec_l4Add.j0]
          simp only [Bool.and_eq_true, decide_eq_true_eq] at h1 h2
          by_cases hc : c > (out.length : Int)
          · exact ⟨out, by rw [if_pos (by simpa using hc)]; simp; omega, fun h => by simp at h; omega⟩
          · have := spec_copy_l a b c b.toNat k out 0 (by omega) (by omega) (by omega) (by omega) (by omega) (by omega)
            refine ⟨copyL c b.toNat out, ?_, fun _ => rfl⟩
            rw [if_neg (by simpa using hc)]
            rw [show ((0 : Nat) : Int) = 0 from rfl] at this
            rw [this]
            simp [ha]
            omega
    · exact ⟨out, by rw [if_neg ha, no]; simp [ha], fun h => by simp [ha] at h⟩
theorem impl_add_f {k : Nat} (out : List Int) (a b c : Int) (ho : out.length ≤ 300) (hk : 200 ≤ k) : ∃ x, impl_add.f k out a b c = some (x, okT out.length a b c) ∧ (okT out.length a b c = true → x = addL out a b c) := by
  obtain ⟨k, rfl⟩ : ∃ m, k = m + 1 := ⟨k - 1, by omega⟩
  unfold impl_add.f okT addL
  by_cases hb : b = 0
  · rw [if_pos hb, if_pos hb, if_pos hb]
    by_cases hc : c = 0
    · rw [if_pos hc, within_f, Option.bind_some]
      cases h1 : (decide (0 ≤ a) && decide (a ≤ 255)) with
      | false => exact ⟨_, by rw [if_neg (by simp), Bool.and_false], fun h => by simp at h⟩
      | true =>
        refine ⟨_, ?_, fun _ => rfl⟩
        rw [if_pos rfl, if_pos (by omega), Bool.and_true]
        simp [hc]
    · exact ⟨_, by rw [if_neg hc]; simp [hc]; rfl, fun h => by simp [hc] at h⟩
  · rw [if_neg hb, if_neg hb, if_neg hb]
    have no : impl_add.j0 (k + 1) out true a b c = some ([], false) := by rw [impl_add.j0, if_pos rfl]
    by_cases ha : a = 0
    · rw [if_pos ha, within_f, Option.bind_some]
      cases h1 : (decide (3 ≤ b) && decide (b ≤ 60)) with
      | false => exact ⟨[], by rw [if_neg (by simp), no]; simp, fun h => by simp at h⟩
      | true =>
        rw [if_pos rfl, within_f, Option.bind_some]
        have e : (decide (1 ≤ c) && decide (c ≤ mn 250 (out.length : Int))) = ((decide (1 ≤ c) && decide (c ≤ 250)) && decide (c ≤ (out.length : Int))) := by
          have hm : c ≤ mn 250 (out.length : Int) ↔ c ≤ 250 ∧ c ≤ (out.length : Int) := by
            unfold mn
            by_cases hq : (out.length : Int) < 250
            · rw [if_pos hq]; omega
            · rw [if_neg hq]; omega
          rw [Bool.eq_iff_iff, Bool.and_eq_true, Bool.and_eq_true, Bool.and_eq_true, decide_eq_true_eq, decide_eq_true_eq, decide_eq_true_eq, decide_eq_true_eq, hm]
          omega
        rw [e]
        simp only [Bool.and_eq_true, decide_eq_true_eq] at h1
        cases h2 : ((decide (1 ≤ c) && decide (c ≤ 250)) && decide (c ≤ (out.length : Int))) with
        | false => exact ⟨[], by rw [Bool.not_false, no]; simp, fun h => by simp at h⟩
        | true =>
          simp only [Bool.and_eq_true, decide_eq_true_eq] at h2
          have := impl_copy_l a b c b.toNat k out 0 (by omega) (by omega) (by omega) (by omega) (by omega) (by omega)
          refine ⟨copyL c b.toNat out, ?_, fun _ => rfl⟩
          rw [impl_add.j0, Bool.not_true, if_neg (by simp)]
          rw [show ((0 : Nat) : Int) = 0 from rfl] at this
          rw [this]
          subst ha
          rfl
    · exact ⟨[], by rw [if_neg ha, no]; simp [ha], fun h => by simp [ha] at h⟩
theorem rd70 {l : List S70} {i : Nat} (h : i < l.length) : rd_T70 l (i : Int) = l[i] := by simp [rd_T70, List.getElem?_eq_getElem h]
theorem spec_text_l (d : Nat) : ∀ (k : Nat) (l : List S70) (out : List Int) (i : Nat), i ≤ l.length → l.length - i = d → l.length ≤ 1048576 → out.length ≤ 300 → d + 300 < k →
    spec_l4Text.l0 k l out (i : Int) = some (textL (l.drop i) out) := by
  induction d with
  | zero =>
    intro k l out i hi hd hl ho hk
    obtain ⟨k, rfl⟩ : ∃ m, k = m + 1 := ⟨k - 1, by omega⟩
    rw [spec_l4Text.l0, if_neg (by omega), List.drop_of_length_le (by omega)]
    rfl
  | succ d ih =>
    intro k l out i hi hd hl ho hk
    obtain ⟨k, rfl⟩ : ∃ m, k = m + 1 := ⟨k - 1, by omega⟩
    rw [spec_l4Text.l0, if_pos (by omega), if_pos (by omega), rd70 (by omega), List.drop_eq_getElem_cons (show i < l.length by omega)]
    generalize l[i]'(by omega) = t
    obtain ⟨x, hx, hx2⟩ := spec_add_f (k := k) out t.f0 t.f1 t.f2 ho (by omega)
    rw [hx, Option.bind_some, textL]
    cases h : okT out.length t.f0 t.f1 t.f2 with
    | false => rfl
    | true =>
      rw [hx2 h]
      simp only [if_true]
      by_cases h3 : 300 < (addL out t.f0 t.f1 t.f2).length
      · rw [if_pos h3, if_pos (by omega)]
      · rw [if_neg h3, if_neg (by omega), w64 (by omega) (by omega), show ((i : Int) + 1) = ((i + 1 : Nat) : Int) by omega]
        exact ih k l _ (i + 1) (by omega) (by omega) hl (by omega) (by omega)
theorem impl_text_l (d : Nat) : ∀ (k : Nat) (l : List S70) (out : List Int) (i : Nat), i ≤ l.length → l.length - i = d → l.length ≤ 1048576 → out.length ≤ 300 → d + 300 < k →
    impl_TokensText.l0 k out l (l.length : Int) (i : Int) = some (strOfNums (textL (l.drop i) out).1, (textL (l.drop i) out).2) := by
  induction d with
  | zero =>
    intro k l out i hi hd hl ho hk
    obtain ⟨k, rfl⟩ : ∃ m, k = m + 1 := ⟨k - 1, by omega⟩
    rw [impl_TokensText.l0, if_neg (by omega), List.drop_of_length_le (by omega)]
    rfl
  | succ d ih =>
    intro k l out i hi hd hl ho hk
    obtain ⟨k, rfl⟩ : ∃ m, k = m + 1 := ⟨k - 1, by omega⟩
    rw [impl_TokensText.l0, if_pos (by omega), if_pos (by omega), if_pos (by omega), rd70 (by omega), List.drop_eq_getElem_cons (show i < l.length by omega)]
    generalize l[i]'(by omega) = t
    obtain ⟨x, hx, hx2⟩ := impl_add_f (k := k) out t.f0 t.f1 t.f2 ho (by omega)
    rw [hx, Option.bind_some, textL]
    cases h : okT out.length t.f0 t.f1 t.f2 with
    | false => rfl
    | true =>
      rw [hx2 h]
      simp only [if_true]
      by_cases h3 : 300 < (addL out t.f0 t.f1 t.f2).length
      · rw [if_pos h3, if_pos (by omega)]
        rfl
      · rw [if_neg h3, if_neg (by omega), w64 (by omega) (by omega), show ((i : Int) + 1) = ((i + 1 : Nat) : Int) by omega]
        exact ih k l _ (i + 1) (by omega) (by omega) hl (by omega) (by omega)

/-! ### The law's own helpers -/
def convT (p : S72) : S70 := ⟨p.f0, p.f1, p.f2⟩
theorem rd72 {l : List S72} {i : Nat} (h : i < l.length) : rd_T72 l (i : Int) = l[i] := by simp [rd_T72, List.getElem?_eq_getElem h]
theorem toTokenS_l (d : Nat) : ∀ (k : Nat) (l : List S72) (out : List S70) (i : Nat), i ≤ l.length → l.length - i = d → l.length ≤ 1048576 → out.length = l.length → out.take i = (l.map convT).take i → d < k →
    laws_toTokenS.l0 k l out (i : Int) = some (l.map convT) := by
  induction d with
  | zero =>
    intro k l out i hi hd hl ho ht hk
    obtain ⟨k, rfl⟩ : ∃ m, k = m + 1 := ⟨k - 1, by omega⟩
    rw [laws_toTokenS.l0, if_neg (by omega)]
    rw [List.take_of_length_le (by omega), List.take_of_length_le (by simp; omega)] at ht
    rw [ht]
  | succ d ih =>
    intro k l out i hi hd hl ho ht hk
    obtain ⟨k, rfl⟩ : ∃ m, k = m + 1 := ⟨k - 1, by omega⟩
    rw [laws_toTokenS.l0, if_pos (by omega), if_pos (by omega)]
    unfold laws_toToken.f
    rw [Option.bind_some, if_pos (by omega), w64 (by omega) (by omega), show ((i : Int) + 1) = ((i + 1 : Nat) : Int) by omega, rd72 (by omega), Int.toNat_natCast]
    refine ih k l _ (i + 1) (by omega) (by omega) hl (by simp; omega) ?_ (by omega)
    rw [List.take_succ_eq_append_getElem (by simp; omega), List.take_succ_eq_append_getElem (show i < (l.map convT).length by simp; omega), List.getElem_set_self, List.take_set_of_le (Nat.le_refl _), ht, List.getElem_map]
    rfl
theorem toTokenS_f {k : Nat} (l : List S72) (hl : l.length ≤ 1048576) (hk : l.length + 1 ≤ k) : laws_toTokenS.f k l = some (l.map convT) := by
  unfold laws_toTokenS.f
  rw [if_pos (by omega), if_pos (by omega)]
  exact toTokenS_l l.length k l _ 0 (by omega) (by omega) (by omega) (by simp) (by simp) (by omega)
theorem eqTokenS_l (d : Nat) : ∀ (k : Nat) (l : List S70) (i : Nat), i ≤ l.length → l.length - i = d → l.length ≤ 1048576 → d < k → laws_eqTokenS.l0 k l l (i : Int) = some true := by
  induction d with
  | zero =>
    intro k l i hi hd hl hk
    obtain ⟨k, rfl⟩ : ∃ m, k = m + 1 := ⟨k - 1, by omega⟩
    rw [laws_eqTokenS.l0, if_neg (by omega)]
  | succ d ih =>
    intro k l i hi hd hl hk
    obtain ⟨k, rfl⟩ : ∃ m, k = m + 1 := ⟨k - 1, by omega⟩
    rw [laws_eqTokenS.l0, if_pos (by omega), if_pos (by omega), if_pos (by omega)]
    unfold laws_eqToken.f
    rw [if_pos rfl, if_pos rfl, if_pos rfl, Option.bind_some, if_pos rfl, w64 (by omega) (by omega), show ((i : Int) + 1) = ((i + 1 : Nat) : Int) by omega]
    exact ih k l (i + 1) (by omega) (by omega) hl (by omega)
theorem eqTokenS_f {k : Nat} (l : List S70) (hl : l.length ≤ 1048576) (hk : l.length + 1 ≤ k) : laws_eqTokenS.f k l l = some true := by
  unfold laws_eqTokenS.f
  rw [if_pos rfl]
  exact eqTokenS_l l.length k l 0 (by omega) (by omega) (by omega) (by omega)
theorem szTokenS_f (l : List S72) (hl : l.length ≤ 9223372036854775807) : ∃ z : Int, laws_szTokenS.f l 1048576 = some z ∧ (¬ z < 0 → l.length ≤ 1048576) := by
  unfold laws_szTokenS.f
  rw [w64 (by omega) (by omega)]
  by_cases h : (1048576 : Int) - (l.length : Int) < 0
  · exact ⟨-1, by rw [if_pos h], fun h => absurd h (by decide)⟩
  · exact ⟨_, by rw [if_neg h], fun _ => by omega⟩
theorem ExactTokensText (l : List S72) (hl : l.length ≤ 9223372036854775807) : ∃ k, laws_FnExactTokensText.f k l = some true := by
  refine ⟨2000001, ?_⟩
  obtain ⟨z, hz, hzl⟩ := szTokenS_f l hl
  unfold laws_FnExactTokensText.f
  rw [hz, Option.bind_some]
  by_cases h0 : z < 0
  · rw [if_pos h0]
  have h1 := hzl h0
  have h2 : (l.map convT).length ≤ 1048576 := by rw [List.length_map]; exact h1
  have S : spec_TokensText.f 2000001 (l.map convT) = some (strOfNums (textL (l.map convT) []).1, (textL (l.map convT) []).2) := by
    unfold spec_TokensText.f spec_l4Text.f
    have := spec_text_l (l.map convT).length 2000001 (l.map convT) [] 0 (by omega) (by omega) h2 (by simp) (by omega)
    rw [show ((0 : Nat) : Int) = 0 from rfl, List.drop_zero] at this
    rw [this, Option.bind_some]
  have I : impl_TokensText.f 2000001 (l.map convT) = some (strOfNums (textL (l.map convT) []).1, (textL (l.map convT) []).2) := by
    unfold impl_TokensText.f
    have := impl_text_l (l.map convT).length 2000001 (l.map convT) [] 0 (by omega) (by omega) h2 (by simp) (by omega)
    rwa [show ((0 : Nat) : Int) = 0 from rfl, List.drop_zero] at this
  rw [if_neg h0, toTokenS_f l h1 (by omega), Option.bind_some, S, Option.bind_some, Option.bind_some, I, Option.bind_some, if_pos rfl]
  have hb : ∀ b : Bool, (b != b) = false := fun b => by simp
  simp only []
  rw [hb, laws_FnExactTokensText.j0, if_neg (by simp), toTokenS_f l h1 (by omega), Option.bind_some, eqTokenS_f _ h2 (by omega), Option.bind_some, if_pos rfl]
end Go.Proofs.Ytfpbdojbnomnmaa.My
