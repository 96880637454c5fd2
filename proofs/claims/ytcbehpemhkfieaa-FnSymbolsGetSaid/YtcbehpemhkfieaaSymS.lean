/- The reference's reader of one symbol, told by the plain one. -/
import Derived.Test.YtcbehpemhkfieaaPAllx0
import Derived.Test.YtcbehpemhkfieaaPAllx25
import Derived.Test.YtcbehpemhkfieaaPAllx31
import Derived.Test.YtcbehpemhkfieaaSym
namespace Go.Proofs.Ytcbehpemhkfieaa.My
open Go Go.RowKit Go.Proofs.YtcbehpemhkfieaaW.PrintWords Go.Proofs.YtcbehpemhkfieaaW.PrintLast Go.Proofs.YtcbehpemhkfieaaW.PrintMore Go.Proofs.Ytcbehpemhkfieaa.PAll
open Go.Proofs.Ytcbehpemhkfieaa.Bit

/-! ### The reference's -/
theorem sS_in {l : List Int} (hk : okLens l = true) (hl : l.length ≤ 300) (s : ByteArray) (c n : Nat) (hn : 1 ≤ n) (p : Int) (b : Bool) (P : Option (Int × ByteArray × Int × Bool) → Prop) (K : Nat)
    (found : ∀ j : Nat, hitL l c n = some j → P (some ((j : Int), s, p, b))) (next : hitL l c n = none → ∀ k, K ≤ k → P (spec_l1Src_symbol.l0 k l (codesL l) (c : Int) (wrap64 ((n : Int) + 1)) s p b)) (d : Nat) :
    ∀ (k i : Nat), i ≤ l.length → l.length - i = d → (∀ j, j < i → ¬ hit l c n j) → K + d < k → P (spec_l1Src_symbol.l1 k l (codesL l) (c : Int) (n : Int) (i : Int) s p b) := by
  have hcl := codesL_length l
  induction d with
  | zero =>
    intro k i hi hd hno hk2
    obtain ⟨k, rfl⟩ : ∃ m, k = m + 1 := ⟨k - 1, by omega⟩
    rw [spec_l1Src_symbol.l1, if_neg (by omega)]
    refine next ?_ k (by omega)
    cases e : hitL l c n with
    | none => rfl
    | some j => exact absurd (hitL_some e) (hno j (by have := (hitL_some e).1; omega))
  | succ d ih =>
    intro k i hi hd hno hk2
    obtain ⟨k, rfl⟩ : ∃ m, k = m + 1 := ⟨k - 1, by omega⟩
    have hil : i < l.length := by omega
    have go : ¬ hit l c n i → P (spec_l1Src_symbol.l1 k l (codesL l) (c : Int) (n : Int) (wrap64 ((i : Int) + 1)) s p b) := fun h => by
      rw [w64 (by omega) (by omega), show ((i : Int) + 1) = ((i + 1 : Nat) : Int) by omega]
      exact ih k (i + 1) (by omega) (by omega) (fun j hj => by
        by_cases e : j = i
        · subst e; exact h
        · exact hno j (by omega)) (by omega)
    rw [spec_l1Src_symbol.l1, if_pos (by omega), if_pos (by omega)]
    by_cases h1 : rd l (i : Int) = (n : Int)
    · obtain ⟨n', c', e1, e2, e3, e4, e5, e6⟩ := sym_code hk hil (by omega)
      rw [if_pos h1, if_pos (by omega), e4]
      by_cases h2 : ((c' : Nat) : Int) = (c : Int)
      · rw [if_pos h2]
        exact found i (hitL_eq ⟨hil, h1, by omega⟩)
      · rw [if_neg h2]
        exact go (fun h => h2 (by rw [e5, h.2.2]))
    · rw [if_neg h1]
      exact go (fun h => h1 h.2.1)
theorem sS_end {l : List Int} {k : Nat} (hk : 3 ≤ k) (c n : Int) (s : ByteArray) (p : Int) (b : Bool) (h : ¬ n ≤ 15 ∨ b = true) : spec_l1Src_symbol.l0 k l (codesL l) c n s p b = some (-1, s, p, true) := by
  obtain ⟨k, rfl⟩ : ∃ m, k = m + 2 := ⟨k - 2, by omega⟩
  rw [spec_l1Src_symbol.l0]
  by_cases hn : n ≤ 15
  · have hb := h.resolve_left (fun x => x hn)
    subst hb
    rw [if_pos hn, spec_l1Src_symbol.j1, if_neg (by simp)]
  · rw [if_neg hn, spec_l1Src_symbol.j1, if_neg (by simp)]

theorem spec_bit {k : Nat} (s : ByteArray) (hs : s.size ≤ 1099511627776) (p : Nat) (hp : p ≤ 8 * s.size) (b : Bool) (hk : 10 ≤ k) :
    spec_l1Src_bit.f k s (p : Int) b = some (((bit1 s p : Nat) : Int), s, ((nx s p : Nat) : Int), lost s p b) := by
  unfold spec_l1Src_bit.f nx lost
  rw [w64 (x := 8 * (s.size : Int)) (by omega) (by omega)]
  by_cases h : p < 8 * s.size
  · obtain ⟨c, hc, he⟩ := tb_get s h
    have hd : ((p : Int) / 8) = ((p / 8 : Nat) : Int) := by omega
    have hm : ((p : Int) % 8) = ((p % 8 : Nat) : Int) := by omega
    have hr := bt_range s ((p / 8 : Nat) : Int)
    have hpw : 1 ≤ 2 ^ (p % 8) := Nat.one_le_two_pow
    have e : ((2 ^ (p % 8) : Nat) : Int) = 2 ^ (p % 8) := by simp
    have h0 : 0 ≤ bt s ((p / 8 : Nat) : Int) / 2 ^ (p % 8) := Int.ediv_nonneg hr.1 (Int.pow_nonneg (by decide))
    have h1 : bt s ((p / 8 : Nat) : Int) / 2 ^ (p % 8) ≤ bt s ((p / 8 : Nat) : Int) := Int.ediv_le_self _ hr.1
    rw [if_neg (by omega), tdiv_pos (by omega), tmod_pos (by omega), hd, w64 (x := ((p / 8 : Nat) : Int)) (by omega) (by omega), if_pos (by omega), if_pos (by omega), hm, l1Pow_f (by omega) (by omega), Option.bind_some, if_neg (by omega),
      w64 (x := bt s ((p / 8 : Nat) : Int)) (by omega) (by omega), tdiv_pos hr.1, e, w64 (by omega) (by omega), tmod_pos h0, he, w64 (by omega) (by omega), if_pos h, if_pos h]
    have : bit1 s p = c.toNat := by unfold bit1; rw [hc]; rfl
    rw [this]
    simp
  · rw [if_pos (by omega), if_neg h, if_neg h, bit1_past s (by omega)]
    rfl
/-- How many rounds are enough for so many bits. -/
def need : Nat → Nat
  | 0 => 50
  | d + 1 => need d + 400
theorem need_two {d k : Nat} (h : need (d + 1) ≤ k) : ∃ m, k = m + 2 := by
  have e : need (d + 1) = need d + 400 := rfl
  exact ⟨k - 2, by omega⟩
theorem need_on {d k L : Nat} (h : need (d + 1) ≤ k + 2) (hl : L ≤ 300) : need d + L < k := by
  have e : need (d + 1) = need d + 400 := rfl
  omega
theorem need_end {d k L : Nat} (h : need (d + 1) ≤ k + 2) (hl : L ≤ 300) : 3 + L < k := by
  have e : need (d + 1) = need d + 400 := rfl
  omega
theorem need_ten {d k : Nat} (h : need (d + 1) ≤ k + 2) : 10 ≤ k := by
  have e : need (d + 1) = need d + 400 := rfl
  omega
theorem w_next {n : Nat} (h : n ≤ 15) : wrap64 ((n : Int) + 1) = ((n + 1 : Nat) : Int) := by
  rw [w64 (by omega) (by omega)]
  omega
theorem need15 : need 15 = 6050 := rfl
/-- What the reference's reader tells, where the plain one tells o. -/
def symQ (s : ByteArray) : Option (Nat × Nat) → Option (Int × ByteArray × Int × Bool) → Prop
  | some (j, q), r => r = some ((j : Int), s, (q : Int), false)
  | none, r => ∃ v q : Int, r = some (v, s, q, true)
theorem sS_one {l : List Int} (s : ByteArray) (hs : s.size ≤ 1099511627776) (c n p k : Nat) (hn : n ≤ 15) (hc : wrap64 (wrap64 (2 * (c : Int)) + ((bit1 s p : Nat) : Int)) = ((2 * c + bit1 s p : Nat) : Int)) (h4 : p ≤ 8 * s.size) (hk2 : 10 ≤ k) :
    spec_l1Src_symbol.l0 (k + 2) l (codesL l) (c : Int) (n : Int) s (p : Int) false = spec_l1Src_symbol.l1 k l (codesL l) ((2 * c + bit1 s p : Nat) : Int) (n : Int) ((0 : Nat) : Int) s ((nx s p : Nat) : Int) (lost s p false) := by
  have h15 : (n : Int) ≤ 15 := by omega
  rw [spec_l1Src_symbol.l0, if_pos h15, spec_l1Src_symbol.j1, Bool.not_false, if_pos rfl, spec_bit s hs p h4 false hk2, Option.bind_some]
  simp only []
  rw [hc, Int.natCast_zero]
theorem sS_is {l : List Int} (hk : okLens l = true) (hl : l.length ≤ 300) (s : ByteArray) (hs : s.size ≤ 1099511627776) (d : Nat) : ∀ (c n p k : Nat), 1 ≤ n → n + d = 16 → c < 2 ^ (n - 1) → p ≤ 8 * s.size → need d ≤ k →
    symQ s (symN l s d c n p) (spec_l1Src_symbol.l0 k l (codesL l) (c : Int) (n : Int) s (p : Int) false) := by
  induction d with
  | zero =>
    intro c n p k _ h2 _ _ hk2
    have h3 : 3 ≤ k := Nat.le_trans (by decide) hk2
    exact ⟨-1, p, sS_end h3 _ _ _ _ _ (.inl (by omega))⟩
  | succ d ih =>
    intro c n p k h1 h2 h3 h4 hk2
    obtain ⟨k, rfl⟩ := need_two hk2
    have hn15 : n ≤ 15 := by omega
    have hn16 : n + 1 + d = 16 := by omega
    have hn0 : ¬ n = 0 := by omega
    obtain ⟨e1, e2⟩ := (code_next (p := p) (s := s) hn15 h3).resolve_right hn0
    have hw := w_next hn15
    have hk3 := need_on hk2 hl
    have hk4 := need_end hk2 hl
    have hk5 := need_ten hk2
    clear hk2
    rw [sS_one s hs c n p k hn15 e1 h4 hk5, symN]
    have hnx : p < 8 * s.size → nx s p = p + 1 := fun hp => by unfold nx; rw [if_pos hp]
    have hlo : p < 8 * s.size → lost s p false = false := fun hp => by unfold lost; rw [if_pos hp]
    have hlo2 : ¬ p < 8 * s.size → lost s p false = true := fun hp => by unfold lost; rw [if_neg hp]
    have ih2 := ih (2 * c + bit1 s p) (n + 1) (p + 1)
    rw [Nat.add_sub_cancel] at ih2
    clear e1 h3
    generalize 2 * c + bit1 s p = c2 at *
    have go := fun P K => sS_in hk hl s c2 n h1 ((nx s p : Nat) : Int) (lost s p false) P K
    by_cases hp : p < 8 * s.size
    · rw [if_pos hp]
      rw [hnx hp, hlo hp] at go ⊢
      refine go _ (need d) (fun j e => ?_) (fun e k' hk' => ?_) l.length k 0 (Nat.zero_le _) (Nat.sub_zero _) (fun i hi => absurd hi (Nat.not_lt_zero _)) hk3
      · rw [e]
        rfl
      · rw [e, hw]
        exact ih2 k' (Nat.le_add_left _ _) hn16 e2 hp hk'
    · rw [if_neg hp]
      rw [hlo2 hp] at go ⊢
      refine go _ 3 (fun j e => ⟨_, _, rfl⟩) (fun e k' hk' => ⟨_, _, sS_end hk' _ _ _ _ _ (.inr rfl)⟩) l.length k 0 (Nat.zero_le _) (Nat.sub_zero _) (fun i hi => absurd hi (Nat.not_lt_zero _)) hk4
end Go.Proofs.Ytcbehpemhkfieaa.My
