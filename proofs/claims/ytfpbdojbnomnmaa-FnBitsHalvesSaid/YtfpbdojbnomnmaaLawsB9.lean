/- The law FnBitsHalves: pieces in halves. -/
import Derived.Test.YtfpbdojbnomnmaaPAllx28
import Derived.Test.YtfpbdojbnomnmaaBitFacts
import Derived.Test.YtfpbdojbnomnmaaDrawBits
import Derived.Test.YtfpbdojbnomnmaaPutFacts
import Derived.Test.YtfpbdojbnomnmaaPow
namespace Go.Proofs.Ytfpbdojbnomnmaa.My
open Go Go.RowKit Go.Proofs.YtfpbdojbnomnmaaW.PrintWords Go.Proofs.YtfpbdojbnomnmaaW.PrintLast Go.Proofs.YtfpbdojbnomnmaaW.PrintMore Go.Proofs.Ytfpbdojbnomnmaa.PAll
open Go.Proofs.Ytfpbdojbnomnmaa.Bit

/-! ### Halves -/
def half (p : S47) : List S47 := [⟨((p.f0.toNat % 2 ^ (p.f1.toNat / 2) : Nat) : Int), ((p.f1.toNat / 2 : Nat) : Int)⟩, ⟨((p.f0.toNat / 2 ^ (p.f1.toNat / 2) : Nat) : Int), ((p.f1.toNat - p.f1.toNat / 2 : Nat) : Int)⟩]
theorem half_bits (l : List S47) : bitsOf (l.flatMap half) = bitsOf l := by
  induction l with
  | nil => rfl
  | cons p l ih =>
    rw [List.flatMap_cons, bitsOf_append, ih]
    have : bitsOf (half p) = nb p.f0.toNat p.f1.toNat := by
      simp only [half, bitsOf, List.flatMap_cons, List.flatMap_nil, List.append_nil, Int.toNat_natCast]
      rw [nb_mod, ← nb_add]
      congr 1
      omega
    rw [this]
    simp [bitsOf]
theorem half_length (l : List S47) : (l.flatMap half).length = 2 * l.length := by
  induction l with
  | nil => rfl
  | cons p l ih => rw [List.flatMap_cons, List.length_append, ih]; simp [half]; omega
theorem half_ok {l : List S47} (hl : l.length ≤ 400) (h : okL l = true) : okL (l.flatMap half) = true := by
  refine okL_mk (fun q hq => ?_) (by rw [half_length]; omega)
  obtain ⟨p, hp, hq⟩ := List.mem_flatMap.1 hq
  obtain ⟨x, m, e1, e2, h3, h4⟩ := okP_yes (okL_all h p hp)
  simp only [half, e1, e2, Int.toNat_natCast, List.mem_cons, List.not_mem_nil, or_false] at hq
  rcases hq with rfl | rfl
  · exact okP_mk (by omega) (Nat.mod_lt _ (Nat.pow_pos (by decide)))
  · refine okP_mk (by omega) ?_
    rw [Nat.div_lt_iff_lt_mul (Nat.pow_pos (by decide)), ← Nat.pow_add]
    rwa [show m - m / 2 + m / 2 = m by omega]
theorem Halves_l (d : Nat) : ∀ (k : Nat) (l : List S47) (i : Nat), okL l = true → i ≤ l.length → l.length - i = d → l.length ≤ 400 → d + 2000 < k →
    laws_FnBitsHalves.l0 k l (txt l) ((l.take i).flatMap half) (i : Int) = some true := by
  induction d with
  | zero =>
    intro k l i hok hi hd hl hk
    obtain ⟨k, rfl⟩ : ∃ m, k = m + 1 := ⟨k - 1, by omega⟩
    have e : txt (l.flatMap half) = txt l := by rw [txt_ok (half_ok hl hok), half_bits, txt_ok hok]
    rw [laws_FnBitsHalves.l0, if_neg (by omega), List.take_of_length_le (by omega), Iput _ (by rw [half_length]; omega) (by omega), Option.bind_some, e]
    simp
  | succ d ih =>
    intro k l i hok hi hd hl hk
    obtain ⟨k, rfl⟩ : ∃ m, k = m + 1 := ⟨k - 1, by omega⟩
    have hil : i < l.length := by omega
    obtain ⟨x, m, e1, e2, h3, h4⟩ := okP_yes (okL_all hok (l[i]) (List.getElem_mem hil))
    have hp := pow16 h3
    have h16 : 2 ^ (m / 2) ≤ 2 ^ m := Nat.pow_le_pow_right (by decide) (by omega)
    have h1 : 1 ≤ 2 ^ (m / 2) := Nat.one_le_two_pow
    have := ih k l (i + 1) hok (by omega) (by omega) hl (by omega)
    rw [List.take_succ_eq_append_getElem hil, List.flatMap_append] at this
    have hh : [l[i]].flatMap half = [⟨((x % 2 ^ (m / 2) : Nat) : Int), ((m / 2 : Nat) : Int)⟩, ⟨((x / 2 ^ (m / 2) : Nat) : Int), ((m - m / 2 : Nat) : Int)⟩] := by
      simp [half, e1, e2]
    rw [hh] at this
    have hm : wrap64 (Int.tdiv (m : Int) 2) = ((m / 2 : Nat) : Int) := by rw [tdiv_pos (by omega), w64 (by omega) (by omega)]; omega
    rw [laws_FnBitsHalves.l0, if_pos (by omega), if_pos (by omega), rd_at hil, e1, e2, hm, cbPow_f (by omega) (by omega), Option.bind_some, if_neg (by omega), Option.bind_some, if_neg (by omega), Option.bind_some,
      if_pos (by rw [half_length, List.length_take]; simp; omega), w64 (x := (i : Int) + 1) (by omega) (by omega), show ((i : Int) + 1) = ((i + 1 : Nat) : Int) by omega]
    have e5 : Int.tmod (x : Int) ((2 ^ (m / 2) : Nat) : Int) = ((x % 2 ^ (m / 2) : Nat) : Int) := by rw [tmod_pos (by omega)]; rfl
    have hd : x / 2 ^ (m / 2) ≤ x := Nat.div_le_self _ _
    have e6 : wrap64 (Int.tdiv (x : Int) ((2 ^ (m / 2) : Nat) : Int)) = ((x / 2 ^ (m / 2) : Nat) : Int) := by
      rw [tdiv_pos (by omega), ← Int.natCast_ediv]
      generalize x / 2 ^ (m / 2) = y at *
      exact w64 (by omega) (by omega)
    have e7 : wrap64 ((m : Int) - ((m / 2 : Nat) : Int)) = ((m - m / 2 : Nat) : Int) := by rw [w64 (by omega) (by omega)]; omega
    rw [e5, e6, e7]
    exact this
theorem LawBitsHalves : laws_FnBitsHalves.Pure := by
  intro l _ _ hl
  obtain ⟨s, hs, hd⟩ := DrawBitsPut_f hl
  refine ⟨5001, ?_⟩
  unfold laws_FnBitsHalves.f
  by_cases hz : (l.length : Int) > 1048576
  · rw [if_pos hz]
  rw [if_neg hz, hd _ (by omega), Option.bind_some, Iput s (by omega) (by omega), Option.bind_some, Pput s (by omega) (by omega), Option.bind_some, if_pos rfl, Ilong s (by omega) (by omega), Option.bind_some, laws_FnBitsHalves.j0]
  by_cases hb : decide (longI s < 0) = true
  · rw [if_pos hb, Pput s (by omega) (by omega), Option.bind_some]
    simp
  · rw [if_neg hb]
    exact Halves_l s.length 5000 s 0 (ok_of_long hb rfl) (by omega) (by omega) (by omega) (by omega)
end Go.Proofs.Ytfpbdojbnomnmaa.My
