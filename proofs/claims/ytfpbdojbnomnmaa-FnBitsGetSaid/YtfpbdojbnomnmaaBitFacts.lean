/- What holds of texts that are made of pieces, and of pieces that are read of texts. -/
import Derived.Test.YtfpbdojbnomnmaaPAllx0
import Derived.Test.YtfpbdojbnomnmaaLinkLong
namespace Go.Proofs.Ytfpbdojbnomnmaa.My
open Go Go.RowKit Go.Proofs.YtfpbdojbnomnmaaW.PrintWords Go.Proofs.YtfpbdojbnomnmaaW.PrintLast Go.Proofs.YtfpbdojbnomnmaaW.PrintMore Go.Proofs.Ytfpbdojbnomnmaa.PAll
open Go.Proofs.Ytfpbdojbnomnmaa.Bit

/-- The text of some pieces. -/
def txt (l : List S47) : ByteArray := if okL l then strOfNums (packI (bitsOf l)) else ⟨#[]⟩
theorem strOfNums_size (l : List Int) : (strOfNums l).size = l.length := by simp [strOfNums, ByteArray.size]
theorem bys_packI (L : List Bool) : bys (strOfNums (packI L)) = pack L := by
  rw [bys_strOfNums _ (by
    intro x hx
    obtain ⟨n, hn, rfl⟩ := List.mem_map.1 hx
    have := pack_lt L n hn
    omega)]
  unfold packI
  rw [List.map_map]
  conv => rhs; rw [← List.map_id (pack L)]
  apply List.map_congr_left
  intro n _
  simp
theorem txt_ok {l : List S47} (h : okL l = true) : txt l = strOfNums (packI (bitsOf l)) := by unfold txt; rw [if_pos h]
theorem txt_no {l : List S47} (h : okL l = false) : txt l = ⟨#[]⟩ := by unfold txt; rw [h]; rfl
theorem bys_txt {l : List S47} (h : okL l = true) : bys (txt l) = pack (bitsOf l) := by rw [txt_ok h, bys_packI]
theorem txt_size {l : List S47} (h : okL l = true) : (txt l).size = (total l + 7) / 8 := by
  rw [txt_ok h, strOfNums_size, packI_length, bitsOf_length]
theorem total_le {l : List S47} (h : ∀ p ∈ l, okP p.f0 p.f1 = true) : total l ≤ 16 * l.length := by
  induction l with
  | nil => simp [total]
  | cons p l ih =>
    obtain ⟨x, m, e1, e2, h3, h4⟩ := okP_yes (h p (List.mem_cons_self ..))
    have := ih (fun q hq => h q (List.mem_cons_of_mem _ hq))
    simp only [total, List.map_cons, List.sum_cons, e2, Int.toNat_natCast, List.length_cons] at *
    omega
theorem txt_small (l : List S47) : (txt l).size ≤ 8000 := by
  cases h : okL l with
  | false => rw [txt_no h]; decide
  | true =>
    rw [txt_size h]
    have h2 := okL_at h
    have := total_le h2.2
    omega
theorem okL_append {a b : List S47} : okL (a ++ b) = true ↔ (∀ p ∈ a, okP p.f0 p.f1 = true) ∧ (∀ p ∈ b, okP p.f0 p.f1 = true) ∧ a.length + b.length ≤ 4000 := by
  simp only [okL, Bool.and_eq_true, decide_eq_true_eq, List.all_eq_true, List.mem_append, List.length_append]
  constructor
  · rintro ⟨h1, h2⟩
    exact ⟨fun p hp => h1 p (.inl hp), fun p hp => h1 p (.inr hp), h2⟩
  · rintro ⟨h1, h2, h3⟩
    refine ⟨fun p hp => ?_, h3⟩
    rcases hp with hp | hp
    · exact h1 p hp
    · exact h2 p hp
theorem okL_mk {l : List S47} (h : ∀ p ∈ l, okP p.f0 p.f1 = true) (hl : l.length ≤ 4000) : okL l = true := by
  simp only [okL, Bool.and_eq_true, decide_eq_true_eq, List.all_eq_true]
  exact ⟨h, hl⟩
theorem bitsOf_append (a b : List S47) : bitsOf (a ++ b) = bitsOf a ++ bitsOf b := by simp [bitsOf]
theorem total_append (a b : List S47) : total (a ++ b) = total a + total b := by simp [total]
end Go.Proofs.Ytfpbdojbnomnmaa.My
