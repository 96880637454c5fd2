/- The law FnBitsNone. -/
import Derived.Test.YtfpbdojbnomnmaaPAllx27
import Derived.Test.YtfpbdojbnomnmaaPutFacts
import Derived.Test.YtfpbdojbnomnmaaDrawBits
namespace Go.Proofs.Ytfpbdojbnomnmaa.My
open Go Go.RowKit Go.Proofs.YtfpbdojbnomnmaaW.PrintWords Go.Proofs.YtfpbdojbnomnmaaW.PrintLast Go.Proofs.YtfpbdojbnomnmaaW.PrintMore Go.Proofs.Ytfpbdojbnomnmaa.PAll
open Go.Proofs.Ytfpbdojbnomnmaa.Bit

/-! ### Nothing more -/
def none0 : S47 := ⟨0, 0⟩
def thin (l : List S47) : List S47 := none0 :: l.flatMap (fun p => [p, none0])
theorem thin_bits (l : List S47) : bitsOf (thin l) = bitsOf l := by
  have h : bitsOf (l.flatMap (fun p => [p, none0])) = bitsOf l := by
    induction l with
    | nil => rfl
    | cons p l ih =>
      rw [List.flatMap_cons, bitsOf_append, ih]
      simp [bitsOf, none0, nb]
  unfold thin
  rw [← h]
  simp [bitsOf, none0, nb]
theorem thin_length (l : List S47) : (thin l).length = 1 + 2 * l.length := by
  unfold thin
  induction l with
  | nil => rfl
  | cons p l ih => simp at ih ⊢; omega
theorem thin_ok {l : List S47} (hl : l.length ≤ 400) (h : okL l = true) : okL (thin l) = true := by
  refine okL_mk (fun q hq => ?_) (by rw [thin_length]; omega)
  unfold thin at hq
  rcases List.mem_cons.1 hq with rfl | hq
  · decide
  · obtain ⟨p, hp, hq⟩ := List.mem_flatMap.1 hq
    simp only [List.mem_cons, List.not_mem_nil, or_false] at hq
    rcases hq with rfl | rfl
    · exact okL_all h _ hp
    · decide
theorem None_l (T : ByteArray) (d : Nat) : ∀ (k : Nat) (l : List S47) (i : Nat), okL l = true → T = txt l → i ≤ l.length → l.length - i = d → l.length ≤ 400 → d + 2000 < k →
    laws_FnBitsNone.l0 k l T (thin (l.take i)) (i : Int) = some true := by
  induction d with
  | zero =>
    intro k l i hok hT hi hd hl hk
    obtain ⟨k, rfl⟩ : ∃ m, k = m + 1 := ⟨k - 1, by omega⟩
    rw [laws_FnBitsNone.l0, if_neg (by omega), List.take_of_length_le (by omega)]
    have e : txt (thin l) = txt l := by rw [txt_ok (thin_ok hl hok), thin_bits, txt_ok hok]
    have e2 : longI (thin l) = longI l := by rw [longI_ok (thin_ok hl hok), longI_ok hok, ← bitsOf_length, ← bitsOf_length, thin_bits]
    rw [Iput _ (by rw [thin_length]; omega) (by omega), Option.bind_some, e, hT, if_pos rfl, Ilong _ (by rw [thin_length]; omega) (by omega), Option.bind_some, Ilong l (by omega) (by omega), Option.bind_some, e2, if_pos rfl, Iput _ (by simp) (by omega), Option.bind_some, show txt [] = ⟨#[]⟩ from rfl, empty_list]
    rfl
  | succ d ih =>
    intro k l i hok hT hi hd hl hk
    obtain ⟨k, rfl⟩ : ∃ m, k = m + 1 := ⟨k - 1, by omega⟩
    rw [laws_FnBitsNone.l0, if_pos (by omega), if_pos (by omega), Option.bind_some, rd_at (by omega), if_pos (by rw [thin_length, List.length_take]; simp; omega), w64 (by omega) (by omega), show ((i : Int) + 1) = ((i + 1 : Nat) : Int) by omega]
    have e : thin (l.take i) ++ [(⟨(l[i]'(by omega)).f0, (l[i]'(by omega)).f1⟩ : S47), (⟨0, 0⟩ : S47)] = thin (l.take (i + 1)) := by
      rw [List.take_succ_eq_append_getElem (by omega)]
      unfold thin
      rw [List.flatMap_append, List.cons_append]
      rfl
    rw [e]
    exact ih k l (i + 1) hok hT (by omega) (by omega) hl (by omega)
theorem LawBitsNone : laws_FnBitsNone.Pure := by
  intro l _ _ hl
  obtain ⟨s, hs, hd⟩ := DrawBitsPut_f hl
  refine ⟨5001, ?_⟩
  unfold laws_FnBitsNone.f
  by_cases hz : (l.length : Int) > 1048576
  · rw [if_pos hz]
  rw [if_neg hz, hd _ (by omega), Option.bind_some, Iput s (by omega) (by omega), Option.bind_some, Pput s (by omega) (by omega), Option.bind_some, if_pos rfl, Ilong s (by omega) (by omega), Option.bind_some, laws_FnBitsNone.j0]
  by_cases hb : decide (longI s < 0) = true
  · rw [if_pos hb, Pput s (by omega) (by omega), Option.bind_some]
    simp
  · rw [if_neg hb]
    exact None_l (txt s) s.length 5000 s 0 (ok_of_long hb rfl) rfl (by omega) (by omega) (by omega) (by omega)
end Go.Proofs.Ytfpbdojbnomnmaa.My
