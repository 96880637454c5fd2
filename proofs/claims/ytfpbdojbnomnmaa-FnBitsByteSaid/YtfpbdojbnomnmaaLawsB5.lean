/- The law FnBitsByte: pieces of eight bits are the bytes. -/
import Derived.Test.YtfpbdojbnomnmaaPAllx23
import Derived.Test.YtfpbdojbnomnmaaReadFacts
import Derived.Test.YtfpbdojbnomnmaaPutFacts
namespace Go.Proofs.Ytfpbdojbnomnmaa.My
open Go Go.RowKit Go.Proofs.YtfpbdojbnomnmaaW.PrintWords Go.Proofs.YtfpbdojbnomnmaaW.PrintLast Go.Proofs.YtfpbdojbnomnmaaW.PrintMore Go.Proofs.Ytfpbdojbnomnmaa.PAll
open Go.Proofs.Ytfpbdojbnomnmaa.Bit

/-! ### Two rows alike -/
theorem rdI {l : List Int} {i : Nat} (h : i < l.length) : rd l (i : Int) = l[i] := by simp [rd, List.getElem?_eq_getElem h]
/-! ### Whole bytes -/
def by8 (l : List Int) : List S47 := l.map (fun x => (⟨x, 8⟩ : S47))
def Bytes (l : List Int) : Prop := ∀ x ∈ l, 0 ≤ x ∧ x ≤ 255
theorem by8_ok {l : List Int} (h : Bytes l) (hl : l.length ≤ 4000) : okL (by8 l) = true := by
  refine okL_mk (fun q hq => ?_) (by simp [by8]; omega)
  obtain ⟨x, hx, rfl⟩ := List.mem_map.1 hq
  obtain ⟨n, rfl⟩ := Int.eq_ofNat_of_zero_le (h x hx).1
  exact okP_mk (m := 8) (by omega) (by have := (h _ hx).2; omega)
theorem by8_bits (l : List Int) : bitsOf (by8 l) = unpack (l.map Int.toNat) := by
  unfold bitsOf by8
  induction l with
  | nil => rfl
  | cons x l ih => rw [List.map_cons, List.flatMap_cons, ih]; rfl
theorem by8_txt {l : List Int} (h : Bytes l) (hl : l.length ≤ 4000) : bys (txt (by8 l)) = l.map Int.toNat := by
  rw [bys_txt (by8_ok h hl), by8_bits, pack_unpack]
  intro b hb
  obtain ⟨x, hx, rfl⟩ := List.mem_map.1 hb
  have := h x hx
  omega
theorem by8_size {l : List Int} (h : Bytes l) (hl : l.length ≤ 4000) : (txt (by8 l)).size = l.length := by
  rw [← bys_length, by8_txt h hl, List.length_map]
theorem by8_f0 (l : List Int) : (by8 l).map (fun q => q.f0) = l := by
  induction l with
  | nil => rfl
  | cons x l ih => simp only [by8, List.map_cons] at ih ⊢; rw [ih]
theorem by8_f1 (l : List Int) : (by8 l).map (fun q => q.f1) = List.replicate l.length 8 := by
  induction l with
  | nil => rfl
  | cons x l ih => simp only [by8, List.map_cons, List.length_cons, List.replicate_succ] at ih ⊢; rw [ih]
theorem Byte_l1 (d : Nat) : ∀ (k : Nat) (l m : List Int) (i : Nat), Bytes m → m.length ≤ 60 → m = l.take m.length → i ≤ m.length → m.length - i = d → d + 2000 < k →
    laws_FnBitsByte.l1 k l (by8 m) (txt (by8 m)) m true (i : Int) = some true := by
  induction d with
  | zero =>
    intro k l m i hb hl hm hi hd hk
    obtain ⟨k, rfl⟩ : ∃ m, k = m + 1 := ⟨k - 1, by omega⟩
    have hz := by8_size hb (by omega)
    have h8 : (by8 m).length = m.length := by simp [by8]
    rw [laws_FnBitsByte.l1, if_neg (by omega), Pput _ (by omega) (by omega), Option.bind_some, if_pos rfl, if_pos rfl, if_pos (by omega), hz, h8]
    simp
  | succ d ih =>
    intro k l m i hb hl hm hi hd hk
    obtain ⟨k, rfl⟩ : ∃ m, k = m + 1 := ⟨k - 1, by omega⟩
    have hz := by8_size hb (by omega)
    have him : i < m.length := by omega
    have hil : m.length ≤ l.length := by
      have := congrArg List.length hm
      rw [List.length_take] at this
      omega
    have hr : rd l (i : Int) = m[i] := by
      rw [rdI (by omega)]
      have : m[i]? = (l.take m.length)[i]? := congrArg (fun z => z[i]?) hm
      rw [List.getElem?_take_of_lt him, List.getElem?_eq_getElem him, List.getElem?_eq_getElem (by omega)] at this
      exact (Option.some.inj this).symm
    have hmi := hb (m[i]) (List.getElem_mem him)
    have hbt : bt (txt (by8 m)) (i : Int) = m[i] := by
      rw [bt_get _ i (by omega)]
      have : (bys (txt (by8 m)))[i]? = (m.map Int.toNat)[i]? := congrArg (fun z => z[i]?) (by8_txt hb (by omega))
      rw [List.getElem?_eq_getElem (by rw [bys_length]; omega), List.getElem?_eq_getElem (by simp; omega)] at this
      rw [Option.some.inj this, List.getElem_map]
      omega
    rw [laws_FnBitsByte.l1, if_pos (by omega), if_pos (by omega), if_pos (by omega), hr, hbt, if_pos rfl, if_pos (by omega), rdI him, w64 (x := m[i]) (by omega) (by omega), if_pos rfl, w64 (by omega) (by omega), show ((i : Int) + 1) = ((i + 1 : Nat) : Int) by omega]
    exact ih k l m (i + 1) hb hl hm (by omega) (by omega) (by omega)
theorem Byte_j (l m : List Int) (k : Nat) (hb : Bytes m) (hl : m.length ≤ 60) (hm : m = l.take m.length) (hk : 3000 ≤ k) :
    laws_FnBitsByte.j1 k l (by8 m) (List.replicate m.length 8) = some true := by
  obtain ⟨k, rfl⟩ : ∃ m, k = m + 1 := ⟨k - 1, by omega⟩
  have hz := by8_size hb (by omega)
  have h8 : (by8 m).length = m.length := by simp [by8]
  rw [laws_FnBitsByte.j1, Iput _ (by omega) (by omega), Option.bind_some, ← by8_f1, impl_BitsGet_f _ (by omega) _ (by simp; omega), getR_txt (by8_ok hb (by omega)), Option.bind_some, by8_f0]
  exact Byte_l1 m.length k l m 0 hb hl hm (by omega) (by omega) (by omega)
theorem Byte_l0 (d : Nat) : ∀ (k : Nat) (l : List Int) (i : Nat), Bytes l → l.length ≤ 1048576 → i ≤ l.length → i ≤ 60 → 60 - i = d → d + 3100 < k →
    laws_FnBitsByte.l0 k l (by8 (l.take i)) (List.replicate i 8) (i : Int) = some true := by
  induction d with
  | zero =>
    intro k l i hb hl hi h60 hd hk
    obtain ⟨k, rfl⟩ : ∃ m, k = m + 1 := ⟨k - 1, by omega⟩
    have hlt : (l.take i).length = i := by rw [List.length_take]; omega
    have hj := Byte_j l (l.take i) k (fun x hx => hb x (List.mem_of_mem_take hx)) (by omega) (by rw [hlt]) (by omega)
    rw [hlt] at hj
    rw [laws_FnBitsByte.l0]
    by_cases h : (i : Int) < (l.length : Int)
    · rw [if_pos h, if_neg (by omega), hj]
    · rw [if_neg h, hj]
  | succ d ih =>
    intro k l i hb hl hi h60 hd hk
    obtain ⟨k, rfl⟩ : ∃ m, k = m + 1 := ⟨k - 1, by omega⟩
    have hlt : (l.take i).length = i := by rw [List.length_take]; omega
    rw [laws_FnBitsByte.l0]
    by_cases h : (i : Int) < (l.length : Int)
    · have hil : i < l.length := by omega
      have hx := hb (l[i]) (List.getElem_mem hil)
      rw [if_pos h, if_pos (by omega), if_pos (by omega), if_pos (by simp [by8]; omega), if_pos (by simp; omega), rdI hil, w64 (x := l[i]) (by omega) (by omega), w64 (by omega) (by omega), show ((i : Int) + 1) = ((i + 1 : Nat) : Int) by omega]
      have := ih k l (i + 1) hb hl (by omega) (by omega) (by omega) (by omega)
      rw [List.take_succ_eq_append_getElem hil, List.replicate_succ'] at this
      unfold by8 at this ⊢
      rw [List.map_append] at this
      exact this
    · have hj := Byte_j l (l.take i) k (fun x hx => hb x (List.mem_of_mem_take hx)) (by omega) (by rw [hlt]) (by omega)
      rw [hlt] at hj
      rw [if_neg h, hj]
theorem LawBitsByte : laws_FnBitsByte.Pure := by
  intro l _ _ hl
  refine ⟨5000, ?_⟩
  unfold laws_FnBitsByte.f
  by_cases hz : (l.length : Int) > 1048576
  · rw [if_pos hz]
  rw [if_neg hz]
  exact Byte_l0 60 5000 l 0 (fun x hx => wf_u8 (hl x hx)) (by omega) (by omega) (by omega) (by omega) (by omega)

end Go.Proofs.Ytfpbdojbnomnmaa.My
