/- Symbols that are read of a text: plain, and the program's function told by it. -/
import Derived.Test.YtcbehpemhkfieaaPAllx0
import Derived.Test.YtcbehpemhkfieaaPAllx21
import Derived.Test.YtcbehpemhkfieaaPAllx22
import Derived.Test.YtcbehpemhkfieaaPAllx23
import Derived.Test.YtcbehpemhkfieaaSym
namespace Go.Proofs.Ytcbehpemhkfieaa.My
open Go Go.RowKit Go.Proofs.YtcbehpemhkfieaaW.PrintWords Go.Proofs.YtcbehpemhkfieaaW.PrintLast Go.Proofs.YtcbehpemhkfieaaW.PrintMore Go.Proofs.Ytcbehpemhkfieaa.PAll
open Go.Proofs.Ytcbehpemhkfieaa.Bit

/-- So many symbols from bit p on. -/
def getS (l : List Int) (s : ByteArray) : Nat → Nat → Option (List Int)
  | 0, _ => some []
  | m + 1, p => match symN l s 15 0 1 p with
    | some (j, q) => (getS l s m q).map ((j : Int) :: ·)
    | none => none
def endS (out : List Int) : Option (List Int) → List Int × Bool
  | some o => (out ++ o, true)
  | none => ([], false)
def symGetR (l : List Int) (s : ByteArray) (m : Int) : List Int × Bool :=
  if okLens l = true ∧ 0 ≤ m ∧ m ≤ 4000 then endS [] (getS l s m.toNat 0) else ([], false)
theorem getS_length (l : List Int) (s : ByteArray) : ∀ m p o, getS l s m p = some o → o.length = m
  | 0, p, o, h => by rw [getS] at h; cases h; rfl
  | m + 1, p, o, h => by
    rw [getS] at h
    cases e : symN l s 15 0 1 p with
    | none => rw [e] at h; cases h
    | some jq =>
      obtain ⟨j, q⟩ := jq
      rw [e] at h
      simp only [Option.map_eq_some_iff] at h
      obtain ⟨o', h1, rfl⟩ := h
      simp [getS_length l s m q o' h1]
theorem getS_at (l : List Int) (s : ByteArray) : ∀ m p o, getS l s m p = some o → ∀ v ∈ o, 0 ≤ v ∧ v < (l.length : Int) ∧ rd l v ≠ 0
  | 0, p, o, h => by rw [getS] at h; cases h; intro v hv; cases hv
  | m + 1, p, o, h => by
    rw [getS] at h
    cases e : symN l s 15 0 1 p with
    | none => rw [e] at h; cases h
    | some jq =>
      obtain ⟨j, q⟩ := jq
      rw [e] at h
      simp only [Option.map_eq_some_iff] at h
      obtain ⟨o', h1, rfl⟩ := h
      have := symN_le l s 15 0 1 p j q e
      intro v hv
      rcases List.mem_cons.1 hv with rfl | hv
      · exact ⟨by omega, by omega, this.2.2 (Nat.le_refl _)⟩
      · exact getS_at l s m q o' h1 v hv
theorem getS_take (l : List Int) (s : ByteArray) : ∀ m n p o, n ≤ m → getS l s m p = some o → getS l s n p = some (o.take n)
  | m, 0, p, o, _, h => rfl
  | 0, n + 1, p, o, hn, h => by omega
  | m + 1, n + 1, p, o, hn, h => by
    rw [getS] at h ⊢
    cases e : symN l s 15 0 1 p with
    | none => rw [e] at h; cases h
    | some jq =>
      obtain ⟨j, q⟩ := jq
      rw [e] at h
      simp only [Option.map_eq_some_iff] at h
      obtain ⟨o', h1, rfl⟩ := h
      simp only []
      rw [getS_take l s m n q o' (by omega) h1]
      rfl

theorem fit_small {x : Int} (h0 : 0 ≤ x) (h1 : x ≤ 100000) : fit64 x = true := by
  simp only [fit64, Bool.and_eq_true, decide_eq_true_eq]
  omega
theorem wfL_lens {l : List Int} (hk : okLens l = true) : wfL l = true := by
  refine List.all_eq_true.2 (fun x hx => ?_)
  have hr := (okLens_at hk).1
  unfold rng at hr
  rw [List.all_eq_true] at hr
  have := hr x hx
  simp only [Bool.and_eq_true, decide_eq_true_eq] at this
  exact fit_small this.1 (by omega)
theorem wfL_codes {l : List Int} (hk : okLens l = true) : wfL (codesL l) = true := by
  refine List.all_eq_true.2 (fun x hx => ?_)
  obtain ⟨i, hi, rfl⟩ := List.getElem_of_mem hx
  have hi2 : i < l.length := by rw [codesL_length] at hi; exact hi
  have e := codesL_rd hi2
  rw [rd_int_at hi] at e
  rw [e]
  unfold codeI
  by_cases h : 1 ≤ rd l (i : Int)
  · rw [if_pos h]
    obtain ⟨hr, _, hk2⟩ := okLens_at hk
    obtain ⟨n, h1, h2, h3, h4⟩ := code_lt hr hk2 hi2 h
    have : 2 ^ n ≤ 2 ^ 15 := Nat.pow_le_pow_right (by decide) h3
    exact fit_small (by omega) (by omega)
  · rw [if_neg h]; decide
theorem impl_book {l : List Int} (hk : okLens l = true) {k : Nat} (h : 7000 ≤ k) : impl_bookOf.f k l = some (codesL l ++ l) := by
  unfold impl_bookOf.f
  have hl := (okLens_at hk).2.1
  have hc := codesL_length l
  rw [impl_codes_f l hk h, Option.bind_some, if_pos ⟨hc, by omega, wfL_codes hk, wfL_lens hk⟩]
theorem impl_sym {l : List Int} (hk : okLens l = true) (k : Nat) (s : ByteArray) (p : Int) (b : Bool) : impl_reader_symbol.f k s p b (codesL l ++ l) = symB (codesL l ++ l) 15 0 1 s p b := by
  unfold impl_reader_symbol.f
  rw [if_pos (by
    have h1 := wfL_codes hk
    have h2 := wfL_lens hk
    unfold wfL at *
    rw [List.all_append, h1, h2]
    rfl)]

/-! ### The program's -/
theorem implGet_l {l : List Int} (hk : okLens l = true) (s : ByteArray) (hs : s.size ≤ 1099511627776) : ∀ (d k i p : Nat) (out : List Int), out.length ≤ i → i + d ≤ 4000 → p ≤ 8 * s.size → d < k →
    impl_SymbolsGet.l0 k out (codesL l ++ l) ((i + d : Nat) : Int) (i : Int) s (p : Int) false = some (endS out (getS l s d p))
  | 0, k, i, p, out, ho, hm, hp, hk2 => by
    obtain ⟨k, rfl⟩ : ∃ m, k = m + 1 := ⟨k - 1, by omega⟩
    rw [impl_SymbolsGet.l0, if_neg (by omega), getS, endS, List.append_nil]
  | d + 1, k, i, p, out, ho, hm, hp, hk2 => by
    obtain ⟨k, rfl⟩ : ∃ m, k = m + 1 := ⟨k - 1, by omega⟩
    have hb := symB_is hk s hs 15 0 1 p (Nat.le_refl _) (by omega) (by omega) hp
    rw [impl_SymbolsGet.l0, if_pos (by omega), impl_sym hk, getS]
    cases e : symN l s 15 0 1 p with
    | none =>
      obtain ⟨q, hq⟩ := hb.2 e
      have hq : symB (codesL l ++ l) 15 0 1 s (p : Int) false = some (0, s, q, true) := hq
      rw [hq, Option.bind_some]
      simp only []
      rw [if_pos (by omega), if_pos trivial]
      rfl
    | some jq =>
      obtain ⟨j, q⟩ := jq
      have hq : symB (codesL l ++ l) 15 0 1 s (p : Int) false = some ((j : Int), s, (q : Int), false) := hb.1 j q e
      rw [hq, Option.bind_some]
      simp only []
      rw [if_pos (by omega), if_neg (by decide), w64 (by omega) (by omega), show ((i : Int) + 1) = ((i + 1 : Nat) : Int) by omega, show i + (d + 1) = (i + 1) + d by omega,
        implGet_l hk s hs d k (i + 1) q (out ++ [(j : Int)]) (by simp; omega) (by omega) (symN_le l s 15 0 1 p j q e).1 (by omega)]
      cases getS l s d q with
      | none => rfl
      | some o => simp [endS]
theorem impl_SymbolsGet_f {k : Nat} (l : List Int) (s : ByteArray) (hs : s.size ≤ 1099511627776) (m : Int) (hk : 12000 + l.length ≤ k) : impl_SymbolsGet.f k l s m = some (symGetR l s m) := by
  unfold impl_SymbolsGet.f symGetR
  obtain ⟨k, rfl⟩ : ∃ m, k = m + 1 := ⟨k - 1, by omega⟩
  rw [Option.bind_some, impl_LensOk_f l (by omega), Option.bind_some]
  cases h : okLens l with
  | false => rw [if_neg (by decide), if_neg (by simp), impl_SymbolsGet.j0, if_pos rfl]
  | true =>
    rw [if_pos rfl, within_f, Option.bind_some, impl_SymbolsGet.j0]
    cases hm : (decide (0 ≤ m) && decide (m ≤ 4000)) with
    | false =>
      simp only [Bool.and_eq_false_iff, decide_eq_false_iff_not] at hm
      rw [if_pos (by decide), if_neg (by omega)]
    | true =>
      simp only [Bool.and_eq_true, decide_eq_true_eq] at hm
      obtain ⟨n, rfl⟩ := Int.eq_ofNat_of_zero_le hm.1
      rw [if_neg (by decide), if_pos ⟨rfl, hm⟩, impl_book h (by omega), Option.bind_some]
      have := implGet_l h s hs n k 0 0 [] (by simp) (by omega) (by omega) (by omega)
      rw [Nat.zero_add] at this
      exact this

theorem symGetR_length (l : List Int) (s : ByteArray) (m : Int) : (symGetR l s m).1.length ≤ 4000 := by
  unfold symGetR
  by_cases h : okLens l = true ∧ 0 ≤ m ∧ m ≤ 4000
  · rw [if_pos h]
    cases e : getS l s m.toNat 0 with
    | none => simp [endS]
    | some o =>
      have := getS_length l s _ _ _ e
      simp only [endS, List.nil_append]
      omega
  · rw [if_neg h]; simp
end Go.Proofs.Ytcbehpemhkfieaa.My
