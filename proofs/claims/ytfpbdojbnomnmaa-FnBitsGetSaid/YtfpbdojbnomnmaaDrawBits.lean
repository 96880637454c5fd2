/- The printed functions that draw pieces: each answers, with few pieces, all of them ok but the last one. -/
import Derived.Test.YtfpbdojbnomnmaaPAllx16
import Derived.Test.YtfpbdojbnomnmaaPAllx18
import Derived.Test.YtfpbdojbnomnmaaDrawBase
import Derived.Test.YtfpbdojbnomnmaaLinkBits
namespace Go.Proofs.Ytfpbdojbnomnmaa.My
open Go Go.RowKit Go.Proofs.YtfpbdojbnomnmaaW.PrintWords Go.Proofs.YtfpbdojbnomnmaaW.PrintLast Go.Proofs.YtfpbdojbnomnmaaW.PrintMore Go.Proofs.Ytfpbdojbnomnmaa.PAll

theorem pieces_l (d : Nat) : ∀ (b : List Int) (p n : Int) (acc : List S47), Buf b → n = d → d ≤ 100 → 0 ≤ p → p + 3 * d ≤ 1000000 → acc.length + d ≤ 1000 → (∀ q ∈ acc, okP q.f0 q.f1 = true) →
    ∃ l q, l.length = acc.length + d ∧ (∀ q ∈ l, okP q.f0 q.f1 = true) ∧ p ≤ q ∧ q ≤ p + 3 * d ∧ ∀ k, d + 30 < k → spec_l11Pieces.l0 k acc n b p = some (l, q) := by
  induction d with
  | zero =>
    intro b p n acc hb hn _ hp _ _ hok
    refine ⟨acc, p, by omega, hok, by omega, by omega, fun k hk => ?_⟩
    obtain ⟨k, rfl⟩ : ∃ m, k = m + 1 := ⟨k - 1, by omega⟩
    simp only [spec_l11Pieces.l0]
    rw [if_neg (by omega)]
  | succ d ih =>
    intro b p n acc hb hn hd hp hpd hacc hok
    obtain ⟨x, x0, x1, hx⟩ := pick_lt hb hp (by omega) 17 (by omega)
    obtain ⟨y, y0, y1, hy⟩ := pick_lt hb (p := p + 1) (by omega) (by omega) 256 (by omega)
    obtain ⟨z, z0, z1, hz⟩ := pick_lt hb (p := p + 1 + 1) (by omega) (by omega) 256 (by omega)
    obtain ⟨m, rfl⟩ := Int.eq_ofNat_of_zero_le x0
    have hm : m ≤ 16 := by omega
    have h1 : 1 ≤ 2 ^ m := Nat.one_le_two_pow
    have hv0 : 0 ≤ (y * 256 + z) % ((2 ^ m : Nat) : Int) := Int.emod_nonneg _ (by omega)
    have hv1 : (y * 256 + z) % ((2 ^ m : Nat) : Int) < ((2 ^ m : Nat) : Int) := Int.emod_lt_of_pos _ (by omega)
    obtain ⟨v, hv⟩ := Int.eq_ofNat_of_zero_le hv0
    have hok2 : ∀ q ∈ acc ++ [(⟨(v : Int), (m : Int)⟩ : S47)], okP q.f0 q.f1 = true := by
      intro q hq
      rcases List.mem_append.1 hq with hq | hq
      · exact hok q hq
      · rw [List.mem_singleton.1 hq]
        exact okP_mk hm (by omega)
    obtain ⟨l, q, hl, hlo, h2, h3, h⟩ := ih b (p + 1 + 1 + 1) (n - 1) (acc ++ [(⟨(v : Int), (m : Int)⟩ : S47)]) hb (by omega) (by omega) (by omega) (by omega) (by simp; omega) hok2
    refine ⟨l, q, by simp at hl; omega, hlo, by omega, by omega, fun k hk => ?_⟩
    obtain ⟨k, rfl⟩ : ∃ m, k = m + 1 := ⟨k - 1, by omega⟩
    simp only [spec_l11Pieces.l0]
    rw [if_pos (by omega), hx k (by omega), Option.bind_some, hy k (by omega), Option.bind_some, hz k (by omega), Option.bind_some, l1Pow_f (by omega) (by omega), Option.bind_some, if_neg (by omega), if_pos (by omega),
      w64 (x := y * 256) (by omega) (by omega), w64 (x := y * 256 + z) (by omega) (by omega), tmod_pos (by omega), hv, w64 (by omega) (by omega)]
    exact h k (by omega)
theorem pieces_f {b : List Int} (hb : Buf b) {p : Int} (hp0 : 0 ≤ p) (hp1 : p ≤ 900000) :
    ∃ l q, l.length ≤ 12 ∧ (∀ q ∈ l, okP q.f0 q.f1 = true) ∧ p ≤ q ∧ q ≤ p + 100 ∧ ∀ k, 60 ≤ k → spec_l11Pieces.f k b p = some (l, q) := by
  obtain ⟨n, n0, n1, hn⟩ := pick_lt hb hp0 (by omega) 12 (by omega)
  obtain ⟨l, q, hl, hlo, h2, h3, h⟩ := pieces_l n.toNat b (p + 1) n [] hb (by omega) (by omega) (by omega) (by omega) (by simp; omega) (by simp)
  refine ⟨l, q, by simp at hl; omega, hlo, by omega, by omega, fun k hk => ?_⟩
  unfold spec_l11Pieces.f
  rw [hn k (by omega), Option.bind_some]
  exact h k (by omega)
theorem anyPieces_f {b : List Int} (hb : Buf b) {p : Int} (hp0 : 0 ≤ p) (hp1 : p ≤ 800000) :
    ∃ l q, l.length ≤ 13 ∧ ∀ k, 60 ≤ k → spec_l11AnyPieces.f k b p = some (l, q) := by
  obtain ⟨l, q, hl, _, h1, h2, h⟩ := pieces_f hb hp0 (by omega)
  obtain ⟨v, v0, v1, hv⟩ := pick_lt hb (p := q) (by omega) (by omega) 8 (by omega)
  by_cases h0 : v = 0
  · obtain ⟨x, _, hx⟩ := one_f hb (p := q + 1) (by omega) (by omega) ([(-1), 0, 4, 65536] : List Int) (by simp)
    obtain ⟨y, _, hy⟩ := one_f hb (p := q + 1 + 1) (by omega) (by omega) ([(-1), 2, 16, 17] : List Int) (by simp)
    refine ⟨l ++ [(⟨x, y⟩ : S47)], q + 1 + 1 + 1, by simp; omega, fun k hk => ?_⟩
    unfold spec_l11AnyPieces.f
    rw [h k hk, Option.bind_some, hv k (by omega), Option.bind_some, if_pos h0, hx k (by omega), Option.bind_some, hy k (by omega), Option.bind_some, if_pos (by show l.length < _; omega)]
  · refine ⟨l, q + 1, by omega, fun k hk => ?_⟩
    unfold spec_l11AnyPieces.f
    rw [h k hk, Option.bind_some, hv k (by omega), Option.bind_some, if_neg h0]
theorem DrawBitsPut_f {l : List Int} (h : ∀ x ∈ l, (Lit.int .u8 x).wf = true) : ∃ s, s.length ≤ 13 ∧ ∀ k, 60 ≤ k → spec_DrawBitsPut.f k l = some s := by
  obtain ⟨b, hb, ho⟩ := open_f h
  obtain ⟨s, q, hs, hk⟩ := anyPieces_f hb (p := 0) (by omega) (by omega)
  refine ⟨s, hs, fun k hk' => ?_⟩
  unfold spec_DrawBitsPut.f
  rw [ho, Option.bind_some, hk k hk', Option.bind_some]
theorem DrawBitsLong_f {l : List Int} (h : ∀ x ∈ l, (Lit.int .u8 x).wf = true) : ∃ s, s.length ≤ 13 ∧ ∀ k, 60 ≤ k → spec_DrawBitsLong.f k l = some s := by
  obtain ⟨b, hb, ho⟩ := open_f h
  obtain ⟨s, q, hs, hk⟩ := anyPieces_f hb (p := 0) (by omega) (by omega)
  refine ⟨s, hs, fun k hk' => ?_⟩
  unfold spec_DrawBitsLong.f
  rw [ho, Option.bind_some, hk k hk', Option.bind_some]
end Go.Proofs.Ytfpbdojbnomnmaa.My
