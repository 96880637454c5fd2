/- What is drawn of symbols. -/
import Derived.Test.YtcbehpemhkfieaaPAllx0
import Derived.Test.YtcbehpemhkfieaaPAllx11
import Derived.Test.YtcbehpemhkfieaaDrawM
namespace Go.Proofs.Ytcbehpemhkfieaa.My
open Go Go.RowKit Go.Proofs.YtcbehpemhkfieaaW.PrintWords Go.Proofs.YtcbehpemhkfieaaW.PrintLast Go.Proofs.YtcbehpemhkfieaaW.PrintMore Go.Proofs.Ytcbehpemhkfieaa.PAll

theorem syms_l (d : Nat) : ∀ (b : List Int) (p n : Int) (l acc : List Int), Buf b → n = d → d ≤ 100 → 0 ≤ p → p + 2 * d ≤ 900000 → 1 ≤ l.length → l.length ≤ 300 → acc.length ≤ 1000 - d →
    ∃ (s : List Int) (q : Int), s.length ≤ acc.length + d + 1 ∧ p ≤ q ∧ q ≤ p + 2 * d + 2 ∧ ∀ k, d + 1 < k → spec_l11Syms.l0 k l acc n b p = some (s, q) := by
  induction d with
  | zero =>
    intro b p n l acc hb hn _ hp hp1 hl hl2 hacc
    obtain ⟨v, v0, v1, hv⟩ := pick_lt hb hp (by omega) 30 (by omega)
    obtain ⟨y, hy, hy2⟩ := one_f hb (p := p + 1) (by omega) (by omega) ([(-1), (l.length : Int)] : List Int) (by simp)
    by_cases e : v = 0
    · refine ⟨acc ++ [y], p + 1 + 1, by simp, by omega, by omega, fun k hk => ?_⟩
      obtain ⟨k, rfl⟩ : ∃ m, k = m + 1 := ⟨k - 1, by omega⟩
      rw [spec_l11Syms.l0, if_neg (by omega), hv k (by omega), Option.bind_some, if_pos e, hy2 k (by omega), Option.bind_some, if_pos (by omega)]
    · refine ⟨acc, p + 1, by omega, by omega, by omega, fun k hk => ?_⟩
      obtain ⟨k, rfl⟩ : ∃ m, k = m + 1 := ⟨k - 1, by omega⟩
      rw [spec_l11Syms.l0, if_neg (by omega), hv k (by omega), Option.bind_some, if_neg e]
  | succ d ih =>
    intro b p n l acc hb hn hd hp hp1 hl hl2 hacc
    obtain ⟨v, v0, v1, hv⟩ := pick_lt hb hp (by omega) (l.length : Int) (by omega)
    obtain ⟨y, y0, y1, hy⟩ := pick_lt hb (p := p + 1) (by omega) (by omega) 20 (by omega)
    have w1 : wrap64 (n - 1) = n - 1 := w64 (by omega) (by omega)
    by_cases e : rd l v > 0
    · obtain ⟨s, q, h1, h2, h3, h4⟩ := ih b (p + 1) (n - 1) l (acc ++ [v]) hb (by omega) (by omega) (by omega) (by omega) hl hl2 (by simp; omega)
      refine ⟨s, q, by simp at h1; omega, by omega, by omega, fun k hk => ?_⟩
      obtain ⟨k, rfl⟩ : ∃ m, k = m + 1 := ⟨k - 1, by omega⟩
      rw [spec_l11Syms.l0, if_pos (by omega), hv k (by omega), Option.bind_some, if_pos v0, if_pos v1, if_pos e, if_pos (by omega), w1]
      exact h4 k (by omega)
    · by_cases e2 : y = 0
      · obtain ⟨s, q, h1, h2, h3, h4⟩ := ih b (p + 1 + 1) (n - 1) l (acc ++ [v]) hb (by omega) (by omega) (by omega) (by omega) hl hl2 (by simp; omega)
        refine ⟨s, q, by simp at h1; omega, by omega, by omega, fun k hk => ?_⟩
        obtain ⟨k, rfl⟩ : ∃ m, k = m + 1 := ⟨k - 1, by omega⟩
        rw [spec_l11Syms.l0, if_pos (by omega), hv k (by omega), Option.bind_some, if_pos v0, if_pos v1, if_neg e, hy k (by omega), Option.bind_some, if_pos e2, if_pos (by omega), w1]
        exact h4 k (by omega)
      · obtain ⟨s, q, h1, h2, h3, h4⟩ := ih b (p + 1 + 1) (n - 1) l acc hb (by omega) (by omega) (by omega) (by omega) hl hl2 (by omega)
        refine ⟨s, q, by omega, by omega, by omega, fun k hk => ?_⟩
        obtain ⟨k, rfl⟩ : ∃ m, k = m + 1 := ⟨k - 1, by omega⟩
        rw [spec_l11Syms.l0, if_pos (by omega), hv k (by omega), Option.bind_some, if_pos v0, if_pos v1, if_neg e, hy k (by omega), Option.bind_some, if_neg e2, w1]
        exact h4 k (by omega)
theorem syms_f {b : List Int} (hb : Buf b) {p : Int} (hp0 : 0 ≤ p) (hp1 : p ≤ 800000) {l : List Int} (hl : 1 ≤ l.length) (hl2 : l.length ≤ 300) :
    ∃ (s : List Int) (q : Int), s.length ≤ 13 ∧ p ≤ q ∧ q ≤ p + 40 ∧ ∀ k, 30 ≤ k → spec_l11Syms.f k b p l = some (s, q) := by
  obtain ⟨v, v0, v1, hv⟩ := pick_lt hb hp0 (by omega) 12 (by omega)
  obtain ⟨s, q, h1, h2, h3, h4⟩ := syms_l v.toNat b (p + 1) v l [] hb (by omega) (by omega) (by omega) (by omega) hl hl2 (by simp)
  refine ⟨s, q, by simp at h1; omega, by omega, by omega, fun k hk => ?_⟩
  unfold spec_l11Syms.f
  rw [hv k (by omega), Option.bind_some]
  exact h4 k (by omega)
end Go.Proofs.Ytcbehpemhkfieaa.My
