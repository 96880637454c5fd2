/- Put together: DrawM, DrawS. -/
import Derived.Test.YtcbehpemhkfieaaPAllx0
import Derived.Test.YtcbehpemhkfieaaPAllx3
import Derived.Test.YtcbehpemhkfieaaPAllx8
import Derived.Test.YtcbehpemhkfieaaPAllx9
import Derived.Test.YtcbehpemhkfieaaPAllx10
import Derived.Test.YtcbehpemhkfieaaPAllx11
import Derived.Test.YtcbehpemhkfieaaMB
namespace Go.Proofs.Ytcbehpemhkfieaa.My
open Go Go.RowKit Go.Proofs.YtcbehpemhkfieaaW.PrintWords Go.Proofs.YtcbehpemhkfieaaW.PrintLast Go.Proofs.YtcbehpemhkfieaaW.PrintMore Go.Proofs.Ytcbehpemhkfieaa.PAll

theorem fixed_l (d : Nat) : ∀ (acc : List Int) (i : Nat), i + d = 288 → acc.length = i → ∃ r : List Int, r.length = 288 ∧ ∀ k, d < k → spec_l5Fixed.l0 k acc (i : Int) = some r := by
  induction d with
  | zero =>
    intro acc i hi ha
    refine ⟨acc, by omega, fun k hk => ?_⟩
    obtain ⟨k, rfl⟩ : ∃ m, k = m + 1 := ⟨k - 1, by omega⟩
    rw [spec_l5Fixed.l0, if_neg (by omega)]
  | succ d ih =>
    intro acc i hi ha
    have go : ∀ v : Int, ∃ r : List Int, r.length = 288 ∧ ∀ k, d < k → spec_l5Fixed.l0 k (acc ++ [v]) (wrap64 ((i : Int) + 1)) = some r := by
      intro v
      rw [w64 (by omega) (by omega), show ((i : Int) + 1) = ((i + 1 : Nat) : Int) by omega]
      exact ih (acc ++ [v]) (i + 1) (by omega) (by simp; omega)
    have unf : ∀ (v : Int), (if (i : Int) < 144 then (8 : Int) else if (i : Int) < 256 then 9 else if (i : Int) < 280 then 7 else 8) = v → ∀ k, spec_l5Fixed.l0 (k + 1) acc (i : Int) = spec_l5Fixed.l0 k (acc ++ [v]) (wrap64 ((i : Int) + 1)) := by
      intro v hv k
      have hz : acc.length < 17592186044416 := by omega
      rw [spec_l5Fixed.l0, if_pos (by omega), ← hv]
      by_cases h1 : (i : Int) < 144
      · rw [if_pos h1, if_pos hz, if_pos h1]
      · rw [if_neg h1, if_neg h1]
        by_cases h2 : (i : Int) < 256
        · rw [if_pos h2, if_pos hz, if_pos h2]
        · rw [if_neg h2, if_neg h2]
          by_cases h3 : (i : Int) < 280
          · rw [if_pos h3, if_pos hz, if_pos h3]
          · rw [if_neg h3, if_pos hz, if_neg h3]
    obtain ⟨r, h1, h2⟩ := go _
    refine ⟨r, h1, fun k hk => ?_⟩
    obtain ⟨k, rfl⟩ : ∃ m, k = m + 1 := ⟨k - 1, by omega⟩
    rw [unf _ rfl k]
    exact h2 k (by omega)
theorem fixed_f : ∃ r : List Int, r.length = 288 ∧ ∀ k, 300 ≤ k → spec_l5Fixed.f k = some r := by
  obtain ⟨r, h1, h2⟩ := fixed_l 288 [] 0 (by omega) rfl
  exact ⟨r, h1, fun k hk => h2 k (by omega)⟩
theorem used_pos {l : List Int} {x : Int} (h : x ∈ l) (hx : 0 < x) : 1 ≤ used l := by
  unfold used
  exact List.countP_pos_iff.2 ⟨x, h, by simpa using hx⟩
theorem drawn_fit {c : List Int} (hc : c.length ≤ 12) (hr : ∀ x ∈ c, 0 ≤ x ∧ x ≤ 100000) {v : Int} (h0 : 1 ≤ v) (h1 : v ≤ 10) : fitOk (c ++ [v]) 15 := by
  refine ⟨by simp; omega, by omega, by omega, ?_, used_pos (x := v) (by simp) (by omega), ?_⟩
  · unfold inC
    rw [List.all_eq_true]
    intro x hx
    simp only [Bool.and_eq_true, decide_eq_true_eq]
    rcases List.mem_append.1 hx with e | e
    · exact hr x e
    · rw [List.mem_singleton.1 e]; omega
  · have : used (c ++ [v]) ≤ (c ++ [v]).length := List.countP_le_length
    rw [List.length_append, List.length_singleton] at this
    have e : (2 : Int) ^ ((15 : Int).toNat - 1) = 16384 := by decide
    rw [e]
    omega
theorem lens_f {b : List Int} (hb : Buf b) {p : Int} (hp0 : 0 ≤ p) (hp1 : p ≤ 800000) :
    ∃ (l : List Int) (q : Int), 1 ≤ l.length ∧ l.length ≤ 288 ∧ p ≤ q ∧ q ≤ p + 40 ∧ ∀ k, 150000 ≤ k → spec_l11Lens.f k b p = some (l, q) := by
  obtain ⟨c, q, h1, h2, h3, h4, h5, h6⟩ := counts_f hb hp0 (by omega)
  obtain ⟨v, v0, v1, hv⟩ := pick_lt hb (p := q) (by omega) (by omega) 9 (by omega)
  obtain ⟨x, x0, x1, hx⟩ := pick_lt hb (p := q + 1) (by omega) (by omega) 10 (by omega)
  obtain ⟨y, hy, hy2⟩ := one_f hb (p := q + 1 + 1) (by omega) (by omega) ([0, 1, 2, 16, (-1)] : List Int) (by simp)
  obtain ⟨f, hf1, hf2⟩ := fixed_f
  have hfit := drawn_fit (v := 1 + v) h2 h3 (by omega) (by omega)
  have hlen : (lensL (c ++ [1 + v])).length = c.length + 1 := by rw [lensL_length]; simp
  have hL : ∀ k, 142000 ≤ k → spec_LensOf.f k (c ++ [1 + v]) 15 = some (lensL (c ++ [1 + v])) := fun k hk => by
    have := spec_LensOf_few (k := k) (c := c ++ [1 + v]) (by simp; omega) hk
    rwa [if_pos hfit] at this
  generalize lensL (c ++ [1 + v]) = L at *
  have start : ∀ k, 150000 ≤ k → spec_l11Lens.f k b p = (if x = 0 then ((spec_l1Rd_one.f k b (q + 1 + 1) ([0, 1, 2, 16, (-1)] : List Int)).bind fun bt266 => (if L.length < 17592186044416 then (some ((L ++ [bt266.1]), bt266.2)) else (none))) else (if x = 1 then (some ((([0, 1] : List Int)), q + 1 + 1)) else (if x = 2 then (some ((([2] : List Int)), q + 1 + 1)) else (if x = 3 then ((spec_l5Fixed.f k).bind fun t277 => (some (t277, q + 1 + 1))) else (some (L, q + 1 + 1)))))) := by
    intro k hk
    unfold spec_l11Lens.f
    rw [h6 k (by omega), Option.bind_some, hv k (by omega), Option.bind_some, if_pos (show c.length < 17592186044416 by omega), w64 (by omega) (by omega), hL k (by omega), Option.bind_some, hx k (by omega), Option.bind_some]
  by_cases e0 : x = 0
  · refine ⟨L ++ [y], q + 1 + 1 + 1, by simp, by simp; omega, by omega, by omega, fun k hk => ?_⟩
    rw [start k hk, if_pos e0, hy2 k (by omega), Option.bind_some, if_pos (by omega)]
  by_cases e1 : x = 1
  · refine ⟨[0, 1], q + 1 + 1, by simp, by simp, by omega, by omega, fun k hk => ?_⟩
    rw [start k hk, if_neg e0, if_pos e1]
  by_cases e2 : x = 2
  · refine ⟨[2], q + 1 + 1, by simp, by simp, by omega, by omega, fun k hk => ?_⟩
    rw [start k hk, if_neg e0, if_neg e1, if_pos e2]
  by_cases e3 : x = 3
  · refine ⟨f, q + 1 + 1, by omega, by omega, by omega, by omega, fun k hk => ?_⟩
    rw [start k hk, if_neg e0, if_neg e1, if_neg e2, if_pos e3, hf2 k (by omega), Option.bind_some]
  · refine ⟨L, q + 1 + 1, by omega, by omega, by omega, by omega, fun k hk => ?_⟩
    rw [start k hk, if_neg e0, if_neg e1, if_neg e2, if_neg e3]
end Go.Proofs.Ytcbehpemhkfieaa.My

namespace Go.Proofs.Ytcbehpemhkfieaa.My
open Go Go.RowKit Go.Proofs.YtcbehpemhkfieaaW.PrintWords Go.Proofs.YtcbehpemhkfieaaW.PrintLast Go.Proofs.YtcbehpemhkfieaaW.PrintMore Go.Proofs.Ytcbehpemhkfieaa.PAll

theorem syms_l (d : Nat) : ∀ (b : List Int) (p n : Int) (l acc : List Int), Buf b → n = d → d ≤ 100 → 0 ≤ p → p + 2 * d ≤ 900000 → 1 ≤ l.length → l.length ≤ 300 → acc.length ≤ 1000 - d →
    ∃ (s : List Int) (q : Int), s.length ≤ acc.length + d + 1 ∧ p ≤ q ∧ q ≤ p + 2 * d + 2 ∧ ∀ k, d + 1 < k → spec_l11Syms.l0 k l acc n b p = some (s, q) := by
  induction d with
  | zero =>
    intro b p n l acc hb hn _ hp hp1 hl hl2 hacc
    obtain ⟨v, v0, v1, hv⟩ := pick_lt hb hp (by omega) 30 (by omega)
    obtain ⟨y, hy, hy2⟩ := one_f hb (p := p + 1) (by omega) (by omega) ([(-1), (l.length : Int)] : List Int) (by simp)
    by_cases e : v = 0
    · refine ⟨acc ++ [y], p + 1 + 1, by simp, by omega, by omega, fun k hk => ?_⟩
      obtain ⟨k, rfl⟩ : ∃ m, k = m + 1 := ⟨k - 1, by omega⟩
      rw [spec_l11Syms.l0, if_neg (by omega), hv k (by omega), Option.bind_some, if_pos e, hy2 k (by omega), Option.bind_some, if_pos (by omega)]
    · refine ⟨acc, p + 1, by omega, by omega, by omega, fun k hk => ?_⟩
      obtain ⟨k, rfl⟩ : ∃ m, k = m + 1 := ⟨k - 1, by omega⟩
      rw [spec_l11Syms.l0, if_neg (by omega), hv k (by omega), Option.bind_some, if_neg e]
  | succ d ih =>
    intro b p n l acc hb hn hd hp hp1 hl hl2 hacc
    obtain ⟨v, v0, v1, hv⟩ := pick_lt hb hp (by omega) (l.length : Int) (by omega)
    obtain ⟨y, y0, y1, hy⟩ := pick_lt hb (p := p + 1) (by omega) (by omega) 20 (by omega)
    have w1 : wrap64 (n - 1) = n - 1 := w64 (by omega) (by omega)
    by_cases e : rd l v > 0
    · obtain ⟨s, q, h1, h2, h3, h4⟩ := ih b (p + 1) (n - 1) l (acc ++ [v]) hb (by omega) (by omega) (by omega) (by omega) hl hl2 (by simp; omega)
      refine ⟨s, q, by simp at h1; omega, by omega, by omega, fun k hk => ?_⟩
      obtain ⟨k, rfl⟩ : ∃ m, k = m + 1 := ⟨k - 1, by omega⟩
      rw [spec_l11Syms.l0, if_pos (by omega), hv k (by omega), Option.bind_some, if_pos v0, if_pos v1, if_pos e, if_pos (by omega), w1]
      exact h4 k (by omega)
    · by_cases e2 : y = 0
      · obtain ⟨s, q, h1, h2, h3, h4⟩ := ih b (p + 1 + 1) (n - 1) l (acc ++ [v]) hb (by omega) (by omega) (by omega) (by omega) hl hl2 (by simp; omega)
        refine ⟨s, q, by simp at h1; omega, by omega, by omega, fun k hk => ?_⟩
        obtain ⟨k, rfl⟩ : ∃ m, k = m + 1 := ⟨k - 1, by omega⟩
        rw [spec_l11Syms.l0, if_pos (by omega), hv k (by omega), Option.bind_some, if_pos v0, if_pos v1, if_neg e, hy k (by omega), Option.bind_some, if_pos e2, if_pos (by omega), w1]
        exact h4 k (by omega)
      · obtain ⟨s, q, h1, h2, h3, h4⟩ := ih b (p + 1 + 1) (n - 1) l acc hb (by omega) (by omega) (by omega) (by omega) hl hl2 (by omega)
        refine ⟨s, q, by omega, by omega, by omega, fun k hk => ?_⟩
        obtain ⟨k, rfl⟩ : ∃ m, k = m + 1 := ⟨k - 1, by omega⟩
        rw [spec_l11Syms.l0, if_pos (by omega), hv k (by omega), Option.bind_some, if_pos v0, if_pos v1, if_neg e, hy k (by omega), Option.bind_some, if_neg e2, w1]
        exact h4 k (by omega)
theorem syms_f {b : List Int} (hb : Buf b) {p : Int} (hp0 : 0 ≤ p) (hp1 : p ≤ 800000) {l : List Int} (hl : 1 ≤ l.length) (hl2 : l.length ≤ 300) :
    ∃ (s : List Int) (q : Int), s.length ≤ 13 ∧ p ≤ q ∧ q ≤ p + 40 ∧ ∀ k, 30 ≤ k → spec_l11Syms.f k b p l = some (s, q) := by
  obtain ⟨v, v0, v1, hv⟩ := pick_lt hb hp0 (by omega) 12 (by omega)
  obtain ⟨s, q, h1, h2, h3, h4⟩ := syms_l v.toNat b (p + 1) v l [] hb (by omega) (by omega) (by omega) (by omega) hl hl2 (by simp)
  refine ⟨s, q, by simp at h1; omega, by omega, by omega, fun k hk => ?_⟩
  unfold spec_l11Syms.f
  rw [hv k (by omega), Option.bind_some]
  exact h4 k (by omega)
end Go.Proofs.Ytcbehpemhkfieaa.My
