/- A slice of structs of two numbers, opened to what the print's contracts ask. -/
import Derived.Test.YtfpbdojbnomnmaaPAllx0
import Derived.Deep.SlicePairs
import Derived.ChangeArms
namespace Go.Proofs.Ytfpbdojbnomnmaa.My
open Go Go.RowKit Go.ChangeShapes Go.WideShapes Go.Proofs.YtfpbdojbnomnmaaW.PrintWords Go.Proofs.Ytfpbdojbnomnmaa.PAll
instance : Inhabited S65 := ⟨⟨0, 0⟩⟩
theorem open_pieces {H : Type} {enc : TypeId × Value → H} {w : World} {base : Nat} {spare : Nat → Bool} {held : Bool} {t e : TypeId} {fuel : Nat} {a : Option Addr} {len cap : Nat} {x : DataW H × List MemPlace} {P : Program} {f0 f1 : Field}
    (ht : P.underlying t = some (.slice e)) (he : P.underlying e = some (.struct #[f0, f1])) (ce : P.cellsOf e = 2) (o0 : f0.offset = 0) (o1 : f1.offset = 1) (c0 : P.cellsOf f0.type = 1) (c1 : P.cellsOf f1.type = 1)
    (i0 : P.underlying f0.type = some (.int .i64)) (i1 : P.underlying f1.type = some (.int .i64))
    (h : DataW.trod enc P w base spare held fuel t [.slice a len cap] = some x) :
    ∃ l : List S65, l.length = len ∧ len ≤ 9223372036854775807 ∧ Kd.C k65 w a len l ∧ len ≤ cap := by
  have hmx : maxLen = 9223372036854775807 := rfl
  rcases Go.Deep.open_slice_pairs ht he ce o0 o1 c0 c1 h with ⟨hcs, _⟩ | ⟨y, ln, cp, m, n, V0, V1, D0, D1, P0, P1, hcs, _, hl, hm, hmm, _, hx⟩
  · simp at hcs
    obtain ⟨rfl, rfl, rfl⟩ := hcs
    exact ⟨[], rfl, Nat.zero_le _, ⟨rfl, Nat.zero_le _, fun h => absurd h (by omega)⟩, Nat.le_refl _⟩
  · simp at hcs
    obtain ⟨rfl, rfl, rfl⟩ := hcs
    have each : ∀ i, i < len → ∃ q : S65, w.cell? (y.add (i * 2)) = some (.int .i64 q.f0) ∧ w.cell? (y.add (i * 2 + 1)) = some (.int .i64 q.f1) := by
      intro i hi
      obtain ⟨h1, h2, h3, h4⟩ := hx i (by rw [hmm]; split <;> omega)
      obtain ⟨n0, e0, _, _⟩ := DataW.trod_int i0 h3
      obtain ⟨n1, e1, _, _⟩ := DataW.trod_int i1 h4
      simp only [List.cons.injEq, and_true] at e0 e1
      rw [e0] at h1
      rw [e1] at h2
      exact ⟨⟨n0, n1⟩, h1, h2⟩
    obtain ⟨q, hq⟩ := Go.Deep.choose_lt each
    refine ⟨(List.range len).map q, by simp, by omega, ⟨by simp, by omega, fun _ => ⟨y, rfl, fun j p hj => ?_⟩⟩, hl⟩
    rw [List.getElem?_map] at hj
    obtain ⟨j', hj1, rfl⟩ := Option.map_eq_some_iff.1 hj
    obtain ⟨hj2, hj3⟩ := List.getElem?_eq_some_iff.1 hj1
    rw [List.getElem_range] at hj3
    subst hj3
    rw [List.length_range] at hj2
    refine ⟨[.int .i64 (q j).f0, .int .i64 (q j).f1], rfl, k65_mk _ _, fun i u hu => ?_⟩
    match i, hu with
    | 0, hu => simp at hu; subst hu; exact (hq j hj2).1
    | 1, hu => simp at hu; subst hu; exact (hq j hj2).2
    | i + 2, hu => simp at hu
end Go.Proofs.Ytfpbdojbnomnmaa.My
