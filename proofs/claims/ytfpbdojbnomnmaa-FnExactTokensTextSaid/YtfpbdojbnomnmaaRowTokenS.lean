/- A slice of structs of three numbers, opened to what the print's contracts ask. -/
import Derived.Test.YtfpbdojbnomnmaaPAllx0
import Derived.Deep.Slices
import Derived.ChangeArms
namespace Go.Proofs.Ytfpbdojbnomnmaa.My
open Go Go.RowKit Go.ChangeShapes Go.WideShapes Go.Proofs.YtfpbdojbnomnmaaW.PrintWords Go.Proofs.Ytfpbdojbnomnmaa.PAll
instance : Inhabited S72 := ⟨⟨0, 0, 0⟩⟩
theorem open_tokens {H : Type} {enc : TypeId × Value → H} {w : World} {base : Nat} {spare : Nat → Bool} {held : Bool} {t e : TypeId} {fuel : Nat} {a : Option Addr} {len cap : Nat} {x : DataW H × List MemPlace} {P : Program} {f0 f1 f2 : Field}
    (ht : P.underlying t = some (.slice e)) (he : P.underlying e = some (.struct #[f0, f1, f2])) (ce : P.cellsOf e = 3) (o0 : f0.offset = 0) (o1 : f1.offset = 1) (o2 : f2.offset = 2) (c0 : P.cellsOf f0.type = 1) (c1 : P.cellsOf f1.type = 1) (c2 : P.cellsOf f2.type = 1)
    (i0 : P.underlying f0.type = some (.int .i64)) (i1 : P.underlying f1.type = some (.int .i64)) (i2 : P.underlying f2.type = some (.int .i64))
    (h : DataW.trod enc P w base spare held fuel t [.slice a len cap] = some x) :
    ∃ l : List S72, l.length = len ∧ len ≤ 9223372036854775807 ∧ Kd.C k72 w a len l ∧ len ≤ cap := by
  have hmx : maxLen = 9223372036854775807 := rfl
  rcases Go.Deep.open_slice ht h with ⟨hcs, _⟩ | ⟨y, ln, cp, m, n, D, Pl, hcs, _, hl, hm, hmm, _, hx⟩
  · simp at hcs
    obtain ⟨rfl, rfl, rfl⟩ := hcs
    exact ⟨[], rfl, Nat.zero_le _, ⟨rfl, Nat.zero_le _, fun h => absurd h (by omega)⟩, Nat.le_refl _⟩
  · simp at hcs
    obtain ⟨rfl, rfl, rfl⟩ := hcs
    have each : ∀ i, i < len → ∃ q : S72, ∀ j u, ([.int .i64 q.f0, .int .i64 q.f1, .int .i64 q.f2] : List Value)[j]? = some u → w.cell? (y.add (i * 3 + j)) = some u := by
      intro i hi
      obtain ⟨cs, h1, h2⟩ := hx i (by rw [hmm]; split <;> omega)
      rw [ce] at h1
      obtain ⟨_, hlen, hat⟩ := World.cells?_some h1
      obtain ⟨xs, k, _, _, _, hxl, hf⟩ := DataW.trod_struct he h2
      match cs, hlen, xs, hxl with
      | [v0, v1, v2], _, [y0, y1, y2], _ =>
        have g0 := hf 0 f0 rfl
        have g1 := hf 1 f1 rfl
        have g2 := hf 2 f2 rfl
        rw [o0, c0] at g0
        rw [o1, c1] at g1
        rw [o2, c2] at g2
        obtain ⟨n0, e0, _, _⟩ := DataW.trod_int (x := y0) i0 g0
        obtain ⟨n1, e1, _, _⟩ := DataW.trod_int (x := y1) i1 g1
        obtain ⟨n2, e2, _, _⟩ := DataW.trod_int (x := y2) i2 g2
        simp at e0 e1 e2
        subst e0 e1 e2
        refine ⟨⟨n0, n1, n2⟩, fun j u hu => ?_⟩
        have hj : j < 3 := by
          have := (List.getElem?_eq_some_iff.1 hu).1
          simpa using this
        rw [← Go.Deep.add_add, hat j hj]
        exact hu
    obtain ⟨q, hq⟩ := Go.Deep.choose_lt each
    refine ⟨(List.range len).map q, by simp, by omega, ⟨by simp, by omega, fun _ => ⟨y, rfl, fun j p hj => ?_⟩⟩, hl⟩
    rw [List.getElem?_map] at hj
    obtain ⟨j', hj1, rfl⟩ := Option.map_eq_some_iff.1 hj
    obtain ⟨hj2, hj3⟩ := List.getElem?_eq_some_iff.1 hj1
    rw [List.getElem_range] at hj3
    subst hj3
    rw [List.length_range] at hj2
    exact ⟨_, rfl, k72_mk _ _, hq j hj2⟩
end Go.Proofs.Ytfpbdojbnomnmaa.My
