/- The printed functions of pieces, as the laws call them. -/
import Derived.Test.YtfpbdojbnomnmaaPAllx7
import Derived.Test.YtfpbdojbnomnmaaPAllx16
import Derived.Test.YtfpbdojbnomnmaaPAllx20
import Derived.Test.YtfpbdojbnomnmaaBitFacts
namespace Go.Proofs.Ytfpbdojbnomnmaa.My
open Go Go.RowKit Go.Proofs.YtfpbdojbnomnmaaW.PrintWords Go.Proofs.YtfpbdojbnomnmaaW.PrintLast Go.Proofs.YtfpbdojbnomnmaaW.PrintMore Go.Proofs.Ytfpbdojbnomnmaa.PAll
open Go.Proofs.Ytfpbdojbnomnmaa.Bit

theorem Iput {k : Nat} (l : List S47) (hl : l.length ≤ 1000) (hk : 1100 ≤ k) : impl_BitsPut.f k l = some (txt l) := by
  rw [impl_BitsPut_f l (by omega) (by omega)]; rfl
theorem Pput {k : Nat} (l : List S47) (hl : l.length ≤ 1000) (hk : 1100 ≤ k) : spec_BitsPut.f k l = some (txt l) := by
  rw [spec_BitsPut_f l (by omega) (by omega)]; rfl
theorem Ilong {k : Nat} (l : List S47) (hl : l.length ≤ 1000) (hk : 1100 ≤ k) : impl_BitsLong.f k l = some (longI l) := impl_BitsLong_f l (by omega) (by omega)
theorem Plong {k : Nat} (l : List S47) (hl : l.length ≤ 1000) (hk : 1100 ≤ k) : spec_BitsLong.f k l = some (longI l) := spec_BitsLong_f l (by omega) (by omega)
theorem longI_ok {l : List S47} (h : okL l = true) : longI l = (total l : Int) := by unfold longI; rw [h]; rfl
theorem longI_no {l : List S47} (h : okL l = false) : longI l = -1 := by unfold longI; rw [h]; rfl
theorem okL_bad {l : List S47} {p : S47} (hp : p ∈ l) (h : okP p.f0 p.f1 = false) : okL l = false := by
  cases h2 : okL l with
  | false => rfl
  | true => have := (okL_at h2).2 p hp; rw [h] at this; cases this
theorem okL_all {l : List S47} (h : okL l = true) : ∀ p ∈ l, okP p.f0 p.f1 = true := (okL_at h).2
theorem okL_snoc {l : List S47} {p : S47} (hl : l.length ≤ 1000) (h : okL l = true) (hp : okP p.f0 p.f1 = true) : okL (l ++ [p]) = true := by
  refine okL_mk (fun q hq => ?_) (by simp; omega)
  rcases List.mem_append.1 hq with hq | hq
  · exact okL_all h q hq
  · rw [List.mem_singleton.1 hq]; exact hp
theorem longI_range {l : List S47} (hl : l.length ≤ 1000) : -1 ≤ longI l ∧ longI l ≤ 16000 := by
  cases h : okL l with
  | false => rw [longI_no h]; omega
  | true =>
    rw [longI_ok h]
    have := total_le (okL_all h)
    omega
theorem empty_list : (⟨#[]⟩ : ByteArray).toList = ([] : List UInt8) := by rw [ByteArray.toList, ByteArray.toList.loop.eq_def]; rfl

theorem ok_of_long {s : List S47} {b : Bool} (h : ¬ b = true) (hb : b = decide (longI s < 0)) : okL s = true := by
  cases h2 : okL s with
  | true => rfl
  | false => rw [hb] at h; simp [longI_neg.2 h2] at h
end Go.Proofs.Ytfpbdojbnomnmaa.My
