/- The law FnExactBitsGet: the program's BitsGet is the reference's. -/
import Derived.Test.YtfpbdojbnomnmaaPAllx13
import Derived.Test.YtfpbdojbnomnmaaPAllx17
import Derived.Test.YtfpbdojbnomnmaaLinkBits2
import Derived.Test.YtfpbdojbnomnmaaLinkEq
namespace Go.Proofs.Ytfpbdojbnomnmaa.My
open Go Go.RowKit Go.Proofs.YtfpbdojbnomnmaaW.PrintWords Go.Proofs.YtfpbdojbnomnmaaW.PrintLast Go.Proofs.YtfpbdojbnomnmaaW.PrintMore Go.Proofs.Ytfpbdojbnomnmaa.PAll
open Go.Proofs.Ytfpbdojbnomnmaa.Bit
theorem getL_len (s : ByteArray) : ∀ (l out : List Int) (p : Nat) (b : Bool), (getL s l out p b).1.length ≤ out.length + l.length
  | [], out, p, b => by
    simp only [getL, fin]
    split
    · simp
    · split <;> simp
  | x :: r, out, p, b => by
    simp only [getL]
    split
    · have := getL_len s r (out ++ [((rdv s x.toNat p : Nat) : Int)]) (rdp s x.toNat p) (rdb s x.toNat p b)
      simp at this ⊢
      omega
    · simp
theorem getR_len (s : ByteArray) (l : List Int) : (getR s l).1.length ≤ l.length := by
  unfold getR
  split
  · have := getL_len s l [] 0 false
    simpa using this
  · simp
theorem ExactBitsGet : laws_FnExactBitsGet.Pure := by
  intro s l hs hl hl8 hwf
  refine ⟨5000000, ?_⟩
  unfold laws_FnExactBitsGet.f
  split
  · rfl
  rename_i h1
  split
  · rfl
  rename_i h2
  have hr := getR_len s l
  obtain ⟨⟨g, b⟩, hg⟩ : ∃ z, z = getR s l := ⟨_, rfl⟩
  rw [← hg] at hr
  simp only [] at hr
  have G : ∀ k, l.length + 100 ≤ k → impl_BitsGet.f k s l = some (g, b) := fun k hk => by rw [impl_BitsGet_f s (by omega) l (by omega), hg]
  rw [toIntS_f l (by omega) (by omega), Option.bind_some, spec_BitsGet_f s (by omega) l (by omega), Option.bind_some, Option.bind_some, G _ (by omega), Option.bind_some, ← hg]
  simp only []
  rw [eqIntS_f g g (by omega) (by omega), Option.bind_some, if_pos (by simp)]
  have hj2 : laws_FnExactBitsGet.j2 4999998 (marks g.length 1) ((1 + g.length : Nat) : Int) (b != b) = some true := by
    rw [laws_FnExactBitsGet.j2, if_neg (by simp), heldIntS_f _ (by omega) (by omega), Option.bind_some, if_neg (by omega), if_pos rfl]
  have hj1 : laws_FnExactBitsGet.j1 4999999 s l g b g (b != b) = some true := by
    rw [laws_FnExactBitsGet.j1, if_neg (by simp), markIntS_f g (by omega) (by omega), Option.bind_some]
    simp only []
    rw [heldIntS_f _ (by omega) (by omega), Option.bind_some, if_neg (by omega), if_pos rfl, toIntS_f l (by omega) (by omega), Option.bind_some, G _ (by omega), Option.bind_some]
    simp only []
    rw [eqIntS_f g g (by omega) (by omega), Option.bind_some, if_pos (by simp), hj2]
  rw [laws_FnExactBitsGet.j0, if_neg (by simp), toIntS_f l (by omega) (by omega), Option.bind_some, eqIntS_f l l (by omega) (by omega), Option.bind_some, if_pos (by simp), markIntS_f l (by omega) (by omega), Option.bind_some]
  simp only []
  rw [if_neg (by omega), eqIntS_f g g (by omega) (by omega), Option.bind_some, if_pos (by simp), hj1]
end Go.Proofs.Ytfpbdojbnomnmaa.My
