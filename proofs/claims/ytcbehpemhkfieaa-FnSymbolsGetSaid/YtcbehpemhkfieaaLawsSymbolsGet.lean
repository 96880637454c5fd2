/- The law FnSymbolsGet. -/
import Derived.Test.YtcbehpemhkfieaaPAllx0
import Derived.Test.YtcbehpemhkfieaaPAllx23
import Derived.Test.YtcbehpemhkfieaaPAllx30
import Derived.Test.YtcbehpemhkfieaaPAllx32
import Derived.Test.YtcbehpemhkfieaaPAllx33
import Derived.Test.YtcbehpemhkfieaaMD
import Derived.Test.YtcbehpemhkfieaaPutS
import Derived.Test.YtcbehpemhkfieaaCbInts
import Derived.Test.YtcbehpemhkfieaaSymGet
import Derived.Test.YtcbehpemhkfieaaMS
namespace Go.Proofs.Ytcbehpemhkfieaa.My
open Go Go.RowKit Go.Proofs.YtcbehpemhkfieaaW.PrintWords Go.Proofs.YtcbehpemhkfieaaW.PrintLast Go.Proofs.YtcbehpemhkfieaaW.PrintMore Go.Proofs.Ytcbehpemhkfieaa.PAll
open Go.Proofs.Ytcbehpemhkfieaa.Bit

theorem symGetR_ok {l : List Int} {s : ByteArray} {m : Int} (h : (symGetR l s m).2 = true) : okLens l = true ∧ 0 ≤ m ∧ m ≤ 4000 ∧ ∃ o, getS l s m.toNat 0 = some o ∧ symGetR l s m = (o, true) := by
  unfold symGetR at h ⊢
  by_cases hc : okLens l = true ∧ 0 ≤ m ∧ m ≤ 4000
  · rw [if_pos hc] at h ⊢
    refine ⟨hc.1, hc.2.1, hc.2.2, ?_⟩
    cases e : getS l s m.toNat 0 with
    | none => rw [e] at h; cases h
    | some o => exact ⟨o, rfl, rfl⟩
  · rw [if_neg hc] at h; cases h
theorem lawGet_l {l o : List Int} {n m : Nat} (ho : ∀ v ∈ o, 0 ≤ v ∧ v < (l.length : Int) ∧ rd l v ≠ 0) (hm : o.length = m) (hl : o.length ≤ 4000) (hn : n ≤ m) (d : Nat) : ∀ k i, i ≤ o.length → o.length - i = d → 5000 + d < k →
    laws_FnSymbolsGet.l0 k l (m : Int) o (n : Int) (o.take n) true (i : Int) = some true := by
  have ht : (o.take n).length ≤ 4000 := by rw [List.length_take]; omega
  induction d with
  | zero =>
    intro k i hi hd hk
    obtain ⟨k, rfl⟩ : ∃ m, k = m + 1 := ⟨k - 1, by omega⟩
    rw [laws_FnSymbolsGet.l0, if_neg (by omega), if_pos rfl, if_pos (by omega), if_pos (by omega), Int.toNat_natCast, cbInts_f _ (by omega) (by omega), Option.bind_some, if_pos rfl, hm]
    simp
  | succ d ih =>
    intro k i hi hd hk
    obtain ⟨k, rfl⟩ : ∃ m, k = m + 1 := ⟨k - 1, by omega⟩
    have hio : i < o.length := by omega
    have hv := ho (o[i]) (List.getElem_mem hio)
    rw [laws_FnSymbolsGet.l0, if_pos (by omega), if_pos (by omega), rd_int_at hio, if_pos hv.1, if_pos hv.2.1, if_neg hv.2.2, w64 (by omega) (by omega), show ((i : Int) + 1) = ((i + 1 : Nat) : Int) by omega]
    exact ih k (i + 1) (by omega) (by omega) (by omega)
theorem LawSymbolsGet : laws_FnSymbolsGet.Pure := by
  intro l0 l1 _ _ hl0 _ _ _
  obtain ⟨b, hb, ho⟩ := open_f hl0
  obtain ⟨l, q, hl1, hl2, hq1, hq2, hd⟩ := lens_f hb (p := 0) (by omega) (by omega)
  obtain ⟨s, q2, hs, h3, h4, hd2⟩ := syms_f hb (p := q) (by omega) (by omega) hl1 (by omega)
  obtain ⟨v, hv, hd3⟩ := one_f hb (p := q2) (by omega) (by omega) ([0, 0, 1, 9, (-1)] : List Int) (by simp)
  have hvr : -1 ≤ v ∧ v ≤ 9 := by
    simp only [List.mem_cons, List.not_mem_nil, or_false] at hv
    omega
  have hp := putR_length l s
  have hTs := txt_small (putR l s)
  have D : ∀ k, 160000 ≤ k → spec_DrawSymbolsGet.f k l0 = some (l, txt (putR l s), (s.length : Int) + v) := by
    intro k hk
    unfold spec_DrawSymbolsGet.f
    rw [ho, Option.bind_some, hd _ (by omega), Option.bind_some, hd2 _ (by omega), Option.bind_some, spec_SymbolsPut_f l s (by omega) (by omega) (by omega), Option.bind_some, spec_BitsPut_f _ (by omega) (by omega), Option.bind_some, hd3 _ (by omega), Option.bind_some, w64 (x := (s.length : Int) + v) (by omega) (by omega)]
    rfl
  obtain ⟨m, hm⟩ : ∃ m : Int, m = (s.length : Int) + v := ⟨_, rfl⟩
  have hm1 : -1 ≤ m ∧ m ≤ 30 := by omega
  rw [← hm] at D
  generalize txt (putR l s) = T at *
  clear hd hd2 hd3 hp ho
  have I : ∀ k m, 160000 ≤ k → impl_SymbolsGet.f k l T m = some (symGetR l T m) := fun k m hk => impl_SymbolsGet_f l T (by omega) m (by omega)
  have P : ∀ k m, 160000 ≤ k → spec_SymbolsGet.f k l T m = some (symGetR l T m) := fun k m hk => spec_SymbolsGet_f l (by omega) T (by omega) m (by omega)
  have hc := symGetR_length l T m
  have J1 : laws_FnSymbolsGet.j1 200002 l1 l T m (symGetR l T m).1 (symGetR l T m).2 (symGetR l T m).1 (symGetR l T m).2 (!(symGetR l T m).2) = some true := by
    cases h : (symGetR l T m).2 with
    | false => rw [laws_FnSymbolsGet.j1, if_pos (by rfl), if_pos (by rfl), cbInts_f _ (by omega) (by omega), Option.bind_some]
    | true =>
      obtain ⟨h1, h2, h3, o, h4, h5⟩ := symGetR_ok h
      obtain ⟨n, rfl⟩ := Int.eq_ofNat_of_zero_le h2
      have hol := getS_length l T _ _ _ h4
      rw [Int.toNat_natCast] at h4 hol
      have hmod : ((l1.length : Int) % ((n : Int) + 1)) = ((l1.length % (n + 1) : Nat) : Int) := by simp
      have hlt : l1.length % (n + 1) ≤ n := Nat.le_of_lt_succ (Nat.mod_lt _ (Nat.succ_pos _))
      rw [laws_FnSymbolsGet.j1, if_neg (by decide), w64 (x := (n : Int) + 1) (by omega) (by omega), if_neg (by omega), hmod]
      generalize l1.length % (n + 1) = z at *
      have h6 : symGetR l T (z : Int) = (o.take z, true) := by
        unfold symGetR
        rw [if_pos ⟨h1, by omega, by omega⟩, Int.toNat_natCast, getS_take l T n z 0 o hlt h4]
        rfl
      rw [I _ _ (by omega), Option.bind_some, h6, h5]
      exact lawGet_l (getS_at l T _ _ _ h4) hol (by omega) hlt o.length _ 0 (by omega) (by omega) (by omega)
  have J0 : laws_FnSymbolsGet.j0 200003 l0 l1 false = some true := by
    rw [laws_FnSymbolsGet.j0, if_neg (by decide), D _ (by omega), Option.bind_some, I _ _ (by omega), Option.bind_some, P _ _ (by omega), Option.bind_some, bne_self_eq_false, if_neg (by decide), cbInts_f (symGetR l T m).1 (by omega) (by omega), Option.bind_some, if_pos rfl]
    exact J1
  have J2 : laws_FnSymbolsGet.j0 200003 l0 l1 true = some true := by rw [laws_FnSymbolsGet.j0, if_pos rfl]
  refine ⟨200003, ?_⟩
  unfold laws_FnSymbolsGet.f
  by_cases hz : (l0.length : Int) > 1048576
  · rw [if_pos hz]; exact J2
  · rw [if_neg hz]
    by_cases hy : (l1.length : Int) > 1048576
    · rw [decide_eq_true hy]; exact J2
    · rw [decide_eq_false hy]; exact J0
end Go.Proofs.Ytcbehpemhkfieaa.My
