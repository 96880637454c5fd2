/- The law FnLensTwice. -/
import Derived.Test.YtdenepapeoiiiaaPAllx0
import Derived.Test.YtdenepapeoiiiaaPAllx6
import Derived.Test.YtdenepapeoiiiaaPAllx10
import Derived.Test.YtdenepapeoiiiaaPAllx16
import Derived.Test.YtdenepapeoiiiaaPAllx22
import Derived.Test.YtdenepapeoiiiaaDrawC
import Derived.Test.YtdenepapeoiiiaaCbInts
namespace Go.Proofs.Ytdenepapeoiiiaa.My
open Go Go.RowKit Go.Proofs.YtdenepapeoiiiaaW.PrintWords Go.Proofs.YtdenepapeoiiiaaW.PrintLast Go.Proofs.YtdenepapeoiiiaaW.PrintMore Go.Proofs.Ytdenepapeoiiiaa.PAll

def dbl (t : S48) : S48 := ⟨2 * t.f0, t.f1, t.f2⟩
theorem kat_dbl (l : List S48) (i : Nat) : kat (keys (l.map dbl)) i = (2 * (kat (keys l) i).1, (kat (keys l) i).2) := by
  unfold kat keys
  rw [List.getD_eq_getElem?_getD, List.getD_eq_getElem?_getD, List.getElem?_map, List.getElem?_map, List.getElem?_map]
  cases l[i]? with
  | none => rfl
  | some t => rfl
theorem klt_dbl (a b : Int × Int) : klt (2 * a.1, a.2) (2 * b.1, b.2) = klt a b := by
  unfold klt
  have h1 : decide (2 * a.1 < 2 * b.1) = decide (a.1 < b.1) := by rw [decide_eq_decide]; omega
  have h2 : decide (2 * a.1 = 2 * b.1) = decide (a.1 = b.1) := by rw [decide_eq_decide]; omega
  simp only [h1, h2]
theorem scan_dbl (l : List S48) : ∀ d a i, scan (keys (l.map dbl)) d a i = scan (keys l) d a i
  | 0, _, _ => rfl
  | d + 1, a, i => by
    rw [scan, scan, kat_dbl, kat_dbl, klt_dbl, scan_dbl l d, scan_dbl l d]
theorem lst_dbl (l : List S48) : lst (keys (l.map dbl)) = lst (keys l) := by
  unfold lst
  rw [scan_dbl, keys_length, keys_length, List.length_map]
theorem sel_dbl (l : List S48) : sel (l.map dbl) = (dbl (sel l).1, (sel l).2.map dbl) := by
  unfold sel
  rw [lst_dbl]
  refine Prod.ext ?_ ?_
  · rw [List.getD_eq_getElem?_getD, List.getElem?_map]
    show _ = dbl (l.getD (lst (keys l)) z48)
    rw [List.getD_eq_getElem?_getD]
    cases l[lst (keys l)]? with
    | none => rfl
    | some t => rfl
  · show (l.map dbl).eraseIdx _ = (l.eraseIdx _).map dbl
    rw [List.eraseIdx_eq_take_drop_succ, List.eraseIdx_eq_take_drop_succ, List.map_append, List.map_take, List.map_drop]
theorem mk2_dbl (a b : S48) : mk2 (dbl a) (dbl b) = dbl (mk2 a b) := by
  unfold mk2 dbl
  simp only [Int.mul_add]
theorem step_dbl (l : List S48) : stepL (l.map dbl) = (stepL l).map dbl := by
  unfold stepL
  rw [sel_dbl]
  simp only []
  rw [sel_dbl]
  simp only []
  rw [mk2_dbl, List.map_append]
  rfl
theorem both_dbl (l : List S48) : both (l.map dbl) = both l := by
  unfold both
  rw [sel_dbl]
  simp only []
  rw [sel_dbl]
  rfl
theorem run_dbl : ∀ m l out, runL m (l.map dbl) out = runL m l out
  | 0, _, _ => rfl
  | m + 1, l, out => by
    rw [runL, runL, List.length_map, step_dbl, both_dbl, run_dbl m]
def twice (c : List Int) : List Int := c.map (fun x => 2 * x)
theorem ini_dbl : ∀ c i, ini (twice c) i = (ini c i).map dbl
  | [], _ => rfl
  | x :: r, i => by
    have ih := ini_dbl r (i + 1)
    unfold twice at ih ⊢
    rw [List.map_cons, ini, ini, ih]
    by_cases h : 0 < x
    · rw [if_pos h, if_pos (by omega)]; rfl
    · rw [if_neg h, if_neg (by omega)]
theorem lensL_twice (c : List Int) : lensL (twice c) = lensL c := by
  unfold lensL
  rw [ini_dbl, List.length_map, run_dbl]
  have e : (twice c).length = c.length := by simp [twice]
  have e2 : (((ini c 0).map dbl).getD 0 z48).f1 = ((ini c 0).getD 0 z48).f1 := by
    rw [List.getD_eq_getElem?_getD, List.getD_eq_getElem?_getD, List.getElem?_map]
    cases (ini c 0)[0]? with
    | none => rfl
    | some t => rfl
  rw [e, e2]
theorem used_twice (c : List Int) : used (twice c) = used c := by
  unfold used twice
  rw [List.countP_map]
  congr 1
  funext x
  simp only [Function.comp_apply, decide_eq_decide]
  omega
theorem twice_l (c lens : List Int) (hc : c.length ≤ 16) (hr : ∀ x ∈ c, 0 ≤ x ∧ x ≤ 100000) (hl : lens = lensR c 15) (hf : fitOk c 15) (d : Nat) :
    ∀ (k i : Nat), i ≤ c.length → c.length - i = d → (∀ x ∈ c.take i, 2 * x ≤ 100000) → 300000 + d < k → laws_FnLensTwice.l0 k c lens (twice (c.take i)) (i : Int) = some true := by
  have hlen := lensR_length c 15
  induction d with
  | zero =>
    intro k i hi hd ht hk
    obtain ⟨k, rfl⟩ : ∃ m, k = m + 1 := ⟨k - 1, by omega⟩
    rw [List.take_of_length_le (by omega)] at ht ⊢
    have htl : (twice c).length = c.length := by simp [twice]
    have hf2 : fitOk (twice c) 15 := by
      refine ⟨by omega, by omega, by omega, ?_, by rw [used_twice]; exact hf.2.2.2.2.1, by rw [used_twice]; exact hf.2.2.2.2.2⟩
      unfold inC
      rw [List.all_eq_true]
      intro x hx
      obtain ⟨y, hy, rfl⟩ := List.mem_map.1 hx
      have := hr y hy
      have := ht y hy
      simp only [Bool.and_eq_true, decide_eq_true_eq]
      omega
    have e : lensR (twice c) 15 = lens := by rw [hl, lensR_few (by omega), lensR_few hc, if_pos hf2, if_pos hf, lensL_twice]
    rw [laws_FnLensTwice.l0, if_neg (by omega), impl_LensOf_all _ 15 (by omega), Option.bind_some, e, cbInts_f _ (by rw [hl]; omega) (by rw [hl]; omega), Option.bind_some]
  | succ d ih =>
    intro k i hi hd ht hk
    obtain ⟨k, rfl⟩ : ∃ m, k = m + 1 := ⟨k - 1, by omega⟩
    have hil : i < c.length := by omega
    have h0 := hr _ (List.getElem_mem hil)
    have htl : (twice (c.take i)).length ≤ 16 := by simp [twice]; omega
    rw [laws_FnLensTwice.l0, if_pos (by omega), if_pos (by omega), rdI hil, w64 (x := 2 * c[i]) (by omega) (by omega)]
    by_cases h : 2 * c[i] > 100000
    · rw [if_pos h]
    · rw [if_neg h, if_pos (by omega), w64 (by omega) (by omega), show ((i : Int) + 1) = ((i + 1 : Nat) : Int) by omega]
      have e : twice (c.take i) ++ [2 * c[i]] = twice (c.take (i + 1)) := by
        rw [List.take_succ_eq_append_getElem hil]
        unfold twice
        rw [List.map_append]
        rfl
      rw [e]
      refine ih k (i + 1) (by omega) (by omega) (fun x hx => ?_) (by omega)
      rw [List.take_succ_eq_append_getElem hil] at hx
      rcases List.mem_append.1 hx with e | e
      · exact ht x e
      · rw [List.mem_singleton.1 e]; omega
theorem LawLensTwice : laws_FnLensTwice.Pure := by
  intro l0 _ _ hl0
  obtain ⟨c, most, hc1, hc2, hc3, hd⟩ := drawLensOf_f hl0
  refine ⟨400001, ?_⟩
  have hn := lensR_length c 15
  have I : ∀ k, 200000 ≤ k → impl_LensOf.f k c 15 = some (lensR c 15) := fun k hk => impl_LensOf_all c 15 (by omega)
  have P : ∀ k, 200000 ≤ k → spec_LensOf.f k c 15 = some (lensR c 15) := fun k hk => spec_LensOf_all c 15 (by omega)
  have E : ∀ k, 200000 ≤ k → laws_cbInts.f k (lensR c 15) (lensR c 15) = some true := fun k hk => cbInts_f _ (by omega) (by omega)
  unfold laws_FnLensTwice.f
  by_cases hz : (l0.length : Int) > 1048576
  · rw [if_pos hz]
  rw [if_neg hz, hd _ (by omega), Option.bind_some, I _ (by omega), Option.bind_some, P _ (by omega), Option.bind_some, E _ (by omega), Option.bind_some, if_pos rfl]
  by_cases h : fitOk c 15
  · have hl : (lensR c 15).length = c.length := by rw [lensR_few (by omega), if_pos h, lensL_length]
    rw [if_neg (by omega), decide_eq_false (show ¬ (((c, most).1.length : Int) > 16) by show ¬ ((c.length : Int) > 16); omega), laws_FnLensTwice.j0, if_neg (by simp)]
    exact twice_l c _ (by omega) (inR h) rfl h c.length 400000 0 (by omega) (by omega) (by simp) (by omega)
  · have e : lensR c 15 = [] := by unfold lensR; rw [if_neg h]
    have E2 := E 400000 (by omega)
    rw [e] at E2
    rw [e, if_pos (by rfl), laws_FnLensTwice.j0, if_pos rfl, P _ (by omega), Option.bind_some, e, E2, Option.bind_some]
end Go.Proofs.Ytdenepapeoiiiaa.My
