/- Put together: Huff1, Huff2, Huff3, DrawBase, DrawL. -/
import Derived.Test.YtcbehpemhkfieaaPAllx0
import Derived.Test.YtcbehpemhkfieaaPAllx2
import Derived.Test.YtcbehpemhkfieaaPAllx3
import Derived.Test.YtcbehpemhkfieaaPAllx4
import Derived.Test.YtcbehpemhkfieaaPAllx5
import Derived.Test.YtcbehpemhkfieaaPAllx6
import Derived.Test.YtcbehpemhkfieaaPAllx7
import Derived.Test.YtcbehpemhkfieaaPAllx8
import Derived.Test.YtcbehpemhkfieaaPAllx9
import Derived.Test.YtcbehpemhkfieaaPAllx25
import Derived.Test.YtcbehpemhkfieaaMA
namespace Go.Proofs.Ytcbehpemhkfieaa.My
open Go Go.RowKit Go.Proofs.YtcbehpemhkfieaaW.PrintWords Go.Proofs.YtcbehpemhkfieaaW.PrintLast Go.Proofs.YtcbehpemhkfieaaW.PrintMore Go.Proofs.Ytcbehpemhkfieaa.PAll

theorem rd52 {l : List S81} {i : Nat} (h : i < l.length) : rd_T81 l (i : Int) = l[i] := by simp [rd_T81, List.getElem?_eq_getElem h]
theorem rdI {l : List Int} {i : Nat} (h : i < l.length) : rd l (i : Int) = l[i] := by simp [rd, List.getElem?_eq_getElem h]
theorem rdI_set {l : List Int} {i j : Nat} (h : i < l.length) (x : Int) : rd (l.set i x) (j : Int) = if j = i then x else rd l (j : Int) := by
  unfold rd
  rw [List.getD_eq_getElem?_getD, List.getD_eq_getElem?_getD, Int.toNat_natCast, List.getElem?_set]
  by_cases e : i = j
  · subst e; simp [h]
  · have : ¬ j = i := fun x => e x.symm
    simp [e, this]

/-! ### The least of some -/
def klt (a b : Int × Int) : Bool := decide (a.1 < b.1) || (decide (a.1 = b.1) && decide (a.2 < b.2))
def kat (l : List (Int × Int)) (i : Nat) : Int × Int := l.getD i (0, 0)
def scan (l : List (Int × Int)) : Nat → Nat → Nat → Nat
  | 0, a, _ => a
  | d + 1, a, i => if klt (kat l i) (kat l a) then scan l d i (i + 1) else scan l d a (i + 1)
theorem scan_lt (l : List (Int × Int)) : ∀ d a i, a < l.length → i + d ≤ l.length → scan l d a i < l.length
  | 0, a, i, h, _ => h
  | d + 1, a, i, h, h2 => by
    rw [scan]
    split
    · exact scan_lt l d i (i + 1) (by omega) (by omega)
    · exact scan_lt l d a (i + 1) h (by omega)
theorem scan_le (l : List (Int × Int)) : ∀ d a i, (kat l (scan l d a i)).1 ≤ (kat l a).1 ∧ ∀ j, i ≤ j → j < i + d → (kat l (scan l d a i)).1 ≤ (kat l j).1
  | 0, a, i => ⟨Int.le_refl _, fun j _ _ => by omega⟩
  | d + 1, a, i => by
    rw [scan]
    by_cases h : klt (kat l i) (kat l a) = true
    · rw [if_pos h]
      obtain ⟨h1, h2⟩ := scan_le l d i (i + 1)
      have h3 : (kat l i).1 ≤ (kat l a).1 := by
        simp only [klt, Bool.or_eq_true, Bool.and_eq_true, decide_eq_true_eq] at h
        omega
      refine ⟨by omega, fun j hj hd => ?_⟩
      by_cases e : j = i
      · subst e; exact h1
      · exact h2 j (by omega) (by omega)
    · rw [if_neg h]
      obtain ⟨h1, h2⟩ := scan_le l d a (i + 1)
      have h3 : (kat l a).1 ≤ (kat l i).1 := by
        simp only [klt, Bool.or_eq_true, Bool.and_eq_true, decide_eq_true_eq] at h
        omega
      refine ⟨h1, fun j hj hd => ?_⟩
      by_cases e : j = i
      · subst e; omega
      · exact h2 j (by omega) (by omega)
def lst (l : List (Int × Int)) : Nat := scan l (l.length - 1) 0 1
theorem lst_lt {l : List (Int × Int)} (h : l ≠ []) : lst l < l.length := by
  have : 0 < l.length := List.length_pos_iff.2 h
  exact scan_lt l _ 0 1 this (by omega)
theorem lst_le {l : List (Int × Int)} {j : Nat} (h : j < l.length) : (kat l (lst l)).1 ≤ (kat l j).1 := by
  obtain ⟨h1, h2⟩ := scan_le l (l.length - 1) 0 1
  by_cases e : j = 0
  · subst e; exact h1
  · exact h2 j (by omega) (by omega)

/-! ### Trees -/
def keys (l : List S81) : List (Int × Int) := l.map (fun t => (t.f0, t.f1))
theorem keys_length (l : List S81) : (keys l).length = l.length := by simp [keys]
theorem keys_at {l : List S81} {i : Nat} (h : i < l.length) : kat (keys l) i = (l[i].f0, l[i].f1) := by
  unfold kat keys
  rw [List.getD_eq_getElem?_getD, List.getElem?_map, List.getElem?_eq_getElem h]
  rfl
def sel (l : List S81) : S81 × List S81 := (l.getD (lst (keys l)) z81, l.eraseIdx (lst (keys l)))
def mk2 (a b : S81) : S81 := ⟨a.f0 + b.f0, if b.f1 < a.f1 then b.f1 else a.f1, a.f2 ++ b.f2⟩
def stepL (l : List S81) : List S81 := (sel (sel l).2).2 ++ [mk2 (sel l).1 (sel (sel l).2).1]
def both (l : List S81) : List Int := (sel l).1.f2 ++ (sel (sel l).2).1.f2
theorem sel_at {l : List S81} (h : l ≠ []) : ∃ hi : lst (keys l) < l.length, (sel l).1 = l[lst (keys l)] := by
  have h2 : keys l ≠ [] := by simpa [keys] using h
  have hi := lst_lt h2
  rw [keys_length] at hi
  refine ⟨hi, ?_⟩
  unfold sel
  simp [List.getElem?_eq_getElem hi]
theorem erase_perm {l : List S81} {i : Nat} (h : i < l.length) : (l[i] :: l.eraseIdx i).Perm l := by
  rw [List.eraseIdx_eq_take_drop_succ]
  have e : l = l.take i ++ l[i] :: l.drop (i + 1) := by rw [← List.drop_eq_getElem_cons h, List.take_append_drop]
  conv => rhs; rw [e]
  exact List.perm_middle.symm
theorem sel_perm {l : List S81} (h : l ≠ []) : ((sel l).1 :: (sel l).2).Perm l := by
  obtain ⟨hi, e⟩ := sel_at h
  rw [e]
  exact erase_perm hi
theorem sel_least {l : List S81} {x : S81} (hx : x ∈ l) : (sel l).1.f0 ≤ x.f0 := by
  obtain ⟨hi, e⟩ := sel_at (List.ne_nil_of_mem hx)
  obtain ⟨j, hj, rfl⟩ := List.mem_iff_getElem.1 hx
  have := lst_le (l := keys l) (j := j) (by rw [keys_length]; exact hj)
  rw [keys_at hi, keys_at hj] at this
  rw [e]
  exact this
theorem sel_length {l : List S81} (h : l ≠ []) : (sel l).2.length = l.length - 1 := by
  have := (sel_perm h).length_eq
  simp at this
  omega
/-- Two least ones, and the others. -/
theorem step_perm {l : List S81} (h : 2 ≤ l.length) : ∃ a b r, l.Perm (a :: b :: r) ∧ (∀ x ∈ l, a.f0 ≤ x.f0) ∧ (∀ x ∈ r, b.f0 ≤ x.f0) ∧ stepL l = r ++ [mk2 a b] ∧ both l = a.f2 ++ b.f2 ∧ a = (sel l).1 ∧ b = (sel (sel l).2).1 := by
  have h1 : l ≠ [] := by intro e; subst e; simp at h
  have h2 : (sel l).2 ≠ [] := by
    intro e
    have := sel_length h1
    rw [e] at this
    simp at this
    omega
  have p1 := sel_perm h1
  have p2 := sel_perm h2
  refine ⟨(sel l).1, (sel (sel l).2).1, (sel (sel l).2).2, (p1.symm.trans (p2.symm.cons _)), fun x hx => sel_least hx, fun x hx => ?_, rfl, rfl, rfl, rfl⟩
  exact sel_least (p2.subset (List.mem_cons_of_mem _ hx))
theorem step_length {l : List S81} (h : 2 ≤ l.length) : (stepL l).length = l.length - 1 := by
  obtain ⟨a, b, r, p, _, _, e, _⟩ := step_perm h
  rw [e, p.length_eq]
  simp

/-! ### The rounds -/
def bump (out : List Int) : List Int → List Int
  | [] => out
  | s :: r => bump (out.set s.toNat (rd out s + 1)) r
theorem bump_length : ∀ (ss out : List Int), (bump out ss).length = out.length
  | [], _ => rfl
  | s :: r, out => by rw [bump, bump_length r]; simp
def runL : Nat → List S81 → List Int → List Int
  | 0, _, out => out
  | m + 1, l, out => if 1 < l.length then runL m (stepL l) (bump out (both l)) else out
theorem runL_length : ∀ m l out, (runL m l out).length = out.length
  | 0, _, _ => rfl
  | m + 1, l, out => by
    rw [runL]
    split
    · rw [runL_length m, bump_length]
    · rfl
def syms (l : List S81) : List Int := l.flatMap (fun t => t.f2)
def wsum : List S81 → Int
  | [] => 0
  | t :: l => t.f0 + wsum l
theorem wsum_append : ∀ l m, wsum (l ++ m) = wsum l + wsum m
  | [], m => by simp [wsum]
  | t :: l, m => by rw [List.cons_append, wsum, wsum, wsum_append l m]; omega
theorem wsum_perm {l m : List S81} (p : l.Perm m) : wsum l = wsum m := by
  induction p with
  | nil => rfl
  | cons x _ ih => simp only [wsum]; omega
  | swap x y l => simp only [wsum]; omega
  | trans _ _ h1 h2 => omega
theorem wsum_nonneg : ∀ l : List S81, (∀ t ∈ l, 0 < t.f0) → 0 ≤ wsum l
  | [], _ => by simp [wsum]
  | t :: l, h => by
    have h1 := h t (by simp)
    have h2 := wsum_nonneg l (fun x hx => h x (by simp [hx]))
    rw [wsum]; omega
theorem wsum_mem : ∀ {l : List S81} {t : S81}, (∀ t ∈ l, 0 < t.f0) → t ∈ l → t.f0 ≤ wsum l
  | u :: l, t, h, ht => by
    have h1 := h u (by simp)
    have h2 := wsum_nonneg l (fun x hx => h x (by simp [hx]))
    rw [wsum]
    rcases List.mem_cons.1 ht with e | e
    · subst e; omega
    · have := wsum_mem (fun x hx => h x (by simp [hx])) e; omega
structure Ok (n : Nat) (l : List S81) : Prop where
  rng : ∀ t ∈ l, ∀ s ∈ t.f2, 0 ≤ s ∧ s < (n : Int)
  pos : ∀ t ∈ l, 0 < t.f0
  tot : wsum l ≤ 1000000000
  nod : (syms l).Nodup
  len : (syms l).length ≤ 300
  low : ∀ t ∈ l, t.f1 ∈ t.f2 ∧ ∀ s ∈ t.f2, t.f1 ≤ s
theorem syms_perm {l m : List S81} (p : l.Perm m) : (syms l).Perm (syms m) := List.Perm.flatMap_right _ p
theorem Ok.perm {n : Nat} {l m : List S81} (h : Ok n l) (p : l.Perm m) : Ok n m where
  rng t ht := h.rng t (p.mem_iff.2 ht)
  pos t ht := h.pos t (p.mem_iff.2 ht)
  tot := by rw [← wsum_perm p]; exact h.tot
  nod := (syms_perm p).nodup_iff.1 h.nod
  len := by rw [← (syms_perm p).length_eq]; exact h.len
  low t ht := h.low t (p.mem_iff.2 ht)
theorem syms_merge (a b : S81) (r : List S81) : (syms (r ++ [mk2 a b])).Perm (syms (a :: b :: r)) := by
  have e1 : syms (r ++ [mk2 a b]) = syms r ++ (a.f2 ++ b.f2) := by simp [syms, mk2]
  have e2 : syms (a :: b :: r) = (a.f2 ++ b.f2) ++ syms r := by simp [syms]
  rw [e1, e2]
  exact List.perm_append_comm
theorem Ok.merge {n : Nat} {a b : S81} {r : List S81} (h : Ok n (a :: b :: r)) : Ok n (r ++ [mk2 a b]) where
  rng t ht s hs := by
    rcases List.mem_append.1 ht with e | e
    · exact h.rng t (by simp [e]) s hs
    · rw [List.mem_singleton.1 e] at hs
      rcases List.mem_append.1 (show s ∈ a.f2 ++ b.f2 from hs) with e | e
      · exact h.rng a (by simp) s e
      · exact h.rng b (by simp) s e
  pos t ht := by
    have ha := h.pos a (by simp)
    have hb := h.pos b (by simp)
    rcases List.mem_append.1 ht with e | e
    · exact h.pos t (by simp [e])
    · rw [List.mem_singleton.1 e]
      show 0 < a.f0 + b.f0
      omega
  tot := by
    have := h.tot
    rw [wsum_append]
    simp only [wsum, mk2] at this ⊢
    omega
  nod := (syms_merge a b r).nodup_iff.2 h.nod
  len := by rw [(syms_merge a b r).length_eq]; exact h.len
  low t ht := by
    rcases List.mem_append.1 ht with e | e
    · exact h.low t (by simp [e])
    · obtain ⟨a1, a2⟩ := h.low a (by simp)
      obtain ⟨b1, b2⟩ := h.low b (by simp)
      rw [List.mem_singleton.1 e]
      show (if b.f1 < a.f1 then b.f1 else a.f1) ∈ a.f2 ++ b.f2 ∧ ∀ s ∈ a.f2 ++ b.f2, (if b.f1 < a.f1 then b.f1 else a.f1) ≤ s
      by_cases hc : b.f1 < a.f1
      · rw [if_pos hc]
        refine ⟨List.mem_append.2 (.inr b1), fun s hs => ?_⟩
        rcases List.mem_append.1 hs with e | e
        · have := a2 s e; omega
        · exact b2 s e
      · rw [if_neg hc]
        refine ⟨List.mem_append.2 (.inl a1), fun s hs => ?_⟩
        rcases List.mem_append.1 hs with e | e
        · exact a2 s e
        · have := b2 s e; omega
theorem Ok.step {n : Nat} {l : List S81} (h : Ok n l) (h2 : 2 ≤ l.length) : Ok n (stepL l) := by
  obtain ⟨a, b, r, p, _, _, e, _⟩ := step_perm h2
  rw [e]
  exact (h.perm p).merge
/-- Each symbol of two that are put together is a place. -/
theorem Ok.both {n : Nat} {l : List S81} (h : Ok n l) (h2 : 2 ≤ l.length) : (∀ s ∈ both l, 0 ≤ s ∧ s < (n : Int)) ∧ (both l).length ≤ 300 ∧ (both l).Nodup := by
  obtain ⟨a, b, r, p, _, _, _, e, _⟩ := step_perm h2
  have h3 := h.perm p
  rw [e]
  have e2 : syms (a :: b :: r) = (a.f2 ++ b.f2) ++ syms r := by simp [syms]
  have hl := h3.len
  have hn := h3.nod
  rw [e2] at hl hn
  refine ⟨fun s hs => ?_, ?_, (List.nodup_append.1 hn).1⟩
  · rcases List.mem_append.1 hs with e | e
    · exact h3.rng a (by simp) s e
    · exact h3.rng b (by simp) s e
  · rw [List.length_append] at hl
    omega
end Go.Proofs.Ytcbehpemhkfieaa.My

namespace Go.Proofs.Ytcbehpemhkfieaa.My
open Go Go.RowKit Go.Proofs.YtcbehpemhkfieaaW.PrintWords Go.Proofs.YtcbehpemhkfieaaW.PrintLast Go.Proofs.YtcbehpemhkfieaaW.PrintMore Go.Proofs.Ytcbehpemhkfieaa.PAll

theorem l3Least_l (d : Nat) : ∀ (k : Nat) (l : List S81) (a i : Nat), i ≤ l.length → l.length - i = d → l.length ≤ 1000 → a < l.length → d < k →
    spec_l3Least.l0 k l (a : Int) (i : Int) = some ((scan (keys l) d a i : Nat) : Int) := by
  induction d with
  | zero =>
    intro k l a i hi hd hl ha hk
    obtain ⟨k, rfl⟩ : ∃ m, k = m + 1 := ⟨k - 1, by omega⟩
    rw [spec_l3Least.l0, if_neg (by omega), scan]
  | succ d ih =>
    intro k l a i hi hd hl ha hk
    obtain ⟨k, rfl⟩ : ∃ m, k = m + 1 := ⟨k - 1, by omega⟩
    have hil : i < l.length := by omega
    have e1 := ih k l a (i + 1) (by omega) (by omega) hl ha (by omega)
    have e2 := ih k l i (i + 1) (by omega) (by omega) hl hil (by omega)
    rw [spec_l3Least.l0, if_pos (by omega), if_pos (by omega), if_pos (by omega), if_pos (by omega), rd52 hil, rd52 ha, w64 (by omega) (by omega), show ((i : Int) + 1) = ((i + 1 : Nat) : Int) by omega, e1, e2, scan, keys_at hil, keys_at ha]
    unfold klt
    by_cases h1 : l[i].f0 < l[a].f0
    · rw [if_pos h1]; simp [h1]
    · rw [if_neg h1]
      by_cases h2 : l[i].f0 = l[a].f0
      · rw [if_pos h2]
        by_cases h3 : l[i].f1 < l[a].f1
        · rw [if_pos h3]; simp [h2, h3]
        · rw [if_neg h3]; simp [h2, h3]
      · rw [if_neg h2]; simp [h1, h2]
theorem l3Least_f {k : Nat} {l : List S81} (hl : l.length ≤ 1000) (h : l ≠ []) (hk : l.length + 1 ≤ k) : spec_l3Least.f k l = some ((lst (keys l) : Nat) : Int) := by
  have : 0 < l.length := List.length_pos_iff.2 h
  unfold spec_l3Least.f lst
  rw [keys_length]
  exact l3Least_l (l.length - 1) k l 0 1 (by omega) (by omega) hl this (by omega)
theorem l3Less_f {l : List S81} {i : Nat} (h : i < l.length) (hl : l.length ≤ 1000) : spec_l3Less.f l (i : Int) = some (l.eraseIdx i) := by
  have h1 : (l.take i).length < 3518437208883 := by rw [List.length_take]; omega
  have h2 : (l.take i).length + (l.drop (i + 1)).length < 3518437208883 := by rw [List.length_take, List.length_drop]; omega
  have e1 : wrap64 ((i : Int) + 1) = ((i + 1 : Nat) : Int) := by rw [w64 (by omega) (by omega)]; omega
  rw [List.eraseIdx_eq_take_drop_succ]
  unfold spec_l3Less.f
  rw [e1]
  simp only [Option.bind_some, Int.toNat_natCast, List.nil_append, List.length_nil, Nat.zero_add]
  rw [if_pos (by omega), if_pos (by omega), if_pos h1, if_pos (by omega), if_pos (by omega), if_pos h2]
/-- All entries are from 0 to B. -/
def Bd (B : Int) (out : List Int) : Prop := ∀ j : Nat, j < out.length → 0 ≤ rd out j ∧ rd out j ≤ B
theorem Bd.set {B : Int} {out : List Int} (h : Bd B out) {i : Nat} (hi : i < out.length) {x : Int} (h0 : 0 ≤ x) (h1 : x ≤ B + 1) : Bd (B + 1) (out.set i x) := by
  intro j hj
  rw [List.length_set] at hj
  rw [rdI_set hi]
  split
  · exact ⟨h0, h1⟩
  · have := h j hj; omega
theorem Bd.bump : ∀ (ss out : List Int) (B : Int), Bd B out → (∀ s ∈ ss, 0 ≤ s ∧ s < (out.length : Int)) → Bd (B + ss.length) (bump out ss)
  | [], out, B, h, _ => by simpa [My.bump] using h
  | s :: r, out, B, h, hs => by
    obtain ⟨h0, h1⟩ := hs s (by simp)
    obtain ⟨i, rfl⟩ := Int.eq_ofNat_of_zero_le h0
    have hi : i < out.length := by omega
    have hv := h i hi
    rw [My.bump, Int.toNat_natCast]
    have := Bd.bump r (out.set i (rd out i + 1)) (B + 1) (h.set hi (by omega) (by omega)) (fun t ht => by rw [List.length_set]; exact hs t (by simp [ht]))
    rw [List.length_cons, show B + ((r.length + 1 : Nat) : Int) = B + 1 + (r.length : Int) by omega]
    exact this
theorem l3Lens_l2 (l4 : List S81) (x9 : Int) (ss : List Int) (a0 a1 : Int) (a2 : List Int) (b0 b1 : Int) (b2 : List Int) (n : Nat) (hs : ∀ s ∈ ss, 0 ≤ s ∧ s < (n : Int)) (hss : ss.length ≤ 300) (h4 : l4.length ≤ 1000) (fin : List Int) (K : Nat) (d : Nat) :
    ∀ (k : Nat) (out : List Int) (B : Int) (i : Nat), i ≤ ss.length → ss.length - i = d → out.length = n → Bd B out → B + d ≤ 1000000 → K + d < k →
      (∀ k', K ≤ k' → spec_l3Lens.l1 k' (bump out (ss.drop i)) (l4 ++ [⟨wrap64 (a0 + b0), x9, ss⟩]) = some fin) →
      spec_l3Lens.l2 k out l4 x9 ss (i : Int) a0 a1 a2 b0 b1 b2 = some fin := by
  induction d with
  | zero =>
    intro k out B i hi hd ho hB hb hk next
    obtain ⟨k, rfl⟩ : ∃ m, k = m + 1 := ⟨k - 1, by omega⟩
    have := next k (by omega)
    rw [List.drop_of_length_le (by omega), bump] at this
    rw [spec_l3Lens.l2, if_neg (by omega), if_pos (by omega), this]
  | succ d ih =>
    intro k out B i hi hd ho hB hb hk next
    obtain ⟨k, rfl⟩ : ∃ m, k = m + 1 := ⟨k - 1, by omega⟩
    have hil : i < ss.length := by omega
    obtain ⟨h0, h1⟩ := hs ss[i] (List.getElem_mem hil)
    rw [List.drop_eq_getElem_cons hil] at next
    rw [spec_l3Lens.l2, if_pos (by omega), if_pos (by omega), rdI hil]
    generalize ss[i] = s at *
    obtain ⟨j, rfl⟩ := Int.eq_ofNat_of_zero_le h0
    have hj : j < out.length := by omega
    have hv := hB j hj
    rw [if_pos (by omega), if_pos (by omega), Int.toNat_natCast, w64 (x := rd out j + 1) (by omega) (by omega), w64 (by omega) (by omega), show ((i : Int) + 1) = ((i + 1 : Nat) : Int) by omega]
    exact ih k (out.set j (rd out j + 1)) (B + 1) (i + 1) (by omega) (by omega) (by rw [List.length_set]; exact ho) (hB.set hj (by omega) (by omega)) (by omega) (by omega) (fun k' hk' => by have := next k' hk'; rwa [bump, Int.toNat_natCast] at this)
theorem l3Lens_l1 (n : Nat) (hn : n ≤ 300) : ∀ (m : Nat) (l : List S81) (out : List Int) (B : Int) (k : Nat), Ok n l → out.length = n → l.length ≤ m → m ≤ 301 → Bd B out → B + 300 * m ≤ 200000 → 400 * m + 400 ≤ k →
    spec_l3Lens.l1 k out l = some (runL m l out)
  | 0, l, out, B, k, hok, ho, hl, _, hB, hb, hk => by
    obtain ⟨k, rfl⟩ : ∃ m, k = m + 1 := ⟨k - 1, by omega⟩
    rw [spec_l3Lens.l1, if_neg (by omega), runL]
  | m + 1, l, out, B, k, hok, ho, hl, hm, hB, hb, hk => by
    obtain ⟨k, rfl⟩ : ∃ m, k = m + 1 := ⟨k - 1, by omega⟩
    rw [spec_l3Lens.l1, runL]
    by_cases h : 1 < l.length
    · rw [if_pos (by omega), if_pos h]
      have h1 : l ≠ [] := by intro e; subst e; simp at h
      obtain ⟨hi, e1⟩ := sel_at h1
      have hl1 : (sel l).2.length = l.length - 1 := sel_length h1
      have h2 : (sel l).2 ≠ [] := by intro e; rw [e] at hl1; simp at hl1; omega
      obtain ⟨hi2, e2⟩ := sel_at h2
      have hl2 : (sel (sel l).2).2.length = (sel l).2.length - 1 := sel_length h2
      obtain ⟨bs, bl, _⟩ := hok.both (by omega)
      have hok2 := hok.step (by omega)
      have hlen := step_length (l := l) (by omega)
      have f0s : 0 < (sel l).1.f0 ∧ 0 < (sel (sel l).2).1.f0 ∧ (sel l).1.f0 + (sel (sel l).2).1.f0 ≤ 1000000000 := by
        obtain ⟨a, b, r, p, _, _, _, _, ea, eb⟩ := step_perm (l := l) (by omega)
        have h3 := hok.perm p
        have pa := h3.pos a (by simp)
        have pb := h3.pos b (by simp)
        have pr := wsum_nonneg r (fun x hx => h3.pos x (by simp [hx]))
        have := h3.tot
        simp only [wsum] at this
        rw [← ea, ← eb]
        omega
      have ih := fun k' (hk' : 400 * m + 400 ≤ k') => l3Lens_l1 n hn m (stepL l) (bump out (both l)) (B + (both l).length) k' hok2 (by rw [bump_length]; exact ho) (by omega) (by omega) (Bd.bump _ _ _ hB (by rw [ho]; exact bs)) (by omega) hk'
      have w : ∀ x9, x9 = (mk2 (sel l).1 (sel (sel l).2).1).f1 → (sel (sel l).2).2 ++ [(⟨wrap64 ((sel l).1.f0 + (sel (sel l).2).1.f0), x9, both l⟩ : S81)] = stepL l := by
        intro x9 hx
        rw [w64 (by omega) (by omega), hx]
        rfl
      have b2 : (sel l).1.f2.length + (sel (sel l).2).1.f2.length ≤ 300 := by have := bl; unfold both at this; rw [List.length_append] at this; exact this
      rw [l3Least_f (by omega) h1 (by omega), Option.bind_some, if_pos (by omega), if_pos (by omega), l3Less_f hi (by omega), Option.bind_some, rd52 hi, ← e1]
      rw [show l.eraseIdx (lst (keys l)) = (sel l).2 from rfl, l3Least_f (by omega) h2 (by omega), Option.bind_some, if_pos (by omega), if_pos (by omega), l3Less_f hi2 (by omega), Option.bind_some, rd52 hi2, ← e2, show (sel l).2.eraseIdx (lst (keys (sel l).2)) = (sel (sel l).2).2 from rfl]
      have go : ∀ x9, x9 = (mk2 (sel l).1 (sel (sel l).2).1).f1 → ∀ a0 a1 a2 b0 b1 b2, a0 = (sel l).1.f0 → b0 = (sel (sel l).2).1.f0 → spec_l3Lens.l2 k out (sel (sel l).2).2 x9 (both l) 0 a0 a1 a2 b0 b1 b2 = some (runL m (stepL l) (bump out (both l))) := by
        intro x9 hx a0 a1 a2 b0 b1 b2 ha hb'
        have := l3Lens_l2 (sel (sel l).2).2 x9 (both l) a0 a1 a2 b0 b1 b2 n bs bl (by omega) (runL m (stepL l) (bump out (both l))) (400 * m + 400) (both l).length k out B 0 (by omega) (by omega) ho hB (by omega) (by omega)
          (fun k' hk' => by rw [ha, hb', w x9 hx, List.drop_zero]; exact ih k' hk')
        simpa using this
      by_cases hc : (sel (sel l).2).1.f1 < (sel l).1.f1
      · rw [if_pos hc]
        simp only [Option.bind_some, List.nil_append, List.length_nil, Nat.zero_add]
        rw [if_pos (by omega), if_pos (by omega)]
        exact go _ (by unfold mk2; rw [if_pos hc]) _ _ _ _ _ _ rfl rfl
      · rw [if_neg hc]
        simp only [Option.bind_some, List.nil_append, List.length_nil, Nat.zero_add]
        rw [if_pos (by omega), if_pos (by omega)]
        exact go _ (by unfold mk2; rw [if_neg hc]) _ _ _ _ _ _ rfl rfl
    · rw [if_neg (by omega), if_neg h]

/-! ### The first trees -/
def ini : List Int → Nat → List S81
  | [], _ => []
  | x :: r, i => if 0 < x then ⟨x, (i : Int), [(i : Int)]⟩ :: ini r (i + 1) else ini r (i + 1)
theorem ini_length : ∀ (c : List Int) (i : Nat), (ini c i).length ≤ c.length
  | [], _ => by simp [ini]
  | x :: r, i => by
    have := ini_length r (i + 1)
    rw [ini]
    split
    · simp; omega
    · simp; omega
theorem ini_syms : ∀ (c : List Int) (i : Nat), (∀ s ∈ syms (ini c i), (i : Int) ≤ s ∧ s < ((i + c.length : Nat) : Int)) ∧ (syms (ini c i)).Nodup ∧ (syms (ini c i)).length ≤ c.length
  | [], i => by simp [ini, syms]
  | x :: r, i => by
    obtain ⟨h1, h2, h3⟩ := ini_syms r (i + 1)
    rw [ini]
    split
    · have e : syms ((⟨x, (i : Int), [(i : Int)]⟩ : S81) :: ini r (i + 1)) = (i : Int) :: syms (ini r (i + 1)) := rfl
      rw [e]
      refine ⟨fun s hs => ?_, List.nodup_cons.2 ⟨fun hm => ?_, h2⟩, by simp; omega⟩
      · rcases List.mem_cons.1 hs with rfl | hs
        · simp; omega
        · have := h1 s hs; simp at this ⊢; omega
      · have := h1 _ hm; omega
    · refine ⟨fun s hs => ?_, h2, by simp; omega⟩
      have := h1 s hs; simp at this ⊢; omega
theorem ini_mem : ∀ (c : List Int) (i : Nat) (t : S81), t ∈ ini c i ↔ ∃ j : Nat, ∃ h : j < c.length, 0 < c[j] ∧ t = ⟨c[j], ((i + j : Nat) : Int), [((i + j : Nat) : Int)]⟩
  | [], i, t => by simp [ini]
  | x :: r, i, t => by
    have ih := ini_mem r (i + 1) t
    have hd : ∀ P : Nat → Prop, (∃ j, P j) ↔ (P 0 ∨ ∃ j, P (j + 1)) := fun P => ⟨fun ⟨j, h⟩ => by cases j with
      | zero => exact .inl h
      | succ j => exact .inr ⟨j, h⟩, fun h => h.elim (fun h => ⟨0, h⟩) (fun ⟨j, h⟩ => ⟨j + 1, h⟩)⟩
    rw [hd]
    have e : ∀ j, i + 1 + j = i + (j + 1) := fun j => by omega
    rw [ini]
    by_cases hx : 0 < x
    · rw [if_pos hx, List.mem_cons, ih]
      simp only [e, List.length_cons, List.getElem_cons_zero, List.getElem_cons_succ, Nat.add_zero, Nat.zero_lt_succ, hx, true_and, exists_true_left, Nat.add_lt_add_iff_right]
    · rw [if_neg hx, ih]
      simp only [e, List.length_cons, List.getElem_cons_zero, List.getElem_cons_succ, Nat.zero_lt_succ, hx, false_and, exists_false, false_or, Nat.add_lt_add_iff_right]
theorem ini_wsum : ∀ (c : List Int) (i : Nat), (∀ x ∈ c, x ≤ 200000) → wsum (ini c i) ≤ 200000 * c.length
  | [], i, _ => by simp [ini, wsum]
  | x :: r, i, h => by
    have h1 := h x (by simp)
    have h2 := ini_wsum r (i + 1) (fun y hy => h y (by simp [hy]))
    rw [ini]
    split
    · rw [wsum, List.length_cons]
      show x + _ ≤ _
      omega
    · rw [List.length_cons]; omega
theorem ini_ok {c : List Int} (hc : c.length ≤ 300) (hx : ∀ x ∈ c, x ≤ 200000) : Ok c.length (ini c 0) where
  rng t ht s hs := by
    obtain ⟨j, hj, _, rfl⟩ := (ini_mem c 0 t).1 ht
    simp only [List.mem_singleton] at hs
    subst hs
    omega
  pos t ht := by
    obtain ⟨j, hj, h, rfl⟩ := (ini_mem c 0 t).1 ht
    exact h
  tot := by
    have := ini_wsum c 0 hx
    omega
  nod := (ini_syms c 0).2.1
  len := by have := (ini_syms c 0).2.2; omega
  low t ht := by
    obtain ⟨j, hj, _, rfl⟩ := (ini_mem c 0 t).1 ht
    simp
def lensL (c : List Int) : List Int :=
  runL (ini c 0).length (ini c 0) (if (ini c 0).length = 1 then (List.replicate c.length 0).set ((ini c 0).getD 0 z81).f1.toNat 1 else List.replicate c.length 0)
theorem lensL_length (c : List Int) : (lensL c).length = c.length := by
  unfold lensL
  rw [runL_length]
  split <;> simp
theorem l3Lens_l0 (d : Nat) : ∀ (k : Nat) (c out : List Int) (acc : List S81) (i : Nat) (fin : List Int) (K : Nat), i ≤ c.length → c.length - i = d → c.length ≤ 300 → acc.length ≤ i → K + d < k →
    (∀ k', K ≤ k' → (if ((acc ++ ini (c.drop i) i).length : Int) = 1 then (if 0 < ((acc ++ ini (c.drop i) i).length : Int) then (if 0 ≤ ((rd_T81 (acc ++ ini (c.drop i) i) 0).f1) then (if ((rd_T81 (acc ++ ini (c.drop i) i) 0).f1) < (out.length : Int) then (spec_l3Lens.j1 k' (out.set (((rd_T81 (acc ++ ini (c.drop i) i) 0).f1) : Int).toNat 1) (acc ++ ini (c.drop i) i)) else (none)) else (none)) else (none)) else (spec_l3Lens.j1 k' out (acc ++ ini (c.drop i) i))) = some fin) →
    spec_l3Lens.l0 k c out acc (i : Int) = some fin := by
  induction d with
  | zero =>
    intro k c out acc i fin K hi hd hc ha hk next
    obtain ⟨k, rfl⟩ : ∃ m, k = m + 1 := ⟨k - 1, by omega⟩
    have := next k (by omega)
    rw [List.drop_of_length_le (by omega)] at this
    simp only [ini, List.append_nil] at this
    rw [spec_l3Lens.l0, if_neg (by omega)]
    exact this
  | succ d ih =>
    intro k c out acc i fin K hi hd hc ha hk next
    obtain ⟨k, rfl⟩ : ∃ m, k = m + 1 := ⟨k - 1, by omega⟩
    have hil : i < c.length := by omega
    rw [spec_l3Lens.l0, if_pos (by omega), if_pos (by omega), rdI hil, w64 (by omega) (by omega), show ((i : Int) + 1) = ((i + 1 : Nat) : Int) by omega]
    rw [List.drop_eq_getElem_cons hil, ini] at next
    by_cases h : 0 < c[i]
    · rw [if_pos h] at next
      rw [if_pos h, if_pos (by omega)]
      refine ih k c out _ (i + 1) fin K (by omega) (by omega) hc (by simp; omega) (by omega) ?_
      rw [List.append_assoc]
      exact next
    · rw [if_neg h] at next
      rw [if_neg h]
      exact ih k c out acc (i + 1) fin K (by omega) (by omega) hc (by omega) (by omega) next
theorem l3Lens_f {k : Nat} {c : List Int} (hc : c.length ≤ 300) (hx : ∀ x ∈ c, x ≤ 200000) (hk : 130000 ≤ k) : spec_l3Lens.f k c = some (lensL c) := by
  have hok := ini_ok hc hx
  have hlen := ini_length c 0
  unfold spec_l3Lens.f
  rw [if_pos (by omega), if_pos (by omega), Int.toNat_natCast]
  have hB : Bd 1 (List.replicate c.length 0) := by
    intro j hj
    rw [rdI hj]
    simp
  refine l3Lens_l0 c.length k c _ [] 0 (lensL c) 122000 (by omega) (by omega) hc (by simp) (by omega) (fun k' hk' => ?_)
  rw [List.drop_zero, List.nil_append]
  obtain ⟨k', rfl⟩ : ∃ m, k' = m + 1 := ⟨k' - 1, by omega⟩
  unfold lensL
  by_cases h1 : (ini c 0).length = 1
  · have hm : rd_T81 (ini c 0) ((0 : Nat) : Int) ∈ ini c 0 := by rw [rd52 (by omega)]; exact List.getElem_mem _
    obtain ⟨h2, h3⟩ := hok.rng _ hm _ (hok.low _ hm).1
    have e : (ini c 0).getD 0 z81 = rd_T81 (ini c 0) ((0 : Nat) : Int) := by unfold rd_T81; rfl
    simp only [Int.natCast_zero] at h2 h3 hm e
    rw [if_pos (by omega), if_pos (by omega), if_pos (by omega), if_pos (by simp; omega), if_pos h1, spec_l3Lens.j1, e]
    have hr : ∀ j : Nat, rd (List.replicate c.length 0) (j : Int) = 0 := fun j => by
      unfold rd
      rw [List.getD_eq_getElem?_getD, Int.toNat_natCast]
      by_cases hj : j < c.length
      · simp [hj]
      · simp [hj]
    refine l3Lens_l1 c.length hc _ _ _ 1 _ hok (by simp) (Nat.le_refl _) (by omega) ?_ (by omega) (by omega)
    intro j hj
    rw [List.length_set] at hj
    rw [rdI_set (by simp; omega), hr]
    split <;> omega
  · rw [if_neg (by omega), if_neg h1, spec_l3Lens.j1]
    exact l3Lens_l1 c.length hc _ _ _ 1 _ hok (by simp) (Nat.le_refl _) (by omega) hB (by omega) (by omega)
end Go.Proofs.Ytcbehpemhkfieaa.My

namespace Go.Proofs.Ytcbehpemhkfieaa.My
open Go Go.RowKit Go.Proofs.YtcbehpemhkfieaaW.PrintWords Go.Proofs.YtcbehpemhkfieaaW.PrintLast Go.Proofs.YtcbehpemhkfieaaW.PrintMore Go.Proofs.Ytcbehpemhkfieaa.PAll

def dep : Nat → List S81 → Int → Nat
  | 0, _, _ => 0
  | m + 1, l, s => if 1 < l.length then dep m (stepL l) s + (if s ∈ both l then 1 else 0) else 0
theorem bump_rd : ∀ (ss out : List Int), ss.Nodup → (∀ s ∈ ss, 0 ≤ s ∧ s < (out.length : Int)) → ∀ j : Nat, j < out.length → rd (bump out ss) j = rd out j + if (j : Int) ∈ ss then 1 else 0
  | [], out, _, _, j, _ => by simp [bump]
  | s :: r, out, hn, hs, j, hj => by
    obtain ⟨h0, h1⟩ := hs s (by simp)
    obtain ⟨i, rfl⟩ := Int.eq_ofNat_of_zero_le h0
    obtain ⟨hn1, hn2⟩ := List.nodup_cons.1 hn
    rw [bump, Int.toNat_natCast, bump_rd r _ hn2 (fun t ht => by rw [List.length_set]; exact hs t (by simp [ht])) j (by rw [List.length_set]; exact hj), rdI_set (by omega)]
    by_cases e : j = i
    · subst e
      rw [if_pos rfl, if_neg hn1, if_pos (by simp)]
      omega
    · have e2 : ¬ (j : Int) = (i : Int) := by omega
      rw [if_neg e]
      simp [e2]
theorem runL_rd {n : Nat} : ∀ (m : Nat) (l : List S81) (out : List Int), Ok n l → out.length = n → ∀ j : Nat, j < n → rd (runL m l out) j = rd out j + dep m l j
  | 0, l, out, _, _, j, _ => by simp [runL, dep]
  | m + 1, l, out, h, ho, j, hj => by
    rw [runL, dep]
    by_cases hl : 1 < l.length
    · obtain ⟨b1, _, b3⟩ := h.both (by omega)
      rw [if_pos hl, if_pos hl, runL_rd m _ _ (h.step (by omega)) (by rw [bump_length]; exact ho) j hj, bump_rd _ _ b3 (by rw [ho]; exact b1) j (by omega)]
      by_cases e : (j : Int) ∈ both l
      · rw [if_pos e, if_pos e]; omega
      · rw [if_neg e, if_neg e]; omega
    · rw [if_neg hl, if_neg hl]; simp
theorem dep_le : ∀ (m : Nat) (l : List S81) (s : Int), dep m l s ≤ l.length - 1
  | 0, _, _ => by simp [dep]
  | m + 1, l, s => by
    rw [dep]
    by_cases hl : 1 < l.length
    · rw [if_pos hl]
      have h1 := dep_le m (stepL l) s
      rw [step_length (by omega)] at h1
      split <;> omega
    · rw [if_neg hl]; omega
theorem rd_zeros (n : Nat) (j : Nat) : rd (List.replicate n 0) (j : Int) = 0 := by
  unfold rd
  rw [List.getD_eq_getElem?_getD, Int.toNat_natCast]
  by_cases hj : j < n
  · simp [hj]
  · simp [hj]
/-- The length of a symbol. -/
def lenOf (c : List Int) (j : Nat) : Nat := (if (ini c 0).length = 1 ∧ (j : Int) = ((ini c 0).getD 0 z81).f1 then 1 else 0) + dep (ini c 0).length (ini c 0) j
theorem lensL_rd {c : List Int} (hc : c.length ≤ 300) (hx : ∀ x ∈ c, x ≤ 200000) {j : Nat} (hj : j < c.length) : rd (lensL c) j = lenOf c j := by
  have hok := ini_ok hc hx
  unfold lensL lenOf
  by_cases h1 : (ini c 0).length = 1
  · have hm : (ini c 0).getD 0 z81 ∈ ini c 0 := by
      rw [List.getD_eq_getElem?_getD, List.getElem?_eq_getElem (show 0 < (ini c 0).length by omega)]
      exact List.getElem_mem _
    obtain ⟨h2, h3⟩ := hok.rng _ hm _ (hok.low _ hm).1
    obtain ⟨i, hi⟩ := Int.eq_ofNat_of_zero_le h2
    rw [if_pos h1, runL_rd (n := c.length) _ _ _ hok (by simp) j hj, hi, Int.toNat_natCast, rdI_set (by simp; omega), rd_zeros]
    by_cases e : j = i
    · rw [if_pos e, if_pos ⟨h1, by omega⟩]; omega
    · rw [if_neg e, if_neg (fun x => e (by omega))]; omega
  · rw [if_neg h1, runL_rd (n := c.length) _ _ _ hok (by simp) j hj, rd_zeros, if_neg (fun x => h1 x.1)]
    omega
theorem lenOf_le (c : List Int) (j : Nat) : lenOf c j ≤ max 1 (c.length - 1) := by
  have h1 := dep_le (ini c 0).length (ini c 0) j
  have h2 := ini_length c 0
  unfold lenOf
  split
  · omega
  · omega

/-! ### The longest -/
def mostL : List Int → Int → Int
  | [], m => m
  | x :: r, m => mostL r (if x > m then x else m)
theorem mostL_le {B : Int} : ∀ (l : List Int) (m : Int), (∀ x ∈ l, x ≤ B) → m ≤ B → mostL l m ≤ B
  | [], m, _, h => h
  | x :: r, m, hx, h => by
    rw [mostL]
    refine mostL_le r _ (fun y hy => hx y (by simp [hy])) ?_
    split
    · exact hx x (by simp)
    · exact h
theorem le_mostL : ∀ (l : List Int) (m : Int), m ≤ mostL l m ∧ ∀ x ∈ l, x ≤ mostL l m
  | [], m => ⟨Int.le_refl _, fun x hx => by cases hx⟩
  | y :: r, m => by
    obtain ⟨h1, h2⟩ := le_mostL r (if y > m then y else m)
    rw [mostL]
    have h3 : m ≤ (if y > m then y else m) ∧ y ≤ (if y > m then y else m) := by split <;> omega
    refine ⟨by omega, fun x hx => ?_⟩
    rcases List.mem_cons.1 hx with rfl | hx
    · omega
    · exact h2 x hx
theorem l3Most_l (d : Nat) : ∀ (k : Nat) (l : List Int) (m : Int) (i : Nat), i ≤ l.length → l.length - i = d → l.length ≤ 1000 → d < k → spec_l3Most.l0 k l m (i : Int) = some (mostL (l.drop i) m) := by
  induction d with
  | zero =>
    intro k l m i hi hd hl hk
    obtain ⟨k, rfl⟩ : ∃ m, k = m + 1 := ⟨k - 1, by omega⟩
    rw [spec_l3Most.l0, if_neg (by omega), List.drop_of_length_le (by omega), mostL]
  | succ d ih =>
    intro k l m i hi hd hl hk
    obtain ⟨k, rfl⟩ : ∃ m, k = m + 1 := ⟨k - 1, by omega⟩
    have hil : i < l.length := by omega
    rw [spec_l3Most.l0, if_pos (by omega), if_pos (by omega), rdI hil, w64 (by omega) (by omega), show ((i : Int) + 1) = ((i + 1 : Nat) : Int) by omega, ih k l _ (i + 1) (by omega) (by omega) hl (by omega), ih k l _ (i + 1) (by omega) (by omega) hl (by omega), List.drop_eq_getElem_cons hil, mostL]
    by_cases h : l[i] > m
    · rw [if_pos h, if_pos h]
    · rw [if_neg h, if_neg h]
theorem l3Most_f {k : Nat} {l : List Int} (hl : l.length ≤ 1000) (hk : l.length < k) : spec_l3Most.f k l = some (mostL l 0) := by
  unfold spec_l3Most.f
  have := l3Most_l l.length k l 0 0 (by omega) (by omega) hl hk
  simpa using this
theorem l3Fit_now {k : Nat} {c : List Int} {most : Int} (hc : c.length ≤ 300) (hx : ∀ x ∈ c, x ≤ 200000) (hm : mostL (lensL c) 0 ≤ most) (hk : 140000 ≤ k) : spec_l3Fit.f k c most = some (lensL c) := by
  obtain ⟨k, rfl⟩ : ∃ m, k = m + 1 := ⟨k - 1, by omega⟩
  have hl := lensL_length c
  unfold spec_l3Fit.f
  simp only [Option.bind_some, List.nil_append, List.length_nil, Nat.zero_add]
  rw [if_pos (by omega), l3Lens_f hc hx (by omega), Option.bind_some, spec_l3Fit.l0, l3Most_f (by omega) (by omega), Option.bind_some, if_neg (by omega)]

/-! ### LensOf, ahead of its rounds -/
def inC (c : List Int) : Bool := c.all (fun x => decide (0 ≤ x) && decide (x ≤ 100000))
theorem LensOf_l (c : List Int) (most : Int) (hm : 1 ≤ most ∧ most ≤ 15) (hc : c.length ≤ 300) (r : List Int) (K : Nat) (fit : inC c = true → 1 ≤ used c → (used c : Int) ≤ 2 ^ (most.toNat - 1) → ∀ k, K ≤ k → spec_l3Fit.f k c most = some r) (d : Nat) :
    ∀ (k i : Nat), i ≤ c.length → c.length - i = d → inC (c.take i) = true → K + d + 400 ≤ k →
      spec_LensOf.l0 k c most (i : Int) = some (if inC c = true ∧ 1 ≤ used c ∧ (used c : Int) ≤ 2 ^ (most.toNat - 1) then r else []) := by
  induction d with
  | zero =>
    intro k i hi hd hin hk
    obtain ⟨k, rfl⟩ : ∃ m, k = m + 1 := ⟨k - 1, by omega⟩
    rw [List.take_of_length_le (by omega)] at hin
    obtain ⟨n, hn⟩ : ∃ n : Nat, most = n := Int.eq_ofNat_of_zero_le (by omega)
    have hu : used c ≤ c.length := List.countP_le_length
    have hp : 2 ^ n ≤ 2 ^ 15 := Nat.pow_le_pow_right (by decide) (by omega)
    have hp2 : 2 ^ n = 2 * 2 ^ (n - 1) := by rw [show n = (n - 1) + 1 by omega, Nat.pow_succ]; simp; omega
    have e : (2 : Int) ^ (most.toNat - 1) = ((2 ^ (n - 1) : Nat) : Int) := by rw [hn, Int.toNat_natCast]; simp
    rw [spec_LensOf.l0, if_neg (by omega), l3Used_f c (by omega) (by omega), Option.bind_some, hn, l1Pow_f (by omega) (by omega), Option.bind_some, tdiv_pos (by omega), w64 (by omega) (by omega), l1In_f, Option.bind_some, ← hn]
    have e2 : ((2 ^ n : Nat) : Int) / 2 = ((2 ^ (n - 1) : Nat) : Int) := by omega
    rw [e2, e]
    by_cases h1 : 1 ≤ used c ∧ (used c : Int) ≤ ((2 ^ (n - 1) : Nat) : Int)
    · have e3 : (decide ((1 : Int) ≤ (used c : Int)) && decide ((used c : Int) ≤ ((2 ^ (n - 1) : Nat) : Int))) = true := by simp only [Bool.and_eq_true, decide_eq_true_eq]; omega
      rw [if_pos e3, if_pos ⟨hin, h1⟩, fit hin h1.1 (by rw [e]; exact h1.2) k (by omega), Option.bind_some]
    · have e3 : ¬ (decide ((1 : Int) ≤ (used c : Int)) && decide ((used c : Int) ≤ ((2 ^ (n - 1) : Nat) : Int))) = true := by simp only [Bool.and_eq_true, decide_eq_true_eq]; omega
      rw [if_neg e3, if_neg (fun x => h1 x.2)]
  | succ d ih =>
    intro k i hi hd hin hk
    obtain ⟨k, rfl⟩ : ∃ m, k = m + 1 := ⟨k - 1, by omega⟩
    have hil : i < c.length := by omega
    rw [spec_LensOf.l0, if_pos (by omega), if_pos (by omega), rdI hil, l1In_f, Option.bind_some, w64 (by omega) (by omega), show ((i : Int) + 1) = ((i + 1 : Nat) : Int) by omega]
    by_cases h : (decide (0 ≤ c[i]) && decide (c[i] ≤ 100000)) = true
    · rw [if_pos h]
      refine ih k (i + 1) (by omega) (by omega) ?_ (by omega)
      rw [List.take_succ_eq_append_getElem hil, inC, List.all_append, Bool.and_eq_true]
      exact ⟨hin, by simpa using h⟩
    · have h2 : ¬ inC c = true := by
        intro hc2
        unfold inC at hc2
        rw [List.all_eq_true] at hc2
        exact h (hc2 _ (List.getElem_mem hil))
      rw [if_neg h, if_neg (fun x => h2 x.1)]
def fitOk (c : List Int) (most : Int) : Prop := c.length ≤ 300 ∧ 1 ≤ most ∧ most ≤ 15 ∧ inC c = true ∧ 1 ≤ used c ∧ (used c : Int) ≤ 2 ^ (most.toNat - 1)
instance (c : List Int) (most : Int) : Decidable (fitOk c most) := by unfold fitOk; infer_instance
theorem spec_LensOf_f {k : Nat} {c : List Int} {most : Int} {r : List Int} {K : Nat} (fit : fitOk c most → ∀ k, K ≤ k → spec_l3Fit.f k c most = some r) (hk : K + 1000 ≤ k) :
    spec_LensOf.f k c most = some (if fitOk c most then r else []) := by
  obtain ⟨k, rfl⟩ : ∃ m, k = m + 1 := ⟨k - 1, by omega⟩
  unfold spec_LensOf.f
  by_cases h : (c.length : Int) > 300
  · rw [if_pos h, spec_LensOf.j0, if_pos rfl, if_neg (fun x => by have := x.1; omega)]
  · rw [if_neg h, l1In_f, Option.bind_some, spec_LensOf.j0]
    by_cases h2 : 1 ≤ most ∧ most ≤ 15
    · have e : ¬ (!(decide (1 ≤ most) && decide (most ≤ 15))) = true := by simp [h2]
      rw [if_neg e]
      have := LensOf_l c most h2 (by omega) r K (fun h3 h4 h5 => fit ⟨by omega, h2.1, h2.2, h3, h4, h5⟩) c.length k 0 (by omega) (by omega) (by simp [inC]) (by omega)
      simp only [Int.natCast_zero] at this
      rw [this]
      by_cases h3 : fitOk c most
      · rw [if_pos h3, if_pos h3.2.2.2]
      · rw [if_neg h3, if_neg (fun x => h3 ⟨by omega, h2.1, h2.2, x⟩)]
    · have e : (!(decide (1 ≤ most) && decide (most ≤ 15))) = true := by
        simp only [Bool.not_eq_true', Bool.and_eq_false_iff, decide_eq_false_iff_not]
        omega
      rw [if_pos e, if_neg (fun x => h2 ⟨x.2.1, x.2.2.1⟩)]
/-- Of few counts: at once. -/
theorem spec_LensOf_few {k : Nat} {c : List Int} (hc : c.length ≤ 16) (hk : 142000 ≤ k) : spec_LensOf.f k c 15 = some (if fitOk c 15 then lensL c else []) := by
  refine spec_LensOf_f (K := 140000) (fun h k hk => ?_) (by omega)
  have hx : ∀ x ∈ c, x ≤ 200000 := fun x hx => by
    have := h.2.2.2.1
    unfold inC at this
    rw [List.all_eq_true] at this
    have := this x hx
    simp only [Bool.and_eq_true, decide_eq_true_eq] at this
    omega
  refine l3Fit_now (by omega) hx ?_ hk
  refine mostL_le _ _ (fun x hx2 => ?_) (by omega)
  obtain ⟨j, hj, rfl⟩ := List.mem_iff_getElem.1 hx2
  rw [lensL_length] at hj
  have h1 := lensL_rd (show c.length ≤ 300 by omega) hx hj
  rw [rdI (by rw [lensL_length]; exact hj)] at h1
  have h2 := lenOf_le c j
  omega
theorem spec_LensOf_few_length (c : List Int) : (if fitOk c 15 then lensL c else []).length ≤ c.length := by
  split
  · rw [lensL_length]; omega
  · simp
end Go.Proofs.Ytcbehpemhkfieaa.My

namespace Go.Proofs.Ytcbehpemhkfieaa.My
open Go Go.RowKit Go.Proofs.YtcbehpemhkfieaaW.PrintWords Go.Proofs.YtcbehpemhkfieaaW.PrintLast Go.Proofs.YtcbehpemhkfieaaW.PrintMore Go.Proofs.Ytcbehpemhkfieaa.PAll

/-- A buffer of bytes, not too long. -/
def Buf (b : List Int) : Prop := (∀ x ∈ b, 0 ≤ x ∧ x ≤ 255) ∧ b.length ≤ 2000
theorem rd_range {b : List Int} (hb : Buf b) (i : Int) : 0 ≤ rd b i ∧ rd b i ≤ 255 := by
  unfold rd
  rw [List.getD_eq_getElem?_getD]
  rcases Nat.lt_or_ge i.toNat b.length with h | h
  · rw [List.getElem?_eq_getElem h]
    exact hb.1 _ (List.getElem_mem h)
  · rw [List.getElem?_eq_none h]
    exact ⟨by simp, by simp⟩
theorem pick_j {b : List Int} (hb : Buf b) (hne : (b.length : Int) ≠ 0) {p n : Int} (hp0 : 0 ≤ p) (hp1 : p ≤ 1000000) (hn : 1 ≤ n) :
    ∃ v, 0 ≤ v ∧ v < n ∧ ∀ k, 1 ≤ k → spec_l1Rd_pick.j0 k n false b (p + 1) = some (v, p + 1) := by
  have hw : wrap64 (p + 1 - 1) = p := by rw [w64 (by omega) (by omega)]; omega
  by_cases hlt : p < (b.length : Int)
  · have hr := rd_range hb p
    refine ⟨rd b p % n, Int.emod_nonneg _ (by omega), Int.emod_lt_of_pos _ (by omega), fun k hk => ?_⟩
    obtain ⟨k, rfl⟩ : ∃ m, k = m + 1 := ⟨k - 1, by omega⟩
    simp only [spec_l1Rd_pick.j0, hw, Bool.false_eq_true, if_false]
    rw [if_pos hlt, if_pos hp0, if_neg (by omega), w64 (by omega) (by omega), tmod_pos (by omega)]
  · have hl0 : 0 < (b.length : Int) := by omega
    have h7 : wrap64 (wrap64 (p * 7) + 3) = p * 7 + 3 := by rw [w64 (x := p * 7) (by omega) (by omega), w64 (by omega) (by omega)]
    have hA := rd_range hb (p % (b.length : Int))
    have hB := rd_range hb ((p * 7 + 3) % (b.length : Int))
    have hq : 0 ≤ p / (b.length : Int) := Int.ediv_nonneg hp0 (by omega)
    have hq2 : p / (b.length : Int) ≤ p := Int.ediv_le_self _ hp0
    generalize hAe : rd b (p % (b.length : Int)) = A at hA
    generalize hBe : rd b ((p * 7 + 3) % (b.length : Int)) = B at hB
    generalize hQe : p / (b.length : Int) = Q at hq hq2
    obtain ⟨m, hm, hm2⟩ := bits_xor64 (x := A * 131 + B * 1117 + p * 29 + Q * 53) (y := (A * 131 + B * 1117 + p * 29 + Q * 53) / 64) (by omega) (by omega) (by omega) (by omega)
    refine ⟨(m : Int) % n, Int.emod_nonneg _ (by omega), Int.emod_lt_of_pos _ (by omega), fun k hk => ?_⟩
    obtain ⟨k, rfl⟩ : ∃ m, k = m + 1 := ⟨k - 1, by omega⟩
    simp only [spec_l1Rd_pick.j0, hw, h7, Bool.false_eq_true, if_false]
    rw [if_neg hlt, if_neg (by omega), tmod_pos hp0, tmod_pos (x := p * 7 + 3) (by omega), tdiv_pos (x := p) hp0, hAe, hBe, hQe]
    rw [if_pos (Int.emod_nonneg _ (by omega)), if_pos (Int.emod_lt_of_pos _ (by omega)), if_pos (Int.emod_nonneg _ (by omega)), if_pos (Int.emod_lt_of_pos _ (by omega)), if_neg (by omega)]
    rw [w64 (x := A) (by omega) (by omega), w64 (x := B) (by omega) (by omega), w64 (x := A * 131) (by omega) (by omega), w64 (x := B * 1117) (by omega) (by omega), w64 (x := A * 131 + B * 1117) (by omega) (by omega),
      w64 (x := p * 29) (by omega) (by omega), w64 (x := A * 131 + B * 1117 + p * 29) (by omega) (by omega), w64 (x := Q) (by omega) (by omega), w64 (x := Q * 53) (by omega) (by omega), w64 (x := A * 131 + B * 1117 + p * 29 + Q * 53) (by omega) (by omega),
      tdiv_pos (by omega), w64 (x := (A * 131 + B * 1117 + p * 29 + Q * 53) / 64) (by omega) (by omega), hm, tmod_pos (by omega)]
/-- A number from 0 to n - 1, or 0 where n is below 1. -/
theorem pick_f {b : List Int} (hb : Buf b) {p : Int} (hp0 : 0 ≤ p) (hp1 : p ≤ 1000000) (n : Int) :
    ∃ v, 0 ≤ v ∧ (1 ≤ n → v < n) ∧ (n < 1 → v = 0) ∧ ∀ k, 1 ≤ k → spec_l1Rd_pick.f k b p n = some (v, p + 1) := by
  have hw : wrap64 (p + 1) = p + 1 := w64 (by omega) (by omega)
  by_cases hn : n < 1
  · refine ⟨0, by omega, fun h => by omega, fun _ => rfl, fun k hk => ?_⟩
    obtain ⟨k, rfl⟩ : ∃ m, k = m + 1 := ⟨k - 1, by omega⟩
    unfold spec_l1Rd_pick.f
    rw [if_pos hn, hw]
    simp [spec_l1Rd_pick.j0]
  · by_cases he : (b.length : Int) = 0
    · refine ⟨0, by omega, fun h => by omega, fun _ => rfl, fun k hk => ?_⟩
      obtain ⟨k, rfl⟩ : ∃ m, k = m + 1 := ⟨k - 1, by omega⟩
      unfold spec_l1Rd_pick.f
      rw [if_neg hn, hw, he]
      simp [spec_l1Rd_pick.j0]
    · obtain ⟨v, h0, h1, h⟩ := pick_j hb he hp0 hp1 (n := n) (by omega)
      refine ⟨v, h0, fun _ => h1, fun h => by omega, fun k hk => ?_⟩
      unfold spec_l1Rd_pick.f
      rw [if_neg hn, hw, show ((b.length : Int) == 0) = false from by simpa using he]
      exact h k hk
theorem pick_lt {b : List Int} (hb : Buf b) {p : Int} (hp0 : 0 ≤ p) (hp1 : p ≤ 1000000) (n : Int) (hn : 1 ≤ n) :
    ∃ v, 0 ≤ v ∧ v < n ∧ ∀ k, 1 ≤ k → spec_l1Rd_pick.f k b p n = some (v, p + 1) := by
  obtain ⟨v, h0, h1, _, h⟩ := pick_f hb hp0 hp1 n
  exact ⟨v, h0, h1 hn, h⟩
/-- One of a list. -/
theorem one_f {b : List Int} (hb : Buf b) {p : Int} (hp0 : 0 ≤ p) (hp1 : p ≤ 1000000) (l : List Int) (hl : l ≠ []) :
    ∃ v, v ∈ l ∧ ∀ k, 1 ≤ k → spec_l1Rd_one.f k b p l = some (v, p + 1) := by
  have hlen : 0 < l.length := List.length_pos_iff.2 hl
  obtain ⟨v, h0, h1, h⟩ := pick_lt hb hp0 hp1 (l.length : Int) (by omega)
  refine ⟨rd l v, ?_, fun k hk => ?_⟩
  · unfold rd
    rw [List.getD_eq_getElem?_getD, List.getElem?_eq_getElem (show v.toNat < l.length by omega)]
    exact List.getElem_mem _
  · unfold spec_l1Rd_one.f
    rw [h k hk]
    simp only [Option.bind_some]
    rw [if_pos h0, if_pos h1]
theorem open_f {l : List Int} (h : ∀ x ∈ l, (Lit.int .u8 x).wf = true) : ∃ b, Buf b ∧ spec_l1Open.f l = some (b, 0) := by
  have hr : ∀ x ∈ l, 0 ≤ x ∧ x ≤ 255 := fun x hx => wf_u8 (h x hx)
  unfold spec_l1Open.f
  by_cases hl : (l.length : Int) > 2000
  · refine ⟨l.take 2000, ⟨fun x hx => hr x (List.mem_of_mem_take hx), by rw [List.length_take]; omega⟩, ?_⟩
    rw [if_pos hl, if_pos (by omega)]
  · exact ⟨l, ⟨hr, by omega⟩, by rw [if_neg hl]⟩
end Go.Proofs.Ytcbehpemhkfieaa.My

namespace Go.Proofs.Ytcbehpemhkfieaa.My
open Go Go.RowKit Go.Proofs.YtcbehpemhkfieaaW.PrintWords Go.Proofs.YtcbehpemhkfieaaW.PrintLast Go.Proofs.YtcbehpemhkfieaaW.PrintMore Go.Proofs.Ytcbehpemhkfieaa.PAll

theorem few_range : ∀ v ∈ ([0, 1, 1, 2, 3, 5, 8, 13, 100, 5000, 100000] : List Int), 0 ≤ v ∧ v ≤ 100000 := by decide
theorem counts_l (d : Nat) : ∀ (b : List Int) (p n : Int) (acc : List Int), Buf b → n = d → d ≤ 100 → 0 ≤ p → p + d ≤ 1000000 → acc.length + d ≤ 1000 → (∀ x ∈ acc, 0 ≤ x ∧ x ≤ 100000) →
    ∃ (c : List Int) (q : Int), c.length = acc.length + d ∧ (∀ x ∈ c, 0 ≤ x ∧ x ≤ 100000) ∧ p ≤ q ∧ q ≤ p + d ∧ ∀ k, d + 1 < k → spec_l11Counts.l0 k acc n b p = some (c, q) := by
  induction d with
  | zero =>
    intro b p n acc hb hn _ hp _ _ hr
    refine ⟨acc, p, by omega, hr, by omega, by omega, fun k hk => ?_⟩
    obtain ⟨k, rfl⟩ : ∃ m, k = m + 1 := ⟨k - 1, by omega⟩
    rw [spec_l11Counts.l0, if_neg (by omega)]
  | succ d ih =>
    intro b p n acc hb hn hd hp hpd hacc hr
    obtain ⟨v, hv, h1⟩ := one_f hb hp (by omega) ([0, 1, 1, 2, 3, 5, 8, 13, 100, 5000, 100000] : List Int) (by simp)
    have hv2 := few_range v hv
    obtain ⟨c, q, h2, h3, h4, h5, h6⟩ := ih b (p + 1) (n - 1) (acc ++ [v]) hb (by omega) (by omega) (by omega) (by omega) (by simp; omega) (fun x hx => by
      rcases List.mem_append.1 hx with e | e
      · exact hr x e
      · rw [List.mem_singleton.1 e]; exact hv2)
    refine ⟨c, q, by simp at h2; omega, h3, by omega, by omega, fun k hk => ?_⟩
    obtain ⟨k, rfl⟩ : ∃ m, k = m + 1 := ⟨k - 1, by omega⟩
    rw [spec_l11Counts.l0, if_pos (by omega), h1 k (by omega), Option.bind_some, if_pos (by omega), w64 (by omega) (by omega)]
    exact h6 k (by omega)
theorem counts_f {b : List Int} (hb : Buf b) {p : Int} (hp0 : 0 ≤ p) (hp1 : p ≤ 900000) :
    ∃ (c : List Int) (q : Int), 1 ≤ c.length ∧ c.length ≤ 12 ∧ (∀ x ∈ c, 0 ≤ x ∧ x ≤ 100000) ∧ p ≤ q ∧ q ≤ p + 20 ∧ ∀ k, 30 ≤ k → spec_l11Counts.f k b p = some (c, q) := by
  obtain ⟨v, h0, h1, hv⟩ := pick_lt hb hp0 (by omega) 12 (by omega)
  obtain ⟨c, q, h2, h3, h4, h5, h6⟩ := counts_l (1 + v).toNat b (p + 1) (1 + v) [] hb (by omega) (by omega) (by omega) (by omega) (by simp; omega) (by simp)
  refine ⟨c, q, by simp at h2; omega, by simp at h2; omega, h3, by omega, by omega, fun k hk => ?_⟩
  unfold spec_l11Counts.f
  rw [hv k (by omega), Option.bind_some, w64 (by omega) (by omega)]
  exact h6 k (by omega)
end Go.Proofs.Ytcbehpemhkfieaa.My
