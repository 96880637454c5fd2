/- What lengths cost: no more than codes of one length. Plain. -/
import Derived.Test.YtdenepapeoiiiaaPAllx0
import Derived.Test.YtdenepapeoiiiaaDeep1
namespace Go.Proofs.Ytdenepapeoiiiaa.My
open Go Go.RowKit Go.Proofs.YtdenepapeoiiiaaW.PrintWords Go.Proofs.YtdenepapeoiiiaaW.PrintLast Go.Proofs.YtdenepapeoiiiaaW.PrintMore Go.Proofs.Ytdenepapeoiiiaa.PAll

def cost (f : S48 → Nat) : List S48 → Int
  | [] => 0
  | t :: l => t.f0 * (f t : Int) + cost f l
theorem cost_perm {f : S48 → Nat} {l m : List S48} (p : l.Perm m) : cost f l = cost f m := by
  induction p with
  | nil => rfl
  | cons x _ ih => simp only [cost]; omega
  | swap x y l => simp only [cost]; omega
  | trans _ _ h1 h2 => omega
theorem cost_append (f : S48 → Nat) : ∀ l m, cost f (l ++ m) = cost f l + cost f m
  | [], m => by simp [cost]
  | t :: l, m => by rw [List.cons_append, cost, cost, cost_append f l m]; omega
theorem cost_congr {f g : S48 → Nat} : ∀ {l : List S48}, (∀ t ∈ l, f t = g t) → cost f l = cost g l
  | [], _ => rfl
  | t :: l, h => by rw [cost, cost, h t (by simp), cost_congr (fun x hx => h x (by simp [hx]))]
theorem cost_zero : ∀ l : List S48, cost (fun _ => 0) l = 0
  | [] => rfl
  | t :: l => by simp [cost, cost_zero l]
theorem take_least {A : S48} {r S R : List S48} {k : Nat} (p : (S ++ R).Perm (A :: r)) (hA : ∀ x ∈ A :: r, A.f0 ≤ x.f0) (hS : S.length = k + 1) :
    ∃ S' R' : List S48, (S' ++ R').Perm r ∧ S'.length = k ∧ A.f0 + wsum S' ≤ wsum S := by
  have hm : A ∈ S ++ R := p.mem_iff.2 (by simp)
  rcases List.mem_append.1 hm with h | h
  · obtain ⟨s, t, rfl⟩ := List.append_of_mem h
    refine ⟨s ++ t, R, ?_, by simp at hS ⊢; omega, ?_⟩
    · have q : (A :: (s ++ t ++ R)).Perm (s ++ A :: t ++ R) := by
        rw [List.append_assoc, List.append_assoc, List.cons_append]
        exact List.perm_middle.symm
      exact (q.trans p).cons_inv
    · rw [wsum_append, wsum_append, wsum]; omega
  · obtain ⟨s, t, rfl⟩ := List.append_of_mem h
    match S, hS with
    | x :: S', hS =>
      refine ⟨S', x :: (s ++ t), ?_, by simpa using hS, ?_⟩
      · have q : (A :: (S' ++ x :: (s ++ t))).Perm (x :: S' ++ (s ++ A :: t)) := by
          have q1 : (x :: S' ++ (s ++ A :: t)).Perm (A :: (x :: S' ++ (s ++ t))) := by
            rw [← List.append_assoc, ← List.append_assoc]
            exact List.perm_middle
          have q2 : (S' ++ x :: (s ++ t)).Perm (x :: S' ++ (s ++ t)) := List.perm_middle
          exact (q2.cons A).trans q1.symm
        exact (q.trans p).cons_inv
      · have := hA x (p.mem_iff.1 (by simp))
        rw [wsum]; omega
theorem cost_round {n : Nat} {l : List S48} {a b : S48} {r : List S48} (R : Round n l a b r) :
    cost (fun t => dp l t.f1) l = cost (fun t => dp (r ++ [mk2 a b]) t.f1) (r ++ [mk2 a b]) + a.f0 + b.f0 := by
  rw [cost_perm R.p, cost_append]
  simp only [cost]
  rw [R.da, R.db, cost_congr (l := r) (fun t ht => R.dr t ht)]
  generalize dp (r ++ [mk2 a b]) (mk2 a b).f1 = d
  have e : (mk2 a b).f0 = a.f0 + b.f0 := rfl
  rw [e, Int.natCast_add, Int.mul_add, Int.mul_add, Int.add_mul]
  generalize a.f0 * (d : Int) = x
  generalize b.f0 * (d : Int) = y
  omega
theorem cost_flat {n : Nat} : ∀ (m : Nat) (l : List S48), l.length = m → Ok n l → ∀ (f j : Nat) (S R : List S48), l.length = 2 ^ f + j → j ≤ 2 ^ f → l.Perm (S ++ R) → S.length = 2 * j →
    cost (fun t => dp l t.f1) l ≤ (f : Int) * wsum l + wsum S := by
  intro m
  induction m with
  | zero =>
    intro l hm h f j S R hl hj p hS
    have : 0 < 2 ^ f := Nat.pow_pos (by decide)
    omega
  | succ m ih =>
    intro l hm h
    -- the case of some that lie one deeper
    have key : ∀ (f j : Nat) (S R : List S48), l.length = 2 ^ f + (j + 1) → j + 1 ≤ 2 ^ f → l.Perm (S ++ R) → S.length = 2 * (j + 1) → cost (fun t => dp l t.f1) l ≤ (f : Int) * wsum l + wsum S := by
      intro f j S R hl hj p hS
      have h0 : 0 < 2 ^ f := Nat.pow_pos (by decide)
      obtain ⟨a, b, r, Rd⟩ := round h (by omega)
      have hlen := Rd.len
      have hA : ∀ x ∈ a :: b :: r, a.f0 ≤ x.f0 := fun x hx => by
        have := Rd.ab
        rcases List.mem_cons.1 hx with rfl | hx
        · omega
        rcases List.mem_cons.1 hx with rfl | hx
        · omega
        · have := Rd.la x hx; omega
      have hB : ∀ x ∈ b :: r, b.f0 ≤ x.f0 := fun x hx => by
        rcases List.mem_cons.1 hx with rfl | hx
        · omega
        · exact Rd.la x hx
      obtain ⟨S1, R1, p1, l1, w1⟩ := take_least (k := 2 * j + 1) (p.symm.trans Rd.p) hA (by omega)
      obtain ⟨S2, R2, p2, l2, w2⟩ := take_least (k := 2 * j) p1 hB l1
      have := ih (r ++ [mk2 a b]) (by simp; omega) Rd.ok f j S2 (R2 ++ [mk2 a b]) (by simp; omega) (by omega) (by rw [← List.append_assoc]; exact (p2.append_right _).symm) l2
      rw [cost_round Rd, wsum_perm Rd.p]
      have e : wsum (r ++ [mk2 a b]) = wsum (a :: b :: r) := by
        rw [wsum_append]
        simp only [wsum]
        show wsum r + (a.f0 + b.f0 + 0) = _
        omega
      rw [e] at this
      generalize (f : Int) * wsum (a :: b :: r) = z at *
      omega
    intro f j S R hl hj p hS
    match j, hS, hl, hj with
    | j + 1, hS, hl, hj => exact key f j S R hl hj p hS
    | 0, hS, hl, _ =>
      have hS0 : S = [] := List.eq_nil_of_length_eq_zero (by omega)
      subst hS0
      match f, hl with
      | 0, hl =>
        have e : ∀ t, dp l t = 0 := fun t => dp_one (by simp at hl; omega) t
        have : cost (fun t => dp l t.f1) l = 0 := by
          rw [cost_congr (g := fun _ => 0) (fun t _ => e _), cost_zero]
        rw [this]
        simp [wsum]
      | f + 1, hl =>
        have h0 : 0 < 2 ^ f := Nat.pow_pos (by decide)
        rw [Nat.pow_succ] at hl
        have := key f (2 ^ f - 1) l [] (by omega) (by omega) (by simp) (by omega)
        rw [Int.natCast_add, Int.add_mul]
        simp only [wsum]
        generalize (f : Int) * wsum l = z at *
        omega
/-- No more than codes of one length that are enough. -/
theorem cost_one {n : Nat} {l : List S48} (h : Ok n l) {f : Nat} (hf : l.length ≤ 2 ^ f) : cost (fun t => dp l t.f1) l ≤ (f : Int) * wsum l := by
  have hp := wsum_nonneg l h.pos
  have mono : ∀ g : Nat, g ≤ f → ∀ x : Int, x ≤ (g : Int) * wsum l → x ≤ (f : Int) * wsum l := fun g hg x hx => by
    have : (g : Int) * wsum l ≤ (f : Int) * wsum l := Int.mul_le_mul_of_nonneg_right (by omega) hp
    omega
  induction f with
  | zero =>
    have e : ∀ t, dp l t = 0 := fun t => dp_one (by simp at hf; omega) t
    have : cost (fun t => dp l t.f1) l = 0 := by
      rw [cost_congr (g := fun _ => 0) (fun t _ => e _), cost_zero]
    rw [this]
    simp
  | succ f ih =>
    by_cases hle : l.length ≤ 2 ^ f
    · exact mono f (by omega) _ (ih hle (fun g hg x hx => by
        have : (g : Int) * wsum l ≤ (f : Int) * wsum l := Int.mul_le_mul_of_nonneg_right (by omega) hp
        omega))
    · rw [Nat.pow_succ] at hf
      have := cost_flat l.length l rfl h f (l.length - 2 ^ f) (l.take (2 * (l.length - 2 ^ f))) (l.drop (2 * (l.length - 2 ^ f))) (by omega) (by omega) (by rw [List.take_append_drop]) (by rw [List.length_take]; omega)
      have hw : wsum (l.take (2 * (l.length - 2 ^ f))) ≤ wsum l := by
        have e : wsum l = wsum (l.take (2 * (l.length - 2 ^ f))) + wsum (l.drop (2 * (l.length - 2 ^ f))) := by rw [← wsum_append, List.take_append_drop]
        have := wsum_nonneg (l.drop (2 * (l.length - 2 ^ f))) (fun t ht => h.pos t (List.mem_of_mem_drop ht))
        omega
      rw [Int.natCast_add, Int.add_mul]
      generalize (f : Int) * wsum l = z at *
      omega
end Go.Proofs.Ytdenepapeoiiiaa.My
