/- How deep trees come to lie: the heavier no deeper, and Kraft's sum. Plain. -/
import Derived.Test.YtdenepapeoiiiaaPAllx0
import Derived.Test.YtdenepapeoiiiaaMB
namespace Go.Proofs.Ytdenepapeoiiiaa.My
open Go Go.RowKit Go.Proofs.YtdenepapeoiiiaaW.PrintWords Go.Proofs.YtdenepapeoiiiaaW.PrintLast Go.Proofs.YtdenepapeoiiiaaW.PrintMore Go.Proofs.Ytdenepapeoiiiaa.PAll

def dp (l : List S48) (s : Int) : Nat := dep l.length l s
theorem dp_one {l : List S48} (h : l.length ≤ 1) (s : Int) : dp l s = 0 := by
  have := dep_le l.length l s
  unfold dp
  omega
theorem dp_step {l : List S48} (h : 2 ≤ l.length) (s : Int) : dp l s = dp (stepL l) s + if s ∈ both l then 1 else 0 := by
  have h2 := step_length h
  unfold dp
  rw [h2]
  obtain ⟨m, hm⟩ : ∃ m, l.length = m + 1 := ⟨l.length - 1, by omega⟩
  rw [hm, dep, if_pos (by omega), Nat.add_sub_cancel]
/-- What a round does to depths. -/
structure Round (n : Nat) (l : List S48) (a b : S48) (r : List S48) : Prop where
  p : l.Perm (a :: b :: r)
  la : ∀ x ∈ r, b.f0 ≤ x.f0
  ab : a.f0 ≤ b.f0
  st : stepL l = r ++ [mk2 a b]
  ok : Ok n (r ++ [mk2 a b])
  pa : 0 < a.f0
  pb : 0 < b.f0
  pr : ∀ x ∈ r, 0 < x.f0
  ne : a ≠ b
  nea : ∀ x ∈ r, a ≠ x
  neb : ∀ x ∈ r, b ≠ x
  nec : ∀ x ∈ r, mk2 a b ≠ x
  dr : ∀ x ∈ r, dp l x.f1 = dp (r ++ [mk2 a b]) x.f1
  da : dp l a.f1 = dp (r ++ [mk2 a b]) (mk2 a b).f1 + 1
  db : dp l b.f1 = dp (r ++ [mk2 a b]) (mk2 a b).f1 + 1
theorem syms_mem {l : List S48} {t : S48} {s : Int} (ht : t ∈ l) (hs : s ∈ t.f2) : s ∈ syms l := List.mem_flatMap.2 ⟨t, ht, hs⟩
theorem apart_abr {n : Nat} {a b : S48} {r : List S48} (h : Ok n (a :: b :: r)) : (∀ s ∈ a.f2, s ∉ b.f2) ∧ ∀ x ∈ r, ∀ s ∈ x.f2, s ∉ a.f2 ∧ s ∉ b.f2 := by
  have hn := h.nod
  have e : syms (a :: b :: r) = a.f2 ++ (b.f2 ++ syms r) := by simp [syms]
  rw [e] at hn
  obtain ⟨_, h2, h3⟩ := List.nodup_append.1 hn
  obtain ⟨_, _, h4⟩ := List.nodup_append.1 h2
  refine ⟨fun s hs hb => h3 s hs s (List.mem_append.2 (.inl hb)) rfl, fun x hx s hs => ⟨fun ha => ?_, fun hb => ?_⟩⟩
  · exact h3 s ha s (List.mem_append.2 (.inr (syms_mem hx hs))) rfl
  · exact h4 s hb s (syms_mem hx hs) rfl
theorem dp_same {n : Nat} : ∀ (m : Nat) (l : List S48), l.length = m → Ok n l → ∀ t ∈ l, ∀ s ∈ t.f2, dp l s = dp l t.f1
  | 0, l, hm, _, t, ht, s, _ => by rw [dp_one (by omega), dp_one (by omega)]
  | m + 1, l, hm, h, t, ht, s, hs => by
    by_cases h2 : 2 ≤ l.length
    · obtain ⟨a, b, r, p, _, _, e, eb, _⟩ := step_perm h2
      have hp := h.perm p
      have ih := dp_same m (stepL l) (by rw [step_length h2]; omega) (h.step h2)
      rw [e] at ih
      obtain ⟨_, hr⟩ := apart_abr hp
      rw [dp_step h2, dp_step h2, e, eb]
      have hc := ih (mk2 a b) (by simp)
      have up : ∀ z, z ∈ a.f2 ++ b.f2 → dp (r ++ [mk2 a b]) z = dp (r ++ [mk2 a b]) (mk2 a b).f1 := fun z hz => hc z hz
      have hf := (h.low t ht).1
      rcases List.mem_cons.1 (p.mem_iff.1 ht) with rfl | ht2
      · have z1 : s ∈ t.f2 ++ b.f2 := List.mem_append.2 (.inl hs)
        have z2 : t.f1 ∈ t.f2 ++ b.f2 := List.mem_append.2 (.inl hf)
        rw [if_pos z1, if_pos z2, up s z1, up _ z2]
      rcases List.mem_cons.1 ht2 with rfl | ht3
      · have z1 : s ∈ a.f2 ++ t.f2 := List.mem_append.2 (.inr hs)
        have z2 : t.f1 ∈ a.f2 ++ t.f2 := List.mem_append.2 (.inr hf)
        rw [if_pos z1, if_pos z2, up s z1, up _ z2]
      · have n1 := hr t ht3 s hs
        have n2 := hr t ht3 _ hf
        rw [if_neg (by simp [n1.1, n1.2]), if_neg (by simp [n2.1, n2.2]), ih t (List.mem_append.2 (.inl ht3)) s hs]
    · rw [dp_one (by omega), dp_one (by omega)]
theorem round {n : Nat} {l : List S48} (h : Ok n l) (h2 : 2 ≤ l.length) : ∃ a b r, Round n l a b r := by
  obtain ⟨a, b, r, p, ha, hb, e, eb, _⟩ := step_perm h2
  have hp := h.perm p
  obtain ⟨dab, hr⟩ := apart_abr hp
  have hok := hp.merge
  have fa := (hp.low a (by simp)).1
  have fb := (hp.low b (by simp)).1
  have sm := dp_same _ _ rfl hok (mk2 a b) (by simp)
  have up : ∀ z, z ∈ a.f2 ++ b.f2 → dp (r ++ [mk2 a b]) z = dp (r ++ [mk2 a b]) (mk2 a b).f1 := fun z hz => sm z hz
  refine ⟨a, b, r, p, hb, ha b (p.mem_iff.2 (by simp)), e, hok, hp.pos a (by simp), hp.pos b (by simp), fun x hx => hp.pos x (by simp [hx]), fun e => ?_, fun x hx e => ?_, fun x hx e => ?_, fun x hx e2 => ?_, fun x hx => ?_, ?_, ?_⟩
  · subst e; exact dab _ fa fa
  · subst e; exact (hr a hx _ fa).1 fa
  · subst e; exact (hr b hx _ fb).2 fb
  · have fx := (hp.low x (by simp [hx])).1
    have := hr x hx _ fx
    rw [← e2] at this fx
    rcases List.mem_append.1 (show (mk2 a b).f1 ∈ a.f2 ++ b.f2 from fx) with z | z
    · exact this.1 z
    · exact this.2 z
  · have fx := (hp.low x (by simp [hx])).1
    have := hr x hx _ fx
    rw [dp_step h2, e, eb, if_neg (by simp [this.1, this.2]), Nat.add_zero]
  · have z : a.f1 ∈ a.f2 ++ b.f2 := List.mem_append.2 (.inl fa)
    rw [dp_step h2, e, eb, if_pos z, up _ z]
  · have z : b.f1 ∈ a.f2 ++ b.f2 := List.mem_append.2 (.inr fb)
    rw [dp_step h2, e, eb, if_pos z, up _ z]
theorem Round.cases {n : Nat} {l : List S48} {a b : S48} {r : List S48} (R : Round n l a b r) {t : S48} (h : t ∈ l) : t = a ∨ t = b ∨ t ∈ r := by
  have := R.p.mem_iff.1 h
  simpa using this
theorem Round.len {n : Nat} {l : List S48} {a b : S48} {r : List S48} (R : Round n l a b r) : l.length = r.length + 2 := by
  have := R.p.length_eq
  simpa using this

/-! ### The heavier lies no deeper -/
structure Heavy (l : List S48) : Prop where
  m1 : ∀ t ∈ l, ∀ u ∈ l, u.f0 < t.f0 → dp l t.f1 ≤ dp l u.f1
  m3 : ∀ t ∈ l, ∀ u ∈ l, (∀ x ∈ l, x ≠ t → u.f0 < t.f0 + x.f0) → dp l t.f1 ≤ dp l u.f1 + 1
  m4 : ∀ t ∈ l, ∀ u ∈ l, (∀ x ∈ l, x ≠ t → u.f0 ≤ t.f0 + x.f0) → dp l t.f1 ≤ dp l u.f1 + 2
theorem heavy {n : Nat} : ∀ (m : Nat) (l : List S48), l.length = m → Ok n l → Heavy l
  | 0, l, hm, _ => by
    have e : ∀ s, dp l s = 0 := fun s => dp_one (by omega) s
    exact ⟨fun t _ u _ _ => by rw [e, e]; omega, fun t _ u _ _ => by rw [e, e]; omega, fun t _ u _ _ => by rw [e, e]; omega⟩
  | m + 1, l, hm, h => by
    by_cases h2 : 2 ≤ l.length
    · obtain ⟨a, b, r, R⟩ := round h h2
      have hl := R.len
      obtain ⟨i1, i3, i4⟩ := heavy m (r ++ [mk2 a b]) (by simp; omega) R.ok
      have cm : mk2 a b ∈ r ++ [mk2 a b] := by simp
      have rm : ∀ {x}, x ∈ r → x ∈ r ++ [mk2 a b] := fun hx => by simp [hx]
      have cw : (mk2 a b).f0 = a.f0 + b.f0 := rfl
      have ta : a ∈ l := R.p.mem_iff.2 (by simp)
      have tb : b ∈ l := R.p.mem_iff.2 (by simp)
      have tr : ∀ {x}, x ∈ r → x ∈ l := fun hx => R.p.mem_iff.2 (by simp [hx])
      have da := R.da
      have db := R.db
      have pa := R.pa
      have pb := R.pb
      have ab := R.ab
      have inl : ∀ {x : S48} {Q : Prop}, x ∈ r ++ [mk2 a b] → (x ∈ r → Q) → (x = mk2 a b → Q) → Q := fun hx f g => (List.mem_append.1 hx).elim f (fun z => g (List.mem_singleton.1 z))
      -- one of r, against the new one
      have c4 : ∀ t ∈ r, dp (r ++ [mk2 a b]) t.f1 ≤ dp (r ++ [mk2 a b]) (mk2 a b).f1 + 2 := fun t ht => i4 t (rm ht) _ cm (fun x hx hne => inl hx (fun hr => by have := R.la x hr; have := R.la t ht; omega) (fun e => by rw [e]; have := R.pr t ht; omega))
      have c3 : ∀ t ∈ r, ∀ u : S48, u = a ∨ u = b → u.f0 < t.f0 → dp (r ++ [mk2 a b]) t.f1 ≤ dp (r ++ [mk2 a b]) (mk2 a b).f1 + 1 := fun t ht u hu hlt => i3 t (rm ht) _ cm (fun x hx hne => inl hx (fun hr => by
        have := R.la x hr
        have := R.la t ht
        rcases hu with rfl | rfl <;> omega) (fun e => by rw [e]; have := R.pr t ht; omega))
      refine ⟨fun t ht u hu hlt => ?_, fun t ht u hu hx => ?_, fun t ht u hu hx => ?_⟩
      · rcases R.cases ht with rfl | rfl | ht <;> rcases R.cases hu with rfl | rfl | hu
        · omega
        · omega
        · have := R.la u hu; omega
        · omega
        · omega
        · have := R.la u hu; omega
        · rw [da, R.dr t ht]; exact c3 t ht _ (.inl rfl) hlt
        · rw [db, R.dr t ht]; exact c3 t ht _ (.inr rfl) hlt
        · rw [R.dr t ht, R.dr u hu]; exact i1 t (rm ht) u (rm hu) hlt
      · rcases R.cases ht with rfl | rfl | ht <;> rcases R.cases hu with rfl | rfl | hu
        · omega
        · omega
        · rw [da, R.dr u hu]
          have := hx b tb (fun e => R.ne e.symm)
          have := i1 _ cm u (rm hu) (by omega)
          omega
        · omega
        · omega
        · rw [db, R.dr u hu]
          have := hx a ta R.ne
          have := i1 _ cm u (rm hu) (by omega)
          omega
        · rw [da, R.dr t ht]; have := c4 t ht; omega
        · rw [db, R.dr t ht]; have := c4 t ht; omega
        · rw [R.dr t ht, R.dr u hu]
          refine i3 t (rm ht) u (rm hu) (fun x hx2 hne => inl hx2 (fun hr => hx x (tr hr) hne) (fun e => ?_))
          have := hx a ta (R.nea t ht)
          rw [e]; omega
      · rcases R.cases ht with rfl | rfl | ht <;> rcases R.cases hu with rfl | rfl | hu
        · omega
        · omega
        · rw [da, R.dr u hu]
          have := hx b tb (fun e => R.ne e.symm)
          have := i3 _ cm u (rm hu) (fun x hx2 hne => by have := R.ok.pos x hx2; omega)
          omega
        · omega
        · omega
        · rw [db, R.dr u hu]
          have := hx a ta R.ne
          have := i3 _ cm u (rm hu) (fun x hx2 hne => by have := R.ok.pos x hx2; omega)
          omega
        · rw [da, R.dr t ht]; have := c4 t ht; omega
        · rw [db, R.dr t ht]; have := c4 t ht; omega
        · rw [R.dr t ht, R.dr u hu]
          refine i4 t (rm ht) u (rm hu) (fun x hx2 hne => inl hx2 (fun hr => hx x (tr hr) hne) (fun e => ?_))
          have := hx a ta (R.nea t ht)
          rw [e]; omega
    · have e : ∀ s, dp l s = 0 := fun s => dp_one (by omega) s
      exact ⟨fun t _ u _ _ => by rw [e, e]; omega, fun t _ u _ _ => by rw [e, e]; omega, fun t _ u _ _ => by rw [e, e]; omega⟩

/-! ### Kraft's sum -/
def ksum (N : Nat) (f : S48 → Nat) : List S48 → Nat
  | [] => 0
  | t :: l => 2 ^ (N - f t) + ksum N f l
theorem ksum_perm {N : Nat} {f : S48 → Nat} {l m : List S48} (p : l.Perm m) : ksum N f l = ksum N f m := by
  induction p with
  | nil => rfl
  | cons x _ ih => simp only [ksum]; omega
  | swap x y l => simp only [ksum]; omega
  | trans _ _ h1 h2 => omega
theorem ksum_append (N : Nat) (f : S48 → Nat) : ∀ l m, ksum N f (l ++ m) = ksum N f l + ksum N f m
  | [], m => by simp [ksum]
  | t :: l, m => by rw [List.cons_append, ksum, ksum, ksum_append N f l m]; omega
theorem ksum_congr {N : Nat} {f g : S48 → Nat} : ∀ {l : List S48}, (∀ t ∈ l, f t = g t) → ksum N f l = ksum N g l
  | [], _ => rfl
  | t :: l, h => by rw [ksum, ksum, h t (by simp), ksum_congr (fun x hx => h x (by simp [hx]))]
theorem kraft {n : Nat} : ∀ (m : Nat) (l : List S48), l.length = m → l ≠ [] → Ok n l → ∀ N, (∀ t ∈ l, dp l t.f1 ≤ N) → ksum N (fun t => dp l t.f1) l = 2 ^ N
  | 0, l, hm, hne, _, _, _ => absurd (List.eq_nil_of_length_eq_zero hm) hne
  | m + 1, l, hm, hne, h, N, hN => by
    by_cases h2 : 2 ≤ l.length
    · obtain ⟨a, b, r, R⟩ := round h h2
      have hl := R.len
      have ha := hN a (R.p.mem_iff.2 (by simp))
      rw [R.da] at ha
      have ih := kraft m (r ++ [mk2 a b]) (by simp; omega) (by simp) R.ok N (fun t ht => by
        rcases List.mem_append.1 ht with e | e
        · rw [← R.dr t e]; exact hN t (R.p.mem_iff.2 (by simp [e]))
        · rw [List.mem_singleton.1 e]; omega)
      rw [ksum_append] at ih
      rw [ksum_perm R.p]
      simp only [ksum] at ih ⊢
      rw [R.da, R.db, ksum_congr (l := r) (fun t ht => R.dr t ht)]
      have e : 2 ^ (N - dp (r ++ [mk2 a b]) (mk2 a b).f1) = 2 * 2 ^ (N - (dp (r ++ [mk2 a b]) (mk2 a b).f1 + 1)) := by
        rw [show N - dp (r ++ [mk2 a b]) (mk2 a b).f1 = (N - (dp (r ++ [mk2 a b]) (mk2 a b).f1 + 1)) + 1 by omega, Nat.pow_succ]
        omega
      omega
    · match l, hne with
      | [t], _ => simp [ksum, dp_one (l := [t]) (by simp)]
      | t :: u :: l, _ => simp at h2
theorem deep {n : Nat} : ∀ (m : Nat) (l : List S48), l.length = m → 2 ≤ l.length → Ok n l → ∀ t ∈ l, 1 ≤ dp l t.f1
  | 0, l, hm, h2, _, _, _ => by omega
  | m + 1, l, hm, h2, h, t, ht => by
    obtain ⟨a, b, r, R⟩ := round h h2
    have hl := R.len
    rcases R.cases ht with rfl | rfl | ht
    · rw [R.da]; omega
    · rw [R.db]; omega
    · rw [R.dr t ht]
      have := List.length_pos_of_mem ht
      exact deep m _ (by simp; omega) (by simp; omega) R.ok t (by simp [ht])
theorem dp_none {n : Nat} : ∀ (m : Nat) (l : List S48), l.length = m → Ok n l → ∀ s, s ∉ syms l → dp l s = 0
  | 0, l, hm, _, s, _ => dp_one (by omega) s
  | m + 1, l, hm, h, s, hs => by
    by_cases h2 : 2 ≤ l.length
    · obtain ⟨a, b, r, p, _, _, e, eb, _⟩ := step_perm h2
      have hs2 : s ∉ syms (a :: b :: r) := fun z => hs ((syms_perm p).mem_iff.2 z)
      have hs3 : s ∉ a.f2 ++ b.f2 := fun z => hs2 (by
        rcases List.mem_append.1 z with z | z
        · exact syms_mem (t := a) (by simp) z
        · exact syms_mem (t := b) (by simp) z)
      have hs4 : s ∉ syms (stepL l) := fun z => hs2 (by rw [e] at z; exact (syms_merge a b r).mem_iff.1 z)
      rw [dp_step h2, dp_none m _ (by rw [step_length h2]; omega) (h.step h2) s hs4, eb, if_neg hs3]
    · exact dp_one (by omega) s
end Go.Proofs.Ytdenepapeoiiiaa.My
