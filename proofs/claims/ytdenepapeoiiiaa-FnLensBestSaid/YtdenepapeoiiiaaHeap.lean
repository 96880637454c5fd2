/- The program's heaps, by the reference's trees: the same lengths. -/
import Derived.Test.YtdenepapeoiiiaaPAllx0
import Derived.Test.YtdenepapeoiiiaaPAllx8
import Derived.Test.YtdenepapeoiiiaaPAllx9
import Derived.Test.YtdenepapeoiiiaaFitR
namespace Go.Proofs.Ytdenepapeoiiiaa.My
open Go Go.RowKit Go.Proofs.YtdenepapeoiiiaaW.PrintWords Go.Proofs.YtdenepapeoiiiaaW.PrintLast Go.Proofs.YtdenepapeoiiiaaW.PrintMore Go.Proofs.Ytdenepapeoiiiaa.PAll

theorem rd41 {l : List S41} {i : Nat} (h : i < l.length) : rd_T41 l (i : Int) = l[i] := by simp [rd_T41, List.getElem?_eq_getElem h]
/-- A heap is a tree whose first symbol stands first. -/
structure RT (h : S41) (t : S48) : Prop where
  f0 : h.f0 = t.f0
  ne : 0 < h.f1.length
  f1 : rd h.f1 0 = t.f1
  p : h.f1.Perm t.f2
inductive RL : List S41 → List S48 → Prop
  | nil : RL [] []
  | cons {h t hs ts} : RT h t → RL hs ts → RL (h :: hs) (t :: ts)
theorem RL.length {hs : List S41} {ts : List S48} (r : RL hs ts) : hs.length = ts.length := by
  induction r with
  | nil => rfl
  | cons _ _ ih => simp [ih]
theorem RL.get {hs : List S41} {ts : List S48} (r : RL hs ts) : ∀ (i : Nat) (h1 : i < hs.length) (h2 : i < ts.length), RT hs[i] ts[i] := by
  induction r with
  | nil => intro i h1; simp at h1
  | cons a _ ih =>
    intro i h1 h2
    match i with
    | 0 => exact a
    | i + 1 => exact ih i (by simpa using h1) (by simpa using h2)
theorem RL.append {hs hs' : List S41} {ts ts' : List S48} (r : RL hs ts) (r' : RL hs' ts') : RL (hs ++ hs') (ts ++ ts') := by
  induction r with
  | nil => exact r'
  | cons a _ ih => exact .cons a ih
theorem RL.erase {hs : List S41} {ts : List S48} (r : RL hs ts) : ∀ i : Nat, RL (hs.eraseIdx i) (ts.eraseIdx i) := by
  induction r with
  | nil => intro i; simpa using RL.nil
  | cons a r ih =>
    intro i
    match i with
    | 0 => exact r
    | i + 1 => exact .cons a (ih i)
def ikeys (l : List S41) : List (Int × Int) := l.map (fun h => (h.f0, rd h.f1 0))
theorem RL.keys {hs : List S41} {ts : List S48} (r : RL hs ts) : ikeys hs = keys ts := by
  induction r with
  | nil => rfl
  | cons a _ ih => rw [ikeys, My.keys, List.map_cons, List.map_cons, a.f0, a.f1]; congr 1
theorem ikeys_at {l : List S41} {i : Nat} (h : i < l.length) : kat (ikeys l) i = (l[i].f0, rd l[i].f1 0) := by
  unfold kat ikeys
  rw [List.getD_eq_getElem?_getD, List.getElem?_map, List.getElem?_eq_getElem h]
  rfl
theorem least_l (l : List S41) (hl : l.length ≤ 1000) (hne : ∀ h ∈ l, 0 < h.f1.length) (d : Nat) : ∀ (k a i : Nat), i ≤ l.length → l.length - i = d → a < l.length → d < k →
    impl_least.l0 k l (a : Int) (l.length : Int) (i : Int) = (let z := scan (ikeys l) d a i; some ((rd_T41 l (z : Int)).f0, (rd_T41 l (z : Int)).f1, l.eraseIdx z)) := by
  induction d with
  | zero =>
    intro k a i hi hd ha hk
    obtain ⟨k, rfl⟩ : ∃ m, k = m + 1 := ⟨k - 1, by omega⟩
    have h1 : (l.take a).length < 4398046511104 := by rw [List.length_take]; omega
    have h2 : (l.take a).length + (l.drop (a + 1)).length < 4398046511104 := by rw [List.length_take, List.length_drop]; omega
    have e1 : wrap64 ((a : Int) + 1) = ((a + 1 : Nat) : Int) := by rw [w64 (by omega) (by omega)]; omega
    simp only [scan]
    rw [List.eraseIdx_eq_take_drop_succ, impl_least.l0, e1]
    simp only [Option.bind_some, Int.toNat_natCast, List.nil_append, List.length_nil, Nat.zero_add]
    rw [if_neg (by omega), if_pos (by omega), if_pos (by omega), if_pos (by omega), if_pos h1, if_pos (by omega), if_pos (by omega), if_pos h2]
  | succ d ih =>
    intro k a i hi hd ha hk
    obtain ⟨k, rfl⟩ : ∃ m, k = m + 1 := ⟨k - 1, by omega⟩
    have hil : i < l.length := by omega
    have n1 := hne _ (List.getElem_mem hil)
    have n2 := hne _ (List.getElem_mem ha)
    have e1 := ih k a (i + 1) (by omega) (by omega) ha (by omega)
    have e2 := ih k i (i + 1) (by omega) (by omega) hil (by omega)
    rw [impl_least.l0, if_pos (by omega), if_pos (by omega), if_pos (by omega), if_pos (by omega), if_pos (by omega), rd41 hil, rd41 ha, w64 (by omega) (by omega), show ((i : Int) + 1) = ((i + 1 : Nat) : Int) by omega, e1, e2]
    simp only [scan]
    rw [ikeys_at hil, ikeys_at ha]
    unfold klt
    by_cases h1 : l[i].f0 < l[a].f0
    · rw [if_pos h1]; simp [h1]
    · rw [if_neg h1]
      by_cases h2 : l[i].f0 = l[a].f0
      · rw [if_pos h2, if_pos (by omega), if_pos (by omega)]
        by_cases h3 : rd l[i].f1 0 < rd l[a].f1 0
        · rw [if_pos h3]; simp [h2, h3]
        · rw [if_neg h3]; simp [h2, h3]
      · rw [if_neg h2]; simp [h1, h2]
theorem scan_first {l : List (Int × Int)} (h : l ≠ []) : scan l l.length 0 0 = lst l := by
  have : 0 < l.length := List.length_pos_iff.2 h
  obtain ⟨d, hd⟩ : ∃ d, l.length = d + 1 := ⟨l.length - 1, by omega⟩
  unfold lst
  rw [hd, Nat.add_sub_cancel, scan, if_neg (by simp [klt])]
theorem least_f {k : Nat} {hs : List S41} {ts : List S48} (r : RL hs ts) (hl : hs.length ≤ 1000) (hne : hs ≠ []) (hk : hs.length < k) :
    ∃ (h : S41) (hs' : List S41), impl_least.f k hs = some (h.f0, h.f1, hs') ∧ RT h (sel ts).1 ∧ RL hs' (sel ts).2 := by
  have hpos : ∀ h ∈ hs, 0 < h.f1.length := fun h hm => by
    obtain ⟨i, hi, rfl⟩ := List.mem_iff_getElem.1 hm
    exact (r.get i hi (by rw [← r.length]; exact hi)).ne
  have h0 : 0 < hs.length := List.length_pos_iff.2 hne
  have hne2 : ts ≠ [] := by intro e; have := r.length; rw [e, List.length_nil] at this; omega
  obtain ⟨hi, e⟩ := sel_at hne2
  have hi2 : lst (keys ts) < hs.length := by rw [r.length]; exact hi
  refine ⟨hs[lst (keys ts)], hs.eraseIdx (lst (keys ts)), ?_, by rw [e]; exact r.get _ hi2 hi, r.erase _⟩
  unfold impl_least.f
  have := least_l hs hl hpos hs.length k 0 0 (by omega) (by omega) h0 hk
  have hz : scan (ikeys hs) hs.length 0 0 = lst (keys ts) := by
    have hkne : keys ts ≠ [] := by simpa [keys] using hne2
    rw [r.keys, r.length, ← keys_length ts]
    exact scan_first hkne
  simp only [hz, Int.natCast_zero] at this
  rw [this, rd41 hi2]

/-! ### A merge: the least symbol comes to stand first -/
theorem swap_perm {l : List Int} {i : Nat} (hi : i < l.length) (h0 : 0 < i) : ((l.set 0 l[i]).set i l[0]).Perm l := by
  have h00 : 0 < l.length := by omega
  exact List.set_set_perm h00 hi
theorem depths_l2 (h4 : List S41) (ss : List Int) (a0 : Int) (a1 : List Int) (b0 : Int) (b1 : List Int) (n : Nat) (hs : ∀ s ∈ ss, 0 ≤ s ∧ s < (n : Int)) (hss : ss.length ≤ 300) (hs0 : 0 < ss.length) (hl4 : h4.length ≤ 1000) (fin : List Int) (K : Nat) (d : Nat) :
    ∀ (k : Nat) (out x : List Int) (B : Int) (i : Nat), i ≤ ss.length → ss.length - i = d → out.length = n → Bd B out → B + d ≤ 1000000 → K + d < k →
      x.Perm ss → (i = 0 → x = ss) → (0 < i → x.drop i = ss.drop i ∧ (∀ s ∈ ss.take i, rd x 0 ≤ s)) →
      (∀ k' y, K ≤ k' → y.Perm ss → (∀ s ∈ ss, rd y 0 ≤ s) → impl_depths.l1 k' (bump out (ss.drop i)) (h4 ++ [⟨wrap64 (a0 + b0), y⟩]) = some fin) →
      impl_depths.l2 k out h4 x (ss.length : Int) (i : Int) a0 a1 b0 b1 = some fin := by
  induction d with
  | zero =>
    intro k out x B i hi hd ho hB hb hk hp hx0 hx next
    obtain ⟨k, rfl⟩ : ∃ m, k = m + 1 := ⟨k - 1, by omega⟩
    have := next k x (by omega) hp (by
      have := (hx (by omega)).2
      rwa [List.take_of_length_le (by omega)] at this)
    rw [List.drop_of_length_le (by omega), bump] at this
    rw [impl_depths.l2, if_neg (by omega), if_pos (by omega), this]
  | succ d ih =>
    intro k out x B i hi hd ho hB hb hk hp hx0 hx next
    obtain ⟨k, rfl⟩ : ∃ m, k = m + 1 := ⟨k - 1, by omega⟩
    have hil : i < ss.length := by omega
    have hxl : x.length = ss.length := hp.length_eq
    have hxi : x[i]'(by omega) = ss[i] := by
      by_cases h0 : i = 0
      · have := hx0 h0; subst this; rfl
      · have h1 := (hx (by omega)).1
        rw [List.drop_eq_getElem_cons (show i < x.length by omega), List.drop_eq_getElem_cons hil] at h1
        exact (List.cons.inj h1).1
    have hdr : x.drop (i + 1) = ss.drop (i + 1) := by
      by_cases h0 : i = 0
      · have := hx0 h0; subst this; rfl
      · have h1 := (hx (by omega)).1
        rw [List.drop_eq_getElem_cons (show i < x.length by omega), List.drop_eq_getElem_cons hil] at h1
        exact (List.cons.inj h1).2
    obtain ⟨s0, s1⟩ := hs ss[i] (List.getElem_mem hil)
    have e1 : rd x (i : Int) = ss[i] := by rw [rdI (by omega), hxi]
    rw [List.drop_eq_getElem_cons hil] at next
    have tk : ss.take (i + 1) = ss.take i ++ [ss[i]] := List.take_succ_eq_append_getElem hil
    rw [impl_depths.l2, if_pos (by omega), if_pos (by omega), if_pos (by omega), e1]
    have hmin : 0 < i → ∀ s ∈ ss.take i, rd x 0 ≤ s := fun h => (hx h).2
    have hfirst : i = 0 → rd x 0 = ss[i] := fun h => by subst h; exact e1
    obtain ⟨j, hj⟩ := Int.eq_ofNat_of_zero_le s0
    have hjo : j < out.length := by omega
    have hv := hB j hjo
    have hxs := hxi
    rw [if_pos (by omega), if_pos (by omega), Option.bind_some, if_pos (by omega), hj, Int.toNat_natCast, w64 (x := rd out j + 1) (by omega) (by omega), w64 (by omega) (by omega), show ((i : Int) + 1) = ((i + 1 : Nat) : Int) by omega]
    have nx : ∀ k' y, K ≤ k' → y.Perm ss → (∀ s ∈ ss, rd y 0 ≤ s) → impl_depths.l1 k' (bump (out.set j (rd out j + 1)) (ss.drop (i + 1))) (h4 ++ [⟨wrap64 (a0 + b0), y⟩]) = some fin := fun k' y hk' hy hy2 => by
      have := next k' y hk' hy hy2
      rwa [bump, hj, Int.toNat_natCast] at this
    have go := fun y => ih k (out.set j (rd out j + 1)) y (B + 1) (i + 1) (by omega) (by omega) (by rw [List.length_set]; exact ho) (hB.set hjo (by omega) (by omega)) (by omega) (by omega)
    by_cases hlt : (j : Int) < rd x 0
    · rw [if_pos hlt]
      have hi0 : 0 < i := by
        apply Classical.byContradiction
        intro h
        have := hfirst (by omega)
        omega
      have ex0 : rd x 0 = x[0]'(by omega) := rdI (i := 0) (by omega)
      have ey : ((x.set (0 : Int).toNat (j : Int)).set (i : Int).toNat (rd x 0)) = ((x.set 0 (x[i]'(by omega))).set i (x[0]'(by omega))) := by rw [hxs, hj, ex0, Int.toNat_natCast]; rfl
      rw [ey]
      refine go _ ((swap_perm (by omega) hi0).trans hp) (fun h => by omega) (fun _ => ⟨?_, ?_⟩) nx
      · rw [List.drop_set_of_lt (by omega), List.drop_set_of_lt (by omega)]
        exact hdr
      · have ey0 : rd ((x.set 0 (x[i]'(by omega))).set i (x[0]'(by omega))) 0 = (j : Int) := by
          have := rdI_set (l := x.set 0 (x[i]'(by omega))) (i := i) (j := 0) (by rw [List.length_set]; omega) (x[0]'(by omega))
          simp only [Int.natCast_zero] at this
          rw [this, if_neg (by omega)]
          have := rdI_set (l := x) (i := 0) (j := 0) (by omega) (x[i]'(by omega))
          simp only [Int.natCast_zero] at this
          rw [this, if_pos trivial, hxs, hj]
        rw [ey0, tk]
        intro s hs2
        rcases List.mem_append.1 hs2 with e | e
        · have := hmin hi0 s e; omega
        · rw [List.mem_singleton.1 e]; omega
    · rw [if_neg hlt]
      refine go x hp (fun h => by omega) (fun _ => ⟨hdr, ?_⟩) nx
      rw [tk]
      intro s hs2
      rcases List.mem_append.1 hs2 with e | e
      · by_cases h0 : i = 0
        · subst h0; simp at e
        · exact hmin (by omega) s e
      · rw [List.mem_singleton.1 e]; omega
theorem bump_perm {ss ss' out : List Int} (p : ss.Perm ss') (hn : ss.Nodup) (hs : ∀ s ∈ ss, 0 ≤ s ∧ s < (out.length : Int)) : bump out ss = bump out ss' := by
  refine List.ext_getElem (by rw [bump_length, bump_length]) fun j h1 h2 => ?_
  rw [bump_length] at h1
  have e1 := bump_rd ss out hn hs j h1
  have e2 := bump_rd ss' out (p.nodup_iff.1 hn) (fun s hm => hs s (p.mem_iff.2 hm)) j h1
  rw [rdI (by rw [bump_length]; exact h1)] at e1 e2
  rw [e1, e2]
  by_cases h : (j : Int) ∈ ss
  · rw [if_pos h, if_pos (p.mem_iff.1 h)]
  · rw [if_neg h, if_neg (fun x => h (p.mem_iff.2 x))]
theorem depths_l1 (n : Nat) (hn : n ≤ 300) : ∀ (m : Nat) (hs : List S41) (l : List S48) (out : List Int) (B : Int) (k : Nat), RL hs l → Ok n l → out.length = n → l.length ≤ m → m ≤ 301 → Bd B out → B + 300 * m ≤ 200000 → 400 * m + 400 ≤ k →
    impl_depths.l1 k out hs = some (runL m l out)
  | 0, hs, l, out, B, k, hr, hok, ho, hl, _, hB, hb, hk => by
    obtain ⟨k, rfl⟩ : ∃ m, k = m + 1 := ⟨k - 1, by omega⟩
    have := hr.length
    rw [impl_depths.l1, if_neg (by omega), runL]
  | m + 1, hs, l, out, B, k, hr, hok, ho, hl, hm, hB, hb, hk => by
    obtain ⟨k, rfl⟩ : ∃ m, k = m + 1 := ⟨k - 1, by omega⟩
    have hlen0 := hr.length
    rw [impl_depths.l1, runL]
    by_cases h : 1 < l.length
    · rw [if_pos (by omega), if_pos h]
      have h1 : l ≠ [] := by intro e; subst e; simp at h
      have hl1 : (sel l).2.length = l.length - 1 := sel_length h1
      have h2 : (sel l).2 ≠ [] := by intro e; rw [e] at hl1; simp at hl1; omega
      have hl2 : (sel (sel l).2).2.length = (sel l).2.length - 1 := sel_length h2
      obtain ⟨bs, bl, bn⟩ := hok.both (by omega)
      have hok2 := hok.step (by omega)
      have hlen := step_length (l := l) (by omega)
      obtain ⟨a, hs1, la, ra, rl1⟩ := least_f (k := k) hr (by omega) (by intro e; rw [e, List.length_nil] at hlen0; omega) (by omega)
      have hlen1 := rl1.length
      obtain ⟨b, hs2, lb, rb, rl2⟩ := least_f (k := k) rl1 (by omega) (by intro e; rw [e, List.length_nil] at hlen1; omega) (by omega)
      have hlen2 := rl2.length
      have f0s : 0 < (sel l).1.f0 ∧ 0 < (sel (sel l).2).1.f0 ∧ (sel l).1.f0 + (sel (sel l).2).1.f0 ≤ 1000000000 := by
        obtain ⟨a, b, r, p, _, _, _, _, ea, eb⟩ := step_perm (l := l) (by omega)
        have h3 := hok.perm p
        have pa := h3.pos a (by simp)
        have pb := h3.pos b (by simp)
        have pr := wsum_nonneg r (fun x hx => h3.pos x (by simp [hx]))
        have := h3.tot
        simp only [wsum] at this
        rw [← ea, ← eb]
        omega
      have lows : (∀ s ∈ (sel l).1.f2, (sel l).1.f1 ≤ s) ∧ (∀ s ∈ (sel (sel l).2).1.f2, (sel (sel l).2).1.f1 ≤ s) ∧ (sel l).1.f1 ∈ (sel l).1.f2 ∧ (sel (sel l).2).1.f1 ∈ (sel (sel l).2).1.f2 := by
        obtain ⟨a, b, r, p, _, _, _, _, ea, eb⟩ := step_perm (l := l) (by omega)
        have h3 := hok.perm p
        have la := h3.low a (by simp)
        have lb := h3.low b (by simp)
        rw [← ea, ← eb]
        exact ⟨la.2, lb.2, la.1, lb.1⟩
      have pboth : (a.f1 ++ b.f1).Perm (both l) := ra.p.append rb.p
      have hbl : a.f1.length + b.f1.length ≤ 300 := by
        have := pboth.length_eq
        rw [List.length_append] at this
        omega
      have ha0 := ra.ne
      rw [la, Option.bind_some]
      simp only []
      rw [lb, Option.bind_some]
      simp only [Option.bind_some, List.nil_append, List.length_nil, Nat.zero_add]
      rw [if_pos (by omega), if_pos (by omega)]
      have hsab : ∀ s ∈ a.f1 ++ b.f1, 0 ≤ s ∧ s < (n : Int) := fun s hm => bs s (pboth.mem_iff.1 hm)
      have hbp : bump out (a.f1 ++ b.f1) = bump out (both l) := bump_perm pboth (pboth.nodup_iff.2 bn) (by rw [ho]; exact hsab)
      have := depths_l2 hs2 (a.f1 ++ b.f1) a.f0 a.f1 b.f0 b.f1 n hsab (by rw [List.length_append]; omega) (by rw [List.length_append]; omega) (by omega) (runL m (stepL l) (bump out (both l))) (400 * m + 400) (a.f1 ++ b.f1).length k out (a.f1 ++ b.f1) B 0 (by omega) (by omega) ho hB (by rw [List.length_append]; omega) (by rw [List.length_append]; omega) (List.Perm.refl _) (fun _ => rfl) (fun h => by omega)
        (fun k' y hk' hy hy2 => by
          rw [List.drop_zero, hbp]
          refine depths_l1 n hn m _ (stepL l) (bump out (both l)) (B + (both l).length) k' ?_ hok2 (by rw [bump_length]; exact ho) (by omega) (by omega) (Bd.bump _ _ _ hB (by rw [ho]; exact bs)) (by omega) hk'
          refine rl2.append (.cons ⟨?_, ?_, ?_, hy.trans pboth⟩ .nil)
          · show wrap64 (a.f0 + b.f0) = (sel l).1.f0 + (sel (sel l).2).1.f0
            rw [ra.f0, rb.f0, w64 (by omega) (by omega)]
          · show 0 < y.length
            rw [hy.length_eq, List.length_append]; omega
          · show rd y 0 = (if (sel (sel l).2).1.f1 < (sel l).1.f1 then (sel (sel l).2).1.f1 else (sel l).1.f1)
            have hyl : 0 < y.length := by rw [hy.length_eq, List.length_append]; omega
            have hym : rd y 0 ∈ a.f1 ++ b.f1 := by
              have : rd y 0 = y[0] := rdI (i := 0) hyl
              rw [this]
              exact hy.mem_iff.1 (List.getElem_mem hyl)
            have m1 := hy2 _ (List.mem_append.2 (.inl (ra.p.mem_iff.2 lows.2.2.1)))
            have m2 := hy2 _ (List.mem_append.2 (.inr (rb.p.mem_iff.2 lows.2.2.2)))
            rcases List.mem_append.1 hym with e | e
            · have := lows.1 _ (ra.p.mem_iff.1 e)
              split <;> omega
            · have := lows.2.1 _ (rb.p.mem_iff.1 e)
              split <;> omega)
      simpa using this
    · rw [if_neg (by omega), if_neg h]
theorem runL_short {l : List S48} (h : l.length ≤ 1) : ∀ (m : Nat) (out : List Int), runL m l out = out
  | 0, _ => rfl
  | m + 1, out => by rw [runL, if_neg (by omega)]
def hini (c : List Int) (i : Nat) : List S41 := (ini c i).map (fun t => ⟨t.f0, t.f2⟩)
theorem hini_rl : ∀ (c : List Int) (i : Nat), RL (hini c i) (ini c i)
  | [], _ => .nil
  | x :: r, i => by
    have ih := hini_rl r (i + 1)
    unfold hini at ih ⊢
    rw [ini]
    split
    · exact .cons ⟨rfl, by simp, by simp [rd], List.Perm.refl _⟩ ih
    · exact ih
theorem depths_l0 (c : List Int) (hc : c.length ≤ 300) (out : List Int) (fin : List Int) (K : Nat) (next : ∀ k', K ≤ k' → (if ((hini c 0).length : Int) = 1 then (if 0 < ((hini c 0).length : Int) then (if 0 < (((rd_T41 (hini c 0) 0).f1).length : Int) then (if 0 ≤ (rd ((rd_T41 (hini c 0) 0).f1) 0) then (if (rd ((rd_T41 (hini c 0) 0).f1) 0) < (out.length : Int) then (some (out.set ((rd ((rd_T41 (hini c 0) 0).f1) 0) : Int).toNat 1)) else (none)) else (none)) else (none)) else (none)) else (impl_depths.l1 k' out (hini c 0))) = some fin) (d : Nat) :
    ∀ (k : Nat) (acc : List S41) (i : Nat), i ≤ c.length → c.length - i = d → acc.length ≤ i → K + d < k → acc ++ hini (c.drop i) i = hini c 0 → impl_depths.l0 k out acc c (c.length : Int) (i : Int) = some fin := by
  induction d with
  | zero =>
    intro k acc i hi hd ha hk he
    obtain ⟨k, rfl⟩ : ∃ m, k = m + 1 := ⟨k - 1, by omega⟩
    rw [List.drop_of_length_le (by omega)] at he
    simp only [hini, ini, List.map_nil, List.append_nil] at he
    rw [impl_depths.l0, if_neg (by omega), he]
    exact next k (by omega)
  | succ d ih =>
    intro k acc i hi hd ha hk he
    obtain ⟨k, rfl⟩ : ∃ m, k = m + 1 := ⟨k - 1, by omega⟩
    have hil : i < c.length := by omega
    rw [impl_depths.l0, if_pos (by omega), if_pos (by omega), if_pos (by omega), rdI hil, w64 (by omega) (by omega), show ((i : Int) + 1) = ((i + 1 : Nat) : Int) by omega]
    rw [List.drop_eq_getElem_cons hil, hini, ini] at he
    by_cases h : 0 < c[i]
    · rw [if_pos h] at he
      rw [if_pos h, if_pos (by omega)]
      refine ih k _ (i + 1) (by omega) (by omega) (by simp; omega) (by omega) ?_
      rw [List.append_assoc]
      exact he
    · rw [if_neg h] at he
      rw [if_neg h]
      exact ih k acc (i + 1) (by omega) (by omega) (by omega) (by omega) he
theorem depths_f {k : Nat} {c : List Int} (hc : c.length ≤ 300) (hx : ∀ x ∈ c, x ≤ 200000) (hk : 130000 ≤ k) : impl_depths.f k c = some (lensL c) := by
  have hok := ini_ok hc hx
  have hlen := ini_length c 0
  have hr := hini_rl c 0
  have hl := hr.length
  unfold impl_depths.f
  rw [if_pos (by omega), if_pos (by omega), Int.toNat_natCast]
  refine depths_l0 c hc _ (lensL c) 122000 (fun k' hk' => ?_) c.length k [] 0 (by omega) (by omega) (by simp) (by omega) (by simp)
  unfold lensL
  by_cases h1 : (ini c 0).length = 1
  · have hm : (ini c 0)[0]'(by omega) ∈ ini c 0 := List.getElem_mem _
    obtain ⟨h2, h3⟩ := hok.rng _ hm _ (hok.low _ hm).1
    have rt := hr.get 0 (by omega) (by omega)
    have e1 : rd_T41 (hini c 0) 0 = (hini c 0)[0]'(by omega) := rd41 (i := 0) (by omega)
    have e2 : (ini c 0).getD 0 z48 = (ini c 0)[0]'(by omega) := by rw [List.getD_eq_getElem?_getD, List.getElem?_eq_getElem (show 0 < (ini c 0).length by omega)]; rfl
    have hne := rt.ne
    rw [e1, rt.f1, e2, if_pos (by omega), if_pos (by omega), if_pos (by omega), if_pos (by omega), if_pos (by simp; omega), if_pos h1, runL_short (by omega)]
  · rw [if_neg (by omega), if_neg h1]
    have hB : Bd 1 (List.replicate c.length 0) := by
      intro j hj
      rw [rdI hj]
      simp
    exact depths_l1 c.length hc _ _ _ _ 1 _ hr hok (by simp) (Nat.le_refl _) (by omega) hB (by omega) (by omega)
end Go.Proofs.Ytdenepapeoiiiaa.My
