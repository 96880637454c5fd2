-- Written by a program of this session, over the kit's print. Not trusted: Lean checks it.
import Derived.Test.YtcbehpemhkfieaaPAllx0
import Derived.Test.YtcbehpemhkfieaaPAllx24
namespace Go.Proofs.Ytcbehpemhkfieaa.PAll
open Go.RowKit Go.Proofs.YtcbehpemhkfieaaW.PrintWords Go.Proofs.YtcbehpemhkfieaaW.PrintLast Go.Proofs.YtcbehpemhkfieaaW.PrintMore
attribute [local go_sem] max2_int min2_int max_two min_two max_three min_three max_four min_four   -- for this text's walks alone
set_option linter.unusedVariables false
set_option linter.unusedSimpArgs false

/-! ### impl_BitsPut: function 12 -/
theorem w64_ {x : Int} (h0 : -9223372036854775808 ≤ x) (h1 : x ≤ 9223372036854775807) : wrap64 x = x := by
  unfold wrap64
  omega
theorem info_u8 : (Try.prog.info? 5).map (fun i => (i.zero, i.size, i.bytes)) = some (some (.int .u8 0), 1, 1) := by kernel_rfl
theorem nums_get (bs : List Int) {i : Nat} (h : i < bs.length) : (nums .u8 bs)[i]? = some (.int .u8 (rd bs (i : Int))) := by
  simp [nums, rd, List.getElem?_eq_getElem h]
theorem nums_set (bs : List Int) (i : Nat) (x : Int) : (nums .u8 bs).set i (.int .u8 x) = nums .u8 (bs.set i x) := by
  simp [nums, List.map_set]
/-- A writer: its row of bytes is the call's own. -/
def IsWr (base : Nat) (W : World) (g : Nat) (v : Value) (bs : List Int) (m : Nat) : Prop :=
  W.heap[g]? = some (.cells #[v, .int .i64 (m : Int)] 61 (0, 0)) ∧ base ≤ g ∧ W.ownsRow base 5 1 v bs.length (nums .u8 bs) ∧ v.ownBlock ≠ some g
theorem IsWr.step {base : Nat} {W : World} {g b cap : Nat} {bs : List Int} {m : Nat} (h : IsWr base W g (.slice (some ⟨b, 0, none⟩) bs.length cap) bs m) (x : Int) (j : Nat) :
    IsWr base (((W.setCell ⟨b, j, none⟩ (.int .u8 x)).setCell ⟨g, 1, none⟩ (.int .i64 ((m : Int) + 1))).drew) g (.slice (some ⟨b, 0, none⟩) bs.length cap) (bs.set j x) (m + 1) := by
  obtain ⟨hb, hge, hown, hne⟩ := h
  have hbg : g ≠ b := fun h => hne (by simp [Value.ownBlock, h])
  obtain ⟨h1, _⟩ := hown.stored j (.int .u8 x)
  refine ⟨?_, hge, ?_, hne⟩
  · have h2 := blk_set (blk_far hb (p := ⟨b, j, none⟩) hbg (.int .u8 x)) 1 (.int .i64 ((m : Int) + 1))
    exact h2
  · have h3 : ((W.setCell ⟨b, j, none⟩ (.int .u8 x)).setCell ⟨g, 1, none⟩ (.int .i64 ((m : Int) + 1))).ownsRow base 5 1 (.slice (some ⟨b, 0, none⟩) bs.length cap) bs.length (nums .u8 (bs.set j x)) := by
      rw [nums_set] at h1
      refine h1.kept (row := some g) ⟨rfl, rfl, rfl, by simp, fun k _ hk => heap_setCell_other _ ⟨g, 1, none⟩ k _ (fun e => hk (by simp [e]))⟩ (.inr hne)
    rw [List.length_set]
    exact h3
def one (num : Int) (k : Nat) (s : List Int × Nat) : List Int × Nat :=
  if s.2 % 8 = 0 then ((s.1 ++ [0]).set (s.2 / 8) (Go.bits .or .u8 (rd (s.1 ++ [0]) ((s.2 : Int) / 8)) ((wrap64 (Go.bits .and .i64 (num / 2 ^ k) 1 * 2 ^ (s.2 % 8))) % 256)), s.2 + 1)
  else (s.1.set (s.2 / 8) (Go.bits .or .u8 (rd s.1 ((s.2 : Int) / 8)) ((wrap64 (Go.bits .and .i64 (num / 2 ^ k) 1 * 2 ^ (s.2 % 8))) % 256)), s.2 + 1)
def ones (num : Int) : Nat → List Int × Nat → List Int × Nat
  | 0, s => s
  | k + 1, s => one num k (ones num k s)
theorem one_snd (num : Int) (k : Nat) (s : List Int × Nat) : (one num k s).2 = s.2 + 1 := by
  unfold one; split <;> rfl
theorem ones_snd (num : Int) (s : List Int × Nat) : ∀ k, (ones num k s).2 = s.2 + k
  | 0 => rfl
  | k + 1 => by rw [ones, one_snd, ones_snd]; omega
def Good (s : List Int × Nat) : Prop := s.1.length = (s.2 + 7) / 8
theorem one_good (num : Int) (k : Nat) (s : List Int × Nat) (h : Good s) : Good (one num k s) := by
  unfold Good at *
  rw [one_snd]
  unfold one
  split <;> simp <;> omega
theorem ones_good (num : Int) (s : List Int × Nat) (h : Good s) : ∀ k, Good (ones num k s)
  | 0 => h
  | k + 1 => one_good _ _ _ (ones_good num s h k)
set_option maxHeartbeats 8000000 in
set_option maxRecDepth 100000 in
theorem put_calls (num : Int) (n : Nat) (base : Nat) (W : World) (g : Nat) (v : Value) (bs : List Int) (m : Nat) (hI : IsWr base W g v bs m) (hbase : base ≤ W.heap.size) (hn : n ≤ 16) (hm : m ≤ 1000000) (hg : Good (bs, m)) :
    Calls Try.prog 34 #[.pointer (some ⟨g, 0, none⟩), .int .i64 num, .int .i64 (n : Int)] W fun e W' => ∃ v', e = .returned (.tuple #[]) ∧ IsWr base W' g v' (ones num n (bs, m)).1 (ones num n (bs, m)).2 ∧ Below base W W' := by
  have HI := Aside0.mk hI
  clear hI
  have HG := Aside0.mk hg
  clear hg
  obtain ⟨i0, hi, hz0, hz1, hz2⟩ := info_parts info_u8
  go_enter Try.func34, Try.ntmps34
  go_wp2
  go_loopw [8] (fun v8 wr => ∃ k : Nat, v8 = .int .i64 (k : Int) ∧ Aside0 (k ≤ n) ∧ Aside0 (∃ v', IsWr base wr g v' (ones num k (bs, m)).1 (ones num k (bs, m)).2) ∧ Aside0 (Below base W wr)) (fun v8 _ => n - (intOf v8).toNat)
  case atStart => exact ⟨0, rfl, ⟨Nat.zero_le _⟩, ⟨v, HI.out⟩, ⟨Below.refl _ _⟩⟩
  case round =>
    obtain ⟨k, rfl, hk, hI', hB⟩ := hrel
    by_cases hlt : k < n
    · have hdk : decide (k < n) = true := decide_eq_true hlt
      obtain ⟨v1, hv1⟩ := hI'.out
      clear hI'
      obtain ⟨s1, hs1⟩ : ∃ s1, s1 = (ones num k (bs, m)) := ⟨_, rfl⟩
      have hG1 := ones_good num (bs, m) HG.out k
      rw [← hs1] at hv1 hG1
      have hs := Aside0.mk hs1
      clear hs1
      obtain ⟨bs1, m1⟩ := s1
      have hm1 : m1 ≤ 1000016 := by have := ones_snd num (bs, m) k; rw [← hs.out] at this; simp at this; omega
      have hv1 : IsWr base wr g v1 bs1 m1 := hv1
      obtain ⟨hb1, hge, hown, hne⟩ := id hv1
      have hlen : bs1.length = (m1 + 7) / 8 := hG1
      have hdk' : True := trivial
      by_cases h8 : m1 % 8 = 0
      · have h8' : (((m1 : Int) % 8) == 0) = true := by simp; omega
        have h8o := Aside0.mk h8
        have hBsz : base ≤ wr.heap.size := by have := hB.out.size; omega
        have HV := Aside0.mk hv1
        have c0 := (blk_cell hb1 0).trans rfl
        have c1 := (blk_cell hb1 1).trans rfl
        have f0 := blk_frozen hb1 0
        have f1 := blk_frozen hb1 1
        have HL := Aside0.mk hlen
        have HGE := Aside0.mk hge
        have HNE := Aside0.mk hne
        have HO := Aside0.mk hown
        have HM := Aside0.mk hm1
        clear hlen hge hne hown hG1 h8 hv1 hm1
        go_wp2_with (at_builtin; refine wpList_append_own _ rfl (.tmp 21) (.tmp 22) 22 rfl base 5 i0 (.int .u8 0) 1 1 Try.underlying22 hi hz0 hz1 hz2 rfl (by decide) v1 bs1.length (nums .u8 bs1) rfl (HO.out.alloc _) ⟨wr.heap.size, 0, none⟩ 1 1 [.int .u8 0] rfl rfl ?c1 ?c2 ?c3 ?c4 ?c5 ?_)
        case c2 => first | rfl | (intro u hu; simp at hu; subst hu; rfl)
        case c3 => have := HL.out; have := HM.out; unfold maxLen; omega
        case c4 => have := HL.out; have := HM.out; omega
        case c5 => first | omega | (simp; omega)
        intro v' w1 hown1 hgrow _
        have hne1 : v1.ownBlock ≠ some g := HNE.out
        have hb2 : w1.heap[g]? = some (.cells #[v1, .int .i64 (m1 : Int)] 61 (0, 0)) := blk_grown (blk_below hb1 (below_alloc (Below.refl _ _) _)) hgrow (Ne.symm hne1)
        have hB1 : Below base W w1 := (hB.out.alloc hBsz _).grown hgrow (by simp; omega) (fun k hk => (HO.out.lt k hk).1)
        obtain ⟨b, cap, cur, rfl, hbb, hbc, hnc, hcm, hcs, hct⟩ : ∃ b cap cur, v' = .slice (some ⟨b, 0, none⟩) (bs1.length + 1) cap ∧ base ≤ b ∧ w1.heap[b]? = some (.cells cur 5 (0, 0)) ∧ bs1.length + 1 ≤ cap ∧ cap ≤ maxLen ∧ cur.size = cap * 1 ∧ cur.toList.take ((bs1.length + 1) * 1) = nums .u8 bs1 ++ [.int .u8 0] := by
          rcases hown1.2 with ⟨_, h⟩ | h
          · omega
          · exact h
        have hgb : b ≠ g := by
          rintro rfl
          rw [hb2] at hbc
          injection hbc with hbc
          injection hbc with _ h
          exact absurd h (by decide)
        have d0 := (blk_cell hb2 0).trans rfl
        have d1 := (blk_cell hb2 1).trans rfl
        have e0 := blk_frozen hb2 0
        have e1 := blk_frozen hb2 1
        have HO1 := Aside0.mk hown1
        have HB2 := Aside0.mk hb2
        have HB1 := Aside0.mk hB1
        have HBB := Aside0.mk hbb
        have HGB := Aside0.mk hgb
        clear hown1 hgrow hne1 hb2 hB1 hbc hnc hcm hcs hct c0 c1 f0 f1 hbb hgb h8'
        go_wp2
        obtain ⟨w2, hw2⟩ : ∃ w2, w2 = w1.setCell ⟨g, 0, none⟩ (.slice (some ⟨b, 0, none⟩) (bs1.length + 1) cap) := ⟨_, rfl⟩
        rw [← hw2]
        obtain ⟨bs2, hbs2'⟩ : ∃ bs2, bs2 = bs1 ++ [0] := ⟨_, rfl⟩
        have HS2 := Aside0.mk hbs2'
        have hbs2 := hbs2'
        clear hbs2'
        have hl2 : bs2.length = bs1.length + 1 := by rw [hbs2]; simp
        have hv1 : IsWr base w2 g (.slice (some ⟨b, 0, none⟩) bs2.length cap) bs2 m1 := by
          rw [hw2, hl2]
          refine ⟨blk_set HB2.out 0 _, HGE.out, ?_, by simp [Value.ownBlock]; exact HGB.out⟩
          refine World.ownsRow.kept (w := w1) (row := some g) ?_ ⟨rfl, rfl, rfl, by simp, fun k _ hk => heap_setCell_other _ ⟨g, 0, none⟩ k _ (fun e => hk (by simp [e]))⟩ (.inr (by simp [Value.ownBlock]; exact HGB.out))
          have := HO1.out
          rw [hbs2]
          simpa [nums] using this
        have hB' : Aside0 (Below base W w2) := ⟨by rw [hw2]; exact HB1.out.setCell HGE.out _⟩
        have hbb' := HBB.out
        have hge := HGE.out
        have hbb := hbb'
        have hm1 := HM.out
        have hlen : bs2.length = m1 / 8 + 1 := by have := HL.out; have := h8o.out; omega
        rw [← hl2]
        clear hbs2
        have HL2 := Aside0.mk hl2
        clear hw2 d0 d1 e0 e1 HO1 HB2 HB1 hl2
        obtain ⟨hb1, _, hown, hne⟩ := id hv1

        have hlt8 : m1 / 8 < bs2.length := by omega
        have hcell := hown.cellAt (m1 / 8) (by omega)
        have hfro := hown.frozenAt (m1 / 8)
        rw [nums_get bs2 hlt8] at hcell
        have hbg : b ≠ g := fun h => hne (by simp [Value.ownBlock, h])
        have c0 := (blk_cell hb1 0).trans rfl
        have c1 := (blk_cell hb1 1).trans rfl
        have f0 := blk_frozen hb1 0
        have f1 := blk_frozen hb1 1
        have hst := fun x : Int => IsWr.step hv1 x (m1 / 8)
        have HST := Aside0.mk hst
        have hq : ((m1 : Int) / 8) < (bs2.length : Int) := by omega
        have hq0 : 0 ≤ (m1 : Int) / 8 := by omega
        have hwq : IntKind.i64.wrap ((m1 : Int) / 8) = (m1 : Int) / 8 := IntWalk.i64_in _ (by omega)
        have hwt : ((m1 : Int) / 8).toNat = m1 / 8 := by omega
        have htm : (m1 : Int).tmod 8 = (m1 : Int) % 8 := Int.tmod_eq_emod_of_nonneg (by omega)
        have hr0 : 0 ≤ (m1 : Int) % 8 := by omega
        have hr1 : (m1 : Int) % 8 ≤ 64 := by omega
        have hrt : ((m1 : Int) % 8).toNat = m1 % 8 := by omega
        have hbg' : g ≠ b := Ne.symm hbg
        have hk16 : k ≤ 16 := by have := hk.out; omega
        clear hst hlen hlt8 hne hv1 hb1 hown hbb hdk'
        skip
        go_still_tail 24, (by kernel_rfl)
        change wpList _ _ _ _ _ w2.drew
        go_wp2
        refine ⟨⟨k + 1, ?_, ?_, ?_, ?_⟩, ?_⟩
        · rfl
        · exact ⟨by omega⟩
        · refine ⟨⟨.slice (some ⟨b, 0, none⟩) bs2.length cap, ?_⟩⟩
          rw [ones, ← hs.out]
          have h9 : m1 % 8 = 0 := h8o.out
          simp only [one, if_pos h9]
          rw [← HS2.out]
          exact HST.out _
        · refine ⟨Below.drew (Below.setCell (Below.setCell hB'.out ?_ _) ?_ _)⟩
          · exact hbb'
          · exact hge
        · simp [intOf]; omega

      · have h8' : (((m1 : Int) % 8) == 0) = false := by simp; omega
        have h8o := Aside0.mk h8
        have hB' := hB
        obtain ⟨b, cap, cur, rfl, hbb, hbc, hnc, hcm, hcs, hct⟩ : ∃ b cap cur, v1 = .slice (some ⟨b, 0, none⟩) bs1.length cap ∧ base ≤ b ∧ wr.heap[b]? = some (.cells cur 5 (0, 0)) ∧ bs1.length ≤ cap ∧ cap ≤ maxLen ∧ cur.size = cap * 1 ∧ cur.toList.take (bs1.length * 1) = nums .u8 bs1 := by
          rcases hown.2 with ⟨_, h⟩ | h
          · omega
          · exact h
        have hbb' := hbb
        have hlen9 : m1 / 8 < bs1.length := by omega
        clear hG1 h8 hlen hbc hnc hcm hcs hct
        have hlen := hlen9
        clear hlen9

        have hlt8 : m1 / 8 < bs1.length := by omega
        have hcell := hown.cellAt (m1 / 8) (by omega)
        have hfro := hown.frozenAt (m1 / 8)
        rw [nums_get bs1 hlt8] at hcell
        have hbg : b ≠ g := fun h => hne (by simp [Value.ownBlock, h])
        have c0 := (blk_cell hb1 0).trans rfl
        have c1 := (blk_cell hb1 1).trans rfl
        have f0 := blk_frozen hb1 0
        have f1 := blk_frozen hb1 1
        have hst := fun x : Int => IsWr.step hv1 x (m1 / 8)
        have HST := Aside0.mk hst
        have hq : ((m1 : Int) / 8) < (bs1.length : Int) := by omega
        have hq0 : 0 ≤ (m1 : Int) / 8 := by omega
        have hwq : IntKind.i64.wrap ((m1 : Int) / 8) = (m1 : Int) / 8 := IntWalk.i64_in _ (by omega)
        have hwt : ((m1 : Int) / 8).toNat = m1 / 8 := by omega
        have htm : (m1 : Int).tmod 8 = (m1 : Int) % 8 := Int.tmod_eq_emod_of_nonneg (by omega)
        have hr0 : 0 ≤ (m1 : Int) % 8 := by omega
        have hr1 : (m1 : Int) % 8 ≤ 64 := by omega
        have hrt : ((m1 : Int) % 8).toNat = m1 % 8 := by omega
        have hbg' : g ≠ b := Ne.symm hbg
        have hk16 : k ≤ 16 := by have := hk.out; omega
        clear hst hlen hlt8 hne hv1 hb1 hown hbb hdk'
        go_wp2
        go_still_tail 24, (by kernel_rfl)
        change wpList _ _ _ _ _ wr.drew
        go_wp2
        refine ⟨⟨k + 1, ?_, ?_, ?_, ?_⟩, ?_⟩
        · rfl
        · exact ⟨by omega⟩
        · refine ⟨⟨.slice (some ⟨b, 0, none⟩) bs1.length cap, ?_⟩⟩
          rw [ones, ← hs.out]
          have h9 : ¬ m1 % 8 = 0 := h8o.out
          simp only [one, if_neg h9]
          exact HST.out _
        · refine ⟨Below.drew (Below.setCell (Below.setCell hB'.out ?_ _) ?_ _)⟩
          · exact hbb'
          · exact hge
        · simp [intOf]; omega

    · have hdk : decide (k < n) = false := decide_eq_false hlt
      have hkn : k = n := by have := hk.out; omega
      subst hkn
      go_wp2
      go_end0
      obtain ⟨v2, hv2⟩ := hI'.out
      first | exact ⟨v2, rfl, hv2, hB.out⟩ | exact ⟨rfl, ⟨v2, hv2⟩, hB.out⟩
/-- Numbers of at most 16 bits, at most 4000 of them. -/
def fitB (l : List S49) : Bool := decide (l.length ≤ 4000) && l.all (fun p => decide (0 ≤ p.f0) && (decide (p.f0 ≤ 65535) && (decide (0 ≤ p.f1) && decide (p.f1 ≤ 16))))
def implSt (l : List S49) (s : List Int × Nat) : List Int × Nat := l.foldl (fun s p => ones p.f0 p.f1.toNat s) s
def impl_BitsPut.f (k : Nat) (l0 : List S49) : Option ByteArray :=
  (impl_piecesOk.f k l0).bind fun t => if t = true then (if fitB l0 = true then some (strOfNums (implSt l0 ([], 0)).1) else none) else some ⟨#[]⟩
theorem impl_BitsPut.mono : ∀ a0 k, LeO (impl_BitsPut.f k a0) (impl_BitsPut.f (k + 1) a0) := by
  intro a0 k
  unfold impl_BitsPut.f
  exact LeO.bind (impl_piecesOk.mono _ _) (fun _ => LeO.refl _)
theorem fit_len {l : List S49} (h : fitB l = true) : l.length ≤ 4000 := by
  simp only [fitB, Bool.and_eq_true, decide_eq_true_eq] at h
  exact h.1
theorem fit_at {l : List S49} (h : fitB l = true) {i : Nat} (hi : i < l.length) : ∃ n : Nat, (rd_T49 l (i : Int)).f1 = (n : Int) ∧ n ≤ 16 ∧ 0 ≤ (rd_T49 l (i : Int)).f0 ∧ (rd_T49 l (i : Int)).f0 ≤ 65535 := by
  simp only [fitB, Bool.and_eq_true, decide_eq_true_eq, List.all_eq_true] at h
  have e : rd_T49 l (i : Int) = l[i] := by simp [rd_T49, List.getElem?_eq_getElem hi]
  rw [e]
  obtain ⟨h1, h2, h3, h4⟩ := h.2 l[i] (List.getElem_mem hi)
  exact ⟨l[i].f1.toNat, by omega, by omega, h1, h2⟩
theorem implSt_take (l : List S49) (s : List Int × Nat) {i : Nat} (hi : i < l.length) : implSt (l.take (i + 1)) s = ones (rd_T49 l (i : Int)).f0 (rd_T49 l (i : Int)).f1.toNat (implSt (l.take i) s) := by
  have e : rd_T49 l (i : Int) = l[i] := by simp [rd_T49, List.getElem?_eq_getElem hi]
  unfold implSt
  rw [List.take_succ_eq_append_getElem hi, List.foldl_append, e]
  rfl
theorem implSt_good (l : List S49) (s : List Int × Nat) (h : Good s) : Good (implSt l s) := by
  induction l generalizing s with
  | nil => exact h
  | cons p l ih => exact ih _ (ones_good _ _ h _)
theorem implSt_snd {l : List S49} (h : fitB l = true) : ∀ i, i ≤ l.length → (implSt (l.take i) ([], 0)).2 ≤ 16 * i := by
  intro i
  induction i with
  | zero => intro _; simp [implSt]
  | succ i ih =>
    intro hi
    obtain ⟨n, hn, hn16, _⟩ := fit_at h (i := i) (by omega)
    rw [implSt_take l _ (by omega), ones_snd, hn, Int.toNat_natCast]
    have := ih (by omega)
    omega
theorem IsWr.below {base : Nat} {W W1 : World} {g : Nat} {v : Value} {bs : List Int} {m : Nat} (h : IsWr base W g v bs m) (hb : Below W.heap.size W W1) : IsWr base W1 g v bs m :=
  ⟨blk_below h.1 hb, h.2.1, pw_own_below h.2.2.1 hb, h.2.2.2⟩
set_option maxHeartbeats 8000000 in
set_option maxRecDepth 100000 in
theorem impl_BitsPut.calls (k : Nat) (A0 : Option Addr) (c0 : Nat) (l0 : List S49) (r : ByteArray) (w : World) (hr0 : Kd.C k49 w A0 l0.length l0) (hc0 : l0.length ≤ c0) (h : impl_BitsPut.f k l0 = some r) :
    Calls Try.prog 12 #[.slice A0 l0.length c0] w fun e w' => e = .returned (.string r) ∧ Below w.heap.size w w' := by
  have hu49 := Try.underlying49
  have hu61 := Try.underlying61
  have HR0 := Aside0.mk hr0
  have HC0 := Aside0.mk hc0
  clear hr0 hc0
  have HB := Aside0.mk (Below.refl w.heap.size w)
  unfold impl_BitsPut.f at h
  obtain ⟨t, A20, H⟩ := Option.bind_eq_some_iff.mp h
  clear h
  have A2 := Aside0.mk A20
  clear A20
  cases t with
  | true =>
    rw [if_pos rfl] at H
    by_cases hf : fitB l0 = true
    · rw [if_pos hf] at H
      obtain rfl := Option.some.inj H
      clear H
      have HF := Aside0.mk hf
      clear hf
      go_enter Try.func12, Try.ntmps12
      go_wp2_with (first | ((with_reducible refine gate_callee (f := 33) rfl ?_); refine goesL_ (some 7) rfl rfl Try.func33 (by kernel_rfl) rfl #[.slice A0 l0.length c0] rfl (by (try simp only [List.map_toArray, List.map_cons, List.map_nil]); first | done | rfl) ?_; (with_reducible refine (impl_piecesOk.calls k _ _ l0 true _ ?side1 ?side2 A2.out).mono ?_); (case side1 => exact HR0.out); (case side2 => exact HC0.out); rintro e w4 ⟨rfl, hb⟩; refine ⟨_, rfl, ?_⟩; have n0_ := Aside0.mk (below_step HB.out hb); clear HB; have HB := n0_; clear n0_; clear hb) | ((with_reducible refine gate_dst (N := 10) rfl ?_); refine box_event ?hg (N := 10) ?hd (cs := #[.slice none 0 0, .int .i64 0]) (t := 61) ?hr ?_; (case hd => rfl); (case hg => rfl); (case hr => first | (go_simp; done) | (go_simp; rfl)); intro g hg w5 hbox hb; have hge : w.heap.size ≤ g := (by rw [hg]; exact below_size HB.out); have n0_ := Aside0.mk (below_step HB.out hb); clear HB; have HB := n0_; clear n0_; have HI := Aside0.mk (show IsWr w.heap.size w5 g (.slice none 0 0) [] 0 from ⟨hbox, hge, own_nil _ _ _ _, by simp [Value.ownBlock]⟩); clear hb hbox hg hge))
      have HG := Aside0.mk (HB.out)
      go_loopw [13] (fun v13 wr => ∃ x : Int, v13 = .int .i64 x ∧ Aside0 (0 ≤ x ∧ x ≤ (l0.length : Int)) ∧ Aside0 (∃ v, IsWr w.heap.size wr g v (implSt (l0.take x.toNat) ([], 0)).1 (implSt (l0.take x.toNat) ([], 0)).2) ∧ Aside0 (Below w.heap.size w wr)) (fun v13 _ => l0.length - (intOf v13).toNat)
      case atStart => exact ⟨0, rfl, ⟨by omega⟩, ⟨_, HI.out⟩, HB⟩
      case round =>
        clear HI HB HG
        obtain ⟨x, rfl, hx, hI', HB⟩ := hrel
        obtain ⟨v1, hv1⟩ := hI'.out
        clear hI'
        by_cases hlt : x < (l0.length : Int)
        · have c5 : decide (x < (l0.length : Int)) = true := decide_eq_true hlt
          have hx0 : 0 ≤ x := hx.out.1
          obtain ⟨n, hn, hn16, hn0, hn1⟩ := fit_at HF.out (i := x.toNat) (by omega)
          have hst := implSt_take l0 ([], 0) (i := x.toNat) (by omega)
          have hgood := implSt_good (l0.take x.toNat) ([], 0) rfl
          have hsnd := implSt_snd HF.out x.toNat (by omega)
          rw [show ((x.toNat : Nat) : Int) = x by omega] at hn hst hn0 hn1
          obtain ⟨s1, hs1⟩ : ∃ s1, s1 = implSt (l0.take x.toNat) ([], 0) := ⟨_, rfl⟩
          rw [← hs1] at hv1 hst hgood hsnd
          obtain ⟨bs1, m1⟩ := s1
          obtain ⟨ad, e, q0, q1⟩ := at_T49 HR0.out x hx0 hlt
          cases e
          rw [hn] at q1 hst
          obtain ⟨num, hnum⟩ : ∃ num, num = (rd_T49 l0 x).f0 := ⟨_, rfl⟩
          rw [← hnum] at q0 hst
          replace q0 := (HB.out.cell (World.block_lt_of_cell? w _ q0)).trans q0
          replace q1 := (HB.out.cell (World.block_lt_of_cell? w _ q1)).trans q1
          have p170 := eq_true hx0
          have q170 := eq_true hlt
          have HV := Aside0.mk (show IsWr w.heap.size wr g v1 bs1 m1 from hv1)
          have HST := Aside0.mk hst
          have HGOOD := Aside0.mk hgood
          have HM := Aside0.mk (show m1 ≤ 1000000 by have hl := fit_len HF.out; have hs9 : m1 ≤ 16 * x.toNat := hsnd; omega)
          have HX1 : Aside0 (0 ≤ x + 1 ∧ x + 1 ≤ (l0.length : Int)) := ⟨by omega⟩
          have HX2 : Aside0 ((x + 1).toNat = x.toNat + 1) := ⟨by omega⟩
          have HX3 : Aside0 (l0.length - (x + 1).toNat < l0.length - x.toNat) := ⟨by omega⟩
          have HN := Aside0.mk hn16
          have hwx : IntKind.i64.wrap (x + 1) = x + 1 := IntWalk.i64_in _ (by have hl := fit_len HF.out; omega)
          have hwx' : wrap64 (x + 1) = x + 1 := (i64_w _).symm.trans hwx
          clear hst hgood hsnd hv1 hs1 hn hnum hlt hx0 hx hn0 hn1 hn16
          go_wp2_with (first | ((with_reducible refine gate_dst (N := 5) rfl ?_); refine box_event ?hg (N := 5) ?hd (cs := #[.int .i64 0, .int .i64 0]) (t := 49) ?hr ?_; (case hd => rfl); (case hg => rfl); (case hr => first | (go_simp; done) | (go_simp; rfl)); intro gb hg w8 hbox hb; have HX := Aside0.mk hb; have GX := Aside0.mk (show wr.heap.size ≤ gb by rw [hg]; exact Nat.le_refl _); have hcz0 : w8.cell? ⟨gb, 0, none⟩ = some (.int .i64 0) := (blk_cell hbox 0).trans rfl; have hcz1 : w8.cell? ⟨gb, 1, none⟩ = some (.int .i64 0) := (blk_cell hbox 1).trans rfl; have hfz0 := blk_frozen hbox 0; have hfz1 := blk_frozen hbox 1; clear hb hbox hg) | ((with_reducible refine gate_callee (f := 34) rfl ?_); refine goesL_ (some 22) rfl rfl Try.func34 (by kernel_rfl) rfl #[.pointer (some ⟨g, 0, none⟩), .int .i64 num, .int .i64 (n : Int)] rfl (by (try simp only [List.map_toArray, List.map_cons, List.map_nil]); first | done | rfl) ?_; (with_reducible refine (put_calls num n w.heap.size _ g v1 bs1 m1 (HV.out.below ?side1) ?side2 HN.out HM.out HGOOD.out).mono ?_); (case side1 => exact below_set (below_set HX.out GX.out) GX.out); (case side2 => exact below_size (below_step HB.out (below_set (below_set HX.out GX.out) GX.out))); rintro e w9 ⟨v2, rfl, hi, hb2⟩; refine ⟨_, rfl, ?_⟩; have HI2 := Aside0.mk hi; have HB2 := Aside0.mk ((below_step HB.out (by exact below_set (below_set HX.out GX.out) GX.out)).trans hb2); clear hi hb2))
          refine ⟨⟨x + 1, rfl, HX1, ⟨v2, ?_⟩, HB2⟩, HX3.out⟩
          rw [HX2.out, HST.out, Int.toNat_natCast]
          exact HI2.out
        · have c5 : decide (x < (l0.length : Int)) = false := decide_eq_false hlt
          have hxl : x.toNat = l0.length := by have := hx.out; omega
          rw [hxl, List.take_length] at hv1
          obtain ⟨bs1, hbs1⟩ : ∃ b, b = (implSt l0 ([], 0)).1 := ⟨_, rfl⟩
          rw [← hbs1] at hv1
          have HBS := Aside0.mk hbs1
          obtain ⟨hb1, _, hown, _⟩ := id hv1
          have d0 := (blk_cell hb1 0).trans rfl
          have hcv := own_string (P := Try.prog) Try.underlying22 Try.underlying5 Try.underlying9 hown
          clear hbs1 hv1 hb1 hown hxl hlt hx
          go_wp2
          go_ret
          exact ⟨by rw [HBS.out]; rfl, HB.out⟩
    · rw [if_neg hf] at H
      cases H
  | false =>
    rw [if_neg (by decide)] at H
    obtain rfl := Option.some.inj H
    clear H
    go_enter Try.func12, Try.ntmps12
    go_wp2_with (((with_reducible refine gate_callee (f := 33) rfl ?_); refine goesL_ (some 7) rfl rfl Try.func33 (by kernel_rfl) rfl #[.slice A0 l0.length c0] rfl (by (try simp only [List.map_toArray, List.map_cons, List.map_nil]); first | done | rfl) ?_; (with_reducible refine (impl_piecesOk.calls k _ _ l0 false _ ?side1 ?side2 A2.out).mono ?_); (case side1 => exact HR0.out); (case side2 => exact HC0.out); rintro e w4 ⟨rfl, hb⟩; refine ⟨_, rfl, ?_⟩; have n0_ := Aside0.mk (below_step HB.out hb); clear HB; have HB := n0_; clear n0_; clear hb))
    go_ret
    exact ⟨rfl, HB.out⟩

end Go.Proofs.Ytcbehpemhkfieaa.PAll
