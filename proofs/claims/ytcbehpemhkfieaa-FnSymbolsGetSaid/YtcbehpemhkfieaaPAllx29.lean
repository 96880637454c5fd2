-- Written by a program of this session, over the kit's print. Not trusted: Lean checks it.
import Derived.Test.YtcbehpemhkfieaaPAllx0
import Derived.Test.YtcbehpemhkfieaaPAllx25
import Derived.Test.YtcbehpemhkfieaaPAllx28
namespace Go.Proofs.Ytcbehpemhkfieaa.PAll
open Go.RowKit Go.Proofs.YtcbehpemhkfieaaW.PrintWords Go.Proofs.YtcbehpemhkfieaaW.PrintLast Go.Proofs.YtcbehpemhkfieaaW.PrintMore
attribute [local go_sem] max2_int min2_int max_two min_two max_three min_three max_four min_four   -- for this text's walks alone
set_option linter.unusedVariables false
set_option linter.unusedSimpArgs false

/-! ### spec_BitsPut: function 35 -/
set_option maxHeartbeats 800000 in
set_option maxRecDepth 100000 in
theorem pow_calls (n : Nat) (hn : n ≤ 62) (W : World) : Calls Try.prog 43 #[.int .i64 (n : Int)] W fun e W' => e = .returned (.int .i64 ((2 ^ n : Nat) : Int)) ∧ W' = W := by
  go_enter Try.func43, Try.ntmps43
  go_wp2
  go_loop [0, 3] (fun v0 v3 => ∃ j : Nat, j ≤ n ∧ v0 = .int .i64 ((n - j : Nat) : Int) ∧ v3 = .int .i64 ((2 ^ j : Nat) : Int)) (fun v0 _ => (intOf v0).toNat)
  case atStart => exact ⟨0, Nat.zero_le _, rfl, rfl⟩
  case round =>
    obtain ⟨j, hj, rfl, rfl⟩ := hrel
    obtain ⟨p, hp⟩ : ∃ p, p = 2 ^ j := ⟨_, rfl⟩
    have hpb : j < n → p ≤ 2305843009213693952 := by
      intro h
      rw [hp]
      have : 2 ^ j ≤ 2 ^ 61 := Nat.pow_le_pow_right (by decide) (by omega)
      simpa using this
    rw [← hp]
    have HP := Aside0.mk hp
    clear hp
    obtain ⟨d, hd⟩ : ∃ d, d = n - j := ⟨_, rfl⟩
    rw [← hd]
    have HD := Aside0.mk hd
    by_cases hlt : j < n
    · have hd1 : decide (0 < d) = true := decide_eq_true (by omega)
      have hd2 : 1 ≤ d := by omega
      have hdn : d ≤ 62 := by omega
      have hp' := hpb hlt
      have HJ := Aside0.mk hlt
      clear hd hpb hlt
      go_wp2
      go_round
      case rel =>
        refine ⟨j + 1, by have := HJ.out; omega, ?_, ?_⟩
        · have := HD.out; have := HJ.out; congr 1; omega
        · have := HP.out; rw [Nat.pow_succ]; congr 1; omega
      case measure => simp [intOf]; omega
    · have hd1 : decide (0 < d) = false := decide_eq_false (by omega)
      have hd0 : d = 0 := by omega
      have HJ : Aside0 (j = n) := ⟨by omega⟩
      clear hd hpb hlt hd0
      go_wp2
      go_ret
      rw [HP.out, HJ.out]
      exact ⟨rfl, rfl⟩
theorem grown_slice {w : World} {base e n : Nat} {v : Value} {xs : List Value} (h : w.ownsRow base e 1 v (n + 1) xs) : ∃ b cap, v = .slice (some ⟨b, 0, none⟩) (n + 1) cap := by
  rcases h.2 with ⟨_, h⟩ | ⟨b, cap, _, h, _⟩
  · omega
  · exact ⟨b, cap, h⟩
/-- The reference's writer: its row of bytes is the call's own. -/
def IsOut (base : Nat) (W : World) (g : Nat) (v : Value) (bs : List Int) (l f : Nat) : Prop :=
  W.heap[g]? = some (.cells #[v, .int .i64 (l : Int), .int .i64 (f : Int)] 78 (0, 0)) ∧ base ≤ g ∧ W.ownsRow base 5 1 v bs.length (nums .u8 bs) ∧ v.ownBlock ≠ some g
theorem IsOut.grown {base : Nat} {W : World} {g b cap : Nat} {x y z : Value} {bs : List Int} {c : Int} (hb : W.heap[g]? = some (.cells #[x, y, z] 78 (0, 0))) (hge : base ≤ g)
    (hown : W.ownsRow base 5 1 (.slice (some ⟨b, 0, none⟩) (bs.length + 1) cap) (bs.length + 1) (nums .u8 bs ++ [.int .u8 c])) (l2 f2 : Nat) :
    IsOut base (((W.setCell ⟨g, 0, none⟩ (.slice (some ⟨b, 0, none⟩) (bs.length + 1) cap)).setCell ⟨g, 1, none⟩ (.int .i64 (l2 : Int))).setCell ⟨g, 2, none⟩ (.int .i64 (f2 : Int))) g (.slice (some ⟨b, 0, none⟩) (bs.length + 1) cap) (bs ++ [c]) l2 f2 := by
  have hbg : b ≠ g := by
    rcases hown.2 with ⟨h, _⟩ | ⟨b', cap', cur, h, _, hbc, _⟩
    · cases h
    · injection h with h1 h2 h3
      injection h1 with h1
      injection h1 with h1
      subst h1
      rintro rfl
      rw [hb] at hbc
      injection hbc with hbc
      injection hbc with _ h
      exact absurd h (by decide)
  have hne : (Value.slice (some ⟨b, 0, none⟩) (bs.length + 1) cap).ownBlock ≠ some g := by simp [Value.ownBlock]; exact hbg
  refine ⟨blk_set (blk_set (blk_set hb 0 _) 1 (.int .i64 (l2 : Int))) 2 (.int .i64 (f2 : Int)), hge, ?_, hne⟩
  have hk : ∀ (X : World) (j : Nat) (u : Value), X.ownsRow base 5 1 (.slice (some ⟨b, 0, none⟩) (bs.length + 1) cap) (bs.length + 1) (nums .u8 bs ++ [.int .u8 c]) → (X.setCell ⟨g, j, none⟩ u).ownsRow base 5 1 (.slice (some ⟨b, 0, none⟩) (bs.length + 1) cap) (bs.length + 1) (nums .u8 bs ++ [.int .u8 c]) :=
    fun X j u h => h.kept (row := some g) ⟨rfl, rfl, rfl, by simp, fun k _ hk => heap_setCell_other _ ⟨g, j, none⟩ k _ (fun e => hk (by simp [e]))⟩ (.inr hne)
  have h3 := hk _ 2 (.int .i64 (f2 : Int)) (hk _ 1 (.int .i64 (l2 : Int)) (hk _ 0 (.slice (some ⟨b, 0, none⟩) (bs.length + 1) cap) hown))
  simpa [nums] using h3
structure OSt where
  bs : List Int
  l : Nat
  f : Nat
def oone (x : Nat) (s : OSt) : OSt :=
  if s.f = 7 then ⟨s.bs ++ [((s.l + x % 2 * 2 ^ s.f : Nat) : Int) % 256], 0, 0⟩ else ⟨s.bs, s.l + x % 2 * 2 ^ s.f, s.f + 1⟩
def oones : Nat → Nat → OSt → OSt
  | _, 0, s => s
  | x, k + 1, s => oone (x / 2 ^ k) (oones x k s)
def OGood (s : OSt) : Prop := s.f ≤ 7 ∧ s.l < 2 ^ s.f
theorem oone_good (x : Nat) (s : OSt) (h : OGood s) : OGood (oone x s) := by
  unfold OGood oone at *
  split
  · exact ⟨by simp, by simp⟩
  · refine ⟨by simp only []; omega, ?_⟩
    simp only [Nat.pow_succ]
    have : x % 2 * 2 ^ s.f ≤ 1 * 2 ^ s.f := Nat.mul_le_mul_right _ (by omega)
    omega
theorem oones_good (x : Nat) (s : OSt) (h : OGood s) : ∀ k, OGood (oones x k s)
  | 0 => h
  | k + 1 => oone_good _ _ (oones_good x s h k)
theorem oone_len (x : Nat) (s : OSt) : (oone x s).bs.length ≤ s.bs.length + 1 := by
  unfold oone; split <;> simp
theorem oones_len (x : Nat) (s : OSt) : ∀ k, (oones x k s).bs.length ≤ s.bs.length + k
  | 0 => Nat.le_refl _
  | k + 1 => by have := oone_len (x / 2 ^ k) (oones x k s); have := oones_len x s k; rw [oones]; omega
theorem IsOut.set {base : Nat} {W : World} {g : Nat} {v : Value} {bs : List Int} {l f : Nat} (h : IsOut base W g v bs l f) (l2 f2 : Nat) :
    IsOut base (((W.setCell ⟨g, 1, none⟩ (.int .i64 (l2 : Int))).setCell ⟨g, 2, none⟩ (.int .i64 (f2 : Int)))) g v bs l2 f2 := by
  obtain ⟨hb, hge, hown, hne⟩ := h
  refine ⟨blk_set (blk_set hb 1 (.int .i64 (l2 : Int))) 2 (.int .i64 (f2 : Int)), hge, ?_, hne⟩
  have h1 := hown.kept (w' := W.setCell ⟨g, 1, none⟩ (.int .i64 (l2 : Int))) (row := some g) ⟨rfl, rfl, rfl, by simp, fun k _ hk => heap_setCell_other _ ⟨g, 1, none⟩ k _ (fun e => hk (by simp [e]))⟩ (.inr hne)
  exact h1.kept (row := some g) ⟨rfl, rfl, rfl, by simp, fun k _ hk => heap_setCell_other _ ⟨g, 2, none⟩ k _ (fun e => hk (by simp [e]))⟩ (.inr hne)
set_option maxHeartbeats 8000000 in
set_option maxRecDepth 100000 in
theorem oput_calls (x : Nat) (hx : x ≤ 65535) (n : Nat) (base : Nat) (W : World) (g : Nat) (v : Value) (s : OSt) (hI : IsOut base W g v s.bs s.l s.f) (hbase : base ≤ W.heap.size) (hn : n ≤ 16) (hm : s.bs.length ≤ 1000000) (hg : OGood s) :
    Calls Try.prog 48 #[.pointer (some ⟨g, 0, none⟩), .int .i64 (x : Int), .int .i64 (n : Int)] W fun e W' => ∃ v', e = .returned (.tuple #[]) ∧ IsOut base W' g v' (oones x n s).bs (oones x n s).l (oones x n s).f ∧ Below base W W' := by
  have HI := Aside0.mk hI
  clear hI
  have HG := Aside0.mk hg
  clear hg
  have HM := Aside0.mk hm
  clear hm
  obtain ⟨i0, hi, hz0, hz1, hz2⟩ := info_parts info_u8
  go_enter Try.func48, Try.ntmps48
  go_wp2
  go_loopw [1, 6] (fun v1 v6 wr => ∃ k : Nat, v6 = .int .i64 (k : Int) ∧ v1 = .int .i64 ((x / 2 ^ k : Nat) : Int) ∧ Aside0 (k ≤ n) ∧ Aside0 (∃ v', IsOut base wr g v' (oones x k s).bs (oones x k s).l (oones x k s).f) ∧ Aside0 (Below base W wr)) (fun _ v6 _ => n - (intOf v6).toNat)
  case atStart => exact ⟨0, rfl, by simp, ⟨Nat.zero_le _⟩, ⟨v, HI.out⟩, ⟨Below.refl _ _⟩⟩
  case round =>
    obtain ⟨k, rfl, rfl, hk, hI', hB⟩ := hrel
    by_cases hlt : k < n
    · have hdk : decide (k < n) = true := decide_eq_true hlt
      have HK1 : Aside0 (k + 1 ≤ n) := ⟨hlt⟩
      obtain ⟨v1, hv1⟩ := hI'.out
      clear hI'
      obtain ⟨s1, hs1⟩ : ∃ s1, s1 = oones x k s := ⟨_, rfl⟩
      have hG1 := oones_good x s HG.out k
      have hlen := oones_len x s k
      rw [← hs1] at hv1 hG1 hlen
      have hs := Aside0.mk hs1
      clear hs1
      obtain ⟨bs1, l1, f1⟩ := s1
      simp only [] at hv1 hlen
      have hG1 : f1 ≤ 7 ∧ l1 < 2 ^ f1 := hG1
      obtain ⟨p, hp⟩ : ∃ p, p = 2 ^ f1 := ⟨_, rfl⟩
      have hp128 : p ≤ 128 := by
        rw [hp]
        have : 2 ^ f1 ≤ 2 ^ 7 := Nat.pow_le_pow_right (by decide) hG1.1
        simpa using this
      have hpc := pow_calls f1 (by omega)
      rw [← hp] at hpc hG1
      obtain ⟨y, hy⟩ : ∃ y, y = x / 2 ^ k := ⟨_, rfl⟩
      rw [← hy]
      have hyb : y ≤ 65535 := by rw [hy]; exact Nat.le_trans (Nat.div_le_self _ _) hx
      obtain ⟨d, hd⟩ : ∃ d : Nat, d = y % 2 * p := ⟨_, rfl⟩
      have hdle : d ≤ p := by rw [hd]; have : y % 2 * p ≤ 1 * p := Nat.mul_le_mul_right _ (by omega); omega
      have hmul : IntKind.i64.wrap ((y : Int) % 2 * (p : Int)) = (d : Int) := by
        have e : (y : Int) % 2 * (p : Int) = (d : Int) := by rw [hd, Int.natCast_mul]; rfl
        rw [e]
        exact IntWalk.i64_in _ (by omega)
      have hadd : IntKind.i64.wrap ((l1 : Int) + (d : Int)) = ((l1 + d : Nat) : Int) := by
        rw [Int.natCast_add]
        exact IntWalk.i64_in _ (by omega)
      have htm : (y : Int).tmod 2 = (y : Int) % 2 := Int.tmod_eq_emod_of_nonneg (by omega)
      have hld : l1 + d ≤ 255 := by omega
      have hk16 : k ≤ 16 := by have := hk.out; omega
      have HP := Aside0.mk hp
      have HY := Aside0.mk hy
      have HD := Aside0.mk hd
      have HG1 := Aside0.mk hG1
      have HLEN := Aside0.mk hlen
      have HV := Aside0.mk hv1
      obtain ⟨hb1, hge, hown, hne⟩ := id hv1
      have hBsz : base ≤ wr.heap.size := by have := hB.out.size; omega
      have HGE := Aside0.mk hge
      have HNE := Aside0.mk hne
      have HO := Aside0.mk hown
      have c0 := (blk_cell hb1 0).trans rfl
      have c1 := (blk_cell hb1 1).trans rfl
      have c2 := (blk_cell hb1 2).trans rfl
      have f0 := blk_frozen hb1 0
      have f1_ := blk_frozen hb1 1
      have f2 := blk_frozen hb1 2
      clear hge hne hown hp hy hd hG1 hlen hlt hv1 hdle hb1
      go_wp2
      refine wp_region_still_tail 16 (by kernel_rfl) (by kernel_rfl) ?_
      simp only [List.take_succ_cons, List.take_zero, List.drop_succ_cons, List.drop_zero]
      repeat still_step
      still_call (hpc _)
      repeat still_step
      try refine wpStill_nil ?_
      change wpList _ _ _ _ _ wr.drew
      have hf7 : f1 ≤ 7 := HG1.out.1
      by_cases h7 : f1 = 7
      · have h7b : (((f1 : Int) + 1) == 8) = true := by simp; omega
        have H7 := Aside0.mk h7
        clear h7
        go_wp2
        have hv2 := HV.out.set (l1 + d) (f1 + 1)
        have hB2 : Below base W ((wr.setCell ⟨g, 1, none⟩ (.int .i64 ((l1 + d : Nat) : Int))).setCell ⟨g, 2, none⟩ (.int .i64 ((f1 + 1 : Nat) : Int))).drew := ((hB.out.setCell HGE.out _).setCell HGE.out _).drew
        obtain ⟨w2, hw2⟩ : ∃ w2, w2 = ((wr.setCell ⟨g, 1, none⟩ (.int .i64 ((l1 + d : Nat) : Int))).setCell ⟨g, 2, none⟩ (.int .i64 ((f1 + 1 : Nat) : Int))).drew := ⟨_, rfl⟩
        rw [← hw2] at hB2
        have hv3 : IsOut base w2 g v1 bs1 (l1 + d) (f1 + 1) := by rw [hw2]; exact hv2
        rw [show ((wr.setCell ⟨g, 1, none⟩ (.int .i64 ((l1 : Int) + (d : Int)))).setCell ⟨g, 2, none⟩ (.int .i64 ((f1 : Int) + 1))).drew = w2 from hw2.symm]
        clear hw2 hv2 c0 c1 c2 f0 f1_ f2
        have HV3 := Aside0.mk hv3
        have HB3 := Aside0.mk hB2
        obtain ⟨hb1, hge, hown, hne⟩ := hv3
        have HO3 := Aside0.mk hown
        have hBsz2 : base ≤ w2.heap.size := by have := hB2.size; omega
        have c0 := (blk_cell hb1 0).trans rfl
        have c1 := (blk_cell hb1 1).trans rfl
        have c2 := (blk_cell hb1 2).trans rfl
        have f0 := blk_frozen hb1 0
        have f1_ := blk_frozen hb1 1
        have f2 := blk_frozen hb1 2
        have HBK := Aside0.mk hb1
        clear hb1 hge hown hne hB2
        have HO4 : Aside0 (w2.drew.ownsRow base 5 1 v1 bs1.length (nums .u8 bs1)) := ⟨own_drew HO3.out⟩
        have HB4 : Aside0 (Below base W w2.drew) := ⟨below_drew1 HB3.out⟩
        have hlb : (bs1.length + 1) * 1 ≤ 140737488355328 := by have := HLEN.out; have := HM.out; omega
        have HL4 := Aside0.mk hlb
        clear hlb
        have hal : ∀ o : Obj, (w2.alloc o).cell? ⟨g, 0, none⟩ = some v1 := fun o => (blk_cell (blk_below HBK.out (below_alloc (Below.refl _ _) o)) 0).trans rfl
        go_region_law ((refine step_append_cells (W := w2.drew) base (by rfl) (.tmp 47) (.tmp 53) 22 5 (.int .u8 0) 1 1 (by rfl) Try.underlying22 info_u8 (by rfl) (by decide) (by decide) v1 bs1.length (nums .u8 bs1) [.int .u8 (((l1 : Int) + (d : Int)) % 256)] (by rfl) (by rfl) (by rfl) (by intro u hu; simp at hu; subst hu; rfl) HO4.out HB4.out hBsz2 HL4.out ?_); intro va wa hown hBa hgr _; obtain ⟨b, cap, hva⟩ := grown_slice hown; subst hva; have hga := blk_grown (blk_drew HBK.out) hgr (Ne.symm HNE.out); have d0 := (blk_cell hga 0).trans rfl; have d1 := (blk_cell hga 1).trans rfl; have d2 := (blk_cell hga 2).trans rfl; have e0 := blk_frozen hga 0; have e1 := blk_frozen hga 1; have e2 := blk_frozen hga 2; have HOa := Aside0.mk hown; have HBa := Aside0.mk hBa; have HGA := Aside0.mk hga; clear hown hBa hgr hga)
        all_goals
          clear c0 c1 c2 f0 f1_ f2 hal
          go_wp2
        all_goals
          refine ⟨⟨k + 1, rfl, ?_, HK1, ⟨.slice (some ⟨b, 0, none⟩) (bs1.length + 1) cap, ?_⟩, ⟨((HBa.out.setCell HGE.out _).setCell HGE.out _).setCell HGE.out _⟩⟩, by have := HK1.out; simp [intOf]; omega⟩
          · rw [Nat.pow_succ, ← Nat.div_div_eq_div_mul, ← HY.out]; rfl
          · have h9 : f1 = 7 := H7.out
            have h8 := IsOut.grown HGA.out HGE.out HOa.out 0 0
            rw [oones, ← hs.out, ← HY.out]
            simp only [oone, if_pos h9, ← HP.out, ← HD.out]
            exact h8
      · have h7b : (((f1 : Int) + 1) == 8) = false := by simp; omega
        have H7 := Aside0.mk h7
        clear h7
        go_wp2
        refine ⟨⟨k + 1, rfl, ?_, HK1, ⟨v1, ?_⟩, ⟨((hB.out.setCell HGE.out _).setCell HGE.out _).drew⟩⟩, by have := HK1.out; simp [intOf]; omega⟩
        · rw [Nat.pow_succ, ← Nat.div_div_eq_div_mul, ← HY.out]; rfl
        · have h9 : ¬ f1 = 7 := H7.out
          have h8 := HV.out.set (l1 + d) (f1 + 1)
          rw [oones, ← hs.out, ← HY.out]
          simp only [oone, if_neg h9, ← HP.out, ← HD.out]
          exact h8
    · have hdk : decide (k < n) = false := decide_eq_false hlt
      have hkn : k = n := by have := hk.out; omega
      subst hkn
      go_wp2
      go_end0
      obtain ⟨v2, hv2⟩ := hI'.out
      first | exact ⟨v2, rfl, hv2, hB.out⟩ | exact ⟨rfl, ⟨v2, hv2⟩, hB.out⟩
def owhole (s : OSt) : OSt := if 0 < s.f then oones 0 (8 - s.f) s else s
def specSt (l : List S49) (s : OSt) : OSt := l.foldl (fun s p => oones p.f0.toNat p.f1.toNat s) s
def spec_BitsPut.f (k : Nat) (l0 : List S49) : Option ByteArray :=
  (spec_l1Pieces.f k l0).bind fun t => if t = true then (if fitB l0 = true then some (strOfNums (owhole (specSt l0 ⟨[], 0, 0⟩)).bs) else none) else some ⟨#[]⟩
theorem spec_BitsPut.mono : ∀ a0 k, LeO (spec_BitsPut.f k a0) (spec_BitsPut.f (k + 1) a0) := by
  intro a0 k
  unfold spec_BitsPut.f
  exact LeO.bind (spec_l1Pieces.mono _ _) (fun _ => LeO.refl _)
theorem specSt_take (l : List S49) (s : OSt) {i : Nat} (hi : i < l.length) : specSt (l.take (i + 1)) s = oones (rd_T49 l (i : Int)).f0.toNat (rd_T49 l (i : Int)).f1.toNat (specSt (l.take i) s) := by
  have e : rd_T49 l (i : Int) = l[i] := by simp [rd_T49, List.getElem?_eq_getElem hi]
  unfold specSt
  rw [List.take_succ_eq_append_getElem hi, List.foldl_append, e]
  rfl
theorem specSt_good (l : List S49) (s : OSt) (h : OGood s) : OGood (specSt l s) := by
  induction l generalizing s with
  | nil => exact h
  | cons p l ih => exact ih _ (oones_good _ _ h _)
theorem specSt_len {l : List S49} (h : fitB l = true) : ∀ i, i ≤ l.length → (specSt (l.take i) ⟨[], 0, 0⟩).bs.length ≤ 16 * i := by
  intro i
  induction i with
  | zero => intro _; simp [specSt]
  | succ i ih =>
    intro hi
    obtain ⟨n, hn, hn16, _⟩ := fit_at h (i := i) (by omega)
    rw [specSt_take l _ (by omega), hn, Int.toNat_natCast]
    have := ih (by omega)
    have := oones_len (rd_T49 l (i : Int)).f0.toNat (specSt (l.take i) ⟨[], 0, 0⟩) n
    omega
theorem IsOut.below {base : Nat} {W W1 : World} {g : Nat} {v : Value} {bs : List Int} {l f : Nat} (h : IsOut base W g v bs l f) (hb : Below W.heap.size W W1) : IsOut base W1 g v bs l f :=
  ⟨blk_below h.1 hb, h.2.1, pw_own_below h.2.2.1 hb, h.2.2.2⟩
set_option maxHeartbeats 800000 in
set_option maxRecDepth 100000 in
theorem whole_calls (base : Nat) (W : World) (g : Nat) (v : Value) (s : OSt) (hI : IsOut base W g v s.bs s.l s.f) (hbase : base ≤ W.heap.size) (hm : s.bs.length ≤ 1000000) (hg : OGood s) :
    Calls Try.prog 49 #[.pointer (some ⟨g, 0, none⟩)] W fun e W' => ∃ v', e = .returned (.tuple #[]) ∧ IsOut base W' g v' (owhole s).bs (owhole s).l (owhole s).f ∧ Below base W W' := by
  obtain ⟨f, hf⟩ : ∃ f, f = s.f := ⟨_, rfl⟩
  have hb1 := hI.1
  rw [← hf] at hb1
  have hf7 : f ≤ 7 := by rw [hf]; exact hg.1
  have HF := Aside0.mk hf
  have HI := Aside0.mk hI
  have HG := Aside0.mk hg
  have HM := Aside0.mk hm
  have c2 := (blk_cell hb1 2).trans rfl
  clear hf hI hg hm hb1
  by_cases h0 : 0 < f
  · have d0 : decide (0 < f) = true := decide_eq_true h0
    have e8 : IntKind.i64.wrap (8 - (f : Int)) = ((8 - f : Nat) : Int) := by rw [IntWalk.i64_in _ (by omega)]; omega
    have e8' : wrap64 (8 - (f : Int)) = ((8 - f : Nat) : Int) := (i64_w _).symm.trans e8
    have e8s : (8 : Int) - (f : Int) = ((8 - f : Nat) : Int) := by omega
    go_enter Try.func49, Try.ntmps49
    go_wp2_with fail
    refine (oput_calls 0 (by decide) (8 - f) base _ g v s HI.out hbase (by omega) HM.out HG.out).mono ?_
    rintro e w9 ⟨v2, rfl, hi, hb2⟩
    have HI2 := Aside0.mk hi
    have HB2 := Aside0.mk hb2
    clear hi hb2
    go_wp2
    go_end0
    refine ⟨v2, rfl, ?_, HB2.out⟩
    have := HI2.out
    rw [HF.out] at this
    unfold owhole
    rw [if_pos (by rw [← HF.out]; exact h0)]
    exact this
  · have d0 : decide (0 < f) = false := decide_eq_false h0
    have hz : s.f = 0 := by rw [← HF.out]; omega
    have HZ := Aside0.mk hz
    clear hz h0 hf7
    go_enter Try.func49, Try.ntmps49
    go_wp2
    go_end0
    have h1 : owhole s = s := by unfold owhole; rw [if_neg (by rw [HZ.out]; decide)]
    first | exact ⟨v, rfl, by rw [h1]; exact HI.out, Below.refl _ _⟩ | exact ⟨rfl, ⟨v, by rw [h1]; exact HI.out⟩, Below.refl _ _⟩
set_option maxHeartbeats 8000000 in
set_option maxRecDepth 100000 in
theorem spec_BitsPut.calls (k : Nat) (A0 : Option Addr) (c0 : Nat) (l0 : List S49) (r : ByteArray) (w : World) (hr0 : Kd.C k49 w A0 l0.length l0) (hc0 : l0.length ≤ c0) (h : spec_BitsPut.f k l0 = some r) :
    Calls Try.prog 35 #[.slice A0 l0.length c0] w fun e w' => e = .returned (.string r) ∧ Below w.heap.size w w' := by
  have hu49 := Try.underlying49
  have hu78 := Try.underlying78
  have HR0 := Aside0.mk hr0
  have HC0 := Aside0.mk hc0
  clear hr0 hc0
  have HB := Aside0.mk (Below.refl w.heap.size w)
  unfold spec_BitsPut.f at h
  obtain ⟨t, A20, H⟩ := Option.bind_eq_some_iff.mp h
  clear h
  have A2 := Aside0.mk A20
  clear A20
  cases t with
  | true =>
    rw [if_pos rfl] at H
    by_cases hf : fitB l0 = true
    · rw [if_pos hf] at H
      obtain rfl := Option.some.inj H
      clear H
      have HF := Aside0.mk hf
      clear hf
      go_enter Try.func35, Try.ntmps35
      go_wp2_with (first | ((with_reducible refine gate_callee (f := 47) rfl ?_); refine goesL_ (some 6) rfl rfl Try.func47 (by kernel_rfl) rfl #[.slice A0 l0.length c0] rfl (by (try simp only [List.map_toArray, List.map_cons, List.map_nil]); first | done | rfl) ?_; (with_reducible refine (spec_l1Pieces.calls k _ _ l0 true _ ?side1 ?side2 A2.out).mono ?_); (case side1 => exact HR0.out); (case side2 => exact HC0.out); rintro e w4 ⟨rfl, hb⟩; refine ⟨_, rfl, ?_⟩; have n0_ := Aside0.mk (below_step HB.out hb); clear HB; have HB := n0_; clear n0_; clear hb) | ((with_reducible refine gate_dst (N := 9) rfl ?_); refine box_event ?hg (N := 9) ?hd (cs := #[.slice none 0 0, .int .i64 0, .int .i64 0]) (t := 78) ?hr ?_; (case hd => rfl); (case hg => rfl); (case hr => first | (go_simp; done) | (go_simp; rfl)); intro g hg w5 hbox hb; have hge : w.heap.size ≤ g := (by rw [hg]; exact below_size HB.out); have n0_ := Aside0.mk (below_step HB.out hb); clear HB; have HB := n0_; clear n0_; have HI := Aside0.mk (show IsOut w.heap.size w5 g (.slice none 0 0) [] 0 0 from ⟨hbox, hge, own_nil _ _ _ _, by simp [Value.ownBlock]⟩); clear hb hbox hg hge))
      go_loopw [4] (fun v4 wr => ∃ x : Int, v4 = .int .i64 x ∧ Aside0 (0 ≤ x ∧ x ≤ (l0.length : Int)) ∧ Aside0 (∃ v, IsOut w.heap.size wr g v (specSt (l0.take x.toNat) ⟨[], 0, 0⟩).bs (specSt (l0.take x.toNat) ⟨[], 0, 0⟩).l (specSt (l0.take x.toNat) ⟨[], 0, 0⟩).f) ∧ Aside0 (Below w.heap.size w wr)) (fun v4 _ => l0.length - (intOf v4).toNat)
      case atStart => exact ⟨0, rfl, ⟨by omega⟩, ⟨_, HI.out⟩, HB⟩
      case round =>
        clear HI HB
        obtain ⟨x, rfl, hx, hI', HB⟩ := hrel
        obtain ⟨v1, hv1⟩ := hI'.out
        clear hI'
        by_cases hlt : x < (l0.length : Int)
        · have c5 : decide (x < (l0.length : Int)) = true := decide_eq_true hlt
          have hx0 : 0 ≤ x := hx.out.1
          obtain ⟨n, hn, hn16, hn0, hn1⟩ := fit_at HF.out (i := x.toNat) (by omega)
          have hst := specSt_take l0 ⟨[], 0, 0⟩ (i := x.toNat) (by omega)
          have hgood := specSt_good (l0.take x.toNat) ⟨[], 0, 0⟩ ⟨by decide, by decide⟩
          have hsnd := specSt_len HF.out x.toNat (by omega)
          rw [show ((x.toNat : Nat) : Int) = x by omega] at hn hst hn0 hn1
          obtain ⟨s1, hs1⟩ : ∃ s1, s1 = specSt (l0.take x.toNat) ⟨[], 0, 0⟩ := ⟨_, rfl⟩
          rw [← hs1] at hv1 hst hgood hsnd
          obtain ⟨ad, e, q0, q1⟩ := at_T49 HR0.out x hx0 hlt
          cases e
          obtain ⟨num, hnum⟩ : ∃ num : Nat, (rd_T49 l0 x).f0 = (num : Int) := ⟨(rd_T49 l0 x).f0.toNat, by omega⟩
          have hnb : num ≤ 65535 := by omega
          rw [hn] at q1 hst
          rw [hnum] at q0 hst
          replace q0 := (HB.out.cell (World.block_lt_of_cell? w _ q0)).trans q0
          replace q1 := (HB.out.cell (World.block_lt_of_cell? w _ q1)).trans q1
          have p170 := eq_true hx0
          have q170 := eq_true hlt
          have HV := Aside0.mk hv1
          have HST := Aside0.mk hst
          have HGOOD := Aside0.mk hgood
          have HM := Aside0.mk (show s1.bs.length ≤ 1000000 by have hl := fit_len HF.out; omega)
          have HX1 : Aside0 (0 ≤ x + 1 ∧ x + 1 ≤ (l0.length : Int)) := ⟨by omega⟩
          have HX2 : Aside0 ((x + 1).toNat = x.toNat + 1) := ⟨by omega⟩
          have HX3 : Aside0 (l0.length - (x + 1).toNat < l0.length - x.toNat) := ⟨by omega⟩
          have HN := Aside0.mk hn16
          have HNB := Aside0.mk hnb
          have HBS := Aside0.mk (below_size HB.out)
          have hwx : IntKind.i64.wrap (x + 1) = x + 1 := IntWalk.i64_in _ (by have hl := fit_len HF.out; omega)
          have hwx' : wrap64 (x + 1) = x + 1 := (i64_w _).symm.trans hwx
          clear hst hgood hsnd hv1 hs1 hn hnum hlt hx0 hx hn0 hn1 hn16 hnb
          go_wp2
          go_still_tail 11, (by kernel_rfl)
          change wpList _ _ _ _ _ wr.drew
          go_wp2_with fail
          refine (oput_calls num HNB.out n w.heap.size _ g v1 s1 (show IsOut _ wr.drew _ _ _ _ _ from HV.out) HBS.out HN.out HM.out HGOOD.out).mono ?_
          rintro e w9 ⟨v2, rfl, hi, hb2⟩
          have HI2 := Aside0.mk hi
          have HB2 := Aside0.mk ((below_drew1 HB.out).trans hb2)
          clear hi hb2
          go_wp2
          refine ⟨⟨x + 1, rfl, HX1, ⟨v2, ?_⟩, HB2⟩, HX3.out⟩
          rw [HX2.out, HST.out, Int.toNat_natCast, Int.toNat_natCast]
          exact HI2.out
        · have c5 : decide (x < (l0.length : Int)) = false := decide_eq_false hlt
          have hxl : x.toNat = l0.length := by have := hx.out; omega
          rw [hxl, List.take_length] at hv1
          have hgood := specSt_good l0 ⟨[], 0, 0⟩ ⟨by decide, by decide⟩
          have hsnd := specSt_len HF.out l0.length (Nat.le_refl _)
          rw [List.take_length] at hsnd
          have hl := fit_len HF.out
          have HV := Aside0.mk hv1
          have HGOOD := Aside0.mk hgood
          have HM : Aside0 ((specSt l0 ⟨[], 0, 0⟩).bs.length ≤ 1000000) := ⟨by omega⟩
          have HBS := Aside0.mk (below_size HB.out)
          clear hv1 hgood hsnd hl hxl hlt hx
          go_wp2_with fail
          refine (whole_calls w.heap.size _ g v1 (specSt l0 ⟨[], 0, 0⟩) HV.out HBS.out HM.out HGOOD.out).mono ?_
          rintro e w9 ⟨v2, rfl, hi, hb2⟩
          have HB2 := Aside0.mk (HB.out.trans hb2)
          obtain ⟨bs1, hbs1⟩ : ∃ b, b = (owhole (specSt l0 ⟨[], 0, 0⟩)).bs := ⟨_, rfl⟩
          rw [← hbs1] at hi
          have HBB := Aside0.mk hbs1
          obtain ⟨hb1, _, hown, _⟩ := id hi
          have d0 := (blk_cell hb1 0).trans rfl
          have hcv := own_string (P := Try.prog) Try.underlying22 Try.underlying5 Try.underlying9 hown
          clear hbs1 hi hb1 hown hb2
          go_wp2
          go_ret
          exact ⟨by rw [HBB.out]; rfl, HB2.out⟩
    · rw [if_neg hf] at H
      cases H
  | false =>
    rw [if_neg (by decide)] at H
    obtain rfl := Option.some.inj H
    clear H
    go_enter Try.func35, Try.ntmps35
    go_wp2_with (((with_reducible refine gate_callee (f := 47) rfl ?_); refine goesL_ (some 6) rfl rfl Try.func47 (by kernel_rfl) rfl #[.slice A0 l0.length c0] rfl (by (try simp only [List.map_toArray, List.map_cons, List.map_nil]); first | done | rfl) ?_; (with_reducible refine (spec_l1Pieces.calls k _ _ l0 false _ ?side1 ?side2 A2.out).mono ?_); (case side1 => exact HR0.out); (case side2 => exact HC0.out); rintro e w4 ⟨rfl, hb⟩; refine ⟨_, rfl, ?_⟩; have n0_ := Aside0.mk (below_step HB.out hb); clear HB; have HB := n0_; clear n0_; clear hb))
    go_ret
    exact ⟨rfl, HB.out⟩

end Go.Proofs.Ytcbehpemhkfieaa.PAll
