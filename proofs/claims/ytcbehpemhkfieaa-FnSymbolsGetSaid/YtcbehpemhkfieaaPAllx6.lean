-- Written by a program of this session, over the kit's print. Not trusted: Lean checks it.
import Derived.Test.YtcbehpemhkfieaaPAllx0
import Derived.Test.YtcbehpemhkfieaaPAllx4
import Derived.Test.YtcbehpemhkfieaaPAllx5
namespace Go.Proofs.Ytcbehpemhkfieaa.PAll
open Go.RowKit Go.Proofs.YtcbehpemhkfieaaW.PrintWords Go.Proofs.YtcbehpemhkfieaaW.PrintLast Go.Proofs.YtcbehpemhkfieaaW.PrintMore
attribute [local go_sem] max2_int min2_int max_two min_two max_three min_three max_four min_four   -- for this text's walks alone
set_option linter.unusedVariables false
set_option linter.unusedSimpArgs false

/-! ### spec_l3Lens: function 53 -/
mutual
def spec_l3Lens.l0 : Nat → List Int → List Int → List (S81) → Int → Option (List Int)
  | 0, _, _, _, _ => none
  | k + 1, x0, x3, x4, x5 => if x5 < (x0.length : Int) then (if 0 ≤ x5 then (if (rd x0 x5) > 0 then (if x4.length < 3518437208883 then (spec_l3Lens.l0 k x0 x3 (x4 ++ [(⟨rd x0 x5, x5, (([x5] : List Int))⟩ : S81)]) (wrap64 (x5 + 1))) else (none)) else (spec_l3Lens.l0 k x0 x3 x4 (wrap64 (x5 + 1)))) else (none)) else (if (x4.length : Int) = 1 then (if 0 < (x4.length : Int) then (if 0 ≤ ((rd_T81 x4 0).f1) then (if ((rd_T81 x4 0).f1) < (x3.length : Int) then (spec_l3Lens.j1 k (x3.set (((rd_T81 x4 0).f1) : Int).toNat 1) x4) else (none)) else (none)) else (none)) else (spec_l3Lens.j1 k x3 x4))
def spec_l3Lens.j1 : Nat → List Int → List (S81) → Option (List Int)
  | 0, _, _ => none
  | k + 1, x3, x4 => spec_l3Lens.l1 k x3 x4
def spec_l3Lens.l1 : Nat → List Int → List (S81) → Option (List Int)
  | 0, _, _ => none
  | k + 1, x3, x4 => if (x4.length : Int) > 1 then ((spec_l3Least.f k x4).bind fun t152 => (if 0 ≤ t152 then (if t152 < (x4.length : Int) then ((spec_l3Less.f x4 t152).bind fun t155 => ((spec_l3Least.f k t155).bind fun t158 => (if 0 ≤ t158 then (if t158 < (t155.length : Int) then ((spec_l3Less.f t155 t158).bind fun t161 => (if ((rd_T81 t155 t158).f1) < ((rd_T81 x4 t152).f1) then ((some (([] : List Int) : List Int)).bind fun y164 => (if y164.length + ((rd_T81 x4 t152).f2).length < 17592186044416 then ((some (y164 ++ ((rd_T81 x4 t152).f2) : List Int)).bind fun y167 => (if y167.length + ((rd_T81 t155 t158).f2).length < 17592186044416 then (spec_l3Lens.l2 k x3 t161 ((rd_T81 t155 t158).f1) (y167 ++ ((rd_T81 t155 t158).f2)) 0 ((rd_T81 x4 t152).f0) ((rd_T81 x4 t152).f1) ((rd_T81 x4 t152).f2) ((rd_T81 t155 t158).f0) ((rd_T81 t155 t158).f1) ((rd_T81 t155 t158).f2)) else (none))) else (none))) else ((some (([] : List Int) : List Int)).bind fun y180 => (if y180.length + ((rd_T81 x4 t152).f2).length < 17592186044416 then ((some (y180 ++ ((rd_T81 x4 t152).f2) : List Int)).bind fun y183 => (if y183.length + ((rd_T81 t155 t158).f2).length < 17592186044416 then (spec_l3Lens.l2 k x3 t161 ((rd_T81 x4 t152).f1) (y183 ++ ((rd_T81 t155 t158).f2)) 0 ((rd_T81 x4 t152).f0) ((rd_T81 x4 t152).f1) ((rd_T81 x4 t152).f2) ((rd_T81 t155 t158).f0) ((rd_T81 t155 t158).f1) ((rd_T81 t155 t158).f2)) else (none))) else (none))))) else (none)) else (none)))) else (none)) else (none))) else (some x3)
def spec_l3Lens.l2 : Nat → List Int → List (S81) → Int → List Int → Int → Int → Int → List Int → Int → Int → List Int → Option (List Int)
  | 0, _, _, _, _, _, _, _, _, _, _, _ => none
  | k + 1, x3, x4, x9, x10, x11, x155000, x155001, x155002, x161000, x161001, x161002 => if x11 < (x10.length : Int) then (if 0 ≤ x11 then (if 0 ≤ (rd x10 x11) then (if (rd x10 x11) < (x3.length : Int) then (spec_l3Lens.l2 k (x3.set ((rd x10 x11) : Int).toNat (wrap64 ((rd x3 (rd x10 x11)) + 1))) x4 x9 x10 (wrap64 (x11 + 1)) x155000 x155001 x155002 x161000 x161001 x161002) else (none)) else (none)) else (none)) else (if x4.length < 3518437208883 then (spec_l3Lens.l1 k x3 (x4 ++ [(⟨wrap64 (x155000 + x161000), x9, x10⟩ : S81)])) else (none))
end
def spec_l3Lens.f (k : Nat) (l0 : List Int) : Option (List Int) := if 0 ≤ (l0.length : Int) then (if ((l0.length : Int) : Int).toNat ≤ 35184372088832 then (spec_l3Lens.l0 k l0 (List.replicate ((l0.length : Int) : Int).toNat 0) (([] : List (S81))) 0) else (none)) else (none)
theorem spec_l3Lens.mono_l : ∀ k, (∀ y0 y1 y2 y3, LeO (spec_l3Lens.l0 k y0 y1 y2 y3) (spec_l3Lens.l0 (k + 1) y0 y1 y2 y3)) ∧ (∀ y0 y1, LeO (spec_l3Lens.j1 k y0 y1) (spec_l3Lens.j1 (k + 1) y0 y1)) ∧ (∀ y0 y1, LeO (spec_l3Lens.l1 k y0 y1) (spec_l3Lens.l1 (k + 1) y0 y1)) ∧ (∀ y0 y1 y2 y3 y4 y5 y6 y7 y8 y9 y10, LeO (spec_l3Lens.l2 k y0 y1 y2 y3 y4 y5 y6 y7 y8 y9 y10) (spec_l3Lens.l2 (k + 1) y0 y1 y2 y3 y4 y5 y6 y7 y8 y9 y10))
  | 0 => ⟨fun _ _ _ _ r h => by simp [spec_l3Lens.l0] at h, fun _ _ r h => by simp [spec_l3Lens.j1] at h, fun _ _ r h => by simp [spec_l3Lens.l1] at h, fun _ _ _ _ _ _ _ _ _ _ _ r h => by simp [spec_l3Lens.l2] at h⟩
  | k + 1 => by
    obtain ⟨ih0, ih1, ih2, ih3⟩ := spec_l3Lens.mono_l k
    refine ⟨?_, ?_, ?_, ?_⟩
    · intro y0 y1 y2 y3
      unfold spec_l3Lens.l0
      repeat' first
      | (with_reducible exact ih0 _ _ _ _)
      | (with_reducible exact ih1 _ _)
      | (with_reducible exact ih2 _ _)
      | (with_reducible exact ih3 _ _ _ _ _ _ _ _ _ _ _)
      | (with_reducible exact spec_l3Least.mono _ _)
      | (with_reducible exact LeO.refl _)
      | (with_reducible exact LeO.none _)
      | (with_reducible refine LeO.ite ?_ ?_)
      | (with_reducible refine LeO.bind ?_ (fun _ => ?_))
      | exact ih0 _ _ _ _
      | exact ih1 _ _
      | exact ih2 _ _
      | exact ih3 _ _ _ _ _ _ _ _ _ _ _
      | exact spec_l3Least.mono _ _
      | exact LeO.none _
      | refine LeO.ite ?_ ?_
      | refine LeO.bind ?_ (fun _ => ?_)
    · intro y0 y1
      unfold spec_l3Lens.j1
      repeat' first
      | (with_reducible exact ih0 _ _ _ _)
      | (with_reducible exact ih1 _ _)
      | (with_reducible exact ih2 _ _)
      | (with_reducible exact ih3 _ _ _ _ _ _ _ _ _ _ _)
      | (with_reducible exact spec_l3Least.mono _ _)
      | (with_reducible exact LeO.refl _)
      | (with_reducible exact LeO.none _)
      | (with_reducible refine LeO.ite ?_ ?_)
      | (with_reducible refine LeO.bind ?_ (fun _ => ?_))
      | exact ih0 _ _ _ _
      | exact ih1 _ _
      | exact ih2 _ _
      | exact ih3 _ _ _ _ _ _ _ _ _ _ _
      | exact spec_l3Least.mono _ _
      | exact LeO.none _
      | refine LeO.ite ?_ ?_
      | refine LeO.bind ?_ (fun _ => ?_)
    · intro y0 y1
      unfold spec_l3Lens.l1
      repeat' first
      | (with_reducible exact ih0 _ _ _ _)
      | (with_reducible exact ih1 _ _)
      | (with_reducible exact ih2 _ _)
      | (with_reducible exact ih3 _ _ _ _ _ _ _ _ _ _ _)
      | (with_reducible exact spec_l3Least.mono _ _)
      | (with_reducible exact LeO.refl _)
      | (with_reducible exact LeO.none _)
      | (with_reducible refine LeO.ite ?_ ?_)
      | (with_reducible refine LeO.bind ?_ (fun _ => ?_))
      | exact ih0 _ _ _ _
      | exact ih1 _ _
      | exact ih2 _ _
      | exact ih3 _ _ _ _ _ _ _ _ _ _ _
      | exact spec_l3Least.mono _ _
      | exact LeO.none _
      | refine LeO.ite ?_ ?_
      | refine LeO.bind ?_ (fun _ => ?_)
    · intro y0 y1 y2 y3 y4 y5 y6 y7 y8 y9 y10
      unfold spec_l3Lens.l2
      repeat' first
      | (with_reducible exact ih0 _ _ _ _)
      | (with_reducible exact ih1 _ _)
      | (with_reducible exact ih2 _ _)
      | (with_reducible exact ih3 _ _ _ _ _ _ _ _ _ _ _)
      | (with_reducible exact spec_l3Least.mono _ _)
      | (with_reducible exact LeO.refl _)
      | (with_reducible exact LeO.none _)
      | (with_reducible refine LeO.ite ?_ ?_)
      | (with_reducible refine LeO.bind ?_ (fun _ => ?_))
      | exact ih0 _ _ _ _
      | exact ih1 _ _
      | exact ih2 _ _
      | exact ih3 _ _ _ _ _ _ _ _ _ _ _
      | exact spec_l3Least.mono _ _
      | exact LeO.none _
      | refine LeO.ite ?_ ?_
      | refine LeO.bind ?_ (fun _ => ?_)
theorem spec_l3Lens.mono : ∀ a0 k, LeO (spec_l3Lens.f k a0) (spec_l3Lens.f (k + 1) a0) := by
  intro a0 k
  obtain ⟨ih0, ih1, ih2, ih3⟩ := spec_l3Lens.mono_l k
  unfold spec_l3Lens.f
  repeat' first
      | (with_reducible exact ih0 _ _ _ _)
      | (with_reducible exact ih1 _ _)
      | (with_reducible exact ih2 _ _)
      | (with_reducible exact ih3 _ _ _ _ _ _ _ _ _ _ _)
      | (with_reducible exact spec_l3Least.mono _ _)
      | (with_reducible exact LeO.refl _)
      | (with_reducible exact LeO.none _)
      | (with_reducible refine LeO.ite ?_ ?_)
      | (with_reducible refine LeO.bind ?_ (fun _ => ?_))
      | exact ih0 _ _ _ _
      | exact ih1 _ _
      | exact ih2 _ _
      | exact ih3 _ _ _ _ _ _ _ _ _ _ _
      | exact spec_l3Least.mono _ _
      | exact LeO.none _
      | refine LeO.ite ?_ ?_
      | refine LeO.bind ?_ (fun _ => ?_)
def spec_l3Lens.T20 : Bool × List (List Nat × List Nat) := (true, [([], []), ([], []), ([1], [1]), ([0, 2], [0, 2]), ([], []), ([4], [4]), ([3, 5, 3], [3, 5]), ([6, 6, 0, 1, 2, 3, 4, 5, 6], [6])])
def spec_l3Lens.B20 : List Nat := [0, 0, 2, 7, 0, 16, 63, 127]
theorem spec_l3Lens.tab20 : rtab .any (opsOf Try.f53 20) = spec_l3Lens.T20 := by kernel_rfl
theorem spec_l3Lens.bits20 : waitsOk spec_l3Lens.T20.2 spec_l3Lens.B20 = true := by kernel_rfl
def spec_l3Lens.T24 : Bool × List (List Nat × List Nat) := (true, [([], []), ([], []), ([], []), ([1, 2], [1, 2]), ([3], [3]), ([], []), ([], []), ([], []), ([6, 7], [6, 7]), ([8], [8]), ([5, 9], [5, 9]), ([10], [10]), ([11], [11]), ([0, 4, 0, 1, 2, 3, 4, 5, 6, 7, 8, 9, 10, 11, 12], [0, 4]), ([13, 12, 0, 1, 2, 3, 4, 5, 6, 7, 8, 9, 10, 11, 12], [12, 13])])
def spec_l3Lens.B24 : List Nat := [0, 0, 0, 6, 14, 0, 0, 0, 192, 448, 992, 2016, 4064, 8191, 16383]
theorem spec_l3Lens.tab24 : rtab .any (opsOf Try.f53 24) = spec_l3Lens.T24 := by kernel_rfl
theorem spec_l3Lens.bits24 : waitsOk spec_l3Lens.T24.2 spec_l3Lens.B24 = true := by kernel_rfl
set_option maxHeartbeats 8000000 in
set_option maxRecDepth 100000 in
theorem spec_l3Lens.calls (k : Nat) (A0 : Option Addr) (c0 : Nat) (l0 : List Int) (r : List Int) (w : World) (hr0 : Kd.C (Kd.int .i64) w A0 l0.length l0) (hc0 : l0.length ≤ c0) (h : spec_l3Lens.f k l0 = some r) :
    Calls Try.prog 53 #[.slice A0 l0.length c0] w fun e w' => ∃ v0_ : Value, e = .returned (v0_) ∧ Kd.R (Kd.int .i64) 3 w' w.heap.size (fun _ => True) v0_ r ∧ Below w.heap.size w w' := by
  have hu81 := Try.underlying81
  have HR0 := Aside0.mk hr0
  have HC0 := Aside0.mk hc0
  clear hr0 hc0
  have HB := Aside0.mk (Below.refl w.heap.size w)
  have H : (if 0 ≤ (l0.length : Int) then (if ((l0.length : Int) : Int).toNat ≤ 35184372088832 then (spec_l3Lens.l0 k l0 (List.replicate ((l0.length : Int) : Int).toNat 0) (([] : List (S81))) 0) else (none)) else (none)) = some r := h
  clear h
  by_cases c2 : 0 ≤ (l0.length : Int)
  · rw [if_pos c2] at H
    have c2b0 := eq_true c2
    have c2b1 : decide (0 ≤ (l0.length : Int)) = true := decide_eq_true c2
    clear c2
    by_cases c3 : ((l0.length : Int) : Int).toNat ≤ 35184372088832
    · rw [if_pos c3] at H
      have c3b0 := eq_true c3
      have c3b1 : decide (((l0.length : Int) : Int).toNat ≤ 35184372088832) = true := decide_eq_true c3
      clear c3
      obtain ⟨y136, hy136⟩ : ∃ y_ : List Int, y_ = (List.replicate ((l0.length : Int) : Int).toNat 0) := ⟨_, rfl⟩
      replace H : (spec_l3Lens.l0 k l0 y136 (([] : List (S81))) 0) = some r := by first | (rw [hy136]; with_reducible exact H) | (have H2_ := (Option.bind_some _ _).symm.trans H; rw [hy136]; with_reducible exact H2_) | (have H2_ := (Option.bind_some _ _).symm.trans H; with_reducible exact H2_) | with_reducible exact H | (rw [hy136]; exact H) | exact H
      have Ny136 := Aside0.mk hy136
      clear hy136
      obtain ⟨y139, hy139⟩ : ∃ y_ : List (S81), y_ = (([] : List (S81))) := ⟨_, rfl⟩
      replace H : (spec_l3Lens.l0 k l0 y136 y139 0) = some r := by first | (rw [hy139]; with_reducible exact H) | (have H2_ := (Option.bind_some _ _).symm.trans H; rw [hy139]; with_reducible exact H2_) | (have H2_ := (Option.bind_some _ _).symm.trans H; with_reducible exact H2_) | with_reducible exact H | (rw [hy139]; exact H) | exact H
      have Ny139 := Aside0.mk hy139
      clear hy139
      have H' := Aside0.mk H
      clear H
      go_enter Try.func53, Try.ntmps53
      go_wp2_with (first | ((with_reducible refine gate_dst (N := 14) rfl ?_); refine Kd.R_make (Kd.int .i64) _ 3 rfl (N := 14) rfl 23 _ _ rfl (l0.length : Int) rfl rfl Try.underlying23 (.int .i64 0) 8 info3 rfl (by decide) (by omega) 0 (ok := fun _ => True) (okp := fun _ => True) rfl (fun _ hk => hk) trivial (of_decide_eq_true (by first | (with_reducible assumption) | assumption)) (Nat.le_trans (Nat.mul_le_mul_right _ (of_decide_eq_true (by first | (with_reducible assumption) | assumption) : (l0.length : Int).toNat ≤ 35184372088832)) (by omega)) (Below.refl _ _) (Nat.le_refl _) ?_; intro v137 w4 ho5 hb hg_ hnew_; clear hg_ hnew_; (first | rw [← Ny136.out] at ho5 | (simp only [Int.reduceToNat] at ho5; rw [← Ny136.out] at ho5)); have n0_ := Aside0.mk (Kd.R_lower ho5 (below_size (by repeat (first | (with_reducible first | exact HB.out | apply below_alloc | apply pw_below_drewN | apply below_drew1) | exact HB.out)))); have n1_ := Aside0.mk (below_step (by repeat (first | (with_reducible first | exact HB.out | apply below_alloc | apply pw_below_drewN | apply below_drew1) | exact HB.out)) hb); clear HB; have HO138 := n0_; have HB := n1_; clear n0_ n1_; clear hb ho5) | ((with_reducible refine gate_dst (N := 15) rfl ?_); refine Kd.N_lit k81 _ 81 ?hg (N' := 15) ?hd (xs := ([] : List (S81))) (inner := []) (ok := (fun k_ => some k_ ≠ (v137 : Value).ownBlock)) (okp := (fun k_ => some k_ ≠ (v137 : Value).ownBlock)) ?hr ?hp (fun _ hk => hk) ((show ∀ k_, w4.heap.size ≤ k_ → (fun k_ => some k_ ≠ (v137 : Value).ownBlock) k_ from fun k_ hk => Kd.fresh' (Kd.R_lt (by (with_reducible repeat (first | apply Kd.R_alloc | apply Kd.R_drewN | apply Kd.R_drew)); exact HO138.out)) k_ hk) _ (Nat.le_refl _)) (Below.refl _ _) (Nat.le_refl _) (by simp) ?_; (case hd => rfl); (case hg => rfl); (case hr => first | (go_simp; done) | (go_simp; rfl)); (case hp => exact (Reps.none _ _)); intro v140 w6 ho7 hb hg_ hnew_; clear hg_ hnew_; (first | rw [← Ny139.out] at ho7 | (simp only [Int.reduceToNat] at ho7; rw [← Ny139.out] at ho7)); have n0_ := Aside0.mk (Kd.R_below (by (with_reducible repeat (first | apply Kd.R_alloc | apply Kd.R_drewN | apply Kd.R_drew)); exact HO138.out) hb); have n1_ := Aside0.mk (Kd.N_lower ho7 (below_size (by repeat (first | (with_reducible first | exact HB.out | apply below_alloc | apply pw_below_drewN | apply below_drew1) | exact HB.out)))); have n2_ := Aside0.mk (below_step (by repeat (first | (with_reducible first | exact HB.out | apply below_alloc | apply pw_below_drewN | apply below_drew1) | exact HB.out)) hb); clear HO138; clear HB; have HO138 := n0_; have HO141 := n1_; have HB := n2_; clear n0_ n1_ n2_; clear hb ho7))
      go_loopg [4, 5] k (fun kq v4 v5 w' => ∃ (x4_1 : List (S81)) (x5_1 : Int), v5 = .int .i64 x5_1 ∧ Aside0 (spec_l3Lens.l0 kq l0 y136 x4_1 x5_1 = some r) ∧ Aside0 (kq ≤ k) ∧ Aside0 (Kd.R (Kd.int .i64) 3 w' w.heap.size (fun _ => True) v137 y136) ∧ Aside0 (Kd.N k81 81 w' w.heap.size (fun k_ => some k_ ≠ (v137 : Value).ownBlock) v4 x4_1) ∧ Aside0 (Below w.heap.size w w'))
      case atStart => exact ⟨(y139), (0), (by first | rfl | (simp; done) | (simp [*]; done)), H', ⟨Nat.le_refl _⟩, ⟨by (with_reducible repeat (first | apply Kd.R_alloc | apply Kd.R_drewN | apply Kd.R_drew)); exact HO138.out⟩, ⟨by (with_reducible repeat (first | apply Kd.N_alloc | apply Kd.N_drewN | apply Kd.N_drew)); exact HO141.out⟩, ⟨by repeat (first | (with_reducible first | exact HB.out | apply below_alloc | apply pw_below_drewN | apply below_drew1) | exact HB.out)⟩⟩
      case round =>
        clear H'
        try clear c2
        try clear c2b0
        try clear c2b1
        try clear p2
        try clear c3
        try clear c3b0
        try clear c3b1
        try clear c5
        obtain ⟨x4_1, x5_1, rfl, HA, HK1, HO_3, HO_4, HB⟩ := hrel
        cases gk with
        | zero => exact absurd HA.out (by simp [spec_l3Lens.l0])
        | succ k1 =>
          have H := HA.out
          clear HA
          simp only [spec_l3Lens.l0] at H
          by_cases c8 : x5_1 < (l0.length : Int)
          · rw [if_pos c8] at H
            have c8b0 : decide (x5_1 < (l0.length : Int)) = true := decide_eq_true c8
            clear c8
            by_cases c9 : 0 ≤ x5_1
            · rw [if_pos c9] at H
              have c9b0 : decide (0 ≤ x5_1) = true := decide_eq_true c9
              clear c9
              by_cases c10 : (rd l0 x5_1) > 0
              · rw [if_pos c10] at H
                have c10b0 : decide (0 < (rd l0 x5_1)) = true := decide_eq_true c10
                clear c10
                obtain ⟨y144, hy144⟩ : ∃ y_ : List Int, y_ = (([x5_1] : List Int)) := ⟨_, rfl⟩
                replace H : (if x4_1.length < 3518437208883 then (spec_l3Lens.l0 k1 l0 y136 (x4_1 ++ [(⟨rd l0 x5_1, x5_1, y144⟩ : S81)]) (wrap64 (x5_1 + 1))) else (none)) = some r := by first | (rw [hy144]; with_reducible exact H) | (have H2_ := (Option.bind_some _ _).symm.trans H; rw [hy144]; with_reducible exact H2_) | (have H2_ := (Option.bind_some _ _).symm.trans H; with_reducible exact H2_) | with_reducible exact H | (rw [hy144]; exact H) | exact H
                have Ny144 := Aside0.mk hy144
                clear hy144
                by_cases c11 : x4_1.length < 3518437208883
                · rw [if_pos c11] at H
                  have LMc11 := Aside0.mk c11
                  clear c11
                  obtain ⟨y147, hy147⟩ : ∃ y_ : List (S81), y_ = (x4_1 ++ [(⟨rd l0 x5_1, x5_1, y144⟩ : S81)]) := ⟨_, rfl⟩
                  replace H : (spec_l3Lens.l0 k1 l0 y136 y147 (wrap64 (x5_1 + 1))) = some r := by first | (rw [hy147]; with_reducible exact H) | (have H2_ := (Option.bind_some _ _).symm.trans H; rw [hy147]; with_reducible exact H2_) | (have H2_ := (Option.bind_some _ _).symm.trans H; with_reducible exact H2_) | with_reducible exact H | (rw [hy147]; exact H) | exact H
                  have Ny147 := Aside0.mk hy147
                  clear hy147
                  have H' := Aside0.mk H
                  clear H
                  have p142 : 0 ≤ (x5_1 : Int) := of_decide_eq_true (by first | (with_reducible assumption) | assumption)
                  have q142 : x5_1 < (l0.length : Int) := of_decide_eq_true (by first | (with_reducible assumption) | assumption)
                  obtain ⟨ad142, e142, hx142_0⟩ := Kd.at_int HR0.out x5_1 p142 q142
                  cases e142
                  replace hx142_0 := (HB.out.cell (World.block_lt_of_cell? w _ hx142_0)).trans hx142_0
                  replace p142 := eq_true p142
                  replace q142 := eq_true q142
                  have p143 : 0 ≤ (x5_1 : Int) := of_decide_eq_true (by first | (with_reducible assumption) | assumption)
                  have q143 : x5_1 < (l0.length : Int) := of_decide_eq_true (by first | (with_reducible assumption) | assumption)
                  obtain ⟨ad143, e143, hx143_0⟩ := Kd.at_int HR0.out x5_1 p143 q143
                  obtain rfl : ad142 = ad143 := (by injection e143)
                  replace hx143_0 := (HB.out.cell (World.block_lt_of_cell? w _ hx143_0)).trans hx143_0
                  replace p143 := eq_true p143
                  replace q143 := eq_true q143
                  go_wp2_with (first | ((with_reducible refine gate_dst (N := 34) rfl ?_); refine Kd.R_lit (Kd.int .i64) _ 3 ?hg (N := 34) ?hd (xs := ([x5_1] : List Int)) (inner := [.int .i64 x5_1]) (ok := fun _ => True) (okp := fun _ => True) ?hr ?hp (fun _ hk => hk) trivial (Below.refl _ _) (Nat.le_refl _) (by simp) ?_; (case hd => rfl); (case hg => rfl); (case hr => first | (go_simp; done) | (go_simp; rfl)); (case hp => exact (Reps.one (show Kd.M (Kd.int .i64) _ _ _ x5_1 [.int .i64 x5_1] from rfl) (Reps.none _ _))); intro v145 w12 ho13 hb hg_ hnew_; clear hg_ hnew_; (first | rw [← Ny144.out] at ho13 | (simp only [Int.reduceToNat] at ho13; rw [← Ny144.out] at ho13)); have n0_ := Aside0.mk (Kd.R_elder' (by (with_reducible repeat (first | apply Kd.R_alloc | apply Kd.R_drewN | apply Kd.R_drew)); exact HO_3.out) (Kd.R_base ho13) hb); have n1_ := Aside0.mk (Kd.N_elder' (by (with_reducible repeat (first | apply Kd.N_alloc | apply Kd.N_drewN | apply Kd.N_drew)); exact HO_4.out) (Kd.R_base ho13) hb); have n2_ := Aside0.mk (Kd.R_lower (Kd.R_new' ho13 (Kd.R_lt (by (with_reducible repeat (first | apply Kd.R_alloc | apply Kd.R_drewN | apply Kd.R_drew)); exact HO_3.out))) (below_size (by repeat (first | (with_reducible first | exact HB.out | apply below_alloc | apply pw_below_drewN | apply below_drew1) | exact HB.out)))); have n3_ := Aside0.mk (below_step (by repeat (first | (with_reducible first | exact HB.out | apply below_alloc | apply pw_below_drewN | apply below_drew1) | exact HB.out)) hb); clear HO_3; clear HO_4; clear HB; have HO_3 := n0_; have HO_4 := n1_; have HO146 := n2_; have HB := n3_; clear n0_ n1_ n2_ n3_; clear hb ho13; obtain ⟨Ao14, co14, eo14⟩ := Kd.R_slice HO146.out; subst eo14) | ((with_reducible refine gate_builtin (b := .append) (xs := #[.tmp 27, .tmp 36]) rfl ?_); at_builtin; refine Kd.N_append k81 (w0 := w) w.heap.size rfl (.tmp 27) (.tmp 36) 79 81 (.agg #[(.int .i64 0), (.int .i64 0), (.slice none 0 0)]) 40 rfl Try.underlying79 info81 rfl (by decide) (by omega) u4 x4_1 (⟨rd l0 x5_1, x5_1, y144⟩ : S81) [.int .i64 (rd l0 x5_1), .int .i64 x5_1, .slice Ao14 y144.length co14] (fun k_ => some k_ ≠ (v137 : Value).ownBlock) (fun k_ => ((fun k_ => some k_ ≠ (v137 : Value).ownBlock)) k_ ∧ some k_ ≠ (u4 : Value).ownBlock) rfl rfl ?aP (fun _ hk => hk) ?aF ?aO ?aB ?aS ?aL ?_; (case aP => exact (k81_mkF _ _ (⟨rd l0 x5_1, x5_1, y144⟩ : S81) (Kd.R_reads' (Kd.R_mono (ok' := (fun k_ => ((fun k_ => some k_ ≠ (v137 : Value).ownBlock)) k_ ∧ some k_ ≠ (u4 : Value).ownBlock)) (Kd.R_apart' (HO146.out) (Kd.N_typed HO_4.out) (by decide)) (by first | exact (fun k_ hk => ⟨hk.1.2, hk.2⟩) | (intro k_ hk_; grind)))).2.1 (Kd.R_F (Kd.R_mono (ok' := (fun k_ => ((fun k_ => some k_ ≠ (v137 : Value).ownBlock)) k_ ∧ some k_ ≠ (u4 : Value).ownBlock)) (Kd.R_apart' (HO146.out) (Kd.N_typed HO_4.out) (by decide)) (by first | exact (fun k_ hk => ⟨hk.1.2, hk.2⟩) | (intro k_ hk_; grind)))))); (case aB => exact (by repeat (first | (with_reducible first | exact HB.out | apply below_alloc | apply pw_below_drewN | apply below_drew1) | exact HB.out))); (case aF => exact (fun k_ hk => Kd.fresh' (Kd.R_lt (by (with_reducible repeat (first | apply Kd.R_alloc | apply Kd.R_drewN | apply Kd.R_drew)); exact HO_3.out)) k_ hk)); (case aO => exact (by (with_reducible repeat (first | apply Kd.N_alloc | apply Kd.N_drewN | apply Kd.N_drew)); exact Kd.N_mono HO_4.out (fun _ hk => hk.1))); (case aS => exact (below_size (by repeat (first | (with_reducible first | exact HB.out | apply below_alloc | apply pw_below_drewN | apply below_drew1) | exact HB.out)))); (case aL => have := LMc11.out; omega); intro v148 w15 ho hb hg hat; rw [← Ny147.out] at ho; have n0_ := Aside0.mk (Kd.R_over' (by (with_reducible repeat (first | apply Kd.R_alloc | apply Kd.R_drewN | apply Kd.R_drew)); exact HO_3.out) (Kd.N_typed (by (with_reducible repeat (first | apply Kd.N_alloc | apply Kd.N_drewN | apply Kd.N_drew)); exact HO_4.out)) (by decide) hg); have n1_ := Aside0.mk (hb); have n2_ := Aside0.mk (ho); clear HO_3; clear HB; clear HO_4; clear HO146; have HO_3 := n0_; have HB := n1_; have HO149 := n2_; clear n0_ n1_ n2_; clear ho hb hg hat))
                  go_roundg k1
                  case measure => have := HK1.out; omega
                  case rel => exact ⟨(y147), (wrap64 (x5_1 + 1)), (by first | rfl | (simp; done) | (simp [*]; done)), H', ⟨by have := HK1.out; omega⟩, ⟨by (with_reducible repeat (first | apply Kd.R_alloc | apply Kd.R_drewN | apply Kd.R_drew)); exact Kd.R_mono HO_3.out (fun _ hk => trivial)⟩, ⟨by (with_reducible repeat (first | apply Kd.N_alloc | apply Kd.N_drewN | apply Kd.N_drew)); exact HO149.out⟩, ⟨by repeat (first | (with_reducible first | exact HB.out | apply below_alloc | apply pw_below_drewN | apply below_drew1) | exact HB.out)⟩⟩
                · rw [if_neg c11] at H
                  exact absurd H (by simp)
              · rw [if_neg c10] at H
                have c10b0 : decide (0 < (rd l0 x5_1)) = false := decide_eq_false c10
                clear c10
                have H' := Aside0.mk H
                clear H
                have p142 : 0 ≤ (x5_1 : Int) := of_decide_eq_true (by first | (with_reducible assumption) | assumption)
                have q142 : x5_1 < (l0.length : Int) := of_decide_eq_true (by first | (with_reducible assumption) | assumption)
                obtain ⟨ad142, e142, hx142_0⟩ := Kd.at_int HR0.out x5_1 p142 q142
                cases e142
                replace hx142_0 := (HB.out.cell (World.block_lt_of_cell? w _ hx142_0)).trans hx142_0
                replace p142 := eq_true p142
                replace q142 := eq_true q142
                go_wp2
                go_roundg k1
                case measure => have := HK1.out; omega
                case rel => exact ⟨(x4_1), (wrap64 (x5_1 + 1)), (by first | rfl | (simp; done) | (simp [*]; done)), H', ⟨by have := HK1.out; omega⟩, ⟨by (with_reducible repeat (first | apply Kd.R_alloc | apply Kd.R_drewN | apply Kd.R_drew)); exact HO_3.out⟩, ⟨by (with_reducible repeat (first | apply Kd.N_alloc | apply Kd.N_drewN | apply Kd.N_drew)); exact HO_4.out⟩, ⟨by repeat (first | (with_reducible first | exact HB.out | apply below_alloc | apply pw_below_drewN | apply below_drew1) | exact HB.out)⟩⟩
            · rw [if_neg c9] at H
              exact absurd H (by simp)
          · rw [if_neg c8] at H
            have c8b0 : decide (x5_1 < (l0.length : Int)) = false := decide_eq_false c8
            clear c8
            have HC16 := Aside0.mk H
            clear H
            obtain ⟨Ao17, co17, eo17⟩ := Kd.N_slice HO_4.out
            subst eo17
            go_upto_if 40 with (fail)
            go_cut [] (fun wc => ∃ (kq : Nat) (x3_15 : List Int), Aside0 (spec_l3Lens.j1 kq x3_15 x4_1 = some r) ∧ Aside0 (kq ≤ k1) ∧ Aside0 (Kd.R (Kd.int .i64) 3 wc w.heap.size (fun _ => True) v137 x3_15) ∧ Aside0 (Kd.N k81 81 wc w.heap.size (fun k_ => some k_ ≠ (v137 : Value).ownBlock) (.slice Ao17 x4_1.length co17) x4_1) ∧ Aside0 (Below w.heap.size w wc))
            case first =>
              have H := HC16.out
              clear HC16
              by_cases c18 : (x4_1.length : Int) = 1
              · rw [if_pos c18] at H
                have c18b0 : ((x4_1.length : Int) == 1) = true := beq_iff_eq.mpr c18
                have c18b1 : ((x4_1.length : Int) != 1) = false := bne_eq_false_iff_eq.mpr c18
                clear c18
                (first | rw [c18b0] | (simp only [i64_w, i32_w]; rw [c18b0]) | skip)
                by_cases c19 : 0 < (x4_1.length : Int)
                · rw [if_pos c19] at H
                  have c19b0 : decide (0 < (x4_1.length : Int)) = true := decide_eq_true c19
                  have c19b1 : decide (0 < x4_1.length) = true := decide_eq_true (by omega)
                  clear c19
                  by_cases c20 : 0 ≤ ((rd_T81 x4_1 0).f1)
                  · rw [if_pos c20] at H
                    have c20b0 : decide (0 ≤ ((rd_T81 x4_1 0).f1)) = true := decide_eq_true c20
                    clear c20
                    by_cases c21 : ((rd_T81 x4_1 0).f1) < (y136.length : Int)
                    · rw [if_pos c21] at H
                      have c21b0 : decide (((rd_T81 x4_1 0).f1) < (y136.length : Int)) = true := decide_eq_true c21
                      clear c21
                      obtain ⟨y151, hy151⟩ : ∃ y_ : List Int, y_ = (y136.set (((rd_T81 x4_1 0).f1) : Int).toNat 1) := ⟨_, rfl⟩
                      replace H : (spec_l3Lens.j1 k1 y151 x4_1) = some r := by first | (rw [hy151]; with_reducible exact H) | (have H2_ := (Option.bind_some _ _).symm.trans H; rw [hy151]; with_reducible exact H2_) | (have H2_ := (Option.bind_some _ _).symm.trans H; with_reducible exact H2_) | with_reducible exact H | (rw [hy151]; exact H) | exact H
                      have Ny151 := Aside0.mk hy151
                      clear hy151
                      have H' := Aside0.mk H
                      clear H
                      have p150 : 0 ≤ (0 : Int) := (by omega)
                      have q150 : 0 < (x4_1.length : Int) := of_decide_eq_true (by first | (with_reducible assumption) | assumption)
                      obtain ⟨ad150, A150_2, c150_2, e150, hx150_0, hx150_1, hx150_2, hl150_2, hi150_2⟩ := at_T81 (Kd.N_reads' HO_4.out).2.2 0 p150 q150
                      cases e150
                      obtain ⟨ce150, hce150, hMe150, hcc150⟩ := Kd.N_get HO_4.out z81 0 p150 (by first | exact q150 | exact of_decide_eq_true (by first | (with_reducible assumption) | assumption) | (have e_ := (Kd.N_reads' HO_4.out).1; omega))
                      obtain ⟨ua150_2, uc150_2, rfl, ul150_2, ge150_2⟩ := k81_openF hMe150
                      have hv150_2 := hcc150 2 _ rfl
                      rw [add_field _ _ 2 (by omega)] at hv150_2
                      replace hv150_2 := Option.some.inj (hv150_2.symm.trans hx150_2)
                      injection hv150_2 with hva_ hvn_ hvc_
                      rw [hva_] at ge150_2
                      rw [hvc_] at ul150_2
                      have HL150_2 := Aside0.mk (show Kd.V (Kd.int .i64) 3 _ w.heap.size _ _ ((rd_T81 x4_1 0).f2) from Kd.V_mk ul150_2 ge150_2)
                      clear hva_ hvn_ hvc_ ge150_2 ul150_2
                      clear hcc150 hce150
                      have qi150 : (0 < x4_1.length) = True := eq_true (by omega)
                      (try rw [show ((0 : Int)).toNat = 0 from rfl] at hx150_0)
                      (try rw [show 0 * 3 = 0 from rfl] at hx150_0)
                      (try rw [Addr.add_zero'] at hx150_0)
                      (try rw [show ((0 : Int)).toNat = 0 from rfl] at hx150_1)
                      (try rw [show 0 * 3 = 0 from rfl] at hx150_1)
                      (try rw [Addr.add_zero'] at hx150_1)
                      (try rw [show ((0 : Int)).toNat = 0 from rfl] at hx150_2)
                      (try rw [show 0 * 3 = 0 from rfl] at hx150_2)
                      (try rw [Addr.add_zero'] at hx150_2)
                      have HR150_2 := Aside0.mk hi150_2
                      have HC150_2 := Aside0.mk hl150_2
                      clear hi150_2 hl150_2
                      replace p150 := eq_true p150
                      replace q150 := eq_true q150
                      have p22 : 0 ≤ (((rd_T81 x4_1 0).f1) : Int) := of_decide_eq_true (by first | (with_reducible assumption) | assumption)
                      have q22 : (((rd_T81 x4_1 0).f1) : Int) < ((y136.length : Int) : Int) := of_decide_eq_true (by first | (with_reducible assumption) | assumption)
                      obtain ⟨go22, co22, eo22, gb22, gl22, cl22, HG22⟩ := Kd.R_form HO_3.out (by omega)
                      (first | cases eo22 | (injection eo22 with ea_ en_ ec_; (first | subst ea_ | (injection ea_ with ea_; subst ea_)); subst ec_; clear en_))
                      have GB22 := Aside0.mk gb22
                      have GG22 := Aside0.mk HG22
                      clear gb22 gl22 HG22
                      obtain ⟨hx22_0, hf22_0⟩ := Kd.R_celln 0 HO_3.out (((rd_T81 x4_1 0).f1) : Int) p22 q22
                      replace p22 := eq_true p22
                      replace q22 := eq_true q22
                      have HP23 := Kd.R_putg HO_3.out (((rd_T81 x4_1 0).f1) : Int) 1
                      go_wp2_with (first | ((with_reducible refine gate_store (t := 3) (p := 46) rfl ?_); refine store_event (t := 3) (p := 46) (v := ?vo_w24) (w1 := (wr.setCell ⟨go22, (((rd_T81 x4_1 0).f1) : Int).toNat, none⟩ (.int .i64 1))) ?hg ?ho ?hn ?hr ?_; (case ho => rfl); (case hg => rfl); (case hn => rfl); (case hr => first | (go_simp; done) | (go_simp; rfl)); intro w24 hw; have hg : wr.grownBy w24 (some go22) := (by rw [hw]; exact HP23.2); have hp_ : Kd.R (Kd.int .i64) 3 w24 w.heap.size (fun _ => True) (.slice (some ⟨go22, 0, none⟩) y136.length co22) y151 := (by rw [hw, Ny151.out]; exact HP23.1); clear HP23; have n0_ := Aside0.mk (hp_); have n1_ := Aside0.mk (Kd.N_afterv (v := (.slice (some ⟨go22, 0, none⟩) y136.length co22)) (v1 := (.slice (some ⟨go22, 0, none⟩) y136.length co22)) (ok := (fun _ => True)) (by (with_reducible repeat (first | apply Kd.N_alloc | apply Kd.N_drewN | apply Kd.N_drew)); exact Kd.N_mono HO_4.out (by first | exact (fun _ hk => ⟨trivial, hk⟩) | (intro k_ hk_; grind))) hg (.inl rfl)); have n2_ := Aside0.mk (Kd.V_afterv (v := (.slice (some ⟨go22, 0, none⟩) y136.length co22)) (v1 := (.slice (some ⟨go22, 0, none⟩) y136.length co22)) (ok := (fun k_ => some k_ ≠ (.slice (some ad150) x4_1.length co17 : Value).ownBlock)) (by (with_reducible repeat (first | apply Kd.V_alloc | apply Kd.V_drewN | apply Kd.V_drew)); exact Kd.V_mono HL150_2.out (by first | exact (fun _ hk => ⟨hk.2, hk.1⟩) | (intro k_ hk_; grind))) hg (.inl rfl)); have n3_ := Aside0.mk ((by rw [hw]; exact below_set (HB.out) GB22.out : Below w.heap.size w w24)); clear HO_3; clear HO_4; clear HL150_2; clear HB; have HO_3 := n0_; have HO_4 := n1_; have HL150_2 := n2_; have HB := n3_; clear n0_ n1_ n2_ n3_; clear hg hw hp_))
                      go_meet
                      case rel => exact ⟨_, (y151), H', ⟨by have := HK1.out; first | omega | exact Nat.le_refl _⟩, ⟨by (with_reducible repeat (first | apply Kd.R_alloc | apply Kd.R_drewN | apply Kd.R_drew)); exact HO_3.out⟩, ⟨by (with_reducible repeat (first | apply Kd.N_alloc | apply Kd.N_drewN | apply Kd.N_drew)); exact Kd.N_mono HO_4.out (fun _ hk => hk.2)⟩, ⟨by repeat (first | (with_reducible first | exact HB.out | apply below_alloc | apply pw_below_drewN | apply below_drew1) | exact HB.out)⟩⟩
                    · rw [if_neg c21] at H
                      exact absurd H (by simp)
                  · rw [if_neg c20] at H
                    exact absurd H (by simp)
                · rw [if_neg c19] at H
                  exact absurd H (by simp)
              · rw [if_neg c18] at H
                have c18b0 : ((x4_1.length : Int) == 1) = false := beq_eq_false_iff_ne.mpr c18
                have c18b1 : ((x4_1.length : Int) != 1) = true := bne_iff_ne.mpr c18
                (first | rw [c18b0] | (simp only [i64_w, i32_w]; rw [c18b0]) | skip)
                have H' := Aside0.mk H
                clear H
                go_wp2
                go_meet
                case rel => exact ⟨_, (y136), H', ⟨by have := HK1.out; first | omega | exact Nat.le_refl _⟩, ⟨by (with_reducible repeat (first | apply Kd.R_alloc | apply Kd.R_drewN | apply Kd.R_drew)); exact HO_3.out⟩, ⟨by (with_reducible repeat (first | apply Kd.N_alloc | apply Kd.N_drewN | apply Kd.N_drew)); exact HO_4.out⟩, ⟨by repeat (first | (with_reducible first | exact HB.out | apply below_alloc | apply pw_below_drewN | apply below_drew1) | exact HB.out)⟩⟩
            case rest =>
              clear HC16
              try clear c1
              try clear p1
              try clear q1
              try clear hx1
              try clear qi1
              try clear c2
              try clear c2b0
              try clear c2b1
              try clear p2
              try clear q2
              try clear hx2
              try clear hf2
              try clear c3
              try clear c3b0
              try clear c3b1
              try clear c5
              try clear p6
              try clear c8
              try clear c8b0
              try clear c9
              try clear c9b0
              try clear c10
              try clear c10b0
              try clear c11
              try clear p14
              try clear q14
              try clear hx14
              try clear c15
              try clear p15
              try clear q15
              try clear hx15
              try clear qi15
              try clear c18
              try clear c18b0
              try clear c18b1
              try clear c19
              try clear c19b0
              try clear c19b1
              try clear c20
              try clear c20b0
              try clear c21
              try clear c21b0
              try clear p22
              try clear q22
              try clear hx22
              try clear hf22
              try clear hx142_0
              try clear hx143_0
              try clear hx150_0
              try clear hx150_1
              try clear hx150_2
              try clear hx22_0
              try clear p142
              try clear p143
              try clear p150
              try clear p2
              try clear p22
              try clear q142
              try clear q143
              try clear q150
              try clear q22
              obtain ⟨kq, x3_15, HA, HJ15, HO_3, HO_4, HB⟩ := hcut
              cases kq with
              | zero => exact absurd HA.out (by simp [spec_l3Lens.j1])
              | succ kj15 =>
                have H := HA.out
                clear HA
                simp only [spec_l3Lens.j1] at H
                have H' := Aside0.mk H
                clear H
                go_wp2
                go_loopg [4] kj15 (fun kq v4 w' => ∃ (x3_3 : List Int) (x4_3 : List (S81)), Aside0 (spec_l3Lens.l1 kq x3_3 x4_3 = some r) ∧ Aside0 (kq ≤ kj15) ∧ Aside0 (Kd.R (Kd.int .i64) 3 w' w.heap.size (fun _ => True) v137 x3_3) ∧ Aside0 (Kd.N k81 81 w' w.heap.size (fun k_ => some k_ ≠ (v137 : Value).ownBlock) v4 x4_3) ∧ Aside0 (Below w.heap.size w w'))
                case atStart => exact ⟨(x3_15), (x4_1), H', ⟨Nat.le_refl _⟩, ⟨by (with_reducible repeat (first | apply Kd.R_alloc | apply Kd.R_drewN | apply Kd.R_drew)); exact HO_3.out⟩, ⟨by (with_reducible repeat (first | apply Kd.N_alloc | apply Kd.N_drewN | apply Kd.N_drew)); exact HO_4.out⟩, ⟨by repeat (first | (with_reducible first | exact HB.out | apply below_alloc | apply pw_below_drewN | apply below_drew1) | exact HB.out)⟩⟩
                case round =>
                  clear H'
                  try clear c1
                  try clear p1
                  try clear q1
                  try clear hx1
                  try clear qi1
                  try clear c2
                  try clear c2b0
                  try clear c2b1
                  try clear p2
                  try clear q2
                  try clear hx2
                  try clear hf2
                  try clear c3
                  try clear c3b0
                  try clear c3b1
                  try clear c5
                  try clear p6
                  try clear c8
                  try clear c8b0
                  try clear c9
                  try clear c9b0
                  try clear c10
                  try clear c10b0
                  try clear c11
                  try clear p14
                  try clear q14
                  try clear hx14
                  try clear c15
                  try clear p15
                  try clear q15
                  try clear hx15
                  try clear qi15
                  try clear c18
                  try clear c18b0
                  try clear c18b1
                  try clear c19
                  try clear c19b0
                  try clear c19b1
                  try clear c20
                  try clear c20b0
                  try clear c21
                  try clear c21b0
                  try clear p22
                  try clear q22
                  try clear hx22
                  try clear hf22
                  try clear hx142_0
                  try clear hx143_0
                  try clear hx150_0
                  try clear hx150_1
                  try clear hx150_2
                  try clear hx22_0
                  try clear p1
                  try clear p14
                  try clear p142
                  try clear p143
                  try clear p15
                  try clear p150
                  try clear p2
                  try clear p22
                  try clear p6
                  try clear q1
                  try clear q14
                  try clear q142
                  try clear q143
                  try clear q15
                  try clear q150
                  try clear q2
                  try clear q22
                  obtain ⟨x3_3, x4_3, HA, HK3, HO_3, HO_4, HB⟩ := hrel
                  cases gk with
                  | zero => exact absurd HA.out (by simp [spec_l3Lens.l1])
                  | succ k3 =>
                    have H := HA.out
                    clear HA
                    simp only [spec_l3Lens.l1] at H
                    by_cases c25 : (x4_3.length : Int) > 1
                    · rw [if_pos c25] at H
                      have c25b0 : decide (1 < (x4_3.length : Int)) = true := decide_eq_true c25
                      have c25b1 : decide (1 < x4_3.length) = true := decide_eq_true (by omega)
                      clear c25
                      replace H := Option.bind_eq_some_iff.mp H
                      obtain ⟨t152, A260, H⟩ := H
                      replace H : (if 0 ≤ t152 then (if t152 < (x4_3.length : Int) then ((spec_l3Less.f x4_3 t152).bind fun t155 => ((spec_l3Least.f k3 t155).bind fun t158 => (if 0 ≤ t158 then (if t158 < (t155.length : Int) then ((spec_l3Less.f t155 t158).bind fun t161 => (if ((rd_T81 t155 t158).f1) < ((rd_T81 x4_3 t152).f1) then ((some (([] : List Int) : List Int)).bind fun y164 => (if y164.length + ((rd_T81 x4_3 t152).f2).length < 17592186044416 then ((some (y164 ++ ((rd_T81 x4_3 t152).f2) : List Int)).bind fun y167 => (if y167.length + ((rd_T81 t155 t158).f2).length < 17592186044416 then (spec_l3Lens.l2 k3 x3_3 t161 ((rd_T81 t155 t158).f1) (y167 ++ ((rd_T81 t155 t158).f2)) 0 ((rd_T81 x4_3 t152).f0) ((rd_T81 x4_3 t152).f1) ((rd_T81 x4_3 t152).f2) ((rd_T81 t155 t158).f0) ((rd_T81 t155 t158).f1) ((rd_T81 t155 t158).f2)) else (none))) else (none))) else ((some (([] : List Int) : List Int)).bind fun y180 => (if y180.length + ((rd_T81 x4_3 t152).f2).length < 17592186044416 then ((some (y180 ++ ((rd_T81 x4_3 t152).f2) : List Int)).bind fun y183 => (if y183.length + ((rd_T81 t155 t158).f2).length < 17592186044416 then (spec_l3Lens.l2 k3 x3_3 t161 ((rd_T81 x4_3 t152).f1) (y183 ++ ((rd_T81 t155 t158).f2)) 0 ((rd_T81 x4_3 t152).f0) ((rd_T81 x4_3 t152).f1) ((rd_T81 x4_3 t152).f2) ((rd_T81 t155 t158).f0) ((rd_T81 t155 t158).f1) ((rd_T81 t155 t158).f2)) else (none))) else (none))))) else (none)) else (none)))) else (none)) else (none)) = some r := H
                      have A26 := Aside0.mk A260
                      clear A260
                      by_cases c27 : 0 ≤ t152
                      · rw [if_pos c27] at H
                        have c27b0 : decide (0 ≤ t152) = true := decide_eq_true c27
                        clear c27
                        by_cases c28 : t152 < (x4_3.length : Int)
                        · rw [if_pos c28] at H
                          have c28b0 : decide (t152 < (x4_3.length : Int)) = true := decide_eq_true c28
                          clear c28
                          replace H := Option.bind_eq_some_iff.mp H
                          obtain ⟨t155, A290, H⟩ := H
                          replace H : ((spec_l3Least.f k3 t155).bind fun t158 => (if 0 ≤ t158 then (if t158 < (t155.length : Int) then ((spec_l3Less.f t155 t158).bind fun t161 => (if ((rd_T81 t155 t158).f1) < ((rd_T81 x4_3 t152).f1) then ((some (([] : List Int) : List Int)).bind fun y164 => (if y164.length + ((rd_T81 x4_3 t152).f2).length < 17592186044416 then ((some (y164 ++ ((rd_T81 x4_3 t152).f2) : List Int)).bind fun y167 => (if y167.length + ((rd_T81 t155 t158).f2).length < 17592186044416 then (spec_l3Lens.l2 k3 x3_3 t161 ((rd_T81 t155 t158).f1) (y167 ++ ((rd_T81 t155 t158).f2)) 0 ((rd_T81 x4_3 t152).f0) ((rd_T81 x4_3 t152).f1) ((rd_T81 x4_3 t152).f2) ((rd_T81 t155 t158).f0) ((rd_T81 t155 t158).f1) ((rd_T81 t155 t158).f2)) else (none))) else (none))) else ((some (([] : List Int) : List Int)).bind fun y180 => (if y180.length + ((rd_T81 x4_3 t152).f2).length < 17592186044416 then ((some (y180 ++ ((rd_T81 x4_3 t152).f2) : List Int)).bind fun y183 => (if y183.length + ((rd_T81 t155 t158).f2).length < 17592186044416 then (spec_l3Lens.l2 k3 x3_3 t161 ((rd_T81 x4_3 t152).f1) (y183 ++ ((rd_T81 t155 t158).f2)) 0 ((rd_T81 x4_3 t152).f0) ((rd_T81 x4_3 t152).f1) ((rd_T81 x4_3 t152).f2) ((rd_T81 t155 t158).f0) ((rd_T81 t155 t158).f1) ((rd_T81 t155 t158).f2)) else (none))) else (none))))) else (none)) else (none))) = some r := H
                          have A29 := Aside0.mk A290
                          clear A290
                          replace H := Option.bind_eq_some_iff.mp H
                          obtain ⟨t158, A300, H⟩ := H
                          replace H : (if 0 ≤ t158 then (if t158 < (t155.length : Int) then ((spec_l3Less.f t155 t158).bind fun t161 => (if ((rd_T81 t155 t158).f1) < ((rd_T81 x4_3 t152).f1) then ((some (([] : List Int) : List Int)).bind fun y164 => (if y164.length + ((rd_T81 x4_3 t152).f2).length < 17592186044416 then ((some (y164 ++ ((rd_T81 x4_3 t152).f2) : List Int)).bind fun y167 => (if y167.length + ((rd_T81 t155 t158).f2).length < 17592186044416 then (spec_l3Lens.l2 k3 x3_3 t161 ((rd_T81 t155 t158).f1) (y167 ++ ((rd_T81 t155 t158).f2)) 0 ((rd_T81 x4_3 t152).f0) ((rd_T81 x4_3 t152).f1) ((rd_T81 x4_3 t152).f2) ((rd_T81 t155 t158).f0) ((rd_T81 t155 t158).f1) ((rd_T81 t155 t158).f2)) else (none))) else (none))) else ((some (([] : List Int) : List Int)).bind fun y180 => (if y180.length + ((rd_T81 x4_3 t152).f2).length < 17592186044416 then ((some (y180 ++ ((rd_T81 x4_3 t152).f2) : List Int)).bind fun y183 => (if y183.length + ((rd_T81 t155 t158).f2).length < 17592186044416 then (spec_l3Lens.l2 k3 x3_3 t161 ((rd_T81 x4_3 t152).f1) (y183 ++ ((rd_T81 t155 t158).f2)) 0 ((rd_T81 x4_3 t152).f0) ((rd_T81 x4_3 t152).f1) ((rd_T81 x4_3 t152).f2) ((rd_T81 t155 t158).f0) ((rd_T81 t155 t158).f1) ((rd_T81 t155 t158).f2)) else (none))) else (none))))) else (none)) else (none)) = some r := H
                          have A30 := Aside0.mk A300
                          clear A300
                          by_cases c31 : 0 ≤ t158
                          · rw [if_pos c31] at H
                            have c31b0 : decide (0 ≤ t158) = true := decide_eq_true c31
                            clear c31
                            by_cases c32 : t158 < (t155.length : Int)
                            · rw [if_pos c32] at H
                              have c32b0 : decide (t158 < (t155.length : Int)) = true := decide_eq_true c32
                              clear c32
                              replace H := Option.bind_eq_some_iff.mp H
                              obtain ⟨t161, A330, H⟩ := H
                              replace H : (if ((rd_T81 t155 t158).f1) < ((rd_T81 x4_3 t152).f1) then ((some (([] : List Int) : List Int)).bind fun y164 => (if y164.length + ((rd_T81 x4_3 t152).f2).length < 17592186044416 then ((some (y164 ++ ((rd_T81 x4_3 t152).f2) : List Int)).bind fun y167 => (if y167.length + ((rd_T81 t155 t158).f2).length < 17592186044416 then (spec_l3Lens.l2 k3 x3_3 t161 ((rd_T81 t155 t158).f1) (y167 ++ ((rd_T81 t155 t158).f2)) 0 ((rd_T81 x4_3 t152).f0) ((rd_T81 x4_3 t152).f1) ((rd_T81 x4_3 t152).f2) ((rd_T81 t155 t158).f0) ((rd_T81 t155 t158).f1) ((rd_T81 t155 t158).f2)) else (none))) else (none))) else ((some (([] : List Int) : List Int)).bind fun y180 => (if y180.length + ((rd_T81 x4_3 t152).f2).length < 17592186044416 then ((some (y180 ++ ((rd_T81 x4_3 t152).f2) : List Int)).bind fun y183 => (if y183.length + ((rd_T81 t155 t158).f2).length < 17592186044416 then (spec_l3Lens.l2 k3 x3_3 t161 ((rd_T81 x4_3 t152).f1) (y183 ++ ((rd_T81 t155 t158).f2)) 0 ((rd_T81 x4_3 t152).f0) ((rd_T81 x4_3 t152).f1) ((rd_T81 x4_3 t152).f2) ((rd_T81 t155 t158).f0) ((rd_T81 t155 t158).f1) ((rd_T81 t155 t158).f2)) else (none))) else (none)))) = some r := H
                              have A33 := Aside0.mk A330
                              clear A330
                              by_cases c34 : ((rd_T81 t155 t158).f1) < ((rd_T81 x4_3 t152).f1)
                              · rw [if_pos c34] at H
                                have c34b0 : decide (((rd_T81 t155 t158).f1) < ((rd_T81 x4_3 t152).f1)) = true := decide_eq_true c34
                                clear c34
                                obtain ⟨y164, hy164⟩ : ∃ y_ : List Int, y_ = (([] : List Int)) := ⟨_, rfl⟩
                                replace H : (if y164.length + ((rd_T81 x4_3 t152).f2).length < 17592186044416 then ((some (y164 ++ ((rd_T81 x4_3 t152).f2) : List Int)).bind fun y167 => (if y167.length + ((rd_T81 t155 t158).f2).length < 17592186044416 then (spec_l3Lens.l2 k3 x3_3 t161 ((rd_T81 t155 t158).f1) (y167 ++ ((rd_T81 t155 t158).f2)) 0 ((rd_T81 x4_3 t152).f0) ((rd_T81 x4_3 t152).f1) ((rd_T81 x4_3 t152).f2) ((rd_T81 t155 t158).f0) ((rd_T81 t155 t158).f1) ((rd_T81 t155 t158).f2)) else (none))) else (none)) = some r := by first | (rw [hy164]; with_reducible exact H) | (have H2_ := (Option.bind_some _ _).symm.trans H; rw [hy164]; with_reducible exact H2_) | (have H2_ := (Option.bind_some _ _).symm.trans H; with_reducible exact H2_) | with_reducible exact H | (rw [hy164]; exact H) | exact H
                                have Ny164 := Aside0.mk hy164
                                clear hy164
                                by_cases c35 : y164.length + ((rd_T81 x4_3 t152).f2).length < 17592186044416
                                · rw [if_pos c35] at H
                                  have LMc35 := Aside0.mk c35
                                  clear c35
                                  obtain ⟨y167, hy167⟩ : ∃ y_ : List Int, y_ = (y164 ++ ((rd_T81 x4_3 t152).f2)) := ⟨_, rfl⟩
                                  replace H : (if y167.length + ((rd_T81 t155 t158).f2).length < 17592186044416 then (spec_l3Lens.l2 k3 x3_3 t161 ((rd_T81 t155 t158).f1) (y167 ++ ((rd_T81 t155 t158).f2)) 0 ((rd_T81 x4_3 t152).f0) ((rd_T81 x4_3 t152).f1) ((rd_T81 x4_3 t152).f2) ((rd_T81 t155 t158).f0) ((rd_T81 t155 t158).f1) ((rd_T81 t155 t158).f2)) else (none)) = some r := by first | (rw [hy167]; with_reducible exact H) | (have H2_ := (Option.bind_some _ _).symm.trans H; rw [hy167]; with_reducible exact H2_) | (have H2_ := (Option.bind_some _ _).symm.trans H; with_reducible exact H2_) | with_reducible exact H | (rw [hy167]; exact H) | exact H
                                  have Ny167 := Aside0.mk hy167
                                  clear hy167
                                  by_cases c36 : y167.length + ((rd_T81 t155 t158).f2).length < 17592186044416
                                  · rw [if_pos c36] at H
                                    have LMc36 := Aside0.mk c36
                                    clear c36
                                    obtain ⟨y170, hy170⟩ : ∃ y_ : List Int, y_ = (y167 ++ ((rd_T81 t155 t158).f2)) := ⟨_, rfl⟩
                                    replace H : (spec_l3Lens.l2 k3 x3_3 t161 ((rd_T81 t155 t158).f1) y170 0 ((rd_T81 x4_3 t152).f0) ((rd_T81 x4_3 t152).f1) ((rd_T81 x4_3 t152).f2) ((rd_T81 t155 t158).f0) ((rd_T81 t155 t158).f1) ((rd_T81 t155 t158).f2)) = some r := by first | (rw [hy170]; with_reducible exact H) | (have H2_ := (Option.bind_some _ _).symm.trans H; rw [hy170]; with_reducible exact H2_) | (have H2_ := (Option.bind_some _ _).symm.trans H; with_reducible exact H2_) | with_reducible exact H | (rw [hy170]; exact H) | exact H
                                    have Ny170 := Aside0.mk hy170
                                    clear hy170
                                    have H' := Aside0.mk H
                                    clear H
                                    obtain ⟨Ao37, co37, eo37⟩ := Kd.N_slice HO_4.out
                                    subst eo37
                                    try go_wp2_with (first | ((with_reducible refine gate_callee (f := 55) rfl ?_); refine goesL_ (some 51) rfl rfl Try.func55 (by kernel_rfl) rfl #[.slice Ao37 x4_3.length co37] rfl (by (try simp only [List.map_toArray, List.map_cons, List.map_nil]); first | done | rfl | (simp only [List.length_drop, List.length_take]; rfl)) ?_; (with_reducible refine (spec_l3Least.calls k3 _ _ x4_3 t152 _ ?side1 ?side2 A26.out).mono ?_); (case side1 => repeat (first | exact (Kd.N_reads' HO_4.out).2.2 | (with_reducible refine Kd.C_alloc ?_ _) | (with_reducible refine Kd.C_drewN ?_ _) | (with_reducible refine Kd.C_drew ?_))); (case side2 => exact (Kd.N_reads' HO_4.out).2.1); rintro e w' ⟨rfl, ⟨nd, rfl⟩⟩; refine ⟨_, rfl, ?_⟩; (try (rw [drewN_self wr]; generalize hq_ : World.drewN wr _ = wr; have n0_ : Aside0 (Kd.R (Kd.int .i64) 3 wr w.heap.size (fun _ => True) v137 x3_3) := ⟨by rw [← hq_]; exact (by (with_reducible repeat (first | apply Kd.R_alloc | apply Kd.R_drewN | apply Kd.R_drew)); exact HO_3.out)⟩; have n1_ : Aside0 (Kd.N k81 81 wr w.heap.size (fun k_ => some k_ ≠ (v137 : Value).ownBlock) (.slice Ao37 x4_3.length co37) x4_3) := ⟨by rw [← hq_]; exact (by (with_reducible repeat (first | apply Kd.N_alloc | apply Kd.N_drewN | apply Kd.N_drew)); exact HO_4.out)⟩; have n2_ : Aside0 (Below w.heap.size w wr) := ⟨by rw [← hq_]; exact (by repeat (first | (with_reducible first | exact HB.out | apply below_alloc | apply pw_below_drewN | apply below_drew1) | exact HB.out))⟩; clear HO_3 HO_4 HB hq_; have HO_3 := n0_; have HO_4 := n1_; have HB := n2_; clear n0_ n1_ n2_)); have p153 : 0 ≤ (t152 : Int) := of_decide_eq_true (by first | (with_reducible assumption) | assumption); have q153 : t152 < (x4_3.length : Int) := of_decide_eq_true (by first | (with_reducible assumption) | assumption); obtain ⟨ad153, A153_2, c153_2, e153, hx153_0, hx153_1, hx153_2, hl153_2, hi153_2⟩ := at_T81 (Kd.N_reads' HO_4.out).2.2 t152 p153 q153; cases e153; obtain ⟨ce153, hce153, hMe153, hcc153⟩ := Kd.N_get HO_4.out z81 t152 p153 (by first | exact q153 | exact of_decide_eq_true (by first | (with_reducible assumption) | assumption) | (have e_ := (Kd.N_reads' HO_4.out).1; omega)); obtain ⟨ua153_2, uc153_2, rfl, ul153_2, ge153_2⟩ := k81_openF hMe153; have hv153_2 := hcc153 2 _ rfl; rw [add_field _ _ 2 (by omega)] at hv153_2; replace hv153_2 := Option.some.inj (hv153_2.symm.trans hx153_2); injection hv153_2 with hva_ hvn_ hvc_; rw [hva_] at ge153_2; rw [hvc_] at ul153_2; have HL153_2 := Aside0.mk (show Kd.V (Kd.int .i64) 3 _ w.heap.size _ _ ((rd_T81 x4_3 t152).f2) from Kd.V_mk ul153_2 ge153_2); clear hva_ hvn_ hvc_ ge153_2 ul153_2; clear hcc153 hce153; have HR153_2 := Aside0.mk hi153_2; have HC153_2 := Aside0.mk hl153_2; clear hi153_2 hl153_2; replace p153 := eq_true p153; replace q153 := eq_true q153) | ((with_reducible refine gate_dst (N := 7) rfl ?_); refine box_event ?hg (N := 7) ?hd (cs := #[.int .i64 0, .int .i64 0, .slice none 0 0]) (t := 81) ?hr ?_; (case hd => rfl); (case hg => rfl); (case hr => first | (go_simp; done) | (go_simp; rfl)); intro gb154 hg w38 hbox hb; have n0_ := Aside0.mk (Kd.R_below (by (with_reducible repeat (first | apply Kd.R_alloc | apply Kd.R_drewN | apply Kd.R_drew)); exact HO_3.out) hb); have n1_ := Aside0.mk (Kd.N_below (Kd.N_elderB (by (with_reducible repeat (first | apply Kd.N_alloc | apply Kd.N_drewN | apply Kd.N_drew)); exact HO_4.out) gb154 (Nat.le_of_eq hg.symm)) hb); have n2_ := Aside0.mk (Kd.V_below (Kd.V_elderB (by (with_reducible repeat (first | apply Kd.V_alloc | apply Kd.V_drewN | apply Kd.V_drew)); exact HL153_2.out) gb154 (Nat.le_of_eq hg.symm)) hb); have n3_ := Aside0.mk (Kd.C_below (by first | exact (Kd.V_reads' HL153_2.out).2.2 | repeat (first | (with_reducible exact HR153_2.out) | (with_reducible refine Kd.C_alloc ?_ _) | (with_reducible refine Kd.C_drewN ?_ _) | (with_reducible refine Kd.C_drew ?_) | exact HR153_2.out)) hb); have n4_ := Aside0.mk (below_step (by repeat (first | (with_reducible first | exact HB.out | apply below_alloc | apply pw_below_drewN | apply below_drew1) | exact HB.out)) hb); have n5_ := Aside0.mk (hbox); have n6_ := Aside0.mk ((by rw [hg]; exact (below_size (by repeat (first | (with_reducible first | exact HB.out | apply below_alloc | apply pw_below_drewN | apply below_drew1) | exact HB.out))) : w.heap.size ≤ gb154)); have n7_ := Aside0.mk ((by rw [hg]; exact (below_size (by repeat (first | (with_reducible first | exact HB.out | apply below_alloc | apply pw_below_drewN | apply below_drew1) | exact HB.out))) : w.heap.size ≤ gb154)); clear HO_3; clear HO_4; clear HL153_2; clear HR153_2; clear HB; have HO_3 := n0_; have HO_4 := n1_; have HL153_2 := n2_; have HR153_2 := n3_; have HB := n4_; have BK154 := n5_; have GW154 := n6_; have GE154 := n7_; clear n0_ n1_ n2_ n3_ n4_ n5_ n6_ n7_; clear hb hbox hg; have hcz39_0 : w38.cell? ⟨gb154, 0, none⟩ = some (.int .i64 0) := (blk_cell BK154.out 0).trans rfl; have hcz39_1 : w38.cell? ⟨gb154, 1, none⟩ = some (.int .i64 0) := (blk_cell BK154.out 1).trans rfl; have hcz39_2 : w38.cell? ⟨gb154, 2, none⟩ = some (.slice none 0 0) := (blk_cell BK154.out 2).trans rfl; have hfz39_0 := blk_frozen BK154.out 0; have hfz39_1 := blk_frozen BK154.out 1; have hfz39_2 := blk_frozen BK154.out 2) | ((with_reducible refine gate_store (t := 81) (p := 7) rfl ?_); refine store_event (t := 81) (p := 7) (v := ?vo_w40) (w1 := (((w38.setCell ⟨gb154, 0, none⟩ (.int .i64 ((rd_T81 x4_3 t152).f0))).setCell ⟨gb154, 1, none⟩ (.int .i64 ((rd_T81 x4_3 t152).f1))).setCell ⟨gb154, 2, none⟩ (.slice A153_2 ((rd_T81 x4_3 t152).f2).length c153_2))) ?hg ?ho ?hn ?hr ?_; (case ho => rfl); (case hg => rfl); (case hn => rfl); (case hr => first | (go_simp; done) | (go_simp; rfl)); intro w40 hw; have n0_ : Aside0 (Kd.R (Kd.int .i64) 3 w40 w.heap.size (fun _ => True) v137 x3_3) := ⟨(by rw [hw]; exact (by (with_reducible repeat (first | apply Kd.R_alloc | apply Kd.R_drewN | apply Kd.R_drew)); exact Kd.R_mono (Kd.R_far (p := ⟨gb154, 2, none⟩) (Kd.R_far (p := ⟨gb154, 1, none⟩) (Kd.R_far (p := ⟨gb154, 0, none⟩) (Kd.R_types HO_3.out BK154.out (by decide)) (fun _ hk => hk.2) (.int .i64 ((rd_T81 x4_3 t152).f0))) (fun _ hk => hk.2) (.int .i64 ((rd_T81 x4_3 t152).f1))) (fun _ hk => hk.2) (.slice A153_2 ((rd_T81 x4_3 t152).f2).length c153_2)) (fun _ hk => trivial)))⟩; have n1_ : Aside0 (Kd.N k81 81 w40 w.heap.size (fun k_ => some k_ ≠ (v137 : Value).ownBlock ∧ k_ ≠ gb154) (.slice (some ad153) x4_3.length co37) x4_3) := ⟨(by rw [hw]; exact (by (with_reducible repeat (first | apply Kd.N_alloc | apply Kd.N_drewN | apply Kd.N_drew)); exact Kd.N_mono (Kd.N_far (p := ⟨gb154, 2, none⟩) (Kd.N_far (p := ⟨gb154, 1, none⟩) (Kd.N_far (p := ⟨gb154, 0, none⟩) (Kd.N_mono HO_4.out (fun k_ hk => (⟨hk, hk.2⟩ : _ ∧ k_ ≠ gb154))) (fun _ hk => hk.2) (.int .i64 ((rd_T81 x4_3 t152).f0))) (fun _ hk => hk.2) (.int .i64 ((rd_T81 x4_3 t152).f1))) (fun _ hk => hk.2) (.slice A153_2 ((rd_T81 x4_3 t152).f2).length c153_2)) (by first | exact (fun _ hk => ⟨hk.1.1, hk.1.2⟩) | (intro k_ hk_; grind))))⟩; have n2_ : Aside0 (Kd.V (Kd.int .i64) 3 w40 w.heap.size (fun k_ => some k_ ≠ (v137 : Value).ownBlock ∧ some k_ ≠ (.slice (some ad153) x4_3.length co37 : Value).ownBlock ∧ k_ ≠ gb154) (.slice A153_2 ((rd_T81 x4_3 t152).f2).length c153_2) ((rd_T81 x4_3 t152).f2)) := ⟨(by rw [hw]; exact (by (with_reducible repeat (first | apply Kd.V_alloc | apply Kd.V_drewN | apply Kd.V_drew)); exact Kd.V_mono (Kd.V_far (p := ⟨gb154, 2, none⟩) (Kd.V_far (p := ⟨gb154, 1, none⟩) (Kd.V_far (p := ⟨gb154, 0, none⟩) (Kd.V_mono HL153_2.out (fun k_ hk => (⟨hk, hk.2⟩ : _ ∧ k_ ≠ gb154))) (fun _ hk => hk.2) (.int .i64 ((rd_T81 x4_3 t152).f0))) (fun _ hk => hk.2) (.int .i64 ((rd_T81 x4_3 t152).f1))) (fun _ hk => hk.2) (.slice A153_2 ((rd_T81 x4_3 t152).f2).length c153_2)) (by first | exact (fun _ hk => ⟨hk.1.1.1, ⟨hk.1.1.2, hk.1.2⟩⟩) | (intro k_ hk_; grind))))⟩; have n3_ : Aside0 (w40.heap[gb154]? = some (.cells #[.int .i64 ((rd_T81 x4_3 t152).f0), .int .i64 ((rd_T81 x4_3 t152).f1), .slice A153_2 ((rd_T81 x4_3 t152).f2).length c153_2] 81 (0, 0))) := ⟨(by rw [hw]; exact (by (with_reducible repeat (first | refine blk_drewN ?_ _ | refine blk_drew ?_ | refine blk_alloc ?_ _)); refine blk_put (cs := #[.int .i64 ((rd_T81 x4_3 t152).f0), .int .i64 ((rd_T81 x4_3 t152).f1), .slice none 0 0]) ?_ 2 _ rfl; (with_reducible repeat (first | refine blk_drewN ?_ _ | refine blk_drew ?_ | refine blk_alloc ?_ _)); refine blk_put (cs := #[.int .i64 ((rd_T81 x4_3 t152).f0), .int .i64 0, .slice none 0 0]) ?_ 1 _ rfl; (with_reducible repeat (first | refine blk_drewN ?_ _ | refine blk_drew ?_ | refine blk_alloc ?_ _)); refine blk_put (cs := #[.int .i64 0, .int .i64 0, .slice none 0 0]) ?_ 0 _ rfl; (with_reducible repeat (first | refine blk_drewN ?_ _ | refine blk_drew ?_ | refine blk_alloc ?_ _)); exact BK154.out))⟩; have n4_ : Aside0 (Below w.heap.size w w40) := ⟨(by rw [hw]; exact (by repeat (first | (with_reducible first | exact HB.out | apply below_alloc | apply pw_below_drewN | apply below_drew1 | refine below_set ?_ GE154.out) | exact HB.out)))⟩; clear hw; clear HO_3; clear HO_4; clear HL153_2; clear BK154; clear HB; have HO_3 := n0_; have HO_4 := n1_; have HL153_2 := n2_; have BK154 := n3_; have HB := n4_; clear n0_ n1_ n2_ n3_ n4_) | ((with_reducible refine gate_callee (f := 56) rfl ?_); refine goesL_ (some 58) rfl rfl Try.func56 (by kernel_rfl) rfl #[.slice (some ad153) x4_3.length co37, .int .i64 t152] rfl (by (try simp only [List.map_toArray, List.map_cons, List.map_nil]); first | done | rfl | (simp only [List.length_drop, List.length_take]; rfl)) ?_; (with_reducible refine (spec_l3Less.calls (fun k_ => (some k_ ≠ (v137 : Value).ownBlock ∧ k_ ≠ gb154)) _ _ x4_3 t152 t155 _ ?side1 A29.out).mono ?_); (case side1 => exact Kd.N_V (HO_4.out)); rintro e w41 ⟨v156, rfl, ho0, hb⟩; refine ⟨_, rfl, ?_⟩; have n0_ := Aside0.mk (Kd.R_below (by (with_reducible repeat (first | apply Kd.R_alloc | apply Kd.R_drewN | apply Kd.R_drew)); exact HO_3.out) hb); have n1_ := Aside0.mk (Kd.N_elder' (by (with_reducible repeat (first | apply Kd.N_alloc | apply Kd.N_drewN | apply Kd.N_drew)); exact HO_4.out) (Kd.N_base ho0) hb); have n2_ := Aside0.mk (Kd.V_elder' (by (with_reducible repeat (first | apply Kd.V_alloc | apply Kd.V_drewN | apply Kd.V_drew)); exact HL153_2.out) (Kd.N_base ho0) hb); have n3_ := Aside0.mk (Kd.N_lower (Kd.N_mono (ok' := fun k_ => some k_ ≠ (v137 : Value).ownBlock ∧ k_ ≠ gb154) ho0 (fun k_ hk_ => ⟨Or.elim hk_ (fun hs_ => hs_.1) (fun hn_ => (Kd.fresh' (Kd.R_lt (by (with_reducible repeat (first | apply Kd.R_alloc | apply Kd.R_drewN | apply Kd.R_drew)); exact HO_3.out)) k_ hn_)), Or.elim hk_ (fun hs_ => hs_.2) (fun hn_ => (Kd.freshB (g := gb154) (o := .cells #[.int .i64 ((rd_T81 x4_3 t152).f0), .int .i64 ((rd_T81 x4_3 t152).f1), .slice A153_2 ((rd_T81 x4_3 t152).f2).length c153_2] 81 (0, 0)) (by (with_reducible repeat (first | refine blk_drewN ?_ _ | refine blk_drew ?_ | refine blk_alloc ?_ _)); exact BK154.out) k_ hn_))⟩)) (below_size (by repeat (first | (with_reducible first | exact HB.out | apply below_alloc | apply pw_below_drewN | apply below_drew1 | refine below_set ?_ GE154.out) | exact HB.out)))); have n4_ := Aside0.mk (Kd.C_below (by first | exact (Kd.V_reads' HL153_2.out).2.2 | repeat (first | (with_reducible exact HR153_2.out) | (with_reducible refine Kd.C_alloc ?_ _) | (with_reducible refine Kd.C_drewN ?_ _) | (with_reducible refine Kd.C_drew ?_) | exact HR153_2.out)) hb); have n5_ := Aside0.mk (blk_below (g := gb154) (o := .cells #[.int .i64 ((rd_T81 x4_3 t152).f0), .int .i64 ((rd_T81 x4_3 t152).f1), .slice A153_2 ((rd_T81 x4_3 t152).f2).length c153_2] 81 (0, 0)) (by (with_reducible repeat (first | refine blk_drewN ?_ _ | refine blk_drew ?_ | refine blk_alloc ?_ _)); exact BK154.out) hb); have n6_ := Aside0.mk (below_step (by repeat (first | (with_reducible first | exact HB.out | apply below_alloc | apply pw_below_drewN | apply below_drew1 | refine below_set ?_ GE154.out) | exact HB.out)) hb); clear HO_3; clear HO_4; clear HL153_2; clear HR153_2; clear BK154; clear HB; have HO_3 := n0_; have HO_4 := n1_; have HL153_2 := n2_; have HO157 := n3_; have HR153_2 := n4_; have BK154 := n5_; have HB := n6_; clear n0_ n1_ n2_ n3_ n4_ n5_ n6_; (try clear hb); (try clear hb2); (try clear hk); (try clear hi); (try clear ho0); obtain ⟨Ao42, co42, eo42⟩ := Kd.N_slice HO157.out; subst eo42) | ((with_reducible refine gate_callee (f := 55) rfl ?_); refine goesL_ (some 60) rfl rfl Try.func55 (by kernel_rfl) rfl #[.slice Ao42 t155.length co42] rfl (by (try simp only [List.map_toArray, List.map_cons, List.map_nil]); first | done | rfl | (simp only [List.length_drop, List.length_take]; rfl)) ?_; (with_reducible refine (spec_l3Least.calls k3 _ _ t155 t158 _ ?side1 ?side2 A30.out).mono ?_); (case side1 => repeat (first | exact (Kd.N_reads' HO157.out).2.2 | (with_reducible refine Kd.C_alloc ?_ _) | (with_reducible refine Kd.C_drewN ?_ _) | (with_reducible refine Kd.C_drew ?_))); (case side2 => exact (Kd.N_reads' HO157.out).2.1); rintro e w' ⟨rfl, ⟨nd, rfl⟩⟩; refine ⟨_, rfl, ?_⟩; (try (rw [drewN_self w41]; generalize hq_ : World.drewN w41 _ = w41; have n0_ : Aside0 (Kd.V (Kd.int .i64) 3 w41 w.heap.size (fun k_ => some k_ ≠ (.slice Ao42 t155.length co42 : Value).ownBlock ∧ some k_ ≠ (v137 : Value).ownBlock ∧ some k_ ≠ (.slice (some ad153) x4_3.length co37 : Value).ownBlock ∧ k_ ≠ gb154) (.slice A153_2 ((rd_T81 x4_3 t152).f2).length c153_2) ((rd_T81 x4_3 t152).f2)) := ⟨by rw [← hq_]; exact (by (with_reducible repeat (first | apply Kd.V_alloc | apply Kd.V_drewN | apply Kd.V_drew)); exact Kd.V_mono HL153_2.out (by first | exact (fun _ hk => ⟨hk.2, ⟨hk.1.1, ⟨hk.1.2.1, hk.1.2.2⟩⟩⟩) | (intro k_ hk_; grind)))⟩; have n1_ : Aside0 (Kd.N k81 81 w41 w.heap.size (fun k_ => some k_ ≠ (v137 : Value).ownBlock ∧ k_ ≠ gb154) (.slice Ao42 t155.length co42) t155) := ⟨by rw [← hq_]; exact (by (with_reducible repeat (first | apply Kd.N_alloc | apply Kd.N_drewN | apply Kd.N_drew)); exact HO157.out)⟩; have n2_ : Aside0 (Kd.R (Kd.int .i64) 3 w41 w.heap.size (fun _ => True) v137 x3_3) := ⟨by rw [← hq_]; exact (by (with_reducible repeat (first | apply Kd.R_alloc | apply Kd.R_drewN | apply Kd.R_drew)); exact HO_3.out)⟩; have n3_ : Aside0 (Kd.N k81 81 w41 w.heap.size (fun k_ => some k_ ≠ (.slice Ao42 t155.length co42 : Value).ownBlock ∧ some k_ ≠ (v137 : Value).ownBlock ∧ k_ ≠ gb154) (.slice (some ad153) x4_3.length co37) x4_3) := ⟨by rw [← hq_]; exact (by (with_reducible repeat (first | apply Kd.N_alloc | apply Kd.N_drewN | apply Kd.N_drew)); exact Kd.N_mono HO_4.out (by first | exact (fun _ hk => ⟨hk.2, ⟨hk.1.1, hk.1.2⟩⟩) | (intro k_ hk_; grind)))⟩; have n4_ : Aside0 (w41.heap[gb154]? = some (.cells #[.int .i64 ((rd_T81 x4_3 t152).f0), .int .i64 ((rd_T81 x4_3 t152).f1), .slice A153_2 ((rd_T81 x4_3 t152).f2).length c153_2] 81 (0, 0))) := ⟨by rw [← hq_]; exact (by (with_reducible repeat (first | refine blk_drewN ?_ _ | refine blk_drew ?_ | refine blk_alloc ?_ _)); exact BK154.out)⟩; have n5_ : Aside0 (Below w.heap.size w w41) := ⟨by rw [← hq_]; exact (by repeat (first | (with_reducible first | exact HB.out | apply below_alloc | apply pw_below_drewN | apply below_drew1 | refine below_set ?_ GE154.out) | exact HB.out))⟩; have n6_ : Aside0 (Kd.C (Kd.int .i64) w41 A153_2 ((rd_T81 x4_3 t152).f2).length ((rd_T81 x4_3 t152).f2)) := ⟨by rw [← hq_]; exact (by first | exact (Kd.V_reads' HL153_2.out).2.2 | repeat (first | (with_reducible exact HR153_2.out) | (with_reducible refine Kd.C_alloc ?_ _) | (with_reducible refine Kd.C_drewN ?_ _) | (with_reducible refine Kd.C_drew ?_) | exact HR153_2.out))⟩; clear HL153_2 HO157 HO_3 HO_4 BK154 HB HR153_2 hq_; have HL153_2 := n0_; have HO157 := n1_; have HO_3 := n2_; have HO_4 := n3_; have BK154 := n4_; have HB := n5_; have HR153_2 := n6_; clear n0_ n1_ n2_ n3_ n4_ n5_ n6_)); have p159 : 0 ≤ (t158 : Int) := of_decide_eq_true (by first | (with_reducible assumption) | assumption); have q159 : t158 < (t155.length : Int) := of_decide_eq_true (by first | (with_reducible assumption) | assumption); obtain ⟨ad159, A159_2, c159_2, e159, hx159_0, hx159_1, hx159_2, hl159_2, hi159_2⟩ := at_T81 (Kd.N_reads' HO157.out).2.2 t158 p159 q159; cases e159; obtain ⟨ce159, hce159, hMe159, hcc159⟩ := Kd.N_get HO157.out z81 t158 p159 (by first | exact q159 | exact of_decide_eq_true (by first | (with_reducible assumption) | assumption) | (have e_ := (Kd.N_reads' HO157.out).1; omega)); obtain ⟨ua159_2, uc159_2, rfl, ul159_2, ge159_2⟩ := k81_openF hMe159; have hv159_2 := hcc159 2 _ rfl; rw [add_field _ _ 2 (by omega)] at hv159_2; replace hv159_2 := Option.some.inj (hv159_2.symm.trans hx159_2); injection hv159_2 with hva_ hvn_ hvc_; rw [hva_] at ge159_2; rw [hvc_] at ul159_2; have HL159_2 := Aside0.mk (show Kd.V (Kd.int .i64) 3 _ w.heap.size _ _ ((rd_T81 t155 t158).f2) from Kd.V_mk ul159_2 ge159_2); clear hva_ hvn_ hvc_ ge159_2 ul159_2; clear hcc159 hce159; have HR159_2 := Aside0.mk hi159_2; have HC159_2 := Aside0.mk hl159_2; clear hi159_2 hl159_2; replace p159 := eq_true p159; replace q159 := eq_true q159) | ((with_reducible refine gate_dst (N := 8) rfl ?_); refine box_event ?hg (N := 8) ?hd (cs := #[.int .i64 0, .int .i64 0, .slice none 0 0]) (t := 81) ?hr ?_; (case hd => rfl); (case hg => rfl); (case hr => first | (go_simp; done) | (go_simp; rfl)); intro gb160 hg w43 hbox hb; have n0_ := Aside0.mk (Kd.R_below (by (with_reducible repeat (first | apply Kd.R_alloc | apply Kd.R_drewN | apply Kd.R_drew)); exact HO_3.out) hb); have n1_ := Aside0.mk (Kd.N_below (Kd.N_elderB (by (with_reducible repeat (first | apply Kd.N_alloc | apply Kd.N_drewN | apply Kd.N_drew)); exact HO_4.out) gb160 (Nat.le_of_eq hg.symm)) hb); have n2_ := Aside0.mk (Kd.V_below (Kd.V_elderB (by (with_reducible repeat (first | apply Kd.V_alloc | apply Kd.V_drewN | apply Kd.V_drew)); exact HL153_2.out) gb160 (Nat.le_of_eq hg.symm)) hb); have n3_ := Aside0.mk (Kd.N_below (Kd.N_elderB (by (with_reducible repeat (first | apply Kd.N_alloc | apply Kd.N_drewN | apply Kd.N_drew)); exact HO157.out) gb160 (Nat.le_of_eq hg.symm)) hb); have n4_ := Aside0.mk (Kd.V_below (Kd.V_elderB (by (with_reducible repeat (first | apply Kd.V_alloc | apply Kd.V_drewN | apply Kd.V_drew)); exact HL159_2.out) gb160 (Nat.le_of_eq hg.symm)) hb); have n5_ := Aside0.mk (Kd.C_below (by first | exact (Kd.V_reads' HL153_2.out).2.2 | repeat (first | (with_reducible exact HR153_2.out) | (with_reducible refine Kd.C_alloc ?_ _) | (with_reducible refine Kd.C_drewN ?_ _) | (with_reducible refine Kd.C_drew ?_) | exact HR153_2.out)) hb); have n6_ := Aside0.mk (blk_below (g := gb154) (o := .cells #[.int .i64 ((rd_T81 x4_3 t152).f0), .int .i64 ((rd_T81 x4_3 t152).f1), .slice A153_2 ((rd_T81 x4_3 t152).f2).length c153_2] 81 (0, 0)) (by (with_reducible repeat (first | refine blk_drewN ?_ _ | refine blk_drew ?_ | refine blk_alloc ?_ _)); exact BK154.out) hb); have n7_ := Aside0.mk (Kd.C_below (by first | exact (Kd.V_reads' HL159_2.out).2.2 | repeat (first | (with_reducible exact HR159_2.out) | (with_reducible refine Kd.C_alloc ?_ _) | (with_reducible refine Kd.C_drewN ?_ _) | (with_reducible refine Kd.C_drew ?_) | exact HR159_2.out)) hb); have n8_ := Aside0.mk (below_step (by repeat (first | (with_reducible first | exact HB.out | apply below_alloc | apply pw_below_drewN | apply below_drew1 | refine below_set ?_ GE154.out) | exact HB.out)) hb); have n9_ := Aside0.mk (hbox); have n10_ := Aside0.mk ((by rw [hg]; exact (below_size (by repeat (first | (with_reducible first | exact HB.out | apply below_alloc | apply pw_below_drewN | apply below_drew1 | refine below_set ?_ GE154.out) | exact HB.out))) : w.heap.size ≤ gb160)); have n11_ := Aside0.mk ((by rw [hg]; exact (below_size (by repeat (first | (with_reducible first | exact HB.out | apply below_alloc | apply pw_below_drewN | apply below_drew1 | refine below_set ?_ GE154.out) | exact HB.out))) : w.heap.size ≤ gb160)); have n12_ := Aside0.mk ((by rw [hg]; exact Nat.ne_of_lt (blk_lt (g := gb154) (o := .cells #[.int .i64 ((rd_T81 x4_3 t152).f0), .int .i64 ((rd_T81 x4_3 t152).f1), .slice A153_2 ((rd_T81 x4_3 t152).f2).length c153_2] 81 (0, 0)) (by (with_reducible repeat (first | refine blk_drewN ?_ _ | refine blk_drew ?_ | refine blk_alloc ?_ _)); exact BK154.out)) : gb154 ≠ gb160)); have n13_ := Aside0.mk ((by rw [hg]; exact Nat.ne_of_gt (blk_lt (g := gb154) (o := .cells #[.int .i64 ((rd_T81 x4_3 t152).f0), .int .i64 ((rd_T81 x4_3 t152).f1), .slice A153_2 ((rd_T81 x4_3 t152).f2).length c153_2] 81 (0, 0)) (by (with_reducible repeat (first | refine blk_drewN ?_ _ | refine blk_drew ?_ | refine blk_alloc ?_ _)); exact BK154.out)) : gb160 ≠ gb154)); clear HO_3; clear HO_4; clear HL153_2; clear HO157; clear HL159_2; clear HR153_2; clear BK154; clear HR159_2; clear HB; have HO_3 := n0_; have HO_4 := n1_; have HL153_2 := n2_; have HO157 := n3_; have HL159_2 := n4_; have HR153_2 := n5_; have BK154 := n6_; have HR159_2 := n7_; have HB := n8_; have BK160 := n9_; have GW160 := n10_; have GE160 := n11_; have NB154_160 := n12_; have NB160_154 := n13_; clear n0_ n1_ n2_ n3_ n4_ n5_ n6_ n7_ n8_ n9_ n10_ n11_ n12_ n13_; clear hb hbox hg; have hnb44 := NB160_154.out; have hnc44 := NB154_160.out; have hcz45_0 : w43.cell? ⟨gb160, 0, none⟩ = some (.int .i64 0) := (blk_cell BK160.out 0).trans rfl; have hcz45_1 : w43.cell? ⟨gb160, 1, none⟩ = some (.int .i64 0) := (blk_cell BK160.out 1).trans rfl; have hcz45_2 : w43.cell? ⟨gb160, 2, none⟩ = some (.slice none 0 0) := (blk_cell BK160.out 2).trans rfl; have hfz45_0 := blk_frozen BK160.out 0; have hfz45_1 := blk_frozen BK160.out 1; have hfz45_2 := blk_frozen BK160.out 2) | ((with_reducible refine gate_store (t := 81) (p := 8) rfl ?_); refine store_event (t := 81) (p := 8) (v := ?vo_w46) (w1 := (((w43.setCell ⟨gb160, 0, none⟩ (.int .i64 ((rd_T81 t155 t158).f0))).setCell ⟨gb160, 1, none⟩ (.int .i64 ((rd_T81 t155 t158).f1))).setCell ⟨gb160, 2, none⟩ (.slice A159_2 ((rd_T81 t155 t158).f2).length c159_2))) ?hg ?ho ?hn ?hr ?_; (case ho => rfl); (case hg => rfl); (case hn => rfl); (case hr => first | (go_simp; done) | (go_simp; rfl)); intro w46 hw; have n0_ : Aside0 (Kd.R (Kd.int .i64) 3 w46 w.heap.size (fun _ => True) v137 x3_3) := ⟨(by rw [hw]; exact (by (with_reducible repeat (first | apply Kd.R_alloc | apply Kd.R_drewN | apply Kd.R_drew)); exact Kd.R_mono (Kd.R_far (p := ⟨gb160, 2, none⟩) (Kd.R_far (p := ⟨gb160, 1, none⟩) (Kd.R_far (p := ⟨gb160, 0, none⟩) (Kd.R_types HO_3.out BK160.out (by decide)) (fun _ hk => hk.2) (.int .i64 ((rd_T81 t155 t158).f0))) (fun _ hk => hk.2) (.int .i64 ((rd_T81 t155 t158).f1))) (fun _ hk => hk.2) (.slice A159_2 ((rd_T81 t155 t158).f2).length c159_2)) (fun _ hk => trivial)))⟩; have n1_ : Aside0 (Kd.N k81 81 w46 w.heap.size (fun k_ => some k_ ≠ (v137 : Value).ownBlock ∧ some k_ ≠ (.slice (some ad159) t155.length co42 : Value).ownBlock ∧ k_ ≠ gb154 ∧ k_ ≠ gb160) (.slice (some ad153) x4_3.length co37) x4_3) := ⟨(by rw [hw]; exact (by (with_reducible repeat (first | apply Kd.N_alloc | apply Kd.N_drewN | apply Kd.N_drew)); exact Kd.N_mono (Kd.N_far (p := ⟨gb160, 2, none⟩) (Kd.N_far (p := ⟨gb160, 1, none⟩) (Kd.N_far (p := ⟨gb160, 0, none⟩) (Kd.N_mono HO_4.out (fun k_ hk => (⟨hk, hk.2⟩ : _ ∧ k_ ≠ gb160))) (fun _ hk => hk.2) (.int .i64 ((rd_T81 t155 t158).f0))) (fun _ hk => hk.2) (.int .i64 ((rd_T81 t155 t158).f1))) (fun _ hk => hk.2) (.slice A159_2 ((rd_T81 t155 t158).f2).length c159_2)) (by first | exact (fun _ hk => ⟨hk.1.1.1.1, ⟨hk.1.1.2, ⟨hk.1.1.1.2, hk.1.2⟩⟩⟩) | (intro k_ hk_; grind))))⟩; have n2_ : Aside0 (Kd.V (Kd.int .i64) 3 w46 w.heap.size (fun k_ => some k_ ≠ (v137 : Value).ownBlock ∧ some k_ ≠ (.slice (some ad153) x4_3.length co37 : Value).ownBlock ∧ some k_ ≠ (.slice (some ad159) t155.length co42 : Value).ownBlock ∧ k_ ≠ gb154 ∧ k_ ≠ gb160) (.slice A153_2 ((rd_T81 x4_3 t152).f2).length c153_2) ((rd_T81 x4_3 t152).f2)) := ⟨(by rw [hw]; exact (by (with_reducible repeat (first | apply Kd.V_alloc | apply Kd.V_drewN | apply Kd.V_drew)); exact Kd.V_mono (Kd.V_far (p := ⟨gb160, 2, none⟩) (Kd.V_far (p := ⟨gb160, 1, none⟩) (Kd.V_far (p := ⟨gb160, 0, none⟩) (Kd.V_mono HL153_2.out (fun k_ hk => (⟨hk, hk.2⟩ : _ ∧ k_ ≠ gb160))) (fun _ hk => hk.2) (.int .i64 ((rd_T81 t155 t158).f0))) (fun _ hk => hk.2) (.int .i64 ((rd_T81 t155 t158).f1))) (fun _ hk => hk.2) (.slice A159_2 ((rd_T81 t155 t158).f2).length c159_2)) (by first | exact (fun _ hk => ⟨hk.1.1.1.1, ⟨hk.1.1.1.2.1, ⟨hk.1.1.2, ⟨hk.1.1.1.2.2, hk.1.2⟩⟩⟩⟩) | (intro k_ hk_; grind))))⟩; have n3_ : Aside0 (Kd.N k81 81 w46 w.heap.size (fun k_ => some k_ ≠ (v137 : Value).ownBlock ∧ k_ ≠ gb154 ∧ k_ ≠ gb160) (.slice (some ad159) t155.length co42) t155) := ⟨(by rw [hw]; exact (by (with_reducible repeat (first | apply Kd.N_alloc | apply Kd.N_drewN | apply Kd.N_drew)); exact Kd.N_mono (Kd.N_far (p := ⟨gb160, 2, none⟩) (Kd.N_far (p := ⟨gb160, 1, none⟩) (Kd.N_far (p := ⟨gb160, 0, none⟩) (Kd.N_mono HO157.out (fun k_ hk => (⟨hk, hk.2⟩ : _ ∧ k_ ≠ gb160))) (fun _ hk => hk.2) (.int .i64 ((rd_T81 t155 t158).f0))) (fun _ hk => hk.2) (.int .i64 ((rd_T81 t155 t158).f1))) (fun _ hk => hk.2) (.slice A159_2 ((rd_T81 t155 t158).f2).length c159_2)) (by first | exact (fun _ hk => ⟨hk.1.1.1, ⟨hk.1.1.2, hk.1.2⟩⟩) | (intro k_ hk_; grind))))⟩; have n4_ : Aside0 (Kd.V (Kd.int .i64) 3 w46 w.heap.size (fun k_ => some k_ ≠ (v137 : Value).ownBlock ∧ some k_ ≠ (.slice (some ad159) t155.length co42 : Value).ownBlock ∧ k_ ≠ gb154 ∧ k_ ≠ gb160) (.slice A159_2 ((rd_T81 t155 t158).f2).length c159_2) ((rd_T81 t155 t158).f2)) := ⟨(by rw [hw]; exact (by (with_reducible repeat (first | apply Kd.V_alloc | apply Kd.V_drewN | apply Kd.V_drew)); exact Kd.V_mono (Kd.V_far (p := ⟨gb160, 2, none⟩) (Kd.V_far (p := ⟨gb160, 1, none⟩) (Kd.V_far (p := ⟨gb160, 0, none⟩) (Kd.V_mono HL159_2.out (fun k_ hk => (⟨hk, hk.2⟩ : _ ∧ k_ ≠ gb160))) (fun _ hk => hk.2) (.int .i64 ((rd_T81 t155 t158).f0))) (fun _ hk => hk.2) (.int .i64 ((rd_T81 t155 t158).f1))) (fun _ hk => hk.2) (.slice A159_2 ((rd_T81 t155 t158).f2).length c159_2)) (by first | exact (fun _ hk => ⟨hk.1.1.1.1, ⟨hk.1.1.2, ⟨hk.1.1.1.2, hk.1.2⟩⟩⟩) | (intro k_ hk_; grind))))⟩; have n5_ : Aside0 (w46.heap[gb154]? = some (.cells #[.int .i64 ((rd_T81 x4_3 t152).f0), .int .i64 ((rd_T81 x4_3 t152).f1), .slice A153_2 ((rd_T81 x4_3 t152).f2).length c153_2] 81 (0, 0))) := ⟨(by rw [hw]; exact (by (with_reducible repeat (first | refine blk_drewN ?_ _ | refine blk_drew ?_ | refine blk_alloc ?_ _)); refine blk_far ?_ NB154_160.out _; (with_reducible repeat (first | refine blk_drewN ?_ _ | refine blk_drew ?_ | refine blk_alloc ?_ _)); refine blk_far ?_ NB154_160.out _; (with_reducible repeat (first | refine blk_drewN ?_ _ | refine blk_drew ?_ | refine blk_alloc ?_ _)); refine blk_far ?_ NB154_160.out _; (with_reducible repeat (first | refine blk_drewN ?_ _ | refine blk_drew ?_ | refine blk_alloc ?_ _)); exact BK154.out))⟩; have n6_ : Aside0 (w46.heap[gb160]? = some (.cells #[.int .i64 ((rd_T81 t155 t158).f0), .int .i64 ((rd_T81 t155 t158).f1), .slice A159_2 ((rd_T81 t155 t158).f2).length c159_2] 81 (0, 0))) := ⟨(by rw [hw]; exact (by (with_reducible repeat (first | refine blk_drewN ?_ _ | refine blk_drew ?_ | refine blk_alloc ?_ _)); refine blk_put (cs := #[.int .i64 ((rd_T81 t155 t158).f0), .int .i64 ((rd_T81 t155 t158).f1), .slice none 0 0]) ?_ 2 _ rfl; (with_reducible repeat (first | refine blk_drewN ?_ _ | refine blk_drew ?_ | refine blk_alloc ?_ _)); refine blk_put (cs := #[.int .i64 ((rd_T81 t155 t158).f0), .int .i64 0, .slice none 0 0]) ?_ 1 _ rfl; (with_reducible repeat (first | refine blk_drewN ?_ _ | refine blk_drew ?_ | refine blk_alloc ?_ _)); refine blk_put (cs := #[.int .i64 0, .int .i64 0, .slice none 0 0]) ?_ 0 _ rfl; (with_reducible repeat (first | refine blk_drewN ?_ _ | refine blk_drew ?_ | refine blk_alloc ?_ _)); exact BK160.out))⟩; have n7_ : Aside0 (Below w.heap.size w w46) := ⟨(by rw [hw]; exact (by repeat (first | (with_reducible first | exact HB.out | apply below_alloc | apply pw_below_drewN | apply below_drew1 | refine below_set ?_ GE154.out | refine below_set ?_ GE160.out) | exact HB.out)))⟩; clear hw; clear HO_3; clear HO_4; clear HL153_2; clear HO157; clear HL159_2; clear BK154; clear BK160; clear HB; have HO_3 := n0_; have HO_4 := n1_; have HL153_2 := n2_; have HO157 := n3_; have HL159_2 := n4_; have BK154 := n5_; have BK160 := n6_; have HB := n7_; clear n0_ n1_ n2_ n3_ n4_ n5_ n6_ n7_) | ((with_reducible refine gate_callee (f := 56) rfl ?_); refine goesL_ (some 67) rfl rfl Try.func56 (by kernel_rfl) rfl #[.slice (some ad159) t155.length co42, .int .i64 t158] rfl (by (try simp only [List.map_toArray, List.map_cons, List.map_nil]); first | done | rfl | (simp only [List.length_drop, List.length_take]; rfl)) ?_; (with_reducible refine (spec_l3Less.calls (fun k_ => (some k_ ≠ (v137 : Value).ownBlock ∧ (k_ ≠ gb154 ∧ k_ ≠ gb160))) _ _ t155 t158 t161 _ ?side1 A33.out).mono ?_); (case side1 => exact Kd.N_V (HO157.out)); rintro e w47 ⟨v162, rfl, ho0, hb⟩; refine ⟨_, rfl, ?_⟩; have n0_ := Aside0.mk (Kd.R_below (by (with_reducible repeat (first | apply Kd.R_alloc | apply Kd.R_drewN | apply Kd.R_drew)); exact HO_3.out) hb); have n1_ := Aside0.mk (Kd.N_elder' (by (with_reducible repeat (first | apply Kd.N_alloc | apply Kd.N_drewN | apply Kd.N_drew)); exact HO_4.out) (Kd.N_base ho0) hb); have n2_ := Aside0.mk (Kd.V_elder' (by (with_reducible repeat (first | apply Kd.V_alloc | apply Kd.V_drewN | apply Kd.V_drew)); exact HL153_2.out) (Kd.N_base ho0) hb); have n3_ := Aside0.mk (Kd.N_elder' (by (with_reducible repeat (first | apply Kd.N_alloc | apply Kd.N_drewN | apply Kd.N_drew)); exact HO157.out) (Kd.N_base ho0) hb); have n4_ := Aside0.mk (Kd.V_elder' (by (with_reducible repeat (first | apply Kd.V_alloc | apply Kd.V_drewN | apply Kd.V_drew)); exact HL159_2.out) (Kd.N_base ho0) hb); have n5_ := Aside0.mk (Kd.N_lower (Kd.N_mono (ok' := fun k_ => some k_ ≠ (v137 : Value).ownBlock ∧ k_ ≠ gb154 ∧ k_ ≠ gb160) ho0 (fun k_ hk_ => ⟨Or.elim hk_ (fun hs_ => hs_.1) (fun hn_ => (Kd.fresh' (Kd.R_lt (by (with_reducible repeat (first | apply Kd.R_alloc | apply Kd.R_drewN | apply Kd.R_drew)); exact HO_3.out)) k_ hn_)), Or.elim hk_ (fun hs_ => hs_.2.1) (fun hn_ => (Kd.freshB (g := gb154) (o := .cells #[.int .i64 ((rd_T81 x4_3 t152).f0), .int .i64 ((rd_T81 x4_3 t152).f1), .slice A153_2 ((rd_T81 x4_3 t152).f2).length c153_2] 81 (0, 0)) (by (with_reducible repeat (first | refine blk_drewN ?_ _ | refine blk_drew ?_ | refine blk_alloc ?_ _)); exact BK154.out) k_ hn_)), Or.elim hk_ (fun hs_ => hs_.2.2) (fun hn_ => (Kd.freshB (g := gb160) (o := .cells #[.int .i64 ((rd_T81 t155 t158).f0), .int .i64 ((rd_T81 t155 t158).f1), .slice A159_2 ((rd_T81 t155 t158).f2).length c159_2] 81 (0, 0)) (by (with_reducible repeat (first | refine blk_drewN ?_ _ | refine blk_drew ?_ | refine blk_alloc ?_ _)); exact BK160.out) k_ hn_))⟩)) (below_size (by repeat (first | (with_reducible first | exact HB.out | apply below_alloc | apply pw_below_drewN | apply below_drew1 | refine below_set ?_ GE154.out | refine below_set ?_ GE160.out) | exact HB.out)))); have n6_ := Aside0.mk (Kd.C_below (by first | exact (Kd.V_reads' HL153_2.out).2.2 | repeat (first | (with_reducible exact HR153_2.out) | (with_reducible refine Kd.C_alloc ?_ _) | (with_reducible refine Kd.C_drewN ?_ _) | (with_reducible refine Kd.C_drew ?_) | exact HR153_2.out)) hb); have n7_ := Aside0.mk (blk_below (g := gb154) (o := .cells #[.int .i64 ((rd_T81 x4_3 t152).f0), .int .i64 ((rd_T81 x4_3 t152).f1), .slice A153_2 ((rd_T81 x4_3 t152).f2).length c153_2] 81 (0, 0)) (by (with_reducible repeat (first | refine blk_drewN ?_ _ | refine blk_drew ?_ | refine blk_alloc ?_ _)); exact BK154.out) hb); have n8_ := Aside0.mk (Kd.C_below (by first | exact (Kd.V_reads' HL159_2.out).2.2 | repeat (first | (with_reducible exact HR159_2.out) | (with_reducible refine Kd.C_alloc ?_ _) | (with_reducible refine Kd.C_drewN ?_ _) | (with_reducible refine Kd.C_drew ?_) | exact HR159_2.out)) hb); have n9_ := Aside0.mk (blk_below (g := gb160) (o := .cells #[.int .i64 ((rd_T81 t155 t158).f0), .int .i64 ((rd_T81 t155 t158).f1), .slice A159_2 ((rd_T81 t155 t158).f2).length c159_2] 81 (0, 0)) (by (with_reducible repeat (first | refine blk_drewN ?_ _ | refine blk_drew ?_ | refine blk_alloc ?_ _)); exact BK160.out) hb); have n10_ := Aside0.mk (below_step (by repeat (first | (with_reducible first | exact HB.out | apply below_alloc | apply pw_below_drewN | apply below_drew1 | refine below_set ?_ GE154.out | refine below_set ?_ GE160.out) | exact HB.out)) hb); clear HO_3; clear HO_4; clear HL153_2; clear HO157; clear HL159_2; clear HR153_2; clear BK154; clear HR159_2; clear BK160; clear HB; have HO_3 := n0_; have HO_4 := n1_; have HL153_2 := n2_; have HO157 := n3_; have HL159_2 := n4_; have HO163 := n5_; have HR153_2 := n6_; have BK154 := n7_; have HR159_2 := n8_; have BK160 := n9_; have HB := n10_; clear n0_ n1_ n2_ n3_ n4_ n5_ n6_ n7_ n8_ n9_ n10_; (try clear hb); (try clear hb2); (try clear hk); (try clear hi); (try clear ho0); have hcz48_0 : w47.cell? ⟨gb154, 0, none⟩ = some (.int .i64 ((rd_T81 x4_3 t152).f0)) := (blk_cell BK154.out 0).trans rfl; have hcz48_1 : w47.cell? ⟨gb154, 1, none⟩ = some (.int .i64 ((rd_T81 x4_3 t152).f1)) := (blk_cell BK154.out 1).trans rfl; have hcz48_2 : w47.cell? ⟨gb154, 2, none⟩ = some (.slice A153_2 ((rd_T81 x4_3 t152).f2).length c153_2) := (blk_cell BK154.out 2).trans rfl; have hfz48_0 := blk_frozen BK154.out 0; have hfz48_1 := blk_frozen BK154.out 1; have hfz48_2 := blk_frozen BK154.out 2; have hcz49_0 : w47.cell? ⟨gb160, 0, none⟩ = some (.int .i64 ((rd_T81 t155 t158).f0)) := (blk_cell BK160.out 0).trans rfl; have hcz49_1 : w47.cell? ⟨gb160, 1, none⟩ = some (.int .i64 ((rd_T81 t155 t158).f1)) := (blk_cell BK160.out 1).trans rfl; have hcz49_2 : w47.cell? ⟨gb160, 2, none⟩ = some (.slice A159_2 ((rd_T81 t155 t158).f2).length c159_2) := (blk_cell BK160.out 2).trans rfl; have hfz49_0 := blk_frozen BK160.out 0; have hfz49_1 := blk_frozen BK160.out 1; have hfz49_2 := blk_frozen BK160.out 2))
                                    have n0_ := Aside0.mk (Kd.R_drew HO_3.out)
                                    have n1_ := Aside0.mk (Kd.N_drew HO_4.out)
                                    have n2_ := Aside0.mk (Kd.V_drew HL153_2.out)
                                    have n3_ := Aside0.mk (Kd.N_drew HO157.out)
                                    have n4_ := Aside0.mk (Kd.V_drew HL159_2.out)
                                    have n5_ := Aside0.mk (Kd.N_drew HO163.out)
                                    have n6_ := Aside0.mk (blk_drew BK154.out)
                                    have n7_ := Aside0.mk (blk_drew BK160.out)
                                    have n8_ := Aside0.mk (Kd.C_drew HR153_2.out)
                                    have n9_ := Aside0.mk (Kd.C_drew HR159_2.out)
                                    have n10_ := Aside0.mk (below_drew1 HB.out)
                                    clear HO_3
                                    clear HO_4
                                    clear HL153_2
                                    clear HO157
                                    clear HL159_2
                                    clear HO163
                                    clear BK154
                                    clear BK160
                                    clear HR153_2
                                    clear HR159_2
                                    clear HB
                                    have HO_3 := n0_
                                    have HO_4 := n1_
                                    have HL153_2 := n2_
                                    have HO157 := n3_
                                    have HL159_2 := n4_
                                    have HO163 := n5_
                                    have BK154 := n6_
                                    have BK160 := n7_
                                    have HR153_2 := n8_
                                    have HR159_2 := n9_
                                    have HB := n10_
                                    clear n0_ n1_ n2_ n3_ n4_ n5_ n6_ n7_ n8_ n9_ n10_
                                    refine start_ (n := 8) (S := fun w' => w'.cell? ⟨gb154, 0, none⟩ = some (.int .i64 ((rd_T81 x4_3 t152).f0)) ∧ w'.cell? ⟨gb154, 1, none⟩ = some (.int .i64 ((rd_T81 x4_3 t152).f1)) ∧ w'.cell? ⟨gb154, 2, none⟩ = some (.slice A153_2 ((rd_T81 x4_3 t152).f2).length c153_2) ∧ w'.cell? ⟨gb160, 0, none⟩ = some (.int .i64 ((rd_T81 t155 t158).f0)) ∧ w'.cell? ⟨gb160, 1, none⟩ = some (.int .i64 ((rd_T81 t155 t158).f1)) ∧ w'.cell? ⟨gb160, 2, none⟩ = some (.slice A159_2 ((rd_T81 t155 t158).f2).length c159_2)) (ds := []) #[false, false, false, false, false, false, false, false] (by kernel_rfl) rfl rfl ⟨(blk_cell BK154.out 0).trans rfl, (blk_cell BK154.out 1).trans rfl, (blk_cell BK154.out 2).trans rfl, (blk_cell BK160.out 0).trans rfl, (blk_cell BK160.out 1).trans rfl, (blk_cell BK160.out 2).trans rfl⟩ (fun hHeld => ?_); refine with_tabW spec_l3Lens.tab20 spec_l3Lens.bits20 (fun HT_ HW_ => ?_)
                                    generalize w47.drew = w50 at HO_3 HO_4 HL153_2 HO157 HL159_2 HO163 BK154 BK160 HR153_2 HR159_2 HB hHeld ⊢
                                    refine pure_ (i := 1) (N := some 77) (v := ?_) (a' := ?_) #[false, true, false, false, false, false, false, false] rfl rfl (any_of HT_.out (by kernel_rfl)) (fun _ _ _ h => h) (Or.inl ⟨by rfl, ?_⟩) ?_ ?_
                                    rotate_left
                                    · intro w'
                                      go_simp
                                      with_reducible rfl
                                    rotate_left
                                    · simp only [Act.put, List.setIfInBounds_toArray, List.set_cons_zero, List.set_cons_succ, i64_w, i32_w]
                                      rfl
                                    refine pure_ (i := 4) (N := some 80) (v := ?_) (a' := ?_) #[false, true, false, false, true, false, false, false] rfl rfl (any_of HT_.out (by kernel_rfl)) (fun _ _ _ h => h) (Or.inl ⟨by rfl, ?_⟩) ?_ ?_
                                    rotate_left
                                    · intro w'
                                      go_simp
                                      with_reducible rfl
                                    rotate_left
                                    · simp only [Act.put, List.setIfInBounds_toArray, List.set_cons_zero, List.set_cons_succ, i64_w, i32_w]
                                      rfl
                                    refine take_ (i := 2) (N := some 78) (v := ?_) (a' := ?_) #[false, true, true, false, true, false, false, false] rfl rfl (take_ofW HT_.out HW_.out (by kernel_rfl)) (fun _ _ _ h => h) (Or.inl ⟨by rfl, ?_⟩) hHeld ?_ ?_
                                    rotate_left
                                    · rintro w' ⟨s0, s1, s2, s3, s4, s5⟩
                                      go_simp
                                      with_reducible rfl
                                    rotate_left
                                    · simp only [Act.put, List.setIfInBounds_toArray, List.set_cons_zero, List.set_cons_succ, i64_w, i32_w]
                                      rfl
                                    refine take_ (i := 5) (N := some 81) (v := ?_) (a' := ?_) #[false, true, true, false, true, true, false, false] rfl rfl (take_ofW HT_.out HW_.out (by kernel_rfl)) (fun _ _ _ h => h) (Or.inl ⟨by rfl, ?_⟩) hHeld ?_ ?_
                                    rotate_left
                                    · rintro w' ⟨s0, s1, s2, s3, s4, s5⟩
                                      go_simp
                                      with_reducible rfl
                                    rotate_left
                                    · simp only [Act.put, List.setIfInBounds_toArray, List.set_cons_zero, List.set_cons_succ, i64_w, i32_w]
                                      rfl
                                    refine one_ (i := 0) (N := some 76) #[true, true, true, false, true, true, false, false] rfl rfl (one_of HT_.out (by kernel_rfl)) (by decide) (fun K hK => ?_)
                                    refine Kd.R_lit_step (Kd.int .i64) _ 3 ?hg (N := 76) ?hd (xs := ([] : List Int)) (inner := []) (ok := fun _ => True) (okp := fun _ => True) ?hr ?hp (fun _ hk => hk) trivial (Below.refl _ _) (Nat.le_refl _) (by simp) ?_; (case hd => rfl); (case hg => rfl); (case hr => first | (go_simp; done) | (go_simp; rfl)); (case hp => exact (Reps.none _ _))
                                    intro v165 w51 ho52 hb hg_ hnew_
                                    clear hg_ hnew_
                                    (first | rw [← Ny164.out] at ho52 | (simp only [Int.reduceToNat] at ho52; rw [← Ny164.out] at ho52))
                                    have n0_ := Aside0.mk (Kd.R_elder' (by (with_reducible repeat (first | apply Kd.R_alloc | apply Kd.R_drewN | apply Kd.R_drew)); exact HO_3.out) (Kd.R_base ho52) hb)
                                    have n1_ := Aside0.mk (Kd.N_elder' (by (with_reducible repeat (first | apply Kd.N_alloc | apply Kd.N_drewN | apply Kd.N_drew)); exact HO_4.out) (Kd.R_base ho52) hb)
                                    have n2_ := Aside0.mk (Kd.V_elder' (by (with_reducible repeat (first | apply Kd.V_alloc | apply Kd.V_drewN | apply Kd.V_drew)); exact HL153_2.out) (Kd.R_base ho52) hb)
                                    have n3_ := Aside0.mk (Kd.N_elder' (by (with_reducible repeat (first | apply Kd.N_alloc | apply Kd.N_drewN | apply Kd.N_drew)); exact HO157.out) (Kd.R_base ho52) hb)
                                    have n4_ := Aside0.mk (Kd.V_elder' (by (with_reducible repeat (first | apply Kd.V_alloc | apply Kd.V_drewN | apply Kd.V_drew)); exact HL159_2.out) (Kd.R_base ho52) hb)
                                    have n5_ := Aside0.mk (Kd.N_elder' (by (with_reducible repeat (first | apply Kd.N_alloc | apply Kd.N_drewN | apply Kd.N_drew)); exact HO163.out) (Kd.R_base ho52) hb)
                                    have n6_ := Aside0.mk (Kd.R_lower (Kd.R_new' ho52 (Kd.R_lt (by (with_reducible repeat (first | apply Kd.R_alloc | apply Kd.R_drewN | apply Kd.R_drew)); exact HO_3.out))) (below_size (by repeat (first | (with_reducible first | exact HB.out | apply below_alloc | apply pw_below_drewN | apply below_drew1 | refine below_set ?_ GE154.out | refine below_set ?_ GE160.out) | exact HB.out))))
                                    have n7_ := Aside0.mk (Kd.C_below (by first | exact (Kd.V_reads' HL153_2.out).2.2 | repeat (first | (with_reducible exact HR153_2.out) | (with_reducible refine Kd.C_alloc ?_ _) | (with_reducible refine Kd.C_drewN ?_ _) | (with_reducible refine Kd.C_drew ?_) | exact HR153_2.out)) hb)
                                    have n8_ := Aside0.mk (blk_below (g := gb154) (o := .cells #[.int .i64 ((rd_T81 x4_3 t152).f0), .int .i64 ((rd_T81 x4_3 t152).f1), .slice A153_2 ((rd_T81 x4_3 t152).f2).length c153_2] 81 (0, 0)) (by (with_reducible repeat (first | refine blk_drewN ?_ _ | refine blk_drew ?_ | refine blk_alloc ?_ _)); exact BK154.out) hb)
                                    have n9_ := Aside0.mk (Kd.C_below (by first | exact (Kd.V_reads' HL159_2.out).2.2 | repeat (first | (with_reducible exact HR159_2.out) | (with_reducible refine Kd.C_alloc ?_ _) | (with_reducible refine Kd.C_drewN ?_ _) | (with_reducible refine Kd.C_drew ?_) | exact HR159_2.out)) hb)
                                    have n10_ := Aside0.mk (blk_below (g := gb160) (o := .cells #[.int .i64 ((rd_T81 t155 t158).f0), .int .i64 ((rd_T81 t155 t158).f1), .slice A159_2 ((rd_T81 t155 t158).f2).length c159_2] 81 (0, 0)) (by (with_reducible repeat (first | refine blk_drewN ?_ _ | refine blk_drew ?_ | refine blk_alloc ?_ _)); exact BK160.out) hb)
                                    have n11_ := Aside0.mk (below_step (by repeat (first | (with_reducible first | exact HB.out | apply below_alloc | apply pw_below_drewN | apply below_drew1 | refine below_set ?_ GE154.out | refine below_set ?_ GE160.out) | exact HB.out)) hb)
                                    clear HO_3
                                    clear HO_4
                                    clear HL153_2
                                    clear HO157
                                    clear HL159_2
                                    clear HO163
                                    clear HR153_2
                                    clear BK154
                                    clear HR159_2
                                    clear BK160
                                    clear HB
                                    have HO_3 := n0_
                                    have HO_4 := n1_
                                    have HL153_2 := n2_
                                    have HO157 := n3_
                                    have HL159_2 := n4_
                                    have HO163 := n5_
                                    have HO166 := n6_
                                    have HR153_2 := n7_
                                    have BK154 := n8_
                                    have HR159_2 := n9_
                                    have BK160 := n10_
                                    have HB := n11_
                                    clear n0_ n1_ n2_ n3_ n4_ n5_ n6_ n7_ n8_ n9_ n10_ n11_
                                    clear hb ho52
                                    refine hK.out _ _ ⟨(blk_cell BK154.out 0).trans rfl, (blk_cell BK154.out 1).trans rfl, (blk_cell BK154.out 2).trans rfl, (blk_cell BK160.out 0).trans rfl, (blk_cell BK160.out 1).trans rfl, (blk_cell BK160.out 2).trans rfl⟩ (fun hHeld => ?_)
                                    clear hK K
                                    refine norm_ (a' := ?_) ?_ ?_
                                    rotate_left
                                    · show Act.put _ (some 76) _ = _
                                      simp only [Act.put, List.setIfInBounds_toArray, List.set_cons_zero, List.set_cons_succ, i64_w, i32_w]
                                      rfl
                                    refine one_ (i := 3) (N := some 79) #[true, true, true, true, true, true, false, false] rfl rfl (one_of HT_.out (by kernel_rfl)) (by decide) (fun K hK => ?_)
                                    refine Kd.R_append_rows_step (Kd.int .i64) (w0 := w) w.heap.size (by rfl) (.tmp 76) (.tmp 78) 23 3 (.int .i64 0) 8 rfl Try.underlying23 info3 rfl (by decide) (by omega) v165 y164 ((rd_T81 x4_3 t152).f2) _ _ _ (fun k_ => some k_ ≠ (v137 : Value).ownBlock) (fun _ => False) rfl rfl ?aO ?aR (fun _ _ h => h) (fun _ h => h.elim) ?aF ?aB ?aS ?aL ?_
                                    (case aR => repeat (first | exact (by first | exact (Kd.V_reads' HL153_2.out).2.2 | repeat (first | (with_reducible exact HR153_2.out) | (with_reducible refine Kd.C_alloc ?_ _) | (with_reducible refine Kd.C_drewN ?_ _) | (with_reducible refine Kd.C_drew ?_) | exact HR153_2.out)) | (with_reducible refine Kd.C_alloc ?_ _) | (with_reducible refine Kd.C_drewN ?_ _) | (with_reducible refine Kd.C_drew ?_)))
                                    (case aB => exact (by repeat (first | (with_reducible first | exact HB.out | apply below_alloc | apply pw_below_drewN | apply below_drew1 | refine below_set ?_ GE154.out | refine below_set ?_ GE160.out) | exact HB.out)))
                                    (case aF => exact (fun k_ hk => Kd.fresh' (Kd.R_lt (by (with_reducible repeat (first | apply Kd.R_alloc | apply Kd.R_drewN | apply Kd.R_drew)); exact HO_3.out)) k_ hk))
                                    (case aO => exact (by (with_reducible repeat (first | apply Kd.R_alloc | apply Kd.R_drewN | apply Kd.R_drew)); exact Kd.R_mono HO166.out (fun _ hk => hk.2)))
                                    (case aS => exact (below_size (by repeat (first | (with_reducible first | exact HB.out | apply below_alloc | apply pw_below_drewN | apply below_drew1 | refine below_set ?_ GE154.out | refine below_set ?_ GE160.out) | exact HB.out))))
                                    (case aL => have := LMc35.out; omega)
                                    intro v168 w53 ho hb hg hat
                                    rw [← Ny167.out] at ho
                                    have n0_ := Aside0.mk (Kd.R_after (ok := (fun _ => True)) (by (with_reducible repeat (first | apply Kd.R_alloc | apply Kd.R_drewN | apply Kd.R_drew)); exact HO_3.out) hg hat)
                                    have n1_ := Aside0.mk (Kd.N_afterv (ok := (fun k_ => some k_ ≠ (v137 : Value).ownBlock ∧ some k_ ≠ (.slice (some ad159) t155.length co42 : Value).ownBlock ∧ some k_ ≠ (v162 : Value).ownBlock ∧ k_ ≠ gb154 ∧ k_ ≠ gb160)) (by (with_reducible repeat (first | apply Kd.N_alloc | apply Kd.N_drewN | apply Kd.N_drew)); exact Kd.N_mono HO_4.out (by first | exact (fun _ hk => ⟨⟨hk.1.1.1, ⟨hk.1.1.2.1, ⟨hk.1.2, ⟨hk.1.1.2.2.1, hk.1.1.2.2.2⟩⟩⟩⟩, hk.2⟩) | (intro k_ hk_; grind))) hg hat)
                                    have n2_ := Aside0.mk (Kd.V_afterv (ok := (fun k_ => some k_ ≠ (v137 : Value).ownBlock ∧ some k_ ≠ (.slice (some ad153) x4_3.length co37 : Value).ownBlock ∧ some k_ ≠ (.slice (some ad159) t155.length co42 : Value).ownBlock ∧ some k_ ≠ (v162 : Value).ownBlock ∧ k_ ≠ gb154 ∧ k_ ≠ gb160)) (by (with_reducible repeat (first | apply Kd.V_alloc | apply Kd.V_drewN | apply Kd.V_drew)); exact Kd.V_mono HL153_2.out (by first | exact (fun _ hk => ⟨⟨hk.1.1.1, ⟨hk.1.1.2.1, ⟨hk.1.1.2.2.1, ⟨hk.1.2, ⟨hk.1.1.2.2.2.1, hk.1.1.2.2.2.2⟩⟩⟩⟩⟩, hk.2⟩) | (intro k_ hk_; grind))) hg hat)
                                    have n3_ := Aside0.mk (blk_grown (g := gb154) (o := .cells #[.int .i64 ((rd_T81 x4_3 t152).f0), .int .i64 ((rd_T81 x4_3 t152).f1), .slice A153_2 ((rd_T81 x4_3 t152).f2).length c153_2] 81 (0, 0)) (by (with_reducible repeat (first | refine blk_drewN ?_ _ | refine blk_drew ?_ | refine blk_alloc ?_ _)); exact BK154.out) hg (Kd.R_ne HO166.out BK154.out (by decide)))
                                    have n4_ := Aside0.mk (Kd.N_afterv (ok := (fun k_ => some k_ ≠ (v137 : Value).ownBlock ∧ some k_ ≠ (v162 : Value).ownBlock ∧ k_ ≠ gb154 ∧ k_ ≠ gb160)) (by (with_reducible repeat (first | apply Kd.N_alloc | apply Kd.N_drewN | apply Kd.N_drew)); exact Kd.N_mono HO157.out (by first | exact (fun _ hk => ⟨⟨hk.1.1.1, ⟨hk.1.2, ⟨hk.1.1.2.1, hk.1.1.2.2⟩⟩⟩, hk.2⟩) | (intro k_ hk_; grind))) hg hat)
                                    have n5_ := Aside0.mk (Kd.V_afterv (ok := (fun k_ => some k_ ≠ (v137 : Value).ownBlock ∧ some k_ ≠ (.slice (some ad159) t155.length co42 : Value).ownBlock ∧ some k_ ≠ (v162 : Value).ownBlock ∧ k_ ≠ gb154 ∧ k_ ≠ gb160)) (by (with_reducible repeat (first | apply Kd.V_alloc | apply Kd.V_drewN | apply Kd.V_drew)); exact Kd.V_mono HL159_2.out (by first | exact (fun _ hk => ⟨⟨hk.1.1.1, ⟨hk.1.1.2.1, ⟨hk.1.2, ⟨hk.1.1.2.2.1, hk.1.1.2.2.2⟩⟩⟩⟩, hk.2⟩) | (intro k_ hk_; grind))) hg hat)
                                    have n6_ := Aside0.mk (blk_grown (g := gb160) (o := .cells #[.int .i64 ((rd_T81 t155 t158).f0), .int .i64 ((rd_T81 t155 t158).f1), .slice A159_2 ((rd_T81 t155 t158).f2).length c159_2] 81 (0, 0)) (by (with_reducible repeat (first | refine blk_drewN ?_ _ | refine blk_drew ?_ | refine blk_alloc ?_ _)); exact BK160.out) hg (Kd.R_ne HO166.out BK160.out (by decide)))
                                    have n7_ := Aside0.mk (Kd.N_afterv (ok := (fun k_ => some k_ ≠ (v137 : Value).ownBlock ∧ k_ ≠ gb154 ∧ k_ ≠ gb160)) (by (with_reducible repeat (first | apply Kd.N_alloc | apply Kd.N_drewN | apply Kd.N_drew)); exact HO163.out) hg hat)
                                    have n8_ := Aside0.mk (hb)
                                    have n9_ := Aside0.mk (ho)
                                    clear HO_3
                                    clear HO_4
                                    clear HL153_2
                                    clear BK154
                                    clear HO157
                                    clear HL159_2
                                    clear BK160
                                    clear HO163
                                    clear HB
                                    clear HO166
                                    have HO_3 := n0_
                                    have HO_4 := n1_
                                    have HL153_2 := n2_
                                    have BK154 := n3_
                                    have HO157 := n4_
                                    have HL159_2 := n5_
                                    have BK160 := n6_
                                    have HO163 := n7_
                                    have HB := n8_
                                    have HO169 := n9_
                                    clear n0_ n1_ n2_ n3_ n4_ n5_ n6_ n7_ n8_ n9_
                                    clear ho hb hg hat
                                    refine hK.out _ _ ⟨(blk_cell BK154.out 0).trans rfl, (blk_cell BK154.out 1).trans rfl, (blk_cell BK154.out 2).trans rfl, (blk_cell BK160.out 0).trans rfl, (blk_cell BK160.out 1).trans rfl, (blk_cell BK160.out 2).trans rfl⟩ (fun hHeld => ?_)
                                    clear hK K
                                    refine norm_ (a' := ?_) ?_ ?_
                                    rotate_left
                                    · show Act.put _ (some 79) _ = _
                                      simp only [Act.put, List.setIfInBounds_toArray, List.set_cons_zero, List.set_cons_succ, i64_w, i32_w]
                                      rfl
                                    refine one_ (i := 6) (N := some 82) #[true, true, true, true, true, true, true, false] rfl rfl (one_of HT_.out (by kernel_rfl)) (by decide) (fun K hK => ?_)
                                    refine Kd.R_append_rows_step (Kd.int .i64) (w0 := w) w.heap.size (by rfl) (.tmp 79) (.tmp 81) 23 3 (.int .i64 0) 8 rfl Try.underlying23 info3 rfl (by decide) (by omega) v168 y167 ((rd_T81 t155 t158).f2) _ _ _ (fun k_ => some k_ ≠ (v137 : Value).ownBlock) (fun _ => False) rfl rfl ?aO ?aR (fun _ _ h => h) (fun _ h => h.elim) ?aF ?aB ?aS ?aL ?_
                                    (case aR => repeat (first | exact ((Kd.V_reads' HL159_2.out).2.2) | (with_reducible refine Kd.C_alloc ?_ _) | (with_reducible refine Kd.C_drewN ?_ _) | (with_reducible refine Kd.C_drew ?_)))
                                    (case aB => exact (by repeat (first | (with_reducible first | exact HB.out | apply below_alloc | apply pw_below_drewN | apply below_drew1 | refine below_set ?_ GE154.out | refine below_set ?_ GE160.out) | exact HB.out)))
                                    (case aF => exact (fun k_ hk => Kd.fresh' (Kd.R_lt (by (with_reducible repeat (first | apply Kd.R_alloc | apply Kd.R_drewN | apply Kd.R_drew)); exact HO_3.out)) k_ hk))
                                    (case aO => exact (by (with_reducible repeat (first | apply Kd.R_alloc | apply Kd.R_drewN | apply Kd.R_drew)); exact HO169.out))
                                    (case aS => exact (below_size (by repeat (first | (with_reducible first | exact HB.out | apply below_alloc | apply pw_below_drewN | apply below_drew1 | refine below_set ?_ GE154.out | refine below_set ?_ GE160.out) | exact HB.out))))
                                    (case aL => have := LMc36.out; omega)
                                    intro v171 w54 ho hb hg hat
                                    rw [← Ny170.out] at ho
                                    have n0_ := Aside0.mk (Kd.R_after (ok := (fun _ => True)) (by (with_reducible repeat (first | apply Kd.R_alloc | apply Kd.R_drewN | apply Kd.R_drew)); exact HO_3.out) hg hat)
                                    have n1_ := Aside0.mk (Kd.N_afterv (ok := (fun k_ => some k_ ≠ (v137 : Value).ownBlock ∧ some k_ ≠ (.slice (some ad159) t155.length co42 : Value).ownBlock ∧ some k_ ≠ (v162 : Value).ownBlock ∧ k_ ≠ gb154 ∧ k_ ≠ gb160)) (by (with_reducible repeat (first | apply Kd.N_alloc | apply Kd.N_drewN | apply Kd.N_drew)); exact HO_4.out) hg hat)
                                    have n2_ := Aside0.mk (Kd.V_afterv (ok := (fun k_ => some k_ ≠ (v137 : Value).ownBlock ∧ some k_ ≠ (.slice (some ad153) x4_3.length co37 : Value).ownBlock ∧ some k_ ≠ (.slice (some ad159) t155.length co42 : Value).ownBlock ∧ some k_ ≠ (v162 : Value).ownBlock ∧ k_ ≠ gb154 ∧ k_ ≠ gb160)) (by (with_reducible repeat (first | apply Kd.V_alloc | apply Kd.V_drewN | apply Kd.V_drew)); exact HL153_2.out) hg hat)
                                    have n3_ := Aside0.mk (blk_grown (g := gb154) (o := .cells #[.int .i64 ((rd_T81 x4_3 t152).f0), .int .i64 ((rd_T81 x4_3 t152).f1), .slice A153_2 ((rd_T81 x4_3 t152).f2).length c153_2] 81 (0, 0)) (by (with_reducible repeat (first | refine blk_drewN ?_ _ | refine blk_drew ?_ | refine blk_alloc ?_ _)); exact BK154.out) hg (Kd.R_ne HO169.out BK154.out (by decide)))
                                    have n4_ := Aside0.mk (Kd.N_afterv (ok := (fun k_ => some k_ ≠ (v137 : Value).ownBlock ∧ some k_ ≠ (v162 : Value).ownBlock ∧ k_ ≠ gb154 ∧ k_ ≠ gb160)) (by (with_reducible repeat (first | apply Kd.N_alloc | apply Kd.N_drewN | apply Kd.N_drew)); exact HO157.out) hg hat)
                                    have n5_ := Aside0.mk (Kd.V_afterv (ok := (fun k_ => some k_ ≠ (v137 : Value).ownBlock ∧ some k_ ≠ (.slice (some ad159) t155.length co42 : Value).ownBlock ∧ some k_ ≠ (v162 : Value).ownBlock ∧ k_ ≠ gb154 ∧ k_ ≠ gb160)) (by (with_reducible repeat (first | apply Kd.V_alloc | apply Kd.V_drewN | apply Kd.V_drew)); exact HL159_2.out) hg hat)
                                    have n6_ := Aside0.mk (blk_grown (g := gb160) (o := .cells #[.int .i64 ((rd_T81 t155 t158).f0), .int .i64 ((rd_T81 t155 t158).f1), .slice A159_2 ((rd_T81 t155 t158).f2).length c159_2] 81 (0, 0)) (by (with_reducible repeat (first | refine blk_drewN ?_ _ | refine blk_drew ?_ | refine blk_alloc ?_ _)); exact BK160.out) hg (Kd.R_ne HO169.out BK160.out (by decide)))
                                    have n7_ := Aside0.mk (Kd.N_afterv (ok := (fun k_ => some k_ ≠ (v137 : Value).ownBlock ∧ k_ ≠ gb154 ∧ k_ ≠ gb160)) (by (with_reducible repeat (first | apply Kd.N_alloc | apply Kd.N_drewN | apply Kd.N_drew)); exact HO163.out) hg hat)
                                    have n8_ := Aside0.mk (hb)
                                    have n9_ := Aside0.mk (ho)
                                    clear HO_3
                                    clear HO_4
                                    clear HL153_2
                                    clear BK154
                                    clear HO157
                                    clear HL159_2
                                    clear BK160
                                    clear HO163
                                    clear HB
                                    clear HO169
                                    have HO_3 := n0_
                                    have HO_4 := n1_
                                    have HL153_2 := n2_
                                    have BK154 := n3_
                                    have HO157 := n4_
                                    have HL159_2 := n5_
                                    have BK160 := n6_
                                    have HO163 := n7_
                                    have HB := n8_
                                    have HO172 := n9_
                                    clear n0_ n1_ n2_ n3_ n4_ n5_ n6_ n7_ n8_ n9_
                                    clear ho hb hg hat
                                    refine hK.out _ _ ⟨(blk_cell BK154.out 0).trans rfl, (blk_cell BK154.out 1).trans rfl, (blk_cell BK154.out 2).trans rfl, (blk_cell BK160.out 0).trans rfl, (blk_cell BK160.out 1).trans rfl, (blk_cell BK160.out 2).trans rfl⟩ (fun hHeld => ?_)
                                    clear hK K
                                    refine norm_ (a' := ?_) ?_ ?_
                                    rotate_left
                                    · show Act.put _ (some 82) _ = _
                                      simp only [Act.put, List.setIfInBounds_toArray, List.set_cons_zero, List.set_cons_succ, i64_w, i32_w]
                                      rfl
                                    refine pure_ (i := 7) (N := some 10) (v := ?_) (a' := ?_) #[true, true, true, true, true, true, true, true] rfl rfl (any_of HT_.out (by kernel_rfl)) (fun _ _ _ h => h) (Or.inl ⟨by rfl, ?_⟩) ?_ ?_
                                    rotate_left
                                    · intro w'
                                      go_simp
                                      with_reducible rfl
                                    rotate_left
                                    · simp only [Act.put, List.setIfInBounds_toArray, List.set_cons_zero, List.set_cons_succ, i64_w, i32_w]
                                      rfl
                                    refine done_ (done_of HT_.out (by kernel_rfl)) ?_
                                    try go_wp2
                                    go_loopg [11] k3 (fun kq v11 w' => ∃ (x3_4 : List Int) (x11_4 : Int), v11 = .int .i64 x11_4 ∧ Aside0 (spec_l3Lens.l2 kq x3_4 t161 ((rd_T81 t155 t158).f1) y170 x11_4 ((rd_T81 x4_3 t152).f0) ((rd_T81 x4_3 t152).f1) ((rd_T81 x4_3 t152).f2) ((rd_T81 t155 t158).f0) ((rd_T81 t155 t158).f1) ((rd_T81 t155 t158).f2) = some r) ∧ Aside0 (kq ≤ k3) ∧ Aside0 (Kd.R (Kd.int .i64) 3 w' w.heap.size (fun k_ => some k_ ≠ (v171 : Value).ownBlock) v137 x3_4) ∧ Aside0 (Kd.N k81 81 w' w.heap.size (fun k_ => some k_ ≠ (v137 : Value).ownBlock ∧ some k_ ≠ (v171 : Value).ownBlock ∧ k_ ≠ gb154 ∧ k_ ≠ gb160) v162 t161) ∧ Aside0 (Kd.R (Kd.int .i64) 3 w' w.heap.size (fun k_ => some k_ ≠ (v137 : Value).ownBlock) v171 y170) ∧ Aside0 (w'.heap[gb154]? = some (.cells #[.int .i64 ((rd_T81 x4_3 t152).f0), .int .i64 ((rd_T81 x4_3 t152).f1), (.slice A153_2 ((rd_T81 x4_3 t152).f2).length c153_2)] 81 (0, 0))) ∧ Aside0 (w'.heap[gb160]? = some (.cells #[.int .i64 ((rd_T81 t155 t158).f0), .int .i64 ((rd_T81 t155 t158).f1), (.slice A159_2 ((rd_T81 t155 t158).f2).length c159_2)] 81 (0, 0))) ∧ Aside0 (Below w.heap.size w w'))
                                    case atStart => exact ⟨(x3_3), (0), (by first | rfl | (simp; done) | (simp [*]; done)), H', ⟨Nat.le_refl _⟩, ⟨by (with_reducible repeat (first | apply Kd.R_alloc | apply Kd.R_drewN | apply Kd.R_drew)); exact Kd.R_mono HO_3.out (fun _ hk => hk.2)⟩, ⟨by (with_reducible repeat (first | apply Kd.N_alloc | apply Kd.N_drewN | apply Kd.N_drew)); exact Kd.N_mono HO163.out (by first | exact (fun _ hk => ⟨hk.1.1, ⟨hk.2, ⟨hk.1.2.1, hk.1.2.2⟩⟩⟩) | (intro k_ hk_; grind))⟩, ⟨by (with_reducible repeat (first | apply Kd.R_alloc | apply Kd.R_drewN | apply Kd.R_drew)); exact HO172.out⟩, ⟨by (with_reducible repeat (first | refine blk_drewN ?_ _ | refine blk_drew ?_ | refine blk_alloc ?_ _)); exact BK154.out⟩, ⟨by (with_reducible repeat (first | refine blk_drewN ?_ _ | refine blk_drew ?_ | refine blk_alloc ?_ _)); exact BK160.out⟩, ⟨by repeat (first | (with_reducible first | exact HB.out | apply below_alloc | apply pw_below_drewN | apply below_drew1 | refine below_set ?_ GE154.out | refine below_set ?_ GE160.out) | exact HB.out)⟩⟩
                                    case round =>
                                      clear H'
                                      try clear c1
                                      try clear p1
                                      try clear q1
                                      try clear hx1
                                      try clear qi1
                                      try clear c2
                                      try clear c2b0
                                      try clear c2b1
                                      try clear p2
                                      try clear q2
                                      try clear hx2
                                      try clear hf2
                                      try clear c3
                                      try clear c3b0
                                      try clear c3b1
                                      try clear c4
                                      try clear c5
                                      try clear p6
                                      try clear c8
                                      try clear c8b0
                                      try clear c9
                                      try clear c9b0
                                      try clear c10
                                      try clear c10b0
                                      try clear c11
                                      try clear p14
                                      try clear q14
                                      try clear hx14
                                      try clear c15
                                      try clear p15
                                      try clear q15
                                      try clear hx15
                                      try clear qi15
                                      try clear c18
                                      try clear c18b0
                                      try clear c18b1
                                      try clear c19
                                      try clear c19b0
                                      try clear c19b1
                                      try clear c20
                                      try clear c20b0
                                      try clear c21
                                      try clear c21b0
                                      try clear p22
                                      try clear q22
                                      try clear hx22
                                      try clear hf22
                                      try clear c25
                                      try clear c25b0
                                      try clear c25b1
                                      try clear c27
                                      try clear c27b0
                                      try clear c28
                                      try clear c28b0
                                      try clear c31
                                      try clear c31b0
                                      try clear c32
                                      try clear c32b0
                                      try clear c34
                                      try clear c34b0
                                      try clear c35
                                      try clear c36
                                      try clear c44
                                      try clear hcz39_0
                                      try clear hcz39_1
                                      try clear hcz39_2
                                      try clear hcz45_0
                                      try clear hcz45_1
                                      try clear hcz45_2
                                      try clear hcz48_0
                                      try clear hcz48_1
                                      try clear hcz48_2
                                      try clear hcz49_0
                                      try clear hcz49_1
                                      try clear hcz49_2
                                      try clear hfz39_0
                                      try clear hfz39_1
                                      try clear hfz39_2
                                      try clear hfz45_0
                                      try clear hfz45_1
                                      try clear hfz45_2
                                      try clear hfz48_0
                                      try clear hfz48_1
                                      try clear hfz48_2
                                      try clear hfz49_0
                                      try clear hfz49_1
                                      try clear hfz49_2
                                      try clear hx142_0
                                      try clear hx143_0
                                      try clear hx150_0
                                      try clear hx150_1
                                      try clear hx150_2
                                      try clear hx153_0
                                      try clear hx153_1
                                      try clear hx153_2
                                      try clear hx159_0
                                      try clear hx159_1
                                      try clear hx159_2
                                      try clear hx22_0
                                      try clear p1
                                      try clear p14
                                      try clear p142
                                      try clear p143
                                      try clear p15
                                      try clear p150
                                      try clear p153
                                      try clear p159
                                      try clear p2
                                      try clear p22
                                      try clear p6
                                      try clear q1
                                      try clear q14
                                      try clear q142
                                      try clear q143
                                      try clear q15
                                      try clear q150
                                      try clear q153
                                      try clear q159
                                      try clear q2
                                      try clear q22
                                      obtain ⟨x3_4, x11_4, rfl, HA, HK4, HO_3, HO_4, HO_10, BK154, BK160, HB⟩ := hrel
                                      cases gk with
                                      | zero => exact absurd HA.out (by simp [spec_l3Lens.l2])
                                      | succ k4 =>
                                        have H := HA.out
                                        clear HA
                                        simp only [spec_l3Lens.l2] at H
                                        by_cases c55 : x11_4 < (y170.length : Int)
                                        · rw [if_pos c55] at H
                                          have c55b0 : decide (x11_4 < (y170.length : Int)) = true := decide_eq_true c55
                                          clear c55
                                          by_cases c56 : 0 ≤ x11_4
                                          · rw [if_pos c56] at H
                                            have c56b0 : decide (0 ≤ x11_4) = true := decide_eq_true c56
                                            clear c56
                                            by_cases c57 : 0 ≤ (rd y170 x11_4)
                                            · rw [if_pos c57] at H
                                              have c57b0 : decide (0 ≤ (rd y170 x11_4)) = true := decide_eq_true c57
                                              clear c57
                                              by_cases c58 : (rd y170 x11_4) < (x3_4.length : Int)
                                              · rw [if_pos c58] at H
                                                have c58b0 : decide ((rd y170 x11_4) < (x3_4.length : Int)) = true := decide_eq_true c58
                                                clear c58
                                                obtain ⟨y176, hy176⟩ : ∃ y_ : List Int, y_ = (x3_4.set ((rd y170 x11_4) : Int).toNat (wrap64 ((rd x3_4 (rd y170 x11_4)) + 1))) := ⟨_, rfl⟩
                                                replace H : (spec_l3Lens.l2 k4 y176 t161 ((rd_T81 t155 t158).f1) y170 (wrap64 (x11_4 + 1)) ((rd_T81 x4_3 t152).f0) ((rd_T81 x4_3 t152).f1) ((rd_T81 x4_3 t152).f2) ((rd_T81 t155 t158).f0) ((rd_T81 t155 t158).f1) ((rd_T81 t155 t158).f2)) = some r := by first | (rw [hy176]; with_reducible exact H) | (have H2_ := (Option.bind_some _ _).symm.trans H; rw [hy176]; with_reducible exact H2_) | (have H2_ := (Option.bind_some _ _).symm.trans H; with_reducible exact H2_) | with_reducible exact H | (rw [hy176]; exact H) | exact H
                                                have Ny176 := Aside0.mk hy176
                                                clear hy176
                                                have H' := Aside0.mk H
                                                clear H
                                                obtain ⟨Ao60, co60, eo60⟩ := Kd.R_slice HO_10.out
                                                subst eo60
                                                try go_wp2
                                                have n0_ := Aside0.mk (Kd.R_drew HO_3.out)
                                                have n1_ := Aside0.mk (Kd.N_drew HO_4.out)
                                                have n2_ := Aside0.mk (Kd.R_drew HO_10.out)
                                                have n3_ := Aside0.mk (blk_drew BK154.out)
                                                have n4_ := Aside0.mk (blk_drew BK160.out)
                                                have n5_ := Aside0.mk (below_drew1 HB.out)
                                                clear HO_3
                                                clear HO_4
                                                clear HO_10
                                                clear BK154
                                                clear BK160
                                                clear HB
                                                have HO_3 := n0_
                                                have HO_4 := n1_
                                                have HO_10 := n2_
                                                have BK154 := n3_
                                                have BK160 := n4_
                                                have HB := n5_
                                                clear n0_ n1_ n2_ n3_ n4_ n5_
                                                have p173 : 0 ≤ (x11_4 : Int) := of_decide_eq_true (by first | (with_reducible assumption) | assumption)
                                                have q173 : x11_4 < (y170.length : Int) := of_decide_eq_true (by first | (with_reducible assumption) | assumption)
                                                obtain ⟨ad173, e173, hx173_0⟩ := Kd.at_int (Kd.R_reads' HO_10.out).2.2 x11_4 p173 q173
                                                cases e173
                                                replace p173 := eq_true p173
                                                replace q173 := eq_true q173
                                                have p174 : 0 ≤ (x11_4 : Int) := of_decide_eq_true (by first | (with_reducible assumption) | assumption)
                                                have q174 : x11_4 < (y170.length : Int) := of_decide_eq_true (by first | (with_reducible assumption) | assumption)
                                                obtain ⟨ad174, e174, hx174_0⟩ := Kd.at_int (Kd.R_reads' HO_10.out).2.2 x11_4 p174 q174
                                                obtain rfl : ad173 = ad174 := (by injection e174)
                                                replace p174 := eq_true p174
                                                replace q174 := eq_true q174
                                                obtain ⟨Ao62, co62, eo62⟩ := Kd.R_slice HO_3.out
                                                (first | subst eo62 | (injection eo62 with f1_ f2_ f3_; have f4_ := f1_.symm; have f5_ := f3_.symm; clear f1_ f2_ f3_; subst f4_; subst f5_))
                                                have p175 : 0 ≤ ((rd y170 x11_4) : Int) := of_decide_eq_true (by first | (with_reducible assumption) | assumption)
                                                have q175 : (rd y170 x11_4) < (x3_4.length : Int) := of_decide_eq_true (by first | (with_reducible assumption) | assumption)
                                                obtain ⟨ad175, e175, hx175_0⟩ := Kd.at_int (Kd.R_reads' HO_3.out).2.2 (rd y170 x11_4) p175 q175
                                                cases e175
                                                replace p175 := eq_true p175
                                                replace q175 := eq_true q175
                                                have p59 : 0 ≤ ((rd y170 x11_4) : Int) := of_decide_eq_true (by first | (with_reducible assumption) | assumption)
                                                have q59 : ((rd y170 x11_4) : Int) < ((x3_4.length : Int) : Int) := of_decide_eq_true (by first | (with_reducible assumption) | assumption)
                                                obtain ⟨go59, co59, eo59, gb59, gl59, cl59, HG59⟩ := Kd.R_form HO_3.out (by omega)
                                                (first | cases eo59 | (injection eo59 with ea_ en_ ec_; (first | subst ea_ | (injection ea_ with ea_; subst ea_)); subst ec_; clear en_))
                                                have GB59 := Aside0.mk gb59
                                                have GG59 := Aside0.mk HG59
                                                clear gb59 gl59 HG59
                                                (first | simp only [add_plain] at hx175_0 | skip)
                                                obtain ⟨hx59_0, hf59_0⟩ := Kd.R_celln 0 HO_3.out ((rd y170 x11_4) : Int) p59 q59
                                                replace p59 := eq_true p59
                                                replace q59 := eq_true q59
                                                have HP63 := Kd.R_putn HO_3.out ((rd y170 x11_4) : Int) (wrap64 ((rd x3_4 (rd y170 x11_4)) + 1))
                                                rw [← Ny176.out] at HP63
                                                have HQ63 := Aside0.mk HP63
                                                clear HP63
                                                refine start_ (n := 15) (S := fun w' => w'.cell? (ad173.add (x11_4).toNat) = some (.int .i64 (rd y170 x11_4)) ∧ w'.cell? (ad173.add (x11_4).toNat) = some (.int .i64 (rd y170 x11_4)) ∧ w'.cell? ⟨go59, ((rd y170 x11_4)).toNat, none⟩ = some (.int .i64 (rd x3_4 (rd y170 x11_4)))) (ds := [14]) #[false, false, false, false, false, false, false, false, false, false, false, false, false, false, false] (by kernel_rfl) rfl rfl ⟨hx173_0, hx174_0, hx175_0⟩ (fun hHeld => ?_); refine with_tabW spec_l3Lens.tab24 spec_l3Lens.bits24 (fun HT_ HW_ => ?_)
                                                generalize wr.drew = w61 at HO_3 HO_4 HO_10 BK154 BK160 HB GG59 HQ63 hf59_0 hx173_0 hx174_0 hx175_0 hx59_0 hHeld ⊢
                                                refine pure_ (i := 0) (N := some 89) (v := ?_) (a' := ?_) #[true, false, false, false, false, false, false, false, false, false, false, false, false, false, false] rfl rfl (any_of HT_.out (by kernel_rfl)) (fun _ _ _ h => h) (Or.inl ⟨by rfl, ?_⟩) ?_ ?_
                                                rotate_left
                                                · intro w'
                                                  go_simp
                                                  with_reducible rfl
                                                rotate_left
                                                · simp only [Act.put, List.setIfInBounds_toArray, List.set_cons_zero, List.set_cons_succ, i64_w, i32_w]
                                                  rfl
                                                refine pure_ (i := 1) (N := some 90) (v := ?_) (a' := ?_) #[true, true, false, false, false, false, false, false, false, false, false, false, false, false, false] rfl rfl (any_of HT_.out (by kernel_rfl)) (fun _ _ _ h => h) (Or.inl ⟨by rfl, ?_⟩) ?_ ?_
                                                rotate_left
                                                · intro w'
                                                  go_simp
                                                  with_reducible rfl
                                                rotate_left
                                                · simp only [Act.put, List.setIfInBounds_toArray, List.set_cons_zero, List.set_cons_succ, i64_w, i32_w]
                                                  rfl
                                                refine pure_ (i := 2) (N := some 91) (v := ?_) (a' := ?_) #[true, true, true, false, false, false, false, false, false, false, false, false, false, false, false] rfl rfl (any_of HT_.out (by kernel_rfl)) (fun _ _ _ h => h) (Or.inl ⟨by rfl, ?_⟩) ?_ ?_
                                                rotate_left
                                                · intro w'
                                                  go_simp
                                                  with_reducible rfl
                                                rotate_left
                                                · simp only [Act.put, List.setIfInBounds_toArray, List.set_cons_zero, List.set_cons_succ, i64_w, i32_w]
                                                  rfl
                                                refine pure_ (i := 3) (N := some 92) (v := ?_) (a' := ?_) #[true, true, true, true, false, false, false, false, false, false, false, false, false, false, false] rfl rfl (any_of HT_.out (by kernel_rfl)) (fun _ _ _ h => h) (Or.inl ⟨by rfl, ?_⟩) ?_ ?_
                                                rotate_left
                                                · intro w'
                                                  go_simp
                                                  with_reducible rfl
                                                rotate_left
                                                · simp only [Act.put, List.setIfInBounds_toArray, List.set_cons_zero, List.set_cons_succ, i64_w, i32_w]
                                                  rfl
                                                refine pure_ (i := 5) (N := some 94) (v := ?_) (a' := ?_) #[true, true, true, true, false, true, false, false, false, false, false, false, false, false, false] rfl rfl (any_of HT_.out (by kernel_rfl)) (fun _ _ _ h => h) (Or.inl ⟨by rfl, ?_⟩) ?_ ?_
                                                rotate_left
                                                · intro w'
                                                  go_simp
                                                  with_reducible rfl
                                                rotate_left
                                                · simp only [Act.put, List.setIfInBounds_toArray, List.set_cons_zero, List.set_cons_succ, i64_w, i32_w]
                                                  rfl
                                                refine pure_ (i := 6) (N := some 95) (v := ?_) (a' := ?_) #[true, true, true, true, false, true, true, false, false, false, false, false, false, false, false] rfl rfl (any_of HT_.out (by kernel_rfl)) (fun _ _ _ h => h) (Or.inl ⟨by rfl, ?_⟩) ?_ ?_
                                                rotate_left
                                                · intro w'
                                                  go_simp
                                                  with_reducible rfl
                                                rotate_left
                                                · simp only [Act.put, List.setIfInBounds_toArray, List.set_cons_zero, List.set_cons_succ, i64_w, i32_w]
                                                  rfl
                                                refine pure_ (i := 7) (N := some 96) (v := ?_) (a' := ?_) #[true, true, true, true, false, true, true, true, false, false, false, false, false, false, false] rfl rfl (any_of HT_.out (by kernel_rfl)) (fun _ _ _ h => h) (Or.inl ⟨by rfl, ?_⟩) ?_ ?_
                                                rotate_left
                                                · intro w'
                                                  go_simp
                                                  with_reducible rfl
                                                rotate_left
                                                · simp only [Act.put, List.setIfInBounds_toArray, List.set_cons_zero, List.set_cons_succ, i64_w, i32_w]
                                                  rfl
                                                refine pure_ (i := 8) (N := some 97) (v := ?_) (a' := ?_) #[true, true, true, true, false, true, true, true, true, false, false, false, false, false, false] rfl rfl (any_of HT_.out (by kernel_rfl)) (fun _ _ _ h => h) (Or.inl ⟨by rfl, ?_⟩) ?_ ?_
                                                rotate_left
                                                · intro w'
                                                  go_simp
                                                  with_reducible rfl
                                                rotate_left
                                                · simp only [Act.put, List.setIfInBounds_toArray, List.set_cons_zero, List.set_cons_succ, i64_w, i32_w]
                                                  rfl
                                                refine take_ (i := 4) (N := some 93) (v := ?_) (a' := ?_) #[true, true, true, true, true, true, true, true, true, false, false, false, false, false, false] rfl rfl (take_ofW HT_.out HW_.out (by kernel_rfl)) (fun _ _ _ h => h) (Or.inl ⟨by rfl, ?_⟩) hHeld ?_ ?_
                                                rotate_left
                                                · rintro w' ⟨s0, s1, s2⟩
                                                  go_simp
                                                  with_reducible rfl
                                                rotate_left
                                                · simp only [Act.put, List.setIfInBounds_toArray, List.set_cons_zero, List.set_cons_succ, i64_w, i32_w]
                                                  rfl
                                                refine take_ (i := 9) (N := some 98) (v := ?_) (a' := ?_) #[true, true, true, true, true, true, true, true, true, true, false, false, false, false, false] rfl rfl (take_ofW HT_.out HW_.out (by kernel_rfl)) (fun _ _ _ h => h) (Or.inl ⟨by rfl, ?_⟩) hHeld ?_ ?_
                                                rotate_left
                                                · rintro w' ⟨s0, s1, s2⟩
                                                  go_simp
                                                  with_reducible rfl
                                                rotate_left
                                                · simp only [Act.put, List.setIfInBounds_toArray, List.set_cons_zero, List.set_cons_succ, i64_w, i32_w]
                                                  rfl
                                                refine pure_ (i := 10) (N := some 99) (v := ?_) (a' := ?_) #[true, true, true, true, true, true, true, true, true, true, true, false, false, false, false] rfl rfl (any_of HT_.out (by kernel_rfl)) (fun _ _ _ h => h) (Or.inl ⟨by rfl, ?_⟩) ?_ ?_
                                                rotate_left
                                                · intro w'
                                                  go_simp
                                                  with_reducible rfl
                                                rotate_left
                                                · simp only [Act.put, List.setIfInBounds_toArray, List.set_cons_zero, List.set_cons_succ, i64_w, i32_w]
                                                  rfl
                                                refine take_ (i := 11) (N := some 100) (v := ?_) (a' := ?_) #[true, true, true, true, true, true, true, true, true, true, true, true, false, false, false] rfl rfl (take_ofW HT_.out HW_.out (by kernel_rfl)) (fun _ _ _ h => h) (Or.inl ⟨by rfl, ?_⟩) hHeld ?_ ?_
                                                rotate_left
                                                · rintro w' ⟨s0, s1, s2⟩
                                                  go_simp
                                                  with_reducible rfl
                                                rotate_left
                                                · simp only [Act.put, List.setIfInBounds_toArray, List.set_cons_zero, List.set_cons_succ, i64_w, i32_w]
                                                  rfl
                                                refine pure_ (i := 12) (N := some 101) (v := ?_) (a' := ?_) #[true, true, true, true, true, true, true, true, true, true, true, true, true, false, false] rfl rfl (any_of HT_.out (by kernel_rfl)) (fun _ _ _ h => h) (Or.inl ⟨by rfl, ?_⟩) ?_ ?_
                                                rotate_left
                                                · intro w'
                                                  go_simp
                                                  with_reducible rfl
                                                rotate_left
                                                · simp only [Act.put, List.setIfInBounds_toArray, List.set_cons_zero, List.set_cons_succ, i64_w, i32_w]
                                                  rfl
                                                refine pure_ (i := 13) (N := some 102) (v := ?_) (a' := ?_) #[true, true, true, true, true, true, true, true, true, true, true, true, true, true, false] rfl rfl (any_of HT_.out (by kernel_rfl)) (fun _ _ _ h => h) (Or.inl ⟨by rfl, ?_⟩) ?_ ?_
                                                rotate_left
                                                · intro w'
                                                  go_simp
                                                  with_reducible rfl
                                                rotate_left
                                                · simp only [Act.put, List.setIfInBounds_toArray, List.set_cons_zero, List.set_cons_succ, i64_w, i32_w]
                                                  rfl
                                                refine last_ (i := 14) (N := none) #[true, true, true, true, true, true, true, true, true, true, true, true, true, true, true] rfl rfl (one_of HT_.out (by kernel_rfl)) (by decide) (fun K hK => ?_)
                                                refine skip_ (w1 := ?_) (by rfl) rfl ?_ ?_
                                                rotate_left
                                                · go_simp
                                                  rfl
                                                refine hK.out _ _ ?_
                                                clear hK K
                                                refine done_ (done_of HT_.out (by kernel_rfl)) ?_
                                                try go_wp2
                                                go_roundg k4
                                                case measure => have := HK1.out; have := HJ15.out; have := HK3.out; have := HK4.out; omega
                                                case rel => exact ⟨(y176), (wrap64 (x11_4 + 1)), (by first | rfl | (simp; done) | (simp [*]; done)), H', ⟨by have := HK1.out; have := HJ15.out; have := HK3.out; have := HK4.out; omega⟩, ⟨by (with_reducible repeat (first | apply Kd.R_alloc | apply Kd.R_drewN | apply Kd.R_drew)); exact HQ63.out⟩, ⟨by (with_reducible repeat (first | apply Kd.N_alloc | apply Kd.N_drewN | apply Kd.N_drew)); exact Kd.N_mono (Kd.N_far (p := ⟨go59, ((rd y170 x11_4) : Int).toNat, none⟩) (Kd.N_mono HO_4.out (fun k_ hk => (⟨hk, fun e_ => hk.1 (by rw [e_]; rfl)⟩ : _ ∧ k_ ≠ go59))) (fun _ hk => hk.2) (.int .i64 (wrap64 ((rd x3_4 (rd y170 x11_4)) + 1)))) (by first | exact (fun _ hk => ⟨hk.1.1, ⟨hk.1.2.1, ⟨hk.1.2.2.1, hk.1.2.2.2⟩⟩⟩) | (intro k_ hk_; grind))⟩, ⟨by (with_reducible repeat (first | apply Kd.R_alloc | apply Kd.R_drewN | apply Kd.R_drew)); exact Kd.R_mono (Kd.R_far (p := ⟨go59, ((rd y170 x11_4) : Int).toNat, none⟩) (Kd.R_mono HO_10.out (fun k_ hk => (⟨hk, fun e_ => hk (by rw [e_]; rfl)⟩ : _ ∧ k_ ≠ go59))) (fun _ hk => hk.2) (.int .i64 (wrap64 ((rd x3_4 (rd y170 x11_4)) + 1)))) (fun _ hk => hk.1)⟩, ⟨by (with_reducible repeat (first | refine blk_drewN ?_ _ | refine blk_drew ?_ | refine blk_alloc ?_ _)); refine blk_far ?_ (by have h_ := Kd.R_ne HO_3.out BK154.out (by decide); intro e_; exact h_ (by rw [e_]; rfl)) _; (with_reducible repeat (first | refine blk_drewN ?_ _ | refine blk_drew ?_ | refine blk_alloc ?_ _)); exact BK154.out⟩, ⟨by (with_reducible repeat (first | refine blk_drewN ?_ _ | refine blk_drew ?_ | refine blk_alloc ?_ _)); refine blk_far ?_ (by have h_ := Kd.R_ne HO_3.out BK160.out (by decide); intro e_; exact h_ (by rw [e_]; rfl)) _; (with_reducible repeat (first | refine blk_drewN ?_ _ | refine blk_drew ?_ | refine blk_alloc ?_ _)); exact BK160.out⟩, ⟨by repeat (first | (with_reducible first | exact HB.out | apply below_alloc | apply pw_below_drewN | apply below_drew1 | refine below_set ?_ GB59.out | refine below_set ?_ GE154.out | refine below_set ?_ GE160.out) | exact HB.out)⟩⟩
                                              · rw [if_neg c58] at H
                                                exact absurd H (by simp)
                                            · rw [if_neg c57] at H
                                              exact absurd H (by simp)
                                          · rw [if_neg c56] at H
                                            exact absurd H (by simp)
                                        · rw [if_neg c55] at H
                                          have c55b0 : decide (x11_4 < (y170.length : Int)) = false := decide_eq_false c55
                                          clear c55
                                          by_cases c64 : t161.length < 3518437208883
                                          · rw [if_pos c64] at H
                                            have LMc64 := Aside0.mk c64
                                            clear c64
                                            obtain ⟨y177, hy177⟩ : ∃ y_ : List (S81), y_ = (t161 ++ [(⟨wrap64 (((rd_T81 x4_3 t152).f0) + ((rd_T81 t155 t158).f0)), ((rd_T81 t155 t158).f1), y170⟩ : S81)]) := ⟨_, rfl⟩
                                            replace H : (spec_l3Lens.l1 k4 x3_4 y177) = some r := by first | (rw [hy177]; with_reducible exact H) | (have H2_ := (Option.bind_some _ _).symm.trans H; rw [hy177]; with_reducible exact H2_) | (have H2_ := (Option.bind_some _ _).symm.trans H; with_reducible exact H2_) | with_reducible exact H | (rw [hy177]; exact H) | exact H
                                            have Ny177 := Aside0.mk hy177
                                            clear hy177
                                            have H' := Aside0.mk H
                                            clear H
                                            obtain ⟨Ao65, co65, eo65⟩ := Kd.R_slice HO_10.out
                                            subst eo65
                                            have hnb66 := NB154_160.out
                                            have hnc66 := NB160_154.out
                                            have hcz67_0 : wr.cell? ⟨gb154, 0, none⟩ = some (.int .i64 ((rd_T81 x4_3 t152).f0)) := (blk_cell BK154.out 0).trans rfl
                                            have hcz67_1 : wr.cell? ⟨gb154, 1, none⟩ = some (.int .i64 ((rd_T81 x4_3 t152).f1)) := (blk_cell BK154.out 1).trans rfl
                                            have hcz67_2 : wr.cell? ⟨gb154, 2, none⟩ = some (.slice A153_2 ((rd_T81 x4_3 t152).f2).length c153_2) := (blk_cell BK154.out 2).trans rfl
                                            have hfz67_0 := blk_frozen BK154.out 0
                                            have hfz67_1 := blk_frozen BK154.out 1
                                            have hfz67_2 := blk_frozen BK154.out 2
                                            have hcz68_0 : wr.cell? ⟨gb160, 0, none⟩ = some (.int .i64 ((rd_T81 t155 t158).f0)) := (blk_cell BK160.out 0).trans rfl
                                            have hcz68_1 : wr.cell? ⟨gb160, 1, none⟩ = some (.int .i64 ((rd_T81 t155 t158).f1)) := (blk_cell BK160.out 1).trans rfl
                                            have hcz68_2 : wr.cell? ⟨gb160, 2, none⟩ = some (.slice A159_2 ((rd_T81 t155 t158).f2).length c159_2) := (blk_cell BK160.out 2).trans rfl
                                            have hfz68_0 := blk_frozen BK160.out 0
                                            have hfz68_1 := blk_frozen BK160.out 1
                                            have hfz68_2 := blk_frozen BK160.out 2
                                            go_wp2_with (first | ((with_reducible refine gate_builtin (b := .append) (xs := #[.tmp 103, .tmp 112]) rfl ?_); at_builtin; refine Kd.N_append k81 (w0 := w) w.heap.size rfl (.tmp 103) (.tmp 112) 79 81 (.agg #[(.int .i64 0), (.int .i64 0), (.slice none 0 0)]) 40 rfl Try.underlying79 info81 rfl (by decide) (by omega) v162 t161 (⟨wrap64 (((rd_T81 x4_3 t152).f0) + ((rd_T81 t155 t158).f0)), ((rd_T81 t155 t158).f1), y170⟩ : S81) [.int .i64 (wrap64 (((rd_T81 x4_3 t152).f0) + ((rd_T81 t155 t158).f0))), .int .i64 ((rd_T81 t155 t158).f1), .slice Ao65 y170.length co65] (fun k_ => some k_ ≠ (v137 : Value).ownBlock ∧ k_ ≠ gb154 ∧ k_ ≠ gb160) (fun k_ => ((fun k_ => some k_ ≠ (v137 : Value).ownBlock ∧ k_ ≠ gb154 ∧ k_ ≠ gb160)) k_ ∧ some k_ ≠ (v162 : Value).ownBlock) rfl rfl ?aP (fun _ hk => hk) ?aF ?aO ?aB ?aS ?aL ?_; (case aP => exact (k81_mkF _ _ (⟨wrap64 (((rd_T81 x4_3 t152).f0) + ((rd_T81 t155 t158).f0)), ((rd_T81 t155 t158).f1), y170⟩ : S81) (Kd.R_reads' (Kd.R_mono (ok' := (fun k_ => ((fun k_ => some k_ ≠ (v137 : Value).ownBlock ∧ k_ ≠ gb154 ∧ k_ ≠ gb160)) k_ ∧ some k_ ≠ (v162 : Value).ownBlock)) (Kd.R_types (Kd.R_types (Kd.R_apart' (HO_10.out) (Kd.N_typed HO_4.out) (by decide)) BK154.out (by decide)) BK160.out (by decide)) (by first | exact (fun k_ hk => ⟨⟨hk.1.1.1, ⟨hk.1.2, hk.2⟩⟩, hk.1.1.2⟩) | (intro k_ hk_; grind)))).2.1 (Kd.R_F (Kd.R_mono (ok' := (fun k_ => ((fun k_ => some k_ ≠ (v137 : Value).ownBlock ∧ k_ ≠ gb154 ∧ k_ ≠ gb160)) k_ ∧ some k_ ≠ (v162 : Value).ownBlock)) (Kd.R_types (Kd.R_types (Kd.R_apart' (HO_10.out) (Kd.N_typed HO_4.out) (by decide)) BK154.out (by decide)) BK160.out (by decide)) (by first | exact (fun k_ hk => ⟨⟨hk.1.1.1, ⟨hk.1.2, hk.2⟩⟩, hk.1.1.2⟩) | (intro k_ hk_; grind)))))); (case aB => exact (by repeat (first | (with_reducible first | exact HB.out | apply below_alloc | apply pw_below_drewN | apply below_drew1 | refine below_set ?_ GE154.out | refine below_set ?_ GE160.out) | exact HB.out))); (case aF => exact (fun k_ hk => ⟨Kd.fresh' (Kd.R_lt (by (with_reducible repeat (first | apply Kd.R_alloc | apply Kd.R_drewN | apply Kd.R_drew)); exact HO_3.out)) k_ hk, Kd.freshB (g := gb154) (o := .cells #[.int .i64 ((rd_T81 x4_3 t152).f0), .int .i64 ((rd_T81 x4_3 t152).f1), .slice A153_2 ((rd_T81 x4_3 t152).f2).length c153_2] 81 (0, 0)) (by (with_reducible repeat (first | refine blk_drewN ?_ _ | refine blk_drew ?_ | refine blk_alloc ?_ _)); exact BK154.out) k_ hk, Kd.freshB (g := gb160) (o := .cells #[.int .i64 ((rd_T81 t155 t158).f0), .int .i64 ((rd_T81 t155 t158).f1), .slice A159_2 ((rd_T81 t155 t158).f2).length c159_2] 81 (0, 0)) (by (with_reducible repeat (first | refine blk_drewN ?_ _ | refine blk_drew ?_ | refine blk_alloc ?_ _)); exact BK160.out) k_ hk⟩)); (case aO => exact (by (with_reducible repeat (first | apply Kd.N_alloc | apply Kd.N_drewN | apply Kd.N_drew)); exact Kd.N_mono HO_4.out (by first | exact (fun _ hk => ⟨hk.1, ⟨hk.2.2.1, hk.2.2.2⟩⟩) | (intro k_ hk_; grind)))); (case aS => exact (below_size (by repeat (first | (with_reducible first | exact HB.out | apply below_alloc | apply pw_below_drewN | apply below_drew1 | refine below_set ?_ GE154.out | refine below_set ?_ GE160.out) | exact HB.out)))); (case aL => have := LMc64.out; omega); intro v178 w69 ho hb hg hat; rw [← Ny177.out] at ho; have n0_ := Aside0.mk (Kd.R_over' (by (with_reducible repeat (first | apply Kd.R_alloc | apply Kd.R_drewN | apply Kd.R_drew)); exact HO_3.out) (Kd.N_typed (by (with_reducible repeat (first | apply Kd.N_alloc | apply Kd.N_drewN | apply Kd.N_drew)); exact HO_4.out)) (by decide) hg); have n1_ := Aside0.mk (blk_grown (g := gb154) (o := .cells #[.int .i64 ((rd_T81 x4_3 t152).f0), .int .i64 ((rd_T81 x4_3 t152).f1), .slice A153_2 ((rd_T81 x4_3 t152).f2).length c153_2] 81 (0, 0)) (by (with_reducible repeat (first | refine blk_drewN ?_ _ | refine blk_drew ?_ | refine blk_alloc ?_ _)); exact BK154.out) hg (Kd.N_away HO_4.out (fun _ hk => hk.2.2.1))); have n2_ := Aside0.mk (blk_grown (g := gb160) (o := .cells #[.int .i64 ((rd_T81 t155 t158).f0), .int .i64 ((rd_T81 t155 t158).f1), .slice A159_2 ((rd_T81 t155 t158).f2).length c159_2] 81 (0, 0)) (by (with_reducible repeat (first | refine blk_drewN ?_ _ | refine blk_drew ?_ | refine blk_alloc ?_ _)); exact BK160.out) hg (Kd.N_away HO_4.out (fun _ hk => hk.2.2.2))); have n3_ := Aside0.mk (hb); have n4_ := Aside0.mk (ho); clear HO_3; clear BK154; clear BK160; clear HB; clear HO_4; clear HO_10; have HO_3 := n0_; have BK154 := n1_; have BK160 := n2_; have HB := n3_; have HO179 := n4_; clear n0_ n1_ n2_ n3_ n4_; clear ho hb hg hat))
                                            go_roundg k4
                                            case measure => have := HK1.out; have := HJ15.out; have := HK3.out; have := HK4.out; omega
                                            case rel => exact ⟨(x3_4), (y177), H', ⟨by have := HK1.out; have := HJ15.out; have := HK3.out; have := HK4.out; omega⟩, ⟨by (with_reducible repeat (first | apply Kd.R_alloc | apply Kd.R_drewN | apply Kd.R_drew)); exact Kd.R_mono HO_3.out (fun _ hk => trivial)⟩, ⟨by (with_reducible repeat (first | apply Kd.N_alloc | apply Kd.N_drewN | apply Kd.N_drew)); exact Kd.N_mono HO179.out (fun _ hk => hk.1)⟩, ⟨by repeat (first | (with_reducible first | exact HB.out | apply below_alloc | apply pw_below_drewN | apply below_drew1 | refine below_set ?_ GE154.out | refine below_set ?_ GE160.out) | exact HB.out)⟩⟩
                                          · rw [if_neg c64] at H
                                            exact absurd H (by simp)
                                  · rw [if_neg c36] at H
                                    exact absurd H (by simp)
                                · rw [if_neg c35] at H
                                  exact absurd H (by simp)
                              · rw [if_neg c34] at H
                                have c34b0 : decide (((rd_T81 t155 t158).f1) < ((rd_T81 x4_3 t152).f1)) = false := decide_eq_false c34
                                clear c34
                                obtain ⟨y180, hy180⟩ : ∃ y_ : List Int, y_ = (([] : List Int)) := ⟨_, rfl⟩
                                replace H : (if y180.length + ((rd_T81 x4_3 t152).f2).length < 17592186044416 then ((some (y180 ++ ((rd_T81 x4_3 t152).f2) : List Int)).bind fun y183 => (if y183.length + ((rd_T81 t155 t158).f2).length < 17592186044416 then (spec_l3Lens.l2 k3 x3_3 t161 ((rd_T81 x4_3 t152).f1) (y183 ++ ((rd_T81 t155 t158).f2)) 0 ((rd_T81 x4_3 t152).f0) ((rd_T81 x4_3 t152).f1) ((rd_T81 x4_3 t152).f2) ((rd_T81 t155 t158).f0) ((rd_T81 t155 t158).f1) ((rd_T81 t155 t158).f2)) else (none))) else (none)) = some r := by first | (rw [hy180]; with_reducible exact H) | (have H2_ := (Option.bind_some _ _).symm.trans H; rw [hy180]; with_reducible exact H2_) | (have H2_ := (Option.bind_some _ _).symm.trans H; with_reducible exact H2_) | with_reducible exact H | (rw [hy180]; exact H) | exact H
                                have Ny180 := Aside0.mk hy180
                                clear hy180
                                by_cases c70 : y180.length + ((rd_T81 x4_3 t152).f2).length < 17592186044416
                                · rw [if_pos c70] at H
                                  have LMc70 := Aside0.mk c70
                                  clear c70
                                  obtain ⟨y183, hy183⟩ : ∃ y_ : List Int, y_ = (y180 ++ ((rd_T81 x4_3 t152).f2)) := ⟨_, rfl⟩
                                  replace H : (if y183.length + ((rd_T81 t155 t158).f2).length < 17592186044416 then (spec_l3Lens.l2 k3 x3_3 t161 ((rd_T81 x4_3 t152).f1) (y183 ++ ((rd_T81 t155 t158).f2)) 0 ((rd_T81 x4_3 t152).f0) ((rd_T81 x4_3 t152).f1) ((rd_T81 x4_3 t152).f2) ((rd_T81 t155 t158).f0) ((rd_T81 t155 t158).f1) ((rd_T81 t155 t158).f2)) else (none)) = some r := by first | (rw [hy183]; with_reducible exact H) | (have H2_ := (Option.bind_some _ _).symm.trans H; rw [hy183]; with_reducible exact H2_) | (have H2_ := (Option.bind_some _ _).symm.trans H; with_reducible exact H2_) | with_reducible exact H | (rw [hy183]; exact H) | exact H
                                  have Ny183 := Aside0.mk hy183
                                  clear hy183
                                  by_cases c71 : y183.length + ((rd_T81 t155 t158).f2).length < 17592186044416
                                  · rw [if_pos c71] at H
                                    have LMc71 := Aside0.mk c71
                                    clear c71
                                    obtain ⟨y186, hy186⟩ : ∃ y_ : List Int, y_ = (y183 ++ ((rd_T81 t155 t158).f2)) := ⟨_, rfl⟩
                                    replace H : (spec_l3Lens.l2 k3 x3_3 t161 ((rd_T81 x4_3 t152).f1) y186 0 ((rd_T81 x4_3 t152).f0) ((rd_T81 x4_3 t152).f1) ((rd_T81 x4_3 t152).f2) ((rd_T81 t155 t158).f0) ((rd_T81 t155 t158).f1) ((rd_T81 t155 t158).f2)) = some r := by first | (rw [hy186]; with_reducible exact H) | (have H2_ := (Option.bind_some _ _).symm.trans H; rw [hy186]; with_reducible exact H2_) | (have H2_ := (Option.bind_some _ _).symm.trans H; with_reducible exact H2_) | with_reducible exact H | (rw [hy186]; exact H) | exact H
                                    have Ny186 := Aside0.mk hy186
                                    clear hy186
                                    have H' := Aside0.mk H
                                    clear H
                                    obtain ⟨Ao72, co72, eo72⟩ := Kd.N_slice HO_4.out
                                    subst eo72
                                    try go_wp2_with (first | ((with_reducible refine gate_callee (f := 55) rfl ?_); refine goesL_ (some 51) rfl rfl Try.func55 (by kernel_rfl) rfl #[.slice Ao72 x4_3.length co72] rfl (by (try simp only [List.map_toArray, List.map_cons, List.map_nil]); first | done | rfl | (simp only [List.length_drop, List.length_take]; rfl)) ?_; (with_reducible refine (spec_l3Least.calls k3 _ _ x4_3 t152 _ ?side1 ?side2 A26.out).mono ?_); (case side1 => repeat (first | exact (Kd.N_reads' HO_4.out).2.2 | (with_reducible refine Kd.C_alloc ?_ _) | (with_reducible refine Kd.C_drewN ?_ _) | (with_reducible refine Kd.C_drew ?_))); (case side2 => exact (Kd.N_reads' HO_4.out).2.1); rintro e w' ⟨rfl, ⟨nd, rfl⟩⟩; refine ⟨_, rfl, ?_⟩; (try (rw [drewN_self wr]; generalize hq_ : World.drewN wr _ = wr; have n0_ : Aside0 (Kd.R (Kd.int .i64) 3 wr w.heap.size (fun _ => True) v137 x3_3) := ⟨by rw [← hq_]; exact (by (with_reducible repeat (first | apply Kd.R_alloc | apply Kd.R_drewN | apply Kd.R_drew)); exact HO_3.out)⟩; have n1_ : Aside0 (Kd.N k81 81 wr w.heap.size (fun k_ => some k_ ≠ (v137 : Value).ownBlock) (.slice Ao72 x4_3.length co72) x4_3) := ⟨by rw [← hq_]; exact (by (with_reducible repeat (first | apply Kd.N_alloc | apply Kd.N_drewN | apply Kd.N_drew)); exact HO_4.out)⟩; have n2_ : Aside0 (Below w.heap.size w wr) := ⟨by rw [← hq_]; exact (by repeat (first | (with_reducible first | exact HB.out | apply below_alloc | apply pw_below_drewN | apply below_drew1) | exact HB.out))⟩; clear HO_3 HO_4 HB hq_; have HO_3 := n0_; have HO_4 := n1_; have HB := n2_; clear n0_ n1_ n2_)); have p153 : 0 ≤ (t152 : Int) := of_decide_eq_true (by first | (with_reducible assumption) | assumption); have q153 : t152 < (x4_3.length : Int) := of_decide_eq_true (by first | (with_reducible assumption) | assumption); obtain ⟨ad153, A153_2, c153_2, e153, hx153_0, hx153_1, hx153_2, hl153_2, hi153_2⟩ := at_T81 (Kd.N_reads' HO_4.out).2.2 t152 p153 q153; cases e153; obtain ⟨ce153, hce153, hMe153, hcc153⟩ := Kd.N_get HO_4.out z81 t152 p153 (by first | exact q153 | exact of_decide_eq_true (by first | (with_reducible assumption) | assumption) | (have e_ := (Kd.N_reads' HO_4.out).1; omega)); obtain ⟨ua153_2, uc153_2, rfl, ul153_2, ge153_2⟩ := k81_openF hMe153; have hv153_2 := hcc153 2 _ rfl; rw [add_field _ _ 2 (by omega)] at hv153_2; replace hv153_2 := Option.some.inj (hv153_2.symm.trans hx153_2); injection hv153_2 with hva_ hvn_ hvc_; rw [hva_] at ge153_2; rw [hvc_] at ul153_2; have HL153_2 := Aside0.mk (show Kd.V (Kd.int .i64) 3 _ w.heap.size _ _ ((rd_T81 x4_3 t152).f2) from Kd.V_mk ul153_2 ge153_2); clear hva_ hvn_ hvc_ ge153_2 ul153_2; clear hcc153 hce153; have HR153_2 := Aside0.mk hi153_2; have HC153_2 := Aside0.mk hl153_2; clear hi153_2 hl153_2; replace p153 := eq_true p153; replace q153 := eq_true q153) | ((with_reducible refine gate_dst (N := 7) rfl ?_); refine box_event ?hg (N := 7) ?hd (cs := #[.int .i64 0, .int .i64 0, .slice none 0 0]) (t := 81) ?hr ?_; (case hd => rfl); (case hg => rfl); (case hr => first | (go_simp; done) | (go_simp; rfl)); intro gb154 hg w73 hbox hb; have n0_ := Aside0.mk (Kd.R_below (by (with_reducible repeat (first | apply Kd.R_alloc | apply Kd.R_drewN | apply Kd.R_drew)); exact HO_3.out) hb); have n1_ := Aside0.mk (Kd.N_below (Kd.N_elderB (by (with_reducible repeat (first | apply Kd.N_alloc | apply Kd.N_drewN | apply Kd.N_drew)); exact HO_4.out) gb154 (Nat.le_of_eq hg.symm)) hb); have n2_ := Aside0.mk (Kd.V_below (Kd.V_elderB (by (with_reducible repeat (first | apply Kd.V_alloc | apply Kd.V_drewN | apply Kd.V_drew)); exact HL153_2.out) gb154 (Nat.le_of_eq hg.symm)) hb); have n3_ := Aside0.mk (Kd.C_below (by first | exact (Kd.V_reads' HL153_2.out).2.2 | repeat (first | (with_reducible exact HR153_2.out) | (with_reducible refine Kd.C_alloc ?_ _) | (with_reducible refine Kd.C_drewN ?_ _) | (with_reducible refine Kd.C_drew ?_) | exact HR153_2.out)) hb); have n4_ := Aside0.mk (below_step (by repeat (first | (with_reducible first | exact HB.out | apply below_alloc | apply pw_below_drewN | apply below_drew1) | exact HB.out)) hb); have n5_ := Aside0.mk (hbox); have n6_ := Aside0.mk ((by rw [hg]; exact (below_size (by repeat (first | (with_reducible first | exact HB.out | apply below_alloc | apply pw_below_drewN | apply below_drew1) | exact HB.out))) : w.heap.size ≤ gb154)); have n7_ := Aside0.mk ((by rw [hg]; exact (below_size (by repeat (first | (with_reducible first | exact HB.out | apply below_alloc | apply pw_below_drewN | apply below_drew1) | exact HB.out))) : w.heap.size ≤ gb154)); clear HO_3; clear HO_4; clear HL153_2; clear HR153_2; clear HB; have HO_3 := n0_; have HO_4 := n1_; have HL153_2 := n2_; have HR153_2 := n3_; have HB := n4_; have BK154 := n5_; have GW154 := n6_; have GE154 := n7_; clear n0_ n1_ n2_ n3_ n4_ n5_ n6_ n7_; clear hb hbox hg; have hcz74_0 : w73.cell? ⟨gb154, 0, none⟩ = some (.int .i64 0) := (blk_cell BK154.out 0).trans rfl; have hcz74_1 : w73.cell? ⟨gb154, 1, none⟩ = some (.int .i64 0) := (blk_cell BK154.out 1).trans rfl; have hcz74_2 : w73.cell? ⟨gb154, 2, none⟩ = some (.slice none 0 0) := (blk_cell BK154.out 2).trans rfl; have hfz74_0 := blk_frozen BK154.out 0; have hfz74_1 := blk_frozen BK154.out 1; have hfz74_2 := blk_frozen BK154.out 2) | ((with_reducible refine gate_store (t := 81) (p := 7) rfl ?_); refine store_event (t := 81) (p := 7) (v := ?vo_w75) (w1 := (((w73.setCell ⟨gb154, 0, none⟩ (.int .i64 ((rd_T81 x4_3 t152).f0))).setCell ⟨gb154, 1, none⟩ (.int .i64 ((rd_T81 x4_3 t152).f1))).setCell ⟨gb154, 2, none⟩ (.slice A153_2 ((rd_T81 x4_3 t152).f2).length c153_2))) ?hg ?ho ?hn ?hr ?_; (case ho => rfl); (case hg => rfl); (case hn => rfl); (case hr => first | (go_simp; done) | (go_simp; rfl)); intro w75 hw; have n0_ : Aside0 (Kd.R (Kd.int .i64) 3 w75 w.heap.size (fun _ => True) v137 x3_3) := ⟨(by rw [hw]; exact (by (with_reducible repeat (first | apply Kd.R_alloc | apply Kd.R_drewN | apply Kd.R_drew)); exact Kd.R_mono (Kd.R_far (p := ⟨gb154, 2, none⟩) (Kd.R_far (p := ⟨gb154, 1, none⟩) (Kd.R_far (p := ⟨gb154, 0, none⟩) (Kd.R_types HO_3.out BK154.out (by decide)) (fun _ hk => hk.2) (.int .i64 ((rd_T81 x4_3 t152).f0))) (fun _ hk => hk.2) (.int .i64 ((rd_T81 x4_3 t152).f1))) (fun _ hk => hk.2) (.slice A153_2 ((rd_T81 x4_3 t152).f2).length c153_2)) (fun _ hk => trivial)))⟩; have n1_ : Aside0 (Kd.N k81 81 w75 w.heap.size (fun k_ => some k_ ≠ (v137 : Value).ownBlock ∧ k_ ≠ gb154) (.slice (some ad153) x4_3.length co72) x4_3) := ⟨(by rw [hw]; exact (by (with_reducible repeat (first | apply Kd.N_alloc | apply Kd.N_drewN | apply Kd.N_drew)); exact Kd.N_mono (Kd.N_far (p := ⟨gb154, 2, none⟩) (Kd.N_far (p := ⟨gb154, 1, none⟩) (Kd.N_far (p := ⟨gb154, 0, none⟩) (Kd.N_mono HO_4.out (fun k_ hk => (⟨hk, hk.2⟩ : _ ∧ k_ ≠ gb154))) (fun _ hk => hk.2) (.int .i64 ((rd_T81 x4_3 t152).f0))) (fun _ hk => hk.2) (.int .i64 ((rd_T81 x4_3 t152).f1))) (fun _ hk => hk.2) (.slice A153_2 ((rd_T81 x4_3 t152).f2).length c153_2)) (by first | exact (fun _ hk => ⟨hk.1.1, hk.1.2⟩) | (intro k_ hk_; grind))))⟩; have n2_ : Aside0 (Kd.V (Kd.int .i64) 3 w75 w.heap.size (fun k_ => some k_ ≠ (v137 : Value).ownBlock ∧ some k_ ≠ (.slice (some ad153) x4_3.length co72 : Value).ownBlock ∧ k_ ≠ gb154) (.slice A153_2 ((rd_T81 x4_3 t152).f2).length c153_2) ((rd_T81 x4_3 t152).f2)) := ⟨(by rw [hw]; exact (by (with_reducible repeat (first | apply Kd.V_alloc | apply Kd.V_drewN | apply Kd.V_drew)); exact Kd.V_mono (Kd.V_far (p := ⟨gb154, 2, none⟩) (Kd.V_far (p := ⟨gb154, 1, none⟩) (Kd.V_far (p := ⟨gb154, 0, none⟩) (Kd.V_mono HL153_2.out (fun k_ hk => (⟨hk, hk.2⟩ : _ ∧ k_ ≠ gb154))) (fun _ hk => hk.2) (.int .i64 ((rd_T81 x4_3 t152).f0))) (fun _ hk => hk.2) (.int .i64 ((rd_T81 x4_3 t152).f1))) (fun _ hk => hk.2) (.slice A153_2 ((rd_T81 x4_3 t152).f2).length c153_2)) (by first | exact (fun _ hk => ⟨hk.1.1.1, ⟨hk.1.1.2, hk.1.2⟩⟩) | (intro k_ hk_; grind))))⟩; have n3_ : Aside0 (w75.heap[gb154]? = some (.cells #[.int .i64 ((rd_T81 x4_3 t152).f0), .int .i64 ((rd_T81 x4_3 t152).f1), .slice A153_2 ((rd_T81 x4_3 t152).f2).length c153_2] 81 (0, 0))) := ⟨(by rw [hw]; exact (by (with_reducible repeat (first | refine blk_drewN ?_ _ | refine blk_drew ?_ | refine blk_alloc ?_ _)); refine blk_put (cs := #[.int .i64 ((rd_T81 x4_3 t152).f0), .int .i64 ((rd_T81 x4_3 t152).f1), .slice none 0 0]) ?_ 2 _ rfl; (with_reducible repeat (first | refine blk_drewN ?_ _ | refine blk_drew ?_ | refine blk_alloc ?_ _)); refine blk_put (cs := #[.int .i64 ((rd_T81 x4_3 t152).f0), .int .i64 0, .slice none 0 0]) ?_ 1 _ rfl; (with_reducible repeat (first | refine blk_drewN ?_ _ | refine blk_drew ?_ | refine blk_alloc ?_ _)); refine blk_put (cs := #[.int .i64 0, .int .i64 0, .slice none 0 0]) ?_ 0 _ rfl; (with_reducible repeat (first | refine blk_drewN ?_ _ | refine blk_drew ?_ | refine blk_alloc ?_ _)); exact BK154.out))⟩; have n4_ : Aside0 (Below w.heap.size w w75) := ⟨(by rw [hw]; exact (by repeat (first | (with_reducible first | exact HB.out | apply below_alloc | apply pw_below_drewN | apply below_drew1 | refine below_set ?_ GE154.out) | exact HB.out)))⟩; clear hw; clear HO_3; clear HO_4; clear HL153_2; clear BK154; clear HB; have HO_3 := n0_; have HO_4 := n1_; have HL153_2 := n2_; have BK154 := n3_; have HB := n4_; clear n0_ n1_ n2_ n3_ n4_) | ((with_reducible refine gate_callee (f := 56) rfl ?_); refine goesL_ (some 58) rfl rfl Try.func56 (by kernel_rfl) rfl #[.slice (some ad153) x4_3.length co72, .int .i64 t152] rfl (by (try simp only [List.map_toArray, List.map_cons, List.map_nil]); first | done | rfl | (simp only [List.length_drop, List.length_take]; rfl)) ?_; (with_reducible refine (spec_l3Less.calls (fun k_ => (some k_ ≠ (v137 : Value).ownBlock ∧ k_ ≠ gb154)) _ _ x4_3 t152 t155 _ ?side1 A29.out).mono ?_); (case side1 => exact Kd.N_V (HO_4.out)); rintro e w76 ⟨v156, rfl, ho0, hb⟩; refine ⟨_, rfl, ?_⟩; have n0_ := Aside0.mk (Kd.R_below (by (with_reducible repeat (first | apply Kd.R_alloc | apply Kd.R_drewN | apply Kd.R_drew)); exact HO_3.out) hb); have n1_ := Aside0.mk (Kd.N_elder' (by (with_reducible repeat (first | apply Kd.N_alloc | apply Kd.N_drewN | apply Kd.N_drew)); exact HO_4.out) (Kd.N_base ho0) hb); have n2_ := Aside0.mk (Kd.V_elder' (by (with_reducible repeat (first | apply Kd.V_alloc | apply Kd.V_drewN | apply Kd.V_drew)); exact HL153_2.out) (Kd.N_base ho0) hb); have n3_ := Aside0.mk (Kd.N_lower (Kd.N_mono (ok' := fun k_ => some k_ ≠ (v137 : Value).ownBlock ∧ k_ ≠ gb154) ho0 (fun k_ hk_ => ⟨Or.elim hk_ (fun hs_ => hs_.1) (fun hn_ => (Kd.fresh' (Kd.R_lt (by (with_reducible repeat (first | apply Kd.R_alloc | apply Kd.R_drewN | apply Kd.R_drew)); exact HO_3.out)) k_ hn_)), Or.elim hk_ (fun hs_ => hs_.2) (fun hn_ => (Kd.freshB (g := gb154) (o := .cells #[.int .i64 ((rd_T81 x4_3 t152).f0), .int .i64 ((rd_T81 x4_3 t152).f1), .slice A153_2 ((rd_T81 x4_3 t152).f2).length c153_2] 81 (0, 0)) (by (with_reducible repeat (first | refine blk_drewN ?_ _ | refine blk_drew ?_ | refine blk_alloc ?_ _)); exact BK154.out) k_ hn_))⟩)) (below_size (by repeat (first | (with_reducible first | exact HB.out | apply below_alloc | apply pw_below_drewN | apply below_drew1 | refine below_set ?_ GE154.out) | exact HB.out)))); have n4_ := Aside0.mk (Kd.C_below (by first | exact (Kd.V_reads' HL153_2.out).2.2 | repeat (first | (with_reducible exact HR153_2.out) | (with_reducible refine Kd.C_alloc ?_ _) | (with_reducible refine Kd.C_drewN ?_ _) | (with_reducible refine Kd.C_drew ?_) | exact HR153_2.out)) hb); have n5_ := Aside0.mk (blk_below (g := gb154) (o := .cells #[.int .i64 ((rd_T81 x4_3 t152).f0), .int .i64 ((rd_T81 x4_3 t152).f1), .slice A153_2 ((rd_T81 x4_3 t152).f2).length c153_2] 81 (0, 0)) (by (with_reducible repeat (first | refine blk_drewN ?_ _ | refine blk_drew ?_ | refine blk_alloc ?_ _)); exact BK154.out) hb); have n6_ := Aside0.mk (below_step (by repeat (first | (with_reducible first | exact HB.out | apply below_alloc | apply pw_below_drewN | apply below_drew1 | refine below_set ?_ GE154.out) | exact HB.out)) hb); clear HO_3; clear HO_4; clear HL153_2; clear HR153_2; clear BK154; clear HB; have HO_3 := n0_; have HO_4 := n1_; have HL153_2 := n2_; have HO157 := n3_; have HR153_2 := n4_; have BK154 := n5_; have HB := n6_; clear n0_ n1_ n2_ n3_ n4_ n5_ n6_; (try clear hb); (try clear hb2); (try clear hk); (try clear hi); (try clear ho0); obtain ⟨Ao77, co77, eo77⟩ := Kd.N_slice HO157.out; subst eo77) | ((with_reducible refine gate_callee (f := 55) rfl ?_); refine goesL_ (some 60) rfl rfl Try.func55 (by kernel_rfl) rfl #[.slice Ao77 t155.length co77] rfl (by (try simp only [List.map_toArray, List.map_cons, List.map_nil]); first | done | rfl | (simp only [List.length_drop, List.length_take]; rfl)) ?_; (with_reducible refine (spec_l3Least.calls k3 _ _ t155 t158 _ ?side1 ?side2 A30.out).mono ?_); (case side1 => repeat (first | exact (Kd.N_reads' HO157.out).2.2 | (with_reducible refine Kd.C_alloc ?_ _) | (with_reducible refine Kd.C_drewN ?_ _) | (with_reducible refine Kd.C_drew ?_))); (case side2 => exact (Kd.N_reads' HO157.out).2.1); rintro e w' ⟨rfl, ⟨nd, rfl⟩⟩; refine ⟨_, rfl, ?_⟩; (try (rw [drewN_self w76]; generalize hq_ : World.drewN w76 _ = w76; have n0_ : Aside0 (Kd.V (Kd.int .i64) 3 w76 w.heap.size (fun k_ => some k_ ≠ (.slice Ao77 t155.length co77 : Value).ownBlock ∧ some k_ ≠ (v137 : Value).ownBlock ∧ some k_ ≠ (.slice (some ad153) x4_3.length co72 : Value).ownBlock ∧ k_ ≠ gb154) (.slice A153_2 ((rd_T81 x4_3 t152).f2).length c153_2) ((rd_T81 x4_3 t152).f2)) := ⟨by rw [← hq_]; exact (by (with_reducible repeat (first | apply Kd.V_alloc | apply Kd.V_drewN | apply Kd.V_drew)); exact Kd.V_mono HL153_2.out (by first | exact (fun _ hk => ⟨hk.2, ⟨hk.1.1, ⟨hk.1.2.1, hk.1.2.2⟩⟩⟩) | (intro k_ hk_; grind)))⟩; have n1_ : Aside0 (Kd.N k81 81 w76 w.heap.size (fun k_ => some k_ ≠ (v137 : Value).ownBlock ∧ k_ ≠ gb154) (.slice Ao77 t155.length co77) t155) := ⟨by rw [← hq_]; exact (by (with_reducible repeat (first | apply Kd.N_alloc | apply Kd.N_drewN | apply Kd.N_drew)); exact HO157.out)⟩; have n2_ : Aside0 (Kd.R (Kd.int .i64) 3 w76 w.heap.size (fun _ => True) v137 x3_3) := ⟨by rw [← hq_]; exact (by (with_reducible repeat (first | apply Kd.R_alloc | apply Kd.R_drewN | apply Kd.R_drew)); exact HO_3.out)⟩; have n3_ : Aside0 (Kd.N k81 81 w76 w.heap.size (fun k_ => some k_ ≠ (.slice Ao77 t155.length co77 : Value).ownBlock ∧ some k_ ≠ (v137 : Value).ownBlock ∧ k_ ≠ gb154) (.slice (some ad153) x4_3.length co72) x4_3) := ⟨by rw [← hq_]; exact (by (with_reducible repeat (first | apply Kd.N_alloc | apply Kd.N_drewN | apply Kd.N_drew)); exact Kd.N_mono HO_4.out (by first | exact (fun _ hk => ⟨hk.2, ⟨hk.1.1, hk.1.2⟩⟩) | (intro k_ hk_; grind)))⟩; have n4_ : Aside0 (w76.heap[gb154]? = some (.cells #[.int .i64 ((rd_T81 x4_3 t152).f0), .int .i64 ((rd_T81 x4_3 t152).f1), .slice A153_2 ((rd_T81 x4_3 t152).f2).length c153_2] 81 (0, 0))) := ⟨by rw [← hq_]; exact (by (with_reducible repeat (first | refine blk_drewN ?_ _ | refine blk_drew ?_ | refine blk_alloc ?_ _)); exact BK154.out)⟩; have n5_ : Aside0 (Below w.heap.size w w76) := ⟨by rw [← hq_]; exact (by repeat (first | (with_reducible first | exact HB.out | apply below_alloc | apply pw_below_drewN | apply below_drew1 | refine below_set ?_ GE154.out) | exact HB.out))⟩; have n6_ : Aside0 (Kd.C (Kd.int .i64) w76 A153_2 ((rd_T81 x4_3 t152).f2).length ((rd_T81 x4_3 t152).f2)) := ⟨by rw [← hq_]; exact (by first | exact (Kd.V_reads' HL153_2.out).2.2 | repeat (first | (with_reducible exact HR153_2.out) | (with_reducible refine Kd.C_alloc ?_ _) | (with_reducible refine Kd.C_drewN ?_ _) | (with_reducible refine Kd.C_drew ?_) | exact HR153_2.out))⟩; clear HL153_2 HO157 HO_3 HO_4 BK154 HB HR153_2 hq_; have HL153_2 := n0_; have HO157 := n1_; have HO_3 := n2_; have HO_4 := n3_; have BK154 := n4_; have HB := n5_; have HR153_2 := n6_; clear n0_ n1_ n2_ n3_ n4_ n5_ n6_)); have p159 : 0 ≤ (t158 : Int) := of_decide_eq_true (by first | (with_reducible assumption) | assumption); have q159 : t158 < (t155.length : Int) := of_decide_eq_true (by first | (with_reducible assumption) | assumption); obtain ⟨ad159, A159_2, c159_2, e159, hx159_0, hx159_1, hx159_2, hl159_2, hi159_2⟩ := at_T81 (Kd.N_reads' HO157.out).2.2 t158 p159 q159; cases e159; obtain ⟨ce159, hce159, hMe159, hcc159⟩ := Kd.N_get HO157.out z81 t158 p159 (by first | exact q159 | exact of_decide_eq_true (by first | (with_reducible assumption) | assumption) | (have e_ := (Kd.N_reads' HO157.out).1; omega)); obtain ⟨ua159_2, uc159_2, rfl, ul159_2, ge159_2⟩ := k81_openF hMe159; have hv159_2 := hcc159 2 _ rfl; rw [add_field _ _ 2 (by omega)] at hv159_2; replace hv159_2 := Option.some.inj (hv159_2.symm.trans hx159_2); injection hv159_2 with hva_ hvn_ hvc_; rw [hva_] at ge159_2; rw [hvc_] at ul159_2; have HL159_2 := Aside0.mk (show Kd.V (Kd.int .i64) 3 _ w.heap.size _ _ ((rd_T81 t155 t158).f2) from Kd.V_mk ul159_2 ge159_2); clear hva_ hvn_ hvc_ ge159_2 ul159_2; clear hcc159 hce159; have HR159_2 := Aside0.mk hi159_2; have HC159_2 := Aside0.mk hl159_2; clear hi159_2 hl159_2; replace p159 := eq_true p159; replace q159 := eq_true q159) | ((with_reducible refine gate_dst (N := 8) rfl ?_); refine box_event ?hg (N := 8) ?hd (cs := #[.int .i64 0, .int .i64 0, .slice none 0 0]) (t := 81) ?hr ?_; (case hd => rfl); (case hg => rfl); (case hr => first | (go_simp; done) | (go_simp; rfl)); intro gb160 hg w78 hbox hb; have n0_ := Aside0.mk (Kd.R_below (by (with_reducible repeat (first | apply Kd.R_alloc | apply Kd.R_drewN | apply Kd.R_drew)); exact HO_3.out) hb); have n1_ := Aside0.mk (Kd.N_below (Kd.N_elderB (by (with_reducible repeat (first | apply Kd.N_alloc | apply Kd.N_drewN | apply Kd.N_drew)); exact HO_4.out) gb160 (Nat.le_of_eq hg.symm)) hb); have n2_ := Aside0.mk (Kd.V_below (Kd.V_elderB (by (with_reducible repeat (first | apply Kd.V_alloc | apply Kd.V_drewN | apply Kd.V_drew)); exact HL153_2.out) gb160 (Nat.le_of_eq hg.symm)) hb); have n3_ := Aside0.mk (Kd.N_below (Kd.N_elderB (by (with_reducible repeat (first | apply Kd.N_alloc | apply Kd.N_drewN | apply Kd.N_drew)); exact HO157.out) gb160 (Nat.le_of_eq hg.symm)) hb); have n4_ := Aside0.mk (Kd.V_below (Kd.V_elderB (by (with_reducible repeat (first | apply Kd.V_alloc | apply Kd.V_drewN | apply Kd.V_drew)); exact HL159_2.out) gb160 (Nat.le_of_eq hg.symm)) hb); have n5_ := Aside0.mk (Kd.C_below (by first | exact (Kd.V_reads' HL153_2.out).2.2 | repeat (first | (with_reducible exact HR153_2.out) | (with_reducible refine Kd.C_alloc ?_ _) | (with_reducible refine Kd.C_drewN ?_ _) | (with_reducible refine Kd.C_drew ?_) | exact HR153_2.out)) hb); have n6_ := Aside0.mk (blk_below (g := gb154) (o := .cells #[.int .i64 ((rd_T81 x4_3 t152).f0), .int .i64 ((rd_T81 x4_3 t152).f1), .slice A153_2 ((rd_T81 x4_3 t152).f2).length c153_2] 81 (0, 0)) (by (with_reducible repeat (first | refine blk_drewN ?_ _ | refine blk_drew ?_ | refine blk_alloc ?_ _)); exact BK154.out) hb); have n7_ := Aside0.mk (Kd.C_below (by first | exact (Kd.V_reads' HL159_2.out).2.2 | repeat (first | (with_reducible exact HR159_2.out) | (with_reducible refine Kd.C_alloc ?_ _) | (with_reducible refine Kd.C_drewN ?_ _) | (with_reducible refine Kd.C_drew ?_) | exact HR159_2.out)) hb); have n8_ := Aside0.mk (below_step (by repeat (first | (with_reducible first | exact HB.out | apply below_alloc | apply pw_below_drewN | apply below_drew1 | refine below_set ?_ GE154.out) | exact HB.out)) hb); have n9_ := Aside0.mk (hbox); have n10_ := Aside0.mk ((by rw [hg]; exact (below_size (by repeat (first | (with_reducible first | exact HB.out | apply below_alloc | apply pw_below_drewN | apply below_drew1 | refine below_set ?_ GE154.out) | exact HB.out))) : w.heap.size ≤ gb160)); have n11_ := Aside0.mk ((by rw [hg]; exact (below_size (by repeat (first | (with_reducible first | exact HB.out | apply below_alloc | apply pw_below_drewN | apply below_drew1 | refine below_set ?_ GE154.out) | exact HB.out))) : w.heap.size ≤ gb160)); have n12_ := Aside0.mk ((by rw [hg]; exact Nat.ne_of_lt (blk_lt (g := gb154) (o := .cells #[.int .i64 ((rd_T81 x4_3 t152).f0), .int .i64 ((rd_T81 x4_3 t152).f1), .slice A153_2 ((rd_T81 x4_3 t152).f2).length c153_2] 81 (0, 0)) (by (with_reducible repeat (first | refine blk_drewN ?_ _ | refine blk_drew ?_ | refine blk_alloc ?_ _)); exact BK154.out)) : gb154 ≠ gb160)); have n13_ := Aside0.mk ((by rw [hg]; exact Nat.ne_of_gt (blk_lt (g := gb154) (o := .cells #[.int .i64 ((rd_T81 x4_3 t152).f0), .int .i64 ((rd_T81 x4_3 t152).f1), .slice A153_2 ((rd_T81 x4_3 t152).f2).length c153_2] 81 (0, 0)) (by (with_reducible repeat (first | refine blk_drewN ?_ _ | refine blk_drew ?_ | refine blk_alloc ?_ _)); exact BK154.out)) : gb160 ≠ gb154)); clear HO_3; clear HO_4; clear HL153_2; clear HO157; clear HL159_2; clear HR153_2; clear BK154; clear HR159_2; clear HB; have HO_3 := n0_; have HO_4 := n1_; have HL153_2 := n2_; have HO157 := n3_; have HL159_2 := n4_; have HR153_2 := n5_; have BK154 := n6_; have HR159_2 := n7_; have HB := n8_; have BK160 := n9_; have GW160 := n10_; have GE160 := n11_; have NB154_160 := n12_; have NB160_154 := n13_; clear n0_ n1_ n2_ n3_ n4_ n5_ n6_ n7_ n8_ n9_ n10_ n11_ n12_ n13_; clear hb hbox hg; have hnb79 := NB160_154.out; have hnc79 := NB154_160.out; have hcz80_0 : w78.cell? ⟨gb160, 0, none⟩ = some (.int .i64 0) := (blk_cell BK160.out 0).trans rfl; have hcz80_1 : w78.cell? ⟨gb160, 1, none⟩ = some (.int .i64 0) := (blk_cell BK160.out 1).trans rfl; have hcz80_2 : w78.cell? ⟨gb160, 2, none⟩ = some (.slice none 0 0) := (blk_cell BK160.out 2).trans rfl; have hfz80_0 := blk_frozen BK160.out 0; have hfz80_1 := blk_frozen BK160.out 1; have hfz80_2 := blk_frozen BK160.out 2) | ((with_reducible refine gate_store (t := 81) (p := 8) rfl ?_); refine store_event (t := 81) (p := 8) (v := ?vo_w81) (w1 := (((w78.setCell ⟨gb160, 0, none⟩ (.int .i64 ((rd_T81 t155 t158).f0))).setCell ⟨gb160, 1, none⟩ (.int .i64 ((rd_T81 t155 t158).f1))).setCell ⟨gb160, 2, none⟩ (.slice A159_2 ((rd_T81 t155 t158).f2).length c159_2))) ?hg ?ho ?hn ?hr ?_; (case ho => rfl); (case hg => rfl); (case hn => rfl); (case hr => first | (go_simp; done) | (go_simp; rfl)); intro w81 hw; have n0_ : Aside0 (Kd.R (Kd.int .i64) 3 w81 w.heap.size (fun _ => True) v137 x3_3) := ⟨(by rw [hw]; exact (by (with_reducible repeat (first | apply Kd.R_alloc | apply Kd.R_drewN | apply Kd.R_drew)); exact Kd.R_mono (Kd.R_far (p := ⟨gb160, 2, none⟩) (Kd.R_far (p := ⟨gb160, 1, none⟩) (Kd.R_far (p := ⟨gb160, 0, none⟩) (Kd.R_types HO_3.out BK160.out (by decide)) (fun _ hk => hk.2) (.int .i64 ((rd_T81 t155 t158).f0))) (fun _ hk => hk.2) (.int .i64 ((rd_T81 t155 t158).f1))) (fun _ hk => hk.2) (.slice A159_2 ((rd_T81 t155 t158).f2).length c159_2)) (fun _ hk => trivial)))⟩; have n1_ : Aside0 (Kd.N k81 81 w81 w.heap.size (fun k_ => some k_ ≠ (v137 : Value).ownBlock ∧ some k_ ≠ (.slice (some ad159) t155.length co77 : Value).ownBlock ∧ k_ ≠ gb154 ∧ k_ ≠ gb160) (.slice (some ad153) x4_3.length co72) x4_3) := ⟨(by rw [hw]; exact (by (with_reducible repeat (first | apply Kd.N_alloc | apply Kd.N_drewN | apply Kd.N_drew)); exact Kd.N_mono (Kd.N_far (p := ⟨gb160, 2, none⟩) (Kd.N_far (p := ⟨gb160, 1, none⟩) (Kd.N_far (p := ⟨gb160, 0, none⟩) (Kd.N_mono HO_4.out (fun k_ hk => (⟨hk, hk.2⟩ : _ ∧ k_ ≠ gb160))) (fun _ hk => hk.2) (.int .i64 ((rd_T81 t155 t158).f0))) (fun _ hk => hk.2) (.int .i64 ((rd_T81 t155 t158).f1))) (fun _ hk => hk.2) (.slice A159_2 ((rd_T81 t155 t158).f2).length c159_2)) (by first | exact (fun _ hk => ⟨hk.1.1.1.1, ⟨hk.1.1.2, ⟨hk.1.1.1.2, hk.1.2⟩⟩⟩) | (intro k_ hk_; grind))))⟩; have n2_ : Aside0 (Kd.V (Kd.int .i64) 3 w81 w.heap.size (fun k_ => some k_ ≠ (v137 : Value).ownBlock ∧ some k_ ≠ (.slice (some ad153) x4_3.length co72 : Value).ownBlock ∧ some k_ ≠ (.slice (some ad159) t155.length co77 : Value).ownBlock ∧ k_ ≠ gb154 ∧ k_ ≠ gb160) (.slice A153_2 ((rd_T81 x4_3 t152).f2).length c153_2) ((rd_T81 x4_3 t152).f2)) := ⟨(by rw [hw]; exact (by (with_reducible repeat (first | apply Kd.V_alloc | apply Kd.V_drewN | apply Kd.V_drew)); exact Kd.V_mono (Kd.V_far (p := ⟨gb160, 2, none⟩) (Kd.V_far (p := ⟨gb160, 1, none⟩) (Kd.V_far (p := ⟨gb160, 0, none⟩) (Kd.V_mono HL153_2.out (fun k_ hk => (⟨hk, hk.2⟩ : _ ∧ k_ ≠ gb160))) (fun _ hk => hk.2) (.int .i64 ((rd_T81 t155 t158).f0))) (fun _ hk => hk.2) (.int .i64 ((rd_T81 t155 t158).f1))) (fun _ hk => hk.2) (.slice A159_2 ((rd_T81 t155 t158).f2).length c159_2)) (by first | exact (fun _ hk => ⟨hk.1.1.1.1, ⟨hk.1.1.1.2.1, ⟨hk.1.1.2, ⟨hk.1.1.1.2.2, hk.1.2⟩⟩⟩⟩) | (intro k_ hk_; grind))))⟩; have n3_ : Aside0 (Kd.N k81 81 w81 w.heap.size (fun k_ => some k_ ≠ (v137 : Value).ownBlock ∧ k_ ≠ gb154 ∧ k_ ≠ gb160) (.slice (some ad159) t155.length co77) t155) := ⟨(by rw [hw]; exact (by (with_reducible repeat (first | apply Kd.N_alloc | apply Kd.N_drewN | apply Kd.N_drew)); exact Kd.N_mono (Kd.N_far (p := ⟨gb160, 2, none⟩) (Kd.N_far (p := ⟨gb160, 1, none⟩) (Kd.N_far (p := ⟨gb160, 0, none⟩) (Kd.N_mono HO157.out (fun k_ hk => (⟨hk, hk.2⟩ : _ ∧ k_ ≠ gb160))) (fun _ hk => hk.2) (.int .i64 ((rd_T81 t155 t158).f0))) (fun _ hk => hk.2) (.int .i64 ((rd_T81 t155 t158).f1))) (fun _ hk => hk.2) (.slice A159_2 ((rd_T81 t155 t158).f2).length c159_2)) (by first | exact (fun _ hk => ⟨hk.1.1.1, ⟨hk.1.1.2, hk.1.2⟩⟩) | (intro k_ hk_; grind))))⟩; have n4_ : Aside0 (Kd.V (Kd.int .i64) 3 w81 w.heap.size (fun k_ => some k_ ≠ (v137 : Value).ownBlock ∧ some k_ ≠ (.slice (some ad159) t155.length co77 : Value).ownBlock ∧ k_ ≠ gb154 ∧ k_ ≠ gb160) (.slice A159_2 ((rd_T81 t155 t158).f2).length c159_2) ((rd_T81 t155 t158).f2)) := ⟨(by rw [hw]; exact (by (with_reducible repeat (first | apply Kd.V_alloc | apply Kd.V_drewN | apply Kd.V_drew)); exact Kd.V_mono (Kd.V_far (p := ⟨gb160, 2, none⟩) (Kd.V_far (p := ⟨gb160, 1, none⟩) (Kd.V_far (p := ⟨gb160, 0, none⟩) (Kd.V_mono HL159_2.out (fun k_ hk => (⟨hk, hk.2⟩ : _ ∧ k_ ≠ gb160))) (fun _ hk => hk.2) (.int .i64 ((rd_T81 t155 t158).f0))) (fun _ hk => hk.2) (.int .i64 ((rd_T81 t155 t158).f1))) (fun _ hk => hk.2) (.slice A159_2 ((rd_T81 t155 t158).f2).length c159_2)) (by first | exact (fun _ hk => ⟨hk.1.1.1.1, ⟨hk.1.1.2, ⟨hk.1.1.1.2, hk.1.2⟩⟩⟩) | (intro k_ hk_; grind))))⟩; have n5_ : Aside0 (w81.heap[gb154]? = some (.cells #[.int .i64 ((rd_T81 x4_3 t152).f0), .int .i64 ((rd_T81 x4_3 t152).f1), .slice A153_2 ((rd_T81 x4_3 t152).f2).length c153_2] 81 (0, 0))) := ⟨(by rw [hw]; exact (by (with_reducible repeat (first | refine blk_drewN ?_ _ | refine blk_drew ?_ | refine blk_alloc ?_ _)); refine blk_far ?_ NB154_160.out _; (with_reducible repeat (first | refine blk_drewN ?_ _ | refine blk_drew ?_ | refine blk_alloc ?_ _)); refine blk_far ?_ NB154_160.out _; (with_reducible repeat (first | refine blk_drewN ?_ _ | refine blk_drew ?_ | refine blk_alloc ?_ _)); refine blk_far ?_ NB154_160.out _; (with_reducible repeat (first | refine blk_drewN ?_ _ | refine blk_drew ?_ | refine blk_alloc ?_ _)); exact BK154.out))⟩; have n6_ : Aside0 (w81.heap[gb160]? = some (.cells #[.int .i64 ((rd_T81 t155 t158).f0), .int .i64 ((rd_T81 t155 t158).f1), .slice A159_2 ((rd_T81 t155 t158).f2).length c159_2] 81 (0, 0))) := ⟨(by rw [hw]; exact (by (with_reducible repeat (first | refine blk_drewN ?_ _ | refine blk_drew ?_ | refine blk_alloc ?_ _)); refine blk_put (cs := #[.int .i64 ((rd_T81 t155 t158).f0), .int .i64 ((rd_T81 t155 t158).f1), .slice none 0 0]) ?_ 2 _ rfl; (with_reducible repeat (first | refine blk_drewN ?_ _ | refine blk_drew ?_ | refine blk_alloc ?_ _)); refine blk_put (cs := #[.int .i64 ((rd_T81 t155 t158).f0), .int .i64 0, .slice none 0 0]) ?_ 1 _ rfl; (with_reducible repeat (first | refine blk_drewN ?_ _ | refine blk_drew ?_ | refine blk_alloc ?_ _)); refine blk_put (cs := #[.int .i64 0, .int .i64 0, .slice none 0 0]) ?_ 0 _ rfl; (with_reducible repeat (first | refine blk_drewN ?_ _ | refine blk_drew ?_ | refine blk_alloc ?_ _)); exact BK160.out))⟩; have n7_ : Aside0 (Below w.heap.size w w81) := ⟨(by rw [hw]; exact (by repeat (first | (with_reducible first | exact HB.out | apply below_alloc | apply pw_below_drewN | apply below_drew1 | refine below_set ?_ GE154.out | refine below_set ?_ GE160.out) | exact HB.out)))⟩; clear hw; clear HO_3; clear HO_4; clear HL153_2; clear HO157; clear HL159_2; clear BK154; clear BK160; clear HB; have HO_3 := n0_; have HO_4 := n1_; have HL153_2 := n2_; have HO157 := n3_; have HL159_2 := n4_; have BK154 := n5_; have BK160 := n6_; have HB := n7_; clear n0_ n1_ n2_ n3_ n4_ n5_ n6_ n7_) | ((with_reducible refine gate_callee (f := 56) rfl ?_); refine goesL_ (some 67) rfl rfl Try.func56 (by kernel_rfl) rfl #[.slice (some ad159) t155.length co77, .int .i64 t158] rfl (by (try simp only [List.map_toArray, List.map_cons, List.map_nil]); first | done | rfl | (simp only [List.length_drop, List.length_take]; rfl)) ?_; (with_reducible refine (spec_l3Less.calls (fun k_ => (some k_ ≠ (v137 : Value).ownBlock ∧ (k_ ≠ gb154 ∧ k_ ≠ gb160))) _ _ t155 t158 t161 _ ?side1 A33.out).mono ?_); (case side1 => exact Kd.N_V (HO157.out)); rintro e w82 ⟨v162, rfl, ho0, hb⟩; refine ⟨_, rfl, ?_⟩; have n0_ := Aside0.mk (Kd.R_below (by (with_reducible repeat (first | apply Kd.R_alloc | apply Kd.R_drewN | apply Kd.R_drew)); exact HO_3.out) hb); have n1_ := Aside0.mk (Kd.N_elder' (by (with_reducible repeat (first | apply Kd.N_alloc | apply Kd.N_drewN | apply Kd.N_drew)); exact HO_4.out) (Kd.N_base ho0) hb); have n2_ := Aside0.mk (Kd.V_elder' (by (with_reducible repeat (first | apply Kd.V_alloc | apply Kd.V_drewN | apply Kd.V_drew)); exact HL153_2.out) (Kd.N_base ho0) hb); have n3_ := Aside0.mk (Kd.N_elder' (by (with_reducible repeat (first | apply Kd.N_alloc | apply Kd.N_drewN | apply Kd.N_drew)); exact HO157.out) (Kd.N_base ho0) hb); have n4_ := Aside0.mk (Kd.V_elder' (by (with_reducible repeat (first | apply Kd.V_alloc | apply Kd.V_drewN | apply Kd.V_drew)); exact HL159_2.out) (Kd.N_base ho0) hb); have n5_ := Aside0.mk (Kd.N_lower (Kd.N_mono (ok' := fun k_ => some k_ ≠ (v137 : Value).ownBlock ∧ k_ ≠ gb154 ∧ k_ ≠ gb160) ho0 (fun k_ hk_ => ⟨Or.elim hk_ (fun hs_ => hs_.1) (fun hn_ => (Kd.fresh' (Kd.R_lt (by (with_reducible repeat (first | apply Kd.R_alloc | apply Kd.R_drewN | apply Kd.R_drew)); exact HO_3.out)) k_ hn_)), Or.elim hk_ (fun hs_ => hs_.2.1) (fun hn_ => (Kd.freshB (g := gb154) (o := .cells #[.int .i64 ((rd_T81 x4_3 t152).f0), .int .i64 ((rd_T81 x4_3 t152).f1), .slice A153_2 ((rd_T81 x4_3 t152).f2).length c153_2] 81 (0, 0)) (by (with_reducible repeat (first | refine blk_drewN ?_ _ | refine blk_drew ?_ | refine blk_alloc ?_ _)); exact BK154.out) k_ hn_)), Or.elim hk_ (fun hs_ => hs_.2.2) (fun hn_ => (Kd.freshB (g := gb160) (o := .cells #[.int .i64 ((rd_T81 t155 t158).f0), .int .i64 ((rd_T81 t155 t158).f1), .slice A159_2 ((rd_T81 t155 t158).f2).length c159_2] 81 (0, 0)) (by (with_reducible repeat (first | refine blk_drewN ?_ _ | refine blk_drew ?_ | refine blk_alloc ?_ _)); exact BK160.out) k_ hn_))⟩)) (below_size (by repeat (first | (with_reducible first | exact HB.out | apply below_alloc | apply pw_below_drewN | apply below_drew1 | refine below_set ?_ GE154.out | refine below_set ?_ GE160.out) | exact HB.out)))); have n6_ := Aside0.mk (Kd.C_below (by first | exact (Kd.V_reads' HL153_2.out).2.2 | repeat (first | (with_reducible exact HR153_2.out) | (with_reducible refine Kd.C_alloc ?_ _) | (with_reducible refine Kd.C_drewN ?_ _) | (with_reducible refine Kd.C_drew ?_) | exact HR153_2.out)) hb); have n7_ := Aside0.mk (blk_below (g := gb154) (o := .cells #[.int .i64 ((rd_T81 x4_3 t152).f0), .int .i64 ((rd_T81 x4_3 t152).f1), .slice A153_2 ((rd_T81 x4_3 t152).f2).length c153_2] 81 (0, 0)) (by (with_reducible repeat (first | refine blk_drewN ?_ _ | refine blk_drew ?_ | refine blk_alloc ?_ _)); exact BK154.out) hb); have n8_ := Aside0.mk (Kd.C_below (by first | exact (Kd.V_reads' HL159_2.out).2.2 | repeat (first | (with_reducible exact HR159_2.out) | (with_reducible refine Kd.C_alloc ?_ _) | (with_reducible refine Kd.C_drewN ?_ _) | (with_reducible refine Kd.C_drew ?_) | exact HR159_2.out)) hb); have n9_ := Aside0.mk (blk_below (g := gb160) (o := .cells #[.int .i64 ((rd_T81 t155 t158).f0), .int .i64 ((rd_T81 t155 t158).f1), .slice A159_2 ((rd_T81 t155 t158).f2).length c159_2] 81 (0, 0)) (by (with_reducible repeat (first | refine blk_drewN ?_ _ | refine blk_drew ?_ | refine blk_alloc ?_ _)); exact BK160.out) hb); have n10_ := Aside0.mk (below_step (by repeat (first | (with_reducible first | exact HB.out | apply below_alloc | apply pw_below_drewN | apply below_drew1 | refine below_set ?_ GE154.out | refine below_set ?_ GE160.out) | exact HB.out)) hb); clear HO_3; clear HO_4; clear HL153_2; clear HO157; clear HL159_2; clear HR153_2; clear BK154; clear HR159_2; clear BK160; clear HB; have HO_3 := n0_; have HO_4 := n1_; have HL153_2 := n2_; have HO157 := n3_; have HL159_2 := n4_; have HO163 := n5_; have HR153_2 := n6_; have BK154 := n7_; have HR159_2 := n8_; have BK160 := n9_; have HB := n10_; clear n0_ n1_ n2_ n3_ n4_ n5_ n6_ n7_ n8_ n9_ n10_; (try clear hb); (try clear hb2); (try clear hk); (try clear hi); (try clear ho0); have hcz83_0 : w82.cell? ⟨gb154, 0, none⟩ = some (.int .i64 ((rd_T81 x4_3 t152).f0)) := (blk_cell BK154.out 0).trans rfl; have hcz83_1 : w82.cell? ⟨gb154, 1, none⟩ = some (.int .i64 ((rd_T81 x4_3 t152).f1)) := (blk_cell BK154.out 1).trans rfl; have hcz83_2 : w82.cell? ⟨gb154, 2, none⟩ = some (.slice A153_2 ((rd_T81 x4_3 t152).f2).length c153_2) := (blk_cell BK154.out 2).trans rfl; have hfz83_0 := blk_frozen BK154.out 0; have hfz83_1 := blk_frozen BK154.out 1; have hfz83_2 := blk_frozen BK154.out 2; have hcz84_0 : w82.cell? ⟨gb160, 0, none⟩ = some (.int .i64 ((rd_T81 t155 t158).f0)) := (blk_cell BK160.out 0).trans rfl; have hcz84_1 : w82.cell? ⟨gb160, 1, none⟩ = some (.int .i64 ((rd_T81 t155 t158).f1)) := (blk_cell BK160.out 1).trans rfl; have hcz84_2 : w82.cell? ⟨gb160, 2, none⟩ = some (.slice A159_2 ((rd_T81 t155 t158).f2).length c159_2) := (blk_cell BK160.out 2).trans rfl; have hfz84_0 := blk_frozen BK160.out 0; have hfz84_1 := blk_frozen BK160.out 1; have hfz84_2 := blk_frozen BK160.out 2))
                                    have n0_ := Aside0.mk (Kd.R_drew HO_3.out)
                                    have n1_ := Aside0.mk (Kd.N_drew HO_4.out)
                                    have n2_ := Aside0.mk (Kd.V_drew HL153_2.out)
                                    have n3_ := Aside0.mk (Kd.N_drew HO157.out)
                                    have n4_ := Aside0.mk (Kd.V_drew HL159_2.out)
                                    have n5_ := Aside0.mk (Kd.N_drew HO163.out)
                                    have n6_ := Aside0.mk (blk_drew BK154.out)
                                    have n7_ := Aside0.mk (blk_drew BK160.out)
                                    have n8_ := Aside0.mk (Kd.C_drew HR153_2.out)
                                    have n9_ := Aside0.mk (Kd.C_drew HR159_2.out)
                                    have n10_ := Aside0.mk (below_drew1 HB.out)
                                    clear HO_3
                                    clear HO_4
                                    clear HL153_2
                                    clear HO157
                                    clear HL159_2
                                    clear HO163
                                    clear BK154
                                    clear BK160
                                    clear HR153_2
                                    clear HR159_2
                                    clear HB
                                    have HO_3 := n0_
                                    have HO_4 := n1_
                                    have HL153_2 := n2_
                                    have HO157 := n3_
                                    have HL159_2 := n4_
                                    have HO163 := n5_
                                    have BK154 := n6_
                                    have BK160 := n7_
                                    have HR153_2 := n8_
                                    have HR159_2 := n9_
                                    have HB := n10_
                                    clear n0_ n1_ n2_ n3_ n4_ n5_ n6_ n7_ n8_ n9_ n10_
                                    refine start_ (n := 8) (S := fun w' => w'.cell? ⟨gb154, 0, none⟩ = some (.int .i64 ((rd_T81 x4_3 t152).f0)) ∧ w'.cell? ⟨gb154, 1, none⟩ = some (.int .i64 ((rd_T81 x4_3 t152).f1)) ∧ w'.cell? ⟨gb154, 2, none⟩ = some (.slice A153_2 ((rd_T81 x4_3 t152).f2).length c153_2) ∧ w'.cell? ⟨gb160, 0, none⟩ = some (.int .i64 ((rd_T81 t155 t158).f0)) ∧ w'.cell? ⟨gb160, 1, none⟩ = some (.int .i64 ((rd_T81 t155 t158).f1)) ∧ w'.cell? ⟨gb160, 2, none⟩ = some (.slice A159_2 ((rd_T81 t155 t158).f2).length c159_2)) (ds := []) #[false, false, false, false, false, false, false, false] (by kernel_rfl) rfl rfl ⟨(blk_cell BK154.out 0).trans rfl, (blk_cell BK154.out 1).trans rfl, (blk_cell BK154.out 2).trans rfl, (blk_cell BK160.out 0).trans rfl, (blk_cell BK160.out 1).trans rfl, (blk_cell BK160.out 2).trans rfl⟩ (fun hHeld => ?_); refine with_tabW spec_l3Lens.tab20 spec_l3Lens.bits20 (fun HT_ HW_ => ?_)
                                    generalize w82.drew = w85 at HO_3 HO_4 HL153_2 HO157 HL159_2 HO163 BK154 BK160 HR153_2 HR159_2 HB hHeld ⊢
                                    refine pure_ (i := 1) (N := some 77) (v := ?_) (a' := ?_) #[false, true, false, false, false, false, false, false] rfl rfl (any_of HT_.out (by kernel_rfl)) (fun _ _ _ h => h) (Or.inl ⟨by rfl, ?_⟩) ?_ ?_
                                    rotate_left
                                    · intro w'
                                      go_simp
                                      with_reducible rfl
                                    rotate_left
                                    · simp only [Act.put, List.setIfInBounds_toArray, List.set_cons_zero, List.set_cons_succ, i64_w, i32_w]
                                      rfl
                                    refine pure_ (i := 4) (N := some 80) (v := ?_) (a' := ?_) #[false, true, false, false, true, false, false, false] rfl rfl (any_of HT_.out (by kernel_rfl)) (fun _ _ _ h => h) (Or.inl ⟨by rfl, ?_⟩) ?_ ?_
                                    rotate_left
                                    · intro w'
                                      go_simp
                                      with_reducible rfl
                                    rotate_left
                                    · simp only [Act.put, List.setIfInBounds_toArray, List.set_cons_zero, List.set_cons_succ, i64_w, i32_w]
                                      rfl
                                    refine take_ (i := 2) (N := some 78) (v := ?_) (a' := ?_) #[false, true, true, false, true, false, false, false] rfl rfl (take_ofW HT_.out HW_.out (by kernel_rfl)) (fun _ _ _ h => h) (Or.inl ⟨by rfl, ?_⟩) hHeld ?_ ?_
                                    rotate_left
                                    · rintro w' ⟨s0, s1, s2, s3, s4, s5⟩
                                      go_simp
                                      with_reducible rfl
                                    rotate_left
                                    · simp only [Act.put, List.setIfInBounds_toArray, List.set_cons_zero, List.set_cons_succ, i64_w, i32_w]
                                      rfl
                                    refine take_ (i := 5) (N := some 81) (v := ?_) (a' := ?_) #[false, true, true, false, true, true, false, false] rfl rfl (take_ofW HT_.out HW_.out (by kernel_rfl)) (fun _ _ _ h => h) (Or.inl ⟨by rfl, ?_⟩) hHeld ?_ ?_
                                    rotate_left
                                    · rintro w' ⟨s0, s1, s2, s3, s4, s5⟩
                                      go_simp
                                      with_reducible rfl
                                    rotate_left
                                    · simp only [Act.put, List.setIfInBounds_toArray, List.set_cons_zero, List.set_cons_succ, i64_w, i32_w]
                                      rfl
                                    refine one_ (i := 0) (N := some 76) #[true, true, true, false, true, true, false, false] rfl rfl (one_of HT_.out (by kernel_rfl)) (by decide) (fun K hK => ?_)
                                    refine Kd.R_lit_step (Kd.int .i64) _ 3 ?hg (N := 76) ?hd (xs := ([] : List Int)) (inner := []) (ok := fun _ => True) (okp := fun _ => True) ?hr ?hp (fun _ hk => hk) trivial (Below.refl _ _) (Nat.le_refl _) (by simp) ?_; (case hd => rfl); (case hg => rfl); (case hr => first | (go_simp; done) | (go_simp; rfl)); (case hp => exact (Reps.none _ _))
                                    intro v181 w86 ho87 hb hg_ hnew_
                                    clear hg_ hnew_
                                    (first | rw [← Ny180.out] at ho87 | (simp only [Int.reduceToNat] at ho87; rw [← Ny180.out] at ho87))
                                    have n0_ := Aside0.mk (Kd.R_elder' (by (with_reducible repeat (first | apply Kd.R_alloc | apply Kd.R_drewN | apply Kd.R_drew)); exact HO_3.out) (Kd.R_base ho87) hb)
                                    have n1_ := Aside0.mk (Kd.N_elder' (by (with_reducible repeat (first | apply Kd.N_alloc | apply Kd.N_drewN | apply Kd.N_drew)); exact HO_4.out) (Kd.R_base ho87) hb)
                                    have n2_ := Aside0.mk (Kd.V_elder' (by (with_reducible repeat (first | apply Kd.V_alloc | apply Kd.V_drewN | apply Kd.V_drew)); exact HL153_2.out) (Kd.R_base ho87) hb)
                                    have n3_ := Aside0.mk (Kd.N_elder' (by (with_reducible repeat (first | apply Kd.N_alloc | apply Kd.N_drewN | apply Kd.N_drew)); exact HO157.out) (Kd.R_base ho87) hb)
                                    have n4_ := Aside0.mk (Kd.V_elder' (by (with_reducible repeat (first | apply Kd.V_alloc | apply Kd.V_drewN | apply Kd.V_drew)); exact HL159_2.out) (Kd.R_base ho87) hb)
                                    have n5_ := Aside0.mk (Kd.N_elder' (by (with_reducible repeat (first | apply Kd.N_alloc | apply Kd.N_drewN | apply Kd.N_drew)); exact HO163.out) (Kd.R_base ho87) hb)
                                    have n6_ := Aside0.mk (Kd.R_lower (Kd.R_new' ho87 (Kd.R_lt (by (with_reducible repeat (first | apply Kd.R_alloc | apply Kd.R_drewN | apply Kd.R_drew)); exact HO_3.out))) (below_size (by repeat (first | (with_reducible first | exact HB.out | apply below_alloc | apply pw_below_drewN | apply below_drew1 | refine below_set ?_ GE154.out | refine below_set ?_ GE160.out) | exact HB.out))))
                                    have n7_ := Aside0.mk (Kd.C_below (by first | exact (Kd.V_reads' HL153_2.out).2.2 | repeat (first | (with_reducible exact HR153_2.out) | (with_reducible refine Kd.C_alloc ?_ _) | (with_reducible refine Kd.C_drewN ?_ _) | (with_reducible refine Kd.C_drew ?_) | exact HR153_2.out)) hb)
                                    have n8_ := Aside0.mk (blk_below (g := gb154) (o := .cells #[.int .i64 ((rd_T81 x4_3 t152).f0), .int .i64 ((rd_T81 x4_3 t152).f1), .slice A153_2 ((rd_T81 x4_3 t152).f2).length c153_2] 81 (0, 0)) (by (with_reducible repeat (first | refine blk_drewN ?_ _ | refine blk_drew ?_ | refine blk_alloc ?_ _)); exact BK154.out) hb)
                                    have n9_ := Aside0.mk (Kd.C_below (by first | exact (Kd.V_reads' HL159_2.out).2.2 | repeat (first | (with_reducible exact HR159_2.out) | (with_reducible refine Kd.C_alloc ?_ _) | (with_reducible refine Kd.C_drewN ?_ _) | (with_reducible refine Kd.C_drew ?_) | exact HR159_2.out)) hb)
                                    have n10_ := Aside0.mk (blk_below (g := gb160) (o := .cells #[.int .i64 ((rd_T81 t155 t158).f0), .int .i64 ((rd_T81 t155 t158).f1), .slice A159_2 ((rd_T81 t155 t158).f2).length c159_2] 81 (0, 0)) (by (with_reducible repeat (first | refine blk_drewN ?_ _ | refine blk_drew ?_ | refine blk_alloc ?_ _)); exact BK160.out) hb)
                                    have n11_ := Aside0.mk (below_step (by repeat (first | (with_reducible first | exact HB.out | apply below_alloc | apply pw_below_drewN | apply below_drew1 | refine below_set ?_ GE154.out | refine below_set ?_ GE160.out) | exact HB.out)) hb)
                                    clear HO_3
                                    clear HO_4
                                    clear HL153_2
                                    clear HO157
                                    clear HL159_2
                                    clear HO163
                                    clear HR153_2
                                    clear BK154
                                    clear HR159_2
                                    clear BK160
                                    clear HB
                                    have HO_3 := n0_
                                    have HO_4 := n1_
                                    have HL153_2 := n2_
                                    have HO157 := n3_
                                    have HL159_2 := n4_
                                    have HO163 := n5_
                                    have HO182 := n6_
                                    have HR153_2 := n7_
                                    have BK154 := n8_
                                    have HR159_2 := n9_
                                    have BK160 := n10_
                                    have HB := n11_
                                    clear n0_ n1_ n2_ n3_ n4_ n5_ n6_ n7_ n8_ n9_ n10_ n11_
                                    clear hb ho87
                                    refine hK.out _ _ ⟨(blk_cell BK154.out 0).trans rfl, (blk_cell BK154.out 1).trans rfl, (blk_cell BK154.out 2).trans rfl, (blk_cell BK160.out 0).trans rfl, (blk_cell BK160.out 1).trans rfl, (blk_cell BK160.out 2).trans rfl⟩ (fun hHeld => ?_)
                                    clear hK K
                                    refine norm_ (a' := ?_) ?_ ?_
                                    rotate_left
                                    · show Act.put _ (some 76) _ = _
                                      simp only [Act.put, List.setIfInBounds_toArray, List.set_cons_zero, List.set_cons_succ, i64_w, i32_w]
                                      rfl
                                    refine one_ (i := 3) (N := some 79) #[true, true, true, true, true, true, false, false] rfl rfl (one_of HT_.out (by kernel_rfl)) (by decide) (fun K hK => ?_)
                                    refine Kd.R_append_rows_step (Kd.int .i64) (w0 := w) w.heap.size (by rfl) (.tmp 76) (.tmp 78) 23 3 (.int .i64 0) 8 rfl Try.underlying23 info3 rfl (by decide) (by omega) v181 y180 ((rd_T81 x4_3 t152).f2) _ _ _ (fun k_ => some k_ ≠ (v137 : Value).ownBlock) (fun _ => False) rfl rfl ?aO ?aR (fun _ _ h => h) (fun _ h => h.elim) ?aF ?aB ?aS ?aL ?_
                                    (case aR => repeat (first | exact (by first | exact (Kd.V_reads' HL153_2.out).2.2 | repeat (first | (with_reducible exact HR153_2.out) | (with_reducible refine Kd.C_alloc ?_ _) | (with_reducible refine Kd.C_drewN ?_ _) | (with_reducible refine Kd.C_drew ?_) | exact HR153_2.out)) | (with_reducible refine Kd.C_alloc ?_ _) | (with_reducible refine Kd.C_drewN ?_ _) | (with_reducible refine Kd.C_drew ?_)))
                                    (case aB => exact (by repeat (first | (with_reducible first | exact HB.out | apply below_alloc | apply pw_below_drewN | apply below_drew1 | refine below_set ?_ GE154.out | refine below_set ?_ GE160.out) | exact HB.out)))
                                    (case aF => exact (fun k_ hk => Kd.fresh' (Kd.R_lt (by (with_reducible repeat (first | apply Kd.R_alloc | apply Kd.R_drewN | apply Kd.R_drew)); exact HO_3.out)) k_ hk))
                                    (case aO => exact (by (with_reducible repeat (first | apply Kd.R_alloc | apply Kd.R_drewN | apply Kd.R_drew)); exact Kd.R_mono HO182.out (fun _ hk => hk.2)))
                                    (case aS => exact (below_size (by repeat (first | (with_reducible first | exact HB.out | apply below_alloc | apply pw_below_drewN | apply below_drew1 | refine below_set ?_ GE154.out | refine below_set ?_ GE160.out) | exact HB.out))))
                                    (case aL => have := LMc70.out; omega)
                                    intro v184 w88 ho hb hg hat
                                    rw [← Ny183.out] at ho
                                    have n0_ := Aside0.mk (Kd.R_after (ok := (fun _ => True)) (by (with_reducible repeat (first | apply Kd.R_alloc | apply Kd.R_drewN | apply Kd.R_drew)); exact HO_3.out) hg hat)
                                    have n1_ := Aside0.mk (Kd.N_afterv (ok := (fun k_ => some k_ ≠ (v137 : Value).ownBlock ∧ some k_ ≠ (.slice (some ad159) t155.length co77 : Value).ownBlock ∧ some k_ ≠ (v162 : Value).ownBlock ∧ k_ ≠ gb154 ∧ k_ ≠ gb160)) (by (with_reducible repeat (first | apply Kd.N_alloc | apply Kd.N_drewN | apply Kd.N_drew)); exact Kd.N_mono HO_4.out (by first | exact (fun _ hk => ⟨⟨hk.1.1.1, ⟨hk.1.1.2.1, ⟨hk.1.2, ⟨hk.1.1.2.2.1, hk.1.1.2.2.2⟩⟩⟩⟩, hk.2⟩) | (intro k_ hk_; grind))) hg hat)
                                    have n2_ := Aside0.mk (Kd.V_afterv (ok := (fun k_ => some k_ ≠ (v137 : Value).ownBlock ∧ some k_ ≠ (.slice (some ad153) x4_3.length co72 : Value).ownBlock ∧ some k_ ≠ (.slice (some ad159) t155.length co77 : Value).ownBlock ∧ some k_ ≠ (v162 : Value).ownBlock ∧ k_ ≠ gb154 ∧ k_ ≠ gb160)) (by (with_reducible repeat (first | apply Kd.V_alloc | apply Kd.V_drewN | apply Kd.V_drew)); exact Kd.V_mono HL153_2.out (by first | exact (fun _ hk => ⟨⟨hk.1.1.1, ⟨hk.1.1.2.1, ⟨hk.1.1.2.2.1, ⟨hk.1.2, ⟨hk.1.1.2.2.2.1, hk.1.1.2.2.2.2⟩⟩⟩⟩⟩, hk.2⟩) | (intro k_ hk_; grind))) hg hat)
                                    have n3_ := Aside0.mk (blk_grown (g := gb154) (o := .cells #[.int .i64 ((rd_T81 x4_3 t152).f0), .int .i64 ((rd_T81 x4_3 t152).f1), .slice A153_2 ((rd_T81 x4_3 t152).f2).length c153_2] 81 (0, 0)) (by (with_reducible repeat (first | refine blk_drewN ?_ _ | refine blk_drew ?_ | refine blk_alloc ?_ _)); exact BK154.out) hg (Kd.R_ne HO182.out BK154.out (by decide)))
                                    have n4_ := Aside0.mk (Kd.N_afterv (ok := (fun k_ => some k_ ≠ (v137 : Value).ownBlock ∧ some k_ ≠ (v162 : Value).ownBlock ∧ k_ ≠ gb154 ∧ k_ ≠ gb160)) (by (with_reducible repeat (first | apply Kd.N_alloc | apply Kd.N_drewN | apply Kd.N_drew)); exact Kd.N_mono HO157.out (by first | exact (fun _ hk => ⟨⟨hk.1.1.1, ⟨hk.1.2, ⟨hk.1.1.2.1, hk.1.1.2.2⟩⟩⟩, hk.2⟩) | (intro k_ hk_; grind))) hg hat)
                                    have n5_ := Aside0.mk (Kd.V_afterv (ok := (fun k_ => some k_ ≠ (v137 : Value).ownBlock ∧ some k_ ≠ (.slice (some ad159) t155.length co77 : Value).ownBlock ∧ some k_ ≠ (v162 : Value).ownBlock ∧ k_ ≠ gb154 ∧ k_ ≠ gb160)) (by (with_reducible repeat (first | apply Kd.V_alloc | apply Kd.V_drewN | apply Kd.V_drew)); exact Kd.V_mono HL159_2.out (by first | exact (fun _ hk => ⟨⟨hk.1.1.1, ⟨hk.1.1.2.1, ⟨hk.1.2, ⟨hk.1.1.2.2.1, hk.1.1.2.2.2⟩⟩⟩⟩, hk.2⟩) | (intro k_ hk_; grind))) hg hat)
                                    have n6_ := Aside0.mk (blk_grown (g := gb160) (o := .cells #[.int .i64 ((rd_T81 t155 t158).f0), .int .i64 ((rd_T81 t155 t158).f1), .slice A159_2 ((rd_T81 t155 t158).f2).length c159_2] 81 (0, 0)) (by (with_reducible repeat (first | refine blk_drewN ?_ _ | refine blk_drew ?_ | refine blk_alloc ?_ _)); exact BK160.out) hg (Kd.R_ne HO182.out BK160.out (by decide)))
                                    have n7_ := Aside0.mk (Kd.N_afterv (ok := (fun k_ => some k_ ≠ (v137 : Value).ownBlock ∧ k_ ≠ gb154 ∧ k_ ≠ gb160)) (by (with_reducible repeat (first | apply Kd.N_alloc | apply Kd.N_drewN | apply Kd.N_drew)); exact HO163.out) hg hat)
                                    have n8_ := Aside0.mk (hb)
                                    have n9_ := Aside0.mk (ho)
                                    clear HO_3
                                    clear HO_4
                                    clear HL153_2
                                    clear BK154
                                    clear HO157
                                    clear HL159_2
                                    clear BK160
                                    clear HO163
                                    clear HB
                                    clear HO182
                                    have HO_3 := n0_
                                    have HO_4 := n1_
                                    have HL153_2 := n2_
                                    have BK154 := n3_
                                    have HO157 := n4_
                                    have HL159_2 := n5_
                                    have BK160 := n6_
                                    have HO163 := n7_
                                    have HB := n8_
                                    have HO185 := n9_
                                    clear n0_ n1_ n2_ n3_ n4_ n5_ n6_ n7_ n8_ n9_
                                    clear ho hb hg hat
                                    refine hK.out _ _ ⟨(blk_cell BK154.out 0).trans rfl, (blk_cell BK154.out 1).trans rfl, (blk_cell BK154.out 2).trans rfl, (blk_cell BK160.out 0).trans rfl, (blk_cell BK160.out 1).trans rfl, (blk_cell BK160.out 2).trans rfl⟩ (fun hHeld => ?_)
                                    clear hK K
                                    refine norm_ (a' := ?_) ?_ ?_
                                    rotate_left
                                    · show Act.put _ (some 79) _ = _
                                      simp only [Act.put, List.setIfInBounds_toArray, List.set_cons_zero, List.set_cons_succ, i64_w, i32_w]
                                      rfl
                                    refine one_ (i := 6) (N := some 82) #[true, true, true, true, true, true, true, false] rfl rfl (one_of HT_.out (by kernel_rfl)) (by decide) (fun K hK => ?_)
                                    refine Kd.R_append_rows_step (Kd.int .i64) (w0 := w) w.heap.size (by rfl) (.tmp 79) (.tmp 81) 23 3 (.int .i64 0) 8 rfl Try.underlying23 info3 rfl (by decide) (by omega) v184 y183 ((rd_T81 t155 t158).f2) _ _ _ (fun k_ => some k_ ≠ (v137 : Value).ownBlock) (fun _ => False) rfl rfl ?aO ?aR (fun _ _ h => h) (fun _ h => h.elim) ?aF ?aB ?aS ?aL ?_
                                    (case aR => repeat (first | exact ((Kd.V_reads' HL159_2.out).2.2) | (with_reducible refine Kd.C_alloc ?_ _) | (with_reducible refine Kd.C_drewN ?_ _) | (with_reducible refine Kd.C_drew ?_)))
                                    (case aB => exact (by repeat (first | (with_reducible first | exact HB.out | apply below_alloc | apply pw_below_drewN | apply below_drew1 | refine below_set ?_ GE154.out | refine below_set ?_ GE160.out) | exact HB.out)))
                                    (case aF => exact (fun k_ hk => Kd.fresh' (Kd.R_lt (by (with_reducible repeat (first | apply Kd.R_alloc | apply Kd.R_drewN | apply Kd.R_drew)); exact HO_3.out)) k_ hk))
                                    (case aO => exact (by (with_reducible repeat (first | apply Kd.R_alloc | apply Kd.R_drewN | apply Kd.R_drew)); exact HO185.out))
                                    (case aS => exact (below_size (by repeat (first | (with_reducible first | exact HB.out | apply below_alloc | apply pw_below_drewN | apply below_drew1 | refine below_set ?_ GE154.out | refine below_set ?_ GE160.out) | exact HB.out))))
                                    (case aL => have := LMc71.out; omega)
                                    intro v187 w89 ho hb hg hat
                                    rw [← Ny186.out] at ho
                                    have n0_ := Aside0.mk (Kd.R_after (ok := (fun _ => True)) (by (with_reducible repeat (first | apply Kd.R_alloc | apply Kd.R_drewN | apply Kd.R_drew)); exact HO_3.out) hg hat)
                                    have n1_ := Aside0.mk (Kd.N_afterv (ok := (fun k_ => some k_ ≠ (v137 : Value).ownBlock ∧ some k_ ≠ (.slice (some ad159) t155.length co77 : Value).ownBlock ∧ some k_ ≠ (v162 : Value).ownBlock ∧ k_ ≠ gb154 ∧ k_ ≠ gb160)) (by (with_reducible repeat (first | apply Kd.N_alloc | apply Kd.N_drewN | apply Kd.N_drew)); exact HO_4.out) hg hat)
                                    have n2_ := Aside0.mk (Kd.V_afterv (ok := (fun k_ => some k_ ≠ (v137 : Value).ownBlock ∧ some k_ ≠ (.slice (some ad153) x4_3.length co72 : Value).ownBlock ∧ some k_ ≠ (.slice (some ad159) t155.length co77 : Value).ownBlock ∧ some k_ ≠ (v162 : Value).ownBlock ∧ k_ ≠ gb154 ∧ k_ ≠ gb160)) (by (with_reducible repeat (first | apply Kd.V_alloc | apply Kd.V_drewN | apply Kd.V_drew)); exact HL153_2.out) hg hat)
                                    have n3_ := Aside0.mk (blk_grown (g := gb154) (o := .cells #[.int .i64 ((rd_T81 x4_3 t152).f0), .int .i64 ((rd_T81 x4_3 t152).f1), .slice A153_2 ((rd_T81 x4_3 t152).f2).length c153_2] 81 (0, 0)) (by (with_reducible repeat (first | refine blk_drewN ?_ _ | refine blk_drew ?_ | refine blk_alloc ?_ _)); exact BK154.out) hg (Kd.R_ne HO185.out BK154.out (by decide)))
                                    have n4_ := Aside0.mk (Kd.N_afterv (ok := (fun k_ => some k_ ≠ (v137 : Value).ownBlock ∧ some k_ ≠ (v162 : Value).ownBlock ∧ k_ ≠ gb154 ∧ k_ ≠ gb160)) (by (with_reducible repeat (first | apply Kd.N_alloc | apply Kd.N_drewN | apply Kd.N_drew)); exact HO157.out) hg hat)
                                    have n5_ := Aside0.mk (Kd.V_afterv (ok := (fun k_ => some k_ ≠ (v137 : Value).ownBlock ∧ some k_ ≠ (.slice (some ad159) t155.length co77 : Value).ownBlock ∧ some k_ ≠ (v162 : Value).ownBlock ∧ k_ ≠ gb154 ∧ k_ ≠ gb160)) (by (with_reducible repeat (first | apply Kd.V_alloc | apply Kd.V_drewN | apply Kd.V_drew)); exact HL159_2.out) hg hat)
                                    have n6_ := Aside0.mk (blk_grown (g := gb160) (o := .cells #[.int .i64 ((rd_T81 t155 t158).f0), .int .i64 ((rd_T81 t155 t158).f1), .slice A159_2 ((rd_T81 t155 t158).f2).length c159_2] 81 (0, 0)) (by (with_reducible repeat (first | refine blk_drewN ?_ _ | refine blk_drew ?_ | refine blk_alloc ?_ _)); exact BK160.out) hg (Kd.R_ne HO185.out BK160.out (by decide)))
                                    have n7_ := Aside0.mk (Kd.N_afterv (ok := (fun k_ => some k_ ≠ (v137 : Value).ownBlock ∧ k_ ≠ gb154 ∧ k_ ≠ gb160)) (by (with_reducible repeat (first | apply Kd.N_alloc | apply Kd.N_drewN | apply Kd.N_drew)); exact HO163.out) hg hat)
                                    have n8_ := Aside0.mk (hb)
                                    have n9_ := Aside0.mk (ho)
                                    clear HO_3
                                    clear HO_4
                                    clear HL153_2
                                    clear BK154
                                    clear HO157
                                    clear HL159_2
                                    clear BK160
                                    clear HO163
                                    clear HB
                                    clear HO185
                                    have HO_3 := n0_
                                    have HO_4 := n1_
                                    have HL153_2 := n2_
                                    have BK154 := n3_
                                    have HO157 := n4_
                                    have HL159_2 := n5_
                                    have BK160 := n6_
                                    have HO163 := n7_
                                    have HB := n8_
                                    have HO188 := n9_
                                    clear n0_ n1_ n2_ n3_ n4_ n5_ n6_ n7_ n8_ n9_
                                    clear ho hb hg hat
                                    refine hK.out _ _ ⟨(blk_cell BK154.out 0).trans rfl, (blk_cell BK154.out 1).trans rfl, (blk_cell BK154.out 2).trans rfl, (blk_cell BK160.out 0).trans rfl, (blk_cell BK160.out 1).trans rfl, (blk_cell BK160.out 2).trans rfl⟩ (fun hHeld => ?_)
                                    clear hK K
                                    refine norm_ (a' := ?_) ?_ ?_
                                    rotate_left
                                    · show Act.put _ (some 82) _ = _
                                      simp only [Act.put, List.setIfInBounds_toArray, List.set_cons_zero, List.set_cons_succ, i64_w, i32_w]
                                      rfl
                                    refine pure_ (i := 7) (N := some 10) (v := ?_) (a' := ?_) #[true, true, true, true, true, true, true, true] rfl rfl (any_of HT_.out (by kernel_rfl)) (fun _ _ _ h => h) (Or.inl ⟨by rfl, ?_⟩) ?_ ?_
                                    rotate_left
                                    · intro w'
                                      go_simp
                                      with_reducible rfl
                                    rotate_left
                                    · simp only [Act.put, List.setIfInBounds_toArray, List.set_cons_zero, List.set_cons_succ, i64_w, i32_w]
                                      rfl
                                    refine done_ (done_of HT_.out (by kernel_rfl)) ?_
                                    try go_wp2
                                    go_loopg [11] k3 (fun kq v11 w' => ∃ (x3_4 : List Int) (x11_4 : Int), v11 = .int .i64 x11_4 ∧ Aside0 (spec_l3Lens.l2 kq x3_4 t161 ((rd_T81 x4_3 t152).f1) y186 x11_4 ((rd_T81 x4_3 t152).f0) ((rd_T81 x4_3 t152).f1) ((rd_T81 x4_3 t152).f2) ((rd_T81 t155 t158).f0) ((rd_T81 t155 t158).f1) ((rd_T81 t155 t158).f2) = some r) ∧ Aside0 (kq ≤ k3) ∧ Aside0 (Kd.R (Kd.int .i64) 3 w' w.heap.size (fun k_ => some k_ ≠ (v187 : Value).ownBlock) v137 x3_4) ∧ Aside0 (Kd.N k81 81 w' w.heap.size (fun k_ => some k_ ≠ (v137 : Value).ownBlock ∧ some k_ ≠ (v187 : Value).ownBlock ∧ k_ ≠ gb154 ∧ k_ ≠ gb160) v162 t161) ∧ Aside0 (Kd.R (Kd.int .i64) 3 w' w.heap.size (fun k_ => some k_ ≠ (v137 : Value).ownBlock) v187 y186) ∧ Aside0 (w'.heap[gb154]? = some (.cells #[.int .i64 ((rd_T81 x4_3 t152).f0), .int .i64 ((rd_T81 x4_3 t152).f1), (.slice A153_2 ((rd_T81 x4_3 t152).f2).length c153_2)] 81 (0, 0))) ∧ Aside0 (w'.heap[gb160]? = some (.cells #[.int .i64 ((rd_T81 t155 t158).f0), .int .i64 ((rd_T81 t155 t158).f1), (.slice A159_2 ((rd_T81 t155 t158).f2).length c159_2)] 81 (0, 0))) ∧ Aside0 (Below w.heap.size w w'))
                                    case atStart => exact ⟨(x3_3), (0), (by first | rfl | (simp; done) | (simp [*]; done)), H', ⟨Nat.le_refl _⟩, ⟨by (with_reducible repeat (first | apply Kd.R_alloc | apply Kd.R_drewN | apply Kd.R_drew)); exact Kd.R_mono HO_3.out (fun _ hk => hk.2)⟩, ⟨by (with_reducible repeat (first | apply Kd.N_alloc | apply Kd.N_drewN | apply Kd.N_drew)); exact Kd.N_mono HO163.out (by first | exact (fun _ hk => ⟨hk.1.1, ⟨hk.2, ⟨hk.1.2.1, hk.1.2.2⟩⟩⟩) | (intro k_ hk_; grind))⟩, ⟨by (with_reducible repeat (first | apply Kd.R_alloc | apply Kd.R_drewN | apply Kd.R_drew)); exact HO188.out⟩, ⟨by (with_reducible repeat (first | refine blk_drewN ?_ _ | refine blk_drew ?_ | refine blk_alloc ?_ _)); exact BK154.out⟩, ⟨by (with_reducible repeat (first | refine blk_drewN ?_ _ | refine blk_drew ?_ | refine blk_alloc ?_ _)); exact BK160.out⟩, ⟨by repeat (first | (with_reducible first | exact HB.out | apply below_alloc | apply pw_below_drewN | apply below_drew1 | refine below_set ?_ GE154.out | refine below_set ?_ GE160.out) | exact HB.out)⟩⟩
                                    case round =>
                                      clear H'
                                      try clear c1
                                      try clear p1
                                      try clear q1
                                      try clear hx1
                                      try clear c2
                                      try clear p2
                                      try clear q2
                                      try clear hx2
                                      try clear hf2
                                      try clear c3
                                      try clear c4
                                      try clear c5
                                      try clear p5
                                      try clear q5
                                      try clear hx5
                                      try clear hf5
                                      try clear c6
                                      try clear p6
                                      try clear c7
                                      try clear p14
                                      try clear q14
                                      try clear hx14
                                      try clear c15
                                      try clear p15
                                      try clear q15
                                      try clear hx15
                                      try clear p17
                                      try clear q17
                                      try clear hx17
                                      try clear c18
                                      try clear c18b0
                                      try clear c18b1
                                      try clear c19
                                      try clear c19b0
                                      try clear c19b1
                                      try clear c20
                                      try clear c20b0
                                      try clear c21
                                      try clear c21b0
                                      try clear p22
                                      try clear q22
                                      try clear hx22
                                      try clear hf22
                                      try clear c25
                                      try clear c25b0
                                      try clear c25b1
                                      try clear c27
                                      try clear c27b0
                                      try clear c28
                                      try clear c28b0
                                      try clear c31
                                      try clear c31b0
                                      try clear c32
                                      try clear c32b0
                                      try clear c34
                                      try clear c34b0
                                      try clear c35
                                      try clear c36
                                      try clear c44
                                      try clear c55
                                      try clear c55b0
                                      try clear c56
                                      try clear c56b0
                                      try clear c57
                                      try clear c57b0
                                      try clear c58
                                      try clear c58b0
                                      try clear p59
                                      try clear q59
                                      try clear hx59
                                      try clear hf59
                                      try clear c64
                                      try clear p64
                                      try clear c66
                                      try clear c70
                                      try clear c71
                                      try clear c79
                                      try clear hcz39_0
                                      try clear hcz39_1
                                      try clear hcz39_2
                                      try clear hcz45_0
                                      try clear hcz45_1
                                      try clear hcz45_2
                                      try clear hcz48_0
                                      try clear hcz48_1
                                      try clear hcz48_2
                                      try clear hcz49_0
                                      try clear hcz49_1
                                      try clear hcz49_2
                                      try clear hcz67_0
                                      try clear hcz67_1
                                      try clear hcz67_2
                                      try clear hcz68_0
                                      try clear hcz68_1
                                      try clear hcz68_2
                                      try clear hcz74_0
                                      try clear hcz74_1
                                      try clear hcz74_2
                                      try clear hcz80_0
                                      try clear hcz80_1
                                      try clear hcz80_2
                                      try clear hcz83_0
                                      try clear hcz83_1
                                      try clear hcz83_2
                                      try clear hcz84_0
                                      try clear hcz84_1
                                      try clear hcz84_2
                                      try clear hfz39_0
                                      try clear hfz39_1
                                      try clear hfz39_2
                                      try clear hfz45_0
                                      try clear hfz45_1
                                      try clear hfz45_2
                                      try clear hfz48_0
                                      try clear hfz48_1
                                      try clear hfz48_2
                                      try clear hfz49_0
                                      try clear hfz49_1
                                      try clear hfz49_2
                                      try clear hfz67_0
                                      try clear hfz67_1
                                      try clear hfz67_2
                                      try clear hfz68_0
                                      try clear hfz68_1
                                      try clear hfz68_2
                                      try clear hfz74_0
                                      try clear hfz74_1
                                      try clear hfz74_2
                                      try clear hfz80_0
                                      try clear hfz80_1
                                      try clear hfz80_2
                                      try clear hfz83_0
                                      try clear hfz83_1
                                      try clear hfz83_2
                                      try clear hfz84_0
                                      try clear hfz84_1
                                      try clear hfz84_2
                                      try clear hx142_0
                                      try clear hx143_0
                                      try clear hx150_0
                                      try clear hx150_1
                                      try clear hx150_2
                                      try clear hx153_0
                                      try clear hx153_1
                                      try clear hx153_2
                                      try clear hx159_0
                                      try clear hx159_1
                                      try clear hx159_2
                                      try clear hx173_0
                                      try clear hx174_0
                                      try clear hx175_0
                                      try clear hx22_0
                                      try clear hx59_0
                                      try clear p1
                                      try clear p14
                                      try clear p142
                                      try clear p143
                                      try clear p15
                                      try clear p150
                                      try clear p153
                                      try clear p159
                                      try clear p173
                                      try clear p174
                                      try clear p175
                                      try clear p2
                                      try clear p22
                                      try clear p59
                                      try clear p6
                                      try clear q1
                                      try clear q14
                                      try clear q142
                                      try clear q143
                                      try clear q15
                                      try clear q150
                                      try clear q153
                                      try clear q159
                                      try clear q173
                                      try clear q174
                                      try clear q175
                                      try clear q2
                                      try clear q22
                                      try clear q59
                                      obtain ⟨x3_4, x11_4, rfl, HA, HK4, HO_3, HO_4, HO_10, BK154, BK160, HB⟩ := hrel
                                      cases gk with
                                      | zero => exact absurd HA.out (by simp [spec_l3Lens.l2])
                                      | succ k4 =>
                                        have H := HA.out
                                        clear HA
                                        simp only [spec_l3Lens.l2] at H
                                        by_cases c90 : x11_4 < (y186.length : Int)
                                        · rw [if_pos c90] at H
                                          have c90b0 : decide (x11_4 < (y186.length : Int)) = true := decide_eq_true c90
                                          clear c90
                                          by_cases c91 : 0 ≤ x11_4
                                          · rw [if_pos c91] at H
                                            have c91b0 : decide (0 ≤ x11_4) = true := decide_eq_true c91
                                            clear c91
                                            by_cases c92 : 0 ≤ (rd y186 x11_4)
                                            · rw [if_pos c92] at H
                                              have c92b0 : decide (0 ≤ (rd y186 x11_4)) = true := decide_eq_true c92
                                              clear c92
                                              by_cases c93 : (rd y186 x11_4) < (x3_4.length : Int)
                                              · rw [if_pos c93] at H
                                                have c93b0 : decide ((rd y186 x11_4) < (x3_4.length : Int)) = true := decide_eq_true c93
                                                clear c93
                                                obtain ⟨y176, hy176⟩ : ∃ y_ : List Int, y_ = (x3_4.set ((rd y186 x11_4) : Int).toNat (wrap64 ((rd x3_4 (rd y186 x11_4)) + 1))) := ⟨_, rfl⟩
                                                replace H : (spec_l3Lens.l2 k4 y176 t161 ((rd_T81 x4_3 t152).f1) y186 (wrap64 (x11_4 + 1)) ((rd_T81 x4_3 t152).f0) ((rd_T81 x4_3 t152).f1) ((rd_T81 x4_3 t152).f2) ((rd_T81 t155 t158).f0) ((rd_T81 t155 t158).f1) ((rd_T81 t155 t158).f2)) = some r := by first | (rw [hy176]; with_reducible exact H) | (have H2_ := (Option.bind_some _ _).symm.trans H; rw [hy176]; with_reducible exact H2_) | (have H2_ := (Option.bind_some _ _).symm.trans H; with_reducible exact H2_) | with_reducible exact H | (rw [hy176]; exact H) | exact H
                                                have Ny176 := Aside0.mk hy176
                                                clear hy176
                                                have H' := Aside0.mk H
                                                clear H
                                                obtain ⟨Ao95, co95, eo95⟩ := Kd.R_slice HO_10.out
                                                subst eo95
                                                try go_wp2
                                                have n0_ := Aside0.mk (Kd.R_drew HO_3.out)
                                                have n1_ := Aside0.mk (Kd.N_drew HO_4.out)
                                                have n2_ := Aside0.mk (Kd.R_drew HO_10.out)
                                                have n3_ := Aside0.mk (blk_drew BK154.out)
                                                have n4_ := Aside0.mk (blk_drew BK160.out)
                                                have n5_ := Aside0.mk (below_drew1 HB.out)
                                                clear HO_3
                                                clear HO_4
                                                clear HO_10
                                                clear BK154
                                                clear BK160
                                                clear HB
                                                have HO_3 := n0_
                                                have HO_4 := n1_
                                                have HO_10 := n2_
                                                have BK154 := n3_
                                                have BK160 := n4_
                                                have HB := n5_
                                                clear n0_ n1_ n2_ n3_ n4_ n5_
                                                have p173 : 0 ≤ (x11_4 : Int) := of_decide_eq_true (by first | (with_reducible assumption) | assumption)
                                                have q173 : x11_4 < (y186.length : Int) := of_decide_eq_true (by first | (with_reducible assumption) | assumption)
                                                obtain ⟨ad173, e173, hx173_0⟩ := Kd.at_int (Kd.R_reads' HO_10.out).2.2 x11_4 p173 q173
                                                cases e173
                                                replace p173 := eq_true p173
                                                replace q173 := eq_true q173
                                                have p174 : 0 ≤ (x11_4 : Int) := of_decide_eq_true (by first | (with_reducible assumption) | assumption)
                                                have q174 : x11_4 < (y186.length : Int) := of_decide_eq_true (by first | (with_reducible assumption) | assumption)
                                                obtain ⟨ad174, e174, hx174_0⟩ := Kd.at_int (Kd.R_reads' HO_10.out).2.2 x11_4 p174 q174
                                                obtain rfl : ad173 = ad174 := (by injection e174)
                                                replace p174 := eq_true p174
                                                replace q174 := eq_true q174
                                                obtain ⟨Ao97, co97, eo97⟩ := Kd.R_slice HO_3.out
                                                (first | subst eo97 | (injection eo97 with f1_ f2_ f3_; have f4_ := f1_.symm; have f5_ := f3_.symm; clear f1_ f2_ f3_; subst f4_; subst f5_))
                                                have p175 : 0 ≤ ((rd y186 x11_4) : Int) := of_decide_eq_true (by first | (with_reducible assumption) | assumption)
                                                have q175 : (rd y186 x11_4) < (x3_4.length : Int) := of_decide_eq_true (by first | (with_reducible assumption) | assumption)
                                                obtain ⟨ad175, e175, hx175_0⟩ := Kd.at_int (Kd.R_reads' HO_3.out).2.2 (rd y186 x11_4) p175 q175
                                                cases e175
                                                replace p175 := eq_true p175
                                                replace q175 := eq_true q175
                                                have p94 : 0 ≤ ((rd y186 x11_4) : Int) := of_decide_eq_true (by first | (with_reducible assumption) | assumption)
                                                have q94 : ((rd y186 x11_4) : Int) < ((x3_4.length : Int) : Int) := of_decide_eq_true (by first | (with_reducible assumption) | assumption)
                                                obtain ⟨go94, co94, eo94, gb94, gl94, cl94, HG94⟩ := Kd.R_form HO_3.out (by omega)
                                                (first | cases eo94 | (injection eo94 with ea_ en_ ec_; (first | subst ea_ | (injection ea_ with ea_; subst ea_)); subst ec_; clear en_))
                                                have GB94 := Aside0.mk gb94
                                                have GG94 := Aside0.mk HG94
                                                clear gb94 gl94 HG94
                                                (first | simp only [add_plain] at hx175_0 | skip)
                                                obtain ⟨hx94_0, hf94_0⟩ := Kd.R_celln 0 HO_3.out ((rd y186 x11_4) : Int) p94 q94
                                                replace p94 := eq_true p94
                                                replace q94 := eq_true q94
                                                have HP98 := Kd.R_putn HO_3.out ((rd y186 x11_4) : Int) (wrap64 ((rd x3_4 (rd y186 x11_4)) + 1))
                                                rw [← Ny176.out] at HP98
                                                have HQ98 := Aside0.mk HP98
                                                clear HP98
                                                refine start_ (n := 15) (S := fun w' => w'.cell? (ad173.add (x11_4).toNat) = some (.int .i64 (rd y186 x11_4)) ∧ w'.cell? (ad173.add (x11_4).toNat) = some (.int .i64 (rd y186 x11_4)) ∧ w'.cell? ⟨go94, ((rd y186 x11_4)).toNat, none⟩ = some (.int .i64 (rd x3_4 (rd y186 x11_4)))) (ds := [14]) #[false, false, false, false, false, false, false, false, false, false, false, false, false, false, false] (by kernel_rfl) rfl rfl ⟨hx173_0, hx174_0, hx175_0⟩ (fun hHeld => ?_); refine with_tabW spec_l3Lens.tab24 spec_l3Lens.bits24 (fun HT_ HW_ => ?_)
                                                generalize wr.drew = w96 at HO_3 HO_4 HO_10 BK154 BK160 HB GG94 HQ98 hf94_0 hx173_0 hx174_0 hx175_0 hx94_0 hHeld ⊢
                                                refine pure_ (i := 0) (N := some 89) (v := ?_) (a' := ?_) #[true, false, false, false, false, false, false, false, false, false, false, false, false, false, false] rfl rfl (any_of HT_.out (by kernel_rfl)) (fun _ _ _ h => h) (Or.inl ⟨by rfl, ?_⟩) ?_ ?_
                                                rotate_left
                                                · intro w'
                                                  go_simp
                                                  with_reducible rfl
                                                rotate_left
                                                · simp only [Act.put, List.setIfInBounds_toArray, List.set_cons_zero, List.set_cons_succ, i64_w, i32_w]
                                                  rfl
                                                refine pure_ (i := 1) (N := some 90) (v := ?_) (a' := ?_) #[true, true, false, false, false, false, false, false, false, false, false, false, false, false, false] rfl rfl (any_of HT_.out (by kernel_rfl)) (fun _ _ _ h => h) (Or.inl ⟨by rfl, ?_⟩) ?_ ?_
                                                rotate_left
                                                · intro w'
                                                  go_simp
                                                  with_reducible rfl
                                                rotate_left
                                                · simp only [Act.put, List.setIfInBounds_toArray, List.set_cons_zero, List.set_cons_succ, i64_w, i32_w]
                                                  rfl
                                                refine pure_ (i := 2) (N := some 91) (v := ?_) (a' := ?_) #[true, true, true, false, false, false, false, false, false, false, false, false, false, false, false] rfl rfl (any_of HT_.out (by kernel_rfl)) (fun _ _ _ h => h) (Or.inl ⟨by rfl, ?_⟩) ?_ ?_
                                                rotate_left
                                                · intro w'
                                                  go_simp
                                                  with_reducible rfl
                                                rotate_left
                                                · simp only [Act.put, List.setIfInBounds_toArray, List.set_cons_zero, List.set_cons_succ, i64_w, i32_w]
                                                  rfl
                                                refine pure_ (i := 3) (N := some 92) (v := ?_) (a' := ?_) #[true, true, true, true, false, false, false, false, false, false, false, false, false, false, false] rfl rfl (any_of HT_.out (by kernel_rfl)) (fun _ _ _ h => h) (Or.inl ⟨by rfl, ?_⟩) ?_ ?_
                                                rotate_left
                                                · intro w'
                                                  go_simp
                                                  with_reducible rfl
                                                rotate_left
                                                · simp only [Act.put, List.setIfInBounds_toArray, List.set_cons_zero, List.set_cons_succ, i64_w, i32_w]
                                                  rfl
                                                refine pure_ (i := 5) (N := some 94) (v := ?_) (a' := ?_) #[true, true, true, true, false, true, false, false, false, false, false, false, false, false, false] rfl rfl (any_of HT_.out (by kernel_rfl)) (fun _ _ _ h => h) (Or.inl ⟨by rfl, ?_⟩) ?_ ?_
                                                rotate_left
                                                · intro w'
                                                  go_simp
                                                  with_reducible rfl
                                                rotate_left
                                                · simp only [Act.put, List.setIfInBounds_toArray, List.set_cons_zero, List.set_cons_succ, i64_w, i32_w]
                                                  rfl
                                                refine pure_ (i := 6) (N := some 95) (v := ?_) (a' := ?_) #[true, true, true, true, false, true, true, false, false, false, false, false, false, false, false] rfl rfl (any_of HT_.out (by kernel_rfl)) (fun _ _ _ h => h) (Or.inl ⟨by rfl, ?_⟩) ?_ ?_
                                                rotate_left
                                                · intro w'
                                                  go_simp
                                                  with_reducible rfl
                                                rotate_left
                                                · simp only [Act.put, List.setIfInBounds_toArray, List.set_cons_zero, List.set_cons_succ, i64_w, i32_w]
                                                  rfl
                                                refine pure_ (i := 7) (N := some 96) (v := ?_) (a' := ?_) #[true, true, true, true, false, true, true, true, false, false, false, false, false, false, false] rfl rfl (any_of HT_.out (by kernel_rfl)) (fun _ _ _ h => h) (Or.inl ⟨by rfl, ?_⟩) ?_ ?_
                                                rotate_left
                                                · intro w'
                                                  go_simp
                                                  with_reducible rfl
                                                rotate_left
                                                · simp only [Act.put, List.setIfInBounds_toArray, List.set_cons_zero, List.set_cons_succ, i64_w, i32_w]
                                                  rfl
                                                refine pure_ (i := 8) (N := some 97) (v := ?_) (a' := ?_) #[true, true, true, true, false, true, true, true, true, false, false, false, false, false, false] rfl rfl (any_of HT_.out (by kernel_rfl)) (fun _ _ _ h => h) (Or.inl ⟨by rfl, ?_⟩) ?_ ?_
                                                rotate_left
                                                · intro w'
                                                  go_simp
                                                  with_reducible rfl
                                                rotate_left
                                                · simp only [Act.put, List.setIfInBounds_toArray, List.set_cons_zero, List.set_cons_succ, i64_w, i32_w]
                                                  rfl
                                                refine take_ (i := 4) (N := some 93) (v := ?_) (a' := ?_) #[true, true, true, true, true, true, true, true, true, false, false, false, false, false, false] rfl rfl (take_ofW HT_.out HW_.out (by kernel_rfl)) (fun _ _ _ h => h) (Or.inl ⟨by rfl, ?_⟩) hHeld ?_ ?_
                                                rotate_left
                                                · rintro w' ⟨s0, s1, s2⟩
                                                  go_simp
                                                  with_reducible rfl
                                                rotate_left
                                                · simp only [Act.put, List.setIfInBounds_toArray, List.set_cons_zero, List.set_cons_succ, i64_w, i32_w]
                                                  rfl
                                                refine take_ (i := 9) (N := some 98) (v := ?_) (a' := ?_) #[true, true, true, true, true, true, true, true, true, true, false, false, false, false, false] rfl rfl (take_ofW HT_.out HW_.out (by kernel_rfl)) (fun _ _ _ h => h) (Or.inl ⟨by rfl, ?_⟩) hHeld ?_ ?_
                                                rotate_left
                                                · rintro w' ⟨s0, s1, s2⟩
                                                  go_simp
                                                  with_reducible rfl
                                                rotate_left
                                                · simp only [Act.put, List.setIfInBounds_toArray, List.set_cons_zero, List.set_cons_succ, i64_w, i32_w]
                                                  rfl
                                                refine pure_ (i := 10) (N := some 99) (v := ?_) (a' := ?_) #[true, true, true, true, true, true, true, true, true, true, true, false, false, false, false] rfl rfl (any_of HT_.out (by kernel_rfl)) (fun _ _ _ h => h) (Or.inl ⟨by rfl, ?_⟩) ?_ ?_
                                                rotate_left
                                                · intro w'
                                                  go_simp
                                                  with_reducible rfl
                                                rotate_left
                                                · simp only [Act.put, List.setIfInBounds_toArray, List.set_cons_zero, List.set_cons_succ, i64_w, i32_w]
                                                  rfl
                                                refine take_ (i := 11) (N := some 100) (v := ?_) (a' := ?_) #[true, true, true, true, true, true, true, true, true, true, true, true, false, false, false] rfl rfl (take_ofW HT_.out HW_.out (by kernel_rfl)) (fun _ _ _ h => h) (Or.inl ⟨by rfl, ?_⟩) hHeld ?_ ?_
                                                rotate_left
                                                · rintro w' ⟨s0, s1, s2⟩
                                                  go_simp
                                                  with_reducible rfl
                                                rotate_left
                                                · simp only [Act.put, List.setIfInBounds_toArray, List.set_cons_zero, List.set_cons_succ, i64_w, i32_w]
                                                  rfl
                                                refine pure_ (i := 12) (N := some 101) (v := ?_) (a' := ?_) #[true, true, true, true, true, true, true, true, true, true, true, true, true, false, false] rfl rfl (any_of HT_.out (by kernel_rfl)) (fun _ _ _ h => h) (Or.inl ⟨by rfl, ?_⟩) ?_ ?_
                                                rotate_left
                                                · intro w'
                                                  go_simp
                                                  with_reducible rfl
                                                rotate_left
                                                · simp only [Act.put, List.setIfInBounds_toArray, List.set_cons_zero, List.set_cons_succ, i64_w, i32_w]
                                                  rfl
                                                refine pure_ (i := 13) (N := some 102) (v := ?_) (a' := ?_) #[true, true, true, true, true, true, true, true, true, true, true, true, true, true, false] rfl rfl (any_of HT_.out (by kernel_rfl)) (fun _ _ _ h => h) (Or.inl ⟨by rfl, ?_⟩) ?_ ?_
                                                rotate_left
                                                · intro w'
                                                  go_simp
                                                  with_reducible rfl
                                                rotate_left
                                                · simp only [Act.put, List.setIfInBounds_toArray, List.set_cons_zero, List.set_cons_succ, i64_w, i32_w]
                                                  rfl
                                                refine last_ (i := 14) (N := none) #[true, true, true, true, true, true, true, true, true, true, true, true, true, true, true] rfl rfl (one_of HT_.out (by kernel_rfl)) (by decide) (fun K hK => ?_)
                                                refine skip_ (w1 := ?_) (by rfl) rfl ?_ ?_
                                                rotate_left
                                                · go_simp
                                                  rfl
                                                refine hK.out _ _ ?_
                                                clear hK K
                                                refine done_ (done_of HT_.out (by kernel_rfl)) ?_
                                                try go_wp2
                                                go_roundg k4
                                                case measure => have := HK1.out; have := HJ15.out; have := HK3.out; have := HK4.out; omega
                                                case rel => exact ⟨(y176), (wrap64 (x11_4 + 1)), (by first | rfl | (simp; done) | (simp [*]; done)), H', ⟨by have := HK1.out; have := HJ15.out; have := HK3.out; have := HK4.out; omega⟩, ⟨by (with_reducible repeat (first | apply Kd.R_alloc | apply Kd.R_drewN | apply Kd.R_drew)); exact HQ98.out⟩, ⟨by (with_reducible repeat (first | apply Kd.N_alloc | apply Kd.N_drewN | apply Kd.N_drew)); exact Kd.N_mono (Kd.N_far (p := ⟨go94, ((rd y186 x11_4) : Int).toNat, none⟩) (Kd.N_mono HO_4.out (fun k_ hk => (⟨hk, fun e_ => hk.1 (by rw [e_]; rfl)⟩ : _ ∧ k_ ≠ go94))) (fun _ hk => hk.2) (.int .i64 (wrap64 ((rd x3_4 (rd y186 x11_4)) + 1)))) (by first | exact (fun _ hk => ⟨hk.1.1, ⟨hk.1.2.1, ⟨hk.1.2.2.1, hk.1.2.2.2⟩⟩⟩) | (intro k_ hk_; grind))⟩, ⟨by (with_reducible repeat (first | apply Kd.R_alloc | apply Kd.R_drewN | apply Kd.R_drew)); exact Kd.R_mono (Kd.R_far (p := ⟨go94, ((rd y186 x11_4) : Int).toNat, none⟩) (Kd.R_mono HO_10.out (fun k_ hk => (⟨hk, fun e_ => hk (by rw [e_]; rfl)⟩ : _ ∧ k_ ≠ go94))) (fun _ hk => hk.2) (.int .i64 (wrap64 ((rd x3_4 (rd y186 x11_4)) + 1)))) (fun _ hk => hk.1)⟩, ⟨by (with_reducible repeat (first | refine blk_drewN ?_ _ | refine blk_drew ?_ | refine blk_alloc ?_ _)); refine blk_far ?_ (by have h_ := Kd.R_ne HO_3.out BK154.out (by decide); intro e_; exact h_ (by rw [e_]; rfl)) _; (with_reducible repeat (first | refine blk_drewN ?_ _ | refine blk_drew ?_ | refine blk_alloc ?_ _)); exact BK154.out⟩, ⟨by (with_reducible repeat (first | refine blk_drewN ?_ _ | refine blk_drew ?_ | refine blk_alloc ?_ _)); refine blk_far ?_ (by have h_ := Kd.R_ne HO_3.out BK160.out (by decide); intro e_; exact h_ (by rw [e_]; rfl)) _; (with_reducible repeat (first | refine blk_drewN ?_ _ | refine blk_drew ?_ | refine blk_alloc ?_ _)); exact BK160.out⟩, ⟨by repeat (first | (with_reducible first | exact HB.out | apply below_alloc | apply pw_below_drewN | apply below_drew1 | refine below_set ?_ GB94.out | refine below_set ?_ GE154.out | refine below_set ?_ GE160.out) | exact HB.out)⟩⟩
                                              · rw [if_neg c93] at H
                                                exact absurd H (by simp)
                                            · rw [if_neg c92] at H
                                              exact absurd H (by simp)
                                          · rw [if_neg c91] at H
                                            exact absurd H (by simp)
                                        · rw [if_neg c90] at H
                                          have c90b0 : decide (x11_4 < (y186.length : Int)) = false := decide_eq_false c90
                                          clear c90
                                          by_cases c99 : t161.length < 3518437208883
                                          · rw [if_pos c99] at H
                                            have LMc99 := Aside0.mk c99
                                            clear c99
                                            obtain ⟨y177, hy177⟩ : ∃ y_ : List (S81), y_ = (t161 ++ [(⟨wrap64 (((rd_T81 x4_3 t152).f0) + ((rd_T81 t155 t158).f0)), ((rd_T81 x4_3 t152).f1), y186⟩ : S81)]) := ⟨_, rfl⟩
                                            replace H : (spec_l3Lens.l1 k4 x3_4 y177) = some r := by first | (rw [hy177]; with_reducible exact H) | (have H2_ := (Option.bind_some _ _).symm.trans H; rw [hy177]; with_reducible exact H2_) | (have H2_ := (Option.bind_some _ _).symm.trans H; with_reducible exact H2_) | with_reducible exact H | (rw [hy177]; exact H) | exact H
                                            have Ny177 := Aside0.mk hy177
                                            clear hy177
                                            have H' := Aside0.mk H
                                            clear H
                                            obtain ⟨Ao100, co100, eo100⟩ := Kd.R_slice HO_10.out
                                            subst eo100
                                            have hnb101 := NB154_160.out
                                            have hnc101 := NB160_154.out
                                            have hcz102_0 : wr.cell? ⟨gb154, 0, none⟩ = some (.int .i64 ((rd_T81 x4_3 t152).f0)) := (blk_cell BK154.out 0).trans rfl
                                            have hcz102_1 : wr.cell? ⟨gb154, 1, none⟩ = some (.int .i64 ((rd_T81 x4_3 t152).f1)) := (blk_cell BK154.out 1).trans rfl
                                            have hcz102_2 : wr.cell? ⟨gb154, 2, none⟩ = some (.slice A153_2 ((rd_T81 x4_3 t152).f2).length c153_2) := (blk_cell BK154.out 2).trans rfl
                                            have hfz102_0 := blk_frozen BK154.out 0
                                            have hfz102_1 := blk_frozen BK154.out 1
                                            have hfz102_2 := blk_frozen BK154.out 2
                                            have hcz103_0 : wr.cell? ⟨gb160, 0, none⟩ = some (.int .i64 ((rd_T81 t155 t158).f0)) := (blk_cell BK160.out 0).trans rfl
                                            have hcz103_1 : wr.cell? ⟨gb160, 1, none⟩ = some (.int .i64 ((rd_T81 t155 t158).f1)) := (blk_cell BK160.out 1).trans rfl
                                            have hcz103_2 : wr.cell? ⟨gb160, 2, none⟩ = some (.slice A159_2 ((rd_T81 t155 t158).f2).length c159_2) := (blk_cell BK160.out 2).trans rfl
                                            have hfz103_0 := blk_frozen BK160.out 0
                                            have hfz103_1 := blk_frozen BK160.out 1
                                            have hfz103_2 := blk_frozen BK160.out 2
                                            go_wp2_with (first | ((with_reducible refine gate_builtin (b := .append) (xs := #[.tmp 103, .tmp 112]) rfl ?_); at_builtin; refine Kd.N_append k81 (w0 := w) w.heap.size rfl (.tmp 103) (.tmp 112) 79 81 (.agg #[(.int .i64 0), (.int .i64 0), (.slice none 0 0)]) 40 rfl Try.underlying79 info81 rfl (by decide) (by omega) v162 t161 (⟨wrap64 (((rd_T81 x4_3 t152).f0) + ((rd_T81 t155 t158).f0)), ((rd_T81 x4_3 t152).f1), y186⟩ : S81) [.int .i64 (wrap64 (((rd_T81 x4_3 t152).f0) + ((rd_T81 t155 t158).f0))), .int .i64 ((rd_T81 x4_3 t152).f1), .slice Ao100 y186.length co100] (fun k_ => some k_ ≠ (v137 : Value).ownBlock ∧ k_ ≠ gb154 ∧ k_ ≠ gb160) (fun k_ => ((fun k_ => some k_ ≠ (v137 : Value).ownBlock ∧ k_ ≠ gb154 ∧ k_ ≠ gb160)) k_ ∧ some k_ ≠ (v162 : Value).ownBlock) rfl rfl ?aP (fun _ hk => hk) ?aF ?aO ?aB ?aS ?aL ?_; (case aP => exact (k81_mkF _ _ (⟨wrap64 (((rd_T81 x4_3 t152).f0) + ((rd_T81 t155 t158).f0)), ((rd_T81 x4_3 t152).f1), y186⟩ : S81) (Kd.R_reads' (Kd.R_mono (ok' := (fun k_ => ((fun k_ => some k_ ≠ (v137 : Value).ownBlock ∧ k_ ≠ gb154 ∧ k_ ≠ gb160)) k_ ∧ some k_ ≠ (v162 : Value).ownBlock)) (Kd.R_types (Kd.R_types (Kd.R_apart' (HO_10.out) (Kd.N_typed HO_4.out) (by decide)) BK154.out (by decide)) BK160.out (by decide)) (by first | exact (fun k_ hk => ⟨⟨hk.1.1.1, ⟨hk.1.2, hk.2⟩⟩, hk.1.1.2⟩) | (intro k_ hk_; grind)))).2.1 (Kd.R_F (Kd.R_mono (ok' := (fun k_ => ((fun k_ => some k_ ≠ (v137 : Value).ownBlock ∧ k_ ≠ gb154 ∧ k_ ≠ gb160)) k_ ∧ some k_ ≠ (v162 : Value).ownBlock)) (Kd.R_types (Kd.R_types (Kd.R_apart' (HO_10.out) (Kd.N_typed HO_4.out) (by decide)) BK154.out (by decide)) BK160.out (by decide)) (by first | exact (fun k_ hk => ⟨⟨hk.1.1.1, ⟨hk.1.2, hk.2⟩⟩, hk.1.1.2⟩) | (intro k_ hk_; grind)))))); (case aB => exact (by repeat (first | (with_reducible first | exact HB.out | apply below_alloc | apply pw_below_drewN | apply below_drew1 | refine below_set ?_ GE154.out | refine below_set ?_ GE160.out) | exact HB.out))); (case aF => exact (fun k_ hk => ⟨Kd.fresh' (Kd.R_lt (by (with_reducible repeat (first | apply Kd.R_alloc | apply Kd.R_drewN | apply Kd.R_drew)); exact HO_3.out)) k_ hk, Kd.freshB (g := gb154) (o := .cells #[.int .i64 ((rd_T81 x4_3 t152).f0), .int .i64 ((rd_T81 x4_3 t152).f1), .slice A153_2 ((rd_T81 x4_3 t152).f2).length c153_2] 81 (0, 0)) (by (with_reducible repeat (first | refine blk_drewN ?_ _ | refine blk_drew ?_ | refine blk_alloc ?_ _)); exact BK154.out) k_ hk, Kd.freshB (g := gb160) (o := .cells #[.int .i64 ((rd_T81 t155 t158).f0), .int .i64 ((rd_T81 t155 t158).f1), .slice A159_2 ((rd_T81 t155 t158).f2).length c159_2] 81 (0, 0)) (by (with_reducible repeat (first | refine blk_drewN ?_ _ | refine blk_drew ?_ | refine blk_alloc ?_ _)); exact BK160.out) k_ hk⟩)); (case aO => exact (by (with_reducible repeat (first | apply Kd.N_alloc | apply Kd.N_drewN | apply Kd.N_drew)); exact Kd.N_mono HO_4.out (by first | exact (fun _ hk => ⟨hk.1, ⟨hk.2.2.1, hk.2.2.2⟩⟩) | (intro k_ hk_; grind)))); (case aS => exact (below_size (by repeat (first | (with_reducible first | exact HB.out | apply below_alloc | apply pw_below_drewN | apply below_drew1 | refine below_set ?_ GE154.out | refine below_set ?_ GE160.out) | exact HB.out)))); (case aL => have := LMc99.out; omega); intro v178 w104 ho hb hg hat; rw [← Ny177.out] at ho; have n0_ := Aside0.mk (Kd.R_over' (by (with_reducible repeat (first | apply Kd.R_alloc | apply Kd.R_drewN | apply Kd.R_drew)); exact HO_3.out) (Kd.N_typed (by (with_reducible repeat (first | apply Kd.N_alloc | apply Kd.N_drewN | apply Kd.N_drew)); exact HO_4.out)) (by decide) hg); have n1_ := Aside0.mk (blk_grown (g := gb154) (o := .cells #[.int .i64 ((rd_T81 x4_3 t152).f0), .int .i64 ((rd_T81 x4_3 t152).f1), .slice A153_2 ((rd_T81 x4_3 t152).f2).length c153_2] 81 (0, 0)) (by (with_reducible repeat (first | refine blk_drewN ?_ _ | refine blk_drew ?_ | refine blk_alloc ?_ _)); exact BK154.out) hg (Kd.N_away HO_4.out (fun _ hk => hk.2.2.1))); have n2_ := Aside0.mk (blk_grown (g := gb160) (o := .cells #[.int .i64 ((rd_T81 t155 t158).f0), .int .i64 ((rd_T81 t155 t158).f1), .slice A159_2 ((rd_T81 t155 t158).f2).length c159_2] 81 (0, 0)) (by (with_reducible repeat (first | refine blk_drewN ?_ _ | refine blk_drew ?_ | refine blk_alloc ?_ _)); exact BK160.out) hg (Kd.N_away HO_4.out (fun _ hk => hk.2.2.2))); have n3_ := Aside0.mk (hb); have n4_ := Aside0.mk (ho); clear HO_3; clear BK154; clear BK160; clear HB; clear HO_4; clear HO_10; have HO_3 := n0_; have BK154 := n1_; have BK160 := n2_; have HB := n3_; have HO179 := n4_; clear n0_ n1_ n2_ n3_ n4_; clear ho hb hg hat))
                                            go_roundg k4
                                            case measure => have := HK1.out; have := HJ15.out; have := HK3.out; have := HK4.out; omega
                                            case rel => exact ⟨(x3_4), (y177), H', ⟨by have := HK1.out; have := HJ15.out; have := HK3.out; have := HK4.out; omega⟩, ⟨by (with_reducible repeat (first | apply Kd.R_alloc | apply Kd.R_drewN | apply Kd.R_drew)); exact Kd.R_mono HO_3.out (fun _ hk => trivial)⟩, ⟨by (with_reducible repeat (first | apply Kd.N_alloc | apply Kd.N_drewN | apply Kd.N_drew)); exact Kd.N_mono HO179.out (fun _ hk => hk.1)⟩, ⟨by repeat (first | (with_reducible first | exact HB.out | apply below_alloc | apply pw_below_drewN | apply below_drew1 | refine below_set ?_ GE154.out | refine below_set ?_ GE160.out) | exact HB.out)⟩⟩
                                          · rw [if_neg c99] at H
                                            exact absurd H (by simp)
                                  · rw [if_neg c71] at H
                                    exact absurd H (by simp)
                                · rw [if_neg c70] at H
                                  exact absurd H (by simp)
                            · rw [if_neg c32] at H
                              exact absurd H (by simp)
                          · rw [if_neg c31] at H
                            exact absurd H (by simp)
                        · rw [if_neg c28] at H
                          exact absurd H (by simp)
                      · rw [if_neg c27] at H
                        exact absurd H (by simp)
                    · rw [if_neg c25] at H
                      have c25b0 : decide (1 < (x4_3.length : Int)) = false := decide_eq_false c25
                      have c25b1 : decide (1 < x4_3.length) = false := decide_eq_false (by omega)
                      clear c25
                      obtain rfl := Option.some.inj H
                      obtain ⟨Ao105, co105, eo105⟩ := Kd.N_slice HO_4.out
                      subst eo105
                      go_wp2
                      go_ret
                      exact ⟨_, by first | rfl | (simp [errW_none, errW_some] <;> rfl) | (simp [*, errW_none, errW_some] <;> rfl), by (with_reducible repeat (first | apply Kd.R_alloc | apply Kd.R_drewN | apply Kd.R_drew)); exact HO_3.out, by repeat (first | (with_reducible first | exact HB.out | apply below_alloc | apply pw_below_drewN | apply below_drew1) | exact HB.out)⟩
    · rw [if_neg c3] at H
      exact absurd H (by simp)
  · rw [if_neg c2] at H
    exact absurd H (by simp)

end Go.Proofs.Ytcbehpemhkfieaa.PAll
