-- Written by a program of this session, over the kit's print. Not trusted: Lean checks it.
import Derived.Test.YtdenepapeoiiiaaPAllx0
import Derived.Test.YtdenepapeoiiiaaPAllx8
namespace Go.Proofs.Ytdenepapeoiiiaa.PAll
open Go.RowKit Go.Proofs.YtdenepapeoiiiaaW.PrintWords Go.Proofs.YtdenepapeoiiiaaW.PrintLast Go.Proofs.YtdenepapeoiiiaaW.PrintMore
attribute [local go_sem] max2_int min2_int max_two min_two max_three min_three max_four min_four   -- for this text's walks alone
set_option linter.unusedVariables false
set_option linter.unusedSimpArgs false

/-! ### impl_depths: function 27 -/
mutual
def impl_depths.l0 : Nat → List Int → List (S41) → List Int → Int → Int → Option (List Int)
  | 0, _, _, _, _, _ => none
  | k + 1, x3, x4, x18, x19, x20 => if x20 < x19 then (if 0 ≤ x20 then (if x20 < (x18.length : Int) then (if (rd x18 x20) > 0 then (if x4.length < 4398046511104 then (impl_depths.l0 k x3 (x4 ++ [(⟨rd x18 x20, (([x20] : List Int))⟩ : S41)]) x18 x19 (wrap64 (x20 + 1))) else (none)) else (impl_depths.l0 k x3 x4 x18 x19 (wrap64 (x20 + 1)))) else (none)) else (none)) else (if (x4.length : Int) = 1 then (if 0 < (x4.length : Int) then (if 0 < (((rd_T41 x4 0).f1).length : Int) then (if 0 ≤ (rd ((rd_T41 x4 0).f1) 0) then (if (rd ((rd_T41 x4 0).f1) 0) < (x3.length : Int) then (some (x3.set ((rd ((rd_T41 x4 0).f1) 0) : Int).toNat 1)) else (none)) else (none)) else (none)) else (none)) else (impl_depths.l1 k x3 x4))
def impl_depths.l1 : Nat → List Int → List (S41) → Option (List Int)
  | 0, _, _ => none
  | k + 1, x3, x4 => if (x4.length : Int) > 1 then ((impl_least.f k x4).bind fun bt265 => ((impl_least.f k bt265.2.2).bind fun bt273 => ((some (([] : List Int) : List Int)).bind fun y281 => (if y281.length + bt265.2.1.length < 17592186044416 then ((some (y281 ++ bt265.2.1 : List Int)).bind fun y284 => (if y284.length + bt273.2.1.length < 17592186044416 then ((some (y284 ++ bt273.2.1 : List Int)).bind fun y287 => (impl_depths.l2 k x3 bt273.2.2 y287 (y287.length : Int) 0 bt265.1 bt265.2.1 bt273.1 bt273.2.1)) else (none))) else (none))))) else (some x3)
def impl_depths.l2 : Nat → List Int → List (S41) → List Int → Int → Int → Int → List Int → Int → List Int → Option (List Int)
  | 0, _, _, _, _, _, _, _, _, _ => none
  | k + 1, x3, x10, x11, x68, x69, x273000, x273001, x281000, x281001 => if x69 < x68 then (if 0 ≤ x69 then (if x69 < (x11.length : Int) then (if 0 ≤ (rd x11 x69) then (if (rd x11 x69) < (x3.length : Int) then ((some (x3.set ((rd x11 x69) : Int).toNat (wrap64 ((rd x3 (rd x11 x69)) + 1)) : List Int)).bind fun y292 => (if 0 < (x11.length : Int) then (if (rd x11 x69) < (rd x11 0) then (impl_depths.l2 k y292 x10 ((x11.set (0 : Int).toNat (rd x11 x69)).set (x69 : Int).toNat (rd x11 0)) x68 (wrap64 (x69 + 1)) x273000 x273001 x281000 x281001) else (impl_depths.l2 k y292 x10 x11 x68 (wrap64 (x69 + 1)) x273000 x273001 x281000 x281001)) else (none))) else (none)) else (none)) else (none)) else (none)) else (if x10.length < 4398046511104 then (impl_depths.l1 k x3 (x10 ++ [(⟨wrap64 (x273000 + x281000), x11⟩ : S41)])) else (none))
end
def impl_depths.f (k : Nat) (l0 : List Int) : Option (List Int) := if 0 ≤ (l0.length : Int) then (if ((l0.length : Int) : Int).toNat ≤ 35184372088832 then (impl_depths.l0 k (List.replicate ((l0.length : Int) : Int).toNat 0) (([] : List (S41))) l0 (l0.length : Int) 0) else (none)) else (none)
theorem impl_depths.mono_l : ∀ k, (∀ y0 y1 y2 y3 y4, LeO (impl_depths.l0 k y0 y1 y2 y3 y4) (impl_depths.l0 (k + 1) y0 y1 y2 y3 y4)) ∧ (∀ y0 y1, LeO (impl_depths.l1 k y0 y1) (impl_depths.l1 (k + 1) y0 y1)) ∧ (∀ y0 y1 y2 y3 y4 y5 y6 y7 y8, LeO (impl_depths.l2 k y0 y1 y2 y3 y4 y5 y6 y7 y8) (impl_depths.l2 (k + 1) y0 y1 y2 y3 y4 y5 y6 y7 y8))
  | 0 => ⟨fun _ _ _ _ _ r h => by simp [impl_depths.l0] at h, fun _ _ r h => by simp [impl_depths.l1] at h, fun _ _ _ _ _ _ _ _ _ r h => by simp [impl_depths.l2] at h⟩
  | k + 1 => by
    obtain ⟨ih0, ih1, ih2⟩ := impl_depths.mono_l k
    refine ⟨?_, ?_, ?_⟩
    · intro y0 y1 y2 y3 y4
      unfold impl_depths.l0
      repeat' first
      | (with_reducible exact ih0 _ _ _ _ _)
      | (with_reducible exact ih1 _ _)
      | (with_reducible exact ih2 _ _ _ _ _ _ _ _ _)
      | (with_reducible exact impl_least.mono _ _)
      | (with_reducible exact LeO.refl _)
      | (with_reducible exact LeO.none _)
      | (with_reducible refine LeO.ite ?_ ?_)
      | (with_reducible refine LeO.bind ?_ (fun _ => ?_))
      | exact ih0 _ _ _ _ _
      | exact ih1 _ _
      | exact ih2 _ _ _ _ _ _ _ _ _
      | exact impl_least.mono _ _
      | exact LeO.none _
      | refine LeO.ite ?_ ?_
      | refine LeO.bind ?_ (fun _ => ?_)
    · intro y0 y1
      unfold impl_depths.l1
      repeat' first
      | (with_reducible exact ih0 _ _ _ _ _)
      | (with_reducible exact ih1 _ _)
      | (with_reducible exact ih2 _ _ _ _ _ _ _ _ _)
      | (with_reducible exact impl_least.mono _ _)
      | (with_reducible exact LeO.refl _)
      | (with_reducible exact LeO.none _)
      | (with_reducible refine LeO.ite ?_ ?_)
      | (with_reducible refine LeO.bind ?_ (fun _ => ?_))
      | exact ih0 _ _ _ _ _
      | exact ih1 _ _
      | exact ih2 _ _ _ _ _ _ _ _ _
      | exact impl_least.mono _ _
      | exact LeO.none _
      | refine LeO.ite ?_ ?_
      | refine LeO.bind ?_ (fun _ => ?_)
    · intro y0 y1 y2 y3 y4 y5 y6 y7 y8
      unfold impl_depths.l2
      repeat' first
      | (with_reducible exact ih0 _ _ _ _ _)
      | (with_reducible exact ih1 _ _)
      | (with_reducible exact ih2 _ _ _ _ _ _ _ _ _)
      | (with_reducible exact impl_least.mono _ _)
      | (with_reducible exact LeO.refl _)
      | (with_reducible exact LeO.none _)
      | (with_reducible refine LeO.ite ?_ ?_)
      | (with_reducible refine LeO.bind ?_ (fun _ => ?_))
      | exact ih0 _ _ _ _ _
      | exact ih1 _ _
      | exact ih2 _ _ _ _ _ _ _ _ _
      | exact impl_least.mono _ _
      | exact LeO.none _
      | refine LeO.ite ?_ ?_
      | refine LeO.bind ?_ (fun _ => ?_)
theorem impl_depths.mono : ∀ a0 k, LeO (impl_depths.f k a0) (impl_depths.f (k + 1) a0) := by
  intro a0 k
  obtain ⟨ih0, ih1, ih2⟩ := impl_depths.mono_l k
  unfold impl_depths.f
  repeat' first
      | (with_reducible exact ih0 _ _ _ _ _)
      | (with_reducible exact ih1 _ _)
      | (with_reducible exact ih2 _ _ _ _ _ _ _ _ _)
      | (with_reducible exact impl_least.mono _ _)
      | (with_reducible exact LeO.refl _)
      | (with_reducible exact LeO.none _)
      | (with_reducible refine LeO.ite ?_ ?_)
      | (with_reducible refine LeO.bind ?_ (fun _ => ?_))
      | exact ih0 _ _ _ _ _
      | exact ih1 _ _
      | exact ih2 _ _ _ _ _ _ _ _ _
      | exact impl_least.mono _ _
      | exact LeO.none _
      | refine LeO.ite ?_ ?_
      | refine LeO.bind ?_ (fun _ => ?_)
def impl_depths.T15 : Bool × List (List Nat × List Nat) := (true, [([], []), ([], []), ([1], [1]), ([0, 2], [0, 2]), ([], []), ([4], [4]), ([3, 5, 3], [3, 5]), ([6, 6, 0, 1, 2, 3, 4, 5, 6], [6])])
def impl_depths.B15 : List Nat := [0, 0, 2, 7, 0, 16, 63, 127]
theorem impl_depths.tab15 : rtab .any (opsOf Try.f27 15) = impl_depths.T15 := by kernel_rfl
theorem impl_depths.bits15 : waitsOk impl_depths.T15.2 impl_depths.B15 = true := by kernel_rfl
set_option maxHeartbeats 8000000 in
set_option maxRecDepth 100000 in
theorem impl_depths.calls (k : Nat) (A0 : Option Addr) (c0 : Nat) (l0 : List Int) (r : List Int) (w : World) (hr0 : Kd.C (Kd.int .i64) w A0 l0.length l0) (hc0 : l0.length ≤ c0) (h : impl_depths.f k l0 = some r) :
    Calls Try.prog 27 #[.slice A0 l0.length c0] w fun e w' => ∃ v0_ : Value, e = .returned (v0_) ∧ Kd.R (Kd.int .i64) 3 w' w.heap.size (fun _ => True) v0_ r ∧ Below w.heap.size w w' := by
  have hu41 := Try.underlying41
  have HR0 := Aside0.mk hr0
  have HC0 := Aside0.mk hc0
  clear hr0 hc0
  have HB := Aside0.mk (Below.refl w.heap.size w)
  have H : (if 0 ≤ (l0.length : Int) then (if ((l0.length : Int) : Int).toNat ≤ 35184372088832 then (impl_depths.l0 k (List.replicate ((l0.length : Int) : Int).toNat 0) (([] : List (S41))) l0 (l0.length : Int) 0) else (none)) else (none)) = some r := h
  clear h
  by_cases c2 : 0 ≤ (l0.length : Int)
  · rw [if_pos c2] at H
    have c2b0 := eq_true c2
    have c2b1 : decide (0 ≤ (l0.length : Int)) = true := decide_eq_true c2
    clear c2
    by_cases c3 : ((l0.length : Int) : Int).toNat ≤ 35184372088832
    · rw [if_pos c3] at H
      have c3b0 := eq_true c3
      have c3b1 : decide (((l0.length : Int) : Int).toNat ≤ 35184372088832) = true := decide_eq_true c3
      clear c3
      obtain ⟨y249, hy249⟩ : ∃ y_ : List Int, y_ = (List.replicate ((l0.length : Int) : Int).toNat 0) := ⟨_, rfl⟩
      replace H : (impl_depths.l0 k y249 (([] : List (S41))) l0 (l0.length : Int) 0) = some r := by first | (rw [hy249]; with_reducible exact H) | (have H2_ := (Option.bind_some _ _).symm.trans H; rw [hy249]; with_reducible exact H2_) | (have H2_ := (Option.bind_some _ _).symm.trans H; with_reducible exact H2_) | with_reducible exact H | (rw [hy249]; exact H) | exact H
      have Ny249 := Aside0.mk hy249
      clear hy249
      obtain ⟨y252, hy252⟩ : ∃ y_ : List (S41), y_ = (([] : List (S41))) := ⟨_, rfl⟩
      replace H : (impl_depths.l0 k y249 y252 l0 (l0.length : Int) 0) = some r := by first | (rw [hy252]; with_reducible exact H) | (have H2_ := (Option.bind_some _ _).symm.trans H; rw [hy252]; with_reducible exact H2_) | (have H2_ := (Option.bind_some _ _).symm.trans H; with_reducible exact H2_) | with_reducible exact H | (rw [hy252]; exact H) | exact H
      have Ny252 := Aside0.mk hy252
      clear hy252
      have H' := Aside0.mk H
      clear H
      go_enter Try.func27, Try.ntmps27
      go_wp2_with (first | ((with_reducible refine gate_dst (N := 16) rfl ?_); refine Kd.R_make (Kd.int .i64) _ 3 rfl (N := 16) rfl 22 _ _ rfl (l0.length : Int) rfl rfl Try.underlying22 (.int .i64 0) 8 info3 rfl (by decide) (by omega) 0 (ok := fun _ => True) (okp := fun _ => True) rfl (fun _ hk => hk) trivial (of_decide_eq_true (by first | (with_reducible assumption) | assumption)) (Nat.le_trans (Nat.mul_le_mul_right _ (of_decide_eq_true (by first | (with_reducible assumption) | assumption) : (l0.length : Int).toNat ≤ 35184372088832)) (by omega)) (Below.refl _ _) (Nat.le_refl _) ?_; intro v250 w4 ho5 hb hg_ hnew_; clear hg_ hnew_; (first | rw [← Ny249.out] at ho5 | (simp only [Int.reduceToNat] at ho5; rw [← Ny249.out] at ho5)); have n0_ := Aside0.mk (Kd.R_lower ho5 (below_size (by repeat (first | (with_reducible first | exact HB.out | apply below_alloc | apply pw_below_drewN | apply below_drew1) | exact HB.out)))); have n1_ := Aside0.mk (below_step (by repeat (first | (with_reducible first | exact HB.out | apply below_alloc | apply pw_below_drewN | apply below_drew1) | exact HB.out)) hb); clear HB; have HO251 := n0_; have HB := n1_; clear n0_ n1_; clear hb ho5) | ((with_reducible refine gate_dst (N := 17) rfl ?_); refine Kd.N_lit k41 _ 41 ?hg (N' := 17) ?hd (xs := ([] : List (S41))) (inner := []) (ok := (fun k_ => some k_ ≠ (v250 : Value).ownBlock)) (okp := (fun k_ => some k_ ≠ (v250 : Value).ownBlock)) ?hr ?hp (fun _ hk => hk) ((show ∀ k_, w4.heap.size ≤ k_ → (fun k_ => some k_ ≠ (v250 : Value).ownBlock) k_ from fun k_ hk => Kd.fresh' (Kd.R_lt (by (with_reducible repeat (first | apply Kd.R_alloc | apply Kd.R_drewN | apply Kd.R_drew)); exact HO251.out)) k_ hk) _ (Nat.le_refl _)) (Below.refl _ _) (Nat.le_refl _) (by simp) ?_; (case hd => rfl); (case hg => rfl); (case hr => first | (go_simp; done) | (go_simp; rfl)); (case hp => exact (Reps.none _ _)); intro v253 w6 ho7 hb hg_ hnew_; clear hg_ hnew_; (first | rw [← Ny252.out] at ho7 | (simp only [Int.reduceToNat] at ho7; rw [← Ny252.out] at ho7)); have n0_ := Aside0.mk (Kd.R_below (by (with_reducible repeat (first | apply Kd.R_alloc | apply Kd.R_drewN | apply Kd.R_drew)); exact HO251.out) hb); have n1_ := Aside0.mk (Kd.N_lower ho7 (below_size (by repeat (first | (with_reducible first | exact HB.out | apply below_alloc | apply pw_below_drewN | apply below_drew1) | exact HB.out)))); have n2_ := Aside0.mk (below_step (by repeat (first | (with_reducible first | exact HB.out | apply below_alloc | apply pw_below_drewN | apply below_drew1) | exact HB.out)) hb); clear HO251; clear HB; have HO251 := n0_; have HO254 := n1_; have HB := n2_; clear n0_ n1_ n2_; clear hb ho7))
      go_loopg [4, 20] k (fun kq v4 v20 w' => ∃ (x4_1 : List (S41)) (x20_1 : Int), v20 = .int .i64 x20_1 ∧ Aside0 (impl_depths.l0 kq y249 x4_1 l0 (l0.length : Int) x20_1 = some r) ∧ Aside0 (kq ≤ k) ∧ Aside0 (Kd.R (Kd.int .i64) 3 w' w.heap.size (fun _ => True) v250 y249) ∧ Aside0 (Kd.N k41 41 w' w.heap.size (fun k_ => some k_ ≠ (v250 : Value).ownBlock) v4 x4_1) ∧ Aside0 (Below w.heap.size w w'))
      case atStart => exact ⟨(y252), (0), (by first | rfl | (simp; done) | (simp [*]; done)), H', ⟨Nat.le_refl _⟩, ⟨by (with_reducible repeat (first | apply Kd.R_alloc | apply Kd.R_drewN | apply Kd.R_drew)); exact HO251.out⟩, ⟨by (with_reducible repeat (first | apply Kd.N_alloc | apply Kd.N_drewN | apply Kd.N_drew)); exact HO254.out⟩, ⟨by repeat (first | (with_reducible first | exact HB.out | apply below_alloc | apply pw_below_drewN | apply below_drew1) | exact HB.out)⟩⟩
      case round =>
        clear H'
        try clear c2
        try clear c2b0
        try clear c2b1
        try clear p2
        try clear c3
        try clear c3b0
        try clear c3b1
        obtain ⟨x4_1, x20_1, rfl, HA, HK1, HO_3, HO_4, HB⟩ := hrel
        cases gk with
        | zero => exact absurd HA.out (by simp [impl_depths.l0])
        | succ k1 =>
          have H := HA.out
          clear HA
          simp only [impl_depths.l0] at H
          by_cases c8 : x20_1 < (l0.length : Int)
          · rw [if_pos c8] at H
            have c8b0 : decide (x20_1 < (l0.length : Int)) = true := decide_eq_true c8
            clear c8
            by_cases c9 : 0 ≤ x20_1
            · rw [if_pos c9] at H
              have c9b0 : decide (0 ≤ x20_1) = true := decide_eq_true c9
              clear c9
              by_cases c10 : x20_1 < (l0.length : Int)
              · rw [if_pos c10] at H
                have c10b0 : decide (x20_1 < (l0.length : Int)) = true := decide_eq_true c10
                clear c10
                by_cases c11 : (rd l0 x20_1) > 0
                · rw [if_pos c11] at H
                  have c11b0 : decide (0 < (rd l0 x20_1)) = true := decide_eq_true c11
                  clear c11
                  obtain ⟨y256, hy256⟩ : ∃ y_ : List Int, y_ = (([x20_1] : List Int)) := ⟨_, rfl⟩
                  replace H : (if x4_1.length < 4398046511104 then (impl_depths.l0 k1 y249 (x4_1 ++ [(⟨rd l0 x20_1, y256⟩ : S41)]) l0 (l0.length : Int) (wrap64 (x20_1 + 1))) else (none)) = some r := by first | (rw [hy256]; with_reducible exact H) | (have H2_ := (Option.bind_some _ _).symm.trans H; rw [hy256]; with_reducible exact H2_) | (have H2_ := (Option.bind_some _ _).symm.trans H; with_reducible exact H2_) | with_reducible exact H | (rw [hy256]; exact H) | exact H
                  have Ny256 := Aside0.mk hy256
                  clear hy256
                  by_cases c12 : x4_1.length < 4398046511104
                  · rw [if_pos c12] at H
                    have LMc12 := Aside0.mk c12
                    clear c12
                    obtain ⟨y259, hy259⟩ : ∃ y_ : List (S41), y_ = (x4_1 ++ [(⟨rd l0 x20_1, y256⟩ : S41)]) := ⟨_, rfl⟩
                    replace H : (impl_depths.l0 k1 y249 y259 l0 (l0.length : Int) (wrap64 (x20_1 + 1))) = some r := by first | (rw [hy259]; with_reducible exact H) | (have H2_ := (Option.bind_some _ _).symm.trans H; rw [hy259]; with_reducible exact H2_) | (have H2_ := (Option.bind_some _ _).symm.trans H; with_reducible exact H2_) | with_reducible exact H | (rw [hy259]; exact H) | exact H
                    have Ny259 := Aside0.mk hy259
                    clear hy259
                    have H' := Aside0.mk H
                    clear H
                    have p255 : 0 ≤ (x20_1 : Int) := of_decide_eq_true (by first | (with_reducible assumption) | assumption)
                    have q255 : x20_1 < (l0.length : Int) := of_decide_eq_true (by first | (with_reducible assumption) | assumption)
                    obtain ⟨ad255, e255, hx255_0⟩ := Kd.at_int HR0.out x20_1 p255 q255
                    cases e255
                    replace hx255_0 := (HB.out.cell (World.block_lt_of_cell? w _ hx255_0)).trans hx255_0
                    replace p255 := eq_true p255
                    replace q255 := eq_true q255
                    go_wp2_with (first | ((with_reducible refine gate_dst (N := 30) rfl ?_); refine Kd.R_lit (Kd.int .i64) _ 3 ?hg (N := 30) ?hd (xs := ([x20_1] : List Int)) (inner := [.int .i64 x20_1]) (ok := fun _ => True) (okp := fun _ => True) ?hr ?hp (fun _ hk => hk) trivial (Below.refl _ _) (Nat.le_refl _) (by simp) ?_; (case hd => rfl); (case hg => rfl); (case hr => first | (go_simp; done) | (go_simp; rfl)); (case hp => exact (Reps.one (show Kd.M (Kd.int .i64) _ _ _ x20_1 [.int .i64 x20_1] from rfl) (Reps.none _ _))); intro v257 w13 ho14 hb hg_ hnew_; clear hg_ hnew_; (first | rw [← Ny256.out] at ho14 | (simp only [Int.reduceToNat] at ho14; rw [← Ny256.out] at ho14)); have n0_ := Aside0.mk (Kd.R_elder' (by (with_reducible repeat (first | apply Kd.R_alloc | apply Kd.R_drewN | apply Kd.R_drew)); exact HO_3.out) (Kd.R_base ho14) hb); have n1_ := Aside0.mk (Kd.N_elder' (by (with_reducible repeat (first | apply Kd.N_alloc | apply Kd.N_drewN | apply Kd.N_drew)); exact HO_4.out) (Kd.R_base ho14) hb); have n2_ := Aside0.mk (Kd.R_lower (Kd.R_new' ho14 (Kd.R_lt (by (with_reducible repeat (first | apply Kd.R_alloc | apply Kd.R_drewN | apply Kd.R_drew)); exact HO_3.out))) (below_size (by repeat (first | (with_reducible first | exact HB.out | apply below_alloc | apply pw_below_drewN | apply below_drew1) | exact HB.out)))); have n3_ := Aside0.mk (below_step (by repeat (first | (with_reducible first | exact HB.out | apply below_alloc | apply pw_below_drewN | apply below_drew1) | exact HB.out)) hb); clear HO_3; clear HO_4; clear HB; have HO_3 := n0_; have HO_4 := n1_; have HO258 := n2_; have HB := n3_; clear n0_ n1_ n2_ n3_; clear hb ho14; obtain ⟨Ao15, co15, eo15⟩ := Kd.R_slice HO258.out; subst eo15) | ((with_reducible refine gate_builtin (b := .append) (xs := #[.tmp 27, .tmp 32]) rfl ?_); at_builtin; refine Kd.N_append k41 (w0 := w) w.heap.size rfl (.tmp 27) (.tmp 32) 39 41 (.agg #[(.int .i64 0), (.slice none 0 0)]) 32 rfl Try.underlying39 info41 rfl (by decide) (by omega) u4 x4_1 (⟨rd l0 x20_1, y256⟩ : S41) [.int .i64 (rd l0 x20_1), .slice Ao15 y256.length co15] (fun k_ => some k_ ≠ (v250 : Value).ownBlock) (fun k_ => ((fun k_ => some k_ ≠ (v250 : Value).ownBlock)) k_ ∧ some k_ ≠ (u4 : Value).ownBlock) rfl rfl ?aP (fun _ hk => hk) ?aF ?aO ?aB ?aS ?aL ?_; (case aP => exact (k41_mkF _ _ (⟨rd l0 x20_1, y256⟩ : S41) (Kd.R_reads' (Kd.R_mono (ok' := (fun k_ => ((fun k_ => some k_ ≠ (v250 : Value).ownBlock)) k_ ∧ some k_ ≠ (u4 : Value).ownBlock)) (Kd.R_apart' (HO258.out) (Kd.N_typed HO_4.out) (by decide)) (by first | exact (by first | exact (fun k_ hk => ⟨hk.1.2, hk.2⟩) | (intro k_ hk_; grind)) | (intro k_ hk_; grind)))).2.1 (Kd.R_F (Kd.R_mono (ok' := (fun k_ => ((fun k_ => some k_ ≠ (v250 : Value).ownBlock)) k_ ∧ some k_ ≠ (u4 : Value).ownBlock)) (Kd.R_apart' (HO258.out) (Kd.N_typed HO_4.out) (by decide)) (by first | exact (by first | exact (fun k_ hk => ⟨hk.1.2, hk.2⟩) | (intro k_ hk_; grind)) | (intro k_ hk_; grind)))))); (case aB => exact (by repeat (first | (with_reducible first | exact HB.out | apply below_alloc | apply pw_below_drewN | apply below_drew1) | exact HB.out))); (case aF => exact (fun k_ hk => Kd.fresh' (Kd.R_lt (by (with_reducible repeat (first | apply Kd.R_alloc | apply Kd.R_drewN | apply Kd.R_drew)); exact HO_3.out)) k_ hk)); (case aO => exact (by (with_reducible repeat (first | apply Kd.N_alloc | apply Kd.N_drewN | apply Kd.N_drew)); exact Kd.N_mono HO_4.out (fun _ hk => hk.1))); (case aS => exact (below_size (by repeat (first | (with_reducible first | exact HB.out | apply below_alloc | apply pw_below_drewN | apply below_drew1) | exact HB.out)))); (case aL => have := LMc12.out; omega); intro v260 w16 ho hb hg hat; rw [← Ny259.out] at ho; have n0_ := Aside0.mk (Kd.R_over' (by (with_reducible repeat (first | apply Kd.R_alloc | apply Kd.R_drewN | apply Kd.R_drew)); exact HO_3.out) (Kd.N_typed (by (with_reducible repeat (first | apply Kd.N_alloc | apply Kd.N_drewN | apply Kd.N_drew)); exact HO_4.out)) (by decide) hg); have n1_ := Aside0.mk (hb); have n2_ := Aside0.mk (ho); clear HO_3; clear HB; clear HO_4; clear HO258; have HO_3 := n0_; have HB := n1_; have HO261 := n2_; clear n0_ n1_ n2_; clear ho hb hg hat))
                    go_roundg k1
                    case measure => have := HK1.out; omega
                    case rel => exact ⟨(y259), (wrap64 (x20_1 + 1)), (by first | rfl | (simp; done) | (simp [*]; done)), H', ⟨by have := HK1.out; omega⟩, ⟨by (with_reducible repeat (first | apply Kd.R_alloc | apply Kd.R_drewN | apply Kd.R_drew)); exact Kd.R_mono HO_3.out (fun _ hk => trivial)⟩, ⟨by (with_reducible repeat (first | apply Kd.N_alloc | apply Kd.N_drewN | apply Kd.N_drew)); exact HO261.out⟩, ⟨by repeat (first | (with_reducible first | exact HB.out | apply below_alloc | apply pw_below_drewN | apply below_drew1) | exact HB.out)⟩⟩
                  · rw [if_neg c12] at H
                    exact absurd H (by simp)
                · rw [if_neg c11] at H
                  have c11b0 : decide (0 < (rd l0 x20_1)) = false := decide_eq_false c11
                  clear c11
                  have H' := Aside0.mk H
                  clear H
                  have p255 : 0 ≤ (x20_1 : Int) := of_decide_eq_true (by first | (with_reducible assumption) | assumption)
                  have q255 : x20_1 < (l0.length : Int) := of_decide_eq_true (by first | (with_reducible assumption) | assumption)
                  obtain ⟨ad255, e255, hx255_0⟩ := Kd.at_int HR0.out x20_1 p255 q255
                  cases e255
                  replace hx255_0 := (HB.out.cell (World.block_lt_of_cell? w _ hx255_0)).trans hx255_0
                  replace p255 := eq_true p255
                  replace q255 := eq_true q255
                  go_wp2
                  go_roundg k1
                  case measure => have := HK1.out; omega
                  case rel => exact ⟨(x4_1), (wrap64 (x20_1 + 1)), (by first | rfl | (simp; done) | (simp [*]; done)), H', ⟨by have := HK1.out; omega⟩, ⟨by (with_reducible repeat (first | apply Kd.R_alloc | apply Kd.R_drewN | apply Kd.R_drew)); exact HO_3.out⟩, ⟨by (with_reducible repeat (first | apply Kd.N_alloc | apply Kd.N_drewN | apply Kd.N_drew)); exact HO_4.out⟩, ⟨by repeat (first | (with_reducible first | exact HB.out | apply below_alloc | apply pw_below_drewN | apply below_drew1) | exact HB.out)⟩⟩
              · rw [if_neg c10] at H
                exact absurd H (by simp)
            · rw [if_neg c9] at H
              exact absurd H (by simp)
          · rw [if_neg c8] at H
            have c8b0 : decide (x20_1 < (l0.length : Int)) = false := decide_eq_false c8
            clear c8
            by_cases c17 : (x4_1.length : Int) = 1
            · rw [if_pos c17] at H
              have c17b0 : ((x4_1.length : Int) == 1) = true := beq_iff_eq.mpr c17
              have c17b1 : ((x4_1.length : Int) != 1) = false := bne_eq_false_iff_eq.mpr c17
              clear c17
              by_cases c18 : 0 < (x4_1.length : Int)
              · rw [if_pos c18] at H
                have c18b0 : decide (0 < (x4_1.length : Int)) = true := decide_eq_true c18
                have c18b1 : decide (0 < x4_1.length) = true := decide_eq_true (by omega)
                clear c18
                by_cases c19 : 0 < (((rd_T41 x4_1 0).f1).length : Int)
                · rw [if_pos c19] at H
                  have c19b0 : decide (0 < (((rd_T41 x4_1 0).f1).length : Int)) = true := decide_eq_true c19
                  have c19b1 : decide (0 < ((rd_T41 x4_1 0).f1).length) = true := decide_eq_true (by omega)
                  clear c19
                  by_cases c20 : 0 ≤ (rd ((rd_T41 x4_1 0).f1) 0)
                  · rw [if_pos c20] at H
                    have c20b0 : decide (0 ≤ (rd ((rd_T41 x4_1 0).f1) 0)) = true := decide_eq_true c20
                    clear c20
                    by_cases c21 : (rd ((rd_T41 x4_1 0).f1) 0) < (y249.length : Int)
                    · rw [if_pos c21] at H
                      have c21b0 : decide ((rd ((rd_T41 x4_1 0).f1) 0) < (y249.length : Int)) = true := decide_eq_true c21
                      clear c21
                      obtain ⟨y264, hy264⟩ : ∃ y_ : List Int, y_ = (y249.set ((rd ((rd_T41 x4_1 0).f1) 0) : Int).toNat 1) := ⟨_, rfl⟩
                      replace H : (some y264) = some r := by first | (rw [hy264]; with_reducible exact H) | (have H2_ := (Option.bind_some _ _).symm.trans H; rw [hy264]; with_reducible exact H2_) | (have H2_ := (Option.bind_some _ _).symm.trans H; with_reducible exact H2_) | with_reducible exact H | (rw [hy264]; exact H) | exact H
                      have Ny264 := Aside0.mk hy264
                      clear hy264
                      obtain rfl := Option.some.inj H
                      obtain ⟨Ao23, co23, eo23⟩ := Kd.N_slice HO_4.out
                      subst eo23
                      have p262 : 0 ≤ (0 : Int) := (by omega)
                      have q262 : 0 < (x4_1.length : Int) := of_decide_eq_true (by first | (with_reducible assumption) | assumption)
                      obtain ⟨ad262, A262_1, c262_1, e262, hx262_0, hx262_1, hl262_1, hi262_1⟩ := at_T41 (Kd.N_reads' HO_4.out).2.2 0 p262 q262
                      cases e262
                      obtain ⟨ce262, hce262, hMe262, hcc262⟩ := Kd.N_get HO_4.out z41 0 p262 (by first | exact q262 | exact of_decide_eq_true (by first | (with_reducible assumption) | assumption) | (have e_ := (Kd.N_reads' HO_4.out).1; omega))
                      obtain ⟨ua262_1, uc262_1, rfl, ul262_1, ge262_1⟩ := k41_openF hMe262
                      have hv262_1 := hcc262 1 _ rfl
                      rw [add_field _ _ 1 (by omega)] at hv262_1
                      replace hv262_1 := Option.some.inj (hv262_1.symm.trans hx262_1)
                      injection hv262_1 with hva_ hvn_ hvc_
                      rw [hva_] at ge262_1
                      rw [hvc_] at ul262_1
                      have HL262_1 := Aside0.mk (show Kd.V (Kd.int .i64) 3 _ w.heap.size _ _ ((rd_T41 x4_1 0).f1) from Kd.V_mk ul262_1 ge262_1)
                      clear hva_ hvn_ hvc_ ge262_1 ul262_1
                      clear hcc262 hce262
                      have qi262 : (0 < x4_1.length) = True := eq_true (by omega)
                      (try rw [show ((0 : Int)).toNat = 0 from rfl] at hx262_0)
                      (try rw [show 0 * 2 = 0 from rfl] at hx262_0)
                      (try rw [Addr.add_zero'] at hx262_0)
                      (try rw [show ((0 : Int)).toNat = 0 from rfl] at hx262_1)
                      (try rw [show 0 * 2 = 0 from rfl] at hx262_1)
                      (try rw [Addr.add_zero'] at hx262_1)
                      have HR262_1 := Aside0.mk hi262_1
                      have HC262_1 := Aside0.mk hl262_1
                      clear hi262_1 hl262_1
                      replace p262 := eq_true p262
                      replace q262 := eq_true q262
                      have p263 : 0 ≤ (0 : Int) := (by omega)
                      have q263 : 0 < (((rd_T41 x4_1 0).f1).length : Int) := of_decide_eq_true (by first | (with_reducible assumption) | assumption)
                      obtain ⟨ad263, e263, hx263_0⟩ := Kd.at_int (by first | exact (Kd.V_reads' HL262_1.out).2.2 | repeat (first | (with_reducible exact HR262_1.out) | (with_reducible refine Kd.C_alloc ?_ _) | (with_reducible refine Kd.C_drewN ?_ _) | (with_reducible refine Kd.C_drew ?_) | exact HR262_1.out)) 0 p263 q263
                      cases e263
                      have qi263 : (0 < ((rd_T41 x4_1 0).f1).length) = True := eq_true (by omega)
                      (try rw [show ((0 : Int)).toNat = 0 from rfl] at hx263_0)
                      (try rw [Addr.add_zero'] at hx263_0)
                      replace p263 := eq_true p263
                      replace q263 := eq_true q263
                      have p22 : 0 ≤ ((rd ((rd_T41 x4_1 0).f1) 0) : Int) := of_decide_eq_true (by first | (with_reducible assumption) | assumption)
                      have q22 : ((rd ((rd_T41 x4_1 0).f1) 0) : Int) < ((y249.length : Int) : Int) := of_decide_eq_true (by first | (with_reducible assumption) | assumption)
                      obtain ⟨go22, co22, eo22, gb22, gl22, cl22, HG22⟩ := Kd.R_form HO_3.out (by omega)
                      (first | cases eo22 | (injection eo22 with ea_ en_ ec_; (first | subst ea_ | (injection ea_ with ea_; subst ea_)); subst ec_; clear en_))
                      have GB22 := Aside0.mk gb22
                      have GG22 := Aside0.mk HG22
                      clear gb22 gl22 HG22
                      obtain ⟨hx22_0, hf22_0⟩ := Kd.R_celln 0 HO_3.out ((rd ((rd_T41 x4_1 0).f1) 0) : Int) p22 q22
                      replace p22 := eq_true p22
                      replace q22 := eq_true q22
                      have HP24 := Kd.R_putg HO_3.out ((rd ((rd_T41 x4_1 0).f1) 0) : Int) 1
                      go_wp2_with (first | ((with_reducible refine gate_store (t := 3) (p := 45) rfl ?_); refine store_event (t := 3) (p := 45) (v := ?vo_w25) (w1 := (wr.setCell ⟨go22, ((rd ((rd_T41 x4_1 0).f1) 0) : Int).toNat, none⟩ (.int .i64 1))) ?hg ?ho ?hn ?hr ?_; (case ho => rfl); (case hg => rfl); (case hn => rfl); (case hr => first | (go_simp; done) | (go_simp; rfl)); intro w25 hw; have hg : wr.grownBy w25 (some go22) := (by rw [hw]; exact HP24.2); have hp_ : Kd.R (Kd.int .i64) 3 w25 w.heap.size (fun _ => True) (.slice (some ⟨go22, 0, none⟩) y249.length co22) y264 := (by rw [hw, Ny264.out]; exact HP24.1); clear HP24; have n0_ := Aside0.mk (hp_); have n1_ := Aside0.mk (Kd.N_afterv (v := (.slice (some ⟨go22, 0, none⟩) y249.length co22)) (v1 := (.slice (some ⟨go22, 0, none⟩) y249.length co22)) (ok := (fun _ => True)) (by (with_reducible repeat (first | apply Kd.N_alloc | apply Kd.N_drewN | apply Kd.N_drew)); exact Kd.N_mono HO_4.out (by first | exact (by first | exact (fun _ hk => ⟨trivial, hk⟩) | (intro k_ hk_; grind)) | (intro k_ hk_; grind))) hg (.inl rfl)); have n2_ := Aside0.mk (Kd.V_afterv (v := (.slice (some ⟨go22, 0, none⟩) y249.length co22)) (v1 := (.slice (some ⟨go22, 0, none⟩) y249.length co22)) (ok := (fun k_ => some k_ ≠ (.slice (some ad262) x4_1.length co23 : Value).ownBlock)) (by (with_reducible repeat (first | apply Kd.V_alloc | apply Kd.V_drewN | apply Kd.V_drew)); exact Kd.V_mono HL262_1.out (by first | exact (by first | exact (fun _ hk => ⟨hk.2, hk.1⟩) | (intro k_ hk_; grind)) | (intro k_ hk_; grind))) hg (.inl rfl)); have n3_ := Aside0.mk ((by rw [hw]; exact below_set (HB.out) GB22.out : Below w.heap.size w w25)); clear HO_3; clear HO_4; clear HL262_1; clear HB; have HO_3 := n0_; have HO_4 := n1_; have HL262_1 := n2_; have HB := n3_; clear n0_ n1_ n2_ n3_; clear hg hw hp_))
                      go_ret
                      exact ⟨_, by first | rfl | (simp [errW_none, errW_some] <;> rfl) | (simp [*, errW_none, errW_some] <;> rfl), by (with_reducible repeat (first | apply Kd.R_alloc | apply Kd.R_drewN | apply Kd.R_drew)); exact HO_3.out, by repeat (first | (with_reducible first | exact HB.out | apply below_alloc | apply pw_below_drewN | apply below_drew1) | exact HB.out)⟩
                    · rw [if_neg c21] at H
                      exact absurd H (by simp)
                  · rw [if_neg c20] at H
                    exact absurd H (by simp)
                · rw [if_neg c19] at H
                  exact absurd H (by simp)
              · rw [if_neg c18] at H
                exact absurd H (by simp)
            · rw [if_neg c17] at H
              have c17b0 : ((x4_1.length : Int) == 1) = false := beq_eq_false_iff_ne.mpr c17
              have c17b1 : ((x4_1.length : Int) != 1) = true := bne_iff_ne.mpr c17
              have H' := Aside0.mk H
              clear H
              obtain ⟨Ao26, co26, eo26⟩ := Kd.N_slice HO_4.out
              subst eo26
              go_wp2
              go_loopg [4] k1 (fun kq v4 w' => ∃ (x3_2 : List Int) (x4_2 : List (S41)), Aside0 (impl_depths.l1 kq x3_2 x4_2 = some r) ∧ Aside0 (kq ≤ k1) ∧ Aside0 (Kd.R (Kd.int .i64) 3 w' w.heap.size (fun _ => True) v250 x3_2) ∧ Aside0 (Kd.N k41 41 w' w.heap.size (fun k_ => some k_ ≠ (v250 : Value).ownBlock) v4 x4_2) ∧ Aside0 (Below w.heap.size w w'))
              case atStart => exact ⟨(y249), (x4_1), H', ⟨Nat.le_refl _⟩, ⟨by (with_reducible repeat (first | apply Kd.R_alloc | apply Kd.R_drewN | apply Kd.R_drew)); exact HO_3.out⟩, ⟨by (with_reducible repeat (first | apply Kd.N_alloc | apply Kd.N_drewN | apply Kd.N_drew)); exact HO_4.out⟩, ⟨by repeat (first | (with_reducible first | exact HB.out | apply below_alloc | apply pw_below_drewN | apply below_drew1) | exact HB.out)⟩⟩
              case round =>
                clear H'
                try clear c1
                try clear c2
                try clear c2b0
                try clear c2b1
                try clear p2
                try clear q2
                try clear hx2
                try clear qi2
                try clear hf2
                try clear c3
                try clear c3b0
                try clear c3b1
                try clear p6
                try clear c8
                try clear c8b0
                try clear c9
                try clear c9b0
                try clear c10
                try clear c10b0
                try clear c11
                try clear c11b0
                try clear c12
                try clear c17
                try clear c17b0
                try clear c17b1
                try clear c18
                try clear c18b0
                try clear c18b1
                try clear c19
                try clear c19b0
                try clear c19b1
                try clear c20
                try clear c20b0
                try clear c21
                try clear c21b0
                try clear p22
                try clear q22
                try clear hx22
                try clear hf22
                try clear p25
                try clear q25
                try clear hx25
                try clear c26
                try clear p26
                try clear q26
                try clear hx26
                try clear qi26
                try clear hx22_0
                try clear hx255_0
                try clear hx262_0
                try clear hx262_1
                try clear hx263_0
                try clear p2
                try clear p22
                try clear p255
                try clear p262
                try clear p263
                try clear q22
                try clear q255
                try clear q262
                try clear q263
                obtain ⟨x3_2, x4_2, HA, HK2, HO_3, HO_4, HB⟩ := hrel
                cases gk with
                | zero => exact absurd HA.out (by simp [impl_depths.l1])
                | succ k2 =>
                  have H := HA.out
                  clear HA
                  simp only [impl_depths.l1] at H
                  by_cases c27 : (x4_2.length : Int) > 1
                  · rw [if_pos c27] at H
                    have c27b0 : decide (1 < (x4_2.length : Int)) = true := decide_eq_true c27
                    have c27b1 : decide (1 < x4_2.length) = true := decide_eq_true (by omega)
                    clear c27
                    replace H := Option.bind_eq_some_iff.mp H
                    obtain ⟨⟨t265, t266, t269⟩, A280, H⟩ := H
                    replace H : ((impl_least.f k2 t269).bind fun bt273 => ((some (([] : List Int) : List Int)).bind fun y281 => (if y281.length + t266.length < 17592186044416 then ((some (y281 ++ t266 : List Int)).bind fun y284 => (if y284.length + bt273.2.1.length < 17592186044416 then ((some (y284 ++ bt273.2.1 : List Int)).bind fun y287 => (impl_depths.l2 k2 x3_2 bt273.2.2 y287 (y287.length : Int) 0 t265 t266 bt273.1 bt273.2.1)) else (none))) else (none)))) = some r := H
                    have A28 := Aside0.mk A280
                    clear A280
                    replace H := Option.bind_eq_some_iff.mp H
                    obtain ⟨⟨t273, t274, t277⟩, A290, H⟩ := H
                    replace H : ((some (([] : List Int) : List Int)).bind fun y281 => (if y281.length + t266.length < 17592186044416 then ((some (y281 ++ t266 : List Int)).bind fun y284 => (if y284.length + t274.length < 17592186044416 then ((some (y284 ++ t274 : List Int)).bind fun y287 => (impl_depths.l2 k2 x3_2 t277 y287 (y287.length : Int) 0 t265 t266 t273 t274)) else (none))) else (none))) = some r := H
                    have A29 := Aside0.mk A290
                    clear A290
                    obtain ⟨y281, hy281⟩ : ∃ y_ : List Int, y_ = (([] : List Int)) := ⟨_, rfl⟩
                    replace H : (if y281.length + t266.length < 17592186044416 then ((some (y281 ++ t266 : List Int)).bind fun y284 => (if y284.length + t274.length < 17592186044416 then ((some (y284 ++ t274 : List Int)).bind fun y287 => (impl_depths.l2 k2 x3_2 t277 y287 (y287.length : Int) 0 t265 t266 t273 t274)) else (none))) else (none)) = some r := by first | (rw [hy281]; with_reducible exact H) | (have H2_ := (Option.bind_some _ _).symm.trans H; rw [hy281]; with_reducible exact H2_) | (have H2_ := (Option.bind_some _ _).symm.trans H; with_reducible exact H2_) | with_reducible exact H | (rw [hy281]; exact H) | exact H
                    have Ny281 := Aside0.mk hy281
                    clear hy281
                    by_cases c30 : y281.length + t266.length < 17592186044416
                    · rw [if_pos c30] at H
                      have LMc30 := Aside0.mk c30
                      clear c30
                      obtain ⟨y284, hy284⟩ : ∃ y_ : List Int, y_ = (y281 ++ t266) := ⟨_, rfl⟩
                      replace H : (if y284.length + t274.length < 17592186044416 then ((some (y284 ++ t274 : List Int)).bind fun y287 => (impl_depths.l2 k2 x3_2 t277 y287 (y287.length : Int) 0 t265 t266 t273 t274)) else (none)) = some r := by first | (rw [hy284]; with_reducible exact H) | (have H2_ := (Option.bind_some _ _).symm.trans H; rw [hy284]; with_reducible exact H2_) | (have H2_ := (Option.bind_some _ _).symm.trans H; with_reducible exact H2_) | with_reducible exact H | (rw [hy284]; exact H) | exact H
                      have Ny284 := Aside0.mk hy284
                      clear hy284
                      by_cases c31 : y284.length + t274.length < 17592186044416
                      · rw [if_pos c31] at H
                        have LMc31 := Aside0.mk c31
                        clear c31
                        obtain ⟨y287, hy287⟩ : ∃ y_ : List Int, y_ = (y284 ++ t274) := ⟨_, rfl⟩
                        replace H : (impl_depths.l2 k2 x3_2 t277 y287 (y287.length : Int) 0 t265 t266 t273 t274) = some r := by first | (rw [hy287]; with_reducible exact H) | (have H2_ := (Option.bind_some _ _).symm.trans H; rw [hy287]; with_reducible exact H2_) | (have H2_ := (Option.bind_some _ _).symm.trans H; with_reducible exact H2_) | with_reducible exact H | (rw [hy287]; exact H) | exact H
                        have Ny287 := Aside0.mk hy287
                        clear hy287
                        have H' := Aside0.mk H
                        clear H
                        obtain ⟨Ao32, co32, eo32⟩ := Kd.N_slice HO_4.out
                        subst eo32
                        try go_wp2_with (first | ((with_reducible refine gate_callee (f := 35) rfl ?_); refine goesL_ (some 52) rfl rfl Try.func35 (by kernel_rfl) rfl #[.slice Ao32 x4_2.length co32] rfl (by (try simp only [List.map_toArray, List.map_cons, List.map_nil]); first | done | rfl | (simp only [List.length_drop, List.length_take]; rfl)) ?_; (with_reducible refine (impl_least.calls k2 (fun k_ => some k_ ≠ (v250 : Value).ownBlock) _ _ x4_2 t265 t266 t269 _ ?side1 A28.out).mono ?_); (case side1 => exact Kd.N_V (HO_4.out)); rintro e w33 ⟨v267, v270, rfl, ho0, ho1, hb⟩; refine ⟨_, rfl, ?_⟩; have n0_ := Aside0.mk (Kd.R_below (by (with_reducible repeat (first | apply Kd.R_alloc | apply Kd.R_drewN | apply Kd.R_drew)); exact HO_3.out) hb); have n1_ := Aside0.mk (Kd.N_elder' (by (with_reducible repeat (first | apply Kd.N_alloc | apply Kd.N_drewN | apply Kd.N_drew)); exact HO_4.out) (Kd.N_base ho1) hb); have n2_ := Aside0.mk (Kd.V_lower (Kd.V_mono (ok' := fun k_ => some k_ ≠ (v270 : Value).ownBlock ∧ some k_ ≠ (v250 : Value).ownBlock) ho0 (fun k_ hk_ => ⟨hk_.2, Or.elim hk_.1 (fun hs_ => hs_) (fun hn_ => (Kd.fresh' (Kd.R_lt (by (with_reducible repeat (first | apply Kd.R_alloc | apply Kd.R_drewN | apply Kd.R_drew)); exact HO_3.out)) k_ hn_))⟩)) (below_size (by repeat (first | (with_reducible first | exact HB.out | apply below_alloc | apply pw_below_drewN | apply below_drew1) | exact HB.out)))); have n3_ := Aside0.mk (Kd.N_lower (Kd.N_mono (ok' := fun k_ => some k_ ≠ (v250 : Value).ownBlock) ho1 (fun k_ hk_ => Or.elim hk_ (fun hs_ => hs_) (fun hn_ => (Kd.fresh' (Kd.R_lt (by (with_reducible repeat (first | apply Kd.R_alloc | apply Kd.R_drewN | apply Kd.R_drew)); exact HO_3.out)) k_ hn_)))) (below_size (by repeat (first | (with_reducible first | exact HB.out | apply below_alloc | apply pw_below_drewN | apply below_drew1) | exact HB.out)))); have n4_ := Aside0.mk (below_step (by repeat (first | (with_reducible first | exact HB.out | apply below_alloc | apply pw_below_drewN | apply below_drew1) | exact HB.out)) hb); clear HO_3; clear HO_4; clear HB; have HO_3 := n0_; have HO_4 := n1_; have HO268 := n2_; have HO271 := n3_; have HB := n4_; clear n0_ n1_ n2_ n3_ n4_; (try clear hb); (try clear hb2); (try clear hk); (try clear hi); (try clear ho0); (try clear ho1)) | ((with_reducible refine gate_dst (N := 7) rfl ?_); refine box_event ?hg (N := 7) ?hd (cs := #[.int .i64 0, .slice none 0 0]) (t := 41) ?hr ?_; (case hd => rfl); (case hg => rfl); (case hr => first | (go_simp; done) | (go_simp; rfl)); intro gb272 hg w34 hbox hb; have n0_ := Aside0.mk (Kd.R_below (by (with_reducible repeat (first | apply Kd.R_alloc | apply Kd.R_drewN | apply Kd.R_drew)); exact HO_3.out) hb); have n1_ := Aside0.mk (Kd.N_below (Kd.N_elderB (by (with_reducible repeat (first | apply Kd.N_alloc | apply Kd.N_drewN | apply Kd.N_drew)); exact HO_4.out) gb272 (Nat.le_of_eq hg.symm)) hb); have n2_ := Aside0.mk (Kd.V_below (Kd.V_elderB (by (with_reducible repeat (first | apply Kd.V_alloc | apply Kd.V_drewN | apply Kd.V_drew)); exact HO268.out) gb272 (Nat.le_of_eq hg.symm)) hb); have n3_ := Aside0.mk (Kd.N_below (Kd.N_elderB (by (with_reducible repeat (first | apply Kd.N_alloc | apply Kd.N_drewN | apply Kd.N_drew)); exact HO271.out) gb272 (Nat.le_of_eq hg.symm)) hb); have n4_ := Aside0.mk (below_step (by repeat (first | (with_reducible first | exact HB.out | apply below_alloc | apply pw_below_drewN | apply below_drew1) | exact HB.out)) hb); have n5_ := Aside0.mk (hbox); have n6_ := Aside0.mk ((by rw [hg]; exact (below_size (by repeat (first | (with_reducible first | exact HB.out | apply below_alloc | apply pw_below_drewN | apply below_drew1) | exact HB.out))) : w.heap.size ≤ gb272)); have n7_ := Aside0.mk ((by rw [hg]; exact (below_size (by repeat (first | (with_reducible first | exact HB.out | apply below_alloc | apply pw_below_drewN | apply below_drew1) | exact HB.out))) : w.heap.size ≤ gb272)); clear HO_3; clear HO_4; clear HO268; clear HO271; clear HB; have HO_3 := n0_; have HO_4 := n1_; have HO268 := n2_; have HO271 := n3_; have HB := n4_; have BK272 := n5_; have GW272 := n6_; have GE272 := n7_; clear n0_ n1_ n2_ n3_ n4_ n5_ n6_ n7_; clear hb hbox hg; have hcz35_0 : w34.cell? ⟨gb272, 0, none⟩ = some (.int .i64 0) := (blk_cell BK272.out 0).trans rfl; have hcz35_1 : w34.cell? ⟨gb272, 1, none⟩ = some (.slice none 0 0) := (blk_cell BK272.out 1).trans rfl; have hfz35_0 := blk_frozen BK272.out 0; have hfz35_1 := blk_frozen BK272.out 1; obtain ⟨Ao36, co36, eo36⟩ := Kd.V_slice HO268.out; subst eo36) | ((with_reducible refine gate_store (t := 41) (p := 7) rfl ?_); refine store_event (t := 41) (p := 7) (v := ?vo_w37) (w1 := ((w34.setCell ⟨gb272, 0, none⟩ (.int .i64 t265)).setCell ⟨gb272, 1, none⟩ (.slice Ao36 t266.length co36))) ?hg ?ho ?hn ?hr ?_; (case ho => rfl); (case hg => rfl); (case hn => rfl); (case hr => first | (go_simp; done) | (go_simp; rfl)); intro w37 hw; have n0_ : Aside0 (Kd.R (Kd.int .i64) 3 w37 w.heap.size (fun _ => True) v250 x3_2) := ⟨(by rw [hw]; exact (by (with_reducible repeat (first | apply Kd.R_alloc | apply Kd.R_drewN | apply Kd.R_drew)); exact Kd.R_mono (Kd.R_far (p := ⟨gb272, 1, none⟩) (Kd.R_far (p := ⟨gb272, 0, none⟩) (Kd.R_types HO_3.out BK272.out (by decide)) (fun _ hk => hk.2) (.int .i64 t265)) (fun _ hk => hk.2) (.slice Ao36 t266.length co36)) (fun _ hk => trivial)))⟩; have n1_ : Aside0 (Kd.N k41 41 w37 w.heap.size (fun k_ => some k_ ≠ (v250 : Value).ownBlock ∧ some k_ ≠ (v270 : Value).ownBlock ∧ k_ ≠ gb272) (.slice Ao32 x4_2.length co32) x4_2) := ⟨(by rw [hw]; exact (by (with_reducible repeat (first | apply Kd.N_alloc | apply Kd.N_drewN | apply Kd.N_drew)); exact Kd.N_mono (Kd.N_far (p := ⟨gb272, 1, none⟩) (Kd.N_far (p := ⟨gb272, 0, none⟩) (Kd.N_mono HO_4.out (fun k_ hk => (⟨hk, hk.2⟩ : _ ∧ k_ ≠ gb272))) (fun _ hk => hk.2) (.int .i64 t265)) (fun _ hk => hk.2) (.slice Ao36 t266.length co36)) (by first | exact (by first | exact (fun _ hk => ⟨hk.1.1.1, ⟨hk.1.1.2, hk.1.2⟩⟩) | (intro k_ hk_; grind)) | (intro k_ hk_; grind))))⟩; have n2_ : Aside0 (Kd.V (Kd.int .i64) 3 w37 w.heap.size (fun k_ => some k_ ≠ (v250 : Value).ownBlock ∧ some k_ ≠ (v270 : Value).ownBlock ∧ k_ ≠ gb272) (.slice Ao36 t266.length co36) t266) := ⟨(by rw [hw]; exact (by (with_reducible repeat (first | apply Kd.V_alloc | apply Kd.V_drewN | apply Kd.V_drew)); exact Kd.V_mono (Kd.V_far (p := ⟨gb272, 1, none⟩) (Kd.V_far (p := ⟨gb272, 0, none⟩) (Kd.V_mono HO268.out (fun k_ hk => (⟨hk, hk.2⟩ : _ ∧ k_ ≠ gb272))) (fun _ hk => hk.2) (.int .i64 t265)) (fun _ hk => hk.2) (.slice Ao36 t266.length co36)) (by first | exact (by first | exact (fun _ hk => ⟨hk.1.1.2, ⟨hk.1.1.1, hk.1.2⟩⟩) | (intro k_ hk_; grind)) | (intro k_ hk_; grind))))⟩; have n3_ : Aside0 (Kd.N k41 41 w37 w.heap.size (fun k_ => some k_ ≠ (v250 : Value).ownBlock ∧ k_ ≠ gb272) v270 t269) := ⟨(by rw [hw]; exact (by (with_reducible repeat (first | apply Kd.N_alloc | apply Kd.N_drewN | apply Kd.N_drew)); exact Kd.N_mono (Kd.N_far (p := ⟨gb272, 1, none⟩) (Kd.N_far (p := ⟨gb272, 0, none⟩) (Kd.N_mono HO271.out (fun k_ hk => (⟨hk, hk.2⟩ : _ ∧ k_ ≠ gb272))) (fun _ hk => hk.2) (.int .i64 t265)) (fun _ hk => hk.2) (.slice Ao36 t266.length co36)) (by first | exact (by first | exact (fun _ hk => ⟨hk.1.1, hk.1.2⟩) | (intro k_ hk_; grind)) | (intro k_ hk_; grind))))⟩; have n4_ : Aside0 (w37.heap[gb272]? = some (.cells #[.int .i64 t265, .slice Ao36 t266.length co36] 41 (0, 0))) := ⟨(by rw [hw]; exact (by (with_reducible repeat (first | refine blk_drewN ?_ _ | refine blk_drew ?_ | refine blk_alloc ?_ _)); refine blk_put (cs := #[.int .i64 t265, .slice none 0 0]) ?_ 1 _ rfl; (with_reducible repeat (first | refine blk_drewN ?_ _ | refine blk_drew ?_ | refine blk_alloc ?_ _)); refine blk_put (cs := #[.int .i64 0, .slice none 0 0]) ?_ 0 _ rfl; (with_reducible repeat (first | refine blk_drewN ?_ _ | refine blk_drew ?_ | refine blk_alloc ?_ _)); exact BK272.out))⟩; have n5_ : Aside0 (Below w.heap.size w w37) := ⟨(by rw [hw]; exact (by repeat (first | (with_reducible first | exact HB.out | apply below_alloc | apply pw_below_drewN | apply below_drew1 | refine below_set ?_ GE272.out) | exact HB.out)))⟩; clear hw; clear HO_3; clear HO_4; clear HO268; clear HO271; clear BK272; clear HB; have HO_3 := n0_; have HO_4 := n1_; have HO268 := n2_; have HO271 := n3_; have BK272 := n4_; have HB := n5_; clear n0_ n1_ n2_ n3_ n4_ n5_; obtain ⟨Ao38, co38, eo38⟩ := Kd.N_slice HO271.out; subst eo38) | ((with_reducible refine gate_callee (f := 35) rfl ?_); refine goesL_ (some 57) rfl rfl Try.func35 (by kernel_rfl) rfl #[.slice Ao38 t269.length co38] rfl (by (try simp only [List.map_toArray, List.map_cons, List.map_nil]); first | done | rfl | (simp only [List.length_drop, List.length_take]; rfl)) ?_; (with_reducible refine (impl_least.calls k2 (fun k_ => (some k_ ≠ (v250 : Value).ownBlock ∧ k_ ≠ gb272)) _ _ t269 t273 t274 t277 _ ?side1 A29.out).mono ?_); (case side1 => exact Kd.N_V (HO271.out)); rintro e w39 ⟨v275, v278, rfl, ho0, ho1, hb⟩; refine ⟨_, rfl, ?_⟩; have n0_ := Aside0.mk (Kd.R_below (by (with_reducible repeat (first | apply Kd.R_alloc | apply Kd.R_drewN | apply Kd.R_drew)); exact HO_3.out) hb); have n1_ := Aside0.mk (Kd.N_elder' (by (with_reducible repeat (first | apply Kd.N_alloc | apply Kd.N_drewN | apply Kd.N_drew)); exact HO_4.out) (Kd.N_base ho1) hb); have n2_ := Aside0.mk (Kd.V_elder' (by (with_reducible repeat (first | apply Kd.V_alloc | apply Kd.V_drewN | apply Kd.V_drew)); exact HO268.out) (Kd.N_base ho1) hb); have n3_ := Aside0.mk (Kd.N_elder' (by (with_reducible repeat (first | apply Kd.N_alloc | apply Kd.N_drewN | apply Kd.N_drew)); exact HO271.out) (Kd.N_base ho1) hb); have n4_ := Aside0.mk (Kd.V_lower (Kd.V_mono (ok' := fun k_ => some k_ ≠ (v278 : Value).ownBlock ∧ some k_ ≠ (v250 : Value).ownBlock ∧ k_ ≠ gb272) ho0 (fun k_ hk_ => ⟨hk_.2, Or.elim hk_.1 (fun hs_ => hs_.1) (fun hn_ => (Kd.fresh' (Kd.R_lt (by (with_reducible repeat (first | apply Kd.R_alloc | apply Kd.R_drewN | apply Kd.R_drew)); exact HO_3.out)) k_ hn_)), Or.elim hk_.1 (fun hs_ => hs_.2) (fun hn_ => (Kd.freshB (g := gb272) (o := .cells #[.int .i64 t265, .slice Ao36 t266.length co36] 41 (0, 0)) (by (with_reducible repeat (first | refine blk_drewN ?_ _ | refine blk_drew ?_ | refine blk_alloc ?_ _)); exact BK272.out) k_ hn_))⟩)) (below_size (by repeat (first | (with_reducible first | exact HB.out | apply below_alloc | apply pw_below_drewN | apply below_drew1 | refine below_set ?_ GE272.out) | exact HB.out)))); have n5_ := Aside0.mk (Kd.N_lower (Kd.N_mono (ok' := fun k_ => some k_ ≠ (v250 : Value).ownBlock ∧ k_ ≠ gb272) ho1 (fun k_ hk_ => ⟨Or.elim hk_ (fun hs_ => hs_.1) (fun hn_ => (Kd.fresh' (Kd.R_lt (by (with_reducible repeat (first | apply Kd.R_alloc | apply Kd.R_drewN | apply Kd.R_drew)); exact HO_3.out)) k_ hn_)), Or.elim hk_ (fun hs_ => hs_.2) (fun hn_ => (Kd.freshB (g := gb272) (o := .cells #[.int .i64 t265, .slice Ao36 t266.length co36] 41 (0, 0)) (by (with_reducible repeat (first | refine blk_drewN ?_ _ | refine blk_drew ?_ | refine blk_alloc ?_ _)); exact BK272.out) k_ hn_))⟩)) (below_size (by repeat (first | (with_reducible first | exact HB.out | apply below_alloc | apply pw_below_drewN | apply below_drew1 | refine below_set ?_ GE272.out) | exact HB.out)))); have n6_ := Aside0.mk (blk_below (g := gb272) (o := .cells #[.int .i64 t265, .slice Ao36 t266.length co36] 41 (0, 0)) (by (with_reducible repeat (first | refine blk_drewN ?_ _ | refine blk_drew ?_ | refine blk_alloc ?_ _)); exact BK272.out) hb); have n7_ := Aside0.mk (below_step (by repeat (first | (with_reducible first | exact HB.out | apply below_alloc | apply pw_below_drewN | apply below_drew1 | refine below_set ?_ GE272.out) | exact HB.out)) hb); clear HO_3; clear HO_4; clear HO268; clear HO271; clear BK272; clear HB; have HO_3 := n0_; have HO_4 := n1_; have HO268 := n2_; have HO271 := n3_; have HO276 := n4_; have HO279 := n5_; have BK272 := n6_; have HB := n7_; clear n0_ n1_ n2_ n3_ n4_ n5_ n6_ n7_; (try clear hb); (try clear hb2); (try clear hk); (try clear hi); (try clear ho0); (try clear ho1)) | ((with_reducible refine gate_dst (N := 9) rfl ?_); refine box_event ?hg (N := 9) ?hd (cs := #[.int .i64 0, .slice none 0 0]) (t := 41) ?hr ?_; (case hd => rfl); (case hg => rfl); (case hr => first | (go_simp; done) | (go_simp; rfl)); intro gb280 hg w40 hbox hb; have n0_ := Aside0.mk (Kd.R_below (by (with_reducible repeat (first | apply Kd.R_alloc | apply Kd.R_drewN | apply Kd.R_drew)); exact HO_3.out) hb); have n1_ := Aside0.mk (Kd.N_below (Kd.N_elderB (by (with_reducible repeat (first | apply Kd.N_alloc | apply Kd.N_drewN | apply Kd.N_drew)); exact HO_4.out) gb280 (Nat.le_of_eq hg.symm)) hb); have n2_ := Aside0.mk (Kd.V_below (Kd.V_elderB (by (with_reducible repeat (first | apply Kd.V_alloc | apply Kd.V_drewN | apply Kd.V_drew)); exact HO268.out) gb280 (Nat.le_of_eq hg.symm)) hb); have n3_ := Aside0.mk (Kd.N_below (Kd.N_elderB (by (with_reducible repeat (first | apply Kd.N_alloc | apply Kd.N_drewN | apply Kd.N_drew)); exact HO271.out) gb280 (Nat.le_of_eq hg.symm)) hb); have n4_ := Aside0.mk (Kd.V_below (Kd.V_elderB (by (with_reducible repeat (first | apply Kd.V_alloc | apply Kd.V_drewN | apply Kd.V_drew)); exact HO276.out) gb280 (Nat.le_of_eq hg.symm)) hb); have n5_ := Aside0.mk (Kd.N_below (Kd.N_elderB (by (with_reducible repeat (first | apply Kd.N_alloc | apply Kd.N_drewN | apply Kd.N_drew)); exact HO279.out) gb280 (Nat.le_of_eq hg.symm)) hb); have n6_ := Aside0.mk (blk_below (g := gb272) (o := .cells #[.int .i64 t265, .slice Ao36 t266.length co36] 41 (0, 0)) (by (with_reducible repeat (first | refine blk_drewN ?_ _ | refine blk_drew ?_ | refine blk_alloc ?_ _)); exact BK272.out) hb); have n7_ := Aside0.mk (below_step (by repeat (first | (with_reducible first | exact HB.out | apply below_alloc | apply pw_below_drewN | apply below_drew1 | refine below_set ?_ GE272.out) | exact HB.out)) hb); have n8_ := Aside0.mk (hbox); have n9_ := Aside0.mk ((by rw [hg]; exact (below_size (by repeat (first | (with_reducible first | exact HB.out | apply below_alloc | apply pw_below_drewN | apply below_drew1 | refine below_set ?_ GE272.out) | exact HB.out))) : w.heap.size ≤ gb280)); have n10_ := Aside0.mk ((by rw [hg]; exact (below_size (by repeat (first | (with_reducible first | exact HB.out | apply below_alloc | apply pw_below_drewN | apply below_drew1 | refine below_set ?_ GE272.out) | exact HB.out))) : w.heap.size ≤ gb280)); have n11_ := Aside0.mk ((by rw [hg]; exact Nat.ne_of_lt (blk_lt (g := gb272) (o := .cells #[.int .i64 t265, .slice Ao36 t266.length co36] 41 (0, 0)) (by (with_reducible repeat (first | refine blk_drewN ?_ _ | refine blk_drew ?_ | refine blk_alloc ?_ _)); exact BK272.out)) : gb272 ≠ gb280)); have n12_ := Aside0.mk ((by rw [hg]; exact Nat.ne_of_gt (blk_lt (g := gb272) (o := .cells #[.int .i64 t265, .slice Ao36 t266.length co36] 41 (0, 0)) (by (with_reducible repeat (first | refine blk_drewN ?_ _ | refine blk_drew ?_ | refine blk_alloc ?_ _)); exact BK272.out)) : gb280 ≠ gb272)); clear HO_3; clear HO_4; clear HO268; clear HO271; clear HO276; clear HO279; clear BK272; clear HB; have HO_3 := n0_; have HO_4 := n1_; have HO268 := n2_; have HO271 := n3_; have HO276 := n4_; have HO279 := n5_; have BK272 := n6_; have HB := n7_; have BK280 := n8_; have GW280 := n9_; have GE280 := n10_; have NB272_280 := n11_; have NB280_272 := n12_; clear n0_ n1_ n2_ n3_ n4_ n5_ n6_ n7_ n8_ n9_ n10_ n11_ n12_; clear hb hbox hg; have hnb41 := NB280_272.out; have hnc41 := NB272_280.out; have hcz42_0 : w40.cell? ⟨gb280, 0, none⟩ = some (.int .i64 0) := (blk_cell BK280.out 0).trans rfl; have hcz42_1 : w40.cell? ⟨gb280, 1, none⟩ = some (.slice none 0 0) := (blk_cell BK280.out 1).trans rfl; have hfz42_0 := blk_frozen BK280.out 0; have hfz42_1 := blk_frozen BK280.out 1; obtain ⟨Ao43, co43, eo43⟩ := Kd.V_slice HO276.out; subst eo43))
                        have n0_ : Aside0 (Kd.R (Kd.int .i64) 3 ((w40.setCell ⟨gb280, 0, none⟩ (.int .i64 t273)).setCell ⟨gb280, 1, none⟩ (.slice Ao43 t274.length co43)) w.heap.size (fun _ => True) v250 x3_2) := ⟨by (with_reducible repeat (first | apply Kd.R_alloc | apply Kd.R_drewN | apply Kd.R_drew)); exact Kd.R_mono (Kd.R_far (p := ⟨gb280, 1, none⟩) (Kd.R_far (p := ⟨gb280, 0, none⟩) (Kd.R_types HO_3.out BK280.out (by decide)) (fun _ hk => hk.2) (.int .i64 t273)) (fun _ hk => hk.2) (.slice Ao43 t274.length co43)) (fun _ hk => trivial)⟩
                        have n1_ : Aside0 (Kd.N k41 41 ((w40.setCell ⟨gb280, 0, none⟩ (.int .i64 t273)).setCell ⟨gb280, 1, none⟩ (.slice Ao43 t274.length co43)) w.heap.size (fun k_ => some k_ ≠ (v250 : Value).ownBlock ∧ some k_ ≠ (.slice Ao38 t269.length co38 : Value).ownBlock ∧ some k_ ≠ (v278 : Value).ownBlock ∧ k_ ≠ gb272 ∧ k_ ≠ gb280) (.slice Ao32 x4_2.length co32) x4_2) := ⟨by (with_reducible repeat (first | apply Kd.N_alloc | apply Kd.N_drewN | apply Kd.N_drew)); exact Kd.N_mono (Kd.N_far (p := ⟨gb280, 1, none⟩) (Kd.N_far (p := ⟨gb280, 0, none⟩) (Kd.N_mono HO_4.out (fun k_ hk => (⟨hk, hk.2⟩ : _ ∧ k_ ≠ gb280))) (fun _ hk => hk.2) (.int .i64 t273)) (fun _ hk => hk.2) (.slice Ao43 t274.length co43)) (by first | exact (by first | exact (fun _ hk => ⟨hk.1.1.1.1, ⟨hk.1.1.1.2.1, ⟨hk.1.1.2, ⟨hk.1.1.1.2.2, hk.1.2⟩⟩⟩⟩) | (intro k_ hk_; grind)) | (intro k_ hk_; grind))⟩
                        have n2_ : Aside0 (Kd.V (Kd.int .i64) 3 ((w40.setCell ⟨gb280, 0, none⟩ (.int .i64 t273)).setCell ⟨gb280, 1, none⟩ (.slice Ao43 t274.length co43)) w.heap.size (fun k_ => some k_ ≠ (v250 : Value).ownBlock ∧ some k_ ≠ (.slice Ao38 t269.length co38 : Value).ownBlock ∧ some k_ ≠ (v278 : Value).ownBlock ∧ k_ ≠ gb272 ∧ k_ ≠ gb280) (.slice Ao36 t266.length co36) t266) := ⟨by (with_reducible repeat (first | apply Kd.V_alloc | apply Kd.V_drewN | apply Kd.V_drew)); exact Kd.V_mono (Kd.V_far (p := ⟨gb280, 1, none⟩) (Kd.V_far (p := ⟨gb280, 0, none⟩) (Kd.V_mono HO268.out (fun k_ hk => (⟨hk, hk.2⟩ : _ ∧ k_ ≠ gb280))) (fun _ hk => hk.2) (.int .i64 t273)) (fun _ hk => hk.2) (.slice Ao43 t274.length co43)) (by first | exact (by first | exact (fun _ hk => ⟨hk.1.1.1.1, ⟨hk.1.1.1.2.1, ⟨hk.1.1.2, ⟨hk.1.1.1.2.2, hk.1.2⟩⟩⟩⟩) | (intro k_ hk_; grind)) | (intro k_ hk_; grind))⟩
                        have n3_ : Aside0 (Kd.N k41 41 ((w40.setCell ⟨gb280, 0, none⟩ (.int .i64 t273)).setCell ⟨gb280, 1, none⟩ (.slice Ao43 t274.length co43)) w.heap.size (fun k_ => some k_ ≠ (v250 : Value).ownBlock ∧ some k_ ≠ (v278 : Value).ownBlock ∧ k_ ≠ gb272 ∧ k_ ≠ gb280) (.slice Ao38 t269.length co38) t269) := ⟨by (with_reducible repeat (first | apply Kd.N_alloc | apply Kd.N_drewN | apply Kd.N_drew)); exact Kd.N_mono (Kd.N_far (p := ⟨gb280, 1, none⟩) (Kd.N_far (p := ⟨gb280, 0, none⟩) (Kd.N_mono HO271.out (fun k_ hk => (⟨hk, hk.2⟩ : _ ∧ k_ ≠ gb280))) (fun _ hk => hk.2) (.int .i64 t273)) (fun _ hk => hk.2) (.slice Ao43 t274.length co43)) (by first | exact (by first | exact (fun _ hk => ⟨hk.1.1.1.1, ⟨hk.1.1.2, ⟨hk.1.1.1.2, hk.1.2⟩⟩⟩) | (intro k_ hk_; grind)) | (intro k_ hk_; grind))⟩
                        have n4_ : Aside0 (Kd.V (Kd.int .i64) 3 ((w40.setCell ⟨gb280, 0, none⟩ (.int .i64 t273)).setCell ⟨gb280, 1, none⟩ (.slice Ao43 t274.length co43)) w.heap.size (fun k_ => some k_ ≠ (v250 : Value).ownBlock ∧ some k_ ≠ (v278 : Value).ownBlock ∧ k_ ≠ gb272 ∧ k_ ≠ gb280) (.slice Ao43 t274.length co43) t274) := ⟨by (with_reducible repeat (first | apply Kd.V_alloc | apply Kd.V_drewN | apply Kd.V_drew)); exact Kd.V_mono (Kd.V_far (p := ⟨gb280, 1, none⟩) (Kd.V_far (p := ⟨gb280, 0, none⟩) (Kd.V_mono HO276.out (fun k_ hk => (⟨hk, hk.2⟩ : _ ∧ k_ ≠ gb280))) (fun _ hk => hk.2) (.int .i64 t273)) (fun _ hk => hk.2) (.slice Ao43 t274.length co43)) (by first | exact (by first | exact (fun _ hk => ⟨hk.1.1.2.1, ⟨hk.1.1.1, ⟨hk.1.1.2.2, hk.1.2⟩⟩⟩) | (intro k_ hk_; grind)) | (intro k_ hk_; grind))⟩
                        have n5_ : Aside0 (Kd.N k41 41 ((w40.setCell ⟨gb280, 0, none⟩ (.int .i64 t273)).setCell ⟨gb280, 1, none⟩ (.slice Ao43 t274.length co43)) w.heap.size (fun k_ => some k_ ≠ (v250 : Value).ownBlock ∧ k_ ≠ gb272 ∧ k_ ≠ gb280) v278 t277) := ⟨by (with_reducible repeat (first | apply Kd.N_alloc | apply Kd.N_drewN | apply Kd.N_drew)); exact Kd.N_mono (Kd.N_far (p := ⟨gb280, 1, none⟩) (Kd.N_far (p := ⟨gb280, 0, none⟩) (Kd.N_mono HO279.out (fun k_ hk => (⟨hk, hk.2⟩ : _ ∧ k_ ≠ gb280))) (fun _ hk => hk.2) (.int .i64 t273)) (fun _ hk => hk.2) (.slice Ao43 t274.length co43)) (by first | exact (by first | exact (fun _ hk => ⟨hk.1.1.1, ⟨hk.1.1.2, hk.1.2⟩⟩) | (intro k_ hk_; grind)) | (intro k_ hk_; grind))⟩
                        have n6_ : Aside0 (((w40.setCell ⟨gb280, 0, none⟩ (.int .i64 t273)).setCell ⟨gb280, 1, none⟩ (.slice Ao43 t274.length co43)).heap[gb272]? = some (.cells #[.int .i64 t265, .slice Ao36 t266.length co36] 41 (0, 0))) := ⟨by (with_reducible repeat (first | refine blk_drewN ?_ _ | refine blk_drew ?_ | refine blk_alloc ?_ _)); refine blk_far ?_ NB272_280.out _; (with_reducible repeat (first | refine blk_drewN ?_ _ | refine blk_drew ?_ | refine blk_alloc ?_ _)); refine blk_far ?_ NB272_280.out _; (with_reducible repeat (first | refine blk_drewN ?_ _ | refine blk_drew ?_ | refine blk_alloc ?_ _)); exact BK272.out⟩
                        have n7_ : Aside0 (((w40.setCell ⟨gb280, 0, none⟩ (.int .i64 t273)).setCell ⟨gb280, 1, none⟩ (.slice Ao43 t274.length co43)).heap[gb280]? = some (.cells #[.int .i64 t273, .slice Ao43 t274.length co43] 41 (0, 0))) := ⟨by (with_reducible repeat (first | refine blk_drewN ?_ _ | refine blk_drew ?_ | refine blk_alloc ?_ _)); refine blk_put (cs := #[.int .i64 t273, .slice none 0 0]) ?_ 1 _ rfl; (with_reducible repeat (first | refine blk_drewN ?_ _ | refine blk_drew ?_ | refine blk_alloc ?_ _)); refine blk_put (cs := #[.int .i64 0, .slice none 0 0]) ?_ 0 _ rfl; (with_reducible repeat (first | refine blk_drewN ?_ _ | refine blk_drew ?_ | refine blk_alloc ?_ _)); exact BK280.out⟩
                        have n8_ : Aside0 (Below w.heap.size w ((w40.setCell ⟨gb280, 0, none⟩ (.int .i64 t273)).setCell ⟨gb280, 1, none⟩ (.slice Ao43 t274.length co43))) := ⟨by repeat (first | (with_reducible first | exact HB.out | apply below_alloc | apply pw_below_drewN | apply below_drew1 | refine below_set ?_ GE272.out | refine below_set ?_ GE280.out) | exact HB.out)⟩
                        (try clear HO_3)
                        (try clear HO_4)
                        (try clear HO268)
                        (try clear HO271)
                        (try clear HO276)
                        (try clear HO279)
                        (try clear BK272)
                        (try clear BK280)
                        (try clear HB)
                        generalize ((w40.setCell ⟨gb280, 0, none⟩ (.int .i64 t273)).setCell ⟨gb280, 1, none⟩ (.slice Ao43 t274.length co43)) = w44 at n0_ n1_ n2_ n3_ n4_ n5_ n6_ n7_ n8_ ⊢
                        have HO_3 := n0_
                        have HO_4 := n1_
                        have HO268 := n2_
                        have HO271 := n3_
                        have HO276 := n4_
                        have HO279 := n5_
                        have BK272 := n6_
                        have BK280 := n7_
                        have HB := n8_
                        clear n0_ n1_ n2_ n3_ n4_ n5_ n6_ n7_ n8_
                        have n0_ := Aside0.mk (Kd.R_drew HO_3.out)
                        have n1_ := Aside0.mk (Kd.N_drew HO_4.out)
                        have n2_ := Aside0.mk (Kd.V_drew HO268.out)
                        have n3_ := Aside0.mk (Kd.N_drew HO271.out)
                        have n4_ := Aside0.mk (Kd.V_drew HO276.out)
                        have n5_ := Aside0.mk (Kd.N_drew HO279.out)
                        have n6_ := Aside0.mk (blk_drew BK272.out)
                        have n7_ := Aside0.mk (blk_drew BK280.out)
                        have n8_ := Aside0.mk (below_drew1 HB.out)
                        clear HO_3
                        clear HO_4
                        clear HO268
                        clear HO271
                        clear HO276
                        clear HO279
                        clear BK272
                        clear BK280
                        clear HB
                        have HO_3 := n0_
                        have HO_4 := n1_
                        have HO268 := n2_
                        have HO271 := n3_
                        have HO276 := n4_
                        have HO279 := n5_
                        have BK272 := n6_
                        have BK280 := n7_
                        have HB := n8_
                        clear n0_ n1_ n2_ n3_ n4_ n5_ n6_ n7_ n8_
                        refine start_ (n := 8) (S := fun w' => w'.cell? ⟨gb272, 0, none⟩ = some (.int .i64 t265) ∧ w'.cell? ⟨gb272, 1, none⟩ = some (.slice Ao36 t266.length co36) ∧ w'.cell? ⟨gb280, 0, none⟩ = some (.int .i64 t273) ∧ w'.cell? ⟨gb280, 1, none⟩ = some (.slice Ao43 t274.length co43)) (ds := []) #[false, false, false, false, false, false, false, false] (by kernel_rfl) rfl rfl ⟨(blk_cell BK272.out 0).trans rfl, (blk_cell BK272.out 1).trans rfl, (blk_cell BK280.out 0).trans rfl, (blk_cell BK280.out 1).trans rfl⟩ (fun hHeld => ?_); refine with_tabW impl_depths.tab15 impl_depths.bits15 (fun HT_ HW_ => ?_)
                        generalize w44.drew = w45 at HO_3 HO_4 HO268 HO271 HO276 HO279 BK272 BK280 HB hHeld ⊢
                        refine pure_ (i := 1) (N := some 61) (v := ?_) (a' := ?_) #[false, true, false, false, false, false, false, false] rfl rfl (any_of HT_.out (by kernel_rfl)) (fun _ _ _ h => h) (Or.inl ⟨by rfl, ?_⟩) ?_ ?_
                        rotate_left
                        · intro w'
                          go_simp
                          with_reducible rfl
                        rotate_left
                        · simp only [Act.put, List.setIfInBounds_toArray, List.set_cons_zero, List.set_cons_succ, i64_w, i32_w]
                          rfl
                        refine pure_ (i := 4) (N := some 64) (v := ?_) (a' := ?_) #[false, true, false, false, true, false, false, false] rfl rfl (any_of HT_.out (by kernel_rfl)) (fun _ _ _ h => h) (Or.inl ⟨by rfl, ?_⟩) ?_ ?_
                        rotate_left
                        · intro w'
                          go_simp
                          with_reducible rfl
                        rotate_left
                        · simp only [Act.put, List.setIfInBounds_toArray, List.set_cons_zero, List.set_cons_succ, i64_w, i32_w]
                          rfl
                        refine take_ (i := 2) (N := some 62) (v := ?_) (a' := ?_) #[false, true, true, false, true, false, false, false] rfl rfl (take_ofW HT_.out HW_.out (by kernel_rfl)) (fun _ _ _ h => h) (Or.inl ⟨by rfl, ?_⟩) hHeld ?_ ?_
                        rotate_left
                        · rintro w' ⟨s0, s1, s2, s3⟩
                          go_simp
                          with_reducible rfl
                        rotate_left
                        · simp only [Act.put, List.setIfInBounds_toArray, List.set_cons_zero, List.set_cons_succ, i64_w, i32_w]
                          rfl
                        refine take_ (i := 5) (N := some 65) (v := ?_) (a' := ?_) #[false, true, true, false, true, true, false, false] rfl rfl (take_ofW HT_.out HW_.out (by kernel_rfl)) (fun _ _ _ h => h) (Or.inl ⟨by rfl, ?_⟩) hHeld ?_ ?_
                        rotate_left
                        · rintro w' ⟨s0, s1, s2, s3⟩
                          go_simp
                          with_reducible rfl
                        rotate_left
                        · simp only [Act.put, List.setIfInBounds_toArray, List.set_cons_zero, List.set_cons_succ, i64_w, i32_w]
                          rfl
                        refine one_ (i := 0) (N := some 60) #[true, true, true, false, true, true, false, false] rfl rfl (one_of HT_.out (by kernel_rfl)) (by decide) (fun K hK => ?_)
                        refine Kd.R_lit_step (Kd.int .i64) _ 3 ?hg (N := 60) ?hd (xs := ([] : List Int)) (inner := []) (ok := fun _ => True) (okp := fun _ => True) ?hr ?hp (fun _ hk => hk) trivial (Below.refl _ _) (Nat.le_refl _) (by simp) ?_; (case hd => rfl); (case hg => rfl); (case hr => first | (go_simp; done) | (go_simp; rfl)); (case hp => exact (Reps.none _ _))
                        intro v282 w46 ho47 hb hg_ hnew_
                        clear hg_ hnew_
                        (first | rw [← Ny281.out] at ho47 | (simp only [Int.reduceToNat] at ho47; rw [← Ny281.out] at ho47))
                        have n0_ := Aside0.mk (Kd.R_elder' (by (with_reducible repeat (first | apply Kd.R_alloc | apply Kd.R_drewN | apply Kd.R_drew)); exact HO_3.out) (Kd.R_base ho47) hb)
                        have n1_ := Aside0.mk (Kd.N_elder' (by (with_reducible repeat (first | apply Kd.N_alloc | apply Kd.N_drewN | apply Kd.N_drew)); exact HO_4.out) (Kd.R_base ho47) hb)
                        have n2_ := Aside0.mk (Kd.V_elder' (by (with_reducible repeat (first | apply Kd.V_alloc | apply Kd.V_drewN | apply Kd.V_drew)); exact HO268.out) (Kd.R_base ho47) hb)
                        have n3_ := Aside0.mk (Kd.N_elder' (by (with_reducible repeat (first | apply Kd.N_alloc | apply Kd.N_drewN | apply Kd.N_drew)); exact HO271.out) (Kd.R_base ho47) hb)
                        have n4_ := Aside0.mk (Kd.V_elder' (by (with_reducible repeat (first | apply Kd.V_alloc | apply Kd.V_drewN | apply Kd.V_drew)); exact HO276.out) (Kd.R_base ho47) hb)
                        have n5_ := Aside0.mk (Kd.N_elder' (by (with_reducible repeat (first | apply Kd.N_alloc | apply Kd.N_drewN | apply Kd.N_drew)); exact HO279.out) (Kd.R_base ho47) hb)
                        have n6_ := Aside0.mk (Kd.R_lower (Kd.R_new' ho47 (Kd.R_lt (by (with_reducible repeat (first | apply Kd.R_alloc | apply Kd.R_drewN | apply Kd.R_drew)); exact HO_3.out))) (below_size (by repeat (first | (with_reducible first | exact HB.out | apply below_alloc | apply pw_below_drewN | apply below_drew1 | refine below_set ?_ GE272.out | refine below_set ?_ GE280.out) | exact HB.out))))
                        have n7_ := Aside0.mk (blk_below (g := gb272) (o := .cells #[.int .i64 t265, .slice Ao36 t266.length co36] 41 (0, 0)) (by (with_reducible repeat (first | refine blk_drewN ?_ _ | refine blk_drew ?_ | refine blk_alloc ?_ _)); exact BK272.out) hb)
                        have n8_ := Aside0.mk (blk_below (g := gb280) (o := .cells #[.int .i64 t273, .slice Ao43 t274.length co43] 41 (0, 0)) (by (with_reducible repeat (first | refine blk_drewN ?_ _ | refine blk_drew ?_ | refine blk_alloc ?_ _)); exact BK280.out) hb)
                        have n9_ := Aside0.mk (below_step (by repeat (first | (with_reducible first | exact HB.out | apply below_alloc | apply pw_below_drewN | apply below_drew1 | refine below_set ?_ GE272.out | refine below_set ?_ GE280.out) | exact HB.out)) hb)
                        clear HO_3
                        clear HO_4
                        clear HO268
                        clear HO271
                        clear HO276
                        clear HO279
                        clear BK272
                        clear BK280
                        clear HB
                        have HO_3 := n0_
                        have HO_4 := n1_
                        have HO268 := n2_
                        have HO271 := n3_
                        have HO276 := n4_
                        have HO279 := n5_
                        have HO283 := n6_
                        have BK272 := n7_
                        have BK280 := n8_
                        have HB := n9_
                        clear n0_ n1_ n2_ n3_ n4_ n5_ n6_ n7_ n8_ n9_
                        clear hb ho47
                        refine hK.out _ _ ⟨(blk_cell BK272.out 0).trans rfl, (blk_cell BK272.out 1).trans rfl, (blk_cell BK280.out 0).trans rfl, (blk_cell BK280.out 1).trans rfl⟩ (fun hHeld => ?_)
                        clear hK K
                        refine norm_ (a' := ?_) ?_ ?_
                        rotate_left
                        · show Act.put _ (some 60) _ = _
                          simp only [Act.put, List.setIfInBounds_toArray, List.set_cons_zero, List.set_cons_succ, i64_w, i32_w]
                          rfl
                        refine one_ (i := 3) (N := some 63) #[true, true, true, true, true, true, false, false] rfl rfl (one_of HT_.out (by kernel_rfl)) (by decide) (fun K hK => ?_)
                        refine Kd.R_append_rows_step (Kd.int .i64) (w0 := w) w.heap.size (by rfl) (.tmp 60) (.tmp 62) 22 3 (.int .i64 0) 8 rfl Try.underlying22 info3 rfl (by decide) (by omega) v282 y281 t266 _ _ _ (fun k_ => some k_ ≠ (v250 : Value).ownBlock) (fun _ => False) rfl rfl ?aO ?aR (fun _ _ h => h) (fun _ h => h.elim) ?aF ?aB ?aS ?aL ?_
                        (case aR => repeat (first | exact (Kd.V_reads' HO268.out).2.2 | (with_reducible refine Kd.C_alloc ?_ _) | (with_reducible refine Kd.C_drewN ?_ _) | (with_reducible refine Kd.C_drew ?_)))
                        (case aB => exact (by repeat (first | (with_reducible first | exact HB.out | apply below_alloc | apply pw_below_drewN | apply below_drew1 | refine below_set ?_ GE272.out | refine below_set ?_ GE280.out) | exact HB.out)))
                        (case aF => exact (fun k_ hk => Kd.fresh' (Kd.R_lt (by (with_reducible repeat (first | apply Kd.R_alloc | apply Kd.R_drewN | apply Kd.R_drew)); exact HO_3.out)) k_ hk))
                        (case aO => exact (by (with_reducible repeat (first | apply Kd.R_alloc | apply Kd.R_drewN | apply Kd.R_drew)); exact Kd.R_mono HO283.out (fun _ hk => hk.2)))
                        (case aS => exact (below_size (by repeat (first | (with_reducible first | exact HB.out | apply below_alloc | apply pw_below_drewN | apply below_drew1 | refine below_set ?_ GE272.out | refine below_set ?_ GE280.out) | exact HB.out))))
                        (case aL => have := LMc30.out; omega)
                        intro v285 w48 ho hb hg hat
                        rw [← Ny284.out] at ho
                        have n0_ := Aside0.mk (Kd.R_after (ok := (fun _ => True)) (by (with_reducible repeat (first | apply Kd.R_alloc | apply Kd.R_drewN | apply Kd.R_drew)); exact HO_3.out) hg hat)
                        have n1_ := Aside0.mk (Kd.N_afterv (ok := (fun k_ => some k_ ≠ (v250 : Value).ownBlock ∧ some k_ ≠ (.slice Ao38 t269.length co38 : Value).ownBlock ∧ some k_ ≠ (v278 : Value).ownBlock ∧ k_ ≠ gb272 ∧ k_ ≠ gb280)) (by (with_reducible repeat (first | apply Kd.N_alloc | apply Kd.N_drewN | apply Kd.N_drew)); exact HO_4.out) hg hat)
                        have n2_ := Aside0.mk (Kd.V_afterv (ok := (fun k_ => some k_ ≠ (v250 : Value).ownBlock ∧ some k_ ≠ (.slice Ao38 t269.length co38 : Value).ownBlock ∧ some k_ ≠ (v278 : Value).ownBlock ∧ k_ ≠ gb272 ∧ k_ ≠ gb280)) (by (with_reducible repeat (first | apply Kd.V_alloc | apply Kd.V_drewN | apply Kd.V_drew)); exact HO268.out) hg hat)
                        have n3_ := Aside0.mk (Kd.N_afterv (ok := (fun k_ => some k_ ≠ (v250 : Value).ownBlock ∧ some k_ ≠ (v278 : Value).ownBlock ∧ k_ ≠ gb272 ∧ k_ ≠ gb280)) (by (with_reducible repeat (first | apply Kd.N_alloc | apply Kd.N_drewN | apply Kd.N_drew)); exact HO271.out) hg hat)
                        have n4_ := Aside0.mk (blk_grown (g := gb272) (o := .cells #[.int .i64 t265, .slice Ao36 t266.length co36] 41 (0, 0)) (by (with_reducible repeat (first | refine blk_drewN ?_ _ | refine blk_drew ?_ | refine blk_alloc ?_ _)); exact BK272.out) hg (Kd.R_ne HO283.out BK272.out (by decide)))
                        have n5_ := Aside0.mk (Kd.V_afterv (ok := (fun k_ => some k_ ≠ (v250 : Value).ownBlock ∧ some k_ ≠ (v278 : Value).ownBlock ∧ k_ ≠ gb272 ∧ k_ ≠ gb280)) (by (with_reducible repeat (first | apply Kd.V_alloc | apply Kd.V_drewN | apply Kd.V_drew)); exact HO276.out) hg hat)
                        have n6_ := Aside0.mk (Kd.N_afterv (ok := (fun k_ => some k_ ≠ (v250 : Value).ownBlock ∧ k_ ≠ gb272 ∧ k_ ≠ gb280)) (by (with_reducible repeat (first | apply Kd.N_alloc | apply Kd.N_drewN | apply Kd.N_drew)); exact HO279.out) hg hat)
                        have n7_ := Aside0.mk (blk_grown (g := gb280) (o := .cells #[.int .i64 t273, .slice Ao43 t274.length co43] 41 (0, 0)) (by (with_reducible repeat (first | refine blk_drewN ?_ _ | refine blk_drew ?_ | refine blk_alloc ?_ _)); exact BK280.out) hg (Kd.R_ne HO283.out BK280.out (by decide)))
                        have n8_ := Aside0.mk (hb)
                        have n9_ := Aside0.mk (ho)
                        clear HO_3
                        clear HO_4
                        clear HO268
                        clear HO271
                        clear BK272
                        clear HO276
                        clear HO279
                        clear BK280
                        clear HB
                        clear HO283
                        have HO_3 := n0_
                        have HO_4 := n1_
                        have HO268 := n2_
                        have HO271 := n3_
                        have BK272 := n4_
                        have HO276 := n5_
                        have HO279 := n6_
                        have BK280 := n7_
                        have HB := n8_
                        have HO286 := n9_
                        clear n0_ n1_ n2_ n3_ n4_ n5_ n6_ n7_ n8_ n9_
                        clear ho hb hg hat
                        refine hK.out _ _ ⟨(blk_cell BK272.out 0).trans rfl, (blk_cell BK272.out 1).trans rfl, (blk_cell BK280.out 0).trans rfl, (blk_cell BK280.out 1).trans rfl⟩ (fun hHeld => ?_)
                        clear hK K
                        refine norm_ (a' := ?_) ?_ ?_
                        rotate_left
                        · show Act.put _ (some 63) _ = _
                          simp only [Act.put, List.setIfInBounds_toArray, List.set_cons_zero, List.set_cons_succ, i64_w, i32_w]
                          rfl
                        refine one_ (i := 6) (N := some 66) #[true, true, true, true, true, true, true, false] rfl rfl (one_of HT_.out (by kernel_rfl)) (by decide) (fun K hK => ?_)
                        refine Kd.R_append_rows_step (Kd.int .i64) (w0 := w) w.heap.size (by rfl) (.tmp 63) (.tmp 65) 22 3 (.int .i64 0) 8 rfl Try.underlying22 info3 rfl (by decide) (by omega) v285 y284 t274 _ _ _ (fun k_ => some k_ ≠ (v250 : Value).ownBlock) (fun _ => False) rfl rfl ?aO ?aR (fun _ _ h => h) (fun _ h => h.elim) ?aF ?aB ?aS ?aL ?_
                        (case aR => repeat (first | exact (Kd.V_reads' HO276.out).2.2 | (with_reducible refine Kd.C_alloc ?_ _) | (with_reducible refine Kd.C_drewN ?_ _) | (with_reducible refine Kd.C_drew ?_)))
                        (case aB => exact (by repeat (first | (with_reducible first | exact HB.out | apply below_alloc | apply pw_below_drewN | apply below_drew1 | refine below_set ?_ GE272.out | refine below_set ?_ GE280.out) | exact HB.out)))
                        (case aF => exact (fun k_ hk => Kd.fresh' (Kd.R_lt (by (with_reducible repeat (first | apply Kd.R_alloc | apply Kd.R_drewN | apply Kd.R_drew)); exact HO_3.out)) k_ hk))
                        (case aO => exact (by (with_reducible repeat (first | apply Kd.R_alloc | apply Kd.R_drewN | apply Kd.R_drew)); exact HO286.out))
                        (case aS => exact (below_size (by repeat (first | (with_reducible first | exact HB.out | apply below_alloc | apply pw_below_drewN | apply below_drew1 | refine below_set ?_ GE272.out | refine below_set ?_ GE280.out) | exact HB.out))))
                        (case aL => have := LMc31.out; omega)
                        intro v288 w49 ho hb hg hat
                        rw [← Ny287.out] at ho
                        have n0_ := Aside0.mk (Kd.R_after (ok := (fun _ => True)) (by (with_reducible repeat (first | apply Kd.R_alloc | apply Kd.R_drewN | apply Kd.R_drew)); exact HO_3.out) hg hat)
                        have n1_ := Aside0.mk (Kd.N_afterv (ok := (fun k_ => some k_ ≠ (v250 : Value).ownBlock ∧ some k_ ≠ (.slice Ao38 t269.length co38 : Value).ownBlock ∧ some k_ ≠ (v278 : Value).ownBlock ∧ k_ ≠ gb272 ∧ k_ ≠ gb280)) (by (with_reducible repeat (first | apply Kd.N_alloc | apply Kd.N_drewN | apply Kd.N_drew)); exact HO_4.out) hg hat)
                        have n2_ := Aside0.mk (Kd.V_afterv (ok := (fun k_ => some k_ ≠ (v250 : Value).ownBlock ∧ some k_ ≠ (.slice Ao38 t269.length co38 : Value).ownBlock ∧ some k_ ≠ (v278 : Value).ownBlock ∧ k_ ≠ gb272 ∧ k_ ≠ gb280)) (by (with_reducible repeat (first | apply Kd.V_alloc | apply Kd.V_drewN | apply Kd.V_drew)); exact HO268.out) hg hat)
                        have n3_ := Aside0.mk (Kd.N_afterv (ok := (fun k_ => some k_ ≠ (v250 : Value).ownBlock ∧ some k_ ≠ (v278 : Value).ownBlock ∧ k_ ≠ gb272 ∧ k_ ≠ gb280)) (by (with_reducible repeat (first | apply Kd.N_alloc | apply Kd.N_drewN | apply Kd.N_drew)); exact HO271.out) hg hat)
                        have n4_ := Aside0.mk (blk_grown (g := gb272) (o := .cells #[.int .i64 t265, .slice Ao36 t266.length co36] 41 (0, 0)) (by (with_reducible repeat (first | refine blk_drewN ?_ _ | refine blk_drew ?_ | refine blk_alloc ?_ _)); exact BK272.out) hg (Kd.R_ne HO286.out BK272.out (by decide)))
                        have n5_ := Aside0.mk (Kd.V_afterv (ok := (fun k_ => some k_ ≠ (v250 : Value).ownBlock ∧ some k_ ≠ (v278 : Value).ownBlock ∧ k_ ≠ gb272 ∧ k_ ≠ gb280)) (by (with_reducible repeat (first | apply Kd.V_alloc | apply Kd.V_drewN | apply Kd.V_drew)); exact HO276.out) hg hat)
                        have n6_ := Aside0.mk (Kd.N_afterv (ok := (fun k_ => some k_ ≠ (v250 : Value).ownBlock ∧ k_ ≠ gb272 ∧ k_ ≠ gb280)) (by (with_reducible repeat (first | apply Kd.N_alloc | apply Kd.N_drewN | apply Kd.N_drew)); exact HO279.out) hg hat)
                        have n7_ := Aside0.mk (blk_grown (g := gb280) (o := .cells #[.int .i64 t273, .slice Ao43 t274.length co43] 41 (0, 0)) (by (with_reducible repeat (first | refine blk_drewN ?_ _ | refine blk_drew ?_ | refine blk_alloc ?_ _)); exact BK280.out) hg (Kd.R_ne HO286.out BK280.out (by decide)))
                        have n8_ := Aside0.mk (hb)
                        have n9_ := Aside0.mk (ho)
                        clear HO_3
                        clear HO_4
                        clear HO268
                        clear HO271
                        clear BK272
                        clear HO276
                        clear HO279
                        clear BK280
                        clear HB
                        clear HO286
                        have HO_3 := n0_
                        have HO_4 := n1_
                        have HO268 := n2_
                        have HO271 := n3_
                        have BK272 := n4_
                        have HO276 := n5_
                        have HO279 := n6_
                        have BK280 := n7_
                        have HB := n8_
                        have HO289 := n9_
                        clear n0_ n1_ n2_ n3_ n4_ n5_ n6_ n7_ n8_ n9_
                        clear ho hb hg hat
                        refine hK.out _ _ ⟨(blk_cell BK272.out 0).trans rfl, (blk_cell BK272.out 1).trans rfl, (blk_cell BK280.out 0).trans rfl, (blk_cell BK280.out 1).trans rfl⟩ (fun hHeld => ?_)
                        clear hK K
                        refine norm_ (a' := ?_) ?_ ?_
                        rotate_left
                        · show Act.put _ (some 66) _ = _
                          simp only [Act.put, List.setIfInBounds_toArray, List.set_cons_zero, List.set_cons_succ, i64_w, i32_w]
                          rfl
                        refine pure_ (i := 7) (N := some 11) (v := ?_) (a' := ?_) #[true, true, true, true, true, true, true, true] rfl rfl (any_of HT_.out (by kernel_rfl)) (fun _ _ _ h => h) (Or.inl ⟨by rfl, ?_⟩) ?_ ?_
                        rotate_left
                        · intro w'
                          go_simp
                          with_reducible rfl
                        rotate_left
                        · simp only [Act.put, List.setIfInBounds_toArray, List.set_cons_zero, List.set_cons_succ, i64_w, i32_w]
                          rfl
                        refine done_ (done_of HT_.out (by kernel_rfl)) ?_
                        obtain ⟨Ao50, co50, eo50⟩ := Kd.R_slice HO289.out
                        subst eo50
                        try go_wp2
                        go_loopg [69] k2 (fun kq v69 w' => ∃ (x3_3 : List Int) (x11_3 : List Int) (x69_3 : Int), v69 = .int .i64 x69_3 ∧ Aside0 (impl_depths.l2 kq x3_3 t277 x11_3 (y287.length : Int) x69_3 t265 t266 t273 t274 = some r) ∧ Aside0 (kq ≤ k2) ∧ Aside0 (Kd.R (Kd.int .i64) 3 w' w.heap.size (fun k_ => some k_ ≠ ((.slice Ao50 y287.length co50) : Value).ownBlock) v250 x3_3) ∧ Aside0 (Kd.N k41 41 w' w.heap.size (fun k_ => some k_ ≠ (v250 : Value).ownBlock ∧ some k_ ≠ ((.slice Ao50 y287.length co50) : Value).ownBlock ∧ k_ ≠ gb272 ∧ k_ ≠ gb280) v278 t277) ∧ Aside0 (Kd.R (Kd.int .i64) 3 w' w.heap.size (fun k_ => some k_ ≠ (v250 : Value).ownBlock) (.slice Ao50 y287.length co50) x11_3) ∧ Aside0 (Kd.V (Kd.int .i64) 3 w' w.heap.size (fun k_ => some k_ ≠ (v250 : Value).ownBlock ∧ some k_ ≠ (v278 : Value).ownBlock ∧ some k_ ≠ ((.slice Ao50 y287.length co50) : Value).ownBlock ∧ k_ ≠ gb272 ∧ k_ ≠ gb280) (.slice Ao36 t266.length co36) t266) ∧ Aside0 (Kd.V (Kd.int .i64) 3 w' w.heap.size (fun k_ => some k_ ≠ (v250 : Value).ownBlock ∧ some k_ ≠ (v278 : Value).ownBlock ∧ some k_ ≠ ((.slice Ao50 y287.length co50) : Value).ownBlock ∧ k_ ≠ gb272 ∧ k_ ≠ gb280) (.slice Ao43 t274.length co43) t274) ∧ Aside0 (w'.heap[gb272]? = some (.cells #[.int .i64 t265, (.slice Ao36 t266.length co36)] 41 (0, 0))) ∧ Aside0 (w'.heap[gb280]? = some (.cells #[.int .i64 t273, (.slice Ao43 t274.length co43)] 41 (0, 0))) ∧ Aside0 (Below w.heap.size w w'))
                        case atStart => exact ⟨(x3_2), (y287), (0), (by first | rfl | (simp; done) | (simp [*]; done)), H', ⟨Nat.le_refl _⟩, ⟨by (with_reducible repeat (first | apply Kd.R_alloc | apply Kd.R_drewN | apply Kd.R_drew)); exact Kd.R_mono HO_3.out (fun _ hk => hk.2)⟩, ⟨by (with_reducible repeat (first | apply Kd.N_alloc | apply Kd.N_drewN | apply Kd.N_drew)); exact Kd.N_mono HO279.out (by first | exact (by first | exact (fun _ hk => ⟨hk.1.1, ⟨hk.2, ⟨hk.1.2.1, hk.1.2.2⟩⟩⟩) | (intro k_ hk_; grind)) | (intro k_ hk_; grind))⟩, ⟨by (with_reducible repeat (first | apply Kd.R_alloc | apply Kd.R_drewN | apply Kd.R_drew)); exact HO289.out⟩, ⟨by (with_reducible repeat (first | apply Kd.V_alloc | apply Kd.V_drewN | apply Kd.V_drew)); exact Kd.V_mono HO268.out (by first | exact (by first | exact (fun _ hk => ⟨hk.1.1, ⟨hk.1.2.2.1, ⟨hk.2, ⟨hk.1.2.2.2.1, hk.1.2.2.2.2⟩⟩⟩⟩) | (intro k_ hk_; grind)) | (intro k_ hk_; grind))⟩, ⟨by (with_reducible repeat (first | apply Kd.V_alloc | apply Kd.V_drewN | apply Kd.V_drew)); exact Kd.V_mono HO276.out (by first | exact (by first | exact (fun _ hk => ⟨hk.1.1, ⟨hk.1.2.1, ⟨hk.2, ⟨hk.1.2.2.1, hk.1.2.2.2⟩⟩⟩⟩) | (intro k_ hk_; grind)) | (intro k_ hk_; grind))⟩, ⟨by (with_reducible repeat (first | refine blk_drewN ?_ _ | refine blk_drew ?_ | refine blk_alloc ?_ _)); exact BK272.out⟩, ⟨by (with_reducible repeat (first | refine blk_drewN ?_ _ | refine blk_drew ?_ | refine blk_alloc ?_ _)); exact BK280.out⟩, ⟨by repeat (first | (with_reducible first | exact HB.out | apply below_alloc | apply pw_below_drewN | apply below_drew1 | refine below_set ?_ GE272.out | refine below_set ?_ GE280.out) | exact HB.out)⟩⟩
                        case round =>
                          clear H'
                          try clear c1
                          try clear c2
                          try clear c2b0
                          try clear c2b1
                          try clear p2
                          try clear q2
                          try clear hx2
                          try clear qi2
                          try clear hf2
                          try clear c3
                          try clear c3b0
                          try clear c3b1
                          try clear c4
                          try clear p6
                          try clear c8
                          try clear c8b0
                          try clear c9
                          try clear c9b0
                          try clear c10
                          try clear c10b0
                          try clear c11
                          try clear c11b0
                          try clear c12
                          try clear c17
                          try clear c17b0
                          try clear c17b1
                          try clear c18
                          try clear c18b0
                          try clear c18b1
                          try clear c19
                          try clear c19b0
                          try clear c19b1
                          try clear c20
                          try clear c20b0
                          try clear c21
                          try clear c21b0
                          try clear p22
                          try clear q22
                          try clear hx22
                          try clear hf22
                          try clear p25
                          try clear q25
                          try clear hx25
                          try clear c26
                          try clear p26
                          try clear q26
                          try clear hx26
                          try clear qi26
                          try clear c27
                          try clear c27b0
                          try clear c27b1
                          try clear c30
                          try clear c31
                          try clear c35
                          try clear c41
                          try clear hcz35_0
                          try clear hcz35_1
                          try clear hcz42_0
                          try clear hcz42_1
                          try clear hfz35_0
                          try clear hfz35_1
                          try clear hfz42_0
                          try clear hfz42_1
                          try clear hx22_0
                          try clear hx255_0
                          try clear hx262_0
                          try clear hx262_1
                          try clear hx263_0
                          try clear p2
                          try clear p22
                          try clear p25
                          try clear p255
                          try clear p26
                          try clear p262
                          try clear p263
                          try clear p6
                          try clear q2
                          try clear q22
                          try clear q25
                          try clear q255
                          try clear q26
                          try clear q262
                          try clear q263
                          obtain ⟨x3_3, x11_3, x69_3, rfl, HA, HK3, HO_3, HO_10, HO_11, HO_273001, HO_281001, BK272, BK280, HB⟩ := hrel
                          have hl11_3 := (Kd.R_reads' HO_11.out).1
                          rw [hl11_3] at HO_11
                          (try simp only [hl11_3])
                          (try simp only [hl11_3] at BK272)
                          (try simp only [hl11_3] at BK280)
                          (try simp only [hl11_3] at HO_3)
                          (try simp only [hl11_3] at HO_10)
                          (try simp only [hl11_3] at HO_273001)
                          (try simp only [hl11_3] at HO_281001)
                          cases gk with
                          | zero => exact absurd HA.out (by simp [impl_depths.l2])
                          | succ k3 =>
                            have H := HA.out
                            clear HA
                            simp only [impl_depths.l2] at H
                            by_cases c51 : x69_3 < (y287.length : Int)
                            · rw [if_pos c51] at H
                              have c51b0 : decide (x69_3 < (y287.length : Int)) = true := decide_eq_true c51
                              clear c51
                              by_cases c52 : 0 ≤ x69_3
                              · rw [if_pos c52] at H
                                have c52b0 : decide (0 ≤ x69_3) = true := decide_eq_true c52
                                clear c52
                                by_cases c53 : x69_3 < (x11_3.length : Int)
                                · rw [if_pos c53] at H
                                  have c53b0 : decide (x69_3 < (x11_3.length : Int)) = true := decide_eq_true c53
                                  clear c53
                                  by_cases c54 : 0 ≤ (rd x11_3 x69_3)
                                  · rw [if_pos c54] at H
                                    have c54b0 : decide (0 ≤ (rd x11_3 x69_3)) = true := decide_eq_true c54
                                    clear c54
                                    by_cases c55 : (rd x11_3 x69_3) < (x3_3.length : Int)
                                    · rw [if_pos c55] at H
                                      have c55b0 : decide ((rd x11_3 x69_3) < (x3_3.length : Int)) = true := decide_eq_true c55
                                      clear c55
                                      obtain ⟨y292, hy292⟩ : ∃ y_ : List Int, y_ = (x3_3.set ((rd x11_3 x69_3) : Int).toNat (wrap64 ((rd x3_3 (rd x11_3 x69_3)) + 1))) := ⟨_, rfl⟩
                                      replace H : (if 0 < (x11_3.length : Int) then (if (rd x11_3 x69_3) < (rd x11_3 0) then (impl_depths.l2 k3 y292 t277 ((x11_3.set (0 : Int).toNat (rd x11_3 x69_3)).set (x69_3 : Int).toNat (rd x11_3 0)) (y287.length : Int) (wrap64 (x69_3 + 1)) t265 t266 t273 t274) else (impl_depths.l2 k3 y292 t277 x11_3 (y287.length : Int) (wrap64 (x69_3 + 1)) t265 t266 t273 t274)) else (none)) = some r := by first | (rw [hy292]; with_reducible exact H) | (have H2_ := (Option.bind_some _ _).symm.trans H; rw [hy292]; with_reducible exact H2_) | (have H2_ := (Option.bind_some _ _).symm.trans H; with_reducible exact H2_) | with_reducible exact H | (rw [hy292]; exact H) | exact H
                                      have Ny292 := Aside0.mk hy292
                                      clear hy292
                                      by_cases c57 : 0 < (x11_3.length : Int)
                                      · rw [if_pos c57] at H
                                        have c57b0 : decide (0 < (x11_3.length : Int)) = true := decide_eq_true c57
                                        have c57b1 : decide (0 < x11_3.length) = true := decide_eq_true (by omega)
                                        clear c57
                                        by_cases c58 : (rd x11_3 x69_3) < (rd x11_3 0)
                                        · rw [if_pos c58] at H
                                          have c58b0 : decide ((rd x11_3 x69_3) < (rd x11_3 0)) = true := decide_eq_true c58
                                          clear c58
                                          obtain ⟨y295, hy295⟩ : ∃ y_ : List Int, y_ = (x11_3.set (0 : Int).toNat (rd x11_3 x69_3)) := ⟨_, rfl⟩
                                          replace H : (impl_depths.l2 k3 y292 t277 (y295.set (x69_3 : Int).toNat (rd x11_3 0)) (y287.length : Int) (wrap64 (x69_3 + 1)) t265 t266 t273 t274) = some r := by first | (rw [hy295]; with_reducible exact H) | (have H2_ := (Option.bind_some _ _).symm.trans H; rw [hy295]; with_reducible exact H2_) | (have H2_ := (Option.bind_some _ _).symm.trans H; with_reducible exact H2_) | with_reducible exact H | (rw [hy295]; exact H) | exact H
                                          have Ny295 := Aside0.mk hy295
                                          clear hy295
                                          obtain ⟨y296, hy296⟩ : ∃ y_ : List Int, y_ = (y295.set (x69_3 : Int).toNat (rd x11_3 0)) := ⟨_, rfl⟩
                                          replace H : (impl_depths.l2 k3 y292 t277 y296 (y287.length : Int) (wrap64 (x69_3 + 1)) t265 t266 t273 t274) = some r := by first | (rw [hy296]; with_reducible exact H) | (have H2_ := (Option.bind_some _ _).symm.trans H; rw [hy296]; with_reducible exact H2_) | (have H2_ := (Option.bind_some _ _).symm.trans H; with_reducible exact H2_) | with_reducible exact H | (rw [hy296]; exact H) | exact H
                                          have Ny296 := Aside0.mk hy296
                                          clear hy296
                                          have H' := Aside0.mk H
                                          clear H
                                          have p290 : 0 ≤ (x69_3 : Int) := of_decide_eq_true (by first | (with_reducible assumption) | assumption)
                                          have q290 : x69_3 < (x11_3.length : Int) := of_decide_eq_true (by first | (with_reducible assumption) | assumption)
                                          obtain ⟨ad290, e290, hx290_0⟩ := Kd.at_int (Kd.R_reads' HO_11.out).2.2 x69_3 p290 q290
                                          cases e290
                                          replace p290 := eq_true p290
                                          replace q290 := eq_true q290
                                          obtain ⟨Ao61, co61, eo61⟩ := Kd.R_slice HO_3.out
                                          subst eo61
                                          have p291 : 0 ≤ ((rd x11_3 x69_3) : Int) := of_decide_eq_true (by first | (with_reducible assumption) | assumption)
                                          have q291 : (rd x11_3 x69_3) < (x3_3.length : Int) := of_decide_eq_true (by first | (with_reducible assumption) | assumption)
                                          obtain ⟨ad291, e291, hx291_0⟩ := Kd.at_int (Kd.R_reads' HO_3.out).2.2 (rd x11_3 x69_3) p291 q291
                                          cases e291
                                          replace p291 := eq_true p291
                                          replace q291 := eq_true q291
                                          have p56 : 0 ≤ ((rd x11_3 x69_3) : Int) := of_decide_eq_true (by first | (with_reducible assumption) | assumption)
                                          have q56 : ((rd x11_3 x69_3) : Int) < ((x3_3.length : Int) : Int) := of_decide_eq_true (by first | (with_reducible assumption) | assumption)
                                          obtain ⟨go56, co56, eo56, gb56, gl56, cl56, HG56⟩ := Kd.R_form HO_3.out (by omega)
                                          (first | cases eo56 | (injection eo56 with ea_ en_ ec_; (first | subst ea_ | (injection ea_ with ea_; subst ea_)); subst ec_; clear en_))
                                          have GB56 := Aside0.mk gb56
                                          have GG56 := Aside0.mk HG56
                                          clear gb56 gl56 HG56
                                          (first | simp only [add_plain] at hx291_0 | skip)
                                          obtain ⟨hx56_0, hf56_0⟩ := Kd.R_celln 0 HO_3.out ((rd x11_3 x69_3) : Int) p56 q56
                                          replace p56 := eq_true p56
                                          replace q56 := eq_true q56
                                          have HP62 := Kd.R_putg HO_3.out ((rd x11_3 x69_3) : Int) (wrap64 ((rd x3_3 (rd x11_3 x69_3)) + 1))
                                          go_wp2_with (first | ((with_reducible refine gate_store (t := 3) (p := 79) rfl ?_); refine store_event (t := 3) (p := 79) (v := ?vo_w63) (w1 := (wr.setCell ⟨go56, ((rd x11_3 x69_3) : Int).toNat, none⟩ (.int .i64 (wrap64 ((rd x3_3 (rd x11_3 x69_3)) + 1))))) ?hg ?ho ?hn ?hr ?_; (case ho => rfl); (case hg => rfl); (case hn => rfl); (case hr => first | (go_simp; done) | (go_simp; rfl)); intro w63 hw; have hg : wr.grownBy w63 (some go56) := (by rw [hw]; exact HP62.2); have hp_ : Kd.R (Kd.int .i64) 3 w63 w.heap.size (fun k_ => some k_ ≠ (.slice (some ad290) x11_3.length co50 : Value).ownBlock) (.slice (some ⟨go56, 0, none⟩) x3_3.length co61) y292 := (by rw [hw, Ny292.out]; exact HP62.1); clear HP62; have n0_ := Aside0.mk (hp_); have n1_ := Aside0.mk (Kd.N_afterv (v := (.slice (some ⟨go56, 0, none⟩) x3_3.length co61)) (v1 := (.slice (some ⟨go56, 0, none⟩) x3_3.length co61)) (ok := (fun k_ => some k_ ≠ (.slice (some ad290) x11_3.length co50 : Value).ownBlock ∧ k_ ≠ gb272 ∧ k_ ≠ gb280)) (by (with_reducible repeat (first | apply Kd.N_alloc | apply Kd.N_drewN | apply Kd.N_drew)); exact Kd.N_mono HO_10.out (by first | exact (by first | exact (fun _ hk => ⟨⟨hk.2.1, ⟨hk.2.2.1, hk.2.2.2⟩⟩, hk.1⟩) | (intro k_ hk_; grind)) | (intro k_ hk_; grind))) hg (.inl rfl)); have n2_ := Aside0.mk (Kd.R_after (v := (.slice (some ⟨go56, 0, none⟩) x3_3.length co61)) (v1 := (.slice (some ⟨go56, 0, none⟩) x3_3.length co61)) (ok := (fun _ => True)) (by (with_reducible repeat (first | apply Kd.R_alloc | apply Kd.R_drewN | apply Kd.R_drew)); exact Kd.R_mono HO_11.out (by first | exact (by first | exact (fun _ hk => ⟨trivial, hk⟩) | (intro k_ hk_; grind)) | (intro k_ hk_; grind))) hg (.inl rfl)); have n3_ := Aside0.mk (Kd.V_afterv (v := (.slice (some ⟨go56, 0, none⟩) x3_3.length co61)) (v1 := (.slice (some ⟨go56, 0, none⟩) x3_3.length co61)) (ok := (fun k_ => some k_ ≠ (v278 : Value).ownBlock ∧ some k_ ≠ (.slice (some ad290) x11_3.length co50 : Value).ownBlock ∧ k_ ≠ gb272 ∧ k_ ≠ gb280)) (by (with_reducible repeat (first | apply Kd.V_alloc | apply Kd.V_drewN | apply Kd.V_drew)); exact Kd.V_mono HO_273001.out (by first | exact (by first | exact (fun _ hk => ⟨⟨hk.2.1, ⟨hk.2.2.1, ⟨hk.2.2.2.1, hk.2.2.2.2⟩⟩⟩, hk.1⟩) | (intro k_ hk_; grind)) | (intro k_ hk_; grind))) hg (.inl rfl)); have n4_ := Aside0.mk (Kd.V_afterv (v := (.slice (some ⟨go56, 0, none⟩) x3_3.length co61)) (v1 := (.slice (some ⟨go56, 0, none⟩) x3_3.length co61)) (ok := (fun k_ => some k_ ≠ (v278 : Value).ownBlock ∧ some k_ ≠ (.slice (some ad290) x11_3.length co50 : Value).ownBlock ∧ k_ ≠ gb272 ∧ k_ ≠ gb280)) (by (with_reducible repeat (first | apply Kd.V_alloc | apply Kd.V_drewN | apply Kd.V_drew)); exact Kd.V_mono HO_281001.out (by first | exact (by first | exact (fun _ hk => ⟨⟨hk.2.1, ⟨hk.2.2.1, ⟨hk.2.2.2.1, hk.2.2.2.2⟩⟩⟩, hk.1⟩) | (intro k_ hk_; grind)) | (intro k_ hk_; grind))) hg (.inl rfl)); have n5_ := Aside0.mk (blk_grown (g := gb272) (o := .cells #[.int .i64 t265, .slice Ao36 t266.length co36] 41 (0, 0)) (by (with_reducible repeat (first | refine blk_drewN ?_ _ | refine blk_drew ?_ | refine blk_alloc ?_ _)); exact BK272.out) hg (Kd.R_ne HO_3.out BK272.out (by decide))); have n6_ := Aside0.mk (blk_grown (g := gb280) (o := .cells #[.int .i64 t273, .slice Ao43 t274.length co43] 41 (0, 0)) (by (with_reducible repeat (first | refine blk_drewN ?_ _ | refine blk_drew ?_ | refine blk_alloc ?_ _)); exact BK280.out) hg (Kd.R_ne HO_3.out BK280.out (by decide))); have n7_ := Aside0.mk ((by rw [hw]; exact below_set (HB.out) GB56.out : Below w.heap.size w w63)); clear HO_3; clear HO_10; clear HO_11; clear HO_273001; clear HO_281001; clear BK272; clear BK280; clear HB; have HO_3 := n0_; have HO_10 := n1_; have HO_11 := n2_; have HO_273001 := n3_; have HO_281001 := n4_; have BK272 := n5_; have BK280 := n6_; have HB := n7_; clear n0_ n1_ n2_ n3_ n4_ n5_ n6_ n7_; clear hg hw hp_; have p293 : 0 ≤ (0 : Int) := (by omega); have q293 : 0 < (x11_3.length : Int) := of_decide_eq_true (by first | (with_reducible assumption) | assumption); obtain ⟨ad293, e293, hx293_0⟩ := Kd.at_int (Kd.R_reads' HO_11.out).2.2 0 p293 q293; obtain rfl : ad290 = ad293 := (by injection e293); have qi293 : (0 < x11_3.length) = True := eq_true (by omega); (try rw [show ((0 : Int)).toNat = 0 from rfl] at hx293_0); (try rw [Addr.add_zero'] at hx293_0); replace p293 := eq_true p293; replace q293 := eq_true q293; have p294 : 0 ≤ (0 : Int) := (by omega); have q294 : 0 < (x11_3.length : Int) := of_decide_eq_true (by first | (with_reducible assumption) | assumption); obtain ⟨ad294, e294, hx294_0⟩ := Kd.at_int (Kd.R_reads' HO_11.out).2.2 0 p294 q294; obtain rfl : ad290 = ad294 := (by injection e294); have qi294 : (0 < x11_3.length) = True := eq_true (by omega); (try rw [show ((0 : Int)).toNat = 0 from rfl] at hx294_0); (try rw [Addr.add_zero'] at hx294_0); replace p294 := eq_true p294; replace q294 := eq_true q294; have p59 : 0 ≤ (0 : Int) := (by omega); have q59 : (0 : Int) < ((x11_3.length : Int) : Int) := of_decide_eq_true (by first | (with_reducible assumption) | assumption); have qi59 : (0 < x11_3.length) = True := eq_true (by omega); obtain ⟨go59, co59, eo59, gb59, gl59, cl59, HG59⟩ := Kd.R_form HO_11.out (by omega); (first | cases eo59 | (injection eo59 with ea_ en_ ec_; (first | subst ea_ | (injection ea_ with ea_; subst ea_)); subst ec_; clear en_)); have GB59 := Aside0.mk gb59; have GG59 := Aside0.mk HG59; clear gb59 gl59 HG59; (first | simp only [add_plain] at hx290_0 | skip); (first | simp only [add_plain] at hx293_0 | skip); (first | simp only [add_plain] at hx294_0 | skip); obtain ⟨hx59_0, hf59_0⟩ := Kd.R_celln 0 HO_11.out (0 : Int) p59 q59; (try rw [show ((0 : Int)).toNat = 0 from rfl] at hx59_0); (try simp only [Nat.reduceMul, Nat.zero_mul, Nat.zero_add, Nat.reduceAdd] at hx59_0); (try rw [show ((0 : Int)).toNat = 0 from rfl] at hf59_0); (try simp only [Nat.reduceMul, Nat.zero_mul, Nat.zero_add, Nat.reduceAdd] at hf59_0); replace p59 := eq_true p59; replace q59 := eq_true q59; have n_ := Aside0.mk (Kd.R_mono (ok' := (fun k_ => some k_ ≠ (.slice (some ⟨go56, 0, none⟩) x3_3.length co61 : Value).ownBlock)) HO_11.out (fun k_ hk => hk.2)); clear HO_11; have HO_11 := n_; clear n_; obtain ⟨hy64_, hz64_⟩ := Kd.R_celln 0 HO_11.out (0 : Int) (by omega) (of_decide_eq_true (by first | (with_reducible assumption) | assumption)); (try simp only [Int.reduceToNat, Int.toNat_zero, Int.toNat_ofNat, Nat.reduceMul, Nat.zero_mul, Nat.zero_add] at hy64_ hz64_); (try rw [show ((0 : Int)).toNat = 0 from rfl] at hy64_); (try rw [show ((0 : Int)).toNat = 0 from rfl] at hz64_); have HP64 := Kd.R_putg HO_11.out (0 : Int) (rd x11_3 x69_3)) | ((with_reducible refine gate_store (t := 3) (p := 92) rfl ?_); refine store_event (t := 3) (p := 92) (v := ?vo_w65) (w1 := (w63.setCell ⟨go59, (0 : Int).toNat, none⟩ (.int .i64 (rd x11_3 x69_3)))) ?hg ?ho ?hn ?hr ?_; (case ho => rfl); (case hg => rfl); (case hn => rfl); (case hr => first | (go_simp; done) | (go_simp; rfl)); intro w65 hw; have hg : w63.grownBy w65 (some go59) := (by rw [hw]; exact HP64.2); have hp_ : Kd.R (Kd.int .i64) 3 w65 w.heap.size (fun k_ => some k_ ≠ (.slice (some ⟨go56, 0, none⟩) x3_3.length co61 : Value).ownBlock) (.slice (some ⟨go59, 0, none⟩) x11_3.length co50) y295 := (by rw [hw, Ny295.out]; exact HP64.1); clear HP64; have n0_ := Aside0.mk (Kd.R_after (v := (.slice (some ⟨go59, 0, none⟩) x11_3.length co50)) (v1 := (.slice (some ⟨go59, 0, none⟩) x11_3.length co50)) (ok := (fun _ => True)) (by (with_reducible repeat (first | apply Kd.R_alloc | apply Kd.R_drewN | apply Kd.R_drew)); exact Kd.R_mono HO_3.out (by first | exact (by first | exact (fun _ hk => ⟨trivial, hk⟩) | (intro k_ hk_; grind)) | (intro k_ hk_; grind))) hg (.inl rfl)); have n1_ := Aside0.mk (Kd.N_afterv (v := (.slice (some ⟨go59, 0, none⟩) x11_3.length co50)) (v1 := (.slice (some ⟨go59, 0, none⟩) x11_3.length co50)) (ok := (fun k_ => some k_ ≠ (.slice (some ⟨go56, 0, none⟩) x3_3.length co61 : Value).ownBlock ∧ k_ ≠ gb272 ∧ k_ ≠ gb280)) (by (with_reducible repeat (first | apply Kd.N_alloc | apply Kd.N_drewN | apply Kd.N_drew)); exact Kd.N_mono HO_10.out (by first | exact (by first | exact (fun _ hk => ⟨⟨hk.2, ⟨hk.1.2.1, hk.1.2.2⟩⟩, hk.1.1⟩) | (intro k_ hk_; grind)) | (intro k_ hk_; grind))) hg (.inl rfl)); have n2_ := Aside0.mk (hp_); have n3_ := Aside0.mk (Kd.V_afterv (v := (.slice (some ⟨go59, 0, none⟩) x11_3.length co50)) (v1 := (.slice (some ⟨go59, 0, none⟩) x11_3.length co50)) (ok := (fun k_ => some k_ ≠ (.slice (some ⟨go56, 0, none⟩) x3_3.length co61 : Value).ownBlock ∧ some k_ ≠ (v278 : Value).ownBlock ∧ k_ ≠ gb272 ∧ k_ ≠ gb280)) (by (with_reducible repeat (first | apply Kd.V_alloc | apply Kd.V_drewN | apply Kd.V_drew)); exact Kd.V_mono HO_273001.out (by first | exact (by first | exact (fun _ hk => ⟨⟨hk.2, ⟨hk.1.1, ⟨hk.1.2.2.1, hk.1.2.2.2⟩⟩⟩, hk.1.2.1⟩) | (intro k_ hk_; grind)) | (intro k_ hk_; grind))) hg (.inl rfl)); have n4_ := Aside0.mk (Kd.V_afterv (v := (.slice (some ⟨go59, 0, none⟩) x11_3.length co50)) (v1 := (.slice (some ⟨go59, 0, none⟩) x11_3.length co50)) (ok := (fun k_ => some k_ ≠ (.slice (some ⟨go56, 0, none⟩) x3_3.length co61 : Value).ownBlock ∧ some k_ ≠ (v278 : Value).ownBlock ∧ k_ ≠ gb272 ∧ k_ ≠ gb280)) (by (with_reducible repeat (first | apply Kd.V_alloc | apply Kd.V_drewN | apply Kd.V_drew)); exact Kd.V_mono HO_281001.out (by first | exact (by first | exact (fun _ hk => ⟨⟨hk.2, ⟨hk.1.1, ⟨hk.1.2.2.1, hk.1.2.2.2⟩⟩⟩, hk.1.2.1⟩) | (intro k_ hk_; grind)) | (intro k_ hk_; grind))) hg (.inl rfl)); have n5_ := Aside0.mk (blk_grown (g := gb272) (o := .cells #[.int .i64 t265, .slice Ao36 t266.length co36] 41 (0, 0)) (by (with_reducible repeat (first | refine blk_drewN ?_ _ | refine blk_drew ?_ | refine blk_alloc ?_ _)); exact BK272.out) hg (Kd.R_ne HO_11.out BK272.out (by decide))); have n6_ := Aside0.mk (blk_grown (g := gb280) (o := .cells #[.int .i64 t273, .slice Ao43 t274.length co43] 41 (0, 0)) (by (with_reducible repeat (first | refine blk_drewN ?_ _ | refine blk_drew ?_ | refine blk_alloc ?_ _)); exact BK280.out) hg (Kd.R_ne HO_11.out BK280.out (by decide))); have n7_ := Aside0.mk ((by rw [hw]; exact below_set (HB.out) GB59.out : Below w.heap.size w w65)); clear HO_3; clear HO_10; clear HO_11; clear HO_273001; clear HO_281001; clear BK272; clear BK280; clear HB; have HO_3 := n0_; have HO_10 := n1_; have HO_11 := n2_; have HO_273001 := n3_; have HO_281001 := n4_; have BK272 := n5_; have BK280 := n6_; have HB := n7_; clear n0_ n1_ n2_ n3_ n4_ n5_ n6_ n7_; clear hg hw hp_; have p60 : 0 ≤ (x69_3 : Int) := of_decide_eq_true (by first | (with_reducible assumption) | assumption); have q60 : (x69_3 : Int) < ((x11_3.length : Int) : Int) := of_decide_eq_true (by first | (with_reducible assumption) | assumption); obtain ⟨hx60_0, hf60_0⟩ := Kd.R_celln 0 HO_11.out (x69_3 : Int) p60 q60; replace p60 := eq_true p60; replace q60 := eq_true q60; obtain ⟨hy66_, hz66_⟩ := Kd.R_celln 0 HO_11.out (x69_3 : Int) (of_decide_eq_true (by first | (with_reducible assumption) | assumption)) (of_decide_eq_true (by first | (with_reducible assumption) | assumption)); have HP66 := Kd.R_putg HO_11.out (x69_3 : Int) (rd x11_3 0)) | ((with_reducible refine gate_store (t := 3) (p := 93) rfl ?_); refine store_event (t := 3) (p := 93) (v := ?vo_w67) (w1 := (w65.setCell ⟨go59, (x69_3 : Int).toNat, none⟩ (.int .i64 (rd x11_3 0)))) ?hg ?ho ?hn ?hr ?_; (case ho => rfl); (case hg => rfl); (case hn => rfl); (case hr => first | (go_simp; done) | (go_simp; rfl)); intro w67 hw; have hg : w65.grownBy w67 (some go59) := (by rw [hw]; exact HP66.2); have hp_ : Kd.R (Kd.int .i64) 3 w67 w.heap.size (fun k_ => some k_ ≠ (.slice (some ⟨go56, 0, none⟩) x3_3.length co61 : Value).ownBlock) (.slice (some ⟨go59, 0, none⟩) x11_3.length co50) y296 := (by rw [hw, Ny296.out]; exact HP66.1); clear HP66; have n0_ := Aside0.mk (Kd.R_after (v := (.slice (some ⟨go59, 0, none⟩) x11_3.length co50)) (v1 := (.slice (some ⟨go59, 0, none⟩) x11_3.length co50)) (ok := (fun _ => True)) (by (with_reducible repeat (first | apply Kd.R_alloc | apply Kd.R_drewN | apply Kd.R_drew)); exact HO_3.out) hg (.inl rfl)); have n1_ := Aside0.mk (Kd.N_afterv (v := (.slice (some ⟨go59, 0, none⟩) x11_3.length co50)) (v1 := (.slice (some ⟨go59, 0, none⟩) x11_3.length co50)) (ok := (fun k_ => some k_ ≠ (.slice (some ⟨go56, 0, none⟩) x3_3.length co61 : Value).ownBlock ∧ k_ ≠ gb272 ∧ k_ ≠ gb280)) (by (with_reducible repeat (first | apply Kd.N_alloc | apply Kd.N_drewN | apply Kd.N_drew)); exact HO_10.out) hg (.inl rfl)); have n2_ := Aside0.mk (hp_); have n3_ := Aside0.mk (Kd.V_afterv (v := (.slice (some ⟨go59, 0, none⟩) x11_3.length co50)) (v1 := (.slice (some ⟨go59, 0, none⟩) x11_3.length co50)) (ok := (fun k_ => some k_ ≠ (.slice (some ⟨go56, 0, none⟩) x3_3.length co61 : Value).ownBlock ∧ some k_ ≠ (v278 : Value).ownBlock ∧ k_ ≠ gb272 ∧ k_ ≠ gb280)) (by (with_reducible repeat (first | apply Kd.V_alloc | apply Kd.V_drewN | apply Kd.V_drew)); exact HO_273001.out) hg (.inl rfl)); have n4_ := Aside0.mk (Kd.V_afterv (v := (.slice (some ⟨go59, 0, none⟩) x11_3.length co50)) (v1 := (.slice (some ⟨go59, 0, none⟩) x11_3.length co50)) (ok := (fun k_ => some k_ ≠ (.slice (some ⟨go56, 0, none⟩) x3_3.length co61 : Value).ownBlock ∧ some k_ ≠ (v278 : Value).ownBlock ∧ k_ ≠ gb272 ∧ k_ ≠ gb280)) (by (with_reducible repeat (first | apply Kd.V_alloc | apply Kd.V_drewN | apply Kd.V_drew)); exact HO_281001.out) hg (.inl rfl)); have n5_ := Aside0.mk (blk_grown (g := gb272) (o := .cells #[.int .i64 t265, .slice Ao36 t266.length co36] 41 (0, 0)) (by (with_reducible repeat (first | refine blk_drewN ?_ _ | refine blk_drew ?_ | refine blk_alloc ?_ _)); exact BK272.out) hg (Kd.R_ne HO_11.out BK272.out (by decide))); have n6_ := Aside0.mk (blk_grown (g := gb280) (o := .cells #[.int .i64 t273, .slice Ao43 t274.length co43] 41 (0, 0)) (by (with_reducible repeat (first | refine blk_drewN ?_ _ | refine blk_drew ?_ | refine blk_alloc ?_ _)); exact BK280.out) hg (Kd.R_ne HO_11.out BK280.out (by decide))); have n7_ := Aside0.mk ((by rw [hw]; exact below_set (HB.out) GB59.out : Below w.heap.size w w67)); clear HO_3; clear HO_10; clear HO_11; clear HO_273001; clear HO_281001; clear BK272; clear BK280; clear HB; have HO_3 := n0_; have HO_10 := n1_; have HO_11 := n2_; have HO_273001 := n3_; have HO_281001 := n4_; have BK272 := n5_; have BK280 := n6_; have HB := n7_; clear n0_ n1_ n2_ n3_ n4_ n5_ n6_ n7_; clear hg hw hp_))
                                          (try simp only [← hl11_3])
                                          go_roundg k3
                                          case measure => have := HK1.out; have := HK2.out; have := HK3.out; omega
                                          case rel => exact ⟨(y292), (y296), (wrap64 (x69_3 + 1)), (by first | rfl | (simp; done) | (simp [*]; done)), H', ⟨by have := HK1.out; have := HK2.out; have := HK3.out; omega⟩, ⟨by (try simp only [hl11_3]); (with_reducible repeat (first | apply Kd.R_alloc | apply Kd.R_drewN | apply Kd.R_drew)); exact Kd.R_mono HO_3.out (fun _ hk => hk.2)⟩, ⟨by (try simp only [hl11_3]); (with_reducible repeat (first | apply Kd.N_alloc | apply Kd.N_drewN | apply Kd.N_drew)); exact Kd.N_mono HO_10.out (by first | exact (by first | exact (fun _ hk => ⟨hk.1.1, ⟨hk.2, ⟨hk.1.2.1, hk.1.2.2⟩⟩⟩) | (intro k_ hk_; grind)) | (intro k_ hk_; grind))⟩, ⟨by (try simp only [hl11_3]); (with_reducible repeat (first | apply Kd.R_alloc | apply Kd.R_drewN | apply Kd.R_drew)); exact HO_11.out⟩, ⟨by (try simp only [hl11_3]); (with_reducible repeat (first | apply Kd.V_alloc | apply Kd.V_drewN | apply Kd.V_drew)); exact Kd.V_mono HO_273001.out (by first | exact (by first | exact (fun _ hk => ⟨hk.1.1, ⟨hk.1.2.1, ⟨hk.2, ⟨hk.1.2.2.1, hk.1.2.2.2⟩⟩⟩⟩) | (intro k_ hk_; grind)) | (intro k_ hk_; grind))⟩, ⟨by (try simp only [hl11_3]); (with_reducible repeat (first | apply Kd.V_alloc | apply Kd.V_drewN | apply Kd.V_drew)); exact Kd.V_mono HO_281001.out (by first | exact (by first | exact (fun _ hk => ⟨hk.1.1, ⟨hk.1.2.1, ⟨hk.2, ⟨hk.1.2.2.1, hk.1.2.2.2⟩⟩⟩⟩) | (intro k_ hk_; grind)) | (intro k_ hk_; grind))⟩, ⟨by (try simp only [hl11_3]); (with_reducible repeat (first | refine blk_drewN ?_ _ | refine blk_drew ?_ | refine blk_alloc ?_ _)); exact BK272.out⟩, ⟨by (try simp only [hl11_3]); (with_reducible repeat (first | refine blk_drewN ?_ _ | refine blk_drew ?_ | refine blk_alloc ?_ _)); exact BK280.out⟩, ⟨by repeat (first | (with_reducible first | exact HB.out | apply below_alloc | apply pw_below_drewN | apply below_drew1 | refine below_set ?_ GE272.out | refine below_set ?_ GE280.out) | exact HB.out)⟩⟩
                                        · rw [if_neg c58] at H
                                          have c58b0 : decide ((rd x11_3 x69_3) < (rd x11_3 0)) = false := decide_eq_false c58
                                          clear c58
                                          have H' := Aside0.mk H
                                          clear H
                                          have p290 : 0 ≤ (x69_3 : Int) := of_decide_eq_true (by first | (with_reducible assumption) | assumption)
                                          have q290 : x69_3 < (x11_3.length : Int) := of_decide_eq_true (by first | (with_reducible assumption) | assumption)
                                          obtain ⟨ad290, e290, hx290_0⟩ := Kd.at_int (Kd.R_reads' HO_11.out).2.2 x69_3 p290 q290
                                          cases e290
                                          replace p290 := eq_true p290
                                          replace q290 := eq_true q290
                                          obtain ⟨Ao68, co68, eo68⟩ := Kd.R_slice HO_3.out
                                          subst eo68
                                          have p291 : 0 ≤ ((rd x11_3 x69_3) : Int) := of_decide_eq_true (by first | (with_reducible assumption) | assumption)
                                          have q291 : (rd x11_3 x69_3) < (x3_3.length : Int) := of_decide_eq_true (by first | (with_reducible assumption) | assumption)
                                          obtain ⟨ad291, e291, hx291_0⟩ := Kd.at_int (Kd.R_reads' HO_3.out).2.2 (rd x11_3 x69_3) p291 q291
                                          cases e291
                                          replace p291 := eq_true p291
                                          replace q291 := eq_true q291
                                          have p56 : 0 ≤ ((rd x11_3 x69_3) : Int) := of_decide_eq_true (by first | (with_reducible assumption) | assumption)
                                          have q56 : ((rd x11_3 x69_3) : Int) < ((x3_3.length : Int) : Int) := of_decide_eq_true (by first | (with_reducible assumption) | assumption)
                                          obtain ⟨go56, co56, eo56, gb56, gl56, cl56, HG56⟩ := Kd.R_form HO_3.out (by omega)
                                          (first | cases eo56 | (injection eo56 with ea_ en_ ec_; (first | subst ea_ | (injection ea_ with ea_; subst ea_)); subst ec_; clear en_))
                                          have GB56 := Aside0.mk gb56
                                          have GG56 := Aside0.mk HG56
                                          clear gb56 gl56 HG56
                                          (first | simp only [add_plain] at hx291_0 | skip)
                                          obtain ⟨hx56_0, hf56_0⟩ := Kd.R_celln 0 HO_3.out ((rd x11_3 x69_3) : Int) p56 q56
                                          replace p56 := eq_true p56
                                          replace q56 := eq_true q56
                                          have HP69 := Kd.R_putg HO_3.out ((rd x11_3 x69_3) : Int) (wrap64 ((rd x3_3 (rd x11_3 x69_3)) + 1))
                                          go_wp2_with (first | ((with_reducible refine gate_store (t := 3) (p := 79) rfl ?_); refine store_event (t := 3) (p := 79) (v := ?vo_w70) (w1 := (wr.setCell ⟨go56, ((rd x11_3 x69_3) : Int).toNat, none⟩ (.int .i64 (wrap64 ((rd x3_3 (rd x11_3 x69_3)) + 1))))) ?hg ?ho ?hn ?hr ?_; (case ho => rfl); (case hg => rfl); (case hn => rfl); (case hr => first | (go_simp; done) | (go_simp; rfl)); intro w70 hw; have hg : wr.grownBy w70 (some go56) := (by rw [hw]; exact HP69.2); have hp_ : Kd.R (Kd.int .i64) 3 w70 w.heap.size (fun k_ => some k_ ≠ (.slice (some ad290) x11_3.length co50 : Value).ownBlock) (.slice (some ⟨go56, 0, none⟩) x3_3.length co68) y292 := (by rw [hw, Ny292.out]; exact HP69.1); clear HP69; have n0_ := Aside0.mk (hp_); have n1_ := Aside0.mk (Kd.N_afterv (v := (.slice (some ⟨go56, 0, none⟩) x3_3.length co68)) (v1 := (.slice (some ⟨go56, 0, none⟩) x3_3.length co68)) (ok := (fun k_ => some k_ ≠ (.slice (some ad290) x11_3.length co50 : Value).ownBlock ∧ k_ ≠ gb272 ∧ k_ ≠ gb280)) (by (with_reducible repeat (first | apply Kd.N_alloc | apply Kd.N_drewN | apply Kd.N_drew)); exact Kd.N_mono HO_10.out (by first | exact (by first | exact (fun _ hk => ⟨⟨hk.2.1, ⟨hk.2.2.1, hk.2.2.2⟩⟩, hk.1⟩) | (intro k_ hk_; grind)) | (intro k_ hk_; grind))) hg (.inl rfl)); have n2_ := Aside0.mk (Kd.R_after (v := (.slice (some ⟨go56, 0, none⟩) x3_3.length co68)) (v1 := (.slice (some ⟨go56, 0, none⟩) x3_3.length co68)) (ok := (fun _ => True)) (by (with_reducible repeat (first | apply Kd.R_alloc | apply Kd.R_drewN | apply Kd.R_drew)); exact Kd.R_mono HO_11.out (by first | exact (by first | exact (fun _ hk => ⟨trivial, hk⟩) | (intro k_ hk_; grind)) | (intro k_ hk_; grind))) hg (.inl rfl)); have n3_ := Aside0.mk (Kd.V_afterv (v := (.slice (some ⟨go56, 0, none⟩) x3_3.length co68)) (v1 := (.slice (some ⟨go56, 0, none⟩) x3_3.length co68)) (ok := (fun k_ => some k_ ≠ (v278 : Value).ownBlock ∧ some k_ ≠ (.slice (some ad290) x11_3.length co50 : Value).ownBlock ∧ k_ ≠ gb272 ∧ k_ ≠ gb280)) (by (with_reducible repeat (first | apply Kd.V_alloc | apply Kd.V_drewN | apply Kd.V_drew)); exact Kd.V_mono HO_273001.out (by first | exact (by first | exact (fun _ hk => ⟨⟨hk.2.1, ⟨hk.2.2.1, ⟨hk.2.2.2.1, hk.2.2.2.2⟩⟩⟩, hk.1⟩) | (intro k_ hk_; grind)) | (intro k_ hk_; grind))) hg (.inl rfl)); have n4_ := Aside0.mk (Kd.V_afterv (v := (.slice (some ⟨go56, 0, none⟩) x3_3.length co68)) (v1 := (.slice (some ⟨go56, 0, none⟩) x3_3.length co68)) (ok := (fun k_ => some k_ ≠ (v278 : Value).ownBlock ∧ some k_ ≠ (.slice (some ad290) x11_3.length co50 : Value).ownBlock ∧ k_ ≠ gb272 ∧ k_ ≠ gb280)) (by (with_reducible repeat (first | apply Kd.V_alloc | apply Kd.V_drewN | apply Kd.V_drew)); exact Kd.V_mono HO_281001.out (by first | exact (by first | exact (fun _ hk => ⟨⟨hk.2.1, ⟨hk.2.2.1, ⟨hk.2.2.2.1, hk.2.2.2.2⟩⟩⟩, hk.1⟩) | (intro k_ hk_; grind)) | (intro k_ hk_; grind))) hg (.inl rfl)); have n5_ := Aside0.mk (blk_grown (g := gb272) (o := .cells #[.int .i64 t265, .slice Ao36 t266.length co36] 41 (0, 0)) (by (with_reducible repeat (first | refine blk_drewN ?_ _ | refine blk_drew ?_ | refine blk_alloc ?_ _)); exact BK272.out) hg (Kd.R_ne HO_3.out BK272.out (by decide))); have n6_ := Aside0.mk (blk_grown (g := gb280) (o := .cells #[.int .i64 t273, .slice Ao43 t274.length co43] 41 (0, 0)) (by (with_reducible repeat (first | refine blk_drewN ?_ _ | refine blk_drew ?_ | refine blk_alloc ?_ _)); exact BK280.out) hg (Kd.R_ne HO_3.out BK280.out (by decide))); have n7_ := Aside0.mk ((by rw [hw]; exact below_set (HB.out) GB56.out : Below w.heap.size w w70)); clear HO_3; clear HO_10; clear HO_11; clear HO_273001; clear HO_281001; clear BK272; clear BK280; clear HB; have HO_3 := n0_; have HO_10 := n1_; have HO_11 := n2_; have HO_273001 := n3_; have HO_281001 := n4_; have BK272 := n5_; have BK280 := n6_; have HB := n7_; clear n0_ n1_ n2_ n3_ n4_ n5_ n6_ n7_; clear hg hw hp_; have p293 : 0 ≤ (0 : Int) := (by omega); have q293 : 0 < (x11_3.length : Int) := of_decide_eq_true (by first | (with_reducible assumption) | assumption); obtain ⟨ad293, e293, hx293_0⟩ := Kd.at_int (Kd.R_reads' HO_11.out).2.2 0 p293 q293; obtain rfl : ad290 = ad293 := (by injection e293); have qi293 : (0 < x11_3.length) = True := eq_true (by omega); (try rw [show ((0 : Int)).toNat = 0 from rfl] at hx293_0); (try rw [Addr.add_zero'] at hx293_0); replace p293 := eq_true p293; replace q293 := eq_true q293))
                                          (try simp only [← hl11_3])
                                          go_roundg k3
                                          case measure => have := HK1.out; have := HK2.out; have := HK3.out; omega
                                          case rel => exact ⟨(y292), (x11_3), (wrap64 (x69_3 + 1)), (by first | rfl | (simp; done) | (simp [*]; done)), H', ⟨by have := HK1.out; have := HK2.out; have := HK3.out; omega⟩, ⟨by (try simp only [hl11_3]); (with_reducible repeat (first | apply Kd.R_alloc | apply Kd.R_drewN | apply Kd.R_drew)); exact HO_3.out⟩, ⟨by (try simp only [hl11_3]); (with_reducible repeat (first | apply Kd.N_alloc | apply Kd.N_drewN | apply Kd.N_drew)); exact Kd.N_mono HO_10.out (by first | exact (by first | exact (fun _ hk => ⟨hk.2, ⟨hk.1.1, ⟨hk.1.2.1, hk.1.2.2⟩⟩⟩) | (intro k_ hk_; grind)) | (intro k_ hk_; grind))⟩, ⟨by (try simp only [hl11_3]); (with_reducible repeat (first | apply Kd.R_alloc | apply Kd.R_drewN | apply Kd.R_drew)); exact Kd.R_mono HO_11.out (fun _ hk => hk.2)⟩, ⟨by (try simp only [hl11_3]); (with_reducible repeat (first | apply Kd.V_alloc | apply Kd.V_drewN | apply Kd.V_drew)); exact Kd.V_mono HO_273001.out (by first | exact (by first | exact (fun _ hk => ⟨hk.2, ⟨hk.1.1, ⟨hk.1.2.1, ⟨hk.1.2.2.1, hk.1.2.2.2⟩⟩⟩⟩) | (intro k_ hk_; grind)) | (intro k_ hk_; grind))⟩, ⟨by (try simp only [hl11_3]); (with_reducible repeat (first | apply Kd.V_alloc | apply Kd.V_drewN | apply Kd.V_drew)); exact Kd.V_mono HO_281001.out (by first | exact (by first | exact (fun _ hk => ⟨hk.2, ⟨hk.1.1, ⟨hk.1.2.1, ⟨hk.1.2.2.1, hk.1.2.2.2⟩⟩⟩⟩) | (intro k_ hk_; grind)) | (intro k_ hk_; grind))⟩, ⟨by (try simp only [hl11_3]); (with_reducible repeat (first | refine blk_drewN ?_ _ | refine blk_drew ?_ | refine blk_alloc ?_ _)); exact BK272.out⟩, ⟨by (try simp only [hl11_3]); (with_reducible repeat (first | refine blk_drewN ?_ _ | refine blk_drew ?_ | refine blk_alloc ?_ _)); exact BK280.out⟩, ⟨by repeat (first | (with_reducible first | exact HB.out | apply below_alloc | apply pw_below_drewN | apply below_drew1 | refine below_set ?_ GE272.out | refine below_set ?_ GE280.out) | exact HB.out)⟩⟩
                                      · rw [if_neg c57] at H
                                        exact absurd H (by simp)
                                    · rw [if_neg c55] at H
                                      exact absurd H (by simp)
                                  · rw [if_neg c54] at H
                                    exact absurd H (by simp)
                                · rw [if_neg c53] at H
                                  exact absurd H (by simp)
                              · rw [if_neg c52] at H
                                exact absurd H (by simp)
                            · rw [if_neg c51] at H
                              have c51b0 : decide (x69_3 < (y287.length : Int)) = false := decide_eq_false c51
                              try have c51b9 : decide (x69_3 < (x11_3.length : Int)) = false := by rw [← hl11_3]; exact c51b0
                              clear c51
                              by_cases c71 : t277.length < 4398046511104
                              · rw [if_pos c71] at H
                                have LMc71 := Aside0.mk c71
                                clear c71
                                obtain ⟨y297, hy297⟩ : ∃ y_ : List (S41), y_ = (t277 ++ [(⟨wrap64 (t265 + t273), x11_3⟩ : S41)]) := ⟨_, rfl⟩
                                replace H : (impl_depths.l1 k3 x3_3 y297) = some r := by first | (rw [hy297]; with_reducible exact H) | (have H2_ := (Option.bind_some _ _).symm.trans H; rw [hy297]; with_reducible exact H2_) | (have H2_ := (Option.bind_some _ _).symm.trans H; with_reducible exact H2_) | with_reducible exact H | (rw [hy297]; exact H) | exact H
                                have Ny297 := Aside0.mk hy297
                                clear hy297
                                have H' := Aside0.mk H
                                clear H
                                have hnb72 := NB272_280.out
                                have hnc72 := NB280_272.out
                                have hcz73_0 : wr.cell? ⟨gb272, 0, none⟩ = some (.int .i64 t265) := (blk_cell BK272.out 0).trans rfl
                                have hcz73_1 : wr.cell? ⟨gb272, 1, none⟩ = some (.slice Ao36 t266.length co36) := (blk_cell BK272.out 1).trans rfl
                                have hfz73_0 := blk_frozen BK272.out 0
                                have hfz73_1 := blk_frozen BK272.out 1
                                have hcz74_0 : wr.cell? ⟨gb280, 0, none⟩ = some (.int .i64 t273) := (blk_cell BK280.out 0).trans rfl
                                have hcz74_1 : wr.cell? ⟨gb280, 1, none⟩ = some (.slice Ao43 t274.length co43) := (blk_cell BK280.out 1).trans rfl
                                have hfz74_0 := blk_frozen BK280.out 0
                                have hfz74_1 := blk_frozen BK280.out 1
                                go_wp2_with (first | ((with_reducible refine gate_builtin (b := .append) (xs := #[.tmp 95, .tmp 103]) rfl ?_); at_builtin; refine Kd.N_append k41 (w0 := w) w.heap.size rfl (.tmp 95) (.tmp 103) 39 41 (.agg #[(.int .i64 0), (.slice none 0 0)]) 32 rfl Try.underlying39 info41 rfl (by decide) (by omega) v278 t277 (⟨wrap64 (t265 + t273), x11_3⟩ : S41) [.int .i64 (wrap64 (t265 + t273)), .slice Ao50 x11_3.length co50] (fun k_ => some k_ ≠ (v250 : Value).ownBlock ∧ k_ ≠ gb272 ∧ k_ ≠ gb280) (fun k_ => ((fun k_ => some k_ ≠ (v250 : Value).ownBlock ∧ k_ ≠ gb272 ∧ k_ ≠ gb280)) k_ ∧ some k_ ≠ (v278 : Value).ownBlock) rfl rfl ?aP (fun _ hk => hk) ?aF ?aO ?aB ?aS ?aL ?_; (case aP => exact (k41_mkF _ _ (⟨wrap64 (t265 + t273), x11_3⟩ : S41) (Kd.R_reads' (Kd.R_mono (ok' := (fun k_ => ((fun k_ => some k_ ≠ (v250 : Value).ownBlock ∧ k_ ≠ gb272 ∧ k_ ≠ gb280)) k_ ∧ some k_ ≠ (v278 : Value).ownBlock)) (Kd.R_types (Kd.R_types (Kd.R_apart' (HO_11.out) (Kd.N_typed HO_10.out) (by decide)) BK272.out (by decide)) BK280.out (by decide)) (by first | exact (by first | exact (fun k_ hk => ⟨⟨hk.1.1.1, ⟨hk.1.2, hk.2⟩⟩, hk.1.1.2⟩) | (intro k_ hk_; grind)) | (intro k_ hk_; grind)))).2.1 (Kd.R_F (Kd.R_mono (ok' := (fun k_ => ((fun k_ => some k_ ≠ (v250 : Value).ownBlock ∧ k_ ≠ gb272 ∧ k_ ≠ gb280)) k_ ∧ some k_ ≠ (v278 : Value).ownBlock)) (Kd.R_types (Kd.R_types (Kd.R_apart' (HO_11.out) (Kd.N_typed HO_10.out) (by decide)) BK272.out (by decide)) BK280.out (by decide)) (by first | exact (by first | exact (fun k_ hk => ⟨⟨hk.1.1.1, ⟨hk.1.2, hk.2⟩⟩, hk.1.1.2⟩) | (intro k_ hk_; grind)) | (intro k_ hk_; grind)))))); (case aB => exact (by repeat (first | (with_reducible first | exact HB.out | apply below_alloc | apply pw_below_drewN | apply below_drew1 | refine below_set ?_ GE272.out | refine below_set ?_ GE280.out) | exact HB.out))); (case aF => exact (fun k_ hk => ⟨Kd.fresh' (Kd.R_lt (by (with_reducible repeat (first | apply Kd.R_alloc | apply Kd.R_drewN | apply Kd.R_drew)); exact HO_3.out)) k_ hk, Kd.freshB (g := gb272) (o := .cells #[.int .i64 t265, .slice Ao36 t266.length co36] 41 (0, 0)) (by (with_reducible repeat (first | refine blk_drewN ?_ _ | refine blk_drew ?_ | refine blk_alloc ?_ _)); exact BK272.out) k_ hk, Kd.freshB (g := gb280) (o := .cells #[.int .i64 t273, .slice Ao43 t274.length co43] 41 (0, 0)) (by (with_reducible repeat (first | refine blk_drewN ?_ _ | refine blk_drew ?_ | refine blk_alloc ?_ _)); exact BK280.out) k_ hk⟩)); (case aO => exact (by (with_reducible repeat (first | apply Kd.N_alloc | apply Kd.N_drewN | apply Kd.N_drew)); exact Kd.N_mono HO_10.out (by first | exact (by first | exact (fun _ hk => ⟨hk.1, ⟨hk.2.2.1, hk.2.2.2⟩⟩) | (intro k_ hk_; grind)) | (intro k_ hk_; grind)))); (case aS => exact (below_size (by repeat (first | (with_reducible first | exact HB.out | apply below_alloc | apply pw_below_drewN | apply below_drew1 | refine below_set ?_ GE272.out | refine below_set ?_ GE280.out) | exact HB.out)))); (case aL => have := LMc71.out; omega); intro v298 w75 ho hb hg hat; rw [← Ny297.out] at ho; have n0_ := Aside0.mk (Kd.R_over' (by (with_reducible repeat (first | apply Kd.R_alloc | apply Kd.R_drewN | apply Kd.R_drew)); exact HO_3.out) (Kd.N_typed (by (with_reducible repeat (first | apply Kd.N_alloc | apply Kd.N_drewN | apply Kd.N_drew)); exact HO_10.out)) (by decide) hg); have n1_ := Aside0.mk (Kd.V_afterv (ok := (fun k_ => some k_ ≠ (v250 : Value).ownBlock ∧ some k_ ≠ (.slice Ao50 x11_3.length co50 : Value).ownBlock ∧ k_ ≠ gb272 ∧ k_ ≠ gb280)) (by (with_reducible repeat (first | apply Kd.V_alloc | apply Kd.V_drewN | apply Kd.V_drew)); exact Kd.V_mono HO_273001.out (by first | exact (by first | exact (fun _ hk => ⟨⟨hk.1, ⟨hk.2.2.1, ⟨hk.2.2.2.1, hk.2.2.2.2⟩⟩⟩, hk.2.1⟩) | (intro k_ hk_; grind)) | (intro k_ hk_; grind))) hg hat); have n2_ := Aside0.mk (Kd.V_afterv (ok := (fun k_ => some k_ ≠ (v250 : Value).ownBlock ∧ some k_ ≠ (.slice Ao50 x11_3.length co50 : Value).ownBlock ∧ k_ ≠ gb272 ∧ k_ ≠ gb280)) (by (with_reducible repeat (first | apply Kd.V_alloc | apply Kd.V_drewN | apply Kd.V_drew)); exact Kd.V_mono HO_281001.out (by first | exact (by first | exact (fun _ hk => ⟨⟨hk.1, ⟨hk.2.2.1, ⟨hk.2.2.2.1, hk.2.2.2.2⟩⟩⟩, hk.2.1⟩) | (intro k_ hk_; grind)) | (intro k_ hk_; grind))) hg hat); have n3_ := Aside0.mk (blk_grown (g := gb272) (o := .cells #[.int .i64 t265, .slice Ao36 t266.length co36] 41 (0, 0)) (by (with_reducible repeat (first | refine blk_drewN ?_ _ | refine blk_drew ?_ | refine blk_alloc ?_ _)); exact BK272.out) hg (Kd.N_away HO_10.out (fun _ hk => hk.2.2.1))); have n4_ := Aside0.mk (blk_grown (g := gb280) (o := .cells #[.int .i64 t273, .slice Ao43 t274.length co43] 41 (0, 0)) (by (with_reducible repeat (first | refine blk_drewN ?_ _ | refine blk_drew ?_ | refine blk_alloc ?_ _)); exact BK280.out) hg (Kd.N_away HO_10.out (fun _ hk => hk.2.2.2))); have n5_ := Aside0.mk (hb); have n6_ := Aside0.mk (ho); clear HO_3; clear HO_273001; clear HO_281001; clear BK272; clear BK280; clear HB; clear HO_10; clear HO_11; have HO_3 := n0_; have HO_273001 := n1_; have HO_281001 := n2_; have BK272 := n3_; have BK280 := n4_; have HB := n5_; have HO299 := n6_; clear n0_ n1_ n2_ n3_ n4_ n5_ n6_; clear ho hb hg hat))
                                (try simp only [← hl11_3])
                                go_roundg k3
                                case measure => have := HK1.out; have := HK2.out; have := HK3.out; omega
                                case rel => exact ⟨(x3_3), (y297), H', ⟨by have := HK1.out; have := HK2.out; have := HK3.out; omega⟩, ⟨by (try simp only [hl11_3]); (with_reducible repeat (first | apply Kd.R_alloc | apply Kd.R_drewN | apply Kd.R_drew)); exact Kd.R_mono HO_3.out (fun _ hk => trivial)⟩, ⟨by (try simp only [hl11_3]); (with_reducible repeat (first | apply Kd.N_alloc | apply Kd.N_drewN | apply Kd.N_drew)); exact Kd.N_mono HO299.out (fun _ hk => hk.1)⟩, ⟨by repeat (first | (with_reducible first | exact HB.out | apply below_alloc | apply pw_below_drewN | apply below_drew1 | refine below_set ?_ GE272.out | refine below_set ?_ GE280.out) | exact HB.out)⟩⟩
                              · rw [if_neg c71] at H
                                exact absurd H (by simp)
                      · rw [if_neg c31] at H
                        exact absurd H (by simp)
                    · rw [if_neg c30] at H
                      exact absurd H (by simp)
                  · rw [if_neg c27] at H
                    have c27b0 : decide (1 < (x4_2.length : Int)) = false := decide_eq_false c27
                    have c27b1 : decide (1 < x4_2.length) = false := decide_eq_false (by omega)
                    clear c27
                    obtain rfl := Option.some.inj H
                    obtain ⟨Ao76, co76, eo76⟩ := Kd.N_slice HO_4.out
                    subst eo76
                    go_wp2
                    go_ret
                    exact ⟨_, by first | rfl | (simp [errW_none, errW_some] <;> rfl) | (simp [*, errW_none, errW_some] <;> rfl), by (with_reducible repeat (first | apply Kd.R_alloc | apply Kd.R_drewN | apply Kd.R_drew)); exact HO_3.out, by repeat (first | (with_reducible first | exact HB.out | apply below_alloc | apply pw_below_drewN | apply below_drew1) | exact HB.out)⟩
    · rw [if_neg c3] at H
      exact absurd H (by simp)
  · rw [if_neg c2] at H
    exact absurd H (by simp)

end Go.Proofs.Ytdenepapeoiiiaa.PAll
