-- Written by a program of this session, over the kit's print. Not trusted: Lean checks it.
import Derived.Test.YtdenepapeoiiiaaPAllx0
import Derived.Test.YtdenepapeoiiiaaPAllx2
import Derived.Test.YtdenepapeoiiiaaPAllx3
namespace Go.Proofs.Ytdenepapeoiiiaa.PAll
open Go.RowKit Go.Proofs.YtdenepapeoiiiaaW.PrintWords Go.Proofs.YtdenepapeoiiiaaW.PrintLast Go.Proofs.YtdenepapeoiiiaaW.PrintMore
attribute [local go_sem] max2_int min2_int max_two min_two max_three min_three max_four min_four   -- for this text's walks alone
set_option linter.unusedVariables false
set_option linter.unusedSimpArgs false

/-! ### spec_l3Lens: function 33 -/
mutual
def spec_l3Lens.l0 : Nat → List Int → List Int → List (S48) → Int → Option (List Int)
  | 0, _, _, _, _ => none
  | k + 1, x0, x3, x4, x5 => if x5 < (x0.length : Int) then (if 0 ≤ x5 then (if (rd x0 x5) > 0 then (if x4.length < 3518437208883 then (spec_l3Lens.l0 k x0 x3 (x4 ++ [(⟨rd x0 x5, x5, (([x5] : List Int))⟩ : S48)]) (wrap64 (x5 + 1))) else (none)) else (spec_l3Lens.l0 k x0 x3 x4 (wrap64 (x5 + 1)))) else (none)) else (if (x4.length : Int) = 1 then (if 0 < (x4.length : Int) then (if 0 ≤ ((rd_T48 x4 0).f1) then (if ((rd_T48 x4 0).f1) < (x3.length : Int) then (spec_l3Lens.j1 k (x3.set (((rd_T48 x4 0).f1) : Int).toNat 1) x4) else (none)) else (none)) else (none)) else (spec_l3Lens.j1 k x3 x4))
def spec_l3Lens.j1 : Nat → List Int → List (S48) → Option (List Int)
  | 0, _, _ => none
  | k + 1, x3, x4 => spec_l3Lens.l1 k x3 x4
def spec_l3Lens.l1 : Nat → List Int → List (S48) → Option (List Int)
  | 0, _, _ => none
  | k + 1, x3, x4 => if (x4.length : Int) > 1 then ((spec_l3Least.f k x4).bind fun t143 => (if 0 ≤ t143 then (if t143 < (x4.length : Int) then ((spec_l3Less.f x4 t143).bind fun t146 => ((spec_l3Least.f k t146).bind fun t149 => (if 0 ≤ t149 then (if t149 < (t146.length : Int) then ((spec_l3Less.f t146 t149).bind fun t152 => (if ((rd_T48 t146 t149).f1) < ((rd_T48 x4 t143).f1) then ((some (([] : List Int) : List Int)).bind fun y155 => (if y155.length + ((rd_T48 x4 t143).f2).length < 17592186044416 then ((some (y155 ++ ((rd_T48 x4 t143).f2) : List Int)).bind fun y158 => (if y158.length + ((rd_T48 t146 t149).f2).length < 17592186044416 then (spec_l3Lens.l2 k x3 t152 ((rd_T48 t146 t149).f1) (y158 ++ ((rd_T48 t146 t149).f2)) 0 ((rd_T48 x4 t143).f0) ((rd_T48 x4 t143).f1) ((rd_T48 x4 t143).f2) ((rd_T48 t146 t149).f0) ((rd_T48 t146 t149).f1) ((rd_T48 t146 t149).f2)) else (none))) else (none))) else ((some (([] : List Int) : List Int)).bind fun y171 => (if y171.length + ((rd_T48 x4 t143).f2).length < 17592186044416 then ((some (y171 ++ ((rd_T48 x4 t143).f2) : List Int)).bind fun y174 => (if y174.length + ((rd_T48 t146 t149).f2).length < 17592186044416 then (spec_l3Lens.l2 k x3 t152 ((rd_T48 x4 t143).f1) (y174 ++ ((rd_T48 t146 t149).f2)) 0 ((rd_T48 x4 t143).f0) ((rd_T48 x4 t143).f1) ((rd_T48 x4 t143).f2) ((rd_T48 t146 t149).f0) ((rd_T48 t146 t149).f1) ((rd_T48 t146 t149).f2)) else (none))) else (none))))) else (none)) else (none)))) else (none)) else (none))) else (some x3)
def spec_l3Lens.l2 : Nat → List Int → List (S48) → Int → List Int → Int → Int → Int → List Int → Int → Int → List Int → Option (List Int)
  | 0, _, _, _, _, _, _, _, _, _, _, _ => none
  | k + 1, x3, x4, x9, x10, x11, x146000, x146001, x146002, x152000, x152001, x152002 => if x11 < (x10.length : Int) then (if 0 ≤ x11 then (if 0 ≤ (rd x10 x11) then (if (rd x10 x11) < (x3.length : Int) then (spec_l3Lens.l2 k (x3.set ((rd x10 x11) : Int).toNat (wrap64 ((rd x3 (rd x10 x11)) + 1))) x4 x9 x10 (wrap64 (x11 + 1)) x146000 x146001 x146002 x152000 x152001 x152002) else (none)) else (none)) else (none)) else (if x4.length < 3518437208883 then (spec_l3Lens.l1 k x3 (x4 ++ [(⟨wrap64 (x146000 + x152000), x9, x10⟩ : S48)])) else (none))
end
def spec_l3Lens.f (k : Nat) (l0 : List Int) : Option (List Int) := if 0 ≤ (l0.length : Int) then (if ((l0.length : Int) : Int).toNat ≤ 35184372088832 then (spec_l3Lens.l0 k l0 (List.replicate ((l0.length : Int) : Int).toNat 0) (([] : List (S48))) 0) else (none)) else (none)
theorem spec_l3Lens.mono_l : ∀ k, (∀ y0 y1 y2 y3, LeO (spec_l3Lens.l0 k y0 y1 y2 y3) (spec_l3Lens.l0 (k + 1) y0 y1 y2 y3)) ∧ (∀ y0 y1, LeO (spec_l3Lens.j1 k y0 y1) (spec_l3Lens.j1 (k + 1) y0 y1)) ∧ (∀ y0 y1, LeO (spec_l3Lens.l1 k y0 y1) (spec_l3Lens.l1 (k + 1) y0 y1)) ∧ (∀ y0 y1 y2 y3 y4 y5 y6 y7 y8 y9 y10, LeO (spec_l3Lens.l2 k y0 y1 y2 y3 y4 y5 y6 y7 y8 y9 y10) (spec_l3Lens.l2 (k + 1) y0 y1 y2 y3 y4 y5 y6 y7 y8 y9 y10))
  | 0 => ⟨fun _ _ _ _ r h => by simp [spec_l3Lens.l0] at h, fun _ _ r h => by simp [spec_l3Lens.j1] at h, fun _ _ r h => by simp [spec_l3Lens.l1] at h, fun _ _ _ _ _ _ _ _ _ _ _ r h => by simp [spec_l3Lens.l2] at h⟩
  | k + 1 => by
    obtain ⟨ih0, ih1, ih2, ih3⟩ := spec_l3Lens.mono_l k
    refine ⟨?_, ?_, ?_, ?_⟩
    · intro y0 y1 y2 y3
      unfold spec_l3Lens.l0
      repeat' first
      | (with_reducible exact ih0 _ _ _ _)
      | (with_reducible exact ih1 _ _)
      | (with_reducible exact ih2 _ _)
      | (with_reducible exact ih3 _ _ _ _ _ _ _ _ _ _ _)
      | (with_reducible exact spec_l3Least.mono _ _)
      | (with_reducible exact LeO.refl _)
      | (with_reducible exact LeO.none _)
      | (with_reducible refine LeO.ite ?_ ?_)
      | (with_reducible refine LeO.bind ?_ (fun _ => ?_))
      | exact ih0 _ _ _ _
      | exact ih1 _ _
      | exact ih2 _ _
      | exact ih3 _ _ _ _ _ _ _ _ _ _ _
      | exact spec_l3Least.mono _ _
      | exact LeO.none _
      | refine LeO.ite ?_ ?_
      | refine LeO.bind ?_ (fun _ => ?_)
    · intro y0 y1
      unfold spec_l3Lens.j1
      repeat' first
      | (with_reducible exact ih0 _ _ _ _)
      | (with_reducible exact ih1 _ _)
      | (with_reducible exact ih2 _ _)
      | (with_reducible exact ih3 _ _ _ _ _ _ _ _ _ _ _)
      | (with_reducible exact spec_l3Least.mono _ _)
      | (with_reducible exact LeO.refl _)
      | (with_reducible exact LeO.none _)
      | (with_reducible refine LeO.ite ?_ ?_)
      | (with_reducible refine LeO.bind ?_ (fun _ => ?_))
      | exact ih0 _ _ _ _
      | exact ih1 _ _
      | exact ih2 _ _
      | exact ih3 _ _ _ _ _ _ _ _ _ _ _
      | exact spec_l3Least.mono _ _
      | exact LeO.none _
      | refine LeO.ite ?_ ?_
      | refine LeO.bind ?_ (fun _ => ?_)
    · intro y0 y1
      unfold spec_l3Lens.l1
      repeat' first
      | (with_reducible exact ih0 _ _ _ _)
      | (with_reducible exact ih1 _ _)
      | (with_reducible exact ih2 _ _)
      | (with_reducible exact ih3 _ _ _ _ _ _ _ _ _ _ _)
      | (with_reducible exact spec_l3Least.mono _ _)
      | (with_reducible exact LeO.refl _)
      | (with_reducible exact LeO.none _)
      | (with_reducible refine LeO.ite ?_ ?_)
      | (with_reducible refine LeO.bind ?_ (fun _ => ?_))
      | exact ih0 _ _ _ _
      | exact ih1 _ _
      | exact ih2 _ _
      | exact ih3 _ _ _ _ _ _ _ _ _ _ _
      | exact spec_l3Least.mono _ _
      | exact LeO.none _
      | refine LeO.ite ?_ ?_
      | refine LeO.bind ?_ (fun _ => ?_)
    · intro y0 y1 y2 y3 y4 y5 y6 y7 y8 y9 y10
      unfold spec_l3Lens.l2
      repeat' first
      | (with_reducible exact ih0 _ _ _ _)
      | (with_reducible exact ih1 _ _)
      | (with_reducible exact ih2 _ _)
      | (with_reducible exact ih3 _ _ _ _ _ _ _ _ _ _ _)
      | (with_reducible exact spec_l3Least.mono _ _)
      | (with_reducible exact LeO.refl _)
      | (with_reducible exact LeO.none _)
      | (with_reducible refine LeO.ite ?_ ?_)
      | (with_reducible refine LeO.bind ?_ (fun _ => ?_))
      | exact ih0 _ _ _ _
      | exact ih1 _ _
      | exact ih2 _ _
      | exact ih3 _ _ _ _ _ _ _ _ _ _ _
      | exact spec_l3Least.mono _ _
      | exact LeO.none _
      | refine LeO.ite ?_ ?_
      | refine LeO.bind ?_ (fun _ => ?_)
theorem spec_l3Lens.mono : ∀ a0 k, LeO (spec_l3Lens.f k a0) (spec_l3Lens.f (k + 1) a0) := by
  intro a0 k
  obtain ⟨ih0, ih1, ih2, ih3⟩ := spec_l3Lens.mono_l k
  unfold spec_l3Lens.f
  repeat' first
      | (with_reducible exact ih0 _ _ _ _)
      | (with_reducible exact ih1 _ _)
      | (with_reducible exact ih2 _ _)
      | (with_reducible exact ih3 _ _ _ _ _ _ _ _ _ _ _)
      | (with_reducible exact spec_l3Least.mono _ _)
      | (with_reducible exact LeO.refl _)
      | (with_reducible exact LeO.none _)
      | (with_reducible refine LeO.ite ?_ ?_)
      | (with_reducible refine LeO.bind ?_ (fun _ => ?_))
      | exact ih0 _ _ _ _
      | exact ih1 _ _
      | exact ih2 _ _
      | exact ih3 _ _ _ _ _ _ _ _ _ _ _
      | exact spec_l3Least.mono _ _
      | exact LeO.none _
      | refine LeO.ite ?_ ?_
      | refine LeO.bind ?_ (fun _ => ?_)
def spec_l3Lens.T20 : Bool × List (List Nat × List Nat) := (true, [([], []), ([], []), ([1], [1]), ([0, 2], [0, 2]), ([], []), ([4], [4]), ([3, 5, 3], [3, 5]), ([6, 6, 0, 1, 2, 3, 4, 5, 6], [6])])
def spec_l3Lens.B20 : List Nat := [0, 0, 2, 7, 0, 16, 63, 127]
theorem spec_l3Lens.tab20 : rtab .any (opsOf Try.f33 20) = spec_l3Lens.T20 := by kernel_rfl
theorem spec_l3Lens.bits20 : waitsOk spec_l3Lens.T20.2 spec_l3Lens.B20 = true := by kernel_rfl
def spec_l3Lens.T24 : Bool × List (List Nat × List Nat) := (true, [([], []), ([], []), ([], []), ([1, 2], [1, 2]), ([3], [3]), ([], []), ([], []), ([], []), ([6, 7], [6, 7]), ([8], [8]), ([5, 9], [5, 9]), ([10], [10]), ([11], [11]), ([0, 4, 0, 1, 2, 3, 4, 5, 6, 7, 8, 9, 10, 11, 12], [0, 4]), ([13, 12, 0, 1, 2, 3, 4, 5, 6, 7, 8, 9, 10, 11, 12], [12, 13])])
def spec_l3Lens.B24 : List Nat := [0, 0, 0, 6, 14, 0, 0, 0, 192, 448, 992, 2016, 4064, 8191, 16383]
theorem spec_l3Lens.tab24 : rtab .any (opsOf Try.f33 24) = spec_l3Lens.T24 := by kernel_rfl
theorem spec_l3Lens.bits24 : waitsOk spec_l3Lens.T24.2 spec_l3Lens.B24 = true := by kernel_rfl
set_option maxHeartbeats 8000000 in
set_option maxRecDepth 100000 in
theorem spec_l3Lens.calls (k : Nat) (A0 : Option Addr) (c0 : Nat) (l0 : List Int) (r : List Int) (w : World) (hr0 : Kd.C (Kd.int .i64) w A0 l0.length l0) (hc0 : l0.length ≤ c0) (h : spec_l3Lens.f k l0 = some r) :
    Calls Try.prog 33 #[.slice A0 l0.length c0] w fun e w' => ∃ v0_ : Value, e = .returned (v0_) ∧ Kd.R (Kd.int .i64) 3 w' w.heap.size (fun _ => True) v0_ r ∧ Below w.heap.size w w' := by
  have hu48 := Try.underlying48
  have HR0 := Aside0.mk hr0
  have HC0 := Aside0.mk hc0
  clear hr0 hc0
  have HB := Aside0.mk (Below.refl w.heap.size w)
  have H : (if 0 ≤ (l0.length : Int) then (if ((l0.length : Int) : Int).toNat ≤ 35184372088832 then (spec_l3Lens.l0 k l0 (List.replicate ((l0.length : Int) : Int).toNat 0) (([] : List (S48))) 0) else (none)) else (none)) = some r := h
  clear h
  by_cases c2 : 0 ≤ (l0.length : Int)
  · rw [if_pos c2] at H
    have c2b0 := eq_true c2
    have c2b1 : decide (0 ≤ (l0.length : Int)) = true := decide_eq_true c2
    clear c2
    by_cases c3 : ((l0.length : Int) : Int).toNat ≤ 35184372088832
    · rw [if_pos c3] at H
      have c3b0 := eq_true c3
      have c3b1 : decide (((l0.length : Int) : Int).toNat ≤ 35184372088832) = true := decide_eq_true c3
      clear c3
      obtain ⟨y127, hy127⟩ : ∃ y_ : List Int, y_ = (List.replicate ((l0.length : Int) : Int).toNat 0) := ⟨_, rfl⟩
      replace H : (spec_l3Lens.l0 k l0 y127 (([] : List (S48))) 0) = some r := by first | (rw [hy127]; with_reducible exact H) | (have H2_ := (Option.bind_some _ _).symm.trans H; rw [hy127]; with_reducible exact H2_) | (have H2_ := (Option.bind_some _ _).symm.trans H; with_reducible exact H2_) | with_reducible exact H | (rw [hy127]; exact H) | exact H
      have Ny127 := Aside0.mk hy127
      clear hy127
      obtain ⟨y130, hy130⟩ : ∃ y_ : List (S48), y_ = (([] : List (S48))) := ⟨_, rfl⟩
      replace H : (spec_l3Lens.l0 k l0 y127 y130 0) = some r := by first | (rw [hy130]; with_reducible exact H) | (have H2_ := (Option.bind_some _ _).symm.trans H; rw [hy130]; with_reducible exact H2_) | (have H2_ := (Option.bind_some _ _).symm.trans H; with_reducible exact H2_) | with_reducible exact H | (rw [hy130]; exact H) | exact H
      have Ny130 := Aside0.mk hy130
      clear hy130
      have H' := Aside0.mk H
      clear H
      go_enter Try.func33, Try.ntmps33
      go_wp2_with (first | ((with_reducible refine gate_dst (N := 14) rfl ?_); refine Kd.R_make (Kd.int .i64) _ 3 rfl (N := 14) rfl 22 _ _ rfl (l0.length : Int) rfl rfl Try.underlying22 (.int .i64 0) 8 info3 rfl (by decide) (by omega) 0 (ok := fun _ => True) (okp := fun _ => True) rfl (fun _ hk => hk) trivial (of_decide_eq_true (by first | (with_reducible assumption) | assumption)) (Nat.le_trans (Nat.mul_le_mul_right _ (of_decide_eq_true (by first | (with_reducible assumption) | assumption) : (l0.length : Int).toNat ≤ 35184372088832)) (by omega)) (Below.refl _ _) (Nat.le_refl _) ?_; intro v128 w4 ho5 hb hg_ hnew_; clear hg_ hnew_; (first | rw [← Ny127.out] at ho5 | (simp only [Int.reduceToNat] at ho5; rw [← Ny127.out] at ho5)); have n0_ := Aside0.mk (Kd.R_lower ho5 (below_size (by repeat (first | (with_reducible first | exact HB.out | apply below_alloc | apply pw_below_drewN | apply below_drew1) | exact HB.out)))); have n1_ := Aside0.mk (below_step (by repeat (first | (with_reducible first | exact HB.out | apply below_alloc | apply pw_below_drewN | apply below_drew1) | exact HB.out)) hb); clear HB; have HO129 := n0_; have HB := n1_; clear n0_ n1_; clear hb ho5) | ((with_reducible refine gate_dst (N := 15) rfl ?_); refine Kd.N_lit k48 _ 48 ?hg (N' := 15) ?hd (xs := ([] : List (S48))) (inner := []) (ok := (fun k_ => some k_ ≠ (v128 : Value).ownBlock)) (okp := (fun k_ => some k_ ≠ (v128 : Value).ownBlock)) ?hr ?hp (fun _ hk => hk) ((show ∀ k_, w4.heap.size ≤ k_ → (fun k_ => some k_ ≠ (v128 : Value).ownBlock) k_ from fun k_ hk => Kd.fresh' (Kd.R_lt (by (with_reducible repeat (first | apply Kd.R_alloc | apply Kd.R_drewN | apply Kd.R_drew)); exact HO129.out)) k_ hk) _ (Nat.le_refl _)) (Below.refl _ _) (Nat.le_refl _) (by simp) ?_; (case hd => rfl); (case hg => rfl); (case hr => first | (go_simp; done) | (go_simp; rfl)); (case hp => exact (Reps.none _ _)); intro v131 w6 ho7 hb hg_ hnew_; clear hg_ hnew_; (first | rw [← Ny130.out] at ho7 | (simp only [Int.reduceToNat] at ho7; rw [← Ny130.out] at ho7)); have n0_ := Aside0.mk (Kd.R_below (by (with_reducible repeat (first | apply Kd.R_alloc | apply Kd.R_drewN | apply Kd.R_drew)); exact HO129.out) hb); have n1_ := Aside0.mk (Kd.N_lower ho7 (below_size (by repeat (first | (with_reducible first | exact HB.out | apply below_alloc | apply pw_below_drewN | apply below_drew1) | exact HB.out)))); have n2_ := Aside0.mk (below_step (by repeat (first | (with_reducible first | exact HB.out | apply below_alloc | apply pw_below_drewN | apply below_drew1) | exact HB.out)) hb); clear HO129; clear HB; have HO129 := n0_; have HO132 := n1_; have HB := n2_; clear n0_ n1_ n2_; clear hb ho7))
      go_loopg [4, 5] k (fun kq v4 v5 w' => ∃ (x4_1 : List (S48)) (x5_1 : Int), v5 = .int .i64 x5_1 ∧ Aside0 (spec_l3Lens.l0 kq l0 y127 x4_1 x5_1 = some r) ∧ Aside0 (kq ≤ k) ∧ Aside0 (Kd.R (Kd.int .i64) 3 w' w.heap.size (fun _ => True) v128 y127) ∧ Aside0 (Kd.N k48 48 w' w.heap.size (fun k_ => some k_ ≠ (v128 : Value).ownBlock) v4 x4_1) ∧ Aside0 (Below w.heap.size w w'))
      case atStart => exact ⟨(y130), (0), (by first | rfl | (simp; done) | (simp [*]; done)), H', ⟨Nat.le_refl _⟩, ⟨by (with_reducible repeat (first | apply Kd.R_alloc | apply Kd.R_drewN | apply Kd.R_drew)); exact HO129.out⟩, ⟨by (with_reducible repeat (first | apply Kd.N_alloc | apply Kd.N_drewN | apply Kd.N_drew)); exact HO132.out⟩, ⟨by repeat (first | (with_reducible first | exact HB.out | apply below_alloc | apply pw_below_drewN | apply below_drew1) | exact HB.out)⟩⟩
      case round =>
        clear H'
        try clear c2
        try clear c2b0
        try clear c2b1
        try clear p2
        try clear c3
        try clear c3b0
        try clear c3b1
        obtain ⟨x4_1, x5_1, rfl, HA, HK1, HO_3, HO_4, HB⟩ := hrel
        cases gk with
        | zero => exact absurd HA.out (by simp [spec_l3Lens.l0])
        | succ k1 =>
          have H := HA.out
          clear HA
          simp only [spec_l3Lens.l0] at H
          by_cases c8 : x5_1 < (l0.length : Int)
          · rw [if_pos c8] at H
            have c8b0 : decide (x5_1 < (l0.length : Int)) = true := decide_eq_true c8
            clear c8
            by_cases c9 : 0 ≤ x5_1
            · rw [if_pos c9] at H
              have c9b0 : decide (0 ≤ x5_1) = true := decide_eq_true c9
              clear c9
              by_cases c10 : (rd l0 x5_1) > 0
              · rw [if_pos c10] at H
                have c10b0 : decide (0 < (rd l0 x5_1)) = true := decide_eq_true c10
                clear c10
                obtain ⟨y135, hy135⟩ : ∃ y_ : List Int, y_ = (([x5_1] : List Int)) := ⟨_, rfl⟩
                replace H : (if x4_1.length < 3518437208883 then (spec_l3Lens.l0 k1 l0 y127 (x4_1 ++ [(⟨rd l0 x5_1, x5_1, y135⟩ : S48)]) (wrap64 (x5_1 + 1))) else (none)) = some r := by first | (rw [hy135]; with_reducible exact H) | (have H2_ := (Option.bind_some _ _).symm.trans H; rw [hy135]; with_reducible exact H2_) | (have H2_ := (Option.bind_some _ _).symm.trans H; with_reducible exact H2_) | with_reducible exact H | (rw [hy135]; exact H) | exact H
                have Ny135 := Aside0.mk hy135
                clear hy135
                by_cases c11 : x4_1.length < 3518437208883
                · rw [if_pos c11] at H
                  have LMc11 := Aside0.mk c11
                  clear c11
                  obtain ⟨y138, hy138⟩ : ∃ y_ : List (S48), y_ = (x4_1 ++ [(⟨rd l0 x5_1, x5_1, y135⟩ : S48)]) := ⟨_, rfl⟩
                  replace H : (spec_l3Lens.l0 k1 l0 y127 y138 (wrap64 (x5_1 + 1))) = some r := by first | (rw [hy138]; with_reducible exact H) | (have H2_ := (Option.bind_some _ _).symm.trans H; rw [hy138]; with_reducible exact H2_) | (have H2_ := (Option.bind_some _ _).symm.trans H; with_reducible exact H2_) | with_reducible exact H | (rw [hy138]; exact H) | exact H
                  have Ny138 := Aside0.mk hy138
                  clear hy138
                  have H' := Aside0.mk H
                  clear H
                  have p133 : 0 ≤ (x5_1 : Int) := of_decide_eq_true (by first | (with_reducible assumption) | assumption)
                  have q133 : x5_1 < (l0.length : Int) := of_decide_eq_true (by first | (with_reducible assumption) | assumption)
                  obtain ⟨ad133, e133, hx133_0⟩ := Kd.at_int HR0.out x5_1 p133 q133
                  cases e133
                  replace hx133_0 := (HB.out.cell (World.block_lt_of_cell? w _ hx133_0)).trans hx133_0
                  replace p133 := eq_true p133
                  replace q133 := eq_true q133
                  have p134 : 0 ≤ (x5_1 : Int) := of_decide_eq_true (by first | (with_reducible assumption) | assumption)
                  have q134 : x5_1 < (l0.length : Int) := of_decide_eq_true (by first | (with_reducible assumption) | assumption)
                  obtain ⟨ad134, e134, hx134_0⟩ := Kd.at_int HR0.out x5_1 p134 q134
                  obtain rfl : ad133 = ad134 := (by injection e134)
                  replace hx134_0 := (HB.out.cell (World.block_lt_of_cell? w _ hx134_0)).trans hx134_0
                  replace p134 := eq_true p134
                  replace q134 := eq_true q134
                  go_wp2_with (first | ((with_reducible refine gate_dst (N := 34) rfl ?_); refine Kd.R_lit (Kd.int .i64) _ 3 ?hg (N := 34) ?hd (xs := ([x5_1] : List Int)) (inner := [.int .i64 x5_1]) (ok := fun _ => True) (okp := fun _ => True) ?hr ?hp (fun _ hk => hk) trivial (Below.refl _ _) (Nat.le_refl _) (by simp) ?_; (case hd => rfl); (case hg => rfl); (case hr => first | (go_simp; done) | (go_simp; rfl)); (case hp => exact (Reps.one (show Kd.M (Kd.int .i64) _ _ _ x5_1 [.int .i64 x5_1] from rfl) (Reps.none _ _))); intro v136 w12 ho13 hb hg_ hnew_; clear hg_ hnew_; (first | rw [← Ny135.out] at ho13 | (simp only [Int.reduceToNat] at ho13; rw [← Ny135.out] at ho13)); have n0_ := Aside0.mk (Kd.R_elder' (by (with_reducible repeat (first | apply Kd.R_alloc | apply Kd.R_drewN | apply Kd.R_drew)); exact HO_3.out) (Kd.R_base ho13) hb); have n1_ := Aside0.mk (Kd.N_elder' (by (with_reducible repeat (first | apply Kd.N_alloc | apply Kd.N_drewN | apply Kd.N_drew)); exact HO_4.out) (Kd.R_base ho13) hb); have n2_ := Aside0.mk (Kd.R_lower (Kd.R_new' ho13 (Kd.R_lt (by (with_reducible repeat (first | apply Kd.R_alloc | apply Kd.R_drewN | apply Kd.R_drew)); exact HO_3.out))) (below_size (by repeat (first | (with_reducible first | exact HB.out | apply below_alloc | apply pw_below_drewN | apply below_drew1) | exact HB.out)))); have n3_ := Aside0.mk (below_step (by repeat (first | (with_reducible first | exact HB.out | apply below_alloc | apply pw_below_drewN | apply below_drew1) | exact HB.out)) hb); clear HO_3; clear HO_4; clear HB; have HO_3 := n0_; have HO_4 := n1_; have HO137 := n2_; have HB := n3_; clear n0_ n1_ n2_ n3_; clear hb ho13; obtain ⟨Ao14, co14, eo14⟩ := Kd.R_slice HO137.out; subst eo14) | ((with_reducible refine gate_builtin (b := .append) (xs := #[.tmp 27, .tmp 36]) rfl ?_); at_builtin; refine Kd.N_append k48 (w0 := w) w.heap.size rfl (.tmp 27) (.tmp 36) 46 48 (.agg #[(.int .i64 0), (.int .i64 0), (.slice none 0 0)]) 40 rfl Try.underlying46 info48 rfl (by decide) (by omega) u4 x4_1 (⟨rd l0 x5_1, x5_1, y135⟩ : S48) [.int .i64 (rd l0 x5_1), .int .i64 x5_1, .slice Ao14 y135.length co14] (fun k_ => some k_ ≠ (v128 : Value).ownBlock) (fun k_ => ((fun k_ => some k_ ≠ (v128 : Value).ownBlock)) k_ ∧ some k_ ≠ (u4 : Value).ownBlock) rfl rfl ?aP (fun _ hk => hk) ?aF ?aO ?aB ?aS ?aL ?_; (case aP => exact (k48_mkF _ _ (⟨rd l0 x5_1, x5_1, y135⟩ : S48) (Kd.R_reads' (Kd.R_mono (ok' := (fun k_ => ((fun k_ => some k_ ≠ (v128 : Value).ownBlock)) k_ ∧ some k_ ≠ (u4 : Value).ownBlock)) (Kd.R_apart' (HO137.out) (Kd.N_typed HO_4.out) (by decide)) (by first | exact (by first | exact (fun k_ hk => ⟨hk.1.2, hk.2⟩) | (intro k_ hk_; grind)) | (intro k_ hk_; grind)))).2.1 (Kd.R_F (Kd.R_mono (ok' := (fun k_ => ((fun k_ => some k_ ≠ (v128 : Value).ownBlock)) k_ ∧ some k_ ≠ (u4 : Value).ownBlock)) (Kd.R_apart' (HO137.out) (Kd.N_typed HO_4.out) (by decide)) (by first | exact (by first | exact (fun k_ hk => ⟨hk.1.2, hk.2⟩) | (intro k_ hk_; grind)) | (intro k_ hk_; grind)))))); (case aB => exact (by repeat (first | (with_reducible first | exact HB.out | apply below_alloc | apply pw_below_drewN | apply below_drew1) | exact HB.out))); (case aF => exact (fun k_ hk => Kd.fresh' (Kd.R_lt (by (with_reducible repeat (first | apply Kd.R_alloc | apply Kd.R_drewN | apply Kd.R_drew)); exact HO_3.out)) k_ hk)); (case aO => exact (by (with_reducible repeat (first | apply Kd.N_alloc | apply Kd.N_drewN | apply Kd.N_drew)); exact Kd.N_mono HO_4.out (fun _ hk => hk.1))); (case aS => exact (below_size (by repeat (first | (with_reducible first | exact HB.out | apply below_alloc | apply pw_below_drewN | apply below_drew1) | exact HB.out)))); (case aL => have := LMc11.out; omega); intro v139 w15 ho hb hg hat; rw [← Ny138.out] at ho; have n0_ := Aside0.mk (Kd.R_over' (by (with_reducible repeat (first | apply Kd.R_alloc | apply Kd.R_drewN | apply Kd.R_drew)); exact HO_3.out) (Kd.N_typed (by (with_reducible repeat (first | apply Kd.N_alloc | apply Kd.N_drewN | apply Kd.N_drew)); exact HO_4.out)) (by decide) hg); have n1_ := Aside0.mk (hb); have n2_ := Aside0.mk (ho); clear HO_3; clear HB; clear HO_4; clear HO137; have HO_3 := n0_; have HB := n1_; have HO140 := n2_; clear n0_ n1_ n2_; clear ho hb hg hat))
                  go_roundg k1
                  case measure => have := HK1.out; omega
                  case rel => exact ⟨(y138), (wrap64 (x5_1 + 1)), (by first | rfl | (simp; done) | (simp [*]; done)), H', ⟨by have := HK1.out; omega⟩, ⟨by (with_reducible repeat (first | apply Kd.R_alloc | apply Kd.R_drewN | apply Kd.R_drew)); exact Kd.R_mono HO_3.out (fun _ hk => trivial)⟩, ⟨by (with_reducible repeat (first | apply Kd.N_alloc | apply Kd.N_drewN | apply Kd.N_drew)); exact HO140.out⟩, ⟨by repeat (first | (with_reducible first | exact HB.out | apply below_alloc | apply pw_below_drewN | apply below_drew1) | exact HB.out)⟩⟩
                · rw [if_neg c11] at H
                  exact absurd H (by simp)
              · rw [if_neg c10] at H
                have c10b0 : decide (0 < (rd l0 x5_1)) = false := decide_eq_false c10
                clear c10
                have H' := Aside0.mk H
                clear H
                have p133 : 0 ≤ (x5_1 : Int) := of_decide_eq_true (by first | (with_reducible assumption) | assumption)
                have q133 : x5_1 < (l0.length : Int) := of_decide_eq_true (by first | (with_reducible assumption) | assumption)
                obtain ⟨ad133, e133, hx133_0⟩ := Kd.at_int HR0.out x5_1 p133 q133
                cases e133
                replace hx133_0 := (HB.out.cell (World.block_lt_of_cell? w _ hx133_0)).trans hx133_0
                replace p133 := eq_true p133
                replace q133 := eq_true q133
                go_wp2
                go_roundg k1
                case measure => have := HK1.out; omega
                case rel => exact ⟨(x4_1), (wrap64 (x5_1 + 1)), (by first | rfl | (simp; done) | (simp [*]; done)), H', ⟨by have := HK1.out; omega⟩, ⟨by (with_reducible repeat (first | apply Kd.R_alloc | apply Kd.R_drewN | apply Kd.R_drew)); exact HO_3.out⟩, ⟨by (with_reducible repeat (first | apply Kd.N_alloc | apply Kd.N_drewN | apply Kd.N_drew)); exact HO_4.out⟩, ⟨by repeat (first | (with_reducible first | exact HB.out | apply below_alloc | apply pw_below_drewN | apply below_drew1) | exact HB.out)⟩⟩
            · rw [if_neg c9] at H
              exact absurd H (by simp)
          · rw [if_neg c8] at H
            have c8b0 : decide (x5_1 < (l0.length : Int)) = false := decide_eq_false c8
            clear c8
            have HC16 := Aside0.mk H
            clear H
            obtain ⟨Ao17, co17, eo17⟩ := Kd.N_slice HO_4.out
            subst eo17
            go_upto_if 40 with (fail)
            go_cut [] (fun wc => ∃ (kq : Nat) (x3_15 : List Int), Aside0 (spec_l3Lens.j1 kq x3_15 x4_1 = some r) ∧ Aside0 (kq ≤ k1) ∧ Aside0 (Kd.R (Kd.int .i64) 3 wc w.heap.size (fun _ => True) v128 x3_15) ∧ Aside0 (Kd.N k48 48 wc w.heap.size (fun k_ => some k_ ≠ (v128 : Value).ownBlock) (.slice Ao17 x4_1.length co17) x4_1) ∧ Aside0 (Below w.heap.size w wc))
            case first =>
              have H := HC16.out
              clear HC16
              by_cases c18 : (x4_1.length : Int) = 1
              · rw [if_pos c18] at H
                have c18b0 : ((x4_1.length : Int) == 1) = true := beq_iff_eq.mpr c18
                have c18b1 : ((x4_1.length : Int) != 1) = false := bne_eq_false_iff_eq.mpr c18
                clear c18
                (first | rw [c18b0] | (simp only [i64_w, i32_w]; rw [c18b0]) | skip)
                by_cases c19 : 0 < (x4_1.length : Int)
                · rw [if_pos c19] at H
                  have c19b0 : decide (0 < (x4_1.length : Int)) = true := decide_eq_true c19
                  have c19b1 : decide (0 < x4_1.length) = true := decide_eq_true (by omega)
                  clear c19
                  by_cases c20 : 0 ≤ ((rd_T48 x4_1 0).f1)
                  · rw [if_pos c20] at H
                    have c20b0 : decide (0 ≤ ((rd_T48 x4_1 0).f1)) = true := decide_eq_true c20
                    clear c20
                    by_cases c21 : ((rd_T48 x4_1 0).f1) < (y127.length : Int)
                    · rw [if_pos c21] at H
                      have c21b0 : decide (((rd_T48 x4_1 0).f1) < (y127.length : Int)) = true := decide_eq_true c21
                      clear c21
                      obtain ⟨y142, hy142⟩ : ∃ y_ : List Int, y_ = (y127.set (((rd_T48 x4_1 0).f1) : Int).toNat 1) := ⟨_, rfl⟩
                      replace H : (spec_l3Lens.j1 k1 y142 x4_1) = some r := by first | (rw [hy142]; with_reducible exact H) | (have H2_ := (Option.bind_some _ _).symm.trans H; rw [hy142]; with_reducible exact H2_) | (have H2_ := (Option.bind_some _ _).symm.trans H; with_reducible exact H2_) | with_reducible exact H | (rw [hy142]; exact H) | exact H
                      have Ny142 := Aside0.mk hy142
                      clear hy142
                      have H' := Aside0.mk H
                      clear H
                      have p141 : 0 ≤ (0 : Int) := (by omega)
                      have q141 : 0 < (x4_1.length : Int) := of_decide_eq_true (by first | (with_reducible assumption) | assumption)
                      obtain ⟨ad141, A141_2, c141_2, e141, hx141_0, hx141_1, hx141_2, hl141_2, hi141_2⟩ := at_T48 (Kd.N_reads' HO_4.out).2.2 0 p141 q141
                      cases e141
                      obtain ⟨ce141, hce141, hMe141, hcc141⟩ := Kd.N_get HO_4.out z48 0 p141 (by first | exact q141 | exact of_decide_eq_true (by first | (with_reducible assumption) | assumption) | (have e_ := (Kd.N_reads' HO_4.out).1; omega))
                      obtain ⟨ua141_2, uc141_2, rfl, ul141_2, ge141_2⟩ := k48_openF hMe141
                      have hv141_2 := hcc141 2 _ rfl
                      rw [add_field _ _ 2 (by omega)] at hv141_2
                      replace hv141_2 := Option.some.inj (hv141_2.symm.trans hx141_2)
                      injection hv141_2 with hva_ hvn_ hvc_
                      rw [hva_] at ge141_2
                      rw [hvc_] at ul141_2
                      have HL141_2 := Aside0.mk (show Kd.V (Kd.int .i64) 3 _ w.heap.size _ _ ((rd_T48 x4_1 0).f2) from Kd.V_mk ul141_2 ge141_2)
                      clear hva_ hvn_ hvc_ ge141_2 ul141_2
                      clear hcc141 hce141
                      have qi141 : (0 < x4_1.length) = True := eq_true (by omega)
                      (try rw [show ((0 : Int)).toNat = 0 from rfl] at hx141_0)
                      (try rw [show 0 * 3 = 0 from rfl] at hx141_0)
                      (try rw [Addr.add_zero'] at hx141_0)
                      (try rw [show ((0 : Int)).toNat = 0 from rfl] at hx141_1)
                      (try rw [show 0 * 3 = 0 from rfl] at hx141_1)
                      (try rw [Addr.add_zero'] at hx141_1)
                      (try rw [show ((0 : Int)).toNat = 0 from rfl] at hx141_2)
                      (try rw [show 0 * 3 = 0 from rfl] at hx141_2)
                      (try rw [Addr.add_zero'] at hx141_2)
                      have HR141_2 := Aside0.mk hi141_2
                      have HC141_2 := Aside0.mk hl141_2
                      clear hi141_2 hl141_2
                      replace p141 := eq_true p141
                      replace q141 := eq_true q141
                      have p22 : 0 ≤ (((rd_T48 x4_1 0).f1) : Int) := of_decide_eq_true (by first | (with_reducible assumption) | assumption)
                      have q22 : (((rd_T48 x4_1 0).f1) : Int) < ((y127.length : Int) : Int) := of_decide_eq_true (by first | (with_reducible assumption) | assumption)
                      obtain ⟨go22, co22, eo22, gb22, gl22, cl22, HG22⟩ := Kd.R_form HO_3.out (by omega)
                      (first | cases eo22 | (injection eo22 with ea_ en_ ec_; (first | subst ea_ | (injection ea_ with ea_; subst ea_)); subst ec_; clear en_))
                      have GB22 := Aside0.mk gb22
                      have GG22 := Aside0.mk HG22
                      clear gb22 gl22 HG22
                      obtain ⟨hx22_0, hf22_0⟩ := Kd.R_celln 0 HO_3.out (((rd_T48 x4_1 0).f1) : Int) p22 q22
                      replace p22 := eq_true p22
                      replace q22 := eq_true q22
                      have HP23 := Kd.R_putg HO_3.out (((rd_T48 x4_1 0).f1) : Int) 1
                      go_wp2_with (first | ((with_reducible refine gate_store (t := 3) (p := 46) rfl ?_); refine store_event (t := 3) (p := 46) (v := ?vo_w24) (w1 := (wr.setCell ⟨go22, (((rd_T48 x4_1 0).f1) : Int).toNat, none⟩ (.int .i64 1))) ?hg ?ho ?hn ?hr ?_; (case ho => rfl); (case hg => rfl); (case hn => rfl); (case hr => first | (go_simp; done) | (go_simp; rfl)); intro w24 hw; have hg : wr.grownBy w24 (some go22) := (by rw [hw]; exact HP23.2); have hp_ : Kd.R (Kd.int .i64) 3 w24 w.heap.size (fun _ => True) (.slice (some ⟨go22, 0, none⟩) y127.length co22) y142 := (by rw [hw, Ny142.out]; exact HP23.1); clear HP23; have n0_ := Aside0.mk (hp_); have n1_ := Aside0.mk (Kd.N_afterv (v := (.slice (some ⟨go22, 0, none⟩) y127.length co22)) (v1 := (.slice (some ⟨go22, 0, none⟩) y127.length co22)) (ok := (fun _ => True)) (by (with_reducible repeat (first | apply Kd.N_alloc | apply Kd.N_drewN | apply Kd.N_drew)); exact Kd.N_mono HO_4.out (by first | exact (by first | exact (fun _ hk => ⟨trivial, hk⟩) | (intro k_ hk_; grind)) | (intro k_ hk_; grind))) hg (.inl rfl)); have n2_ := Aside0.mk (Kd.V_afterv (v := (.slice (some ⟨go22, 0, none⟩) y127.length co22)) (v1 := (.slice (some ⟨go22, 0, none⟩) y127.length co22)) (ok := (fun k_ => some k_ ≠ (.slice (some ad141) x4_1.length co17 : Value).ownBlock)) (by (with_reducible repeat (first | apply Kd.V_alloc | apply Kd.V_drewN | apply Kd.V_drew)); exact Kd.V_mono HL141_2.out (by first | exact (by first | exact (fun _ hk => ⟨hk.2, hk.1⟩) | (intro k_ hk_; grind)) | (intro k_ hk_; grind))) hg (.inl rfl)); have n3_ := Aside0.mk ((by rw [hw]; exact below_set (HB.out) GB22.out : Below w.heap.size w w24)); clear HO_3; clear HO_4; clear HL141_2; clear HB; have HO_3 := n0_; have HO_4 := n1_; have HL141_2 := n2_; have HB := n3_; clear n0_ n1_ n2_ n3_; clear hg hw hp_))
                      go_meet
                      case rel => exact ⟨_, (y142), H', ⟨by have := HK1.out; first | omega | exact Nat.le_refl _⟩, ⟨by (with_reducible repeat (first | apply Kd.R_alloc | apply Kd.R_drewN | apply Kd.R_drew)); exact HO_3.out⟩, ⟨by (with_reducible repeat (first | apply Kd.N_alloc | apply Kd.N_drewN | apply Kd.N_drew)); exact Kd.N_mono HO_4.out (fun _ hk => hk.2)⟩, ⟨by repeat (first | (with_reducible first | exact HB.out | apply below_alloc | apply pw_below_drewN | apply below_drew1) | exact HB.out)⟩⟩
                    · rw [if_neg c21] at H
                      exact absurd H (by simp)
                  · rw [if_neg c20] at H
                    exact absurd H (by simp)
                · rw [if_neg c19] at H
                  exact absurd H (by simp)
              · rw [if_neg c18] at H
                have c18b0 : ((x4_1.length : Int) == 1) = false := beq_eq_false_iff_ne.mpr c18
                have c18b1 : ((x4_1.length : Int) != 1) = true := bne_iff_ne.mpr c18
                (first | rw [c18b0] | (simp only [i64_w, i32_w]; rw [c18b0]) | skip)
                have H' := Aside0.mk H
                clear H
                go_wp2
                go_meet
                case rel => exact ⟨_, (y127), H', ⟨by have := HK1.out; first | omega | exact Nat.le_refl _⟩, ⟨by (with_reducible repeat (first | apply Kd.R_alloc | apply Kd.R_drewN | apply Kd.R_drew)); exact HO_3.out⟩, ⟨by (with_reducible repeat (first | apply Kd.N_alloc | apply Kd.N_drewN | apply Kd.N_drew)); exact HO_4.out⟩, ⟨by repeat (first | (with_reducible first | exact HB.out | apply below_alloc | apply pw_below_drewN | apply below_drew1) | exact HB.out)⟩⟩
            case rest =>
              clear HC16
              try clear c1
              try clear p1
              try clear q1
              try clear hx1
              try clear qi1
              try clear c2
              try clear c2b0
              try clear c2b1
              try clear p2
              try clear q2
              try clear hx2
              try clear hf2
              try clear c3
              try clear c3b0
              try clear c3b1
              try clear p6
              try clear c8
              try clear c8b0
              try clear c9
              try clear c9b0
              try clear c10
              try clear c10b0
              try clear c11
              try clear p13
              try clear q13
              try clear hx13
              try clear c14
              try clear p14
              try clear q14
              try clear hx14
              try clear qi14
              try clear c18
              try clear c18b0
              try clear c18b1
              try clear c19
              try clear c19b0
              try clear c19b1
              try clear c20
              try clear c20b0
              try clear c21
              try clear c21b0
              try clear p22
              try clear q22
              try clear hx22
              try clear hf22
              try clear hx133_0
              try clear hx134_0
              try clear hx141_0
              try clear hx141_1
              try clear hx141_2
              try clear hx22_0
              try clear p133
              try clear p134
              try clear p141
              try clear p2
              try clear p22
              try clear q133
              try clear q134
              try clear q141
              try clear q22
              obtain ⟨kq, x3_15, HA, HJ15, HO_3, HO_4, HB⟩ := hcut
              cases kq with
              | zero => exact absurd HA.out (by simp [spec_l3Lens.j1])
              | succ kj15 =>
                have H := HA.out
                clear HA
                simp only [spec_l3Lens.j1] at H
                have H' := Aside0.mk H
                clear H
                go_wp2
                go_loopg [4] kj15 (fun kq v4 w' => ∃ (x3_3 : List Int) (x4_3 : List (S48)), Aside0 (spec_l3Lens.l1 kq x3_3 x4_3 = some r) ∧ Aside0 (kq ≤ kj15) ∧ Aside0 (Kd.R (Kd.int .i64) 3 w' w.heap.size (fun _ => True) v128 x3_3) ∧ Aside0 (Kd.N k48 48 w' w.heap.size (fun k_ => some k_ ≠ (v128 : Value).ownBlock) v4 x4_3) ∧ Aside0 (Below w.heap.size w w'))
                case atStart => exact ⟨(x3_15), (x4_1), H', ⟨Nat.le_refl _⟩, ⟨by (with_reducible repeat (first | apply Kd.R_alloc | apply Kd.R_drewN | apply Kd.R_drew)); exact HO_3.out⟩, ⟨by (with_reducible repeat (first | apply Kd.N_alloc | apply Kd.N_drewN | apply Kd.N_drew)); exact HO_4.out⟩, ⟨by repeat (first | (with_reducible first | exact HB.out | apply below_alloc | apply pw_below_drewN | apply below_drew1) | exact HB.out)⟩⟩
                case round =>
                  clear H'
                  try clear c1
                  try clear p1
                  try clear q1
                  try clear hx1
                  try clear qi1
                  try clear c2
                  try clear c2b0
                  try clear c2b1
                  try clear p2
                  try clear q2
                  try clear hx2
                  try clear hf2
                  try clear c3
                  try clear c3b0
                  try clear c3b1
                  try clear p6
                  try clear c8
                  try clear c8b0
                  try clear c9
                  try clear c9b0
                  try clear c10
                  try clear c10b0
                  try clear c11
                  try clear p13
                  try clear q13
                  try clear hx13
                  try clear c14
                  try clear p14
                  try clear q14
                  try clear hx14
                  try clear qi14
                  try clear c18
                  try clear c18b0
                  try clear c18b1
                  try clear c19
                  try clear c19b0
                  try clear c19b1
                  try clear c20
                  try clear c20b0
                  try clear c21
                  try clear c21b0
                  try clear p22
                  try clear q22
                  try clear hx22
                  try clear hf22
                  try clear hx133_0
                  try clear hx134_0
                  try clear hx141_0
                  try clear hx141_1
                  try clear hx141_2
                  try clear hx22_0
                  try clear p1
                  try clear p13
                  try clear p133
                  try clear p134
                  try clear p14
                  try clear p141
                  try clear p2
                  try clear p22
                  try clear p6
                  try clear q1
                  try clear q13
                  try clear q133
                  try clear q134
                  try clear q14
                  try clear q141
                  try clear q2
                  try clear q22
                  obtain ⟨x3_3, x4_3, HA, HK3, HO_3, HO_4, HB⟩ := hrel
                  cases gk with
                  | zero => exact absurd HA.out (by simp [spec_l3Lens.l1])
                  | succ k3 =>
                    have H := HA.out
                    clear HA
                    simp only [spec_l3Lens.l1] at H
                    by_cases c25 : (x4_3.length : Int) > 1
                    · rw [if_pos c25] at H
                      have c25b0 : decide (1 < (x4_3.length : Int)) = true := decide_eq_true c25
                      have c25b1 : decide (1 < x4_3.length) = true := decide_eq_true (by omega)
                      clear c25
                      replace H := Option.bind_eq_some_iff.mp H
                      obtain ⟨t143, A260, H⟩ := H
                      replace H : (if 0 ≤ t143 then (if t143 < (x4_3.length : Int) then ((spec_l3Less.f x4_3 t143).bind fun t146 => ((spec_l3Least.f k3 t146).bind fun t149 => (if 0 ≤ t149 then (if t149 < (t146.length : Int) then ((spec_l3Less.f t146 t149).bind fun t152 => (if ((rd_T48 t146 t149).f1) < ((rd_T48 x4_3 t143).f1) then ((some (([] : List Int) : List Int)).bind fun y155 => (if y155.length + ((rd_T48 x4_3 t143).f2).length < 17592186044416 then ((some (y155 ++ ((rd_T48 x4_3 t143).f2) : List Int)).bind fun y158 => (if y158.length + ((rd_T48 t146 t149).f2).length < 17592186044416 then (spec_l3Lens.l2 k3 x3_3 t152 ((rd_T48 t146 t149).f1) (y158 ++ ((rd_T48 t146 t149).f2)) 0 ((rd_T48 x4_3 t143).f0) ((rd_T48 x4_3 t143).f1) ((rd_T48 x4_3 t143).f2) ((rd_T48 t146 t149).f0) ((rd_T48 t146 t149).f1) ((rd_T48 t146 t149).f2)) else (none))) else (none))) else ((some (([] : List Int) : List Int)).bind fun y171 => (if y171.length + ((rd_T48 x4_3 t143).f2).length < 17592186044416 then ((some (y171 ++ ((rd_T48 x4_3 t143).f2) : List Int)).bind fun y174 => (if y174.length + ((rd_T48 t146 t149).f2).length < 17592186044416 then (spec_l3Lens.l2 k3 x3_3 t152 ((rd_T48 x4_3 t143).f1) (y174 ++ ((rd_T48 t146 t149).f2)) 0 ((rd_T48 x4_3 t143).f0) ((rd_T48 x4_3 t143).f1) ((rd_T48 x4_3 t143).f2) ((rd_T48 t146 t149).f0) ((rd_T48 t146 t149).f1) ((rd_T48 t146 t149).f2)) else (none))) else (none))))) else (none)) else (none)))) else (none)) else (none)) = some r := H
                      have A26 := Aside0.mk A260
                      clear A260
                      by_cases c27 : 0 ≤ t143
                      · rw [if_pos c27] at H
                        have c27b0 : decide (0 ≤ t143) = true := decide_eq_true c27
                        clear c27
                        by_cases c28 : t143 < (x4_3.length : Int)
                        · rw [if_pos c28] at H
                          have c28b0 : decide (t143 < (x4_3.length : Int)) = true := decide_eq_true c28
                          clear c28
                          replace H := Option.bind_eq_some_iff.mp H
                          obtain ⟨t146, A290, H⟩ := H
                          replace H : ((spec_l3Least.f k3 t146).bind fun t149 => (if 0 ≤ t149 then (if t149 < (t146.length : Int) then ((spec_l3Less.f t146 t149).bind fun t152 => (if ((rd_T48 t146 t149).f1) < ((rd_T48 x4_3 t143).f1) then ((some (([] : List Int) : List Int)).bind fun y155 => (if y155.length + ((rd_T48 x4_3 t143).f2).length < 17592186044416 then ((some (y155 ++ ((rd_T48 x4_3 t143).f2) : List Int)).bind fun y158 => (if y158.length + ((rd_T48 t146 t149).f2).length < 17592186044416 then (spec_l3Lens.l2 k3 x3_3 t152 ((rd_T48 t146 t149).f1) (y158 ++ ((rd_T48 t146 t149).f2)) 0 ((rd_T48 x4_3 t143).f0) ((rd_T48 x4_3 t143).f1) ((rd_T48 x4_3 t143).f2) ((rd_T48 t146 t149).f0) ((rd_T48 t146 t149).f1) ((rd_T48 t146 t149).f2)) else (none))) else (none))) else ((some (([] : List Int) : List Int)).bind fun y171 => (if y171.length + ((rd_T48 x4_3 t143).f2).length < 17592186044416 then ((some (y171 ++ ((rd_T48 x4_3 t143).f2) : List Int)).bind fun y174 => (if y174.length + ((rd_T48 t146 t149).f2).length < 17592186044416 then (spec_l3Lens.l2 k3 x3_3 t152 ((rd_T48 x4_3 t143).f1) (y174 ++ ((rd_T48 t146 t149).f2)) 0 ((rd_T48 x4_3 t143).f0) ((rd_T48 x4_3 t143).f1) ((rd_T48 x4_3 t143).f2) ((rd_T48 t146 t149).f0) ((rd_T48 t146 t149).f1) ((rd_T48 t146 t149).f2)) else (none))) else (none))))) else (none)) else (none))) = some r := H
                          have A29 := Aside0.mk A290
                          clear A290
                          replace H := Option.bind_eq_some_iff.mp H
                          obtain ⟨t149, A300, H⟩ := H
                          replace H : (if 0 ≤ t149 then (if t149 < (t146.length : Int) then ((spec_l3Less.f t146 t149).bind fun t152 => (if ((rd_T48 t146 t149).f1) < ((rd_T48 x4_3 t143).f1) then ((some (([] : List Int) : List Int)).bind fun y155 => (if y155.length + ((rd_T48 x4_3 t143).f2).length < 17592186044416 then ((some (y155 ++ ((rd_T48 x4_3 t143).f2) : List Int)).bind fun y158 => (if y158.length + ((rd_T48 t146 t149).f2).length < 17592186044416 then (spec_l3Lens.l2 k3 x3_3 t152 ((rd_T48 t146 t149).f1) (y158 ++ ((rd_T48 t146 t149).f2)) 0 ((rd_T48 x4_3 t143).f0) ((rd_T48 x4_3 t143).f1) ((rd_T48 x4_3 t143).f2) ((rd_T48 t146 t149).f0) ((rd_T48 t146 t149).f1) ((rd_T48 t146 t149).f2)) else (none))) else (none))) else ((some (([] : List Int) : List Int)).bind fun y171 => (if y171.length + ((rd_T48 x4_3 t143).f2).length < 17592186044416 then ((some (y171 ++ ((rd_T48 x4_3 t143).f2) : List Int)).bind fun y174 => (if y174.length + ((rd_T48 t146 t149).f2).length < 17592186044416 then (spec_l3Lens.l2 k3 x3_3 t152 ((rd_T48 x4_3 t143).f1) (y174 ++ ((rd_T48 t146 t149).f2)) 0 ((rd_T48 x4_3 t143).f0) ((rd_T48 x4_3 t143).f1) ((rd_T48 x4_3 t143).f2) ((rd_T48 t146 t149).f0) ((rd_T48 t146 t149).f1) ((rd_T48 t146 t149).f2)) else (none))) else (none))))) else (none)) else (none)) = some r := H
                          have A30 := Aside0.mk A300
                          clear A300
                          by_cases c31 : 0 ≤ t149
                          · rw [if_pos c31] at H
                            have c31b0 : decide (0 ≤ t149) = true := decide_eq_true c31
                            clear c31
                            by_cases c32 : t149 < (t146.length : Int)
                            · rw [if_pos c32] at H
                              have c32b0 : decide (t149 < (t146.length : Int)) = true := decide_eq_true c32
                              clear c32
                              replace H := Option.bind_eq_some_iff.mp H
                              obtain ⟨t152, A330, H⟩ := H
                              replace H : (if ((rd_T48 t146 t149).f1) < ((rd_T48 x4_3 t143).f1) then ((some (([] : List Int) : List Int)).bind fun y155 => (if y155.length + ((rd_T48 x4_3 t143).f2).length < 17592186044416 then ((some (y155 ++ ((rd_T48 x4_3 t143).f2) : List Int)).bind fun y158 => (if y158.length + ((rd_T48 t146 t149).f2).length < 17592186044416 then (spec_l3Lens.l2 k3 x3_3 t152 ((rd_T48 t146 t149).f1) (y158 ++ ((rd_T48 t146 t149).f2)) 0 ((rd_T48 x4_3 t143).f0) ((rd_T48 x4_3 t143).f1) ((rd_T48 x4_3 t143).f2) ((rd_T48 t146 t149).f0) ((rd_T48 t146 t149).f1) ((rd_T48 t146 t149).f2)) else (none))) else (none))) else ((some (([] : List Int) : List Int)).bind fun y171 => (if y171.length + ((rd_T48 x4_3 t143).f2).length < 17592186044416 then ((some (y171 ++ ((rd_T48 x4_3 t143).f2) : List Int)).bind fun y174 => (if y174.length + ((rd_T48 t146 t149).f2).length < 17592186044416 then (spec_l3Lens.l2 k3 x3_3 t152 ((rd_T48 x4_3 t143).f1) (y174 ++ ((rd_T48 t146 t149).f2)) 0 ((rd_T48 x4_3 t143).f0) ((rd_T48 x4_3 t143).f1) ((rd_T48 x4_3 t143).f2) ((rd_T48 t146 t149).f0) ((rd_T48 t146 t149).f1) ((rd_T48 t146 t149).f2)) else (none))) else (none)))) = some r := H
                              have A33 := Aside0.mk A330
                              clear A330
                              by_cases c34 : ((rd_T48 t146 t149).f1) < ((rd_T48 x4_3 t143).f1)
                              · rw [if_pos c34] at H
                                have c34b0 : decide (((rd_T48 t146 t149).f1) < ((rd_T48 x4_3 t143).f1)) = true := decide_eq_true c34
                                clear c34
                                obtain ⟨y155, hy155⟩ : ∃ y_ : List Int, y_ = (([] : List Int)) := ⟨_, rfl⟩
                                replace H : (if y155.length + ((rd_T48 x4_3 t143).f2).length < 17592186044416 then ((some (y155 ++ ((rd_T48 x4_3 t143).f2) : List Int)).bind fun y158 => (if y158.length + ((rd_T48 t146 t149).f2).length < 17592186044416 then (spec_l3Lens.l2 k3 x3_3 t152 ((rd_T48 t146 t149).f1) (y158 ++ ((rd_T48 t146 t149).f2)) 0 ((rd_T48 x4_3 t143).f0) ((rd_T48 x4_3 t143).f1) ((rd_T48 x4_3 t143).f2) ((rd_T48 t146 t149).f0) ((rd_T48 t146 t149).f1) ((rd_T48 t146 t149).f2)) else (none))) else (none)) = some r := by first | (rw [hy155]; with_reducible exact H) | (have H2_ := (Option.bind_some _ _).symm.trans H; rw [hy155]; with_reducible exact H2_) | (have H2_ := (Option.bind_some _ _).symm.trans H; with_reducible exact H2_) | with_reducible exact H | (rw [hy155]; exact H) | exact H
                                have Ny155 := Aside0.mk hy155
                                clear hy155
                                by_cases c35 : y155.length + ((rd_T48 x4_3 t143).f2).length < 17592186044416
                                · rw [if_pos c35] at H
                                  have LMc35 := Aside0.mk c35
                                  clear c35
                                  obtain ⟨y158, hy158⟩ : ∃ y_ : List Int, y_ = (y155 ++ ((rd_T48 x4_3 t143).f2)) := ⟨_, rfl⟩
                                  replace H : (if y158.length + ((rd_T48 t146 t149).f2).length < 17592186044416 then (spec_l3Lens.l2 k3 x3_3 t152 ((rd_T48 t146 t149).f1) (y158 ++ ((rd_T48 t146 t149).f2)) 0 ((rd_T48 x4_3 t143).f0) ((rd_T48 x4_3 t143).f1) ((rd_T48 x4_3 t143).f2) ((rd_T48 t146 t149).f0) ((rd_T48 t146 t149).f1) ((rd_T48 t146 t149).f2)) else (none)) = some r := by first | (rw [hy158]; with_reducible exact H) | (have H2_ := (Option.bind_some _ _).symm.trans H; rw [hy158]; with_reducible exact H2_) | (have H2_ := (Option.bind_some _ _).symm.trans H; with_reducible exact H2_) | with_reducible exact H | (rw [hy158]; exact H) | exact H
                                  have Ny158 := Aside0.mk hy158
                                  clear hy158
                                  by_cases c36 : y158.length + ((rd_T48 t146 t149).f2).length < 17592186044416
                                  · rw [if_pos c36] at H
                                    have LMc36 := Aside0.mk c36
                                    clear c36
                                    obtain ⟨y161, hy161⟩ : ∃ y_ : List Int, y_ = (y158 ++ ((rd_T48 t146 t149).f2)) := ⟨_, rfl⟩
                                    replace H : (spec_l3Lens.l2 k3 x3_3 t152 ((rd_T48 t146 t149).f1) y161 0 ((rd_T48 x4_3 t143).f0) ((rd_T48 x4_3 t143).f1) ((rd_T48 x4_3 t143).f2) ((rd_T48 t146 t149).f0) ((rd_T48 t146 t149).f1) ((rd_T48 t146 t149).f2)) = some r := by first | (rw [hy161]; with_reducible exact H) | (have H2_ := (Option.bind_some _ _).symm.trans H; rw [hy161]; with_reducible exact H2_) | (have H2_ := (Option.bind_some _ _).symm.trans H; with_reducible exact H2_) | with_reducible exact H | (rw [hy161]; exact H) | exact H
                                    have Ny161 := Aside0.mk hy161
                                    clear hy161
                                    have H' := Aside0.mk H
                                    clear H
                                    obtain ⟨Ao37, co37, eo37⟩ := Kd.N_slice HO_4.out
                                    subst eo37
                                    try go_wp2_with (first | ((with_reducible refine gate_callee (f := 36) rfl ?_); refine goesL_ (some 51) rfl rfl Try.func36 (by kernel_rfl) rfl #[.slice Ao37 x4_3.length co37] rfl (by (try simp only [List.map_toArray, List.map_cons, List.map_nil]); first | done | rfl | (simp only [List.length_drop, List.length_take]; rfl)) ?_; (with_reducible refine (spec_l3Least.calls k3 _ _ x4_3 t143 _ ?side1 ?side2 A26.out).mono ?_); (case side1 => repeat (first | exact (Kd.N_reads' HO_4.out).2.2 | (with_reducible refine Kd.C_alloc ?_ _) | (with_reducible refine Kd.C_drewN ?_ _) | (with_reducible refine Kd.C_drew ?_))); (case side2 => exact (Kd.N_reads' HO_4.out).2.1); rintro e w' ⟨rfl, ⟨nd, rfl⟩⟩; refine ⟨_, rfl, ?_⟩; (try (rw [drewN_self wr]; generalize hq_ : World.drewN wr _ = wr; have n0_ : Aside0 (Kd.R (Kd.int .i64) 3 wr w.heap.size (fun _ => True) v128 x3_3) := ⟨by rw [← hq_]; exact (by (with_reducible repeat (first | apply Kd.R_alloc | apply Kd.R_drewN | apply Kd.R_drew)); exact HO_3.out)⟩; have n1_ : Aside0 (Kd.N k48 48 wr w.heap.size (fun k_ => some k_ ≠ (v128 : Value).ownBlock) (.slice Ao37 x4_3.length co37) x4_3) := ⟨by rw [← hq_]; exact (by (with_reducible repeat (first | apply Kd.N_alloc | apply Kd.N_drewN | apply Kd.N_drew)); exact HO_4.out)⟩; have n2_ : Aside0 (Below w.heap.size w wr) := ⟨by rw [← hq_]; exact (by repeat (first | (with_reducible first | exact HB.out | apply below_alloc | apply pw_below_drewN | apply below_drew1) | exact HB.out))⟩; clear HO_3 HO_4 HB hq_; have HO_3 := n0_; have HO_4 := n1_; have HB := n2_; clear n0_ n1_ n2_)); have p144 : 0 ≤ (t143 : Int) := of_decide_eq_true (by first | (with_reducible assumption) | assumption); have q144 : t143 < (x4_3.length : Int) := of_decide_eq_true (by first | (with_reducible assumption) | assumption); obtain ⟨ad144, A144_2, c144_2, e144, hx144_0, hx144_1, hx144_2, hl144_2, hi144_2⟩ := at_T48 (Kd.N_reads' HO_4.out).2.2 t143 p144 q144; cases e144; obtain ⟨ce144, hce144, hMe144, hcc144⟩ := Kd.N_get HO_4.out z48 t143 p144 (by first | exact q144 | exact of_decide_eq_true (by first | (with_reducible assumption) | assumption) | (have e_ := (Kd.N_reads' HO_4.out).1; omega)); obtain ⟨ua144_2, uc144_2, rfl, ul144_2, ge144_2⟩ := k48_openF hMe144; have hv144_2 := hcc144 2 _ rfl; rw [add_field _ _ 2 (by omega)] at hv144_2; replace hv144_2 := Option.some.inj (hv144_2.symm.trans hx144_2); injection hv144_2 with hva_ hvn_ hvc_; rw [hva_] at ge144_2; rw [hvc_] at ul144_2; have HL144_2 := Aside0.mk (show Kd.V (Kd.int .i64) 3 _ w.heap.size _ _ ((rd_T48 x4_3 t143).f2) from Kd.V_mk ul144_2 ge144_2); clear hva_ hvn_ hvc_ ge144_2 ul144_2; clear hcc144 hce144; have HR144_2 := Aside0.mk hi144_2; have HC144_2 := Aside0.mk hl144_2; clear hi144_2 hl144_2; replace p144 := eq_true p144; replace q144 := eq_true q144) | ((with_reducible refine gate_dst (N := 7) rfl ?_); refine box_event ?hg (N := 7) ?hd (cs := #[.int .i64 0, .int .i64 0, .slice none 0 0]) (t := 48) ?hr ?_; (case hd => rfl); (case hg => rfl); (case hr => first | (go_simp; done) | (go_simp; rfl)); intro gb145 hg w38 hbox hb; have n0_ := Aside0.mk (Kd.R_below (by (with_reducible repeat (first | apply Kd.R_alloc | apply Kd.R_drewN | apply Kd.R_drew)); exact HO_3.out) hb); have n1_ := Aside0.mk (Kd.N_below (Kd.N_elderB (by (with_reducible repeat (first | apply Kd.N_alloc | apply Kd.N_drewN | apply Kd.N_drew)); exact HO_4.out) gb145 (Nat.le_of_eq hg.symm)) hb); have n2_ := Aside0.mk (Kd.V_below (Kd.V_elderB (by (with_reducible repeat (first | apply Kd.V_alloc | apply Kd.V_drewN | apply Kd.V_drew)); exact HL144_2.out) gb145 (Nat.le_of_eq hg.symm)) hb); have n3_ := Aside0.mk (Kd.C_below (by first | exact (Kd.V_reads' HL144_2.out).2.2 | repeat (first | (with_reducible exact HR144_2.out) | (with_reducible refine Kd.C_alloc ?_ _) | (with_reducible refine Kd.C_drewN ?_ _) | (with_reducible refine Kd.C_drew ?_) | exact HR144_2.out)) hb); have n4_ := Aside0.mk (below_step (by repeat (first | (with_reducible first | exact HB.out | apply below_alloc | apply pw_below_drewN | apply below_drew1) | exact HB.out)) hb); have n5_ := Aside0.mk (hbox); have n6_ := Aside0.mk ((by rw [hg]; exact (below_size (by repeat (first | (with_reducible first | exact HB.out | apply below_alloc | apply pw_below_drewN | apply below_drew1) | exact HB.out))) : w.heap.size ≤ gb145)); have n7_ := Aside0.mk ((by rw [hg]; exact (below_size (by repeat (first | (with_reducible first | exact HB.out | apply below_alloc | apply pw_below_drewN | apply below_drew1) | exact HB.out))) : w.heap.size ≤ gb145)); clear HO_3; clear HO_4; clear HL144_2; clear HR144_2; clear HB; have HO_3 := n0_; have HO_4 := n1_; have HL144_2 := n2_; have HR144_2 := n3_; have HB := n4_; have BK145 := n5_; have GW145 := n6_; have GE145 := n7_; clear n0_ n1_ n2_ n3_ n4_ n5_ n6_ n7_; clear hb hbox hg; have hcz39_0 : w38.cell? ⟨gb145, 0, none⟩ = some (.int .i64 0) := (blk_cell BK145.out 0).trans rfl; have hcz39_1 : w38.cell? ⟨gb145, 1, none⟩ = some (.int .i64 0) := (blk_cell BK145.out 1).trans rfl; have hcz39_2 : w38.cell? ⟨gb145, 2, none⟩ = some (.slice none 0 0) := (blk_cell BK145.out 2).trans rfl; have hfz39_0 := blk_frozen BK145.out 0; have hfz39_1 := blk_frozen BK145.out 1; have hfz39_2 := blk_frozen BK145.out 2) | ((with_reducible refine gate_store (t := 48) (p := 7) rfl ?_); refine store_event (t := 48) (p := 7) (v := ?vo_w40) (w1 := (((w38.setCell ⟨gb145, 0, none⟩ (.int .i64 ((rd_T48 x4_3 t143).f0))).setCell ⟨gb145, 1, none⟩ (.int .i64 ((rd_T48 x4_3 t143).f1))).setCell ⟨gb145, 2, none⟩ (.slice A144_2 ((rd_T48 x4_3 t143).f2).length c144_2))) ?hg ?ho ?hn ?hr ?_; (case ho => rfl); (case hg => rfl); (case hn => rfl); (case hr => first | (go_simp; done) | (go_simp; rfl)); intro w40 hw; have n0_ : Aside0 (Kd.R (Kd.int .i64) 3 w40 w.heap.size (fun _ => True) v128 x3_3) := ⟨(by rw [hw]; exact (by (with_reducible repeat (first | apply Kd.R_alloc | apply Kd.R_drewN | apply Kd.R_drew)); exact Kd.R_mono (Kd.R_far (p := ⟨gb145, 2, none⟩) (Kd.R_far (p := ⟨gb145, 1, none⟩) (Kd.R_far (p := ⟨gb145, 0, none⟩) (Kd.R_types HO_3.out BK145.out (by decide)) (fun _ hk => hk.2) (.int .i64 ((rd_T48 x4_3 t143).f0))) (fun _ hk => hk.2) (.int .i64 ((rd_T48 x4_3 t143).f1))) (fun _ hk => hk.2) (.slice A144_2 ((rd_T48 x4_3 t143).f2).length c144_2)) (fun _ hk => trivial)))⟩; have n1_ : Aside0 (Kd.N k48 48 w40 w.heap.size (fun k_ => some k_ ≠ (v128 : Value).ownBlock ∧ k_ ≠ gb145) (.slice (some ad144) x4_3.length co37) x4_3) := ⟨(by rw [hw]; exact (by (with_reducible repeat (first | apply Kd.N_alloc | apply Kd.N_drewN | apply Kd.N_drew)); exact Kd.N_mono (Kd.N_far (p := ⟨gb145, 2, none⟩) (Kd.N_far (p := ⟨gb145, 1, none⟩) (Kd.N_far (p := ⟨gb145, 0, none⟩) (Kd.N_mono HO_4.out (fun k_ hk => (⟨hk, hk.2⟩ : _ ∧ k_ ≠ gb145))) (fun _ hk => hk.2) (.int .i64 ((rd_T48 x4_3 t143).f0))) (fun _ hk => hk.2) (.int .i64 ((rd_T48 x4_3 t143).f1))) (fun _ hk => hk.2) (.slice A144_2 ((rd_T48 x4_3 t143).f2).length c144_2)) (by first | exact (by first | exact (fun _ hk => ⟨hk.1.1, hk.1.2⟩) | (intro k_ hk_; grind)) | (intro k_ hk_; grind))))⟩; have n2_ : Aside0 (Kd.V (Kd.int .i64) 3 w40 w.heap.size (fun k_ => some k_ ≠ (v128 : Value).ownBlock ∧ some k_ ≠ (.slice (some ad144) x4_3.length co37 : Value).ownBlock ∧ k_ ≠ gb145) (.slice A144_2 ((rd_T48 x4_3 t143).f2).length c144_2) ((rd_T48 x4_3 t143).f2)) := ⟨(by rw [hw]; exact (by (with_reducible repeat (first | apply Kd.V_alloc | apply Kd.V_drewN | apply Kd.V_drew)); exact Kd.V_mono (Kd.V_far (p := ⟨gb145, 2, none⟩) (Kd.V_far (p := ⟨gb145, 1, none⟩) (Kd.V_far (p := ⟨gb145, 0, none⟩) (Kd.V_mono HL144_2.out (fun k_ hk => (⟨hk, hk.2⟩ : _ ∧ k_ ≠ gb145))) (fun _ hk => hk.2) (.int .i64 ((rd_T48 x4_3 t143).f0))) (fun _ hk => hk.2) (.int .i64 ((rd_T48 x4_3 t143).f1))) (fun _ hk => hk.2) (.slice A144_2 ((rd_T48 x4_3 t143).f2).length c144_2)) (by first | exact (by first | exact (fun _ hk => ⟨hk.1.1.1, ⟨hk.1.1.2, hk.1.2⟩⟩) | (intro k_ hk_; grind)) | (intro k_ hk_; grind))))⟩; have n3_ : Aside0 (w40.heap[gb145]? = some (.cells #[.int .i64 ((rd_T48 x4_3 t143).f0), .int .i64 ((rd_T48 x4_3 t143).f1), .slice A144_2 ((rd_T48 x4_3 t143).f2).length c144_2] 48 (0, 0))) := ⟨(by rw [hw]; exact (by (with_reducible repeat (first | refine blk_drewN ?_ _ | refine blk_drew ?_ | refine blk_alloc ?_ _)); refine blk_put (cs := #[.int .i64 ((rd_T48 x4_3 t143).f0), .int .i64 ((rd_T48 x4_3 t143).f1), .slice none 0 0]) ?_ 2 _ rfl; (with_reducible repeat (first | refine blk_drewN ?_ _ | refine blk_drew ?_ | refine blk_alloc ?_ _)); refine blk_put (cs := #[.int .i64 ((rd_T48 x4_3 t143).f0), .int .i64 0, .slice none 0 0]) ?_ 1 _ rfl; (with_reducible repeat (first | refine blk_drewN ?_ _ | refine blk_drew ?_ | refine blk_alloc ?_ _)); refine blk_put (cs := #[.int .i64 0, .int .i64 0, .slice none 0 0]) ?_ 0 _ rfl; (with_reducible repeat (first | refine blk_drewN ?_ _ | refine blk_drew ?_ | refine blk_alloc ?_ _)); exact BK145.out))⟩; have n4_ : Aside0 (Below w.heap.size w w40) := ⟨(by rw [hw]; exact (by repeat (first | (with_reducible first | exact HB.out | apply below_alloc | apply pw_below_drewN | apply below_drew1 | refine below_set ?_ GE145.out) | exact HB.out)))⟩; clear hw; clear HO_3; clear HO_4; clear HL144_2; clear BK145; clear HB; have HO_3 := n0_; have HO_4 := n1_; have HL144_2 := n2_; have BK145 := n3_; have HB := n4_; clear n0_ n1_ n2_ n3_ n4_) | ((with_reducible refine gate_callee (f := 37) rfl ?_); refine goesL_ (some 58) rfl rfl Try.func37 (by kernel_rfl) rfl #[.slice (some ad144) x4_3.length co37, .int .i64 t143] rfl (by (try simp only [List.map_toArray, List.map_cons, List.map_nil]); first | done | rfl | (simp only [List.length_drop, List.length_take]; rfl)) ?_; (with_reducible refine (spec_l3Less.calls (fun k_ => (some k_ ≠ (v128 : Value).ownBlock ∧ k_ ≠ gb145)) _ _ x4_3 t143 t146 _ ?side1 A29.out).mono ?_); (case side1 => exact Kd.N_V (HO_4.out)); rintro e w41 ⟨v147, rfl, ho0, hb⟩; refine ⟨_, rfl, ?_⟩; have n0_ := Aside0.mk (Kd.R_below (by (with_reducible repeat (first | apply Kd.R_alloc | apply Kd.R_drewN | apply Kd.R_drew)); exact HO_3.out) hb); have n1_ := Aside0.mk (Kd.N_elder' (by (with_reducible repeat (first | apply Kd.N_alloc | apply Kd.N_drewN | apply Kd.N_drew)); exact HO_4.out) (Kd.N_base ho0) hb); have n2_ := Aside0.mk (Kd.V_elder' (by (with_reducible repeat (first | apply Kd.V_alloc | apply Kd.V_drewN | apply Kd.V_drew)); exact HL144_2.out) (Kd.N_base ho0) hb); have n3_ := Aside0.mk (Kd.N_lower (Kd.N_mono (ok' := fun k_ => some k_ ≠ (v128 : Value).ownBlock ∧ k_ ≠ gb145) ho0 (fun k_ hk_ => ⟨Or.elim hk_ (fun hs_ => hs_.1) (fun hn_ => (Kd.fresh' (Kd.R_lt (by (with_reducible repeat (first | apply Kd.R_alloc | apply Kd.R_drewN | apply Kd.R_drew)); exact HO_3.out)) k_ hn_)), Or.elim hk_ (fun hs_ => hs_.2) (fun hn_ => (Kd.freshB (g := gb145) (o := .cells #[.int .i64 ((rd_T48 x4_3 t143).f0), .int .i64 ((rd_T48 x4_3 t143).f1), .slice A144_2 ((rd_T48 x4_3 t143).f2).length c144_2] 48 (0, 0)) (by (with_reducible repeat (first | refine blk_drewN ?_ _ | refine blk_drew ?_ | refine blk_alloc ?_ _)); exact BK145.out) k_ hn_))⟩)) (below_size (by repeat (first | (with_reducible first | exact HB.out | apply below_alloc | apply pw_below_drewN | apply below_drew1 | refine below_set ?_ GE145.out) | exact HB.out)))); have n4_ := Aside0.mk (Kd.C_below (by first | exact (Kd.V_reads' HL144_2.out).2.2 | repeat (first | (with_reducible exact HR144_2.out) | (with_reducible refine Kd.C_alloc ?_ _) | (with_reducible refine Kd.C_drewN ?_ _) | (with_reducible refine Kd.C_drew ?_) | exact HR144_2.out)) hb); have n5_ := Aside0.mk (blk_below (g := gb145) (o := .cells #[.int .i64 ((rd_T48 x4_3 t143).f0), .int .i64 ((rd_T48 x4_3 t143).f1), .slice A144_2 ((rd_T48 x4_3 t143).f2).length c144_2] 48 (0, 0)) (by (with_reducible repeat (first | refine blk_drewN ?_ _ | refine blk_drew ?_ | refine blk_alloc ?_ _)); exact BK145.out) hb); have n6_ := Aside0.mk (below_step (by repeat (first | (with_reducible first | exact HB.out | apply below_alloc | apply pw_below_drewN | apply below_drew1 | refine below_set ?_ GE145.out) | exact HB.out)) hb); clear HO_3; clear HO_4; clear HL144_2; clear HR144_2; clear BK145; clear HB; have HO_3 := n0_; have HO_4 := n1_; have HL144_2 := n2_; have HO148 := n3_; have HR144_2 := n4_; have BK145 := n5_; have HB := n6_; clear n0_ n1_ n2_ n3_ n4_ n5_ n6_; (try clear hb); (try clear hb2); (try clear hk); (try clear hi); (try clear ho0); obtain ⟨Ao42, co42, eo42⟩ := Kd.N_slice HO148.out; subst eo42) | ((with_reducible refine gate_callee (f := 36) rfl ?_); refine goesL_ (some 60) rfl rfl Try.func36 (by kernel_rfl) rfl #[.slice Ao42 t146.length co42] rfl (by (try simp only [List.map_toArray, List.map_cons, List.map_nil]); first | done | rfl | (simp only [List.length_drop, List.length_take]; rfl)) ?_; (with_reducible refine (spec_l3Least.calls k3 _ _ t146 t149 _ ?side1 ?side2 A30.out).mono ?_); (case side1 => repeat (first | exact (Kd.N_reads' HO148.out).2.2 | (with_reducible refine Kd.C_alloc ?_ _) | (with_reducible refine Kd.C_drewN ?_ _) | (with_reducible refine Kd.C_drew ?_))); (case side2 => exact (Kd.N_reads' HO148.out).2.1); rintro e w' ⟨rfl, ⟨nd, rfl⟩⟩; refine ⟨_, rfl, ?_⟩; (try (rw [drewN_self w41]; generalize hq_ : World.drewN w41 _ = w41; have n0_ : Aside0 (Kd.V (Kd.int .i64) 3 w41 w.heap.size (fun k_ => some k_ ≠ (.slice Ao42 t146.length co42 : Value).ownBlock ∧ some k_ ≠ (v128 : Value).ownBlock ∧ some k_ ≠ (.slice (some ad144) x4_3.length co37 : Value).ownBlock ∧ k_ ≠ gb145) (.slice A144_2 ((rd_T48 x4_3 t143).f2).length c144_2) ((rd_T48 x4_3 t143).f2)) := ⟨by rw [← hq_]; exact (by (with_reducible repeat (first | apply Kd.V_alloc | apply Kd.V_drewN | apply Kd.V_drew)); exact Kd.V_mono HL144_2.out (by first | exact (by first | exact (fun _ hk => ⟨hk.2, ⟨hk.1.1, ⟨hk.1.2.1, hk.1.2.2⟩⟩⟩) | (intro k_ hk_; grind)) | (intro k_ hk_; grind)))⟩; have n1_ : Aside0 (Kd.N k48 48 w41 w.heap.size (fun k_ => some k_ ≠ (v128 : Value).ownBlock ∧ k_ ≠ gb145) (.slice Ao42 t146.length co42) t146) := ⟨by rw [← hq_]; exact (by (with_reducible repeat (first | apply Kd.N_alloc | apply Kd.N_drewN | apply Kd.N_drew)); exact HO148.out)⟩; have n2_ : Aside0 (Kd.R (Kd.int .i64) 3 w41 w.heap.size (fun _ => True) v128 x3_3) := ⟨by rw [← hq_]; exact (by (with_reducible repeat (first | apply Kd.R_alloc | apply Kd.R_drewN | apply Kd.R_drew)); exact HO_3.out)⟩; have n3_ : Aside0 (Kd.N k48 48 w41 w.heap.size (fun k_ => some k_ ≠ (.slice Ao42 t146.length co42 : Value).ownBlock ∧ some k_ ≠ (v128 : Value).ownBlock ∧ k_ ≠ gb145) (.slice (some ad144) x4_3.length co37) x4_3) := ⟨by rw [← hq_]; exact (by (with_reducible repeat (first | apply Kd.N_alloc | apply Kd.N_drewN | apply Kd.N_drew)); exact Kd.N_mono HO_4.out (by first | exact (by first | exact (fun _ hk => ⟨hk.2, ⟨hk.1.1, hk.1.2⟩⟩) | (intro k_ hk_; grind)) | (intro k_ hk_; grind)))⟩; have n4_ : Aside0 (w41.heap[gb145]? = some (.cells #[.int .i64 ((rd_T48 x4_3 t143).f0), .int .i64 ((rd_T48 x4_3 t143).f1), .slice A144_2 ((rd_T48 x4_3 t143).f2).length c144_2] 48 (0, 0))) := ⟨by rw [← hq_]; exact (by (with_reducible repeat (first | refine blk_drewN ?_ _ | refine blk_drew ?_ | refine blk_alloc ?_ _)); exact BK145.out)⟩; have n5_ : Aside0 (Below w.heap.size w w41) := ⟨by rw [← hq_]; exact (by repeat (first | (with_reducible first | exact HB.out | apply below_alloc | apply pw_below_drewN | apply below_drew1 | refine below_set ?_ GE145.out) | exact HB.out))⟩; have n6_ : Aside0 (Kd.C (Kd.int .i64) w41 A144_2 ((rd_T48 x4_3 t143).f2).length ((rd_T48 x4_3 t143).f2)) := ⟨by rw [← hq_]; exact (by first | exact (Kd.V_reads' HL144_2.out).2.2 | repeat (first | (with_reducible exact HR144_2.out) | (with_reducible refine Kd.C_alloc ?_ _) | (with_reducible refine Kd.C_drewN ?_ _) | (with_reducible refine Kd.C_drew ?_) | exact HR144_2.out))⟩; clear HL144_2 HO148 HO_3 HO_4 BK145 HB HR144_2 hq_; have HL144_2 := n0_; have HO148 := n1_; have HO_3 := n2_; have HO_4 := n3_; have BK145 := n4_; have HB := n5_; have HR144_2 := n6_; clear n0_ n1_ n2_ n3_ n4_ n5_ n6_)); have p150 : 0 ≤ (t149 : Int) := of_decide_eq_true (by first | (with_reducible assumption) | assumption); have q150 : t149 < (t146.length : Int) := of_decide_eq_true (by first | (with_reducible assumption) | assumption); obtain ⟨ad150, A150_2, c150_2, e150, hx150_0, hx150_1, hx150_2, hl150_2, hi150_2⟩ := at_T48 (Kd.N_reads' HO148.out).2.2 t149 p150 q150; cases e150; obtain ⟨ce150, hce150, hMe150, hcc150⟩ := Kd.N_get HO148.out z48 t149 p150 (by first | exact q150 | exact of_decide_eq_true (by first | (with_reducible assumption) | assumption) | (have e_ := (Kd.N_reads' HO148.out).1; omega)); obtain ⟨ua150_2, uc150_2, rfl, ul150_2, ge150_2⟩ := k48_openF hMe150; have hv150_2 := hcc150 2 _ rfl; rw [add_field _ _ 2 (by omega)] at hv150_2; replace hv150_2 := Option.some.inj (hv150_2.symm.trans hx150_2); injection hv150_2 with hva_ hvn_ hvc_; rw [hva_] at ge150_2; rw [hvc_] at ul150_2; have HL150_2 := Aside0.mk (show Kd.V (Kd.int .i64) 3 _ w.heap.size _ _ ((rd_T48 t146 t149).f2) from Kd.V_mk ul150_2 ge150_2); clear hva_ hvn_ hvc_ ge150_2 ul150_2; clear hcc150 hce150; have HR150_2 := Aside0.mk hi150_2; have HC150_2 := Aside0.mk hl150_2; clear hi150_2 hl150_2; replace p150 := eq_true p150; replace q150 := eq_true q150) | ((with_reducible refine gate_dst (N := 8) rfl ?_); refine box_event ?hg (N := 8) ?hd (cs := #[.int .i64 0, .int .i64 0, .slice none 0 0]) (t := 48) ?hr ?_; (case hd => rfl); (case hg => rfl); (case hr => first | (go_simp; done) | (go_simp; rfl)); intro gb151 hg w43 hbox hb; have n0_ := Aside0.mk (Kd.R_below (by (with_reducible repeat (first | apply Kd.R_alloc | apply Kd.R_drewN | apply Kd.R_drew)); exact HO_3.out) hb); have n1_ := Aside0.mk (Kd.N_below (Kd.N_elderB (by (with_reducible repeat (first | apply Kd.N_alloc | apply Kd.N_drewN | apply Kd.N_drew)); exact HO_4.out) gb151 (Nat.le_of_eq hg.symm)) hb); have n2_ := Aside0.mk (Kd.V_below (Kd.V_elderB (by (with_reducible repeat (first | apply Kd.V_alloc | apply Kd.V_drewN | apply Kd.V_drew)); exact HL144_2.out) gb151 (Nat.le_of_eq hg.symm)) hb); have n3_ := Aside0.mk (Kd.N_below (Kd.N_elderB (by (with_reducible repeat (first | apply Kd.N_alloc | apply Kd.N_drewN | apply Kd.N_drew)); exact HO148.out) gb151 (Nat.le_of_eq hg.symm)) hb); have n4_ := Aside0.mk (Kd.V_below (Kd.V_elderB (by (with_reducible repeat (first | apply Kd.V_alloc | apply Kd.V_drewN | apply Kd.V_drew)); exact HL150_2.out) gb151 (Nat.le_of_eq hg.symm)) hb); have n5_ := Aside0.mk (Kd.C_below (by first | exact (Kd.V_reads' HL144_2.out).2.2 | repeat (first | (with_reducible exact HR144_2.out) | (with_reducible refine Kd.C_alloc ?_ _) | (with_reducible refine Kd.C_drewN ?_ _) | (with_reducible refine Kd.C_drew ?_) | exact HR144_2.out)) hb); have n6_ := Aside0.mk (blk_below (g := gb145) (o := .cells #[.int .i64 ((rd_T48 x4_3 t143).f0), .int .i64 ((rd_T48 x4_3 t143).f1), .slice A144_2 ((rd_T48 x4_3 t143).f2).length c144_2] 48 (0, 0)) (by (with_reducible repeat (first | refine blk_drewN ?_ _ | refine blk_drew ?_ | refine blk_alloc ?_ _)); exact BK145.out) hb); have n7_ := Aside0.mk (Kd.C_below (by first | exact (Kd.V_reads' HL150_2.out).2.2 | repeat (first | (with_reducible exact HR150_2.out) | (with_reducible refine Kd.C_alloc ?_ _) | (with_reducible refine Kd.C_drewN ?_ _) | (with_reducible refine Kd.C_drew ?_) | exact HR150_2.out)) hb); have n8_ := Aside0.mk (below_step (by repeat (first | (with_reducible first | exact HB.out | apply below_alloc | apply pw_below_drewN | apply below_drew1 | refine below_set ?_ GE145.out) | exact HB.out)) hb); have n9_ := Aside0.mk (hbox); have n10_ := Aside0.mk ((by rw [hg]; exact (below_size (by repeat (first | (with_reducible first | exact HB.out | apply below_alloc | apply pw_below_drewN | apply below_drew1 | refine below_set ?_ GE145.out) | exact HB.out))) : w.heap.size ≤ gb151)); have n11_ := Aside0.mk ((by rw [hg]; exact (below_size (by repeat (first | (with_reducible first | exact HB.out | apply below_alloc | apply pw_below_drewN | apply below_drew1 | refine below_set ?_ GE145.out) | exact HB.out))) : w.heap.size ≤ gb151)); have n12_ := Aside0.mk ((by rw [hg]; exact Nat.ne_of_lt (blk_lt (g := gb145) (o := .cells #[.int .i64 ((rd_T48 x4_3 t143).f0), .int .i64 ((rd_T48 x4_3 t143).f1), .slice A144_2 ((rd_T48 x4_3 t143).f2).length c144_2] 48 (0, 0)) (by (with_reducible repeat (first | refine blk_drewN ?_ _ | refine blk_drew ?_ | refine blk_alloc ?_ _)); exact BK145.out)) : gb145 ≠ gb151)); have n13_ := Aside0.mk ((by rw [hg]; exact Nat.ne_of_gt (blk_lt (g := gb145) (o := .cells #[.int .i64 ((rd_T48 x4_3 t143).f0), .int .i64 ((rd_T48 x4_3 t143).f1), .slice A144_2 ((rd_T48 x4_3 t143).f2).length c144_2] 48 (0, 0)) (by (with_reducible repeat (first | refine blk_drewN ?_ _ | refine blk_drew ?_ | refine blk_alloc ?_ _)); exact BK145.out)) : gb151 ≠ gb145)); clear HO_3; clear HO_4; clear HL144_2; clear HO148; clear HL150_2; clear HR144_2; clear BK145; clear HR150_2; clear HB; have HO_3 := n0_; have HO_4 := n1_; have HL144_2 := n2_; have HO148 := n3_; have HL150_2 := n4_; have HR144_2 := n5_; have BK145 := n6_; have HR150_2 := n7_; have HB := n8_; have BK151 := n9_; have GW151 := n10_; have GE151 := n11_; have NB145_151 := n12_; have NB151_145 := n13_; clear n0_ n1_ n2_ n3_ n4_ n5_ n6_ n7_ n8_ n9_ n10_ n11_ n12_ n13_; clear hb hbox hg; have hnb44 := NB151_145.out; have hnc44 := NB145_151.out; have hcz45_0 : w43.cell? ⟨gb151, 0, none⟩ = some (.int .i64 0) := (blk_cell BK151.out 0).trans rfl; have hcz45_1 : w43.cell? ⟨gb151, 1, none⟩ = some (.int .i64 0) := (blk_cell BK151.out 1).trans rfl; have hcz45_2 : w43.cell? ⟨gb151, 2, none⟩ = some (.slice none 0 0) := (blk_cell BK151.out 2).trans rfl; have hfz45_0 := blk_frozen BK151.out 0; have hfz45_1 := blk_frozen BK151.out 1; have hfz45_2 := blk_frozen BK151.out 2) | ((with_reducible refine gate_store (t := 48) (p := 8) rfl ?_); refine store_event (t := 48) (p := 8) (v := ?vo_w46) (w1 := (((w43.setCell ⟨gb151, 0, none⟩ (.int .i64 ((rd_T48 t146 t149).f0))).setCell ⟨gb151, 1, none⟩ (.int .i64 ((rd_T48 t146 t149).f1))).setCell ⟨gb151, 2, none⟩ (.slice A150_2 ((rd_T48 t146 t149).f2).length c150_2))) ?hg ?ho ?hn ?hr ?_; (case ho => rfl); (case hg => rfl); (case hn => rfl); (case hr => first | (go_simp; done) | (go_simp; rfl)); intro w46 hw; have n0_ : Aside0 (Kd.R (Kd.int .i64) 3 w46 w.heap.size (fun _ => True) v128 x3_3) := ⟨(by rw [hw]; exact (by (with_reducible repeat (first | apply Kd.R_alloc | apply Kd.R_drewN | apply Kd.R_drew)); exact Kd.R_mono (Kd.R_far (p := ⟨gb151, 2, none⟩) (Kd.R_far (p := ⟨gb151, 1, none⟩) (Kd.R_far (p := ⟨gb151, 0, none⟩) (Kd.R_types HO_3.out BK151.out (by decide)) (fun _ hk => hk.2) (.int .i64 ((rd_T48 t146 t149).f0))) (fun _ hk => hk.2) (.int .i64 ((rd_T48 t146 t149).f1))) (fun _ hk => hk.2) (.slice A150_2 ((rd_T48 t146 t149).f2).length c150_2)) (fun _ hk => trivial)))⟩; have n1_ : Aside0 (Kd.N k48 48 w46 w.heap.size (fun k_ => some k_ ≠ (v128 : Value).ownBlock ∧ some k_ ≠ (.slice (some ad150) t146.length co42 : Value).ownBlock ∧ k_ ≠ gb145 ∧ k_ ≠ gb151) (.slice (some ad144) x4_3.length co37) x4_3) := ⟨(by rw [hw]; exact (by (with_reducible repeat (first | apply Kd.N_alloc | apply Kd.N_drewN | apply Kd.N_drew)); exact Kd.N_mono (Kd.N_far (p := ⟨gb151, 2, none⟩) (Kd.N_far (p := ⟨gb151, 1, none⟩) (Kd.N_far (p := ⟨gb151, 0, none⟩) (Kd.N_mono HO_4.out (fun k_ hk => (⟨hk, hk.2⟩ : _ ∧ k_ ≠ gb151))) (fun _ hk => hk.2) (.int .i64 ((rd_T48 t146 t149).f0))) (fun _ hk => hk.2) (.int .i64 ((rd_T48 t146 t149).f1))) (fun _ hk => hk.2) (.slice A150_2 ((rd_T48 t146 t149).f2).length c150_2)) (by first | exact (by first | exact (fun _ hk => ⟨hk.1.1.1.1, ⟨hk.1.1.2, ⟨hk.1.1.1.2, hk.1.2⟩⟩⟩) | (intro k_ hk_; grind)) | (intro k_ hk_; grind))))⟩; have n2_ : Aside0 (Kd.V (Kd.int .i64) 3 w46 w.heap.size (fun k_ => some k_ ≠ (v128 : Value).ownBlock ∧ some k_ ≠ (.slice (some ad144) x4_3.length co37 : Value).ownBlock ∧ some k_ ≠ (.slice (some ad150) t146.length co42 : Value).ownBlock ∧ k_ ≠ gb145 ∧ k_ ≠ gb151) (.slice A144_2 ((rd_T48 x4_3 t143).f2).length c144_2) ((rd_T48 x4_3 t143).f2)) := ⟨(by rw [hw]; exact (by (with_reducible repeat (first | apply Kd.V_alloc | apply Kd.V_drewN | apply Kd.V_drew)); exact Kd.V_mono (Kd.V_far (p := ⟨gb151, 2, none⟩) (Kd.V_far (p := ⟨gb151, 1, none⟩) (Kd.V_far (p := ⟨gb151, 0, none⟩) (Kd.V_mono HL144_2.out (fun k_ hk => (⟨hk, hk.2⟩ : _ ∧ k_ ≠ gb151))) (fun _ hk => hk.2) (.int .i64 ((rd_T48 t146 t149).f0))) (fun _ hk => hk.2) (.int .i64 ((rd_T48 t146 t149).f1))) (fun _ hk => hk.2) (.slice A150_2 ((rd_T48 t146 t149).f2).length c150_2)) (by first | exact (by first | exact (fun _ hk => ⟨hk.1.1.1.1, ⟨hk.1.1.1.2.1, ⟨hk.1.1.2, ⟨hk.1.1.1.2.2, hk.1.2⟩⟩⟩⟩) | (intro k_ hk_; grind)) | (intro k_ hk_; grind))))⟩; have n3_ : Aside0 (Kd.N k48 48 w46 w.heap.size (fun k_ => some k_ ≠ (v128 : Value).ownBlock ∧ k_ ≠ gb145 ∧ k_ ≠ gb151) (.slice (some ad150) t146.length co42) t146) := ⟨(by rw [hw]; exact (by (with_reducible repeat (first | apply Kd.N_alloc | apply Kd.N_drewN | apply Kd.N_drew)); exact Kd.N_mono (Kd.N_far (p := ⟨gb151, 2, none⟩) (Kd.N_far (p := ⟨gb151, 1, none⟩) (Kd.N_far (p := ⟨gb151, 0, none⟩) (Kd.N_mono HO148.out (fun k_ hk => (⟨hk, hk.2⟩ : _ ∧ k_ ≠ gb151))) (fun _ hk => hk.2) (.int .i64 ((rd_T48 t146 t149).f0))) (fun _ hk => hk.2) (.int .i64 ((rd_T48 t146 t149).f1))) (fun _ hk => hk.2) (.slice A150_2 ((rd_T48 t146 t149).f2).length c150_2)) (by first | exact (by first | exact (fun _ hk => ⟨hk.1.1.1, ⟨hk.1.1.2, hk.1.2⟩⟩) | (intro k_ hk_; grind)) | (intro k_ hk_; grind))))⟩; have n4_ : Aside0 (Kd.V (Kd.int .i64) 3 w46 w.heap.size (fun k_ => some k_ ≠ (v128 : Value).ownBlock ∧ some k_ ≠ (.slice (some ad150) t146.length co42 : Value).ownBlock ∧ k_ ≠ gb145 ∧ k_ ≠ gb151) (.slice A150_2 ((rd_T48 t146 t149).f2).length c150_2) ((rd_T48 t146 t149).f2)) := ⟨(by rw [hw]; exact (by (with_reducible repeat (first | apply Kd.V_alloc | apply Kd.V_drewN | apply Kd.V_drew)); exact Kd.V_mono (Kd.V_far (p := ⟨gb151, 2, none⟩) (Kd.V_far (p := ⟨gb151, 1, none⟩) (Kd.V_far (p := ⟨gb151, 0, none⟩) (Kd.V_mono HL150_2.out (fun k_ hk => (⟨hk, hk.2⟩ : _ ∧ k_ ≠ gb151))) (fun _ hk => hk.2) (.int .i64 ((rd_T48 t146 t149).f0))) (fun _ hk => hk.2) (.int .i64 ((rd_T48 t146 t149).f1))) (fun _ hk => hk.2) (.slice A150_2 ((rd_T48 t146 t149).f2).length c150_2)) (by first | exact (by first | exact (fun _ hk => ⟨hk.1.1.1.1, ⟨hk.1.1.2, ⟨hk.1.1.1.2, hk.1.2⟩⟩⟩) | (intro k_ hk_; grind)) | (intro k_ hk_; grind))))⟩; have n5_ : Aside0 (w46.heap[gb145]? = some (.cells #[.int .i64 ((rd_T48 x4_3 t143).f0), .int .i64 ((rd_T48 x4_3 t143).f1), .slice A144_2 ((rd_T48 x4_3 t143).f2).length c144_2] 48 (0, 0))) := ⟨(by rw [hw]; exact (by (with_reducible repeat (first | refine blk_drewN ?_ _ | refine blk_drew ?_ | refine blk_alloc ?_ _)); refine blk_far ?_ NB145_151.out _; (with_reducible repeat (first | refine blk_drewN ?_ _ | refine blk_drew ?_ | refine blk_alloc ?_ _)); refine blk_far ?_ NB145_151.out _; (with_reducible repeat (first | refine blk_drewN ?_ _ | refine blk_drew ?_ | refine blk_alloc ?_ _)); refine blk_far ?_ NB145_151.out _; (with_reducible repeat (first | refine blk_drewN ?_ _ | refine blk_drew ?_ | refine blk_alloc ?_ _)); exact BK145.out))⟩; have n6_ : Aside0 (w46.heap[gb151]? = some (.cells #[.int .i64 ((rd_T48 t146 t149).f0), .int .i64 ((rd_T48 t146 t149).f1), .slice A150_2 ((rd_T48 t146 t149).f2).length c150_2] 48 (0, 0))) := ⟨(by rw [hw]; exact (by (with_reducible repeat (first | refine blk_drewN ?_ _ | refine blk_drew ?_ | refine blk_alloc ?_ _)); refine blk_put (cs := #[.int .i64 ((rd_T48 t146 t149).f0), .int .i64 ((rd_T48 t146 t149).f1), .slice none 0 0]) ?_ 2 _ rfl; (with_reducible repeat (first | refine blk_drewN ?_ _ | refine blk_drew ?_ | refine blk_alloc ?_ _)); refine blk_put (cs := #[.int .i64 ((rd_T48 t146 t149).f0), .int .i64 0, .slice none 0 0]) ?_ 1 _ rfl; (with_reducible repeat (first | refine blk_drewN ?_ _ | refine blk_drew ?_ | refine blk_alloc ?_ _)); refine blk_put (cs := #[.int .i64 0, .int .i64 0, .slice none 0 0]) ?_ 0 _ rfl; (with_reducible repeat (first | refine blk_drewN ?_ _ | refine blk_drew ?_ | refine blk_alloc ?_ _)); exact BK151.out))⟩; have n7_ : Aside0 (Below w.heap.size w w46) := ⟨(by rw [hw]; exact (by repeat (first | (with_reducible first | exact HB.out | apply below_alloc | apply pw_below_drewN | apply below_drew1 | refine below_set ?_ GE145.out | refine below_set ?_ GE151.out) | exact HB.out)))⟩; clear hw; clear HO_3; clear HO_4; clear HL144_2; clear HO148; clear HL150_2; clear BK145; clear BK151; clear HB; have HO_3 := n0_; have HO_4 := n1_; have HL144_2 := n2_; have HO148 := n3_; have HL150_2 := n4_; have BK145 := n5_; have BK151 := n6_; have HB := n7_; clear n0_ n1_ n2_ n3_ n4_ n5_ n6_ n7_) | ((with_reducible refine gate_callee (f := 37) rfl ?_); refine goesL_ (some 67) rfl rfl Try.func37 (by kernel_rfl) rfl #[.slice (some ad150) t146.length co42, .int .i64 t149] rfl (by (try simp only [List.map_toArray, List.map_cons, List.map_nil]); first | done | rfl | (simp only [List.length_drop, List.length_take]; rfl)) ?_; (with_reducible refine (spec_l3Less.calls (fun k_ => (some k_ ≠ (v128 : Value).ownBlock ∧ (k_ ≠ gb145 ∧ k_ ≠ gb151))) _ _ t146 t149 t152 _ ?side1 A33.out).mono ?_); (case side1 => exact Kd.N_V (HO148.out)); rintro e w47 ⟨v153, rfl, ho0, hb⟩; refine ⟨_, rfl, ?_⟩; have n0_ := Aside0.mk (Kd.R_below (by (with_reducible repeat (first | apply Kd.R_alloc | apply Kd.R_drewN | apply Kd.R_drew)); exact HO_3.out) hb); have n1_ := Aside0.mk (Kd.N_elder' (by (with_reducible repeat (first | apply Kd.N_alloc | apply Kd.N_drewN | apply Kd.N_drew)); exact HO_4.out) (Kd.N_base ho0) hb); have n2_ := Aside0.mk (Kd.V_elder' (by (with_reducible repeat (first | apply Kd.V_alloc | apply Kd.V_drewN | apply Kd.V_drew)); exact HL144_2.out) (Kd.N_base ho0) hb); have n3_ := Aside0.mk (Kd.N_elder' (by (with_reducible repeat (first | apply Kd.N_alloc | apply Kd.N_drewN | apply Kd.N_drew)); exact HO148.out) (Kd.N_base ho0) hb); have n4_ := Aside0.mk (Kd.V_elder' (by (with_reducible repeat (first | apply Kd.V_alloc | apply Kd.V_drewN | apply Kd.V_drew)); exact HL150_2.out) (Kd.N_base ho0) hb); have n5_ := Aside0.mk (Kd.N_lower (Kd.N_mono (ok' := fun k_ => some k_ ≠ (v128 : Value).ownBlock ∧ k_ ≠ gb145 ∧ k_ ≠ gb151) ho0 (fun k_ hk_ => ⟨Or.elim hk_ (fun hs_ => hs_.1) (fun hn_ => (Kd.fresh' (Kd.R_lt (by (with_reducible repeat (first | apply Kd.R_alloc | apply Kd.R_drewN | apply Kd.R_drew)); exact HO_3.out)) k_ hn_)), Or.elim hk_ (fun hs_ => hs_.2.1) (fun hn_ => (Kd.freshB (g := gb145) (o := .cells #[.int .i64 ((rd_T48 x4_3 t143).f0), .int .i64 ((rd_T48 x4_3 t143).f1), .slice A144_2 ((rd_T48 x4_3 t143).f2).length c144_2] 48 (0, 0)) (by (with_reducible repeat (first | refine blk_drewN ?_ _ | refine blk_drew ?_ | refine blk_alloc ?_ _)); exact BK145.out) k_ hn_)), Or.elim hk_ (fun hs_ => hs_.2.2) (fun hn_ => (Kd.freshB (g := gb151) (o := .cells #[.int .i64 ((rd_T48 t146 t149).f0), .int .i64 ((rd_T48 t146 t149).f1), .slice A150_2 ((rd_T48 t146 t149).f2).length c150_2] 48 (0, 0)) (by (with_reducible repeat (first | refine blk_drewN ?_ _ | refine blk_drew ?_ | refine blk_alloc ?_ _)); exact BK151.out) k_ hn_))⟩)) (below_size (by repeat (first | (with_reducible first | exact HB.out | apply below_alloc | apply pw_below_drewN | apply below_drew1 | refine below_set ?_ GE145.out | refine below_set ?_ GE151.out) | exact HB.out)))); have n6_ := Aside0.mk (Kd.C_below (by first | exact (Kd.V_reads' HL144_2.out).2.2 | repeat (first | (with_reducible exact HR144_2.out) | (with_reducible refine Kd.C_alloc ?_ _) | (with_reducible refine Kd.C_drewN ?_ _) | (with_reducible refine Kd.C_drew ?_) | exact HR144_2.out)) hb); have n7_ := Aside0.mk (blk_below (g := gb145) (o := .cells #[.int .i64 ((rd_T48 x4_3 t143).f0), .int .i64 ((rd_T48 x4_3 t143).f1), .slice A144_2 ((rd_T48 x4_3 t143).f2).length c144_2] 48 (0, 0)) (by (with_reducible repeat (first | refine blk_drewN ?_ _ | refine blk_drew ?_ | refine blk_alloc ?_ _)); exact BK145.out) hb); have n8_ := Aside0.mk (Kd.C_below (by first | exact (Kd.V_reads' HL150_2.out).2.2 | repeat (first | (with_reducible exact HR150_2.out) | (with_reducible refine Kd.C_alloc ?_ _) | (with_reducible refine Kd.C_drewN ?_ _) | (with_reducible refine Kd.C_drew ?_) | exact HR150_2.out)) hb); have n9_ := Aside0.mk (blk_below (g := gb151) (o := .cells #[.int .i64 ((rd_T48 t146 t149).f0), .int .i64 ((rd_T48 t146 t149).f1), .slice A150_2 ((rd_T48 t146 t149).f2).length c150_2] 48 (0, 0)) (by (with_reducible repeat (first | refine blk_drewN ?_ _ | refine blk_drew ?_ | refine blk_alloc ?_ _)); exact BK151.out) hb); have n10_ := Aside0.mk (below_step (by repeat (first | (with_reducible first | exact HB.out | apply below_alloc | apply pw_below_drewN | apply below_drew1 | refine below_set ?_ GE145.out | refine below_set ?_ GE151.out) | exact HB.out)) hb); clear HO_3; clear HO_4; clear HL144_2; clear HO148; clear HL150_2; clear HR144_2; clear BK145; clear HR150_2; clear BK151; clear HB; have HO_3 := n0_; have HO_4 := n1_; have HL144_2 := n2_; have HO148 := n3_; have HL150_2 := n4_; have HO154 := n5_; have HR144_2 := n6_; have BK145 := n7_; have HR150_2 := n8_; have BK151 := n9_; have HB := n10_; clear n0_ n1_ n2_ n3_ n4_ n5_ n6_ n7_ n8_ n9_ n10_; (try clear hb); (try clear hb2); (try clear hk); (try clear hi); (try clear ho0); have hcz48_0 : w47.cell? ⟨gb145, 0, none⟩ = some (.int .i64 ((rd_T48 x4_3 t143).f0)) := (blk_cell BK145.out 0).trans rfl; have hcz48_1 : w47.cell? ⟨gb145, 1, none⟩ = some (.int .i64 ((rd_T48 x4_3 t143).f1)) := (blk_cell BK145.out 1).trans rfl; have hcz48_2 : w47.cell? ⟨gb145, 2, none⟩ = some (.slice A144_2 ((rd_T48 x4_3 t143).f2).length c144_2) := (blk_cell BK145.out 2).trans rfl; have hfz48_0 := blk_frozen BK145.out 0; have hfz48_1 := blk_frozen BK145.out 1; have hfz48_2 := blk_frozen BK145.out 2; have hcz49_0 : w47.cell? ⟨gb151, 0, none⟩ = some (.int .i64 ((rd_T48 t146 t149).f0)) := (blk_cell BK151.out 0).trans rfl; have hcz49_1 : w47.cell? ⟨gb151, 1, none⟩ = some (.int .i64 ((rd_T48 t146 t149).f1)) := (blk_cell BK151.out 1).trans rfl; have hcz49_2 : w47.cell? ⟨gb151, 2, none⟩ = some (.slice A150_2 ((rd_T48 t146 t149).f2).length c150_2) := (blk_cell BK151.out 2).trans rfl; have hfz49_0 := blk_frozen BK151.out 0; have hfz49_1 := blk_frozen BK151.out 1; have hfz49_2 := blk_frozen BK151.out 2))
                                    have n0_ := Aside0.mk (Kd.R_drew HO_3.out)
                                    have n1_ := Aside0.mk (Kd.N_drew HO_4.out)
                                    have n2_ := Aside0.mk (Kd.V_drew HL144_2.out)
                                    have n3_ := Aside0.mk (Kd.N_drew HO148.out)
                                    have n4_ := Aside0.mk (Kd.V_drew HL150_2.out)
                                    have n5_ := Aside0.mk (Kd.N_drew HO154.out)
                                    have n6_ := Aside0.mk (blk_drew BK145.out)
                                    have n7_ := Aside0.mk (blk_drew BK151.out)
                                    have n8_ := Aside0.mk (Kd.C_drew HR144_2.out)
                                    have n9_ := Aside0.mk (Kd.C_drew HR150_2.out)
                                    have n10_ := Aside0.mk (below_drew1 HB.out)
                                    clear HO_3
                                    clear HO_4
                                    clear HL144_2
                                    clear HO148
                                    clear HL150_2
                                    clear HO154
                                    clear BK145
                                    clear BK151
                                    clear HR144_2
                                    clear HR150_2
                                    clear HB
                                    have HO_3 := n0_
                                    have HO_4 := n1_
                                    have HL144_2 := n2_
                                    have HO148 := n3_
                                    have HL150_2 := n4_
                                    have HO154 := n5_
                                    have BK145 := n6_
                                    have BK151 := n7_
                                    have HR144_2 := n8_
                                    have HR150_2 := n9_
                                    have HB := n10_
                                    clear n0_ n1_ n2_ n3_ n4_ n5_ n6_ n7_ n8_ n9_ n10_
                                    refine start_ (n := 8) (S := fun w' => w'.cell? ⟨gb145, 0, none⟩ = some (.int .i64 ((rd_T48 x4_3 t143).f0)) ∧ w'.cell? ⟨gb145, 1, none⟩ = some (.int .i64 ((rd_T48 x4_3 t143).f1)) ∧ w'.cell? ⟨gb145, 2, none⟩ = some (.slice A144_2 ((rd_T48 x4_3 t143).f2).length c144_2) ∧ w'.cell? ⟨gb151, 0, none⟩ = some (.int .i64 ((rd_T48 t146 t149).f0)) ∧ w'.cell? ⟨gb151, 1, none⟩ = some (.int .i64 ((rd_T48 t146 t149).f1)) ∧ w'.cell? ⟨gb151, 2, none⟩ = some (.slice A150_2 ((rd_T48 t146 t149).f2).length c150_2)) (ds := []) #[false, false, false, false, false, false, false, false] (by kernel_rfl) rfl rfl ⟨(blk_cell BK145.out 0).trans rfl, (blk_cell BK145.out 1).trans rfl, (blk_cell BK145.out 2).trans rfl, (blk_cell BK151.out 0).trans rfl, (blk_cell BK151.out 1).trans rfl, (blk_cell BK151.out 2).trans rfl⟩ (fun hHeld => ?_); refine with_tabW spec_l3Lens.tab20 spec_l3Lens.bits20 (fun HT_ HW_ => ?_)
                                    generalize w47.drew = w50 at HO_3 HO_4 HL144_2 HO148 HL150_2 HO154 BK145 BK151 HR144_2 HR150_2 HB hHeld ⊢
                                    refine pure_ (i := 1) (N := some 77) (v := ?_) (a' := ?_) #[false, true, false, false, false, false, false, false] rfl rfl (any_of HT_.out (by kernel_rfl)) (fun _ _ _ h => h) (Or.inl ⟨by rfl, ?_⟩) ?_ ?_
                                    rotate_left
                                    · intro w'
                                      go_simp
                                      with_reducible rfl
                                    rotate_left
                                    · simp only [Act.put, List.setIfInBounds_toArray, List.set_cons_zero, List.set_cons_succ, i64_w, i32_w]
                                      rfl
                                    refine pure_ (i := 4) (N := some 80) (v := ?_) (a' := ?_) #[false, true, false, false, true, false, false, false] rfl rfl (any_of HT_.out (by kernel_rfl)) (fun _ _ _ h => h) (Or.inl ⟨by rfl, ?_⟩) ?_ ?_
                                    rotate_left
                                    · intro w'
                                      go_simp
                                      with_reducible rfl
                                    rotate_left
                                    · simp only [Act.put, List.setIfInBounds_toArray, List.set_cons_zero, List.set_cons_succ, i64_w, i32_w]
                                      rfl
                                    refine take_ (i := 2) (N := some 78) (v := ?_) (a' := ?_) #[false, true, true, false, true, false, false, false] rfl rfl (take_ofW HT_.out HW_.out (by kernel_rfl)) (fun _ _ _ h => h) (Or.inl ⟨by rfl, ?_⟩) hHeld ?_ ?_
                                    rotate_left
                                    · rintro w' ⟨s0, s1, s2, s3, s4, s5⟩
                                      go_simp
                                      with_reducible rfl
                                    rotate_left
                                    · simp only [Act.put, List.setIfInBounds_toArray, List.set_cons_zero, List.set_cons_succ, i64_w, i32_w]
                                      rfl
                                    refine take_ (i := 5) (N := some 81) (v := ?_) (a' := ?_) #[false, true, true, false, true, true, false, false] rfl rfl (take_ofW HT_.out HW_.out (by kernel_rfl)) (fun _ _ _ h => h) (Or.inl ⟨by rfl, ?_⟩) hHeld ?_ ?_
                                    rotate_left
                                    · rintro w' ⟨s0, s1, s2, s3, s4, s5⟩
                                      go_simp
                                      with_reducible rfl
                                    rotate_left
                                    · simp only [Act.put, List.setIfInBounds_toArray, List.set_cons_zero, List.set_cons_succ, i64_w, i32_w]
                                      rfl
                                    refine one_ (i := 0) (N := some 76) #[true, true, true, false, true, true, false, false] rfl rfl (one_of HT_.out (by kernel_rfl)) (by decide) (fun K hK => ?_)
                                    refine Kd.R_lit_step (Kd.int .i64) _ 3 ?hg (N := 76) ?hd (xs := ([] : List Int)) (inner := []) (ok := fun _ => True) (okp := fun _ => True) ?hr ?hp (fun _ hk => hk) trivial (Below.refl _ _) (Nat.le_refl _) (by simp) ?_; (case hd => rfl); (case hg => rfl); (case hr => first | (go_simp; done) | (go_simp; rfl)); (case hp => exact (Reps.none _ _))
                                    intro v156 w51 ho52 hb hg_ hnew_
                                    clear hg_ hnew_
                                    (first | rw [← Ny155.out] at ho52 | (simp only [Int.reduceToNat] at ho52; rw [← Ny155.out] at ho52))
                                    have n0_ := Aside0.mk (Kd.R_elder' (by (with_reducible repeat (first | apply Kd.R_alloc | apply Kd.R_drewN | apply Kd.R_drew)); exact HO_3.out) (Kd.R_base ho52) hb)
                                    have n1_ := Aside0.mk (Kd.N_elder' (by (with_reducible repeat (first | apply Kd.N_alloc | apply Kd.N_drewN | apply Kd.N_drew)); exact HO_4.out) (Kd.R_base ho52) hb)
                                    have n2_ := Aside0.mk (Kd.V_elder' (by (with_reducible repeat (first | apply Kd.V_alloc | apply Kd.V_drewN | apply Kd.V_drew)); exact HL144_2.out) (Kd.R_base ho52) hb)
                                    have n3_ := Aside0.mk (Kd.N_elder' (by (with_reducible repeat (first | apply Kd.N_alloc | apply Kd.N_drewN | apply Kd.N_drew)); exact HO148.out) (Kd.R_base ho52) hb)
                                    have n4_ := Aside0.mk (Kd.V_elder' (by (with_reducible repeat (first | apply Kd.V_alloc | apply Kd.V_drewN | apply Kd.V_drew)); exact HL150_2.out) (Kd.R_base ho52) hb)
                                    have n5_ := Aside0.mk (Kd.N_elder' (by (with_reducible repeat (first | apply Kd.N_alloc | apply Kd.N_drewN | apply Kd.N_drew)); exact HO154.out) (Kd.R_base ho52) hb)
                                    have n6_ := Aside0.mk (Kd.R_lower (Kd.R_new' ho52 (Kd.R_lt (by (with_reducible repeat (first | apply Kd.R_alloc | apply Kd.R_drewN | apply Kd.R_drew)); exact HO_3.out))) (below_size (by repeat (first | (with_reducible first | exact HB.out | apply below_alloc | apply pw_below_drewN | apply below_drew1 | refine below_set ?_ GE145.out | refine below_set ?_ GE151.out) | exact HB.out))))
                                    have n7_ := Aside0.mk (Kd.C_below (by first | exact (Kd.V_reads' HL144_2.out).2.2 | repeat (first | (with_reducible exact HR144_2.out) | (with_reducible refine Kd.C_alloc ?_ _) | (with_reducible refine Kd.C_drewN ?_ _) | (with_reducible refine Kd.C_drew ?_) | exact HR144_2.out)) hb)
                                    have n8_ := Aside0.mk (blk_below (g := gb145) (o := .cells #[.int .i64 ((rd_T48 x4_3 t143).f0), .int .i64 ((rd_T48 x4_3 t143).f1), .slice A144_2 ((rd_T48 x4_3 t143).f2).length c144_2] 48 (0, 0)) (by (with_reducible repeat (first | refine blk_drewN ?_ _ | refine blk_drew ?_ | refine blk_alloc ?_ _)); exact BK145.out) hb)
                                    have n9_ := Aside0.mk (Kd.C_below (by first | exact (Kd.V_reads' HL150_2.out).2.2 | repeat (first | (with_reducible exact HR150_2.out) | (with_reducible refine Kd.C_alloc ?_ _) | (with_reducible refine Kd.C_drewN ?_ _) | (with_reducible refine Kd.C_drew ?_) | exact HR150_2.out)) hb)
                                    have n10_ := Aside0.mk (blk_below (g := gb151) (o := .cells #[.int .i64 ((rd_T48 t146 t149).f0), .int .i64 ((rd_T48 t146 t149).f1), .slice A150_2 ((rd_T48 t146 t149).f2).length c150_2] 48 (0, 0)) (by (with_reducible repeat (first | refine blk_drewN ?_ _ | refine blk_drew ?_ | refine blk_alloc ?_ _)); exact BK151.out) hb)
                                    have n11_ := Aside0.mk (below_step (by repeat (first | (with_reducible first | exact HB.out | apply below_alloc | apply pw_below_drewN | apply below_drew1 | refine below_set ?_ GE145.out | refine below_set ?_ GE151.out) | exact HB.out)) hb)
                                    clear HO_3
                                    clear HO_4
                                    clear HL144_2
                                    clear HO148
                                    clear HL150_2
                                    clear HO154
                                    clear HR144_2
                                    clear BK145
                                    clear HR150_2
                                    clear BK151
                                    clear HB
                                    have HO_3 := n0_
                                    have HO_4 := n1_
                                    have HL144_2 := n2_
                                    have HO148 := n3_
                                    have HL150_2 := n4_
                                    have HO154 := n5_
                                    have HO157 := n6_
                                    have HR144_2 := n7_
                                    have BK145 := n8_
                                    have HR150_2 := n9_
                                    have BK151 := n10_
                                    have HB := n11_
                                    clear n0_ n1_ n2_ n3_ n4_ n5_ n6_ n7_ n8_ n9_ n10_ n11_
                                    clear hb ho52
                                    refine hK.out _ _ ⟨(blk_cell BK145.out 0).trans rfl, (blk_cell BK145.out 1).trans rfl, (blk_cell BK145.out 2).trans rfl, (blk_cell BK151.out 0).trans rfl, (blk_cell BK151.out 1).trans rfl, (blk_cell BK151.out 2).trans rfl⟩ (fun hHeld => ?_)
                                    clear hK K
                                    refine norm_ (a' := ?_) ?_ ?_
                                    rotate_left
                                    · show Act.put _ (some 76) _ = _
                                      simp only [Act.put, List.setIfInBounds_toArray, List.set_cons_zero, List.set_cons_succ, i64_w, i32_w]
                                      rfl
                                    refine one_ (i := 3) (N := some 79) #[true, true, true, true, true, true, false, false] rfl rfl (one_of HT_.out (by kernel_rfl)) (by decide) (fun K hK => ?_)
                                    refine Kd.R_append_rows_step (Kd.int .i64) (w0 := w) w.heap.size (by rfl) (.tmp 76) (.tmp 78) 22 3 (.int .i64 0) 8 rfl Try.underlying22 info3 rfl (by decide) (by omega) v156 y155 ((rd_T48 x4_3 t143).f2) _ _ _ (fun k_ => some k_ ≠ (v128 : Value).ownBlock) (fun _ => False) rfl rfl ?aO ?aR (fun _ _ h => h) (fun _ h => h.elim) ?aF ?aB ?aS ?aL ?_
                                    (case aR => repeat (first | exact (by first | exact (Kd.V_reads' HL144_2.out).2.2 | repeat (first | (with_reducible exact HR144_2.out) | (with_reducible refine Kd.C_alloc ?_ _) | (with_reducible refine Kd.C_drewN ?_ _) | (with_reducible refine Kd.C_drew ?_) | exact HR144_2.out)) | (with_reducible refine Kd.C_alloc ?_ _) | (with_reducible refine Kd.C_drewN ?_ _) | (with_reducible refine Kd.C_drew ?_)))
                                    (case aB => exact (by repeat (first | (with_reducible first | exact HB.out | apply below_alloc | apply pw_below_drewN | apply below_drew1 | refine below_set ?_ GE145.out | refine below_set ?_ GE151.out) | exact HB.out)))
                                    (case aF => exact (fun k_ hk => Kd.fresh' (Kd.R_lt (by (with_reducible repeat (first | apply Kd.R_alloc | apply Kd.R_drewN | apply Kd.R_drew)); exact HO_3.out)) k_ hk))
                                    (case aO => exact (by (with_reducible repeat (first | apply Kd.R_alloc | apply Kd.R_drewN | apply Kd.R_drew)); exact Kd.R_mono HO157.out (fun _ hk => hk.2)))
                                    (case aS => exact (below_size (by repeat (first | (with_reducible first | exact HB.out | apply below_alloc | apply pw_below_drewN | apply below_drew1 | refine below_set ?_ GE145.out | refine below_set ?_ GE151.out) | exact HB.out))))
                                    (case aL => have := LMc35.out; omega)
                                    intro v159 w53 ho hb hg hat
                                    rw [← Ny158.out] at ho
                                    have n0_ := Aside0.mk (Kd.R_after (ok := (fun _ => True)) (by (with_reducible repeat (first | apply Kd.R_alloc | apply Kd.R_drewN | apply Kd.R_drew)); exact HO_3.out) hg hat)
                                    have n1_ := Aside0.mk (Kd.N_afterv (ok := (fun k_ => some k_ ≠ (v128 : Value).ownBlock ∧ some k_ ≠ (.slice (some ad150) t146.length co42 : Value).ownBlock ∧ some k_ ≠ (v153 : Value).ownBlock ∧ k_ ≠ gb145 ∧ k_ ≠ gb151)) (by (with_reducible repeat (first | apply Kd.N_alloc | apply Kd.N_drewN | apply Kd.N_drew)); exact Kd.N_mono HO_4.out (by first | exact (by first | exact (fun _ hk => ⟨⟨hk.1.1.1, ⟨hk.1.1.2.1, ⟨hk.1.2, ⟨hk.1.1.2.2.1, hk.1.1.2.2.2⟩⟩⟩⟩, hk.2⟩) | (intro k_ hk_; grind)) | (intro k_ hk_; grind))) hg hat)
                                    have n2_ := Aside0.mk (Kd.V_afterv (ok := (fun k_ => some k_ ≠ (v128 : Value).ownBlock ∧ some k_ ≠ (.slice (some ad144) x4_3.length co37 : Value).ownBlock ∧ some k_ ≠ (.slice (some ad150) t146.length co42 : Value).ownBlock ∧ some k_ ≠ (v153 : Value).ownBlock ∧ k_ ≠ gb145 ∧ k_ ≠ gb151)) (by (with_reducible repeat (first | apply Kd.V_alloc | apply Kd.V_drewN | apply Kd.V_drew)); exact Kd.V_mono HL144_2.out (by first | exact (by first | exact (fun _ hk => ⟨⟨hk.1.1.1, ⟨hk.1.1.2.1, ⟨hk.1.1.2.2.1, ⟨hk.1.2, ⟨hk.1.1.2.2.2.1, hk.1.1.2.2.2.2⟩⟩⟩⟩⟩, hk.2⟩) | (intro k_ hk_; grind)) | (intro k_ hk_; grind))) hg hat)
                                    have n3_ := Aside0.mk (blk_grown (g := gb145) (o := .cells #[.int .i64 ((rd_T48 x4_3 t143).f0), .int .i64 ((rd_T48 x4_3 t143).f1), .slice A144_2 ((rd_T48 x4_3 t143).f2).length c144_2] 48 (0, 0)) (by (with_reducible repeat (first | refine blk_drewN ?_ _ | refine blk_drew ?_ | refine blk_alloc ?_ _)); exact BK145.out) hg (Kd.R_ne HO157.out BK145.out (by decide)))
                                    have n4_ := Aside0.mk (Kd.N_afterv (ok := (fun k_ => some k_ ≠ (v128 : Value).ownBlock ∧ some k_ ≠ (v153 : Value).ownBlock ∧ k_ ≠ gb145 ∧ k_ ≠ gb151)) (by (with_reducible repeat (first | apply Kd.N_alloc | apply Kd.N_drewN | apply Kd.N_drew)); exact Kd.N_mono HO148.out (by first | exact (by first | exact (fun _ hk => ⟨⟨hk.1.1.1, ⟨hk.1.2, ⟨hk.1.1.2.1, hk.1.1.2.2⟩⟩⟩, hk.2⟩) | (intro k_ hk_; grind)) | (intro k_ hk_; grind))) hg hat)
                                    have n5_ := Aside0.mk (Kd.V_afterv (ok := (fun k_ => some k_ ≠ (v128 : Value).ownBlock ∧ some k_ ≠ (.slice (some ad150) t146.length co42 : Value).ownBlock ∧ some k_ ≠ (v153 : Value).ownBlock ∧ k_ ≠ gb145 ∧ k_ ≠ gb151)) (by (with_reducible repeat (first | apply Kd.V_alloc | apply Kd.V_drewN | apply Kd.V_drew)); exact Kd.V_mono HL150_2.out (by first | exact (by first | exact (fun _ hk => ⟨⟨hk.1.1.1, ⟨hk.1.1.2.1, ⟨hk.1.2, ⟨hk.1.1.2.2.1, hk.1.1.2.2.2⟩⟩⟩⟩, hk.2⟩) | (intro k_ hk_; grind)) | (intro k_ hk_; grind))) hg hat)
                                    have n6_ := Aside0.mk (blk_grown (g := gb151) (o := .cells #[.int .i64 ((rd_T48 t146 t149).f0), .int .i64 ((rd_T48 t146 t149).f1), .slice A150_2 ((rd_T48 t146 t149).f2).length c150_2] 48 (0, 0)) (by (with_reducible repeat (first | refine blk_drewN ?_ _ | refine blk_drew ?_ | refine blk_alloc ?_ _)); exact BK151.out) hg (Kd.R_ne HO157.out BK151.out (by decide)))
                                    have n7_ := Aside0.mk (Kd.N_afterv (ok := (fun k_ => some k_ ≠ (v128 : Value).ownBlock ∧ k_ ≠ gb145 ∧ k_ ≠ gb151)) (by (with_reducible repeat (first | apply Kd.N_alloc | apply Kd.N_drewN | apply Kd.N_drew)); exact HO154.out) hg hat)
                                    have n8_ := Aside0.mk (hb)
                                    have n9_ := Aside0.mk (ho)
                                    clear HO_3
                                    clear HO_4
                                    clear HL144_2
                                    clear BK145
                                    clear HO148
                                    clear HL150_2
                                    clear BK151
                                    clear HO154
                                    clear HB
                                    clear HO157
                                    have HO_3 := n0_
                                    have HO_4 := n1_
                                    have HL144_2 := n2_
                                    have BK145 := n3_
                                    have HO148 := n4_
                                    have HL150_2 := n5_
                                    have BK151 := n6_
                                    have HO154 := n7_
                                    have HB := n8_
                                    have HO160 := n9_
                                    clear n0_ n1_ n2_ n3_ n4_ n5_ n6_ n7_ n8_ n9_
                                    clear ho hb hg hat
                                    refine hK.out _ _ ⟨(blk_cell BK145.out 0).trans rfl, (blk_cell BK145.out 1).trans rfl, (blk_cell BK145.out 2).trans rfl, (blk_cell BK151.out 0).trans rfl, (blk_cell BK151.out 1).trans rfl, (blk_cell BK151.out 2).trans rfl⟩ (fun hHeld => ?_)
                                    clear hK K
                                    refine norm_ (a' := ?_) ?_ ?_
                                    rotate_left
                                    · show Act.put _ (some 79) _ = _
                                      simp only [Act.put, List.setIfInBounds_toArray, List.set_cons_zero, List.set_cons_succ, i64_w, i32_w]
                                      rfl
                                    refine one_ (i := 6) (N := some 82) #[true, true, true, true, true, true, true, false] rfl rfl (one_of HT_.out (by kernel_rfl)) (by decide) (fun K hK => ?_)
                                    refine Kd.R_append_rows_step (Kd.int .i64) (w0 := w) w.heap.size (by rfl) (.tmp 79) (.tmp 81) 22 3 (.int .i64 0) 8 rfl Try.underlying22 info3 rfl (by decide) (by omega) v159 y158 ((rd_T48 t146 t149).f2) _ _ _ (fun k_ => some k_ ≠ (v128 : Value).ownBlock) (fun _ => False) rfl rfl ?aO ?aR (fun _ _ h => h) (fun _ h => h.elim) ?aF ?aB ?aS ?aL ?_
                                    (case aR => repeat (first | exact ((Kd.V_reads' HL150_2.out).2.2) | (with_reducible refine Kd.C_alloc ?_ _) | (with_reducible refine Kd.C_drewN ?_ _) | (with_reducible refine Kd.C_drew ?_)))
                                    (case aB => exact (by repeat (first | (with_reducible first | exact HB.out | apply below_alloc | apply pw_below_drewN | apply below_drew1 | refine below_set ?_ GE145.out | refine below_set ?_ GE151.out) | exact HB.out)))
                                    (case aF => exact (fun k_ hk => Kd.fresh' (Kd.R_lt (by (with_reducible repeat (first | apply Kd.R_alloc | apply Kd.R_drewN | apply Kd.R_drew)); exact HO_3.out)) k_ hk))
                                    (case aO => exact (by (with_reducible repeat (first | apply Kd.R_alloc | apply Kd.R_drewN | apply Kd.R_drew)); exact HO160.out))
                                    (case aS => exact (below_size (by repeat (first | (with_reducible first | exact HB.out | apply below_alloc | apply pw_below_drewN | apply below_drew1 | refine below_set ?_ GE145.out | refine below_set ?_ GE151.out) | exact HB.out))))
                                    (case aL => have := LMc36.out; omega)
                                    intro v162 w54 ho hb hg hat
                                    rw [← Ny161.out] at ho
                                    have n0_ := Aside0.mk (Kd.R_after (ok := (fun _ => True)) (by (with_reducible repeat (first | apply Kd.R_alloc | apply Kd.R_drewN | apply Kd.R_drew)); exact HO_3.out) hg hat)
                                    have n1_ := Aside0.mk (Kd.N_afterv (ok := (fun k_ => some k_ ≠ (v128 : Value).ownBlock ∧ some k_ ≠ (.slice (some ad150) t146.length co42 : Value).ownBlock ∧ some k_ ≠ (v153 : Value).ownBlock ∧ k_ ≠ gb145 ∧ k_ ≠ gb151)) (by (with_reducible repeat (first | apply Kd.N_alloc | apply Kd.N_drewN | apply Kd.N_drew)); exact HO_4.out) hg hat)
                                    have n2_ := Aside0.mk (Kd.V_afterv (ok := (fun k_ => some k_ ≠ (v128 : Value).ownBlock ∧ some k_ ≠ (.slice (some ad144) x4_3.length co37 : Value).ownBlock ∧ some k_ ≠ (.slice (some ad150) t146.length co42 : Value).ownBlock ∧ some k_ ≠ (v153 : Value).ownBlock ∧ k_ ≠ gb145 ∧ k_ ≠ gb151)) (by (with_reducible repeat (first | apply Kd.V_alloc | apply Kd.V_drewN | apply Kd.V_drew)); exact HL144_2.out) hg hat)
                                    have n3_ := Aside0.mk (blk_grown (g := gb145) (o := .cells #[.int .i64 ((rd_T48 x4_3 t143).f0), .int .i64 ((rd_T48 x4_3 t143).f1), .slice A144_2 ((rd_T48 x4_3 t143).f2).length c144_2] 48 (0, 0)) (by (with_reducible repeat (first | refine blk_drewN ?_ _ | refine blk_drew ?_ | refine blk_alloc ?_ _)); exact BK145.out) hg (Kd.R_ne HO160.out BK145.out (by decide)))
                                    have n4_ := Aside0.mk (Kd.N_afterv (ok := (fun k_ => some k_ ≠ (v128 : Value).ownBlock ∧ some k_ ≠ (v153 : Value).ownBlock ∧ k_ ≠ gb145 ∧ k_ ≠ gb151)) (by (with_reducible repeat (first | apply Kd.N_alloc | apply Kd.N_drewN | apply Kd.N_drew)); exact HO148.out) hg hat)
                                    have n5_ := Aside0.mk (Kd.V_afterv (ok := (fun k_ => some k_ ≠ (v128 : Value).ownBlock ∧ some k_ ≠ (.slice (some ad150) t146.length co42 : Value).ownBlock ∧ some k_ ≠ (v153 : Value).ownBlock ∧ k_ ≠ gb145 ∧ k_ ≠ gb151)) (by (with_reducible repeat (first | apply Kd.V_alloc | apply Kd.V_drewN | apply Kd.V_drew)); exact HL150_2.out) hg hat)
                                    have n6_ := Aside0.mk (blk_grown (g := gb151) (o := .cells #[.int .i64 ((rd_T48 t146 t149).f0), .int .i64 ((rd_T48 t146 t149).f1), .slice A150_2 ((rd_T48 t146 t149).f2).length c150_2] 48 (0, 0)) (by (with_reducible repeat (first | refine blk_drewN ?_ _ | refine blk_drew ?_ | refine blk_alloc ?_ _)); exact BK151.out) hg (Kd.R_ne HO160.out BK151.out (by decide)))
                                    have n7_ := Aside0.mk (Kd.N_afterv (ok := (fun k_ => some k_ ≠ (v128 : Value).ownBlock ∧ k_ ≠ gb145 ∧ k_ ≠ gb151)) (by (with_reducible repeat (first | apply Kd.N_alloc | apply Kd.N_drewN | apply Kd.N_drew)); exact HO154.out) hg hat)
                                    have n8_ := Aside0.mk (hb)
                                    have n9_ := Aside0.mk (ho)
                                    clear HO_3
                                    clear HO_4
                                    clear HL144_2
                                    clear BK145
                                    clear HO148
                                    clear HL150_2
                                    clear BK151
                                    clear HO154
                                    clear HB
                                    clear HO160
                                    have HO_3 := n0_
                                    have HO_4 := n1_
                                    have HL144_2 := n2_
                                    have BK145 := n3_
                                    have HO148 := n4_
                                    have HL150_2 := n5_
                                    have BK151 := n6_
                                    have HO154 := n7_
                                    have HB := n8_
                                    have HO163 := n9_
                                    clear n0_ n1_ n2_ n3_ n4_ n5_ n6_ n7_ n8_ n9_
                                    clear ho hb hg hat
                                    refine hK.out _ _ ⟨(blk_cell BK145.out 0).trans rfl, (blk_cell BK145.out 1).trans rfl, (blk_cell BK145.out 2).trans rfl, (blk_cell BK151.out 0).trans rfl, (blk_cell BK151.out 1).trans rfl, (blk_cell BK151.out 2).trans rfl⟩ (fun hHeld => ?_)
                                    clear hK K
                                    refine norm_ (a' := ?_) ?_ ?_
                                    rotate_left
                                    · show Act.put _ (some 82) _ = _
                                      simp only [Act.put, List.setIfInBounds_toArray, List.set_cons_zero, List.set_cons_succ, i64_w, i32_w]
                                      rfl
                                    refine pure_ (i := 7) (N := some 10) (v := ?_) (a' := ?_) #[true, true, true, true, true, true, true, true] rfl rfl (any_of HT_.out (by kernel_rfl)) (fun _ _ _ h => h) (Or.inl ⟨by rfl, ?_⟩) ?_ ?_
                                    rotate_left
                                    · intro w'
                                      go_simp
                                      with_reducible rfl
                                    rotate_left
                                    · simp only [Act.put, List.setIfInBounds_toArray, List.set_cons_zero, List.set_cons_succ, i64_w, i32_w]
                                      rfl
                                    refine done_ (done_of HT_.out (by kernel_rfl)) ?_
                                    try go_wp2
                                    go_loopg [11] k3 (fun kq v11 w' => ∃ (x3_4 : List Int) (x11_4 : Int), v11 = .int .i64 x11_4 ∧ Aside0 (spec_l3Lens.l2 kq x3_4 t152 ((rd_T48 t146 t149).f1) y161 x11_4 ((rd_T48 x4_3 t143).f0) ((rd_T48 x4_3 t143).f1) ((rd_T48 x4_3 t143).f2) ((rd_T48 t146 t149).f0) ((rd_T48 t146 t149).f1) ((rd_T48 t146 t149).f2) = some r) ∧ Aside0 (kq ≤ k3) ∧ Aside0 (Kd.R (Kd.int .i64) 3 w' w.heap.size (fun k_ => some k_ ≠ (v162 : Value).ownBlock) v128 x3_4) ∧ Aside0 (Kd.N k48 48 w' w.heap.size (fun k_ => some k_ ≠ (v128 : Value).ownBlock ∧ some k_ ≠ (v162 : Value).ownBlock ∧ k_ ≠ gb145 ∧ k_ ≠ gb151) v153 t152) ∧ Aside0 (Kd.R (Kd.int .i64) 3 w' w.heap.size (fun k_ => some k_ ≠ (v128 : Value).ownBlock) v162 y161) ∧ Aside0 (w'.heap[gb145]? = some (.cells #[.int .i64 ((rd_T48 x4_3 t143).f0), .int .i64 ((rd_T48 x4_3 t143).f1), (.slice A144_2 ((rd_T48 x4_3 t143).f2).length c144_2)] 48 (0, 0))) ∧ Aside0 (w'.heap[gb151]? = some (.cells #[.int .i64 ((rd_T48 t146 t149).f0), .int .i64 ((rd_T48 t146 t149).f1), (.slice A150_2 ((rd_T48 t146 t149).f2).length c150_2)] 48 (0, 0))) ∧ Aside0 (Below w.heap.size w w'))
                                    case atStart => exact ⟨(x3_3), (0), (by first | rfl | (simp; done) | (simp [*]; done)), H', ⟨Nat.le_refl _⟩, ⟨by (with_reducible repeat (first | apply Kd.R_alloc | apply Kd.R_drewN | apply Kd.R_drew)); exact Kd.R_mono HO_3.out (fun _ hk => hk.2)⟩, ⟨by (with_reducible repeat (first | apply Kd.N_alloc | apply Kd.N_drewN | apply Kd.N_drew)); exact Kd.N_mono HO154.out (by first | exact (by first | exact (fun _ hk => ⟨hk.1.1, ⟨hk.2, ⟨hk.1.2.1, hk.1.2.2⟩⟩⟩) | (intro k_ hk_; grind)) | (intro k_ hk_; grind))⟩, ⟨by (with_reducible repeat (first | apply Kd.R_alloc | apply Kd.R_drewN | apply Kd.R_drew)); exact HO163.out⟩, ⟨by (with_reducible repeat (first | refine blk_drewN ?_ _ | refine blk_drew ?_ | refine blk_alloc ?_ _)); exact BK145.out⟩, ⟨by (with_reducible repeat (first | refine blk_drewN ?_ _ | refine blk_drew ?_ | refine blk_alloc ?_ _)); exact BK151.out⟩, ⟨by repeat (first | (with_reducible first | exact HB.out | apply below_alloc | apply pw_below_drewN | apply below_drew1 | refine below_set ?_ GE145.out | refine below_set ?_ GE151.out) | exact HB.out)⟩⟩
                                    case round =>
                                      clear H'
                                      try clear c1
                                      try clear p1
                                      try clear q1
                                      try clear hx1
                                      try clear qi1
                                      try clear c2
                                      try clear c2b0
                                      try clear c2b1
                                      try clear p2
                                      try clear q2
                                      try clear hx2
                                      try clear hf2
                                      try clear c3
                                      try clear c3b0
                                      try clear c3b1
                                      try clear c4
                                      try clear p6
                                      try clear c8
                                      try clear c8b0
                                      try clear c9
                                      try clear c9b0
                                      try clear c10
                                      try clear c10b0
                                      try clear c11
                                      try clear p13
                                      try clear q13
                                      try clear hx13
                                      try clear c14
                                      try clear p14
                                      try clear q14
                                      try clear hx14
                                      try clear qi14
                                      try clear c15
                                      try clear p15
                                      try clear q15
                                      try clear hx15
                                      try clear c18
                                      try clear c18b0
                                      try clear c18b1
                                      try clear c19
                                      try clear c19b0
                                      try clear c19b1
                                      try clear c20
                                      try clear c20b0
                                      try clear c21
                                      try clear c21b0
                                      try clear p22
                                      try clear q22
                                      try clear hx22
                                      try clear hf22
                                      try clear c25
                                      try clear c25b0
                                      try clear c25b1
                                      try clear c27
                                      try clear c27b0
                                      try clear c28
                                      try clear c28b0
                                      try clear c31
                                      try clear c31b0
                                      try clear c32
                                      try clear c32b0
                                      try clear c34
                                      try clear c34b0
                                      try clear c35
                                      try clear c36
                                      try clear c37
                                      try clear c44
                                      try clear hcz39_0
                                      try clear hcz39_1
                                      try clear hcz39_2
                                      try clear hcz45_0
                                      try clear hcz45_1
                                      try clear hcz45_2
                                      try clear hcz48_0
                                      try clear hcz48_1
                                      try clear hcz48_2
                                      try clear hcz49_0
                                      try clear hcz49_1
                                      try clear hcz49_2
                                      try clear hfz39_0
                                      try clear hfz39_1
                                      try clear hfz39_2
                                      try clear hfz45_0
                                      try clear hfz45_1
                                      try clear hfz45_2
                                      try clear hfz48_0
                                      try clear hfz48_1
                                      try clear hfz48_2
                                      try clear hfz49_0
                                      try clear hfz49_1
                                      try clear hfz49_2
                                      try clear hx133_0
                                      try clear hx134_0
                                      try clear hx141_0
                                      try clear hx141_1
                                      try clear hx141_2
                                      try clear hx144_0
                                      try clear hx144_1
                                      try clear hx144_2
                                      try clear hx150_0
                                      try clear hx150_1
                                      try clear hx150_2
                                      try clear hx22_0
                                      try clear p1
                                      try clear p13
                                      try clear p133
                                      try clear p134
                                      try clear p14
                                      try clear p141
                                      try clear p144
                                      try clear p150
                                      try clear p2
                                      try clear p22
                                      try clear p6
                                      try clear q1
                                      try clear q13
                                      try clear q133
                                      try clear q134
                                      try clear q14
                                      try clear q141
                                      try clear q144
                                      try clear q150
                                      try clear q2
                                      try clear q22
                                      obtain ⟨x3_4, x11_4, rfl, HA, HK4, HO_3, HO_4, HO_10, BK145, BK151, HB⟩ := hrel
                                      cases gk with
                                      | zero => exact absurd HA.out (by simp [spec_l3Lens.l2])
                                      | succ k4 =>
                                        have H := HA.out
                                        clear HA
                                        simp only [spec_l3Lens.l2] at H
                                        by_cases c55 : x11_4 < (y161.length : Int)
                                        · rw [if_pos c55] at H
                                          have c55b0 : decide (x11_4 < (y161.length : Int)) = true := decide_eq_true c55
                                          clear c55
                                          by_cases c56 : 0 ≤ x11_4
                                          · rw [if_pos c56] at H
                                            have c56b0 : decide (0 ≤ x11_4) = true := decide_eq_true c56
                                            clear c56
                                            by_cases c57 : 0 ≤ (rd y161 x11_4)
                                            · rw [if_pos c57] at H
                                              have c57b0 : decide (0 ≤ (rd y161 x11_4)) = true := decide_eq_true c57
                                              clear c57
                                              by_cases c58 : (rd y161 x11_4) < (x3_4.length : Int)
                                              · rw [if_pos c58] at H
                                                have c58b0 : decide ((rd y161 x11_4) < (x3_4.length : Int)) = true := decide_eq_true c58
                                                clear c58
                                                obtain ⟨y167, hy167⟩ : ∃ y_ : List Int, y_ = (x3_4.set ((rd y161 x11_4) : Int).toNat (wrap64 ((rd x3_4 (rd y161 x11_4)) + 1))) := ⟨_, rfl⟩
                                                replace H : (spec_l3Lens.l2 k4 y167 t152 ((rd_T48 t146 t149).f1) y161 (wrap64 (x11_4 + 1)) ((rd_T48 x4_3 t143).f0) ((rd_T48 x4_3 t143).f1) ((rd_T48 x4_3 t143).f2) ((rd_T48 t146 t149).f0) ((rd_T48 t146 t149).f1) ((rd_T48 t146 t149).f2)) = some r := by first | (rw [hy167]; with_reducible exact H) | (have H2_ := (Option.bind_some _ _).symm.trans H; rw [hy167]; with_reducible exact H2_) | (have H2_ := (Option.bind_some _ _).symm.trans H; with_reducible exact H2_) | with_reducible exact H | (rw [hy167]; exact H) | exact H
                                                have Ny167 := Aside0.mk hy167
                                                clear hy167
                                                have H' := Aside0.mk H
                                                clear H
                                                obtain ⟨Ao60, co60, eo60⟩ := Kd.R_slice HO_10.out
                                                subst eo60
                                                try go_wp2
                                                have n0_ := Aside0.mk (Kd.R_drew HO_3.out)
                                                have n1_ := Aside0.mk (Kd.N_drew HO_4.out)
                                                have n2_ := Aside0.mk (Kd.R_drew HO_10.out)
                                                have n3_ := Aside0.mk (blk_drew BK145.out)
                                                have n4_ := Aside0.mk (blk_drew BK151.out)
                                                have n5_ := Aside0.mk (below_drew1 HB.out)
                                                clear HO_3
                                                clear HO_4
                                                clear HO_10
                                                clear BK145
                                                clear BK151
                                                clear HB
                                                have HO_3 := n0_
                                                have HO_4 := n1_
                                                have HO_10 := n2_
                                                have BK145 := n3_
                                                have BK151 := n4_
                                                have HB := n5_
                                                clear n0_ n1_ n2_ n3_ n4_ n5_
                                                have p164 : 0 ≤ (x11_4 : Int) := of_decide_eq_true (by first | (with_reducible assumption) | assumption)
                                                have q164 : x11_4 < (y161.length : Int) := of_decide_eq_true (by first | (with_reducible assumption) | assumption)
                                                obtain ⟨ad164, e164, hx164_0⟩ := Kd.at_int (Kd.R_reads' HO_10.out).2.2 x11_4 p164 q164
                                                cases e164
                                                replace p164 := eq_true p164
                                                replace q164 := eq_true q164
                                                have p165 : 0 ≤ (x11_4 : Int) := of_decide_eq_true (by first | (with_reducible assumption) | assumption)
                                                have q165 : x11_4 < (y161.length : Int) := of_decide_eq_true (by first | (with_reducible assumption) | assumption)
                                                obtain ⟨ad165, e165, hx165_0⟩ := Kd.at_int (Kd.R_reads' HO_10.out).2.2 x11_4 p165 q165
                                                obtain rfl : ad164 = ad165 := (by injection e165)
                                                replace p165 := eq_true p165
                                                replace q165 := eq_true q165
                                                obtain ⟨Ao62, co62, eo62⟩ := Kd.R_slice HO_3.out
                                                (first | subst eo62 | (injection eo62 with f1_ f2_ f3_; have f4_ := f1_.symm; have f5_ := f3_.symm; clear f1_ f2_ f3_; subst f4_; subst f5_))
                                                have p166 : 0 ≤ ((rd y161 x11_4) : Int) := of_decide_eq_true (by first | (with_reducible assumption) | assumption)
                                                have q166 : (rd y161 x11_4) < (x3_4.length : Int) := of_decide_eq_true (by first | (with_reducible assumption) | assumption)
                                                obtain ⟨ad166, e166, hx166_0⟩ := Kd.at_int (Kd.R_reads' HO_3.out).2.2 (rd y161 x11_4) p166 q166
                                                cases e166
                                                replace p166 := eq_true p166
                                                replace q166 := eq_true q166
                                                have p59 : 0 ≤ ((rd y161 x11_4) : Int) := of_decide_eq_true (by first | (with_reducible assumption) | assumption)
                                                have q59 : ((rd y161 x11_4) : Int) < ((x3_4.length : Int) : Int) := of_decide_eq_true (by first | (with_reducible assumption) | assumption)
                                                obtain ⟨go59, co59, eo59, gb59, gl59, cl59, HG59⟩ := Kd.R_form HO_3.out (by omega)
                                                (first | cases eo59 | (injection eo59 with ea_ en_ ec_; (first | subst ea_ | (injection ea_ with ea_; subst ea_)); subst ec_; clear en_))
                                                have GB59 := Aside0.mk gb59
                                                have GG59 := Aside0.mk HG59
                                                clear gb59 gl59 HG59
                                                (first | simp only [add_plain] at hx166_0 | skip)
                                                obtain ⟨hx59_0, hf59_0⟩ := Kd.R_celln 0 HO_3.out ((rd y161 x11_4) : Int) p59 q59
                                                replace p59 := eq_true p59
                                                replace q59 := eq_true q59
                                                have HP63 := Kd.R_putn HO_3.out ((rd y161 x11_4) : Int) (wrap64 ((rd x3_4 (rd y161 x11_4)) + 1))
                                                rw [← Ny167.out] at HP63
                                                have HQ63 := Aside0.mk HP63
                                                clear HP63
                                                refine start_ (n := 15) (S := fun w' => w'.cell? (ad164.add (x11_4).toNat) = some (.int .i64 (rd y161 x11_4)) ∧ w'.cell? (ad164.add (x11_4).toNat) = some (.int .i64 (rd y161 x11_4)) ∧ w'.cell? ⟨go59, ((rd y161 x11_4)).toNat, none⟩ = some (.int .i64 (rd x3_4 (rd y161 x11_4)))) (ds := [14]) #[false, false, false, false, false, false, false, false, false, false, false, false, false, false, false] (by kernel_rfl) rfl rfl ⟨hx164_0, hx165_0, hx166_0⟩ (fun hHeld => ?_); refine with_tabW spec_l3Lens.tab24 spec_l3Lens.bits24 (fun HT_ HW_ => ?_)
                                                generalize wr.drew = w61 at HO_3 HO_4 HO_10 BK145 BK151 HB GG59 HQ63 hf59_0 hx164_0 hx165_0 hx166_0 hx59_0 hHeld ⊢
                                                refine pure_ (i := 0) (N := some 89) (v := ?_) (a' := ?_) #[true, false, false, false, false, false, false, false, false, false, false, false, false, false, false] rfl rfl (any_of HT_.out (by kernel_rfl)) (fun _ _ _ h => h) (Or.inl ⟨by rfl, ?_⟩) ?_ ?_
                                                rotate_left
                                                · intro w'
                                                  go_simp
                                                  with_reducible rfl
                                                rotate_left
                                                · simp only [Act.put, List.setIfInBounds_toArray, List.set_cons_zero, List.set_cons_succ, i64_w, i32_w]
                                                  rfl
                                                refine pure_ (i := 1) (N := some 90) (v := ?_) (a' := ?_) #[true, true, false, false, false, false, false, false, false, false, false, false, false, false, false] rfl rfl (any_of HT_.out (by kernel_rfl)) (fun _ _ _ h => h) (Or.inl ⟨by rfl, ?_⟩) ?_ ?_
                                                rotate_left
                                                · intro w'
                                                  go_simp
                                                  with_reducible rfl
                                                rotate_left
                                                · simp only [Act.put, List.setIfInBounds_toArray, List.set_cons_zero, List.set_cons_succ, i64_w, i32_w]
                                                  rfl
                                                refine pure_ (i := 2) (N := some 91) (v := ?_) (a' := ?_) #[true, true, true, false, false, false, false, false, false, false, false, false, false, false, false] rfl rfl (any_of HT_.out (by kernel_rfl)) (fun _ _ _ h => h) (Or.inl ⟨by rfl, ?_⟩) ?_ ?_
                                                rotate_left
                                                · intro w'
                                                  go_simp
                                                  with_reducible rfl
                                                rotate_left
                                                · simp only [Act.put, List.setIfInBounds_toArray, List.set_cons_zero, List.set_cons_succ, i64_w, i32_w]
                                                  rfl
                                                refine pure_ (i := 3) (N := some 92) (v := ?_) (a' := ?_) #[true, true, true, true, false, false, false, false, false, false, false, false, false, false, false] rfl rfl (any_of HT_.out (by kernel_rfl)) (fun _ _ _ h => h) (Or.inl ⟨by rfl, ?_⟩) ?_ ?_
                                                rotate_left
                                                · intro w'
                                                  go_simp
                                                  with_reducible rfl
                                                rotate_left
                                                · simp only [Act.put, List.setIfInBounds_toArray, List.set_cons_zero, List.set_cons_succ, i64_w, i32_w]
                                                  rfl
                                                refine pure_ (i := 5) (N := some 94) (v := ?_) (a' := ?_) #[true, true, true, true, false, true, false, false, false, false, false, false, false, false, false] rfl rfl (any_of HT_.out (by kernel_rfl)) (fun _ _ _ h => h) (Or.inl ⟨by rfl, ?_⟩) ?_ ?_
                                                rotate_left
                                                · intro w'
                                                  go_simp
                                                  with_reducible rfl
                                                rotate_left
                                                · simp only [Act.put, List.setIfInBounds_toArray, List.set_cons_zero, List.set_cons_succ, i64_w, i32_w]
                                                  rfl
                                                refine pure_ (i := 6) (N := some 95) (v := ?_) (a' := ?_) #[true, true, true, true, false, true, true, false, false, false, false, false, false, false, false] rfl rfl (any_of HT_.out (by kernel_rfl)) (fun _ _ _ h => h) (Or.inl ⟨by rfl, ?_⟩) ?_ ?_
                                                rotate_left
                                                · intro w'
                                                  go_simp
                                                  with_reducible rfl
                                                rotate_left
                                                · simp only [Act.put, List.setIfInBounds_toArray, List.set_cons_zero, List.set_cons_succ, i64_w, i32_w]
                                                  rfl
                                                refine pure_ (i := 7) (N := some 96) (v := ?_) (a' := ?_) #[true, true, true, true, false, true, true, true, false, false, false, false, false, false, false] rfl rfl (any_of HT_.out (by kernel_rfl)) (fun _ _ _ h => h) (Or.inl ⟨by rfl, ?_⟩) ?_ ?_
                                                rotate_left
                                                · intro w'
                                                  go_simp
                                                  with_reducible rfl
                                                rotate_left
                                                · simp only [Act.put, List.setIfInBounds_toArray, List.set_cons_zero, List.set_cons_succ, i64_w, i32_w]
                                                  rfl
                                                refine pure_ (i := 8) (N := some 97) (v := ?_) (a' := ?_) #[true, true, true, true, false, true, true, true, true, false, false, false, false, false, false] rfl rfl (any_of HT_.out (by kernel_rfl)) (fun _ _ _ h => h) (Or.inl ⟨by rfl, ?_⟩) ?_ ?_
                                                rotate_left
                                                · intro w'
                                                  go_simp
                                                  with_reducible rfl
                                                rotate_left
                                                · simp only [Act.put, List.setIfInBounds_toArray, List.set_cons_zero, List.set_cons_succ, i64_w, i32_w]
                                                  rfl
                                                refine take_ (i := 4) (N := some 93) (v := ?_) (a' := ?_) #[true, true, true, true, true, true, true, true, true, false, false, false, false, false, false] rfl rfl (take_ofW HT_.out HW_.out (by kernel_rfl)) (fun _ _ _ h => h) (Or.inl ⟨by rfl, ?_⟩) hHeld ?_ ?_
                                                rotate_left
                                                · rintro w' ⟨s0, s1, s2⟩
                                                  go_simp
                                                  with_reducible rfl
                                                rotate_left
                                                · simp only [Act.put, List.setIfInBounds_toArray, List.set_cons_zero, List.set_cons_succ, i64_w, i32_w]
                                                  rfl
                                                refine take_ (i := 9) (N := some 98) (v := ?_) (a' := ?_) #[true, true, true, true, true, true, true, true, true, true, false, false, false, false, false] rfl rfl (take_ofW HT_.out HW_.out (by kernel_rfl)) (fun _ _ _ h => h) (Or.inl ⟨by rfl, ?_⟩) hHeld ?_ ?_
                                                rotate_left
                                                · rintro w' ⟨s0, s1, s2⟩
                                                  go_simp
                                                  with_reducible rfl
                                                rotate_left
                                                · simp only [Act.put, List.setIfInBounds_toArray, List.set_cons_zero, List.set_cons_succ, i64_w, i32_w]
                                                  rfl
                                                refine pure_ (i := 10) (N := some 99) (v := ?_) (a' := ?_) #[true, true, true, true, true, true, true, true, true, true, true, false, false, false, false] rfl rfl (any_of HT_.out (by kernel_rfl)) (fun _ _ _ h => h) (Or.inl ⟨by rfl, ?_⟩) ?_ ?_
                                                rotate_left
                                                · intro w'
                                                  go_simp
                                                  with_reducible rfl
                                                rotate_left
                                                · simp only [Act.put, List.setIfInBounds_toArray, List.set_cons_zero, List.set_cons_succ, i64_w, i32_w]
                                                  rfl
                                                refine take_ (i := 11) (N := some 100) (v := ?_) (a' := ?_) #[true, true, true, true, true, true, true, true, true, true, true, true, false, false, false] rfl rfl (take_ofW HT_.out HW_.out (by kernel_rfl)) (fun _ _ _ h => h) (Or.inl ⟨by rfl, ?_⟩) hHeld ?_ ?_
                                                rotate_left
                                                · rintro w' ⟨s0, s1, s2⟩
                                                  go_simp
                                                  with_reducible rfl
                                                rotate_left
                                                · simp only [Act.put, List.setIfInBounds_toArray, List.set_cons_zero, List.set_cons_succ, i64_w, i32_w]
                                                  rfl
                                                refine pure_ (i := 12) (N := some 101) (v := ?_) (a' := ?_) #[true, true, true, true, true, true, true, true, true, true, true, true, true, false, false] rfl rfl (any_of HT_.out (by kernel_rfl)) (fun _ _ _ h => h) (Or.inl ⟨by rfl, ?_⟩) ?_ ?_
                                                rotate_left
                                                · intro w'
                                                  go_simp
                                                  with_reducible rfl
                                                rotate_left
                                                · simp only [Act.put, List.setIfInBounds_toArray, List.set_cons_zero, List.set_cons_succ, i64_w, i32_w]
                                                  rfl
                                                refine pure_ (i := 13) (N := some 102) (v := ?_) (a' := ?_) #[true, true, true, true, true, true, true, true, true, true, true, true, true, true, false] rfl rfl (any_of HT_.out (by kernel_rfl)) (fun _ _ _ h => h) (Or.inl ⟨by rfl, ?_⟩) ?_ ?_
                                                rotate_left
                                                · intro w'
                                                  go_simp
                                                  with_reducible rfl
                                                rotate_left
                                                · simp only [Act.put, List.setIfInBounds_toArray, List.set_cons_zero, List.set_cons_succ, i64_w, i32_w]
                                                  rfl
                                                refine last_ (i := 14) (N := none) #[true, true, true, true, true, true, true, true, true, true, true, true, true, true, true] rfl rfl (one_of HT_.out (by kernel_rfl)) (by decide) (fun K hK => ?_)
                                                refine skip_ (w1 := ?_) (by rfl) rfl ?_ ?_
                                                rotate_left
                                                · go_simp
                                                  rfl
                                                refine hK.out _ _ ?_
                                                clear hK K
                                                refine done_ (done_of HT_.out (by kernel_rfl)) ?_
                                                try go_wp2
                                                go_roundg k4
                                                case measure => have := HK1.out; have := HJ15.out; have := HK3.out; have := HK4.out; omega
                                                case rel => exact ⟨(y167), (wrap64 (x11_4 + 1)), (by first | rfl | (simp; done) | (simp [*]; done)), H', ⟨by have := HK1.out; have := HJ15.out; have := HK3.out; have := HK4.out; omega⟩, ⟨by (with_reducible repeat (first | apply Kd.R_alloc | apply Kd.R_drewN | apply Kd.R_drew)); exact HQ63.out⟩, ⟨by (with_reducible repeat (first | apply Kd.N_alloc | apply Kd.N_drewN | apply Kd.N_drew)); exact Kd.N_mono (Kd.N_far (p := ⟨go59, ((rd y161 x11_4) : Int).toNat, none⟩) (Kd.N_mono HO_4.out (fun k_ hk => (⟨hk, fun e_ => hk.1 (by rw [e_]; rfl)⟩ : _ ∧ k_ ≠ go59))) (fun _ hk => hk.2) (.int .i64 (wrap64 ((rd x3_4 (rd y161 x11_4)) + 1)))) (by first | exact (by first | exact (fun _ hk => ⟨hk.1.1, ⟨hk.1.2.1, ⟨hk.1.2.2.1, hk.1.2.2.2⟩⟩⟩) | (intro k_ hk_; grind)) | (intro k_ hk_; grind))⟩, ⟨by (with_reducible repeat (first | apply Kd.R_alloc | apply Kd.R_drewN | apply Kd.R_drew)); exact Kd.R_mono (Kd.R_far (p := ⟨go59, ((rd y161 x11_4) : Int).toNat, none⟩) (Kd.R_mono HO_10.out (fun k_ hk => (⟨hk, fun e_ => hk (by rw [e_]; rfl)⟩ : _ ∧ k_ ≠ go59))) (fun _ hk => hk.2) (.int .i64 (wrap64 ((rd x3_4 (rd y161 x11_4)) + 1)))) (fun _ hk => hk.1)⟩, ⟨by (with_reducible repeat (first | refine blk_drewN ?_ _ | refine blk_drew ?_ | refine blk_alloc ?_ _)); refine blk_far ?_ (by have h_ := Kd.R_ne HO_3.out BK145.out (by decide); intro e_; exact h_ (by rw [e_]; rfl)) _; (with_reducible repeat (first | refine blk_drewN ?_ _ | refine blk_drew ?_ | refine blk_alloc ?_ _)); exact BK145.out⟩, ⟨by (with_reducible repeat (first | refine blk_drewN ?_ _ | refine blk_drew ?_ | refine blk_alloc ?_ _)); refine blk_far ?_ (by have h_ := Kd.R_ne HO_3.out BK151.out (by decide); intro e_; exact h_ (by rw [e_]; rfl)) _; (with_reducible repeat (first | refine blk_drewN ?_ _ | refine blk_drew ?_ | refine blk_alloc ?_ _)); exact BK151.out⟩, ⟨by repeat (first | (with_reducible first | exact HB.out | apply below_alloc | apply pw_below_drewN | apply below_drew1 | refine below_set ?_ GB59.out | refine below_set ?_ GE145.out | refine below_set ?_ GE151.out) | exact HB.out)⟩⟩
                                              · rw [if_neg c58] at H
                                                exact absurd H (by simp)
                                            · rw [if_neg c57] at H
                                              exact absurd H (by simp)
                                          · rw [if_neg c56] at H
                                            exact absurd H (by simp)
                                        · rw [if_neg c55] at H
                                          have c55b0 : decide (x11_4 < (y161.length : Int)) = false := decide_eq_false c55
                                          clear c55
                                          by_cases c64 : t152.length < 3518437208883
                                          · rw [if_pos c64] at H
                                            have LMc64 := Aside0.mk c64
                                            clear c64
                                            obtain ⟨y168, hy168⟩ : ∃ y_ : List (S48), y_ = (t152 ++ [(⟨wrap64 (((rd_T48 x4_3 t143).f0) + ((rd_T48 t146 t149).f0)), ((rd_T48 t146 t149).f1), y161⟩ : S48)]) := ⟨_, rfl⟩
                                            replace H : (spec_l3Lens.l1 k4 x3_4 y168) = some r := by first | (rw [hy168]; with_reducible exact H) | (have H2_ := (Option.bind_some _ _).symm.trans H; rw [hy168]; with_reducible exact H2_) | (have H2_ := (Option.bind_some _ _).symm.trans H; with_reducible exact H2_) | with_reducible exact H | (rw [hy168]; exact H) | exact H
                                            have Ny168 := Aside0.mk hy168
                                            clear hy168
                                            have H' := Aside0.mk H
                                            clear H
                                            obtain ⟨Ao65, co65, eo65⟩ := Kd.R_slice HO_10.out
                                            subst eo65
                                            have hnb66 := NB145_151.out
                                            have hnc66 := NB151_145.out
                                            have hcz67_0 : wr.cell? ⟨gb145, 0, none⟩ = some (.int .i64 ((rd_T48 x4_3 t143).f0)) := (blk_cell BK145.out 0).trans rfl
                                            have hcz67_1 : wr.cell? ⟨gb145, 1, none⟩ = some (.int .i64 ((rd_T48 x4_3 t143).f1)) := (blk_cell BK145.out 1).trans rfl
                                            have hcz67_2 : wr.cell? ⟨gb145, 2, none⟩ = some (.slice A144_2 ((rd_T48 x4_3 t143).f2).length c144_2) := (blk_cell BK145.out 2).trans rfl
                                            have hfz67_0 := blk_frozen BK145.out 0
                                            have hfz67_1 := blk_frozen BK145.out 1
                                            have hfz67_2 := blk_frozen BK145.out 2
                                            have hcz68_0 : wr.cell? ⟨gb151, 0, none⟩ = some (.int .i64 ((rd_T48 t146 t149).f0)) := (blk_cell BK151.out 0).trans rfl
                                            have hcz68_1 : wr.cell? ⟨gb151, 1, none⟩ = some (.int .i64 ((rd_T48 t146 t149).f1)) := (blk_cell BK151.out 1).trans rfl
                                            have hcz68_2 : wr.cell? ⟨gb151, 2, none⟩ = some (.slice A150_2 ((rd_T48 t146 t149).f2).length c150_2) := (blk_cell BK151.out 2).trans rfl
                                            have hfz68_0 := blk_frozen BK151.out 0
                                            have hfz68_1 := blk_frozen BK151.out 1
                                            have hfz68_2 := blk_frozen BK151.out 2
                                            go_wp2_with (first | ((with_reducible refine gate_builtin (b := .append) (xs := #[.tmp 103, .tmp 112]) rfl ?_); at_builtin; refine Kd.N_append k48 (w0 := w) w.heap.size rfl (.tmp 103) (.tmp 112) 46 48 (.agg #[(.int .i64 0), (.int .i64 0), (.slice none 0 0)]) 40 rfl Try.underlying46 info48 rfl (by decide) (by omega) v153 t152 (⟨wrap64 (((rd_T48 x4_3 t143).f0) + ((rd_T48 t146 t149).f0)), ((rd_T48 t146 t149).f1), y161⟩ : S48) [.int .i64 (wrap64 (((rd_T48 x4_3 t143).f0) + ((rd_T48 t146 t149).f0))), .int .i64 ((rd_T48 t146 t149).f1), .slice Ao65 y161.length co65] (fun k_ => some k_ ≠ (v128 : Value).ownBlock ∧ k_ ≠ gb145 ∧ k_ ≠ gb151) (fun k_ => ((fun k_ => some k_ ≠ (v128 : Value).ownBlock ∧ k_ ≠ gb145 ∧ k_ ≠ gb151)) k_ ∧ some k_ ≠ (v153 : Value).ownBlock) rfl rfl ?aP (fun _ hk => hk) ?aF ?aO ?aB ?aS ?aL ?_; (case aP => exact (k48_mkF _ _ (⟨wrap64 (((rd_T48 x4_3 t143).f0) + ((rd_T48 t146 t149).f0)), ((rd_T48 t146 t149).f1), y161⟩ : S48) (Kd.R_reads' (Kd.R_mono (ok' := (fun k_ => ((fun k_ => some k_ ≠ (v128 : Value).ownBlock ∧ k_ ≠ gb145 ∧ k_ ≠ gb151)) k_ ∧ some k_ ≠ (v153 : Value).ownBlock)) (Kd.R_types (Kd.R_types (Kd.R_apart' (HO_10.out) (Kd.N_typed HO_4.out) (by decide)) BK145.out (by decide)) BK151.out (by decide)) (by first | exact (by first | exact (fun k_ hk => ⟨⟨hk.1.1.1, ⟨hk.1.2, hk.2⟩⟩, hk.1.1.2⟩) | (intro k_ hk_; grind)) | (intro k_ hk_; grind)))).2.1 (Kd.R_F (Kd.R_mono (ok' := (fun k_ => ((fun k_ => some k_ ≠ (v128 : Value).ownBlock ∧ k_ ≠ gb145 ∧ k_ ≠ gb151)) k_ ∧ some k_ ≠ (v153 : Value).ownBlock)) (Kd.R_types (Kd.R_types (Kd.R_apart' (HO_10.out) (Kd.N_typed HO_4.out) (by decide)) BK145.out (by decide)) BK151.out (by decide)) (by first | exact (by first | exact (fun k_ hk => ⟨⟨hk.1.1.1, ⟨hk.1.2, hk.2⟩⟩, hk.1.1.2⟩) | (intro k_ hk_; grind)) | (intro k_ hk_; grind)))))); (case aB => exact (by repeat (first | (with_reducible first | exact HB.out | apply below_alloc | apply pw_below_drewN | apply below_drew1 | refine below_set ?_ GE145.out | refine below_set ?_ GE151.out) | exact HB.out))); (case aF => exact (fun k_ hk => ⟨Kd.fresh' (Kd.R_lt (by (with_reducible repeat (first | apply Kd.R_alloc | apply Kd.R_drewN | apply Kd.R_drew)); exact HO_3.out)) k_ hk, Kd.freshB (g := gb145) (o := .cells #[.int .i64 ((rd_T48 x4_3 t143).f0), .int .i64 ((rd_T48 x4_3 t143).f1), .slice A144_2 ((rd_T48 x4_3 t143).f2).length c144_2] 48 (0, 0)) (by (with_reducible repeat (first | refine blk_drewN ?_ _ | refine blk_drew ?_ | refine blk_alloc ?_ _)); exact BK145.out) k_ hk, Kd.freshB (g := gb151) (o := .cells #[.int .i64 ((rd_T48 t146 t149).f0), .int .i64 ((rd_T48 t146 t149).f1), .slice A150_2 ((rd_T48 t146 t149).f2).length c150_2] 48 (0, 0)) (by (with_reducible repeat (first | refine blk_drewN ?_ _ | refine blk_drew ?_ | refine blk_alloc ?_ _)); exact BK151.out) k_ hk⟩)); (case aO => exact (by (with_reducible repeat (first | apply Kd.N_alloc | apply Kd.N_drewN | apply Kd.N_drew)); exact Kd.N_mono HO_4.out (by first | exact (by first | exact (fun _ hk => ⟨hk.1, ⟨hk.2.2.1, hk.2.2.2⟩⟩) | (intro k_ hk_; grind)) | (intro k_ hk_; grind)))); (case aS => exact (below_size (by repeat (first | (with_reducible first | exact HB.out | apply below_alloc | apply pw_below_drewN | apply below_drew1 | refine below_set ?_ GE145.out | refine below_set ?_ GE151.out) | exact HB.out)))); (case aL => have := LMc64.out; omega); intro v169 w69 ho hb hg hat; rw [← Ny168.out] at ho; have n0_ := Aside0.mk (Kd.R_over' (by (with_reducible repeat (first | apply Kd.R_alloc | apply Kd.R_drewN | apply Kd.R_drew)); exact HO_3.out) (Kd.N_typed (by (with_reducible repeat (first | apply Kd.N_alloc | apply Kd.N_drewN | apply Kd.N_drew)); exact HO_4.out)) (by decide) hg); have n1_ := Aside0.mk (blk_grown (g := gb145) (o := .cells #[.int .i64 ((rd_T48 x4_3 t143).f0), .int .i64 ((rd_T48 x4_3 t143).f1), .slice A144_2 ((rd_T48 x4_3 t143).f2).length c144_2] 48 (0, 0)) (by (with_reducible repeat (first | refine blk_drewN ?_ _ | refine blk_drew ?_ | refine blk_alloc ?_ _)); exact BK145.out) hg (Kd.N_away HO_4.out (fun _ hk => hk.2.2.1))); have n2_ := Aside0.mk (blk_grown (g := gb151) (o := .cells #[.int .i64 ((rd_T48 t146 t149).f0), .int .i64 ((rd_T48 t146 t149).f1), .slice A150_2 ((rd_T48 t146 t149).f2).length c150_2] 48 (0, 0)) (by (with_reducible repeat (first | refine blk_drewN ?_ _ | refine blk_drew ?_ | refine blk_alloc ?_ _)); exact BK151.out) hg (Kd.N_away HO_4.out (fun _ hk => hk.2.2.2))); have n3_ := Aside0.mk (hb); have n4_ := Aside0.mk (ho); clear HO_3; clear BK145; clear BK151; clear HB; clear HO_4; clear HO_10; have HO_3 := n0_; have BK145 := n1_; have BK151 := n2_; have HB := n3_; have HO170 := n4_; clear n0_ n1_ n2_ n3_ n4_; clear ho hb hg hat))
                                            go_roundg k4
                                            case measure => have := HK1.out; have := HJ15.out; have := HK3.out; have := HK4.out; omega
                                            case rel => exact ⟨(x3_4), (y168), H', ⟨by have := HK1.out; have := HJ15.out; have := HK3.out; have := HK4.out; omega⟩, ⟨by (with_reducible repeat (first | apply Kd.R_alloc | apply Kd.R_drewN | apply Kd.R_drew)); exact Kd.R_mono HO_3.out (fun _ hk => trivial)⟩, ⟨by (with_reducible repeat (first | apply Kd.N_alloc | apply Kd.N_drewN | apply Kd.N_drew)); exact Kd.N_mono HO170.out (fun _ hk => hk.1)⟩, ⟨by repeat (first | (with_reducible first | exact HB.out | apply below_alloc | apply pw_below_drewN | apply below_drew1 | refine below_set ?_ GE145.out | refine below_set ?_ GE151.out) | exact HB.out)⟩⟩
                                          · rw [if_neg c64] at H
                                            exact absurd H (by simp)
                                  · rw [if_neg c36] at H
                                    exact absurd H (by simp)
                                · rw [if_neg c35] at H
                                  exact absurd H (by simp)
                              · rw [if_neg c34] at H
                                have c34b0 : decide (((rd_T48 t146 t149).f1) < ((rd_T48 x4_3 t143).f1)) = false := decide_eq_false c34
                                clear c34
                                obtain ⟨y171, hy171⟩ : ∃ y_ : List Int, y_ = (([] : List Int)) := ⟨_, rfl⟩
                                replace H : (if y171.length + ((rd_T48 x4_3 t143).f2).length < 17592186044416 then ((some (y171 ++ ((rd_T48 x4_3 t143).f2) : List Int)).bind fun y174 => (if y174.length + ((rd_T48 t146 t149).f2).length < 17592186044416 then (spec_l3Lens.l2 k3 x3_3 t152 ((rd_T48 x4_3 t143).f1) (y174 ++ ((rd_T48 t146 t149).f2)) 0 ((rd_T48 x4_3 t143).f0) ((rd_T48 x4_3 t143).f1) ((rd_T48 x4_3 t143).f2) ((rd_T48 t146 t149).f0) ((rd_T48 t146 t149).f1) ((rd_T48 t146 t149).f2)) else (none))) else (none)) = some r := by first | (rw [hy171]; with_reducible exact H) | (have H2_ := (Option.bind_some _ _).symm.trans H; rw [hy171]; with_reducible exact H2_) | (have H2_ := (Option.bind_some _ _).symm.trans H; with_reducible exact H2_) | with_reducible exact H | (rw [hy171]; exact H) | exact H
                                have Ny171 := Aside0.mk hy171
                                clear hy171
                                by_cases c70 : y171.length + ((rd_T48 x4_3 t143).f2).length < 17592186044416
                                · rw [if_pos c70] at H
                                  have LMc70 := Aside0.mk c70
                                  clear c70
                                  obtain ⟨y174, hy174⟩ : ∃ y_ : List Int, y_ = (y171 ++ ((rd_T48 x4_3 t143).f2)) := ⟨_, rfl⟩
                                  replace H : (if y174.length + ((rd_T48 t146 t149).f2).length < 17592186044416 then (spec_l3Lens.l2 k3 x3_3 t152 ((rd_T48 x4_3 t143).f1) (y174 ++ ((rd_T48 t146 t149).f2)) 0 ((rd_T48 x4_3 t143).f0) ((rd_T48 x4_3 t143).f1) ((rd_T48 x4_3 t143).f2) ((rd_T48 t146 t149).f0) ((rd_T48 t146 t149).f1) ((rd_T48 t146 t149).f2)) else (none)) = some r := by first | (rw [hy174]; with_reducible exact H) | (have H2_ := (Option.bind_some _ _).symm.trans H; rw [hy174]; with_reducible exact H2_) | (have H2_ := (Option.bind_some _ _).symm.trans H; with_reducible exact H2_) | with_reducible exact H | (rw [hy174]; exact H) | exact H
                                  have Ny174 := Aside0.mk hy174
                                  clear hy174
                                  by_cases c71 : y174.length + ((rd_T48 t146 t149).f2).length < 17592186044416
                                  · rw [if_pos c71] at H
                                    have LMc71 := Aside0.mk c71
                                    clear c71
                                    obtain ⟨y177, hy177⟩ : ∃ y_ : List Int, y_ = (y174 ++ ((rd_T48 t146 t149).f2)) := ⟨_, rfl⟩
                                    replace H : (spec_l3Lens.l2 k3 x3_3 t152 ((rd_T48 x4_3 t143).f1) y177 0 ((rd_T48 x4_3 t143).f0) ((rd_T48 x4_3 t143).f1) ((rd_T48 x4_3 t143).f2) ((rd_T48 t146 t149).f0) ((rd_T48 t146 t149).f1) ((rd_T48 t146 t149).f2)) = some r := by first | (rw [hy177]; with_reducible exact H) | (have H2_ := (Option.bind_some _ _).symm.trans H; rw [hy177]; with_reducible exact H2_) | (have H2_ := (Option.bind_some _ _).symm.trans H; with_reducible exact H2_) | with_reducible exact H | (rw [hy177]; exact H) | exact H
                                    have Ny177 := Aside0.mk hy177
                                    clear hy177
                                    have H' := Aside0.mk H
                                    clear H
                                    obtain ⟨Ao72, co72, eo72⟩ := Kd.N_slice HO_4.out
                                    subst eo72
                                    try go_wp2_with (first | ((with_reducible refine gate_callee (f := 36) rfl ?_); refine goesL_ (some 51) rfl rfl Try.func36 (by kernel_rfl) rfl #[.slice Ao72 x4_3.length co72] rfl (by (try simp only [List.map_toArray, List.map_cons, List.map_nil]); first | done | rfl | (simp only [List.length_drop, List.length_take]; rfl)) ?_; (with_reducible refine (spec_l3Least.calls k3 _ _ x4_3 t143 _ ?side1 ?side2 A26.out).mono ?_); (case side1 => repeat (first | exact (Kd.N_reads' HO_4.out).2.2 | (with_reducible refine Kd.C_alloc ?_ _) | (with_reducible refine Kd.C_drewN ?_ _) | (with_reducible refine Kd.C_drew ?_))); (case side2 => exact (Kd.N_reads' HO_4.out).2.1); rintro e w' ⟨rfl, ⟨nd, rfl⟩⟩; refine ⟨_, rfl, ?_⟩; (try (rw [drewN_self wr]; generalize hq_ : World.drewN wr _ = wr; have n0_ : Aside0 (Kd.R (Kd.int .i64) 3 wr w.heap.size (fun _ => True) v128 x3_3) := ⟨by rw [← hq_]; exact (by (with_reducible repeat (first | apply Kd.R_alloc | apply Kd.R_drewN | apply Kd.R_drew)); exact HO_3.out)⟩; have n1_ : Aside0 (Kd.N k48 48 wr w.heap.size (fun k_ => some k_ ≠ (v128 : Value).ownBlock) (.slice Ao72 x4_3.length co72) x4_3) := ⟨by rw [← hq_]; exact (by (with_reducible repeat (first | apply Kd.N_alloc | apply Kd.N_drewN | apply Kd.N_drew)); exact HO_4.out)⟩; have n2_ : Aside0 (Below w.heap.size w wr) := ⟨by rw [← hq_]; exact (by repeat (first | (with_reducible first | exact HB.out | apply below_alloc | apply pw_below_drewN | apply below_drew1) | exact HB.out))⟩; clear HO_3 HO_4 HB hq_; have HO_3 := n0_; have HO_4 := n1_; have HB := n2_; clear n0_ n1_ n2_)); have p144 : 0 ≤ (t143 : Int) := of_decide_eq_true (by first | (with_reducible assumption) | assumption); have q144 : t143 < (x4_3.length : Int) := of_decide_eq_true (by first | (with_reducible assumption) | assumption); obtain ⟨ad144, A144_2, c144_2, e144, hx144_0, hx144_1, hx144_2, hl144_2, hi144_2⟩ := at_T48 (Kd.N_reads' HO_4.out).2.2 t143 p144 q144; cases e144; obtain ⟨ce144, hce144, hMe144, hcc144⟩ := Kd.N_get HO_4.out z48 t143 p144 (by first | exact q144 | exact of_decide_eq_true (by first | (with_reducible assumption) | assumption) | (have e_ := (Kd.N_reads' HO_4.out).1; omega)); obtain ⟨ua144_2, uc144_2, rfl, ul144_2, ge144_2⟩ := k48_openF hMe144; have hv144_2 := hcc144 2 _ rfl; rw [add_field _ _ 2 (by omega)] at hv144_2; replace hv144_2 := Option.some.inj (hv144_2.symm.trans hx144_2); injection hv144_2 with hva_ hvn_ hvc_; rw [hva_] at ge144_2; rw [hvc_] at ul144_2; have HL144_2 := Aside0.mk (show Kd.V (Kd.int .i64) 3 _ w.heap.size _ _ ((rd_T48 x4_3 t143).f2) from Kd.V_mk ul144_2 ge144_2); clear hva_ hvn_ hvc_ ge144_2 ul144_2; clear hcc144 hce144; have HR144_2 := Aside0.mk hi144_2; have HC144_2 := Aside0.mk hl144_2; clear hi144_2 hl144_2; replace p144 := eq_true p144; replace q144 := eq_true q144) | ((with_reducible refine gate_dst (N := 7) rfl ?_); refine box_event ?hg (N := 7) ?hd (cs := #[.int .i64 0, .int .i64 0, .slice none 0 0]) (t := 48) ?hr ?_; (case hd => rfl); (case hg => rfl); (case hr => first | (go_simp; done) | (go_simp; rfl)); intro gb145 hg w73 hbox hb; have n0_ := Aside0.mk (Kd.R_below (by (with_reducible repeat (first | apply Kd.R_alloc | apply Kd.R_drewN | apply Kd.R_drew)); exact HO_3.out) hb); have n1_ := Aside0.mk (Kd.N_below (Kd.N_elderB (by (with_reducible repeat (first | apply Kd.N_alloc | apply Kd.N_drewN | apply Kd.N_drew)); exact HO_4.out) gb145 (Nat.le_of_eq hg.symm)) hb); have n2_ := Aside0.mk (Kd.V_below (Kd.V_elderB (by (with_reducible repeat (first | apply Kd.V_alloc | apply Kd.V_drewN | apply Kd.V_drew)); exact HL144_2.out) gb145 (Nat.le_of_eq hg.symm)) hb); have n3_ := Aside0.mk (Kd.C_below (by first | exact (Kd.V_reads' HL144_2.out).2.2 | repeat (first | (with_reducible exact HR144_2.out) | (with_reducible refine Kd.C_alloc ?_ _) | (with_reducible refine Kd.C_drewN ?_ _) | (with_reducible refine Kd.C_drew ?_) | exact HR144_2.out)) hb); have n4_ := Aside0.mk (below_step (by repeat (first | (with_reducible first | exact HB.out | apply below_alloc | apply pw_below_drewN | apply below_drew1) | exact HB.out)) hb); have n5_ := Aside0.mk (hbox); have n6_ := Aside0.mk ((by rw [hg]; exact (below_size (by repeat (first | (with_reducible first | exact HB.out | apply below_alloc | apply pw_below_drewN | apply below_drew1) | exact HB.out))) : w.heap.size ≤ gb145)); have n7_ := Aside0.mk ((by rw [hg]; exact (below_size (by repeat (first | (with_reducible first | exact HB.out | apply below_alloc | apply pw_below_drewN | apply below_drew1) | exact HB.out))) : w.heap.size ≤ gb145)); clear HO_3; clear HO_4; clear HL144_2; clear HR144_2; clear HB; have HO_3 := n0_; have HO_4 := n1_; have HL144_2 := n2_; have HR144_2 := n3_; have HB := n4_; have BK145 := n5_; have GW145 := n6_; have GE145 := n7_; clear n0_ n1_ n2_ n3_ n4_ n5_ n6_ n7_; clear hb hbox hg; have hcz74_0 : w73.cell? ⟨gb145, 0, none⟩ = some (.int .i64 0) := (blk_cell BK145.out 0).trans rfl; have hcz74_1 : w73.cell? ⟨gb145, 1, none⟩ = some (.int .i64 0) := (blk_cell BK145.out 1).trans rfl; have hcz74_2 : w73.cell? ⟨gb145, 2, none⟩ = some (.slice none 0 0) := (blk_cell BK145.out 2).trans rfl; have hfz74_0 := blk_frozen BK145.out 0; have hfz74_1 := blk_frozen BK145.out 1; have hfz74_2 := blk_frozen BK145.out 2) | ((with_reducible refine gate_store (t := 48) (p := 7) rfl ?_); refine store_event (t := 48) (p := 7) (v := ?vo_w75) (w1 := (((w73.setCell ⟨gb145, 0, none⟩ (.int .i64 ((rd_T48 x4_3 t143).f0))).setCell ⟨gb145, 1, none⟩ (.int .i64 ((rd_T48 x4_3 t143).f1))).setCell ⟨gb145, 2, none⟩ (.slice A144_2 ((rd_T48 x4_3 t143).f2).length c144_2))) ?hg ?ho ?hn ?hr ?_; (case ho => rfl); (case hg => rfl); (case hn => rfl); (case hr => first | (go_simp; done) | (go_simp; rfl)); intro w75 hw; have n0_ : Aside0 (Kd.R (Kd.int .i64) 3 w75 w.heap.size (fun _ => True) v128 x3_3) := ⟨(by rw [hw]; exact (by (with_reducible repeat (first | apply Kd.R_alloc | apply Kd.R_drewN | apply Kd.R_drew)); exact Kd.R_mono (Kd.R_far (p := ⟨gb145, 2, none⟩) (Kd.R_far (p := ⟨gb145, 1, none⟩) (Kd.R_far (p := ⟨gb145, 0, none⟩) (Kd.R_types HO_3.out BK145.out (by decide)) (fun _ hk => hk.2) (.int .i64 ((rd_T48 x4_3 t143).f0))) (fun _ hk => hk.2) (.int .i64 ((rd_T48 x4_3 t143).f1))) (fun _ hk => hk.2) (.slice A144_2 ((rd_T48 x4_3 t143).f2).length c144_2)) (fun _ hk => trivial)))⟩; have n1_ : Aside0 (Kd.N k48 48 w75 w.heap.size (fun k_ => some k_ ≠ (v128 : Value).ownBlock ∧ k_ ≠ gb145) (.slice (some ad144) x4_3.length co72) x4_3) := ⟨(by rw [hw]; exact (by (with_reducible repeat (first | apply Kd.N_alloc | apply Kd.N_drewN | apply Kd.N_drew)); exact Kd.N_mono (Kd.N_far (p := ⟨gb145, 2, none⟩) (Kd.N_far (p := ⟨gb145, 1, none⟩) (Kd.N_far (p := ⟨gb145, 0, none⟩) (Kd.N_mono HO_4.out (fun k_ hk => (⟨hk, hk.2⟩ : _ ∧ k_ ≠ gb145))) (fun _ hk => hk.2) (.int .i64 ((rd_T48 x4_3 t143).f0))) (fun _ hk => hk.2) (.int .i64 ((rd_T48 x4_3 t143).f1))) (fun _ hk => hk.2) (.slice A144_2 ((rd_T48 x4_3 t143).f2).length c144_2)) (by first | exact (by first | exact (fun _ hk => ⟨hk.1.1, hk.1.2⟩) | (intro k_ hk_; grind)) | (intro k_ hk_; grind))))⟩; have n2_ : Aside0 (Kd.V (Kd.int .i64) 3 w75 w.heap.size (fun k_ => some k_ ≠ (v128 : Value).ownBlock ∧ some k_ ≠ (.slice (some ad144) x4_3.length co72 : Value).ownBlock ∧ k_ ≠ gb145) (.slice A144_2 ((rd_T48 x4_3 t143).f2).length c144_2) ((rd_T48 x4_3 t143).f2)) := ⟨(by rw [hw]; exact (by (with_reducible repeat (first | apply Kd.V_alloc | apply Kd.V_drewN | apply Kd.V_drew)); exact Kd.V_mono (Kd.V_far (p := ⟨gb145, 2, none⟩) (Kd.V_far (p := ⟨gb145, 1, none⟩) (Kd.V_far (p := ⟨gb145, 0, none⟩) (Kd.V_mono HL144_2.out (fun k_ hk => (⟨hk, hk.2⟩ : _ ∧ k_ ≠ gb145))) (fun _ hk => hk.2) (.int .i64 ((rd_T48 x4_3 t143).f0))) (fun _ hk => hk.2) (.int .i64 ((rd_T48 x4_3 t143).f1))) (fun _ hk => hk.2) (.slice A144_2 ((rd_T48 x4_3 t143).f2).length c144_2)) (by first | exact (by first | exact (fun _ hk => ⟨hk.1.1.1, ⟨hk.1.1.2, hk.1.2⟩⟩) | (intro k_ hk_; grind)) | (intro k_ hk_; grind))))⟩; have n3_ : Aside0 (w75.heap[gb145]? = some (.cells #[.int .i64 ((rd_T48 x4_3 t143).f0), .int .i64 ((rd_T48 x4_3 t143).f1), .slice A144_2 ((rd_T48 x4_3 t143).f2).length c144_2] 48 (0, 0))) := ⟨(by rw [hw]; exact (by (with_reducible repeat (first | refine blk_drewN ?_ _ | refine blk_drew ?_ | refine blk_alloc ?_ _)); refine blk_put (cs := #[.int .i64 ((rd_T48 x4_3 t143).f0), .int .i64 ((rd_T48 x4_3 t143).f1), .slice none 0 0]) ?_ 2 _ rfl; (with_reducible repeat (first | refine blk_drewN ?_ _ | refine blk_drew ?_ | refine blk_alloc ?_ _)); refine blk_put (cs := #[.int .i64 ((rd_T48 x4_3 t143).f0), .int .i64 0, .slice none 0 0]) ?_ 1 _ rfl; (with_reducible repeat (first | refine blk_drewN ?_ _ | refine blk_drew ?_ | refine blk_alloc ?_ _)); refine blk_put (cs := #[.int .i64 0, .int .i64 0, .slice none 0 0]) ?_ 0 _ rfl; (with_reducible repeat (first | refine blk_drewN ?_ _ | refine blk_drew ?_ | refine blk_alloc ?_ _)); exact BK145.out))⟩; have n4_ : Aside0 (Below w.heap.size w w75) := ⟨(by rw [hw]; exact (by repeat (first | (with_reducible first | exact HB.out | apply below_alloc | apply pw_below_drewN | apply below_drew1 | refine below_set ?_ GE145.out) | exact HB.out)))⟩; clear hw; clear HO_3; clear HO_4; clear HL144_2; clear BK145; clear HB; have HO_3 := n0_; have HO_4 := n1_; have HL144_2 := n2_; have BK145 := n3_; have HB := n4_; clear n0_ n1_ n2_ n3_ n4_) | ((with_reducible refine gate_callee (f := 37) rfl ?_); refine goesL_ (some 58) rfl rfl Try.func37 (by kernel_rfl) rfl #[.slice (some ad144) x4_3.length co72, .int .i64 t143] rfl (by (try simp only [List.map_toArray, List.map_cons, List.map_nil]); first | done | rfl | (simp only [List.length_drop, List.length_take]; rfl)) ?_; (with_reducible refine (spec_l3Less.calls (fun k_ => (some k_ ≠ (v128 : Value).ownBlock ∧ k_ ≠ gb145)) _ _ x4_3 t143 t146 _ ?side1 A29.out).mono ?_); (case side1 => exact Kd.N_V (HO_4.out)); rintro e w76 ⟨v147, rfl, ho0, hb⟩; refine ⟨_, rfl, ?_⟩; have n0_ := Aside0.mk (Kd.R_below (by (with_reducible repeat (first | apply Kd.R_alloc | apply Kd.R_drewN | apply Kd.R_drew)); exact HO_3.out) hb); have n1_ := Aside0.mk (Kd.N_elder' (by (with_reducible repeat (first | apply Kd.N_alloc | apply Kd.N_drewN | apply Kd.N_drew)); exact HO_4.out) (Kd.N_base ho0) hb); have n2_ := Aside0.mk (Kd.V_elder' (by (with_reducible repeat (first | apply Kd.V_alloc | apply Kd.V_drewN | apply Kd.V_drew)); exact HL144_2.out) (Kd.N_base ho0) hb); have n3_ := Aside0.mk (Kd.N_lower (Kd.N_mono (ok' := fun k_ => some k_ ≠ (v128 : Value).ownBlock ∧ k_ ≠ gb145) ho0 (fun k_ hk_ => ⟨Or.elim hk_ (fun hs_ => hs_.1) (fun hn_ => (Kd.fresh' (Kd.R_lt (by (with_reducible repeat (first | apply Kd.R_alloc | apply Kd.R_drewN | apply Kd.R_drew)); exact HO_3.out)) k_ hn_)), Or.elim hk_ (fun hs_ => hs_.2) (fun hn_ => (Kd.freshB (g := gb145) (o := .cells #[.int .i64 ((rd_T48 x4_3 t143).f0), .int .i64 ((rd_T48 x4_3 t143).f1), .slice A144_2 ((rd_T48 x4_3 t143).f2).length c144_2] 48 (0, 0)) (by (with_reducible repeat (first | refine blk_drewN ?_ _ | refine blk_drew ?_ | refine blk_alloc ?_ _)); exact BK145.out) k_ hn_))⟩)) (below_size (by repeat (first | (with_reducible first | exact HB.out | apply below_alloc | apply pw_below_drewN | apply below_drew1 | refine below_set ?_ GE145.out) | exact HB.out)))); have n4_ := Aside0.mk (Kd.C_below (by first | exact (Kd.V_reads' HL144_2.out).2.2 | repeat (first | (with_reducible exact HR144_2.out) | (with_reducible refine Kd.C_alloc ?_ _) | (with_reducible refine Kd.C_drewN ?_ _) | (with_reducible refine Kd.C_drew ?_) | exact HR144_2.out)) hb); have n5_ := Aside0.mk (blk_below (g := gb145) (o := .cells #[.int .i64 ((rd_T48 x4_3 t143).f0), .int .i64 ((rd_T48 x4_3 t143).f1), .slice A144_2 ((rd_T48 x4_3 t143).f2).length c144_2] 48 (0, 0)) (by (with_reducible repeat (first | refine blk_drewN ?_ _ | refine blk_drew ?_ | refine blk_alloc ?_ _)); exact BK145.out) hb); have n6_ := Aside0.mk (below_step (by repeat (first | (with_reducible first | exact HB.out | apply below_alloc | apply pw_below_drewN | apply below_drew1 | refine below_set ?_ GE145.out) | exact HB.out)) hb); clear HO_3; clear HO_4; clear HL144_2; clear HR144_2; clear BK145; clear HB; have HO_3 := n0_; have HO_4 := n1_; have HL144_2 := n2_; have HO148 := n3_; have HR144_2 := n4_; have BK145 := n5_; have HB := n6_; clear n0_ n1_ n2_ n3_ n4_ n5_ n6_; (try clear hb); (try clear hb2); (try clear hk); (try clear hi); (try clear ho0); obtain ⟨Ao77, co77, eo77⟩ := Kd.N_slice HO148.out; subst eo77) | ((with_reducible refine gate_callee (f := 36) rfl ?_); refine goesL_ (some 60) rfl rfl Try.func36 (by kernel_rfl) rfl #[.slice Ao77 t146.length co77] rfl (by (try simp only [List.map_toArray, List.map_cons, List.map_nil]); first | done | rfl | (simp only [List.length_drop, List.length_take]; rfl)) ?_; (with_reducible refine (spec_l3Least.calls k3 _ _ t146 t149 _ ?side1 ?side2 A30.out).mono ?_); (case side1 => repeat (first | exact (Kd.N_reads' HO148.out).2.2 | (with_reducible refine Kd.C_alloc ?_ _) | (with_reducible refine Kd.C_drewN ?_ _) | (with_reducible refine Kd.C_drew ?_))); (case side2 => exact (Kd.N_reads' HO148.out).2.1); rintro e w' ⟨rfl, ⟨nd, rfl⟩⟩; refine ⟨_, rfl, ?_⟩; (try (rw [drewN_self w76]; generalize hq_ : World.drewN w76 _ = w76; have n0_ : Aside0 (Kd.V (Kd.int .i64) 3 w76 w.heap.size (fun k_ => some k_ ≠ (.slice Ao77 t146.length co77 : Value).ownBlock ∧ some k_ ≠ (v128 : Value).ownBlock ∧ some k_ ≠ (.slice (some ad144) x4_3.length co72 : Value).ownBlock ∧ k_ ≠ gb145) (.slice A144_2 ((rd_T48 x4_3 t143).f2).length c144_2) ((rd_T48 x4_3 t143).f2)) := ⟨by rw [← hq_]; exact (by (with_reducible repeat (first | apply Kd.V_alloc | apply Kd.V_drewN | apply Kd.V_drew)); exact Kd.V_mono HL144_2.out (by first | exact (by first | exact (fun _ hk => ⟨hk.2, ⟨hk.1.1, ⟨hk.1.2.1, hk.1.2.2⟩⟩⟩) | (intro k_ hk_; grind)) | (intro k_ hk_; grind)))⟩; have n1_ : Aside0 (Kd.N k48 48 w76 w.heap.size (fun k_ => some k_ ≠ (v128 : Value).ownBlock ∧ k_ ≠ gb145) (.slice Ao77 t146.length co77) t146) := ⟨by rw [← hq_]; exact (by (with_reducible repeat (first | apply Kd.N_alloc | apply Kd.N_drewN | apply Kd.N_drew)); exact HO148.out)⟩; have n2_ : Aside0 (Kd.R (Kd.int .i64) 3 w76 w.heap.size (fun _ => True) v128 x3_3) := ⟨by rw [← hq_]; exact (by (with_reducible repeat (first | apply Kd.R_alloc | apply Kd.R_drewN | apply Kd.R_drew)); exact HO_3.out)⟩; have n3_ : Aside0 (Kd.N k48 48 w76 w.heap.size (fun k_ => some k_ ≠ (.slice Ao77 t146.length co77 : Value).ownBlock ∧ some k_ ≠ (v128 : Value).ownBlock ∧ k_ ≠ gb145) (.slice (some ad144) x4_3.length co72) x4_3) := ⟨by rw [← hq_]; exact (by (with_reducible repeat (first | apply Kd.N_alloc | apply Kd.N_drewN | apply Kd.N_drew)); exact Kd.N_mono HO_4.out (by first | exact (by first | exact (fun _ hk => ⟨hk.2, ⟨hk.1.1, hk.1.2⟩⟩) | (intro k_ hk_; grind)) | (intro k_ hk_; grind)))⟩; have n4_ : Aside0 (w76.heap[gb145]? = some (.cells #[.int .i64 ((rd_T48 x4_3 t143).f0), .int .i64 ((rd_T48 x4_3 t143).f1), .slice A144_2 ((rd_T48 x4_3 t143).f2).length c144_2] 48 (0, 0))) := ⟨by rw [← hq_]; exact (by (with_reducible repeat (first | refine blk_drewN ?_ _ | refine blk_drew ?_ | refine blk_alloc ?_ _)); exact BK145.out)⟩; have n5_ : Aside0 (Below w.heap.size w w76) := ⟨by rw [← hq_]; exact (by repeat (first | (with_reducible first | exact HB.out | apply below_alloc | apply pw_below_drewN | apply below_drew1 | refine below_set ?_ GE145.out) | exact HB.out))⟩; have n6_ : Aside0 (Kd.C (Kd.int .i64) w76 A144_2 ((rd_T48 x4_3 t143).f2).length ((rd_T48 x4_3 t143).f2)) := ⟨by rw [← hq_]; exact (by first | exact (Kd.V_reads' HL144_2.out).2.2 | repeat (first | (with_reducible exact HR144_2.out) | (with_reducible refine Kd.C_alloc ?_ _) | (with_reducible refine Kd.C_drewN ?_ _) | (with_reducible refine Kd.C_drew ?_) | exact HR144_2.out))⟩; clear HL144_2 HO148 HO_3 HO_4 BK145 HB HR144_2 hq_; have HL144_2 := n0_; have HO148 := n1_; have HO_3 := n2_; have HO_4 := n3_; have BK145 := n4_; have HB := n5_; have HR144_2 := n6_; clear n0_ n1_ n2_ n3_ n4_ n5_ n6_)); have p150 : 0 ≤ (t149 : Int) := of_decide_eq_true (by first | (with_reducible assumption) | assumption); have q150 : t149 < (t146.length : Int) := of_decide_eq_true (by first | (with_reducible assumption) | assumption); obtain ⟨ad150, A150_2, c150_2, e150, hx150_0, hx150_1, hx150_2, hl150_2, hi150_2⟩ := at_T48 (Kd.N_reads' HO148.out).2.2 t149 p150 q150; cases e150; obtain ⟨ce150, hce150, hMe150, hcc150⟩ := Kd.N_get HO148.out z48 t149 p150 (by first | exact q150 | exact of_decide_eq_true (by first | (with_reducible assumption) | assumption) | (have e_ := (Kd.N_reads' HO148.out).1; omega)); obtain ⟨ua150_2, uc150_2, rfl, ul150_2, ge150_2⟩ := k48_openF hMe150; have hv150_2 := hcc150 2 _ rfl; rw [add_field _ _ 2 (by omega)] at hv150_2; replace hv150_2 := Option.some.inj (hv150_2.symm.trans hx150_2); injection hv150_2 with hva_ hvn_ hvc_; rw [hva_] at ge150_2; rw [hvc_] at ul150_2; have HL150_2 := Aside0.mk (show Kd.V (Kd.int .i64) 3 _ w.heap.size _ _ ((rd_T48 t146 t149).f2) from Kd.V_mk ul150_2 ge150_2); clear hva_ hvn_ hvc_ ge150_2 ul150_2; clear hcc150 hce150; have HR150_2 := Aside0.mk hi150_2; have HC150_2 := Aside0.mk hl150_2; clear hi150_2 hl150_2; replace p150 := eq_true p150; replace q150 := eq_true q150) | ((with_reducible refine gate_dst (N := 8) rfl ?_); refine box_event ?hg (N := 8) ?hd (cs := #[.int .i64 0, .int .i64 0, .slice none 0 0]) (t := 48) ?hr ?_; (case hd => rfl); (case hg => rfl); (case hr => first | (go_simp; done) | (go_simp; rfl)); intro gb151 hg w78 hbox hb; have n0_ := Aside0.mk (Kd.R_below (by (with_reducible repeat (first | apply Kd.R_alloc | apply Kd.R_drewN | apply Kd.R_drew)); exact HO_3.out) hb); have n1_ := Aside0.mk (Kd.N_below (Kd.N_elderB (by (with_reducible repeat (first | apply Kd.N_alloc | apply Kd.N_drewN | apply Kd.N_drew)); exact HO_4.out) gb151 (Nat.le_of_eq hg.symm)) hb); have n2_ := Aside0.mk (Kd.V_below (Kd.V_elderB (by (with_reducible repeat (first | apply Kd.V_alloc | apply Kd.V_drewN | apply Kd.V_drew)); exact HL144_2.out) gb151 (Nat.le_of_eq hg.symm)) hb); have n3_ := Aside0.mk (Kd.N_below (Kd.N_elderB (by (with_reducible repeat (first | apply Kd.N_alloc | apply Kd.N_drewN | apply Kd.N_drew)); exact HO148.out) gb151 (Nat.le_of_eq hg.symm)) hb); have n4_ := Aside0.mk (Kd.V_below (Kd.V_elderB (by (with_reducible repeat (first | apply Kd.V_alloc | apply Kd.V_drewN | apply Kd.V_drew)); exact HL150_2.out) gb151 (Nat.le_of_eq hg.symm)) hb); have n5_ := Aside0.mk (Kd.C_below (by first | exact (Kd.V_reads' HL144_2.out).2.2 | repeat (first | (with_reducible exact HR144_2.out) | (with_reducible refine Kd.C_alloc ?_ _) | (with_reducible refine Kd.C_drewN ?_ _) | (with_reducible refine Kd.C_drew ?_) | exact HR144_2.out)) hb); have n6_ := Aside0.mk (blk_below (g := gb145) (o := .cells #[.int .i64 ((rd_T48 x4_3 t143).f0), .int .i64 ((rd_T48 x4_3 t143).f1), .slice A144_2 ((rd_T48 x4_3 t143).f2).length c144_2] 48 (0, 0)) (by (with_reducible repeat (first | refine blk_drewN ?_ _ | refine blk_drew ?_ | refine blk_alloc ?_ _)); exact BK145.out) hb); have n7_ := Aside0.mk (Kd.C_below (by first | exact (Kd.V_reads' HL150_2.out).2.2 | repeat (first | (with_reducible exact HR150_2.out) | (with_reducible refine Kd.C_alloc ?_ _) | (with_reducible refine Kd.C_drewN ?_ _) | (with_reducible refine Kd.C_drew ?_) | exact HR150_2.out)) hb); have n8_ := Aside0.mk (below_step (by repeat (first | (with_reducible first | exact HB.out | apply below_alloc | apply pw_below_drewN | apply below_drew1 | refine below_set ?_ GE145.out) | exact HB.out)) hb); have n9_ := Aside0.mk (hbox); have n10_ := Aside0.mk ((by rw [hg]; exact (below_size (by repeat (first | (with_reducible first | exact HB.out | apply below_alloc | apply pw_below_drewN | apply below_drew1 | refine below_set ?_ GE145.out) | exact HB.out))) : w.heap.size ≤ gb151)); have n11_ := Aside0.mk ((by rw [hg]; exact (below_size (by repeat (first | (with_reducible first | exact HB.out | apply below_alloc | apply pw_below_drewN | apply below_drew1 | refine below_set ?_ GE145.out) | exact HB.out))) : w.heap.size ≤ gb151)); have n12_ := Aside0.mk ((by rw [hg]; exact Nat.ne_of_lt (blk_lt (g := gb145) (o := .cells #[.int .i64 ((rd_T48 x4_3 t143).f0), .int .i64 ((rd_T48 x4_3 t143).f1), .slice A144_2 ((rd_T48 x4_3 t143).f2).length c144_2] 48 (0, 0)) (by (with_reducible repeat (first | refine blk_drewN ?_ _ | refine blk_drew ?_ | refine blk_alloc ?_ _)); exact BK145.out)) : gb145 ≠ gb151)); have n13_ := Aside0.mk ((by rw [hg]; exact Nat.ne_of_gt (blk_lt (g := gb145) (o := .cells #[.int .i64 ((rd_T48 x4_3 t143).f0), .int .i64 ((rd_T48 x4_3 t143).f1), .slice A144_2 ((rd_T48 x4_3 t143).f2).length c144_2] 48 (0, 0)) (by (with_reducible repeat (first | refine blk_drewN ?_ _ | refine blk_drew ?_ | refine blk_alloc ?_ _)); exact BK145.out)) : gb151 ≠ gb145)); clear HO_3; clear HO_4; clear HL144_2; clear HO148; clear HL150_2; clear HR144_2; clear BK145; clear HR150_2; clear HB; have HO_3 := n0_; have HO_4 := n1_; have HL144_2 := n2_; have HO148 := n3_; have HL150_2 := n4_; have HR144_2 := n5_; have BK145 := n6_; have HR150_2 := n7_; have HB := n8_; have BK151 := n9_; have GW151 := n10_; have GE151 := n11_; have NB145_151 := n12_; have NB151_145 := n13_; clear n0_ n1_ n2_ n3_ n4_ n5_ n6_ n7_ n8_ n9_ n10_ n11_ n12_ n13_; clear hb hbox hg; have hnb79 := NB151_145.out; have hnc79 := NB145_151.out; have hcz80_0 : w78.cell? ⟨gb151, 0, none⟩ = some (.int .i64 0) := (blk_cell BK151.out 0).trans rfl; have hcz80_1 : w78.cell? ⟨gb151, 1, none⟩ = some (.int .i64 0) := (blk_cell BK151.out 1).trans rfl; have hcz80_2 : w78.cell? ⟨gb151, 2, none⟩ = some (.slice none 0 0) := (blk_cell BK151.out 2).trans rfl; have hfz80_0 := blk_frozen BK151.out 0; have hfz80_1 := blk_frozen BK151.out 1; have hfz80_2 := blk_frozen BK151.out 2) | ((with_reducible refine gate_store (t := 48) (p := 8) rfl ?_); refine store_event (t := 48) (p := 8) (v := ?vo_w81) (w1 := (((w78.setCell ⟨gb151, 0, none⟩ (.int .i64 ((rd_T48 t146 t149).f0))).setCell ⟨gb151, 1, none⟩ (.int .i64 ((rd_T48 t146 t149).f1))).setCell ⟨gb151, 2, none⟩ (.slice A150_2 ((rd_T48 t146 t149).f2).length c150_2))) ?hg ?ho ?hn ?hr ?_; (case ho => rfl); (case hg => rfl); (case hn => rfl); (case hr => first | (go_simp; done) | (go_simp; rfl)); intro w81 hw; have n0_ : Aside0 (Kd.R (Kd.int .i64) 3 w81 w.heap.size (fun _ => True) v128 x3_3) := ⟨(by rw [hw]; exact (by (with_reducible repeat (first | apply Kd.R_alloc | apply Kd.R_drewN | apply Kd.R_drew)); exact Kd.R_mono (Kd.R_far (p := ⟨gb151, 2, none⟩) (Kd.R_far (p := ⟨gb151, 1, none⟩) (Kd.R_far (p := ⟨gb151, 0, none⟩) (Kd.R_types HO_3.out BK151.out (by decide)) (fun _ hk => hk.2) (.int .i64 ((rd_T48 t146 t149).f0))) (fun _ hk => hk.2) (.int .i64 ((rd_T48 t146 t149).f1))) (fun _ hk => hk.2) (.slice A150_2 ((rd_T48 t146 t149).f2).length c150_2)) (fun _ hk => trivial)))⟩; have n1_ : Aside0 (Kd.N k48 48 w81 w.heap.size (fun k_ => some k_ ≠ (v128 : Value).ownBlock ∧ some k_ ≠ (.slice (some ad150) t146.length co77 : Value).ownBlock ∧ k_ ≠ gb145 ∧ k_ ≠ gb151) (.slice (some ad144) x4_3.length co72) x4_3) := ⟨(by rw [hw]; exact (by (with_reducible repeat (first | apply Kd.N_alloc | apply Kd.N_drewN | apply Kd.N_drew)); exact Kd.N_mono (Kd.N_far (p := ⟨gb151, 2, none⟩) (Kd.N_far (p := ⟨gb151, 1, none⟩) (Kd.N_far (p := ⟨gb151, 0, none⟩) (Kd.N_mono HO_4.out (fun k_ hk => (⟨hk, hk.2⟩ : _ ∧ k_ ≠ gb151))) (fun _ hk => hk.2) (.int .i64 ((rd_T48 t146 t149).f0))) (fun _ hk => hk.2) (.int .i64 ((rd_T48 t146 t149).f1))) (fun _ hk => hk.2) (.slice A150_2 ((rd_T48 t146 t149).f2).length c150_2)) (by first | exact (by first | exact (fun _ hk => ⟨hk.1.1.1.1, ⟨hk.1.1.2, ⟨hk.1.1.1.2, hk.1.2⟩⟩⟩) | (intro k_ hk_; grind)) | (intro k_ hk_; grind))))⟩; have n2_ : Aside0 (Kd.V (Kd.int .i64) 3 w81 w.heap.size (fun k_ => some k_ ≠ (v128 : Value).ownBlock ∧ some k_ ≠ (.slice (some ad144) x4_3.length co72 : Value).ownBlock ∧ some k_ ≠ (.slice (some ad150) t146.length co77 : Value).ownBlock ∧ k_ ≠ gb145 ∧ k_ ≠ gb151) (.slice A144_2 ((rd_T48 x4_3 t143).f2).length c144_2) ((rd_T48 x4_3 t143).f2)) := ⟨(by rw [hw]; exact (by (with_reducible repeat (first | apply Kd.V_alloc | apply Kd.V_drewN | apply Kd.V_drew)); exact Kd.V_mono (Kd.V_far (p := ⟨gb151, 2, none⟩) (Kd.V_far (p := ⟨gb151, 1, none⟩) (Kd.V_far (p := ⟨gb151, 0, none⟩) (Kd.V_mono HL144_2.out (fun k_ hk => (⟨hk, hk.2⟩ : _ ∧ k_ ≠ gb151))) (fun _ hk => hk.2) (.int .i64 ((rd_T48 t146 t149).f0))) (fun _ hk => hk.2) (.int .i64 ((rd_T48 t146 t149).f1))) (fun _ hk => hk.2) (.slice A150_2 ((rd_T48 t146 t149).f2).length c150_2)) (by first | exact (by first | exact (fun _ hk => ⟨hk.1.1.1.1, ⟨hk.1.1.1.2.1, ⟨hk.1.1.2, ⟨hk.1.1.1.2.2, hk.1.2⟩⟩⟩⟩) | (intro k_ hk_; grind)) | (intro k_ hk_; grind))))⟩; have n3_ : Aside0 (Kd.N k48 48 w81 w.heap.size (fun k_ => some k_ ≠ (v128 : Value).ownBlock ∧ k_ ≠ gb145 ∧ k_ ≠ gb151) (.slice (some ad150) t146.length co77) t146) := ⟨(by rw [hw]; exact (by (with_reducible repeat (first | apply Kd.N_alloc | apply Kd.N_drewN | apply Kd.N_drew)); exact Kd.N_mono (Kd.N_far (p := ⟨gb151, 2, none⟩) (Kd.N_far (p := ⟨gb151, 1, none⟩) (Kd.N_far (p := ⟨gb151, 0, none⟩) (Kd.N_mono HO148.out (fun k_ hk => (⟨hk, hk.2⟩ : _ ∧ k_ ≠ gb151))) (fun _ hk => hk.2) (.int .i64 ((rd_T48 t146 t149).f0))) (fun _ hk => hk.2) (.int .i64 ((rd_T48 t146 t149).f1))) (fun _ hk => hk.2) (.slice A150_2 ((rd_T48 t146 t149).f2).length c150_2)) (by first | exact (by first | exact (fun _ hk => ⟨hk.1.1.1, ⟨hk.1.1.2, hk.1.2⟩⟩) | (intro k_ hk_; grind)) | (intro k_ hk_; grind))))⟩; have n4_ : Aside0 (Kd.V (Kd.int .i64) 3 w81 w.heap.size (fun k_ => some k_ ≠ (v128 : Value).ownBlock ∧ some k_ ≠ (.slice (some ad150) t146.length co77 : Value).ownBlock ∧ k_ ≠ gb145 ∧ k_ ≠ gb151) (.slice A150_2 ((rd_T48 t146 t149).f2).length c150_2) ((rd_T48 t146 t149).f2)) := ⟨(by rw [hw]; exact (by (with_reducible repeat (first | apply Kd.V_alloc | apply Kd.V_drewN | apply Kd.V_drew)); exact Kd.V_mono (Kd.V_far (p := ⟨gb151, 2, none⟩) (Kd.V_far (p := ⟨gb151, 1, none⟩) (Kd.V_far (p := ⟨gb151, 0, none⟩) (Kd.V_mono HL150_2.out (fun k_ hk => (⟨hk, hk.2⟩ : _ ∧ k_ ≠ gb151))) (fun _ hk => hk.2) (.int .i64 ((rd_T48 t146 t149).f0))) (fun _ hk => hk.2) (.int .i64 ((rd_T48 t146 t149).f1))) (fun _ hk => hk.2) (.slice A150_2 ((rd_T48 t146 t149).f2).length c150_2)) (by first | exact (by first | exact (fun _ hk => ⟨hk.1.1.1.1, ⟨hk.1.1.2, ⟨hk.1.1.1.2, hk.1.2⟩⟩⟩) | (intro k_ hk_; grind)) | (intro k_ hk_; grind))))⟩; have n5_ : Aside0 (w81.heap[gb145]? = some (.cells #[.int .i64 ((rd_T48 x4_3 t143).f0), .int .i64 ((rd_T48 x4_3 t143).f1), .slice A144_2 ((rd_T48 x4_3 t143).f2).length c144_2] 48 (0, 0))) := ⟨(by rw [hw]; exact (by (with_reducible repeat (first | refine blk_drewN ?_ _ | refine blk_drew ?_ | refine blk_alloc ?_ _)); refine blk_far ?_ NB145_151.out _; (with_reducible repeat (first | refine blk_drewN ?_ _ | refine blk_drew ?_ | refine blk_alloc ?_ _)); refine blk_far ?_ NB145_151.out _; (with_reducible repeat (first | refine blk_drewN ?_ _ | refine blk_drew ?_ | refine blk_alloc ?_ _)); refine blk_far ?_ NB145_151.out _; (with_reducible repeat (first | refine blk_drewN ?_ _ | refine blk_drew ?_ | refine blk_alloc ?_ _)); exact BK145.out))⟩; have n6_ : Aside0 (w81.heap[gb151]? = some (.cells #[.int .i64 ((rd_T48 t146 t149).f0), .int .i64 ((rd_T48 t146 t149).f1), .slice A150_2 ((rd_T48 t146 t149).f2).length c150_2] 48 (0, 0))) := ⟨(by rw [hw]; exact (by (with_reducible repeat (first | refine blk_drewN ?_ _ | refine blk_drew ?_ | refine blk_alloc ?_ _)); refine blk_put (cs := #[.int .i64 ((rd_T48 t146 t149).f0), .int .i64 ((rd_T48 t146 t149).f1), .slice none 0 0]) ?_ 2 _ rfl; (with_reducible repeat (first | refine blk_drewN ?_ _ | refine blk_drew ?_ | refine blk_alloc ?_ _)); refine blk_put (cs := #[.int .i64 ((rd_T48 t146 t149).f0), .int .i64 0, .slice none 0 0]) ?_ 1 _ rfl; (with_reducible repeat (first | refine blk_drewN ?_ _ | refine blk_drew ?_ | refine blk_alloc ?_ _)); refine blk_put (cs := #[.int .i64 0, .int .i64 0, .slice none 0 0]) ?_ 0 _ rfl; (with_reducible repeat (first | refine blk_drewN ?_ _ | refine blk_drew ?_ | refine blk_alloc ?_ _)); exact BK151.out))⟩; have n7_ : Aside0 (Below w.heap.size w w81) := ⟨(by rw [hw]; exact (by repeat (first | (with_reducible first | exact HB.out | apply below_alloc | apply pw_below_drewN | apply below_drew1 | refine below_set ?_ GE145.out | refine below_set ?_ GE151.out) | exact HB.out)))⟩; clear hw; clear HO_3; clear HO_4; clear HL144_2; clear HO148; clear HL150_2; clear BK145; clear BK151; clear HB; have HO_3 := n0_; have HO_4 := n1_; have HL144_2 := n2_; have HO148 := n3_; have HL150_2 := n4_; have BK145 := n5_; have BK151 := n6_; have HB := n7_; clear n0_ n1_ n2_ n3_ n4_ n5_ n6_ n7_) | ((with_reducible refine gate_callee (f := 37) rfl ?_); refine goesL_ (some 67) rfl rfl Try.func37 (by kernel_rfl) rfl #[.slice (some ad150) t146.length co77, .int .i64 t149] rfl (by (try simp only [List.map_toArray, List.map_cons, List.map_nil]); first | done | rfl | (simp only [List.length_drop, List.length_take]; rfl)) ?_; (with_reducible refine (spec_l3Less.calls (fun k_ => (some k_ ≠ (v128 : Value).ownBlock ∧ (k_ ≠ gb145 ∧ k_ ≠ gb151))) _ _ t146 t149 t152 _ ?side1 A33.out).mono ?_); (case side1 => exact Kd.N_V (HO148.out)); rintro e w82 ⟨v153, rfl, ho0, hb⟩; refine ⟨_, rfl, ?_⟩; have n0_ := Aside0.mk (Kd.R_below (by (with_reducible repeat (first | apply Kd.R_alloc | apply Kd.R_drewN | apply Kd.R_drew)); exact HO_3.out) hb); have n1_ := Aside0.mk (Kd.N_elder' (by (with_reducible repeat (first | apply Kd.N_alloc | apply Kd.N_drewN | apply Kd.N_drew)); exact HO_4.out) (Kd.N_base ho0) hb); have n2_ := Aside0.mk (Kd.V_elder' (by (with_reducible repeat (first | apply Kd.V_alloc | apply Kd.V_drewN | apply Kd.V_drew)); exact HL144_2.out) (Kd.N_base ho0) hb); have n3_ := Aside0.mk (Kd.N_elder' (by (with_reducible repeat (first | apply Kd.N_alloc | apply Kd.N_drewN | apply Kd.N_drew)); exact HO148.out) (Kd.N_base ho0) hb); have n4_ := Aside0.mk (Kd.V_elder' (by (with_reducible repeat (first | apply Kd.V_alloc | apply Kd.V_drewN | apply Kd.V_drew)); exact HL150_2.out) (Kd.N_base ho0) hb); have n5_ := Aside0.mk (Kd.N_lower (Kd.N_mono (ok' := fun k_ => some k_ ≠ (v128 : Value).ownBlock ∧ k_ ≠ gb145 ∧ k_ ≠ gb151) ho0 (fun k_ hk_ => ⟨Or.elim hk_ (fun hs_ => hs_.1) (fun hn_ => (Kd.fresh' (Kd.R_lt (by (with_reducible repeat (first | apply Kd.R_alloc | apply Kd.R_drewN | apply Kd.R_drew)); exact HO_3.out)) k_ hn_)), Or.elim hk_ (fun hs_ => hs_.2.1) (fun hn_ => (Kd.freshB (g := gb145) (o := .cells #[.int .i64 ((rd_T48 x4_3 t143).f0), .int .i64 ((rd_T48 x4_3 t143).f1), .slice A144_2 ((rd_T48 x4_3 t143).f2).length c144_2] 48 (0, 0)) (by (with_reducible repeat (first | refine blk_drewN ?_ _ | refine blk_drew ?_ | refine blk_alloc ?_ _)); exact BK145.out) k_ hn_)), Or.elim hk_ (fun hs_ => hs_.2.2) (fun hn_ => (Kd.freshB (g := gb151) (o := .cells #[.int .i64 ((rd_T48 t146 t149).f0), .int .i64 ((rd_T48 t146 t149).f1), .slice A150_2 ((rd_T48 t146 t149).f2).length c150_2] 48 (0, 0)) (by (with_reducible repeat (first | refine blk_drewN ?_ _ | refine blk_drew ?_ | refine blk_alloc ?_ _)); exact BK151.out) k_ hn_))⟩)) (below_size (by repeat (first | (with_reducible first | exact HB.out | apply below_alloc | apply pw_below_drewN | apply below_drew1 | refine below_set ?_ GE145.out | refine below_set ?_ GE151.out) | exact HB.out)))); have n6_ := Aside0.mk (Kd.C_below (by first | exact (Kd.V_reads' HL144_2.out).2.2 | repeat (first | (with_reducible exact HR144_2.out) | (with_reducible refine Kd.C_alloc ?_ _) | (with_reducible refine Kd.C_drewN ?_ _) | (with_reducible refine Kd.C_drew ?_) | exact HR144_2.out)) hb); have n7_ := Aside0.mk (blk_below (g := gb145) (o := .cells #[.int .i64 ((rd_T48 x4_3 t143).f0), .int .i64 ((rd_T48 x4_3 t143).f1), .slice A144_2 ((rd_T48 x4_3 t143).f2).length c144_2] 48 (0, 0)) (by (with_reducible repeat (first | refine blk_drewN ?_ _ | refine blk_drew ?_ | refine blk_alloc ?_ _)); exact BK145.out) hb); have n8_ := Aside0.mk (Kd.C_below (by first | exact (Kd.V_reads' HL150_2.out).2.2 | repeat (first | (with_reducible exact HR150_2.out) | (with_reducible refine Kd.C_alloc ?_ _) | (with_reducible refine Kd.C_drewN ?_ _) | (with_reducible refine Kd.C_drew ?_) | exact HR150_2.out)) hb); have n9_ := Aside0.mk (blk_below (g := gb151) (o := .cells #[.int .i64 ((rd_T48 t146 t149).f0), .int .i64 ((rd_T48 t146 t149).f1), .slice A150_2 ((rd_T48 t146 t149).f2).length c150_2] 48 (0, 0)) (by (with_reducible repeat (first | refine blk_drewN ?_ _ | refine blk_drew ?_ | refine blk_alloc ?_ _)); exact BK151.out) hb); have n10_ := Aside0.mk (below_step (by repeat (first | (with_reducible first | exact HB.out | apply below_alloc | apply pw_below_drewN | apply below_drew1 | refine below_set ?_ GE145.out | refine below_set ?_ GE151.out) | exact HB.out)) hb); clear HO_3; clear HO_4; clear HL144_2; clear HO148; clear HL150_2; clear HR144_2; clear BK145; clear HR150_2; clear BK151; clear HB; have HO_3 := n0_; have HO_4 := n1_; have HL144_2 := n2_; have HO148 := n3_; have HL150_2 := n4_; have HO154 := n5_; have HR144_2 := n6_; have BK145 := n7_; have HR150_2 := n8_; have BK151 := n9_; have HB := n10_; clear n0_ n1_ n2_ n3_ n4_ n5_ n6_ n7_ n8_ n9_ n10_; (try clear hb); (try clear hb2); (try clear hk); (try clear hi); (try clear ho0); have hcz83_0 : w82.cell? ⟨gb145, 0, none⟩ = some (.int .i64 ((rd_T48 x4_3 t143).f0)) := (blk_cell BK145.out 0).trans rfl; have hcz83_1 : w82.cell? ⟨gb145, 1, none⟩ = some (.int .i64 ((rd_T48 x4_3 t143).f1)) := (blk_cell BK145.out 1).trans rfl; have hcz83_2 : w82.cell? ⟨gb145, 2, none⟩ = some (.slice A144_2 ((rd_T48 x4_3 t143).f2).length c144_2) := (blk_cell BK145.out 2).trans rfl; have hfz83_0 := blk_frozen BK145.out 0; have hfz83_1 := blk_frozen BK145.out 1; have hfz83_2 := blk_frozen BK145.out 2; have hcz84_0 : w82.cell? ⟨gb151, 0, none⟩ = some (.int .i64 ((rd_T48 t146 t149).f0)) := (blk_cell BK151.out 0).trans rfl; have hcz84_1 : w82.cell? ⟨gb151, 1, none⟩ = some (.int .i64 ((rd_T48 t146 t149).f1)) := (blk_cell BK151.out 1).trans rfl; have hcz84_2 : w82.cell? ⟨gb151, 2, none⟩ = some (.slice A150_2 ((rd_T48 t146 t149).f2).length c150_2) := (blk_cell BK151.out 2).trans rfl; have hfz84_0 := blk_frozen BK151.out 0; have hfz84_1 := blk_frozen BK151.out 1; have hfz84_2 := blk_frozen BK151.out 2))
                                    have n0_ := Aside0.mk (Kd.R_drew HO_3.out)
                                    have n1_ := Aside0.mk (Kd.N_drew HO_4.out)
                                    have n2_ := Aside0.mk (Kd.V_drew HL144_2.out)
                                    have n3_ := Aside0.mk (Kd.N_drew HO148.out)
                                    have n4_ := Aside0.mk (Kd.V_drew HL150_2.out)
                                    have n5_ := Aside0.mk (Kd.N_drew HO154.out)
                                    have n6_ := Aside0.mk (blk_drew BK145.out)
                                    have n7_ := Aside0.mk (blk_drew BK151.out)
                                    have n8_ := Aside0.mk (Kd.C_drew HR144_2.out)
                                    have n9_ := Aside0.mk (Kd.C_drew HR150_2.out)
                                    have n10_ := Aside0.mk (below_drew1 HB.out)
                                    clear HO_3
                                    clear HO_4
                                    clear HL144_2
                                    clear HO148
                                    clear HL150_2
                                    clear HO154
                                    clear BK145
                                    clear BK151
                                    clear HR144_2
                                    clear HR150_2
                                    clear HB
                                    have HO_3 := n0_
                                    have HO_4 := n1_
                                    have HL144_2 := n2_
                                    have HO148 := n3_
                                    have HL150_2 := n4_
                                    have HO154 := n5_
                                    have BK145 := n6_
                                    have BK151 := n7_
                                    have HR144_2 := n8_
                                    have HR150_2 := n9_
                                    have HB := n10_
                                    clear n0_ n1_ n2_ n3_ n4_ n5_ n6_ n7_ n8_ n9_ n10_
                                    refine start_ (n := 8) (S := fun w' => w'.cell? ⟨gb145, 0, none⟩ = some (.int .i64 ((rd_T48 x4_3 t143).f0)) ∧ w'.cell? ⟨gb145, 1, none⟩ = some (.int .i64 ((rd_T48 x4_3 t143).f1)) ∧ w'.cell? ⟨gb145, 2, none⟩ = some (.slice A144_2 ((rd_T48 x4_3 t143).f2).length c144_2) ∧ w'.cell? ⟨gb151, 0, none⟩ = some (.int .i64 ((rd_T48 t146 t149).f0)) ∧ w'.cell? ⟨gb151, 1, none⟩ = some (.int .i64 ((rd_T48 t146 t149).f1)) ∧ w'.cell? ⟨gb151, 2, none⟩ = some (.slice A150_2 ((rd_T48 t146 t149).f2).length c150_2)) (ds := []) #[false, false, false, false, false, false, false, false] (by kernel_rfl) rfl rfl ⟨(blk_cell BK145.out 0).trans rfl, (blk_cell BK145.out 1).trans rfl, (blk_cell BK145.out 2).trans rfl, (blk_cell BK151.out 0).trans rfl, (blk_cell BK151.out 1).trans rfl, (blk_cell BK151.out 2).trans rfl⟩ (fun hHeld => ?_); refine with_tabW spec_l3Lens.tab20 spec_l3Lens.bits20 (fun HT_ HW_ => ?_)
                                    generalize w82.drew = w85 at HO_3 HO_4 HL144_2 HO148 HL150_2 HO154 BK145 BK151 HR144_2 HR150_2 HB hHeld ⊢
                                    refine pure_ (i := 1) (N := some 77) (v := ?_) (a' := ?_) #[false, true, false, false, false, false, false, false] rfl rfl (any_of HT_.out (by kernel_rfl)) (fun _ _ _ h => h) (Or.inl ⟨by rfl, ?_⟩) ?_ ?_
                                    rotate_left
                                    · intro w'
                                      go_simp
                                      with_reducible rfl
                                    rotate_left
                                    · simp only [Act.put, List.setIfInBounds_toArray, List.set_cons_zero, List.set_cons_succ, i64_w, i32_w]
                                      rfl
                                    refine pure_ (i := 4) (N := some 80) (v := ?_) (a' := ?_) #[false, true, false, false, true, false, false, false] rfl rfl (any_of HT_.out (by kernel_rfl)) (fun _ _ _ h => h) (Or.inl ⟨by rfl, ?_⟩) ?_ ?_
                                    rotate_left
                                    · intro w'
                                      go_simp
                                      with_reducible rfl
                                    rotate_left
                                    · simp only [Act.put, List.setIfInBounds_toArray, List.set_cons_zero, List.set_cons_succ, i64_w, i32_w]
                                      rfl
                                    refine take_ (i := 2) (N := some 78) (v := ?_) (a' := ?_) #[false, true, true, false, true, false, false, false] rfl rfl (take_ofW HT_.out HW_.out (by kernel_rfl)) (fun _ _ _ h => h) (Or.inl ⟨by rfl, ?_⟩) hHeld ?_ ?_
                                    rotate_left
                                    · rintro w' ⟨s0, s1, s2, s3, s4, s5⟩
                                      go_simp
                                      with_reducible rfl
                                    rotate_left
                                    · simp only [Act.put, List.setIfInBounds_toArray, List.set_cons_zero, List.set_cons_succ, i64_w, i32_w]
                                      rfl
                                    refine take_ (i := 5) (N := some 81) (v := ?_) (a' := ?_) #[false, true, true, false, true, true, false, false] rfl rfl (take_ofW HT_.out HW_.out (by kernel_rfl)) (fun _ _ _ h => h) (Or.inl ⟨by rfl, ?_⟩) hHeld ?_ ?_
                                    rotate_left
                                    · rintro w' ⟨s0, s1, s2, s3, s4, s5⟩
                                      go_simp
                                      with_reducible rfl
                                    rotate_left
                                    · simp only [Act.put, List.setIfInBounds_toArray, List.set_cons_zero, List.set_cons_succ, i64_w, i32_w]
                                      rfl
                                    refine one_ (i := 0) (N := some 76) #[true, true, true, false, true, true, false, false] rfl rfl (one_of HT_.out (by kernel_rfl)) (by decide) (fun K hK => ?_)
                                    refine Kd.R_lit_step (Kd.int .i64) _ 3 ?hg (N := 76) ?hd (xs := ([] : List Int)) (inner := []) (ok := fun _ => True) (okp := fun _ => True) ?hr ?hp (fun _ hk => hk) trivial (Below.refl _ _) (Nat.le_refl _) (by simp) ?_; (case hd => rfl); (case hg => rfl); (case hr => first | (go_simp; done) | (go_simp; rfl)); (case hp => exact (Reps.none _ _))
                                    intro v172 w86 ho87 hb hg_ hnew_
                                    clear hg_ hnew_
                                    (first | rw [← Ny171.out] at ho87 | (simp only [Int.reduceToNat] at ho87; rw [← Ny171.out] at ho87))
                                    have n0_ := Aside0.mk (Kd.R_elder' (by (with_reducible repeat (first | apply Kd.R_alloc | apply Kd.R_drewN | apply Kd.R_drew)); exact HO_3.out) (Kd.R_base ho87) hb)
                                    have n1_ := Aside0.mk (Kd.N_elder' (by (with_reducible repeat (first | apply Kd.N_alloc | apply Kd.N_drewN | apply Kd.N_drew)); exact HO_4.out) (Kd.R_base ho87) hb)
                                    have n2_ := Aside0.mk (Kd.V_elder' (by (with_reducible repeat (first | apply Kd.V_alloc | apply Kd.V_drewN | apply Kd.V_drew)); exact HL144_2.out) (Kd.R_base ho87) hb)
                                    have n3_ := Aside0.mk (Kd.N_elder' (by (with_reducible repeat (first | apply Kd.N_alloc | apply Kd.N_drewN | apply Kd.N_drew)); exact HO148.out) (Kd.R_base ho87) hb)
                                    have n4_ := Aside0.mk (Kd.V_elder' (by (with_reducible repeat (first | apply Kd.V_alloc | apply Kd.V_drewN | apply Kd.V_drew)); exact HL150_2.out) (Kd.R_base ho87) hb)
                                    have n5_ := Aside0.mk (Kd.N_elder' (by (with_reducible repeat (first | apply Kd.N_alloc | apply Kd.N_drewN | apply Kd.N_drew)); exact HO154.out) (Kd.R_base ho87) hb)
                                    have n6_ := Aside0.mk (Kd.R_lower (Kd.R_new' ho87 (Kd.R_lt (by (with_reducible repeat (first | apply Kd.R_alloc | apply Kd.R_drewN | apply Kd.R_drew)); exact HO_3.out))) (below_size (by repeat (first | (with_reducible first | exact HB.out | apply below_alloc | apply pw_below_drewN | apply below_drew1 | refine below_set ?_ GE145.out | refine below_set ?_ GE151.out) | exact HB.out))))
                                    have n7_ := Aside0.mk (Kd.C_below (by first | exact (Kd.V_reads' HL144_2.out).2.2 | repeat (first | (with_reducible exact HR144_2.out) | (with_reducible refine Kd.C_alloc ?_ _) | (with_reducible refine Kd.C_drewN ?_ _) | (with_reducible refine Kd.C_drew ?_) | exact HR144_2.out)) hb)
                                    have n8_ := Aside0.mk (blk_below (g := gb145) (o := .cells #[.int .i64 ((rd_T48 x4_3 t143).f0), .int .i64 ((rd_T48 x4_3 t143).f1), .slice A144_2 ((rd_T48 x4_3 t143).f2).length c144_2] 48 (0, 0)) (by (with_reducible repeat (first | refine blk_drewN ?_ _ | refine blk_drew ?_ | refine blk_alloc ?_ _)); exact BK145.out) hb)
                                    have n9_ := Aside0.mk (Kd.C_below (by first | exact (Kd.V_reads' HL150_2.out).2.2 | repeat (first | (with_reducible exact HR150_2.out) | (with_reducible refine Kd.C_alloc ?_ _) | (with_reducible refine Kd.C_drewN ?_ _) | (with_reducible refine Kd.C_drew ?_) | exact HR150_2.out)) hb)
                                    have n10_ := Aside0.mk (blk_below (g := gb151) (o := .cells #[.int .i64 ((rd_T48 t146 t149).f0), .int .i64 ((rd_T48 t146 t149).f1), .slice A150_2 ((rd_T48 t146 t149).f2).length c150_2] 48 (0, 0)) (by (with_reducible repeat (first | refine blk_drewN ?_ _ | refine blk_drew ?_ | refine blk_alloc ?_ _)); exact BK151.out) hb)
                                    have n11_ := Aside0.mk (below_step (by repeat (first | (with_reducible first | exact HB.out | apply below_alloc | apply pw_below_drewN | apply below_drew1 | refine below_set ?_ GE145.out | refine below_set ?_ GE151.out) | exact HB.out)) hb)
                                    clear HO_3
                                    clear HO_4
                                    clear HL144_2
                                    clear HO148
                                    clear HL150_2
                                    clear HO154
                                    clear HR144_2
                                    clear BK145
                                    clear HR150_2
                                    clear BK151
                                    clear HB
                                    have HO_3 := n0_
                                    have HO_4 := n1_
                                    have HL144_2 := n2_
                                    have HO148 := n3_
                                    have HL150_2 := n4_
                                    have HO154 := n5_
                                    have HO173 := n6_
                                    have HR144_2 := n7_
                                    have BK145 := n8_
                                    have HR150_2 := n9_
                                    have BK151 := n10_
                                    have HB := n11_
                                    clear n0_ n1_ n2_ n3_ n4_ n5_ n6_ n7_ n8_ n9_ n10_ n11_
                                    clear hb ho87
                                    refine hK.out _ _ ⟨(blk_cell BK145.out 0).trans rfl, (blk_cell BK145.out 1).trans rfl, (blk_cell BK145.out 2).trans rfl, (blk_cell BK151.out 0).trans rfl, (blk_cell BK151.out 1).trans rfl, (blk_cell BK151.out 2).trans rfl⟩ (fun hHeld => ?_)
                                    clear hK K
                                    refine norm_ (a' := ?_) ?_ ?_
                                    rotate_left
                                    · show Act.put _ (some 76) _ = _
                                      simp only [Act.put, List.setIfInBounds_toArray, List.set_cons_zero, List.set_cons_succ, i64_w, i32_w]
                                      rfl
                                    refine one_ (i := 3) (N := some 79) #[true, true, true, true, true, true, false, false] rfl rfl (one_of HT_.out (by kernel_rfl)) (by decide) (fun K hK => ?_)
                                    refine Kd.R_append_rows_step (Kd.int .i64) (w0 := w) w.heap.size (by rfl) (.tmp 76) (.tmp 78) 22 3 (.int .i64 0) 8 rfl Try.underlying22 info3 rfl (by decide) (by omega) v172 y171 ((rd_T48 x4_3 t143).f2) _ _ _ (fun k_ => some k_ ≠ (v128 : Value).ownBlock) (fun _ => False) rfl rfl ?aO ?aR (fun _ _ h => h) (fun _ h => h.elim) ?aF ?aB ?aS ?aL ?_
                                    (case aR => repeat (first | exact (by first | exact (Kd.V_reads' HL144_2.out).2.2 | repeat (first | (with_reducible exact HR144_2.out) | (with_reducible refine Kd.C_alloc ?_ _) | (with_reducible refine Kd.C_drewN ?_ _) | (with_reducible refine Kd.C_drew ?_) | exact HR144_2.out)) | (with_reducible refine Kd.C_alloc ?_ _) | (with_reducible refine Kd.C_drewN ?_ _) | (with_reducible refine Kd.C_drew ?_)))
                                    (case aB => exact (by repeat (first | (with_reducible first | exact HB.out | apply below_alloc | apply pw_below_drewN | apply below_drew1 | refine below_set ?_ GE145.out | refine below_set ?_ GE151.out) | exact HB.out)))
                                    (case aF => exact (fun k_ hk => Kd.fresh' (Kd.R_lt (by (with_reducible repeat (first | apply Kd.R_alloc | apply Kd.R_drewN | apply Kd.R_drew)); exact HO_3.out)) k_ hk))
                                    (case aO => exact (by (with_reducible repeat (first | apply Kd.R_alloc | apply Kd.R_drewN | apply Kd.R_drew)); exact Kd.R_mono HO173.out (fun _ hk => hk.2)))
                                    (case aS => exact (below_size (by repeat (first | (with_reducible first | exact HB.out | apply below_alloc | apply pw_below_drewN | apply below_drew1 | refine below_set ?_ GE145.out | refine below_set ?_ GE151.out) | exact HB.out))))
                                    (case aL => have := LMc70.out; omega)
                                    intro v175 w88 ho hb hg hat
                                    rw [← Ny174.out] at ho
                                    have n0_ := Aside0.mk (Kd.R_after (ok := (fun _ => True)) (by (with_reducible repeat (first | apply Kd.R_alloc | apply Kd.R_drewN | apply Kd.R_drew)); exact HO_3.out) hg hat)
                                    have n1_ := Aside0.mk (Kd.N_afterv (ok := (fun k_ => some k_ ≠ (v128 : Value).ownBlock ∧ some k_ ≠ (.slice (some ad150) t146.length co77 : Value).ownBlock ∧ some k_ ≠ (v153 : Value).ownBlock ∧ k_ ≠ gb145 ∧ k_ ≠ gb151)) (by (with_reducible repeat (first | apply Kd.N_alloc | apply Kd.N_drewN | apply Kd.N_drew)); exact Kd.N_mono HO_4.out (by first | exact (by first | exact (fun _ hk => ⟨⟨hk.1.1.1, ⟨hk.1.1.2.1, ⟨hk.1.2, ⟨hk.1.1.2.2.1, hk.1.1.2.2.2⟩⟩⟩⟩, hk.2⟩) | (intro k_ hk_; grind)) | (intro k_ hk_; grind))) hg hat)
                                    have n2_ := Aside0.mk (Kd.V_afterv (ok := (fun k_ => some k_ ≠ (v128 : Value).ownBlock ∧ some k_ ≠ (.slice (some ad144) x4_3.length co72 : Value).ownBlock ∧ some k_ ≠ (.slice (some ad150) t146.length co77 : Value).ownBlock ∧ some k_ ≠ (v153 : Value).ownBlock ∧ k_ ≠ gb145 ∧ k_ ≠ gb151)) (by (with_reducible repeat (first | apply Kd.V_alloc | apply Kd.V_drewN | apply Kd.V_drew)); exact Kd.V_mono HL144_2.out (by first | exact (by first | exact (fun _ hk => ⟨⟨hk.1.1.1, ⟨hk.1.1.2.1, ⟨hk.1.1.2.2.1, ⟨hk.1.2, ⟨hk.1.1.2.2.2.1, hk.1.1.2.2.2.2⟩⟩⟩⟩⟩, hk.2⟩) | (intro k_ hk_; grind)) | (intro k_ hk_; grind))) hg hat)
                                    have n3_ := Aside0.mk (blk_grown (g := gb145) (o := .cells #[.int .i64 ((rd_T48 x4_3 t143).f0), .int .i64 ((rd_T48 x4_3 t143).f1), .slice A144_2 ((rd_T48 x4_3 t143).f2).length c144_2] 48 (0, 0)) (by (with_reducible repeat (first | refine blk_drewN ?_ _ | refine blk_drew ?_ | refine blk_alloc ?_ _)); exact BK145.out) hg (Kd.R_ne HO173.out BK145.out (by decide)))
                                    have n4_ := Aside0.mk (Kd.N_afterv (ok := (fun k_ => some k_ ≠ (v128 : Value).ownBlock ∧ some k_ ≠ (v153 : Value).ownBlock ∧ k_ ≠ gb145 ∧ k_ ≠ gb151)) (by (with_reducible repeat (first | apply Kd.N_alloc | apply Kd.N_drewN | apply Kd.N_drew)); exact Kd.N_mono HO148.out (by first | exact (by first | exact (fun _ hk => ⟨⟨hk.1.1.1, ⟨hk.1.2, ⟨hk.1.1.2.1, hk.1.1.2.2⟩⟩⟩, hk.2⟩) | (intro k_ hk_; grind)) | (intro k_ hk_; grind))) hg hat)
                                    have n5_ := Aside0.mk (Kd.V_afterv (ok := (fun k_ => some k_ ≠ (v128 : Value).ownBlock ∧ some k_ ≠ (.slice (some ad150) t146.length co77 : Value).ownBlock ∧ some k_ ≠ (v153 : Value).ownBlock ∧ k_ ≠ gb145 ∧ k_ ≠ gb151)) (by (with_reducible repeat (first | apply Kd.V_alloc | apply Kd.V_drewN | apply Kd.V_drew)); exact Kd.V_mono HL150_2.out (by first | exact (by first | exact (fun _ hk => ⟨⟨hk.1.1.1, ⟨hk.1.1.2.1, ⟨hk.1.2, ⟨hk.1.1.2.2.1, hk.1.1.2.2.2⟩⟩⟩⟩, hk.2⟩) | (intro k_ hk_; grind)) | (intro k_ hk_; grind))) hg hat)
                                    have n6_ := Aside0.mk (blk_grown (g := gb151) (o := .cells #[.int .i64 ((rd_T48 t146 t149).f0), .int .i64 ((rd_T48 t146 t149).f1), .slice A150_2 ((rd_T48 t146 t149).f2).length c150_2] 48 (0, 0)) (by (with_reducible repeat (first | refine blk_drewN ?_ _ | refine blk_drew ?_ | refine blk_alloc ?_ _)); exact BK151.out) hg (Kd.R_ne HO173.out BK151.out (by decide)))
                                    have n7_ := Aside0.mk (Kd.N_afterv (ok := (fun k_ => some k_ ≠ (v128 : Value).ownBlock ∧ k_ ≠ gb145 ∧ k_ ≠ gb151)) (by (with_reducible repeat (first | apply Kd.N_alloc | apply Kd.N_drewN | apply Kd.N_drew)); exact HO154.out) hg hat)
                                    have n8_ := Aside0.mk (hb)
                                    have n9_ := Aside0.mk (ho)
                                    clear HO_3
                                    clear HO_4
                                    clear HL144_2
                                    clear BK145
                                    clear HO148
                                    clear HL150_2
                                    clear BK151
                                    clear HO154
                                    clear HB
                                    clear HO173
                                    have HO_3 := n0_
                                    have HO_4 := n1_
                                    have HL144_2 := n2_
                                    have BK145 := n3_
                                    have HO148 := n4_
                                    have HL150_2 := n5_
                                    have BK151 := n6_
                                    have HO154 := n7_
                                    have HB := n8_
                                    have HO176 := n9_
                                    clear n0_ n1_ n2_ n3_ n4_ n5_ n6_ n7_ n8_ n9_
                                    clear ho hb hg hat
                                    refine hK.out _ _ ⟨(blk_cell BK145.out 0).trans rfl, (blk_cell BK145.out 1).trans rfl, (blk_cell BK145.out 2).trans rfl, (blk_cell BK151.out 0).trans rfl, (blk_cell BK151.out 1).trans rfl, (blk_cell BK151.out 2).trans rfl⟩ (fun hHeld => ?_)
                                    clear hK K
                                    refine norm_ (a' := ?_) ?_ ?_
                                    rotate_left
                                    · show Act.put _ (some 79) _ = _
                                      simp only [Act.put, List.setIfInBounds_toArray, List.set_cons_zero, List.set_cons_succ, i64_w, i32_w]
                                      rfl
                                    refine one_ (i := 6) (N := some 82) #[true, true, true, true, true, true, true, false] rfl rfl (one_of HT_.out (by kernel_rfl)) (by decide) (fun K hK => ?_)
                                    refine Kd.R_append_rows_step (Kd.int .i64) (w0 := w) w.heap.size (by rfl) (.tmp 79) (.tmp 81) 22 3 (.int .i64 0) 8 rfl Try.underlying22 info3 rfl (by decide) (by omega) v175 y174 ((rd_T48 t146 t149).f2) _ _ _ (fun k_ => some k_ ≠ (v128 : Value).ownBlock) (fun _ => False) rfl rfl ?aO ?aR (fun _ _ h => h) (fun _ h => h.elim) ?aF ?aB ?aS ?aL ?_
                                    (case aR => repeat (first | exact ((Kd.V_reads' HL150_2.out).2.2) | (with_reducible refine Kd.C_alloc ?_ _) | (with_reducible refine Kd.C_drewN ?_ _) | (with_reducible refine Kd.C_drew ?_)))
                                    (case aB => exact (by repeat (first | (with_reducible first | exact HB.out | apply below_alloc | apply pw_below_drewN | apply below_drew1 | refine below_set ?_ GE145.out | refine below_set ?_ GE151.out) | exact HB.out)))
                                    (case aF => exact (fun k_ hk => Kd.fresh' (Kd.R_lt (by (with_reducible repeat (first | apply Kd.R_alloc | apply Kd.R_drewN | apply Kd.R_drew)); exact HO_3.out)) k_ hk))
                                    (case aO => exact (by (with_reducible repeat (first | apply Kd.R_alloc | apply Kd.R_drewN | apply Kd.R_drew)); exact HO176.out))
                                    (case aS => exact (below_size (by repeat (first | (with_reducible first | exact HB.out | apply below_alloc | apply pw_below_drewN | apply below_drew1 | refine below_set ?_ GE145.out | refine below_set ?_ GE151.out) | exact HB.out))))
                                    (case aL => have := LMc71.out; omega)
                                    intro v178 w89 ho hb hg hat
                                    rw [← Ny177.out] at ho
                                    have n0_ := Aside0.mk (Kd.R_after (ok := (fun _ => True)) (by (with_reducible repeat (first | apply Kd.R_alloc | apply Kd.R_drewN | apply Kd.R_drew)); exact HO_3.out) hg hat)
                                    have n1_ := Aside0.mk (Kd.N_afterv (ok := (fun k_ => some k_ ≠ (v128 : Value).ownBlock ∧ some k_ ≠ (.slice (some ad150) t146.length co77 : Value).ownBlock ∧ some k_ ≠ (v153 : Value).ownBlock ∧ k_ ≠ gb145 ∧ k_ ≠ gb151)) (by (with_reducible repeat (first | apply Kd.N_alloc | apply Kd.N_drewN | apply Kd.N_drew)); exact HO_4.out) hg hat)
                                    have n2_ := Aside0.mk (Kd.V_afterv (ok := (fun k_ => some k_ ≠ (v128 : Value).ownBlock ∧ some k_ ≠ (.slice (some ad144) x4_3.length co72 : Value).ownBlock ∧ some k_ ≠ (.slice (some ad150) t146.length co77 : Value).ownBlock ∧ some k_ ≠ (v153 : Value).ownBlock ∧ k_ ≠ gb145 ∧ k_ ≠ gb151)) (by (with_reducible repeat (first | apply Kd.V_alloc | apply Kd.V_drewN | apply Kd.V_drew)); exact HL144_2.out) hg hat)
                                    have n3_ := Aside0.mk (blk_grown (g := gb145) (o := .cells #[.int .i64 ((rd_T48 x4_3 t143).f0), .int .i64 ((rd_T48 x4_3 t143).f1), .slice A144_2 ((rd_T48 x4_3 t143).f2).length c144_2] 48 (0, 0)) (by (with_reducible repeat (first | refine blk_drewN ?_ _ | refine blk_drew ?_ | refine blk_alloc ?_ _)); exact BK145.out) hg (Kd.R_ne HO176.out BK145.out (by decide)))
                                    have n4_ := Aside0.mk (Kd.N_afterv (ok := (fun k_ => some k_ ≠ (v128 : Value).ownBlock ∧ some k_ ≠ (v153 : Value).ownBlock ∧ k_ ≠ gb145 ∧ k_ ≠ gb151)) (by (with_reducible repeat (first | apply Kd.N_alloc | apply Kd.N_drewN | apply Kd.N_drew)); exact HO148.out) hg hat)
                                    have n5_ := Aside0.mk (Kd.V_afterv (ok := (fun k_ => some k_ ≠ (v128 : Value).ownBlock ∧ some k_ ≠ (.slice (some ad150) t146.length co77 : Value).ownBlock ∧ some k_ ≠ (v153 : Value).ownBlock ∧ k_ ≠ gb145 ∧ k_ ≠ gb151)) (by (with_reducible repeat (first | apply Kd.V_alloc | apply Kd.V_drewN | apply Kd.V_drew)); exact HL150_2.out) hg hat)
                                    have n6_ := Aside0.mk (blk_grown (g := gb151) (o := .cells #[.int .i64 ((rd_T48 t146 t149).f0), .int .i64 ((rd_T48 t146 t149).f1), .slice A150_2 ((rd_T48 t146 t149).f2).length c150_2] 48 (0, 0)) (by (with_reducible repeat (first | refine blk_drewN ?_ _ | refine blk_drew ?_ | refine blk_alloc ?_ _)); exact BK151.out) hg (Kd.R_ne HO176.out BK151.out (by decide)))
                                    have n7_ := Aside0.mk (Kd.N_afterv (ok := (fun k_ => some k_ ≠ (v128 : Value).ownBlock ∧ k_ ≠ gb145 ∧ k_ ≠ gb151)) (by (with_reducible repeat (first | apply Kd.N_alloc | apply Kd.N_drewN | apply Kd.N_drew)); exact HO154.out) hg hat)
                                    have n8_ := Aside0.mk (hb)
                                    have n9_ := Aside0.mk (ho)
                                    clear HO_3
                                    clear HO_4
                                    clear HL144_2
                                    clear BK145
                                    clear HO148
                                    clear HL150_2
                                    clear BK151
                                    clear HO154
                                    clear HB
                                    clear HO176
                                    have HO_3 := n0_
                                    have HO_4 := n1_
                                    have HL144_2 := n2_
                                    have BK145 := n3_
                                    have HO148 := n4_
                                    have HL150_2 := n5_
                                    have BK151 := n6_
                                    have HO154 := n7_
                                    have HB := n8_
                                    have HO179 := n9_
                                    clear n0_ n1_ n2_ n3_ n4_ n5_ n6_ n7_ n8_ n9_
                                    clear ho hb hg hat
                                    refine hK.out _ _ ⟨(blk_cell BK145.out 0).trans rfl, (blk_cell BK145.out 1).trans rfl, (blk_cell BK145.out 2).trans rfl, (blk_cell BK151.out 0).trans rfl, (blk_cell BK151.out 1).trans rfl, (blk_cell BK151.out 2).trans rfl⟩ (fun hHeld => ?_)
                                    clear hK K
                                    refine norm_ (a' := ?_) ?_ ?_
                                    rotate_left
                                    · show Act.put _ (some 82) _ = _
                                      simp only [Act.put, List.setIfInBounds_toArray, List.set_cons_zero, List.set_cons_succ, i64_w, i32_w]
                                      rfl
                                    refine pure_ (i := 7) (N := some 10) (v := ?_) (a' := ?_) #[true, true, true, true, true, true, true, true] rfl rfl (any_of HT_.out (by kernel_rfl)) (fun _ _ _ h => h) (Or.inl ⟨by rfl, ?_⟩) ?_ ?_
                                    rotate_left
                                    · intro w'
                                      go_simp
                                      with_reducible rfl
                                    rotate_left
                                    · simp only [Act.put, List.setIfInBounds_toArray, List.set_cons_zero, List.set_cons_succ, i64_w, i32_w]
                                      rfl
                                    refine done_ (done_of HT_.out (by kernel_rfl)) ?_
                                    try go_wp2
                                    go_loopg [11] k3 (fun kq v11 w' => ∃ (x3_4 : List Int) (x11_4 : Int), v11 = .int .i64 x11_4 ∧ Aside0 (spec_l3Lens.l2 kq x3_4 t152 ((rd_T48 x4_3 t143).f1) y177 x11_4 ((rd_T48 x4_3 t143).f0) ((rd_T48 x4_3 t143).f1) ((rd_T48 x4_3 t143).f2) ((rd_T48 t146 t149).f0) ((rd_T48 t146 t149).f1) ((rd_T48 t146 t149).f2) = some r) ∧ Aside0 (kq ≤ k3) ∧ Aside0 (Kd.R (Kd.int .i64) 3 w' w.heap.size (fun k_ => some k_ ≠ (v178 : Value).ownBlock) v128 x3_4) ∧ Aside0 (Kd.N k48 48 w' w.heap.size (fun k_ => some k_ ≠ (v128 : Value).ownBlock ∧ some k_ ≠ (v178 : Value).ownBlock ∧ k_ ≠ gb145 ∧ k_ ≠ gb151) v153 t152) ∧ Aside0 (Kd.R (Kd.int .i64) 3 w' w.heap.size (fun k_ => some k_ ≠ (v128 : Value).ownBlock) v178 y177) ∧ Aside0 (w'.heap[gb145]? = some (.cells #[.int .i64 ((rd_T48 x4_3 t143).f0), .int .i64 ((rd_T48 x4_3 t143).f1), (.slice A144_2 ((rd_T48 x4_3 t143).f2).length c144_2)] 48 (0, 0))) ∧ Aside0 (w'.heap[gb151]? = some (.cells #[.int .i64 ((rd_T48 t146 t149).f0), .int .i64 ((rd_T48 t146 t149).f1), (.slice A150_2 ((rd_T48 t146 t149).f2).length c150_2)] 48 (0, 0))) ∧ Aside0 (Below w.heap.size w w'))
                                    case atStart => exact ⟨(x3_3), (0), (by first | rfl | (simp; done) | (simp [*]; done)), H', ⟨Nat.le_refl _⟩, ⟨by (with_reducible repeat (first | apply Kd.R_alloc | apply Kd.R_drewN | apply Kd.R_drew)); exact Kd.R_mono HO_3.out (fun _ hk => hk.2)⟩, ⟨by (with_reducible repeat (first | apply Kd.N_alloc | apply Kd.N_drewN | apply Kd.N_drew)); exact Kd.N_mono HO154.out (by first | exact (by first | exact (fun _ hk => ⟨hk.1.1, ⟨hk.2, ⟨hk.1.2.1, hk.1.2.2⟩⟩⟩) | (intro k_ hk_; grind)) | (intro k_ hk_; grind))⟩, ⟨by (with_reducible repeat (first | apply Kd.R_alloc | apply Kd.R_drewN | apply Kd.R_drew)); exact HO179.out⟩, ⟨by (with_reducible repeat (first | refine blk_drewN ?_ _ | refine blk_drew ?_ | refine blk_alloc ?_ _)); exact BK145.out⟩, ⟨by (with_reducible repeat (first | refine blk_drewN ?_ _ | refine blk_drew ?_ | refine blk_alloc ?_ _)); exact BK151.out⟩, ⟨by repeat (first | (with_reducible first | exact HB.out | apply below_alloc | apply pw_below_drewN | apply below_drew1 | refine below_set ?_ GE145.out | refine below_set ?_ GE151.out) | exact HB.out)⟩⟩
                                    case round =>
                                      clear H'
                                      try clear c1
                                      try clear p1
                                      try clear q1
                                      try clear hx1
                                      try clear c2
                                      try clear p2
                                      try clear q2
                                      try clear hx2
                                      try clear hf2
                                      try clear c3
                                      try clear c4
                                      try clear c5
                                      try clear p5
                                      try clear q5
                                      try clear hx5
                                      try clear hf5
                                      try clear c6
                                      try clear p6
                                      try clear c7
                                      try clear p13
                                      try clear q13
                                      try clear hx13
                                      try clear c14
                                      try clear p14
                                      try clear q14
                                      try clear hx14
                                      try clear c15
                                      try clear p15
                                      try clear q15
                                      try clear hx15
                                      try clear p16
                                      try clear q16
                                      try clear hx16
                                      try clear c18
                                      try clear c18b1
                                      try clear c19
                                      try clear c19b0
                                      try clear c19b1
                                      try clear c20
                                      try clear c20b0
                                      try clear c21
                                      try clear c21b0
                                      try clear p22
                                      try clear q22
                                      try clear hx22
                                      try clear hf22
                                      try clear c25
                                      try clear c25b0
                                      try clear c25b1
                                      try clear c27
                                      try clear c27b0
                                      try clear c28
                                      try clear c28b0
                                      try clear c31
                                      try clear c31b0
                                      try clear c32
                                      try clear c32b0
                                      try clear c34
                                      try clear c34b0
                                      try clear c35
                                      try clear c36
                                      try clear c37
                                      try clear c44
                                      try clear c55
                                      try clear c55b0
                                      try clear c56
                                      try clear c56b0
                                      try clear c57
                                      try clear c57b0
                                      try clear c58
                                      try clear c58b0
                                      try clear p59
                                      try clear q59
                                      try clear hx59
                                      try clear hf59
                                      try clear c64
                                      try clear p64
                                      try clear c66
                                      try clear c70
                                      try clear c71
                                      try clear c79
                                      try clear hcz39_0
                                      try clear hcz39_1
                                      try clear hcz39_2
                                      try clear hcz45_0
                                      try clear hcz45_1
                                      try clear hcz45_2
                                      try clear hcz48_0
                                      try clear hcz48_1
                                      try clear hcz48_2
                                      try clear hcz49_0
                                      try clear hcz49_1
                                      try clear hcz49_2
                                      try clear hcz67_0
                                      try clear hcz67_1
                                      try clear hcz67_2
                                      try clear hcz68_0
                                      try clear hcz68_1
                                      try clear hcz68_2
                                      try clear hcz74_0
                                      try clear hcz74_1
                                      try clear hcz74_2
                                      try clear hcz80_0
                                      try clear hcz80_1
                                      try clear hcz80_2
                                      try clear hcz83_0
                                      try clear hcz83_1
                                      try clear hcz83_2
                                      try clear hcz84_0
                                      try clear hcz84_1
                                      try clear hcz84_2
                                      try clear hfz39_0
                                      try clear hfz39_1
                                      try clear hfz39_2
                                      try clear hfz45_0
                                      try clear hfz45_1
                                      try clear hfz45_2
                                      try clear hfz48_0
                                      try clear hfz48_1
                                      try clear hfz48_2
                                      try clear hfz49_0
                                      try clear hfz49_1
                                      try clear hfz49_2
                                      try clear hfz67_0
                                      try clear hfz67_1
                                      try clear hfz67_2
                                      try clear hfz68_0
                                      try clear hfz68_1
                                      try clear hfz68_2
                                      try clear hfz74_0
                                      try clear hfz74_1
                                      try clear hfz74_2
                                      try clear hfz80_0
                                      try clear hfz80_1
                                      try clear hfz80_2
                                      try clear hfz83_0
                                      try clear hfz83_1
                                      try clear hfz83_2
                                      try clear hfz84_0
                                      try clear hfz84_1
                                      try clear hfz84_2
                                      try clear hx133_0
                                      try clear hx134_0
                                      try clear hx141_0
                                      try clear hx141_1
                                      try clear hx141_2
                                      try clear hx144_0
                                      try clear hx144_1
                                      try clear hx144_2
                                      try clear hx150_0
                                      try clear hx150_1
                                      try clear hx150_2
                                      try clear hx164_0
                                      try clear hx165_0
                                      try clear hx166_0
                                      try clear hx22_0
                                      try clear hx59_0
                                      try clear p1
                                      try clear p13
                                      try clear p133
                                      try clear p134
                                      try clear p14
                                      try clear p141
                                      try clear p144
                                      try clear p150
                                      try clear p164
                                      try clear p165
                                      try clear p166
                                      try clear p2
                                      try clear p22
                                      try clear p59
                                      try clear p6
                                      try clear q1
                                      try clear q13
                                      try clear q133
                                      try clear q134
                                      try clear q14
                                      try clear q141
                                      try clear q144
                                      try clear q150
                                      try clear q164
                                      try clear q165
                                      try clear q166
                                      try clear q2
                                      try clear q22
                                      try clear q59
                                      obtain ⟨x3_4, x11_4, rfl, HA, HK4, HO_3, HO_4, HO_10, BK145, BK151, HB⟩ := hrel
                                      cases gk with
                                      | zero => exact absurd HA.out (by simp [spec_l3Lens.l2])
                                      | succ k4 =>
                                        have H := HA.out
                                        clear HA
                                        simp only [spec_l3Lens.l2] at H
                                        by_cases c90 : x11_4 < (y177.length : Int)
                                        · rw [if_pos c90] at H
                                          have c90b0 : decide (x11_4 < (y177.length : Int)) = true := decide_eq_true c90
                                          clear c90
                                          by_cases c91 : 0 ≤ x11_4
                                          · rw [if_pos c91] at H
                                            have c91b0 : decide (0 ≤ x11_4) = true := decide_eq_true c91
                                            clear c91
                                            by_cases c92 : 0 ≤ (rd y177 x11_4)
                                            · rw [if_pos c92] at H
                                              have c92b0 : decide (0 ≤ (rd y177 x11_4)) = true := decide_eq_true c92
                                              clear c92
                                              by_cases c93 : (rd y177 x11_4) < (x3_4.length : Int)
                                              · rw [if_pos c93] at H
                                                have c93b0 : decide ((rd y177 x11_4) < (x3_4.length : Int)) = true := decide_eq_true c93
                                                clear c93
                                                obtain ⟨y167, hy167⟩ : ∃ y_ : List Int, y_ = (x3_4.set ((rd y177 x11_4) : Int).toNat (wrap64 ((rd x3_4 (rd y177 x11_4)) + 1))) := ⟨_, rfl⟩
                                                replace H : (spec_l3Lens.l2 k4 y167 t152 ((rd_T48 x4_3 t143).f1) y177 (wrap64 (x11_4 + 1)) ((rd_T48 x4_3 t143).f0) ((rd_T48 x4_3 t143).f1) ((rd_T48 x4_3 t143).f2) ((rd_T48 t146 t149).f0) ((rd_T48 t146 t149).f1) ((rd_T48 t146 t149).f2)) = some r := by first | (rw [hy167]; with_reducible exact H) | (have H2_ := (Option.bind_some _ _).symm.trans H; rw [hy167]; with_reducible exact H2_) | (have H2_ := (Option.bind_some _ _).symm.trans H; with_reducible exact H2_) | with_reducible exact H | (rw [hy167]; exact H) | exact H
                                                have Ny167 := Aside0.mk hy167
                                                clear hy167
                                                have H' := Aside0.mk H
                                                clear H
                                                obtain ⟨Ao95, co95, eo95⟩ := Kd.R_slice HO_10.out
                                                subst eo95
                                                try go_wp2
                                                have n0_ := Aside0.mk (Kd.R_drew HO_3.out)
                                                have n1_ := Aside0.mk (Kd.N_drew HO_4.out)
                                                have n2_ := Aside0.mk (Kd.R_drew HO_10.out)
                                                have n3_ := Aside0.mk (blk_drew BK145.out)
                                                have n4_ := Aside0.mk (blk_drew BK151.out)
                                                have n5_ := Aside0.mk (below_drew1 HB.out)
                                                clear HO_3
                                                clear HO_4
                                                clear HO_10
                                                clear BK145
                                                clear BK151
                                                clear HB
                                                have HO_3 := n0_
                                                have HO_4 := n1_
                                                have HO_10 := n2_
                                                have BK145 := n3_
                                                have BK151 := n4_
                                                have HB := n5_
                                                clear n0_ n1_ n2_ n3_ n4_ n5_
                                                have p164 : 0 ≤ (x11_4 : Int) := of_decide_eq_true (by first | (with_reducible assumption) | assumption)
                                                have q164 : x11_4 < (y177.length : Int) := of_decide_eq_true (by first | (with_reducible assumption) | assumption)
                                                obtain ⟨ad164, e164, hx164_0⟩ := Kd.at_int (Kd.R_reads' HO_10.out).2.2 x11_4 p164 q164
                                                cases e164
                                                replace p164 := eq_true p164
                                                replace q164 := eq_true q164
                                                have p165 : 0 ≤ (x11_4 : Int) := of_decide_eq_true (by first | (with_reducible assumption) | assumption)
                                                have q165 : x11_4 < (y177.length : Int) := of_decide_eq_true (by first | (with_reducible assumption) | assumption)
                                                obtain ⟨ad165, e165, hx165_0⟩ := Kd.at_int (Kd.R_reads' HO_10.out).2.2 x11_4 p165 q165
                                                obtain rfl : ad164 = ad165 := (by injection e165)
                                                replace p165 := eq_true p165
                                                replace q165 := eq_true q165
                                                obtain ⟨Ao97, co97, eo97⟩ := Kd.R_slice HO_3.out
                                                (first | subst eo97 | (injection eo97 with f1_ f2_ f3_; have f4_ := f1_.symm; have f5_ := f3_.symm; clear f1_ f2_ f3_; subst f4_; subst f5_))
                                                have p166 : 0 ≤ ((rd y177 x11_4) : Int) := of_decide_eq_true (by first | (with_reducible assumption) | assumption)
                                                have q166 : (rd y177 x11_4) < (x3_4.length : Int) := of_decide_eq_true (by first | (with_reducible assumption) | assumption)
                                                obtain ⟨ad166, e166, hx166_0⟩ := Kd.at_int (Kd.R_reads' HO_3.out).2.2 (rd y177 x11_4) p166 q166
                                                cases e166
                                                replace p166 := eq_true p166
                                                replace q166 := eq_true q166
                                                have p94 : 0 ≤ ((rd y177 x11_4) : Int) := of_decide_eq_true (by first | (with_reducible assumption) | assumption)
                                                have q94 : ((rd y177 x11_4) : Int) < ((x3_4.length : Int) : Int) := of_decide_eq_true (by first | (with_reducible assumption) | assumption)
                                                obtain ⟨go94, co94, eo94, gb94, gl94, cl94, HG94⟩ := Kd.R_form HO_3.out (by omega)
                                                (first | cases eo94 | (injection eo94 with ea_ en_ ec_; (first | subst ea_ | (injection ea_ with ea_; subst ea_)); subst ec_; clear en_))
                                                have GB94 := Aside0.mk gb94
                                                have GG94 := Aside0.mk HG94
                                                clear gb94 gl94 HG94
                                                (first | simp only [add_plain] at hx166_0 | skip)
                                                obtain ⟨hx94_0, hf94_0⟩ := Kd.R_celln 0 HO_3.out ((rd y177 x11_4) : Int) p94 q94
                                                replace p94 := eq_true p94
                                                replace q94 := eq_true q94
                                                have HP98 := Kd.R_putn HO_3.out ((rd y177 x11_4) : Int) (wrap64 ((rd x3_4 (rd y177 x11_4)) + 1))
                                                rw [← Ny167.out] at HP98
                                                have HQ98 := Aside0.mk HP98
                                                clear HP98
                                                refine start_ (n := 15) (S := fun w' => w'.cell? (ad164.add (x11_4).toNat) = some (.int .i64 (rd y177 x11_4)) ∧ w'.cell? (ad164.add (x11_4).toNat) = some (.int .i64 (rd y177 x11_4)) ∧ w'.cell? ⟨go94, ((rd y177 x11_4)).toNat, none⟩ = some (.int .i64 (rd x3_4 (rd y177 x11_4)))) (ds := [14]) #[false, false, false, false, false, false, false, false, false, false, false, false, false, false, false] (by kernel_rfl) rfl rfl ⟨hx164_0, hx165_0, hx166_0⟩ (fun hHeld => ?_); refine with_tabW spec_l3Lens.tab24 spec_l3Lens.bits24 (fun HT_ HW_ => ?_)
                                                generalize wr.drew = w96 at HO_3 HO_4 HO_10 BK145 BK151 HB GG94 HQ98 hf94_0 hx164_0 hx165_0 hx166_0 hx94_0 hHeld ⊢
                                                refine pure_ (i := 0) (N := some 89) (v := ?_) (a' := ?_) #[true, false, false, false, false, false, false, false, false, false, false, false, false, false, false] rfl rfl (any_of HT_.out (by kernel_rfl)) (fun _ _ _ h => h) (Or.inl ⟨by rfl, ?_⟩) ?_ ?_
                                                rotate_left
                                                · intro w'
                                                  go_simp
                                                  with_reducible rfl
                                                rotate_left
                                                · simp only [Act.put, List.setIfInBounds_toArray, List.set_cons_zero, List.set_cons_succ, i64_w, i32_w]
                                                  rfl
                                                refine pure_ (i := 1) (N := some 90) (v := ?_) (a' := ?_) #[true, true, false, false, false, false, false, false, false, false, false, false, false, false, false] rfl rfl (any_of HT_.out (by kernel_rfl)) (fun _ _ _ h => h) (Or.inl ⟨by rfl, ?_⟩) ?_ ?_
                                                rotate_left
                                                · intro w'
                                                  go_simp
                                                  with_reducible rfl
                                                rotate_left
                                                · simp only [Act.put, List.setIfInBounds_toArray, List.set_cons_zero, List.set_cons_succ, i64_w, i32_w]
                                                  rfl
                                                refine pure_ (i := 2) (N := some 91) (v := ?_) (a' := ?_) #[true, true, true, false, false, false, false, false, false, false, false, false, false, false, false] rfl rfl (any_of HT_.out (by kernel_rfl)) (fun _ _ _ h => h) (Or.inl ⟨by rfl, ?_⟩) ?_ ?_
                                                rotate_left
                                                · intro w'
                                                  go_simp
                                                  with_reducible rfl
                                                rotate_left
                                                · simp only [Act.put, List.setIfInBounds_toArray, List.set_cons_zero, List.set_cons_succ, i64_w, i32_w]
                                                  rfl
                                                refine pure_ (i := 3) (N := some 92) (v := ?_) (a' := ?_) #[true, true, true, true, false, false, false, false, false, false, false, false, false, false, false] rfl rfl (any_of HT_.out (by kernel_rfl)) (fun _ _ _ h => h) (Or.inl ⟨by rfl, ?_⟩) ?_ ?_
                                                rotate_left
                                                · intro w'
                                                  go_simp
                                                  with_reducible rfl
                                                rotate_left
                                                · simp only [Act.put, List.setIfInBounds_toArray, List.set_cons_zero, List.set_cons_succ, i64_w, i32_w]
                                                  rfl
                                                refine pure_ (i := 5) (N := some 94) (v := ?_) (a' := ?_) #[true, true, true, true, false, true, false, false, false, false, false, false, false, false, false] rfl rfl (any_of HT_.out (by kernel_rfl)) (fun _ _ _ h => h) (Or.inl ⟨by rfl, ?_⟩) ?_ ?_
                                                rotate_left
                                                · intro w'
                                                  go_simp
                                                  with_reducible rfl
                                                rotate_left
                                                · simp only [Act.put, List.setIfInBounds_toArray, List.set_cons_zero, List.set_cons_succ, i64_w, i32_w]
                                                  rfl
                                                refine pure_ (i := 6) (N := some 95) (v := ?_) (a' := ?_) #[true, true, true, true, false, true, true, false, false, false, false, false, false, false, false] rfl rfl (any_of HT_.out (by kernel_rfl)) (fun _ _ _ h => h) (Or.inl ⟨by rfl, ?_⟩) ?_ ?_
                                                rotate_left
                                                · intro w'
                                                  go_simp
                                                  with_reducible rfl
                                                rotate_left
                                                · simp only [Act.put, List.setIfInBounds_toArray, List.set_cons_zero, List.set_cons_succ, i64_w, i32_w]
                                                  rfl
                                                refine pure_ (i := 7) (N := some 96) (v := ?_) (a' := ?_) #[true, true, true, true, false, true, true, true, false, false, false, false, false, false, false] rfl rfl (any_of HT_.out (by kernel_rfl)) (fun _ _ _ h => h) (Or.inl ⟨by rfl, ?_⟩) ?_ ?_
                                                rotate_left
                                                · intro w'
                                                  go_simp
                                                  with_reducible rfl
                                                rotate_left
                                                · simp only [Act.put, List.setIfInBounds_toArray, List.set_cons_zero, List.set_cons_succ, i64_w, i32_w]
                                                  rfl
                                                refine pure_ (i := 8) (N := some 97) (v := ?_) (a' := ?_) #[true, true, true, true, false, true, true, true, true, false, false, false, false, false, false] rfl rfl (any_of HT_.out (by kernel_rfl)) (fun _ _ _ h => h) (Or.inl ⟨by rfl, ?_⟩) ?_ ?_
                                                rotate_left
                                                · intro w'
                                                  go_simp
                                                  with_reducible rfl
                                                rotate_left
                                                · simp only [Act.put, List.setIfInBounds_toArray, List.set_cons_zero, List.set_cons_succ, i64_w, i32_w]
                                                  rfl
                                                refine take_ (i := 4) (N := some 93) (v := ?_) (a' := ?_) #[true, true, true, true, true, true, true, true, true, false, false, false, false, false, false] rfl rfl (take_ofW HT_.out HW_.out (by kernel_rfl)) (fun _ _ _ h => h) (Or.inl ⟨by rfl, ?_⟩) hHeld ?_ ?_
                                                rotate_left
                                                · rintro w' ⟨s0, s1, s2⟩
                                                  go_simp
                                                  with_reducible rfl
                                                rotate_left
                                                · simp only [Act.put, List.setIfInBounds_toArray, List.set_cons_zero, List.set_cons_succ, i64_w, i32_w]
                                                  rfl
                                                refine take_ (i := 9) (N := some 98) (v := ?_) (a' := ?_) #[true, true, true, true, true, true, true, true, true, true, false, false, false, false, false] rfl rfl (take_ofW HT_.out HW_.out (by kernel_rfl)) (fun _ _ _ h => h) (Or.inl ⟨by rfl, ?_⟩) hHeld ?_ ?_
                                                rotate_left
                                                · rintro w' ⟨s0, s1, s2⟩
                                                  go_simp
                                                  with_reducible rfl
                                                rotate_left
                                                · simp only [Act.put, List.setIfInBounds_toArray, List.set_cons_zero, List.set_cons_succ, i64_w, i32_w]
                                                  rfl
                                                refine pure_ (i := 10) (N := some 99) (v := ?_) (a' := ?_) #[true, true, true, true, true, true, true, true, true, true, true, false, false, false, false] rfl rfl (any_of HT_.out (by kernel_rfl)) (fun _ _ _ h => h) (Or.inl ⟨by rfl, ?_⟩) ?_ ?_
                                                rotate_left
                                                · intro w'
                                                  go_simp
                                                  with_reducible rfl
                                                rotate_left
                                                · simp only [Act.put, List.setIfInBounds_toArray, List.set_cons_zero, List.set_cons_succ, i64_w, i32_w]
                                                  rfl
                                                refine take_ (i := 11) (N := some 100) (v := ?_) (a' := ?_) #[true, true, true, true, true, true, true, true, true, true, true, true, false, false, false] rfl rfl (take_ofW HT_.out HW_.out (by kernel_rfl)) (fun _ _ _ h => h) (Or.inl ⟨by rfl, ?_⟩) hHeld ?_ ?_
                                                rotate_left
                                                · rintro w' ⟨s0, s1, s2⟩
                                                  go_simp
                                                  with_reducible rfl
                                                rotate_left
                                                · simp only [Act.put, List.setIfInBounds_toArray, List.set_cons_zero, List.set_cons_succ, i64_w, i32_w]
                                                  rfl
                                                refine pure_ (i := 12) (N := some 101) (v := ?_) (a' := ?_) #[true, true, true, true, true, true, true, true, true, true, true, true, true, false, false] rfl rfl (any_of HT_.out (by kernel_rfl)) (fun _ _ _ h => h) (Or.inl ⟨by rfl, ?_⟩) ?_ ?_
                                                rotate_left
                                                · intro w'
                                                  go_simp
                                                  with_reducible rfl
                                                rotate_left
                                                · simp only [Act.put, List.setIfInBounds_toArray, List.set_cons_zero, List.set_cons_succ, i64_w, i32_w]
                                                  rfl
                                                refine pure_ (i := 13) (N := some 102) (v := ?_) (a' := ?_) #[true, true, true, true, true, true, true, true, true, true, true, true, true, true, false] rfl rfl (any_of HT_.out (by kernel_rfl)) (fun _ _ _ h => h) (Or.inl ⟨by rfl, ?_⟩) ?_ ?_
                                                rotate_left
                                                · intro w'
                                                  go_simp
                                                  with_reducible rfl
                                                rotate_left
                                                · simp only [Act.put, List.setIfInBounds_toArray, List.set_cons_zero, List.set_cons_succ, i64_w, i32_w]
                                                  rfl
                                                refine last_ (i := 14) (N := none) #[true, true, true, true, true, true, true, true, true, true, true, true, true, true, true] rfl rfl (one_of HT_.out (by kernel_rfl)) (by decide) (fun K hK => ?_)
                                                refine skip_ (w1 := ?_) (by rfl) rfl ?_ ?_
                                                rotate_left
                                                · go_simp
                                                  rfl
                                                refine hK.out _ _ ?_
                                                clear hK K
                                                refine done_ (done_of HT_.out (by kernel_rfl)) ?_
                                                try go_wp2
                                                go_roundg k4
                                                case measure => have := HK1.out; have := HJ15.out; have := HK3.out; have := HK4.out; omega
                                                case rel => exact ⟨(y167), (wrap64 (x11_4 + 1)), (by first | rfl | (simp; done) | (simp [*]; done)), H', ⟨by have := HK1.out; have := HJ15.out; have := HK3.out; have := HK4.out; omega⟩, ⟨by (with_reducible repeat (first | apply Kd.R_alloc | apply Kd.R_drewN | apply Kd.R_drew)); exact HQ98.out⟩, ⟨by (with_reducible repeat (first | apply Kd.N_alloc | apply Kd.N_drewN | apply Kd.N_drew)); exact Kd.N_mono (Kd.N_far (p := ⟨go94, ((rd y177 x11_4) : Int).toNat, none⟩) (Kd.N_mono HO_4.out (fun k_ hk => (⟨hk, fun e_ => hk.1 (by rw [e_]; rfl)⟩ : _ ∧ k_ ≠ go94))) (fun _ hk => hk.2) (.int .i64 (wrap64 ((rd x3_4 (rd y177 x11_4)) + 1)))) (by first | exact (by first | exact (fun _ hk => ⟨hk.1.1, ⟨hk.1.2.1, ⟨hk.1.2.2.1, hk.1.2.2.2⟩⟩⟩) | (intro k_ hk_; grind)) | (intro k_ hk_; grind))⟩, ⟨by (with_reducible repeat (first | apply Kd.R_alloc | apply Kd.R_drewN | apply Kd.R_drew)); exact Kd.R_mono (Kd.R_far (p := ⟨go94, ((rd y177 x11_4) : Int).toNat, none⟩) (Kd.R_mono HO_10.out (fun k_ hk => (⟨hk, fun e_ => hk (by rw [e_]; rfl)⟩ : _ ∧ k_ ≠ go94))) (fun _ hk => hk.2) (.int .i64 (wrap64 ((rd x3_4 (rd y177 x11_4)) + 1)))) (fun _ hk => hk.1)⟩, ⟨by (with_reducible repeat (first | refine blk_drewN ?_ _ | refine blk_drew ?_ | refine blk_alloc ?_ _)); refine blk_far ?_ (by have h_ := Kd.R_ne HO_3.out BK145.out (by decide); intro e_; exact h_ (by rw [e_]; rfl)) _; (with_reducible repeat (first | refine blk_drewN ?_ _ | refine blk_drew ?_ | refine blk_alloc ?_ _)); exact BK145.out⟩, ⟨by (with_reducible repeat (first | refine blk_drewN ?_ _ | refine blk_drew ?_ | refine blk_alloc ?_ _)); refine blk_far ?_ (by have h_ := Kd.R_ne HO_3.out BK151.out (by decide); intro e_; exact h_ (by rw [e_]; rfl)) _; (with_reducible repeat (first | refine blk_drewN ?_ _ | refine blk_drew ?_ | refine blk_alloc ?_ _)); exact BK151.out⟩, ⟨by repeat (first | (with_reducible first | exact HB.out | apply below_alloc | apply pw_below_drewN | apply below_drew1 | refine below_set ?_ GB94.out | refine below_set ?_ GE145.out | refine below_set ?_ GE151.out) | exact HB.out)⟩⟩
                                              · rw [if_neg c93] at H
                                                exact absurd H (by simp)
                                            · rw [if_neg c92] at H
                                              exact absurd H (by simp)
                                          · rw [if_neg c91] at H
                                            exact absurd H (by simp)
                                        · rw [if_neg c90] at H
                                          have c90b0 : decide (x11_4 < (y177.length : Int)) = false := decide_eq_false c90
                                          clear c90
                                          by_cases c99 : t152.length < 3518437208883
                                          · rw [if_pos c99] at H
                                            have LMc99 := Aside0.mk c99
                                            clear c99
                                            obtain ⟨y168, hy168⟩ : ∃ y_ : List (S48), y_ = (t152 ++ [(⟨wrap64 (((rd_T48 x4_3 t143).f0) + ((rd_T48 t146 t149).f0)), ((rd_T48 x4_3 t143).f1), y177⟩ : S48)]) := ⟨_, rfl⟩
                                            replace H : (spec_l3Lens.l1 k4 x3_4 y168) = some r := by first | (rw [hy168]; with_reducible exact H) | (have H2_ := (Option.bind_some _ _).symm.trans H; rw [hy168]; with_reducible exact H2_) | (have H2_ := (Option.bind_some _ _).symm.trans H; with_reducible exact H2_) | with_reducible exact H | (rw [hy168]; exact H) | exact H
                                            have Ny168 := Aside0.mk hy168
                                            clear hy168
                                            have H' := Aside0.mk H
                                            clear H
                                            obtain ⟨Ao100, co100, eo100⟩ := Kd.R_slice HO_10.out
                                            subst eo100
                                            have hnb101 := NB145_151.out
                                            have hnc101 := NB151_145.out
                                            have hcz102_0 : wr.cell? ⟨gb145, 0, none⟩ = some (.int .i64 ((rd_T48 x4_3 t143).f0)) := (blk_cell BK145.out 0).trans rfl
                                            have hcz102_1 : wr.cell? ⟨gb145, 1, none⟩ = some (.int .i64 ((rd_T48 x4_3 t143).f1)) := (blk_cell BK145.out 1).trans rfl
                                            have hcz102_2 : wr.cell? ⟨gb145, 2, none⟩ = some (.slice A144_2 ((rd_T48 x4_3 t143).f2).length c144_2) := (blk_cell BK145.out 2).trans rfl
                                            have hfz102_0 := blk_frozen BK145.out 0
                                            have hfz102_1 := blk_frozen BK145.out 1
                                            have hfz102_2 := blk_frozen BK145.out 2
                                            have hcz103_0 : wr.cell? ⟨gb151, 0, none⟩ = some (.int .i64 ((rd_T48 t146 t149).f0)) := (blk_cell BK151.out 0).trans rfl
                                            have hcz103_1 : wr.cell? ⟨gb151, 1, none⟩ = some (.int .i64 ((rd_T48 t146 t149).f1)) := (blk_cell BK151.out 1).trans rfl
                                            have hcz103_2 : wr.cell? ⟨gb151, 2, none⟩ = some (.slice A150_2 ((rd_T48 t146 t149).f2).length c150_2) := (blk_cell BK151.out 2).trans rfl
                                            have hfz103_0 := blk_frozen BK151.out 0
                                            have hfz103_1 := blk_frozen BK151.out 1
                                            have hfz103_2 := blk_frozen BK151.out 2
                                            go_wp2_with (first | ((with_reducible refine gate_builtin (b := .append) (xs := #[.tmp 103, .tmp 112]) rfl ?_); at_builtin; refine Kd.N_append k48 (w0 := w) w.heap.size rfl (.tmp 103) (.tmp 112) 46 48 (.agg #[(.int .i64 0), (.int .i64 0), (.slice none 0 0)]) 40 rfl Try.underlying46 info48 rfl (by decide) (by omega) v153 t152 (⟨wrap64 (((rd_T48 x4_3 t143).f0) + ((rd_T48 t146 t149).f0)), ((rd_T48 x4_3 t143).f1), y177⟩ : S48) [.int .i64 (wrap64 (((rd_T48 x4_3 t143).f0) + ((rd_T48 t146 t149).f0))), .int .i64 ((rd_T48 x4_3 t143).f1), .slice Ao100 y177.length co100] (fun k_ => some k_ ≠ (v128 : Value).ownBlock ∧ k_ ≠ gb145 ∧ k_ ≠ gb151) (fun k_ => ((fun k_ => some k_ ≠ (v128 : Value).ownBlock ∧ k_ ≠ gb145 ∧ k_ ≠ gb151)) k_ ∧ some k_ ≠ (v153 : Value).ownBlock) rfl rfl ?aP (fun _ hk => hk) ?aF ?aO ?aB ?aS ?aL ?_; (case aP => exact (k48_mkF _ _ (⟨wrap64 (((rd_T48 x4_3 t143).f0) + ((rd_T48 t146 t149).f0)), ((rd_T48 x4_3 t143).f1), y177⟩ : S48) (Kd.R_reads' (Kd.R_mono (ok' := (fun k_ => ((fun k_ => some k_ ≠ (v128 : Value).ownBlock ∧ k_ ≠ gb145 ∧ k_ ≠ gb151)) k_ ∧ some k_ ≠ (v153 : Value).ownBlock)) (Kd.R_types (Kd.R_types (Kd.R_apart' (HO_10.out) (Kd.N_typed HO_4.out) (by decide)) BK145.out (by decide)) BK151.out (by decide)) (by first | exact (by first | exact (fun k_ hk => ⟨⟨hk.1.1.1, ⟨hk.1.2, hk.2⟩⟩, hk.1.1.2⟩) | (intro k_ hk_; grind)) | (intro k_ hk_; grind)))).2.1 (Kd.R_F (Kd.R_mono (ok' := (fun k_ => ((fun k_ => some k_ ≠ (v128 : Value).ownBlock ∧ k_ ≠ gb145 ∧ k_ ≠ gb151)) k_ ∧ some k_ ≠ (v153 : Value).ownBlock)) (Kd.R_types (Kd.R_types (Kd.R_apart' (HO_10.out) (Kd.N_typed HO_4.out) (by decide)) BK145.out (by decide)) BK151.out (by decide)) (by first | exact (by first | exact (fun k_ hk => ⟨⟨hk.1.1.1, ⟨hk.1.2, hk.2⟩⟩, hk.1.1.2⟩) | (intro k_ hk_; grind)) | (intro k_ hk_; grind)))))); (case aB => exact (by repeat (first | (with_reducible first | exact HB.out | apply below_alloc | apply pw_below_drewN | apply below_drew1 | refine below_set ?_ GE145.out | refine below_set ?_ GE151.out) | exact HB.out))); (case aF => exact (fun k_ hk => ⟨Kd.fresh' (Kd.R_lt (by (with_reducible repeat (first | apply Kd.R_alloc | apply Kd.R_drewN | apply Kd.R_drew)); exact HO_3.out)) k_ hk, Kd.freshB (g := gb145) (o := .cells #[.int .i64 ((rd_T48 x4_3 t143).f0), .int .i64 ((rd_T48 x4_3 t143).f1), .slice A144_2 ((rd_T48 x4_3 t143).f2).length c144_2] 48 (0, 0)) (by (with_reducible repeat (first | refine blk_drewN ?_ _ | refine blk_drew ?_ | refine blk_alloc ?_ _)); exact BK145.out) k_ hk, Kd.freshB (g := gb151) (o := .cells #[.int .i64 ((rd_T48 t146 t149).f0), .int .i64 ((rd_T48 t146 t149).f1), .slice A150_2 ((rd_T48 t146 t149).f2).length c150_2] 48 (0, 0)) (by (with_reducible repeat (first | refine blk_drewN ?_ _ | refine blk_drew ?_ | refine blk_alloc ?_ _)); exact BK151.out) k_ hk⟩)); (case aO => exact (by (with_reducible repeat (first | apply Kd.N_alloc | apply Kd.N_drewN | apply Kd.N_drew)); exact Kd.N_mono HO_4.out (by first | exact (by first | exact (fun _ hk => ⟨hk.1, ⟨hk.2.2.1, hk.2.2.2⟩⟩) | (intro k_ hk_; grind)) | (intro k_ hk_; grind)))); (case aS => exact (below_size (by repeat (first | (with_reducible first | exact HB.out | apply below_alloc | apply pw_below_drewN | apply below_drew1 | refine below_set ?_ GE145.out | refine below_set ?_ GE151.out) | exact HB.out)))); (case aL => have := LMc99.out; omega); intro v169 w104 ho hb hg hat; rw [← Ny168.out] at ho; have n0_ := Aside0.mk (Kd.R_over' (by (with_reducible repeat (first | apply Kd.R_alloc | apply Kd.R_drewN | apply Kd.R_drew)); exact HO_3.out) (Kd.N_typed (by (with_reducible repeat (first | apply Kd.N_alloc | apply Kd.N_drewN | apply Kd.N_drew)); exact HO_4.out)) (by decide) hg); have n1_ := Aside0.mk (blk_grown (g := gb145) (o := .cells #[.int .i64 ((rd_T48 x4_3 t143).f0), .int .i64 ((rd_T48 x4_3 t143).f1), .slice A144_2 ((rd_T48 x4_3 t143).f2).length c144_2] 48 (0, 0)) (by (with_reducible repeat (first | refine blk_drewN ?_ _ | refine blk_drew ?_ | refine blk_alloc ?_ _)); exact BK145.out) hg (Kd.N_away HO_4.out (fun _ hk => hk.2.2.1))); have n2_ := Aside0.mk (blk_grown (g := gb151) (o := .cells #[.int .i64 ((rd_T48 t146 t149).f0), .int .i64 ((rd_T48 t146 t149).f1), .slice A150_2 ((rd_T48 t146 t149).f2).length c150_2] 48 (0, 0)) (by (with_reducible repeat (first | refine blk_drewN ?_ _ | refine blk_drew ?_ | refine blk_alloc ?_ _)); exact BK151.out) hg (Kd.N_away HO_4.out (fun _ hk => hk.2.2.2))); have n3_ := Aside0.mk (hb); have n4_ := Aside0.mk (ho); clear HO_3; clear BK145; clear BK151; clear HB; clear HO_4; clear HO_10; have HO_3 := n0_; have BK145 := n1_; have BK151 := n2_; have HB := n3_; have HO170 := n4_; clear n0_ n1_ n2_ n3_ n4_; clear ho hb hg hat))
                                            go_roundg k4
                                            case measure => have := HK1.out; have := HJ15.out; have := HK3.out; have := HK4.out; omega
                                            case rel => exact ⟨(x3_4), (y168), H', ⟨by have := HK1.out; have := HJ15.out; have := HK3.out; have := HK4.out; omega⟩, ⟨by (with_reducible repeat (first | apply Kd.R_alloc | apply Kd.R_drewN | apply Kd.R_drew)); exact Kd.R_mono HO_3.out (fun _ hk => trivial)⟩, ⟨by (with_reducible repeat (first | apply Kd.N_alloc | apply Kd.N_drewN | apply Kd.N_drew)); exact Kd.N_mono HO170.out (fun _ hk => hk.1)⟩, ⟨by repeat (first | (with_reducible first | exact HB.out | apply below_alloc | apply pw_below_drewN | apply below_drew1 | refine below_set ?_ GE145.out | refine below_set ?_ GE151.out) | exact HB.out)⟩⟩
                                          · rw [if_neg c99] at H
                                            exact absurd H (by simp)
                                  · rw [if_neg c71] at H
                                    exact absurd H (by simp)
                                · rw [if_neg c70] at H
                                  exact absurd H (by simp)
                            · rw [if_neg c32] at H
                              exact absurd H (by simp)
                          · rw [if_neg c31] at H
                            exact absurd H (by simp)
                        · rw [if_neg c28] at H
                          exact absurd H (by simp)
                      · rw [if_neg c27] at H
                        exact absurd H (by simp)
                    · rw [if_neg c25] at H
                      have c25b0 : decide (1 < (x4_3.length : Int)) = false := decide_eq_false c25
                      have c25b1 : decide (1 < x4_3.length) = false := decide_eq_false (by omega)
                      clear c25
                      obtain rfl := Option.some.inj H
                      obtain ⟨Ao105, co105, eo105⟩ := Kd.N_slice HO_4.out
                      subst eo105
                      go_wp2
                      go_ret
                      exact ⟨_, by first | rfl | (simp [errW_none, errW_some] <;> rfl) | (simp [*, errW_none, errW_some] <;> rfl), by (with_reducible repeat (first | apply Kd.R_alloc | apply Kd.R_drewN | apply Kd.R_drew)); exact HO_3.out, by repeat (first | (with_reducible first | exact HB.out | apply below_alloc | apply pw_below_drewN | apply below_drew1) | exact HB.out)⟩
    · rw [if_neg c3] at H
      exact absurd H (by simp)
  · rw [if_neg c2] at H
    exact absurd H (by simp)

end Go.Proofs.Ytdenepapeoiiiaa.PAll
