-- Written by a program of this session, over the kit's print. Not trusted: Lean checks it.
import Derived.Test.YtfpbdojbnomnmaaPAllx0
import Derived.Test.YtfpbdojbnomnmaaPAllx1
import Derived.Test.YtfpbdojbnomnmaaPAllx5
import Derived.Test.YtfpbdojbnomnmaaPAllx7
namespace Go.Proofs.Ytfpbdojbnomnmaa.PAll
open Go.RowKit Go.Proofs.YtfpbdojbnomnmaaW.PrintWords Go.Proofs.YtfpbdojbnomnmaaW.PrintLast Go.Proofs.YtfpbdojbnomnmaaW.PrintMore
attribute [local go_sem] max2_int min2_int max_two min_two max_three min_three max_four min_four   -- for this text's walks alone
set_option linter.unusedVariables false
set_option linter.unusedSimpArgs false

/-! ### spec_l11Pieces: function 68 -/
def spec_l11Pieces.l0 : Nat → List (S47) → Int → List Int → Int → Option ((List (S47)) × Int)
  | 0, _, _, _, _ => none
  | k + 1, x3, x4, x1000, x1001 => if x4 > 0 then ((spec_l1Rd_pick.f k x1000 x1001 17).bind fun bt275 => ((spec_l1Rd_pick.f k x1000 bt275.2 256).bind fun bt277 => ((spec_l1Rd_pick.f k x1000 bt277.2 256).bind fun bt279 => ((spec_l1Pow.f k bt275.1).bind fun t281 => (if t281 = 0 then (none) else (if x3.length < 8796093022208 then (spec_l11Pieces.l0 k (x3 ++ [(⟨Int.tmod (wrap64 ((wrap64 (bt277.1 * 256)) + bt279.1)) t281, bt275.1⟩ : S47)]) (wrap64 (x4 - 1)) x1000 bt279.2) else (none))))))) else (some (x3, x1001))
def spec_l11Pieces.f (k : Nat) (s0_0 : List Int) (s0_1 : Int) : Option ((List (S47)) × Int) := (spec_l1Rd_pick.f k s0_0 s0_1 12).bind fun bt273 => (spec_l11Pieces.l0 k (([] : List (S47))) bt273.1 s0_0 bt273.2)
theorem spec_l11Pieces.mono_l : ∀ k, (∀ y0 y1 y2 y3, LeO (spec_l11Pieces.l0 k y0 y1 y2 y3) (spec_l11Pieces.l0 (k + 1) y0 y1 y2 y3))
  | 0 => fun _ _ _ _ r h => by simp [spec_l11Pieces.l0] at h
  | k + 1 => by
    have ih0 := spec_l11Pieces.mono_l k
    · intro y0 y1 y2 y3
      unfold spec_l11Pieces.l0
      repeat' first
      | (with_reducible exact ih0 _ _ _ _)
      | (with_reducible exact spec_l1Pow.mono _ _)
      | (with_reducible exact spec_l1Rd_pick.mono _ _ _ _)
      | (with_reducible exact LeO.refl _)
      | (with_reducible exact LeO.none _)
      | (with_reducible refine LeO.ite ?_ ?_)
      | (with_reducible refine LeO.bind ?_ (fun _ => ?_))
      | exact ih0 _ _ _ _
      | exact spec_l1Pow.mono _ _
      | exact spec_l1Rd_pick.mono _ _ _ _
      | exact LeO.none _
      | refine LeO.ite ?_ ?_
      | refine LeO.bind ?_ (fun _ => ?_)
theorem spec_l11Pieces.mono : ∀ a0 a1 k, LeO (spec_l11Pieces.f k a0 a1) (spec_l11Pieces.f (k + 1) a0 a1) := by
  intro a0 a1 k
  have ih0 := spec_l11Pieces.mono_l k
  unfold spec_l11Pieces.f
  repeat' first
      | (with_reducible exact ih0 _ _ _ _)
      | (with_reducible exact spec_l1Pow.mono _ _)
      | (with_reducible exact spec_l1Rd_pick.mono _ _ _ _)
      | (with_reducible exact LeO.refl _)
      | (with_reducible exact LeO.none _)
      | (with_reducible refine LeO.ite ?_ ?_)
      | (with_reducible refine LeO.bind ?_ (fun _ => ?_))
      | exact ih0 _ _ _ _
      | exact spec_l1Pow.mono _ _
      | exact spec_l1Rd_pick.mono _ _ _ _
      | exact LeO.none _
      | refine LeO.ite ?_ ?_
      | refine LeO.bind ?_ (fun _ => ?_)
set_option maxHeartbeats 8000000 in
set_option maxRecDepth 100000 in
theorem spec_l11Pieces.calls (k : Nat) (g : Nat) (s0_0 : List Int) (s0_1 : Int) (r1 : List (S47)) (r2 : Int) (w0 w : World) (hI : IsS92 w0 w g s0_0 s0_1) (hB : Below w0.heap.size w0 w) (h : spec_l11Pieces.f k s0_0 s0_1 = some (r1, r2)) :
    Calls Try.prog 68 #[.pointer (some ⟨g, 0, none⟩)] w fun e w' => ∃ v0_ : Value, e = .returned (v0_) ∧ Kd.R k47 47 w' w.heap.size (fun _ => True) v0_ r1 ∧ IsS92 w0 w' g s0_0 r2 ∧ Below w0.heap.size w0 w' ∧ KeepBut w w' g none := by
  have hu47 := Try.underlying47
  have HI0 := Aside0.mk hI
  have HK := Aside0.mk (KeepBut.refl w g none)
  have HL := Aside0.mk hB.size
  clear hI
  have HW0 := Aside0.mk hB.size
  have HB := Aside0.mk hB
  clear hB
  have H : ((spec_l1Rd_pick.f k s0_0 s0_1 12).bind fun bt273 => (spec_l11Pieces.l0 k (([] : List (S47))) bt273.1 s0_0 bt273.2)) = some (r1, r2) := h
  clear h
  obtain ⟨y270, hy270⟩ : ∃ y_ : List (S47), y_ = (([] : List (S47))) := ⟨_, rfl⟩
  replace H : ((spec_l1Rd_pick.f k s0_0 s0_1 12).bind fun bt273 => (spec_l11Pieces.l0 k y270 bt273.1 s0_0 bt273.2)) = some (r1, r2) := by first | (rw [hy270]; with_reducible exact H) | (have H2_ := (Option.bind_some _ _).symm.trans H; rw [hy270]; with_reducible exact H2_) | (have H2_ := (Option.bind_some _ _).symm.trans H; with_reducible exact H2_) | with_reducible exact H | (rw [hy270]; exact H) | exact H
  have Ny270 := Aside0.mk hy270
  clear hy270
  replace H := Option.bind_eq_some_iff.mp H
  obtain ⟨⟨t273, t274⟩, A20, H⟩ := H
  replace H : (spec_l11Pieces.l0 k y270 t273 s0_0 t274) = some (r1, r2) := H
  have A2 := Aside0.mk A20
  clear A20
  have H' := Aside0.mk H
  clear H
  go_enter Try.func68, Try.ntmps68
  go_wp2_with (first | ((with_reducible refine gate_dst (N := 7) rfl ?_); refine Kd.R_lit k47 _ 47 ?hg (N := 7) ?hd (xs := ([] : List (S47))) (inner := []) (ok := fun _ => True) (okp := fun _ => True) ?hr ?hp (fun _ hk => hk) trivial (Below.refl _ _) (Nat.le_refl _) (by simp) ?_; (case hd => rfl); (case hg => rfl); (case hr => first | (go_simp; done) | (go_simp; rfl)); (case hp => exact (Reps.none _ _)); intro v271 w3 ho4 hb hg_ hnew_; clear hg_ hnew_; (first | rw [← Ny270.out] at ho4 | (simp only [Int.reduceToNat] at ho4; rw [← Ny270.out] at ho4)); have n0_ := Aside0.mk (Kd.R_lower ho4 (keep_size (w := w) (g := g) (row := none) (by repeat (first | (with_reducible first | exact HK.out | apply KeepBut.set_ | apply keep_drewN | apply keep_drew | apply keep_alloc) | exact HK.out)))); have n1_ := Aside0.mk (IsS92.below (by repeat (first | (with_reducible first | exact HI0.out | apply IsS92.alloc | apply IsS92.drewN | apply IsS92.drew | apply IsS92.set_1) | exact HI0.out)) hb); have n2_ := Aside0.mk (KeepBut.trans (by repeat (first | (with_reducible first | exact HK.out | apply KeepBut.set_ | apply keep_drewN | apply keep_drew | apply keep_alloc) | exact HK.out)) (KeepBut.of_below hb g none) (.inl rfl)); have n3_ := Aside0.mk (below_step (by repeat (first | (with_reducible first | exact HB.out | apply below_alloc | apply pw_below_drewN | apply below_drew1 | refine below_set ?_ (IsS92.ge HI0.out)) | exact HB.out)) hb); clear HI0; clear HK; clear HB; have HO272 := n0_; have HI0 := n1_; have HK := n2_; have HB := n3_; clear n0_ n1_ n2_ n3_; clear hb ho4) | ((with_reducible refine gate_callee (f := 48) rfl ?_); refine goesL_ (some 9) rfl rfl Try.func48 (by kernel_rfl) rfl #[.pointer (some ⟨g, 0, none⟩), .int .i64 12] rfl (by (try simp only [List.map_toArray, List.map_cons, List.map_nil]); first | done | rfl | (simp only [List.length_drop, List.length_take]; rfl)) ?_; (with_reducible refine (spec_l1Rd_pick.calls k g s0_0 s0_1 12 t273 t274 w0 _ ?side1 ?side2 A2.out).mono ?_); (case side1 => repeat (first | (with_reducible first | exact HI0.out | apply IsS92.alloc | apply IsS92.drewN | apply IsS92.drew | apply IsS92.set_1) | exact HI0.out)); (case side2 => repeat (first | (with_reducible first | exact HB.out | apply below_alloc | apply pw_below_drewN | apply below_drew1 | refine below_set ?_ (IsS92.ge HI0.out)) | exact HB.out)); rintro e w5 ⟨rfl, hi, hb, hk⟩; refine ⟨_, rfl, ?_⟩; have n0_ := Aside0.mk (Kd.R_mono (Kd.R_keep (IsS92.apart (show IsS92 w0 _ g s0_0 s0_1 from by repeat (first | (with_reducible first | exact HI0.out | apply IsS92.alloc | apply IsS92.drewN | apply IsS92.drew | apply IsS92.set_1) | exact HI0.out)) (by (with_reducible repeat (first | apply Kd.R_alloc | apply Kd.R_drewN | apply Kd.R_drew)); exact HO272.out) (by decide)) hk (fun _ h => h.2)) (fun _ h => h.1)); have n1_ := Aside0.mk (KeepBut.trans (by repeat (first | (with_reducible first | exact HK.out | apply KeepBut.set_ | apply keep_drewN | apply keep_drew | apply keep_alloc) | exact HK.out)) hk (.inl rfl)); have n2_ := Aside0.mk (hb); have n3_ := Aside0.mk (hi); clear HO272; clear HK; clear HB; clear HI0; have HO272 := n0_; have HK := n1_; have HB := n2_; have HI0 := n3_; clear n0_ n1_ n2_ n3_; (try clear hb); (try clear hb2); (try clear hk); (try clear hi)))
  go_loopg [3, 4] k (fun kq v3 v4 w' => ∃ (x3_1 : List (S47)) (x4_1 : Int) (x1001_1 : Int), v4 = .int .i64 x4_1 ∧ Aside0 (spec_l11Pieces.l0 kq x3_1 x4_1 s0_0 x1001_1 = some (r1, r2)) ∧ Aside0 (kq ≤ k) ∧ Aside0 (Kd.R k47 47 w' w.heap.size (fun _ => True) v3 x3_1) ∧ Aside0 (IsS92 w0 w' g s0_0 x1001_1) ∧ Aside0 (KeepBut w w' g none) ∧ Aside0 (Below w0.heap.size w0 w'))
  case atStart => exact ⟨(y270), (t273), (t274), (by first | rfl | (simp; done) | (simp [*]; done)), H', ⟨Nat.le_refl _⟩, ⟨by (with_reducible repeat (first | apply Kd.R_alloc | apply Kd.R_drewN | apply Kd.R_drew)); exact HO272.out⟩, ⟨by repeat (first | (with_reducible first | exact HI0.out | apply IsS92.alloc | apply IsS92.drewN | apply IsS92.drew | apply IsS92.set_1) | exact HI0.out)⟩, ⟨by repeat (first | (with_reducible first | exact HK.out | apply KeepBut.set_ | apply keep_drewN | apply keep_drew | apply keep_alloc) | exact HK.out)⟩, ⟨by repeat (first | (with_reducible first | exact HB.out | apply below_alloc | apply pw_below_drewN | apply below_drew1 | refine below_set ?_ (IsS92.ge HI0.out)) | exact HB.out)⟩⟩
  case round =>
    clear H'
    try clear p2
    try clear c4
    obtain ⟨x3_1, x4_1, x1001_1, rfl, HA, HK1, HO_3, HI0, HK, HB⟩ := hrel
    cases gk with
    | zero => exact absurd HA.out (by simp [spec_l11Pieces.l0])
    | succ k1 =>
      have H := HA.out
      clear HA
      simp only [spec_l11Pieces.l0] at H
      by_cases c6 : x4_1 > 0
      · rw [if_pos c6] at H
        have c6b0 : decide (0 < x4_1) = true := decide_eq_true c6
        clear c6
        replace H := Option.bind_eq_some_iff.mp H
        obtain ⟨⟨t275, t276⟩, A70, H⟩ := H
        replace H : ((spec_l1Rd_pick.f k1 s0_0 t276 256).bind fun bt277 => ((spec_l1Rd_pick.f k1 s0_0 bt277.2 256).bind fun bt279 => ((spec_l1Pow.f k1 t275).bind fun t281 => (if t281 = 0 then (none) else (if x3_1.length < 8796093022208 then (spec_l11Pieces.l0 k1 (x3_1 ++ [(⟨Int.tmod (wrap64 ((wrap64 (bt277.1 * 256)) + bt279.1)) t281, t275⟩ : S47)]) (wrap64 (x4_1 - 1)) s0_0 bt279.2) else (none)))))) = some (r1, r2) := H
        have A7 := Aside0.mk A70
        clear A70
        replace H := Option.bind_eq_some_iff.mp H
        obtain ⟨⟨t277, t278⟩, A80, H⟩ := H
        replace H : ((spec_l1Rd_pick.f k1 s0_0 t278 256).bind fun bt279 => ((spec_l1Pow.f k1 t275).bind fun t281 => (if t281 = 0 then (none) else (if x3_1.length < 8796093022208 then (spec_l11Pieces.l0 k1 (x3_1 ++ [(⟨Int.tmod (wrap64 ((wrap64 (t277 * 256)) + bt279.1)) t281, t275⟩ : S47)]) (wrap64 (x4_1 - 1)) s0_0 bt279.2) else (none))))) = some (r1, r2) := H
        have A8 := Aside0.mk A80
        clear A80
        replace H := Option.bind_eq_some_iff.mp H
        obtain ⟨⟨t279, t280⟩, A90, H⟩ := H
        replace H : ((spec_l1Pow.f k1 t275).bind fun t281 => (if t281 = 0 then (none) else (if x3_1.length < 8796093022208 then (spec_l11Pieces.l0 k1 (x3_1 ++ [(⟨Int.tmod (wrap64 ((wrap64 (t277 * 256)) + t279)) t281, t275⟩ : S47)]) (wrap64 (x4_1 - 1)) s0_0 t280) else (none)))) = some (r1, r2) := H
        have A9 := Aside0.mk A90
        clear A90
        replace H := Option.bind_eq_some_iff.mp H
        obtain ⟨t281, A100, H⟩ := H
        replace H : (if t281 = 0 then (none) else (if x3_1.length < 8796093022208 then (spec_l11Pieces.l0 k1 (x3_1 ++ [(⟨Int.tmod (wrap64 ((wrap64 (t277 * 256)) + t279)) t281, t275⟩ : S47)]) (wrap64 (x4_1 - 1)) s0_0 t280) else (none))) = some (r1, r2) := H
        have A10 := Aside0.mk A100
        clear A100
        by_cases c11 : t281 = 0
        · rw [if_pos c11] at H
          exact absurd H (by simp)
        · rw [if_neg c11] at H
          have c11b0 : (t281 == 0) = false := beq_eq_false_iff_ne.mpr c11
          have c11b1 : (t281 != 0) = true := bne_iff_ne.mpr c11
          by_cases c12 : x3_1.length < 8796093022208
          · rw [if_pos c12] at H
            have LMc12 := Aside0.mk c12
            clear c12
            obtain ⟨y282, hy282⟩ : ∃ y_ : List (S47), y_ = (x3_1 ++ [(⟨Int.tmod (wrap64 ((wrap64 (t277 * 256)) + t279)) t281, t275⟩ : S47)]) := ⟨_, rfl⟩
            replace H : (spec_l11Pieces.l0 k1 y282 (wrap64 (x4_1 - 1)) s0_0 t280) = some (r1, r2) := by first | (rw [hy282]; with_reducible exact H) | (have H2_ := (Option.bind_some _ _).symm.trans H; rw [hy282]; with_reducible exact H2_) | (have H2_ := (Option.bind_some _ _).symm.trans H; with_reducible exact H2_) | with_reducible exact H | (rw [hy282]; exact H) | exact H
            have Ny282 := Aside0.mk hy282
            clear hy282
            have H' := Aside0.mk H
            clear H
            go_wp2_with (first | ((with_reducible refine gate_callee (f := 48) rfl ?_); refine goesL_ (some 15) rfl rfl Try.func48 (by kernel_rfl) rfl #[.pointer (some ⟨g, 0, none⟩), .int .i64 17] rfl (by (try simp only [List.map_toArray, List.map_cons, List.map_nil]); first | done | rfl | (simp only [List.length_drop, List.length_take]; rfl)) ?_; (with_reducible refine (spec_l1Rd_pick.calls k1 g s0_0 x1001_1 17 t275 t276 w0 _ ?side1 ?side2 A7.out).mono ?_); (case side1 => repeat (first | (with_reducible first | exact HI0.out | apply IsS92.alloc | apply IsS92.drewN | apply IsS92.drew | apply IsS92.set_1) | exact HI0.out)); (case side2 => repeat (first | (with_reducible first | exact HB.out | apply below_alloc | apply pw_below_drewN | apply below_drew1 | refine below_set ?_ (IsS92.ge HI0.out)) | exact HB.out)); rintro e w13 ⟨rfl, hi, hb, hk⟩; refine ⟨_, rfl, ?_⟩; have n0_ := Aside0.mk (Kd.R_mono (Kd.R_keep (IsS92.apart (show IsS92 w0 _ g s0_0 x1001_1 from by repeat (first | (with_reducible first | exact HI0.out | apply IsS92.alloc | apply IsS92.drewN | apply IsS92.drew | apply IsS92.set_1) | exact HI0.out)) (by (with_reducible repeat (first | apply Kd.R_alloc | apply Kd.R_drewN | apply Kd.R_drew)); exact HO_3.out) (by decide)) hk (fun _ h => h.2)) (fun _ h => h.1)); have n1_ := Aside0.mk (KeepBut.trans (by repeat (first | (with_reducible first | exact HK.out | apply KeepBut.set_ | apply keep_drewN | apply keep_drew | apply keep_alloc) | exact HK.out)) hk (.inl rfl)); have n2_ := Aside0.mk (hb); have n3_ := Aside0.mk (hi); clear HO_3; clear HK; clear HB; clear HI0; have HO_3 := n0_; have HK := n1_; have HB := n2_; have HI0 := n3_; clear n0_ n1_ n2_ n3_; (try clear hb); (try clear hb2); (try clear hk); (try clear hi)) | ((with_reducible refine gate_callee (f := 48) rfl ?_); refine goesL_ (some 17) rfl rfl Try.func48 (by kernel_rfl) rfl #[.pointer (some ⟨g, 0, none⟩), .int .i64 256] rfl (by (try simp only [List.map_toArray, List.map_cons, List.map_nil]); first | done | rfl | (simp only [List.length_drop, List.length_take]; rfl)) ?_; (with_reducible refine (spec_l1Rd_pick.calls k1 g s0_0 t276 256 t277 t278 w0 _ ?side1 ?side2 A8.out).mono ?_); (case side1 => repeat (first | (with_reducible first | exact HI0.out | apply IsS92.alloc | apply IsS92.drewN | apply IsS92.drew | apply IsS92.set_1) | exact HI0.out)); (case side2 => repeat (first | (with_reducible first | exact HB.out | apply below_alloc | apply pw_below_drewN | apply below_drew1 | refine below_set ?_ (IsS92.ge HI0.out)) | exact HB.out)); rintro e w14 ⟨rfl, hi, hb, hk⟩; refine ⟨_, rfl, ?_⟩; have n0_ := Aside0.mk (Kd.R_mono (Kd.R_keep (IsS92.apart (show IsS92 w0 _ g s0_0 t276 from by repeat (first | (with_reducible first | exact HI0.out | apply IsS92.alloc | apply IsS92.drewN | apply IsS92.drew | apply IsS92.set_1) | exact HI0.out)) (by (with_reducible repeat (first | apply Kd.R_alloc | apply Kd.R_drewN | apply Kd.R_drew)); exact HO_3.out) (by decide)) hk (fun _ h => h.2)) (fun _ h => h.1)); have n1_ := Aside0.mk (KeepBut.trans (by repeat (first | (with_reducible first | exact HK.out | apply KeepBut.set_ | apply keep_drewN | apply keep_drew | apply keep_alloc) | exact HK.out)) hk (.inl rfl)); have n2_ := Aside0.mk (hb); have n3_ := Aside0.mk (hi); clear HO_3; clear HK; clear HB; clear HI0; have HO_3 := n0_; have HK := n1_; have HB := n2_; have HI0 := n3_; clear n0_ n1_ n2_ n3_; (try clear hb); (try clear hb2); (try clear hk); (try clear hi)) | ((with_reducible refine gate_callee (f := 48) rfl ?_); refine goesL_ (some 20) rfl rfl Try.func48 (by kernel_rfl) rfl #[.pointer (some ⟨g, 0, none⟩), .int .i64 256] rfl (by (try simp only [List.map_toArray, List.map_cons, List.map_nil]); first | done | rfl | (simp only [List.length_drop, List.length_take]; rfl)) ?_; (with_reducible refine (spec_l1Rd_pick.calls k1 g s0_0 t278 256 t279 t280 w0 _ ?side1 ?side2 A9.out).mono ?_); (case side1 => repeat (first | (with_reducible first | exact HI0.out | apply IsS92.alloc | apply IsS92.drewN | apply IsS92.drew | apply IsS92.set_1) | exact HI0.out)); (case side2 => repeat (first | (with_reducible first | exact HB.out | apply below_alloc | apply pw_below_drewN | apply below_drew1 | refine below_set ?_ (IsS92.ge HI0.out)) | exact HB.out)); rintro e w15 ⟨rfl, hi, hb, hk⟩; refine ⟨_, rfl, ?_⟩; have n0_ := Aside0.mk (Kd.R_mono (Kd.R_keep (IsS92.apart (show IsS92 w0 _ g s0_0 t278 from by repeat (first | (with_reducible first | exact HI0.out | apply IsS92.alloc | apply IsS92.drewN | apply IsS92.drew | apply IsS92.set_1) | exact HI0.out)) (by (with_reducible repeat (first | apply Kd.R_alloc | apply Kd.R_drewN | apply Kd.R_drew)); exact HO_3.out) (by decide)) hk (fun _ h => h.2)) (fun _ h => h.1)); have n1_ := Aside0.mk (KeepBut.trans (by repeat (first | (with_reducible first | exact HK.out | apply KeepBut.set_ | apply keep_drewN | apply keep_drew | apply keep_alloc) | exact HK.out)) hk (.inl rfl)); have n2_ := Aside0.mk (hb); have n3_ := Aside0.mk (hi); clear HO_3; clear HK; clear HB; clear HI0; have HO_3 := n0_; have HK := n1_; have HB := n2_; have HI0 := n3_; clear n0_ n1_ n2_ n3_; (try clear hb); (try clear hb2); (try clear hk); (try clear hi)) | ((with_reducible refine gate_callee (f := 69) rfl ?_); refine goesL_ (some 25) rfl rfl Try.func69 (by kernel_rfl) rfl #[.int .i64 t275] rfl (by (try simp only [List.map_toArray, List.map_cons, List.map_nil]); first | done | rfl | (simp only [List.length_drop, List.length_take]; rfl)) ?_; (with_reducible refine (spec_l1Pow.calls k1 t275 t281 _ A10.out).mono ?_); rintro e w' ⟨rfl, ⟨nd, rfl⟩⟩; refine ⟨_, rfl, ?_⟩) | ((with_reducible refine gate_builtin (b := .append) (xs := #[.tmp 22, .tmp 29]) rfl ?_); at_builtin; refine Kd.R_append k47 w.heap.size rfl (.tmp 22) (.tmp 29) 33 47 (.agg #[(.int .i64 0), (.int .i64 0)]) 16 rfl Try.underlying33 info47 rfl (by decide) (by omega) u3 x3_1 (⟨Int.tmod (wrap64 ((wrap64 (t277 * 256)) + t279)) t281, t275⟩ : S47) [.int .i64 (Int.tmod (wrap64 ((wrap64 (t277 * 256)) + t279)) t281), .int .i64 t275] (fun _ => True) (fun _ => False) rfl rfl ?aP (fun _ hk => hk.elim) ?aF ?aO (Below.refl _ _) ?aS ?aL ?_; (case aP => exact k47_mkM _ _ _ (⟨Int.tmod (wrap64 ((wrap64 (t277 * 256)) + t279)) t281, t275⟩ : S47)); (case aF => exact (fun _ _ => trivial)); (case aO => exact (by (with_reducible repeat (first | apply Kd.R_alloc | apply Kd.R_drewN | apply Kd.R_drew)); exact HO_3.out)); (case aS => exact (keep_size (w := w) (g := g) (row := none) (by repeat (first | (with_reducible first | exact HK.out | apply KeepBut.set_ | apply keep_drewN | apply keep_drew | apply keep_alloc) | exact HK.out)))); (case aL => have := LMc12.out; omega); intro v283 w16 ho hb hg hat; rw [← Ny282.out] at ho; have n0_ := Aside0.mk (IsS92.grown (by repeat (first | (with_reducible first | exact HI0.out | apply IsS92.alloc | apply IsS92.drewN | apply IsS92.drew | apply IsS92.set_1) | exact HI0.out)) hg (IsS92.own_ne HI0.out HO_3.out (by decide))); have n1_ := Aside0.mk (below_weaken (by repeat (first | (with_reducible first | exact HB.out | apply below_alloc | apply pw_below_drewN | apply below_drew1 | refine below_set ?_ (IsS92.ge HI0.out)) | exact HB.out)) HL.out hb); have n2_ := Aside0.mk (KeepBut.trans (by repeat (first | (with_reducible first | exact HK.out | apply KeepBut.set_ | apply keep_drewN | apply keep_drew | apply keep_alloc) | exact HK.out)) (KeepBut.of_grown hg g) (Kd.R_base2 HO_3.out)); have n3_ := Aside0.mk (ho); clear HI0; clear HB; clear HK; clear HO_3; have HI0 := n0_; have HB := n1_; have HK := n2_; have HO284 := n3_; clear n0_ n1_ n2_ n3_; clear ho hb hg hat))
            go_roundg k1
            case measure => have := HK1.out; omega
            case rel => exact ⟨(y282), (wrap64 (x4_1 - 1)), (t280), (by first | rfl | (simp; done) | (simp [*]; done)), H', ⟨by have := HK1.out; omega⟩, ⟨by (with_reducible repeat (first | apply Kd.R_alloc | apply Kd.R_drewN | apply Kd.R_drew)); exact HO284.out⟩, ⟨by repeat (first | (with_reducible first | exact HI0.out | apply IsS92.alloc | apply IsS92.drewN | apply IsS92.drew | apply IsS92.set_1) | exact HI0.out)⟩, ⟨by repeat (first | (with_reducible first | exact HK.out | apply KeepBut.set_ | apply keep_drewN | apply keep_drew | apply keep_alloc) | exact HK.out)⟩, ⟨by repeat (first | (with_reducible first | exact HB.out | apply below_alloc | apply pw_below_drewN | apply below_drew1 | refine below_set ?_ (IsS92.ge HI0.out)) | exact HB.out)⟩⟩
          · rw [if_neg c12] at H
            exact absurd H (by simp)
      · rw [if_neg c6] at H
        have c6b0 : decide (0 < x4_1) = false := decide_eq_false c6
        clear c6
        simp only [Option.some.injEq, Prod.mk.injEq] at H
        obtain ⟨rfl, rfl⟩ := H
        go_wp2
        go_ret
        exact ⟨_, by first | rfl | (simp [errW_none, errW_some] <;> rfl) | (simp [*, errW_none, errW_some] <;> rfl), by (with_reducible repeat (first | apply Kd.R_alloc | apply Kd.R_drewN | apply Kd.R_drew)); exact HO_3.out, by repeat (first | (with_reducible first | exact HI0.out | apply IsS92.alloc | apply IsS92.drewN | apply IsS92.drew | apply IsS92.set_1) | exact HI0.out), by repeat (first | (with_reducible first | exact HB.out | apply below_alloc | apply pw_below_drewN | apply below_drew1 | refine below_set ?_ (IsS92.ge HI0.out)) | exact HB.out), by repeat (first | (with_reducible first | exact HK.out | apply KeepBut.set_ | apply keep_drewN | apply keep_drew | apply keep_alloc) | exact HK.out)⟩

/-! ### spec_l11AnyPieces: function 58 -/
def spec_l11AnyPieces.f (k : Nat) (s0_0 : List Int) (s0_1 : Int) : Option ((List (S47)) × Int) := (spec_l11Pieces.f k s0_0 s0_1).bind fun bt285 => ((spec_l1Rd_pick.f k s0_0 bt285.2 8).bind fun bt289 => (if bt289.1 = 0 then ((spec_l1Rd_one.f k s0_0 bt289.2 (([(-1), 0, 4, 65536] : List Int))).bind fun bt294 => ((spec_l1Rd_one.f k s0_0 bt294.2 (([(-1), 2, 16, 17] : List Int))).bind fun bt299 => (if bt285.1.length < 8796093022208 then (some ((bt285.1 ++ [(⟨bt294.1, bt299.1⟩ : S47)]), bt299.2)) else (none)))) else (some (bt285.1, bt289.2))))
theorem spec_l11AnyPieces.mono : ∀ a0 a1 k, LeO (spec_l11AnyPieces.f k a0 a1) (spec_l11AnyPieces.f (k + 1) a0 a1) := by
  intro a0 a1 k
  unfold spec_l11AnyPieces.f
  repeat' first
      | (with_reducible exact spec_l11Pieces.mono _ _ _)
      | (with_reducible exact spec_l1Rd_one.mono _ _ _ _)
      | (with_reducible exact spec_l1Rd_pick.mono _ _ _ _)
      | (with_reducible exact LeO.refl _)
      | (with_reducible exact LeO.none _)
      | (with_reducible refine LeO.ite ?_ ?_)
      | (with_reducible refine LeO.bind ?_ (fun _ => ?_))
      | exact spec_l11Pieces.mono _ _ _
      | exact spec_l1Rd_one.mono _ _ _ _
      | exact spec_l1Rd_pick.mono _ _ _ _
      | exact LeO.none _
      | refine LeO.ite ?_ ?_
      | refine LeO.bind ?_ (fun _ => ?_)
set_option maxHeartbeats 8000000 in
set_option maxRecDepth 100000 in
theorem spec_l11AnyPieces.calls (k : Nat) (g : Nat) (s0_0 : List Int) (s0_1 : Int) (r1 : List (S47)) (r2 : Int) (w0 w : World) (hI : IsS92 w0 w g s0_0 s0_1) (hB : Below w0.heap.size w0 w) (h : spec_l11AnyPieces.f k s0_0 s0_1 = some (r1, r2)) :
    Calls Try.prog 58 #[.pointer (some ⟨g, 0, none⟩)] w fun e w' => ∃ v0_ : Value, e = .returned (v0_) ∧ Kd.R k47 47 w' w.heap.size (fun _ => True) v0_ r1 ∧ IsS92 w0 w' g s0_0 r2 ∧ Below w0.heap.size w0 w' ∧ KeepBut w w' g none := by
  have hu47 := Try.underlying47
  have HI0 := Aside0.mk hI
  have HK := Aside0.mk (KeepBut.refl w g none)
  have HL := Aside0.mk hB.size
  clear hI
  have HW0 := Aside0.mk hB.size
  have HB := Aside0.mk hB
  clear hB
  have H : ((spec_l11Pieces.f k s0_0 s0_1).bind fun bt285 => ((spec_l1Rd_pick.f k s0_0 bt285.2 8).bind fun bt289 => (if bt289.1 = 0 then ((spec_l1Rd_one.f k s0_0 bt289.2 (([(-1), 0, 4, 65536] : List Int))).bind fun bt294 => ((spec_l1Rd_one.f k s0_0 bt294.2 (([(-1), 2, 16, 17] : List Int))).bind fun bt299 => (if bt285.1.length < 8796093022208 then (some ((bt285.1 ++ [(⟨bt294.1, bt299.1⟩ : S47)]), bt299.2)) else (none)))) else (some (bt285.1, bt289.2))))) = some (r1, r2) := h
  clear h
  replace H := Option.bind_eq_some_iff.mp H
  obtain ⟨⟨t285, t288⟩, A20, H⟩ := H
  replace H : ((spec_l1Rd_pick.f k s0_0 t288 8).bind fun bt289 => (if bt289.1 = 0 then ((spec_l1Rd_one.f k s0_0 bt289.2 (([(-1), 0, 4, 65536] : List Int))).bind fun bt294 => ((spec_l1Rd_one.f k s0_0 bt294.2 (([(-1), 2, 16, 17] : List Int))).bind fun bt299 => (if t285.length < 8796093022208 then (some ((t285 ++ [(⟨bt294.1, bt299.1⟩ : S47)]), bt299.2)) else (none)))) else (some (t285, bt289.2)))) = some (r1, r2) := H
  have A2 := Aside0.mk A20
  clear A20
  replace H := Option.bind_eq_some_iff.mp H
  obtain ⟨⟨t289, t290⟩, A30, H⟩ := H
  replace H : (if t289 = 0 then ((spec_l1Rd_one.f k s0_0 t290 (([(-1), 0, 4, 65536] : List Int))).bind fun bt294 => ((spec_l1Rd_one.f k s0_0 bt294.2 (([(-1), 2, 16, 17] : List Int))).bind fun bt299 => (if t285.length < 8796093022208 then (some ((t285 ++ [(⟨bt294.1, bt299.1⟩ : S47)]), bt299.2)) else (none)))) else (some (t285, t290))) = some (r1, r2) := H
  have A3 := Aside0.mk A30
  clear A30
  by_cases c4 : t289 = 0
  · rw [if_pos c4] at H
    have c4b0 : (t289 == 0) = true := beq_iff_eq.mpr c4
    have c4b1 : (t289 != 0) = false := bne_eq_false_iff_eq.mpr c4
    clear c4
    obtain ⟨y291, hy291⟩ : ∃ y_ : List Int, y_ = (([(-1), 0, 4, 65536] : List Int)) := ⟨_, rfl⟩
    replace H : ((spec_l1Rd_one.f k s0_0 t290 y291).bind fun bt294 => ((spec_l1Rd_one.f k s0_0 bt294.2 (([(-1), 2, 16, 17] : List Int))).bind fun bt299 => (if t285.length < 8796093022208 then (some ((t285 ++ [(⟨bt294.1, bt299.1⟩ : S47)]), bt299.2)) else (none)))) = some (r1, r2) := by first | (rw [hy291]; with_reducible exact H) | (have H2_ := (Option.bind_some _ _).symm.trans H; rw [hy291]; with_reducible exact H2_) | (have H2_ := (Option.bind_some _ _).symm.trans H; with_reducible exact H2_) | with_reducible exact H | (rw [hy291]; exact H) | exact H
    have Ny291 := Aside0.mk hy291
    clear hy291
    replace H := Option.bind_eq_some_iff.mp H
    obtain ⟨⟨t294, t295⟩, A50, H⟩ := H
    replace H : ((spec_l1Rd_one.f k s0_0 t295 (([(-1), 2, 16, 17] : List Int))).bind fun bt299 => (if t285.length < 8796093022208 then (some ((t285 ++ [(⟨t294, bt299.1⟩ : S47)]), bt299.2)) else (none))) = some (r1, r2) := H
    have A5 := Aside0.mk A50
    clear A50
    obtain ⟨y296, hy296⟩ : ∃ y_ : List Int, y_ = (([(-1), 2, 16, 17] : List Int)) := ⟨_, rfl⟩
    replace H : ((spec_l1Rd_one.f k s0_0 t295 y296).bind fun bt299 => (if t285.length < 8796093022208 then (some ((t285 ++ [(⟨t294, bt299.1⟩ : S47)]), bt299.2)) else (none))) = some (r1, r2) := by first | (rw [hy296]; with_reducible exact H) | (have H2_ := (Option.bind_some _ _).symm.trans H; rw [hy296]; with_reducible exact H2_) | (have H2_ := (Option.bind_some _ _).symm.trans H; with_reducible exact H2_) | with_reducible exact H | (rw [hy296]; exact H) | exact H
    have Ny296 := Aside0.mk hy296
    clear hy296
    replace H := Option.bind_eq_some_iff.mp H
    obtain ⟨⟨t299, t300⟩, A60, H⟩ := H
    replace H : (if t285.length < 8796093022208 then (some ((t285 ++ [(⟨t294, t299⟩ : S47)]), t300)) else (none)) = some (r1, r2) := H
    have A6 := Aside0.mk A60
    clear A60
    by_cases c7 : t285.length < 8796093022208
    · rw [if_pos c7] at H
      have LMc7 := Aside0.mk c7
      clear c7
      obtain ⟨y301, hy301⟩ : ∃ y_ : List (S47), y_ = (t285 ++ [(⟨t294, t299⟩ : S47)]) := ⟨_, rfl⟩
      replace H : (some (y301, t300)) = some (r1, r2) := by first | (rw [hy301]; with_reducible exact H) | (have H2_ := (Option.bind_some _ _).symm.trans H; rw [hy301]; with_reducible exact H2_) | (have H2_ := (Option.bind_some _ _).symm.trans H; with_reducible exact H2_) | with_reducible exact H | (rw [hy301]; exact H) | exact H
      have Ny301 := Aside0.mk hy301
      clear hy301
      simp only [Option.some.injEq, Prod.mk.injEq] at H
      obtain ⟨rfl, rfl⟩ := H
      go_enter Try.func58, Try.ntmps58
      go_wp2_with (first | ((with_reducible refine gate_callee (f := 68) rfl ?_); refine goesL_ (some 5) rfl rfl Try.func68 (by kernel_rfl) rfl #[.pointer (some ⟨g, 0, none⟩)] rfl (by (try simp only [List.map_toArray, List.map_cons, List.map_nil]); first | done | rfl | (simp only [List.length_drop, List.length_take]; rfl)) ?_; (with_reducible refine (spec_l11Pieces.calls k g s0_0 s0_1 t285 t288 w0 _ ?side1 ?side2 A2.out).mono ?_); (case side1 => repeat (first | (with_reducible first | exact HI0.out | apply IsS92.alloc | apply IsS92.drewN | apply IsS92.drew | apply IsS92.set_1) | exact HI0.out)); (case side2 => repeat (first | (with_reducible first | exact HB.out | apply below_alloc | apply pw_below_drewN | apply below_drew1 | refine below_set ?_ (IsS92.ge HI0.out)) | exact HB.out)); rintro e w8 ⟨v286, rfl, ho0, hi, hb, hk⟩; refine ⟨_, rfl, ?_⟩; have n0_ := Aside0.mk (Kd.R_lower ho0 (keep_size (w := w) (g := g) (row := none) (by repeat (first | (with_reducible first | exact HK.out | apply KeepBut.set_ | apply keep_drewN | apply keep_drew | apply keep_alloc) | exact HK.out)))); have n1_ := Aside0.mk (KeepBut.trans (by repeat (first | (with_reducible first | exact HK.out | apply KeepBut.set_ | apply keep_drewN | apply keep_drew | apply keep_alloc) | exact HK.out)) hk (.inl rfl)); have n2_ := Aside0.mk (hb); have n3_ := Aside0.mk (hi); clear HK; clear HB; clear HI0; have HO287 := n0_; have HK := n1_; have HB := n2_; have HI0 := n3_; clear n0_ n1_ n2_ n3_; (try clear hb); (try clear hb2); (try clear hk); (try clear hi); (try clear ho0)) | ((with_reducible refine gate_callee (f := 48) rfl ?_); refine goesL_ (some 7) rfl rfl Try.func48 (by kernel_rfl) rfl #[.pointer (some ⟨g, 0, none⟩), .int .i64 8] rfl (by (try simp only [List.map_toArray, List.map_cons, List.map_nil]); first | done | rfl | (simp only [List.length_drop, List.length_take]; rfl)) ?_; (with_reducible refine (spec_l1Rd_pick.calls k g s0_0 t288 8 t289 t290 w0 _ ?side1 ?side2 A3.out).mono ?_); (case side1 => repeat (first | (with_reducible first | exact HI0.out | apply IsS92.alloc | apply IsS92.drewN | apply IsS92.drew | apply IsS92.set_1) | exact HI0.out)); (case side2 => repeat (first | (with_reducible first | exact HB.out | apply below_alloc | apply pw_below_drewN | apply below_drew1 | refine below_set ?_ (IsS92.ge HI0.out)) | exact HB.out)); rintro e w9 ⟨rfl, hi, hb, hk⟩; refine ⟨_, rfl, ?_⟩; have n0_ := Aside0.mk (Kd.R_mono (Kd.R_keep (IsS92.apart (show IsS92 w0 _ g s0_0 t288 from by repeat (first | (with_reducible first | exact HI0.out | apply IsS92.alloc | apply IsS92.drewN | apply IsS92.drew | apply IsS92.set_1) | exact HI0.out)) (by (with_reducible repeat (first | apply Kd.R_alloc | apply Kd.R_drewN | apply Kd.R_drew)); exact HO287.out) (by decide)) hk (fun _ h => h.2)) (fun _ h => h.1)); have n1_ := Aside0.mk (KeepBut.trans (by repeat (first | (with_reducible first | exact HK.out | apply KeepBut.set_ | apply keep_drewN | apply keep_drew | apply keep_alloc) | exact HK.out)) hk (.inl rfl)); have n2_ := Aside0.mk (hb); have n3_ := Aside0.mk (hi); clear HO287; clear HK; clear HB; clear HI0; have HO287 := n0_; have HK := n1_; have HB := n2_; have HI0 := n3_; clear n0_ n1_ n2_ n3_; (try clear hb); (try clear hb2); (try clear hk); (try clear hi)) | ((with_reducible refine gate_dst (N := 11) rfl ?_); refine Kd.R_lit (Kd.int .i64) _ 3 ?hg (N := 11) ?hd (xs := ([(-1), 0, 4, 65536] : List Int)) (inner := [.int .i64 (-1), .int .i64 0, .int .i64 4, .int .i64 65536]) (ok := fun _ => True) (okp := fun _ => True) ?hr ?hp (fun _ hk => hk) trivial (Below.refl _ _) (Nat.le_refl _) (by simp) ?_; (case hd => rfl); (case hg => rfl); (case hr => first | (go_simp; done) | (go_simp; rfl)); (case hp => exact (Reps.one (show Kd.M (Kd.int .i64) _ _ _ (-1) [.int .i64 (-1)] from rfl) (Reps.one (show Kd.M (Kd.int .i64) _ _ _ 0 [.int .i64 0] from rfl) (Reps.one (show Kd.M (Kd.int .i64) _ _ _ 4 [.int .i64 4] from rfl) (Reps.one (show Kd.M (Kd.int .i64) _ _ _ 65536 [.int .i64 65536] from rfl) (Reps.none _ _)))))); intro v292 w10 ho11 hb hg_ hnew_; clear hg_ hnew_; (first | rw [← Ny291.out] at ho11 | (simp only [Int.reduceToNat] at ho11; rw [← Ny291.out] at ho11)); have n0_ := Aside0.mk (Kd.R_below (by (with_reducible repeat (first | apply Kd.R_alloc | apply Kd.R_drewN | apply Kd.R_drew)); exact HO287.out) hb); have n1_ := Aside0.mk (Kd.R_lower ho11 (keep_size (w := w) (g := g) (row := none) (by repeat (first | (with_reducible first | exact HK.out | apply KeepBut.set_ | apply keep_drewN | apply keep_drew | apply keep_alloc) | exact HK.out)))); have n2_ := Aside0.mk (IsS92.below (by repeat (first | (with_reducible first | exact HI0.out | apply IsS92.alloc | apply IsS92.drewN | apply IsS92.drew | apply IsS92.set_1) | exact HI0.out)) hb); have n3_ := Aside0.mk (KeepBut.trans (by repeat (first | (with_reducible first | exact HK.out | apply KeepBut.set_ | apply keep_drewN | apply keep_drew | apply keep_alloc) | exact HK.out)) (KeepBut.of_below hb g none) (.inl rfl)); have n4_ := Aside0.mk (below_step (by repeat (first | (with_reducible first | exact HB.out | apply below_alloc | apply pw_below_drewN | apply below_drew1 | refine below_set ?_ (IsS92.ge HI0.out)) | exact HB.out)) hb); clear HO287; clear HI0; clear HK; clear HB; have HO287 := n0_; have HO293 := n1_; have HI0 := n2_; have HK := n3_; have HB := n4_; clear n0_ n1_ n2_ n3_ n4_; clear hb ho11; obtain ⟨Ao12, co12, eo12⟩ := Kd.R_slice HO293.out; subst eo12) | ((with_reducible refine gate_callee (f := 49) rfl ?_); refine goesL_ (some 12) rfl rfl Try.func49 (by kernel_rfl) rfl #[.pointer (some ⟨g, 0, none⟩), .slice Ao12 y291.length co12] rfl (by (try simp only [List.map_toArray, List.map_cons, List.map_nil]); first | done | rfl | (simp only [List.length_drop, List.length_take]; rfl)) ?_; (with_reducible refine (spec_l1Rd_one.calls k g s0_0 t290 _ _ y291 t294 t295 w0 _ ?side1 ?side2 ?side3 ?side4 ?side5 A5.out).mono ?_); (case side1 => repeat (first | (with_reducible first | exact HI0.out | apply IsS92.alloc | apply IsS92.drewN | apply IsS92.drew | apply IsS92.set_1) | exact HI0.out)); (case side2 => repeat (first | (with_reducible first | exact HB.out | apply below_alloc | apply pw_below_drewN | apply below_drew1 | refine below_set ?_ (IsS92.ge HI0.out)) | exact HB.out)); (case side3 => repeat (first | exact (Kd.R_reads' HO293.out).2.2 | (with_reducible refine Kd.C_alloc ?_ _) | (with_reducible refine Kd.C_drewN ?_ _) | (with_reducible refine Kd.C_drew ?_))); (case side4 => exact (Kd.R_reads' HO293.out).2.1); (case side5 => exact far_slice (IsS92.own_ne HI0.out HO293.out (by decide))); rintro e w13 ⟨rfl, hi, hb, hk⟩; refine ⟨_, rfl, ?_⟩; have n0_ := Aside0.mk (Kd.R_mono (Kd.R_keep (IsS92.apart (show IsS92 w0 _ g s0_0 t290 from by repeat (first | (with_reducible first | exact HI0.out | apply IsS92.alloc | apply IsS92.drewN | apply IsS92.drew | apply IsS92.set_1) | exact HI0.out)) (by (with_reducible repeat (first | apply Kd.R_alloc | apply Kd.R_drewN | apply Kd.R_drew)); exact HO287.out) (by decide)) hk (fun _ h => h.2)) (fun _ h => h.1)); have n1_ := Aside0.mk (Kd.R_mono (Kd.R_keep (IsS92.apart (show IsS92 w0 _ g s0_0 t290 from by repeat (first | (with_reducible first | exact HI0.out | apply IsS92.alloc | apply IsS92.drewN | apply IsS92.drew | apply IsS92.set_1) | exact HI0.out)) (by (with_reducible repeat (first | apply Kd.R_alloc | apply Kd.R_drewN | apply Kd.R_drew)); exact HO293.out) (by decide)) hk (fun _ h => h.2)) (fun _ h => h.1)); have n2_ := Aside0.mk (KeepBut.trans (by repeat (first | (with_reducible first | exact HK.out | apply KeepBut.set_ | apply keep_drewN | apply keep_drew | apply keep_alloc) | exact HK.out)) hk (.inl rfl)); have n3_ := Aside0.mk (hb); have n4_ := Aside0.mk (hi); clear HO287; clear HO293; clear HK; clear HB; clear HI0; have HO287 := n0_; have HO293 := n1_; have HK := n2_; have HB := n3_; have HI0 := n4_; clear n0_ n1_ n2_ n3_ n4_; (try clear hb); (try clear hb2); (try clear hk); (try clear hi)) | ((with_reducible refine gate_dst (N := 14) rfl ?_); refine Kd.R_lit (Kd.int .i64) _ 3 ?hg (N := 14) ?hd (xs := ([(-1), 2, 16, 17] : List Int)) (inner := [.int .i64 (-1), .int .i64 2, .int .i64 16, .int .i64 17]) (ok := fun _ => True) (okp := fun _ => True) ?hr ?hp (fun _ hk => hk) trivial (Below.refl _ _) (Nat.le_refl _) (by simp) ?_; (case hd => rfl); (case hg => rfl); (case hr => first | (go_simp; done) | (go_simp; rfl)); (case hp => exact (Reps.one (show Kd.M (Kd.int .i64) _ _ _ (-1) [.int .i64 (-1)] from rfl) (Reps.one (show Kd.M (Kd.int .i64) _ _ _ 2 [.int .i64 2] from rfl) (Reps.one (show Kd.M (Kd.int .i64) _ _ _ 16 [.int .i64 16] from rfl) (Reps.one (show Kd.M (Kd.int .i64) _ _ _ 17 [.int .i64 17] from rfl) (Reps.none _ _)))))); intro v297 w14 ho15 hb hg_ hnew_; clear hg_ hnew_; (first | rw [← Ny296.out] at ho15 | (simp only [Int.reduceToNat] at ho15; rw [← Ny296.out] at ho15)); have n0_ := Aside0.mk (Kd.R_below (by (with_reducible repeat (first | apply Kd.R_alloc | apply Kd.R_drewN | apply Kd.R_drew)); exact HO287.out) hb); have n1_ := Aside0.mk (Kd.R_elder' (by (with_reducible repeat (first | apply Kd.R_alloc | apply Kd.R_drewN | apply Kd.R_drew)); exact HO293.out) (Kd.R_base ho15) hb); have n2_ := Aside0.mk (Kd.R_lower (Kd.R_new' ho15 (Kd.R_lt (by (with_reducible repeat (first | apply Kd.R_alloc | apply Kd.R_drewN | apply Kd.R_drew)); exact HO293.out))) (keep_size (w := w) (g := g) (row := none) (by repeat (first | (with_reducible first | exact HK.out | apply KeepBut.set_ | apply keep_drewN | apply keep_drew | apply keep_alloc) | exact HK.out)))); have n3_ := Aside0.mk (IsS92.below (by repeat (first | (with_reducible first | exact HI0.out | apply IsS92.alloc | apply IsS92.drewN | apply IsS92.drew | apply IsS92.set_1) | exact HI0.out)) hb); have n4_ := Aside0.mk (KeepBut.trans (by repeat (first | (with_reducible first | exact HK.out | apply KeepBut.set_ | apply keep_drewN | apply keep_drew | apply keep_alloc) | exact HK.out)) (KeepBut.of_below hb g none) (.inl rfl)); have n5_ := Aside0.mk (below_step (by repeat (first | (with_reducible first | exact HB.out | apply below_alloc | apply pw_below_drewN | apply below_drew1 | refine below_set ?_ (IsS92.ge HI0.out)) | exact HB.out)) hb); clear HO287; clear HO293; clear HI0; clear HK; clear HB; have HO287 := n0_; have HO293 := n1_; have HO298 := n2_; have HI0 := n3_; have HK := n4_; have HB := n5_; clear n0_ n1_ n2_ n3_ n4_ n5_; clear hb ho15; obtain ⟨Ao16, co16, eo16⟩ := Kd.R_slice HO298.out; subst eo16) | ((with_reducible refine gate_callee (f := 49) rfl ?_); refine goesL_ (some 15) rfl rfl Try.func49 (by kernel_rfl) rfl #[.pointer (some ⟨g, 0, none⟩), .slice Ao16 y296.length co16] rfl (by (try simp only [List.map_toArray, List.map_cons, List.map_nil]); first | done | rfl | (simp only [List.length_drop, List.length_take]; rfl)) ?_; (with_reducible refine (spec_l1Rd_one.calls k g s0_0 t295 _ _ y296 t299 t300 w0 _ ?side1 ?side2 ?side3 ?side4 ?side5 A6.out).mono ?_); (case side1 => repeat (first | (with_reducible first | exact HI0.out | apply IsS92.alloc | apply IsS92.drewN | apply IsS92.drew | apply IsS92.set_1) | exact HI0.out)); (case side2 => repeat (first | (with_reducible first | exact HB.out | apply below_alloc | apply pw_below_drewN | apply below_drew1 | refine below_set ?_ (IsS92.ge HI0.out)) | exact HB.out)); (case side3 => repeat (first | exact (Kd.R_reads' HO298.out).2.2 | (with_reducible refine Kd.C_alloc ?_ _) | (with_reducible refine Kd.C_drewN ?_ _) | (with_reducible refine Kd.C_drew ?_))); (case side4 => exact (Kd.R_reads' HO298.out).2.1); (case side5 => exact far_slice (IsS92.own_ne HI0.out HO298.out (by decide))); rintro e w17 ⟨rfl, hi, hb, hk⟩; refine ⟨_, rfl, ?_⟩; have n0_ := Aside0.mk (Kd.R_mono (Kd.R_keep (IsS92.apart (show IsS92 w0 _ g s0_0 t295 from by repeat (first | (with_reducible first | exact HI0.out | apply IsS92.alloc | apply IsS92.drewN | apply IsS92.drew | apply IsS92.set_1) | exact HI0.out)) (by (with_reducible repeat (first | apply Kd.R_alloc | apply Kd.R_drewN | apply Kd.R_drew)); exact HO287.out) (by decide)) hk (fun _ h => h.2)) (fun _ h => h.1)); have n1_ := Aside0.mk (Kd.R_mono (Kd.R_keep (IsS92.apart (show IsS92 w0 _ g s0_0 t295 from by repeat (first | (with_reducible first | exact HI0.out | apply IsS92.alloc | apply IsS92.drewN | apply IsS92.drew | apply IsS92.set_1) | exact HI0.out)) (by (with_reducible repeat (first | apply Kd.R_alloc | apply Kd.R_drewN | apply Kd.R_drew)); exact HO293.out) (by decide)) hk (fun _ h => h.2)) (fun _ h => h.1)); have n2_ := Aside0.mk (Kd.R_mono (Kd.R_keep (IsS92.apart (show IsS92 w0 _ g s0_0 t295 from by repeat (first | (with_reducible first | exact HI0.out | apply IsS92.alloc | apply IsS92.drewN | apply IsS92.drew | apply IsS92.set_1) | exact HI0.out)) (by (with_reducible repeat (first | apply Kd.R_alloc | apply Kd.R_drewN | apply Kd.R_drew)); exact HO298.out) (by decide)) hk (fun _ h => h.2)) (fun _ h => h.1)); have n3_ := Aside0.mk (KeepBut.trans (by repeat (first | (with_reducible first | exact HK.out | apply KeepBut.set_ | apply keep_drewN | apply keep_drew | apply keep_alloc) | exact HK.out)) hk (.inl rfl)); have n4_ := Aside0.mk (hb); have n5_ := Aside0.mk (hi); clear HO287; clear HO293; clear HO298; clear HK; clear HB; clear HI0; have HO287 := n0_; have HO293 := n1_; have HO298 := n2_; have HK := n3_; have HB := n4_; have HI0 := n5_; clear n0_ n1_ n2_ n3_ n4_ n5_; (try clear hb); (try clear hb2); (try clear hk); (try clear hi)) | ((with_reducible refine gate_builtin (b := .append) (xs := #[.tmp 9, .tmp 17]) rfl ?_); at_builtin; refine Kd.R_append k47 w.heap.size rfl (.tmp 9) (.tmp 17) 33 47 (.agg #[(.int .i64 0), (.int .i64 0)]) 16 rfl Try.underlying33 info47 rfl (by decide) (by omega) v286 t285 (⟨t294, t299⟩ : S47) [.int .i64 t294, .int .i64 t299] (fun _ => True) (fun _ => False) rfl rfl ?aP (fun _ hk => hk.elim) ?aF ?aO (Below.refl _ _) ?aS ?aL ?_; (case aP => exact k47_mkM _ _ _ (⟨t294, t299⟩ : S47)); (case aF => exact (fun _ _ => trivial)); (case aO => exact (by (with_reducible repeat (first | apply Kd.R_alloc | apply Kd.R_drewN | apply Kd.R_drew)); exact HO287.out)); (case aS => exact (keep_size (w := w) (g := g) (row := none) (by repeat (first | (with_reducible first | exact HK.out | apply KeepBut.set_ | apply keep_drewN | apply keep_drew | apply keep_alloc) | exact HK.out)))); (case aL => have := LMc7.out; omega); intro v302 w18 ho hb hg hat; rw [← Ny301.out] at ho; have n0_ := Aside0.mk (IsS92.grown (by repeat (first | (with_reducible first | exact HI0.out | apply IsS92.alloc | apply IsS92.drewN | apply IsS92.drew | apply IsS92.set_1) | exact HI0.out)) hg (IsS92.own_ne HI0.out HO287.out (by decide))); have n1_ := Aside0.mk (Kd.R_over' (by (with_reducible repeat (first | apply Kd.R_alloc | apply Kd.R_drewN | apply Kd.R_drew)); exact HO293.out) (Kd.R_typed (by (with_reducible repeat (first | apply Kd.R_alloc | apply Kd.R_drewN | apply Kd.R_drew)); exact HO287.out)) (by decide) hg); have n2_ := Aside0.mk (Kd.R_over' (by (with_reducible repeat (first | apply Kd.R_alloc | apply Kd.R_drewN | apply Kd.R_drew)); exact HO298.out) (Kd.R_typed (by (with_reducible repeat (first | apply Kd.R_alloc | apply Kd.R_drewN | apply Kd.R_drew)); exact HO287.out)) (by decide) hg); have n3_ := Aside0.mk (below_weaken (by repeat (first | (with_reducible first | exact HB.out | apply below_alloc | apply pw_below_drewN | apply below_drew1 | refine below_set ?_ (IsS92.ge HI0.out)) | exact HB.out)) HL.out hb); have n4_ := Aside0.mk (KeepBut.trans (by repeat (first | (with_reducible first | exact HK.out | apply KeepBut.set_ | apply keep_drewN | apply keep_drew | apply keep_alloc) | exact HK.out)) (KeepBut.of_grown hg g) (Kd.R_base2 HO287.out)); have n5_ := Aside0.mk (ho); clear HI0; clear HO293; clear HO298; clear HB; clear HK; clear HO287; have HI0 := n0_; have HO293 := n1_; have HO298 := n2_; have HB := n3_; have HK := n4_; have HO303 := n5_; clear n0_ n1_ n2_ n3_ n4_ n5_; clear ho hb hg hat))
      go_ret
      exact ⟨_, by first | rfl | (simp [errW_none, errW_some] <;> rfl) | (simp [*, errW_none, errW_some] <;> rfl), by (with_reducible repeat (first | apply Kd.R_alloc | apply Kd.R_drewN | apply Kd.R_drew)); exact HO303.out, by repeat (first | (with_reducible first | exact HI0.out | apply IsS92.alloc | apply IsS92.drewN | apply IsS92.drew | apply IsS92.set_1) | exact HI0.out), by repeat (first | (with_reducible first | exact HB.out | apply below_alloc | apply pw_below_drewN | apply below_drew1 | refine below_set ?_ (IsS92.ge HI0.out)) | exact HB.out), by repeat (first | (with_reducible first | exact HK.out | apply KeepBut.set_ | apply keep_drewN | apply keep_drew | apply keep_alloc) | exact HK.out)⟩
    · rw [if_neg c7] at H
      exact absurd H (by simp)
  · rw [if_neg c4] at H
    have c4b0 : (t289 == 0) = false := beq_eq_false_iff_ne.mpr c4
    have c4b1 : (t289 != 0) = true := bne_iff_ne.mpr c4
    simp only [Option.some.injEq, Prod.mk.injEq] at H
    obtain ⟨rfl, rfl⟩ := H
    go_enter Try.func58, Try.ntmps58
    go_wp2_with (first | ((with_reducible refine gate_callee (f := 68) rfl ?_); refine goesL_ (some 5) rfl rfl Try.func68 (by kernel_rfl) rfl #[.pointer (some ⟨g, 0, none⟩)] rfl (by (try simp only [List.map_toArray, List.map_cons, List.map_nil]); first | done | rfl | (simp only [List.length_drop, List.length_take]; rfl)) ?_; (with_reducible refine (spec_l11Pieces.calls k g s0_0 s0_1 t285 t288 w0 _ ?side1 ?side2 A2.out).mono ?_); (case side1 => repeat (first | (with_reducible first | exact HI0.out | apply IsS92.alloc | apply IsS92.drewN | apply IsS92.drew | apply IsS92.set_1) | exact HI0.out)); (case side2 => repeat (first | (with_reducible first | exact HB.out | apply below_alloc | apply pw_below_drewN | apply below_drew1 | refine below_set ?_ (IsS92.ge HI0.out)) | exact HB.out)); rintro e w19 ⟨v286, rfl, ho0, hi, hb, hk⟩; refine ⟨_, rfl, ?_⟩; have n0_ := Aside0.mk (Kd.R_lower ho0 (keep_size (w := w) (g := g) (row := none) (by repeat (first | (with_reducible first | exact HK.out | apply KeepBut.set_ | apply keep_drewN | apply keep_drew | apply keep_alloc) | exact HK.out)))); have n1_ := Aside0.mk (KeepBut.trans (by repeat (first | (with_reducible first | exact HK.out | apply KeepBut.set_ | apply keep_drewN | apply keep_drew | apply keep_alloc) | exact HK.out)) hk (.inl rfl)); have n2_ := Aside0.mk (hb); have n3_ := Aside0.mk (hi); clear HK; clear HB; clear HI0; have HO287 := n0_; have HK := n1_; have HB := n2_; have HI0 := n3_; clear n0_ n1_ n2_ n3_; (try clear hb); (try clear hb2); (try clear hk); (try clear hi); (try clear ho0)) | ((with_reducible refine gate_callee (f := 48) rfl ?_); refine goesL_ (some 7) rfl rfl Try.func48 (by kernel_rfl) rfl #[.pointer (some ⟨g, 0, none⟩), .int .i64 8] rfl (by (try simp only [List.map_toArray, List.map_cons, List.map_nil]); first | done | rfl | (simp only [List.length_drop, List.length_take]; rfl)) ?_; (with_reducible refine (spec_l1Rd_pick.calls k g s0_0 t288 8 t289 t290 w0 _ ?side1 ?side2 A3.out).mono ?_); (case side1 => repeat (first | (with_reducible first | exact HI0.out | apply IsS92.alloc | apply IsS92.drewN | apply IsS92.drew | apply IsS92.set_1) | exact HI0.out)); (case side2 => repeat (first | (with_reducible first | exact HB.out | apply below_alloc | apply pw_below_drewN | apply below_drew1 | refine below_set ?_ (IsS92.ge HI0.out)) | exact HB.out)); rintro e w20 ⟨rfl, hi, hb, hk⟩; refine ⟨_, rfl, ?_⟩; have n0_ := Aside0.mk (Kd.R_mono (Kd.R_keep (IsS92.apart (show IsS92 w0 _ g s0_0 t288 from by repeat (first | (with_reducible first | exact HI0.out | apply IsS92.alloc | apply IsS92.drewN | apply IsS92.drew | apply IsS92.set_1) | exact HI0.out)) (by (with_reducible repeat (first | apply Kd.R_alloc | apply Kd.R_drewN | apply Kd.R_drew)); exact HO287.out) (by decide)) hk (fun _ h => h.2)) (fun _ h => h.1)); have n1_ := Aside0.mk (KeepBut.trans (by repeat (first | (with_reducible first | exact HK.out | apply KeepBut.set_ | apply keep_drewN | apply keep_drew | apply keep_alloc) | exact HK.out)) hk (.inl rfl)); have n2_ := Aside0.mk (hb); have n3_ := Aside0.mk (hi); clear HO287; clear HK; clear HB; clear HI0; have HO287 := n0_; have HK := n1_; have HB := n2_; have HI0 := n3_; clear n0_ n1_ n2_ n3_; (try clear hb); (try clear hb2); (try clear hk); (try clear hi)))
    go_ret
    exact ⟨_, by first | rfl | (simp [errW_none, errW_some] <;> rfl) | (simp [*, errW_none, errW_some] <;> rfl), by (with_reducible repeat (first | apply Kd.R_alloc | apply Kd.R_drewN | apply Kd.R_drew)); exact HO287.out, by repeat (first | (with_reducible first | exact HI0.out | apply IsS92.alloc | apply IsS92.drewN | apply IsS92.drew | apply IsS92.set_1) | exact HI0.out), by repeat (first | (with_reducible first | exact HB.out | apply below_alloc | apply pw_below_drewN | apply below_drew1 | refine below_set ?_ (IsS92.ge HI0.out)) | exact HB.out), by repeat (first | (with_reducible first | exact HK.out | apply KeepBut.set_ | apply keep_drewN | apply keep_drew | apply keep_alloc) | exact HK.out)⟩

/-! ### spec_DrawBitsLong: function 32 -/
def spec_DrawBitsLong.f (k : Nat) (l0 : List Int) : Option ((List (S47))) := (spec_l1Open.f l0).bind fun bt304 => ((spec_l11AnyPieces.f k bt304.1 bt304.2).bind fun bt307 => (some bt307.1))
theorem spec_DrawBitsLong.mono : ∀ a0 k, LeO (spec_DrawBitsLong.f k a0) (spec_DrawBitsLong.f (k + 1) a0) := by
  intro a0 k
  unfold spec_DrawBitsLong.f
  repeat' first
      | (with_reducible exact spec_l11AnyPieces.mono _ _ _)
      | (with_reducible exact LeO.refl _)
      | (with_reducible exact LeO.none _)
      | (with_reducible refine LeO.ite ?_ ?_)
      | (with_reducible refine LeO.bind ?_ (fun _ => ?_))
      | exact spec_l11AnyPieces.mono _ _ _
      | exact LeO.none _
      | refine LeO.ite ?_ ?_
      | refine LeO.bind ?_ (fun _ => ?_)
set_option maxHeartbeats 8000000 in
set_option maxRecDepth 100000 in
theorem spec_DrawBitsLong.calls (k : Nat) (A0 : Option Addr) (c0 : Nat) (l0 : List Int) (r : List (S47)) (w : World) (hr0 : Kd.C (Kd.int .u8) w A0 l0.length l0) (hc0 : l0.length ≤ c0) (h : spec_DrawBitsLong.f k l0 = some r) :
    Calls Try.prog 32 #[.slice A0 l0.length c0] w fun e w' => ∃ v0_ : Value, e = .returned (v0_) ∧ Kd.R k47 47 w' w.heap.size (fun _ => True) v0_ r ∧ Below w.heap.size w w' := by
  have HR0 := Aside0.mk hr0
  have HC0 := Aside0.mk hc0
  clear hr0 hc0
  have HB := Aside0.mk (Below.refl w.heap.size w)
  have H : ((spec_l1Open.f l0).bind fun bt304 => ((spec_l11AnyPieces.f k bt304.1 bt304.2).bind fun bt307 => (some bt307.1))) = some r := h
  clear h
  replace H := Option.bind_eq_some_iff.mp H
  obtain ⟨⟨t304, t305⟩, A20, H⟩ := H
  replace H : ((spec_l11AnyPieces.f k t304 t305).bind fun bt307 => (some bt307.1)) = some r := H
  have A2 := Aside0.mk A20
  clear A20
  replace H := Option.bind_eq_some_iff.mp H
  obtain ⟨⟨t307, t310⟩, A30, H⟩ := H
  replace H : (some t307) = some r := H
  have A3 := Aside0.mk A30
  clear A30
  obtain rfl := Option.some.inj H
  go_enter Try.func32, Try.ntmps32
  go_wp2_with (first | ((with_reducible refine gate_callee (f := 47) rfl ?_); refine goesL_ (some 4) rfl rfl Try.func47 (by kernel_rfl) rfl #[.slice A0 l0.length c0] rfl (by (try simp only [List.map_toArray, List.map_cons, List.map_nil]); first | done | rfl | (simp only [List.length_drop, List.length_take]; rfl)) ?_; (with_reducible refine (spec_l1Open.calls _ _ l0 t304 t305 w _ ?side1 ?side2 ?side3 A2.out).mono ?_); (case side1 => repeat (first | (with_reducible first | exact HB.out | apply below_alloc | apply pw_below_drewN | apply below_drew1) | exact HB.out)); (case side2 => exact HR0.out); (case side3 => exact HC0.out); rintro e w4 ⟨g306, rfl, hi, hb, hb2⟩; refine ⟨_, rfl, ?_⟩; have n0_ := Aside0.mk (hb); have n1_ := Aside0.mk (hi); clear HB; have HB := n0_; have HI306 := n1_; clear n0_ n1_; (try clear hb); (try clear hb2); (try clear hk); (try clear hi)) | ((with_reducible refine gate_callee (f := 58) rfl ?_); refine goesL_ (some 5) rfl rfl Try.func58 (by kernel_rfl) rfl #[.pointer (some ⟨g306, 0, none⟩)] rfl (by (try simp only [List.map_toArray, List.map_cons, List.map_nil]); first | done | rfl | (simp only [List.length_drop, List.length_take]; rfl)) ?_; (with_reducible refine (spec_l11AnyPieces.calls k g306 t304 t305 t307 t310 w _ ?side1 ?side2 A3.out).mono ?_); (case side1 => repeat (first | (with_reducible first | exact HI306.out | apply IsS92.alloc | apply IsS92.drewN | apply IsS92.drew | apply IsS92.set_1) | exact HI306.out)); (case side2 => repeat (first | (with_reducible first | exact HB.out | apply below_alloc | apply pw_below_drewN | apply below_drew1 | refine below_set ?_ (IsS92.ge HI306.out)) | exact HB.out)); rintro e w5 ⟨v308, rfl, ho0, hi, hb, hk⟩; refine ⟨_, rfl, ?_⟩; have n0_ := Aside0.mk (Kd.R_lower ho0 (below_size (by repeat (first | (with_reducible first | exact HB.out | apply below_alloc | apply pw_below_drewN | apply below_drew1 | refine below_set ?_ (IsS92.ge HI306.out)) | exact HB.out)))); have n1_ := Aside0.mk (hb); have n2_ := Aside0.mk (hi); clear HB; clear HI306; have HO309 := n0_; have HB := n1_; have HI306 := n2_; clear n0_ n1_ n2_; (try clear hb); (try clear hb2); (try clear hk); (try clear hi); (try clear ho0)))
  go_ret
  exact ⟨_, by first | rfl | (simp [errW_none, errW_some] <;> rfl) | (simp [*, errW_none, errW_some] <;> rfl), by (with_reducible repeat (first | apply Kd.R_alloc | apply Kd.R_drewN | apply Kd.R_drew)); exact HO309.out, by repeat (first | (with_reducible first | exact HB.out | apply below_alloc | apply pw_below_drewN | apply below_drew1 | refine below_set ?_ (IsS92.ge HI306.out)) | exact HB.out)⟩

/-! ### impl_BitsPut: function 33 -/
theorem w64_ {x : Int} (h0 : -9223372036854775808 ≤ x) (h1 : x ≤ 9223372036854775807) : wrap64 x = x := by
  unfold wrap64
  omega
theorem info_u8 : (Try.prog.info? 5).map (fun i => (i.zero, i.size, i.bytes)) = some (some (.int .u8 0), 1, 1) := by kernel_rfl
theorem nums_get (bs : List Int) {i : Nat} (h : i < bs.length) : (nums .u8 bs)[i]? = some (.int .u8 (rd bs (i : Int))) := by
  simp [nums, rd, List.getElem?_eq_getElem h]
theorem nums_set (bs : List Int) (i : Nat) (x : Int) : (nums .u8 bs).set i (.int .u8 x) = nums .u8 (bs.set i x) := by
  simp [nums, List.map_set]
/-- A writer: its row of bytes is the call's own. -/
def IsWr (base : Nat) (W : World) (g : Nat) (v : Value) (bs : List Int) (m : Nat) : Prop :=
  W.heap[g]? = some (.cells #[v, .int .i64 (m : Int)] 78 (0, 0)) ∧ base ≤ g ∧ W.ownsRow base 5 1 v bs.length (nums .u8 bs) ∧ v.ownBlock ≠ some g
theorem IsWr.step {base : Nat} {W : World} {g b cap : Nat} {bs : List Int} {m : Nat} (h : IsWr base W g (.slice (some ⟨b, 0, none⟩) bs.length cap) bs m) (x : Int) (j : Nat) :
    IsWr base (((W.setCell ⟨b, j, none⟩ (.int .u8 x)).setCell ⟨g, 1, none⟩ (.int .i64 ((m : Int) + 1))).drew) g (.slice (some ⟨b, 0, none⟩) bs.length cap) (bs.set j x) (m + 1) := by
  obtain ⟨hb, hge, hown, hne⟩ := h
  have hbg : g ≠ b := fun h => hne (by simp [Value.ownBlock, h])
  obtain ⟨h1, _⟩ := hown.stored j (.int .u8 x)
  refine ⟨?_, hge, ?_, hne⟩
  · have h2 := blk_set (blk_far hb (p := ⟨b, j, none⟩) hbg (.int .u8 x)) 1 (.int .i64 ((m : Int) + 1))
    exact h2
  · have h3 : ((W.setCell ⟨b, j, none⟩ (.int .u8 x)).setCell ⟨g, 1, none⟩ (.int .i64 ((m : Int) + 1))).ownsRow base 5 1 (.slice (some ⟨b, 0, none⟩) bs.length cap) bs.length (nums .u8 (bs.set j x)) := by
      rw [nums_set] at h1
      refine h1.kept (row := some g) ⟨rfl, rfl, rfl, by simp, fun k _ hk => heap_setCell_other _ ⟨g, 1, none⟩ k _ (fun e => hk (by simp [e]))⟩ (.inr hne)
    rw [List.length_set]
    exact h3
def one (num : Int) (k : Nat) (s : List Int × Nat) : List Int × Nat :=
  if s.2 % 8 = 0 then ((s.1 ++ [0]).set (s.2 / 8) (Go.bits .or .u8 (rd (s.1 ++ [0]) ((s.2 : Int) / 8)) ((wrap64 (Go.bits .and .i64 (num / 2 ^ k) 1 * 2 ^ (s.2 % 8))) % 256)), s.2 + 1)
  else (s.1.set (s.2 / 8) (Go.bits .or .u8 (rd s.1 ((s.2 : Int) / 8)) ((wrap64 (Go.bits .and .i64 (num / 2 ^ k) 1 * 2 ^ (s.2 % 8))) % 256)), s.2 + 1)
def ones (num : Int) : Nat → List Int × Nat → List Int × Nat
  | 0, s => s
  | k + 1, s => one num k (ones num k s)
theorem one_snd (num : Int) (k : Nat) (s : List Int × Nat) : (one num k s).2 = s.2 + 1 := by
  unfold one; split <;> rfl
theorem ones_snd (num : Int) (s : List Int × Nat) : ∀ k, (ones num k s).2 = s.2 + k
  | 0 => rfl
  | k + 1 => by rw [ones, one_snd, ones_snd]; omega
def Good (s : List Int × Nat) : Prop := s.1.length = (s.2 + 7) / 8
theorem one_good (num : Int) (k : Nat) (s : List Int × Nat) (h : Good s) : Good (one num k s) := by
  unfold Good at *
  rw [one_snd]
  unfold one
  split <;> simp <;> omega
theorem ones_good (num : Int) (s : List Int × Nat) (h : Good s) : ∀ k, Good (ones num k s)
  | 0 => h
  | k + 1 => one_good _ _ _ (ones_good num s h k)
set_option maxHeartbeats 8000000 in
set_option maxRecDepth 100000 in
theorem put_calls (num : Int) (n : Nat) (base : Nat) (W : World) (g : Nat) (v : Value) (bs : List Int) (m : Nat) (hI : IsWr base W g v bs m) (hbase : base ≤ W.heap.size) (hn : n ≤ 16) (hm : m ≤ 1000000) (hg : Good (bs, m)) :
    Calls Try.prog 59 #[.pointer (some ⟨g, 0, none⟩), .int .i64 num, .int .i64 (n : Int)] W fun e W' => ∃ v', e = .returned (.tuple #[]) ∧ IsWr base W' g v' (ones num n (bs, m)).1 (ones num n (bs, m)).2 ∧ Below base W W' := by
  have HI := Aside0.mk hI
  clear hI
  have HG := Aside0.mk hg
  clear hg
  obtain ⟨i0, hi, hz0, hz1, hz2⟩ := info_parts info_u8
  go_enter Try.func59, Try.ntmps59
  go_wp2
  go_loopw [8] (fun v8 wr => ∃ k : Nat, v8 = .int .i64 (k : Int) ∧ Aside0 (k ≤ n) ∧ Aside0 (∃ v', IsWr base wr g v' (ones num k (bs, m)).1 (ones num k (bs, m)).2) ∧ Aside0 (Below base W wr)) (fun v8 _ => n - (intOf v8).toNat)
  case atStart => exact ⟨0, rfl, ⟨Nat.zero_le _⟩, ⟨v, HI.out⟩, ⟨Below.refl _ _⟩⟩
  case round =>
    obtain ⟨k, rfl, hk, hI', hB⟩ := hrel
    by_cases hlt : k < n
    · have hdk : decide (k < n) = true := decide_eq_true hlt
      obtain ⟨v1, hv1⟩ := hI'.out
      clear hI'
      obtain ⟨s1, hs1⟩ : ∃ s1, s1 = (ones num k (bs, m)) := ⟨_, rfl⟩
      have hG1 := ones_good num (bs, m) HG.out k
      rw [← hs1] at hv1 hG1
      have hs := Aside0.mk hs1
      clear hs1
      obtain ⟨bs1, m1⟩ := s1
      have hm1 : m1 ≤ 1000016 := by have := ones_snd num (bs, m) k; rw [← hs.out] at this; simp at this; omega
      have hv1 : IsWr base wr g v1 bs1 m1 := hv1
      obtain ⟨hb1, hge, hown, hne⟩ := id hv1
      have hlen : bs1.length = (m1 + 7) / 8 := hG1
      have hdk' : True := trivial
      by_cases h8 : m1 % 8 = 0
      · have h8' : (((m1 : Int) % 8) == 0) = true := by simp; omega
        have h8o := Aside0.mk h8
        have hBsz : base ≤ wr.heap.size := by have := hB.out.size; omega
        have HV := Aside0.mk hv1
        have c0 := (blk_cell hb1 0).trans rfl
        have c1 := (blk_cell hb1 1).trans rfl
        have f0 := blk_frozen hb1 0
        have f1 := blk_frozen hb1 1
        have HL := Aside0.mk hlen
        have HGE := Aside0.mk hge
        have HNE := Aside0.mk hne
        have HO := Aside0.mk hown
        have HM := Aside0.mk hm1
        clear hlen hge hne hown hG1 h8 hv1 hm1
        go_wp2_with (at_builtin; refine wpList_append_own _ rfl (.tmp 21) (.tmp 22) 24 rfl base 5 i0 (.int .u8 0) 1 1 Try.underlying24 hi hz0 hz1 hz2 rfl (by decide) v1 bs1.length (nums .u8 bs1) rfl (HO.out.alloc _) ⟨wr.heap.size, 0, none⟩ 1 1 [.int .u8 0] rfl rfl ?c1 ?c2 ?c3 ?c4 ?c5 ?_)
        case c2 => first | rfl | (intro u hu; simp at hu; subst hu; rfl)
        case c3 => have := HL.out; have := HM.out; unfold maxLen; omega
        case c4 => have := HL.out; have := HM.out; omega
        case c5 => first | omega | (simp; omega)
        intro v' w1 hown1 hgrow _
        have hne1 : v1.ownBlock ≠ some g := HNE.out
        have hb2 : w1.heap[g]? = some (.cells #[v1, .int .i64 (m1 : Int)] 78 (0, 0)) := blk_grown (blk_below hb1 (below_alloc (Below.refl _ _) _)) hgrow (Ne.symm hne1)
        have hB1 : Below base W w1 := (hB.out.alloc hBsz _).grown hgrow (by simp; omega) (fun k hk => (HO.out.lt k hk).1)
        obtain ⟨b, cap, cur, rfl, hbb, hbc, hnc, hcm, hcs, hct⟩ : ∃ b cap cur, v' = .slice (some ⟨b, 0, none⟩) (bs1.length + 1) cap ∧ base ≤ b ∧ w1.heap[b]? = some (.cells cur 5 (0, 0)) ∧ bs1.length + 1 ≤ cap ∧ cap ≤ maxLen ∧ cur.size = cap * 1 ∧ cur.toList.take ((bs1.length + 1) * 1) = nums .u8 bs1 ++ [.int .u8 0] := by
          rcases hown1.2 with ⟨_, h⟩ | h
          · omega
          · exact h
        have hgb : b ≠ g := by
          rintro rfl
          rw [hb2] at hbc
          injection hbc with hbc
          injection hbc with _ h
          exact absurd h (by decide)
        have d0 := (blk_cell hb2 0).trans rfl
        have d1 := (blk_cell hb2 1).trans rfl
        have e0 := blk_frozen hb2 0
        have e1 := blk_frozen hb2 1
        have HO1 := Aside0.mk hown1
        have HB2 := Aside0.mk hb2
        have HB1 := Aside0.mk hB1
        have HBB := Aside0.mk hbb
        have HGB := Aside0.mk hgb
        clear hown1 hgrow hne1 hb2 hB1 hbc hnc hcm hcs hct c0 c1 f0 f1 hbb hgb h8'
        go_wp2
        obtain ⟨w2, hw2⟩ : ∃ w2, w2 = w1.setCell ⟨g, 0, none⟩ (.slice (some ⟨b, 0, none⟩) (bs1.length + 1) cap) := ⟨_, rfl⟩
        rw [← hw2]
        obtain ⟨bs2, hbs2'⟩ : ∃ bs2, bs2 = bs1 ++ [0] := ⟨_, rfl⟩
        have HS2 := Aside0.mk hbs2'
        have hbs2 := hbs2'
        clear hbs2'
        have hl2 : bs2.length = bs1.length + 1 := by rw [hbs2]; simp
        have hv1 : IsWr base w2 g (.slice (some ⟨b, 0, none⟩) bs2.length cap) bs2 m1 := by
          rw [hw2, hl2]
          refine ⟨blk_set HB2.out 0 _, HGE.out, ?_, by simp [Value.ownBlock]; exact HGB.out⟩
          refine World.ownsRow.kept (w := w1) (row := some g) ?_ ⟨rfl, rfl, rfl, by simp, fun k _ hk => heap_setCell_other _ ⟨g, 0, none⟩ k _ (fun e => hk (by simp [e]))⟩ (.inr (by simp [Value.ownBlock]; exact HGB.out))
          have := HO1.out
          rw [hbs2]
          simpa [nums] using this
        have hB' : Aside0 (Below base W w2) := ⟨by rw [hw2]; exact HB1.out.setCell HGE.out _⟩
        have hbb' := HBB.out
        have hge := HGE.out
        have hbb := hbb'
        have hm1 := HM.out
        have hlen : bs2.length = m1 / 8 + 1 := by have := HL.out; have := h8o.out; omega
        rw [← hl2]
        clear hbs2
        have HL2 := Aside0.mk hl2
        clear hw2 d0 d1 e0 e1 HO1 HB2 HB1 hl2
        obtain ⟨hb1, _, hown, hne⟩ := id hv1

        have hlt8 : m1 / 8 < bs2.length := by omega
        have hcell := hown.cellAt (m1 / 8) (by omega)
        have hfro := hown.frozenAt (m1 / 8)
        rw [nums_get bs2 hlt8] at hcell
        have hbg : b ≠ g := fun h => hne (by simp [Value.ownBlock, h])
        have c0 := (blk_cell hb1 0).trans rfl
        have c1 := (blk_cell hb1 1).trans rfl
        have f0 := blk_frozen hb1 0
        have f1 := blk_frozen hb1 1
        have hst := fun x : Int => IsWr.step hv1 x (m1 / 8)
        have HST := Aside0.mk hst
        have hq : ((m1 : Int) / 8) < (bs2.length : Int) := by omega
        have hq0 : 0 ≤ (m1 : Int) / 8 := by omega
        have hwq : IntKind.i64.wrap ((m1 : Int) / 8) = (m1 : Int) / 8 := IntWalk.i64_in _ (by omega)
        have hwt : ((m1 : Int) / 8).toNat = m1 / 8 := by omega
        have htm : (m1 : Int).tmod 8 = (m1 : Int) % 8 := Int.tmod_eq_emod_of_nonneg (by omega)
        have hr0 : 0 ≤ (m1 : Int) % 8 := by omega
        have hr1 : (m1 : Int) % 8 ≤ 64 := by omega
        have hrt : ((m1 : Int) % 8).toNat = m1 % 8 := by omega
        have hbg' : g ≠ b := Ne.symm hbg
        have hk16 : k ≤ 16 := by have := hk.out; omega
        clear hst hlen hlt8 hne hv1 hb1 hown hbb hdk'
        skip
        go_still_tail 24, (by kernel_rfl)
        change wpList _ _ _ _ _ w2.drew
        go_wp2
        refine ⟨⟨k + 1, ?_, ?_, ?_, ?_⟩, ?_⟩
        · rfl
        · exact ⟨by omega⟩
        · refine ⟨⟨.slice (some ⟨b, 0, none⟩) bs2.length cap, ?_⟩⟩
          rw [ones, ← hs.out]
          have h9 : m1 % 8 = 0 := h8o.out
          simp only [one, if_pos h9]
          rw [← HS2.out]
          exact HST.out _
        · refine ⟨Below.drew (Below.setCell (Below.setCell hB'.out ?_ _) ?_ _)⟩
          · exact hbb'
          · exact hge
        · simp [intOf]; omega

      · have h8' : (((m1 : Int) % 8) == 0) = false := by simp; omega
        have h8o := Aside0.mk h8
        have hB' := hB
        obtain ⟨b, cap, cur, rfl, hbb, hbc, hnc, hcm, hcs, hct⟩ : ∃ b cap cur, v1 = .slice (some ⟨b, 0, none⟩) bs1.length cap ∧ base ≤ b ∧ wr.heap[b]? = some (.cells cur 5 (0, 0)) ∧ bs1.length ≤ cap ∧ cap ≤ maxLen ∧ cur.size = cap * 1 ∧ cur.toList.take (bs1.length * 1) = nums .u8 bs1 := by
          rcases hown.2 with ⟨_, h⟩ | h
          · omega
          · exact h
        have hbb' := hbb
        have hlen9 : m1 / 8 < bs1.length := by omega
        clear hG1 h8 hlen hbc hnc hcm hcs hct
        have hlen := hlen9
        clear hlen9

        have hlt8 : m1 / 8 < bs1.length := by omega
        have hcell := hown.cellAt (m1 / 8) (by omega)
        have hfro := hown.frozenAt (m1 / 8)
        rw [nums_get bs1 hlt8] at hcell
        have hbg : b ≠ g := fun h => hne (by simp [Value.ownBlock, h])
        have c0 := (blk_cell hb1 0).trans rfl
        have c1 := (blk_cell hb1 1).trans rfl
        have f0 := blk_frozen hb1 0
        have f1 := blk_frozen hb1 1
        have hst := fun x : Int => IsWr.step hv1 x (m1 / 8)
        have HST := Aside0.mk hst
        have hq : ((m1 : Int) / 8) < (bs1.length : Int) := by omega
        have hq0 : 0 ≤ (m1 : Int) / 8 := by omega
        have hwq : IntKind.i64.wrap ((m1 : Int) / 8) = (m1 : Int) / 8 := IntWalk.i64_in _ (by omega)
        have hwt : ((m1 : Int) / 8).toNat = m1 / 8 := by omega
        have htm : (m1 : Int).tmod 8 = (m1 : Int) % 8 := Int.tmod_eq_emod_of_nonneg (by omega)
        have hr0 : 0 ≤ (m1 : Int) % 8 := by omega
        have hr1 : (m1 : Int) % 8 ≤ 64 := by omega
        have hrt : ((m1 : Int) % 8).toNat = m1 % 8 := by omega
        have hbg' : g ≠ b := Ne.symm hbg
        have hk16 : k ≤ 16 := by have := hk.out; omega
        clear hst hlen hlt8 hne hv1 hb1 hown hbb hdk'
        go_wp2
        go_still_tail 24, (by kernel_rfl)
        change wpList _ _ _ _ _ wr.drew
        go_wp2
        refine ⟨⟨k + 1, ?_, ?_, ?_, ?_⟩, ?_⟩
        · rfl
        · exact ⟨by omega⟩
        · refine ⟨⟨.slice (some ⟨b, 0, none⟩) bs1.length cap, ?_⟩⟩
          rw [ones, ← hs.out]
          have h9 : ¬ m1 % 8 = 0 := h8o.out
          simp only [one, if_neg h9]
          exact HST.out _
        · refine ⟨Below.drew (Below.setCell (Below.setCell hB'.out ?_ _) ?_ _)⟩
          · exact hbb'
          · exact hge
        · simp [intOf]; omega

    · have hdk : decide (k < n) = false := decide_eq_false hlt
      have hkn : k = n := by have := hk.out; omega
      subst hkn
      go_wp2
      go_end0
      obtain ⟨v2, hv2⟩ := hI'.out
      first | exact ⟨v2, rfl, hv2, hB.out⟩ | exact ⟨rfl, ⟨v2, hv2⟩, hB.out⟩
/-- Numbers of at most 16 bits, at most 4000 of them. -/
def fitB (l : List S47) : Bool := decide (l.length ≤ 4000) && l.all (fun p => decide (0 ≤ p.f0) && (decide (p.f0 ≤ 65535) && (decide (0 ≤ p.f1) && decide (p.f1 ≤ 16))))
def implSt (l : List S47) (s : List Int × Nat) : List Int × Nat := l.foldl (fun s p => ones p.f0 p.f1.toNat s) s
def impl_BitsPut.f (k : Nat) (l0 : List S47) : Option ByteArray :=
  (impl_piecesOk.f k l0).bind fun t => if t = true then (if fitB l0 = true then some (strOfNums (implSt l0 ([], 0)).1) else none) else some ⟨#[]⟩
theorem impl_BitsPut.mono : ∀ a0 k, LeO (impl_BitsPut.f k a0) (impl_BitsPut.f (k + 1) a0) := by
  intro a0 k
  unfold impl_BitsPut.f
  exact LeO.bind (impl_piecesOk.mono _ _) (fun _ => LeO.refl _)
theorem fit_len {l : List S47} (h : fitB l = true) : l.length ≤ 4000 := by
  simp only [fitB, Bool.and_eq_true, decide_eq_true_eq] at h
  exact h.1
theorem fit_at {l : List S47} (h : fitB l = true) {i : Nat} (hi : i < l.length) : ∃ n : Nat, (rd_T47 l (i : Int)).f1 = (n : Int) ∧ n ≤ 16 ∧ 0 ≤ (rd_T47 l (i : Int)).f0 ∧ (rd_T47 l (i : Int)).f0 ≤ 65535 := by
  simp only [fitB, Bool.and_eq_true, decide_eq_true_eq, List.all_eq_true] at h
  have e : rd_T47 l (i : Int) = l[i] := by simp [rd_T47, List.getElem?_eq_getElem hi]
  rw [e]
  obtain ⟨h1, h2, h3, h4⟩ := h.2 l[i] (List.getElem_mem hi)
  exact ⟨l[i].f1.toNat, by omega, by omega, h1, h2⟩
theorem implSt_take (l : List S47) (s : List Int × Nat) {i : Nat} (hi : i < l.length) : implSt (l.take (i + 1)) s = ones (rd_T47 l (i : Int)).f0 (rd_T47 l (i : Int)).f1.toNat (implSt (l.take i) s) := by
  have e : rd_T47 l (i : Int) = l[i] := by simp [rd_T47, List.getElem?_eq_getElem hi]
  unfold implSt
  rw [List.take_succ_eq_append_getElem hi, List.foldl_append, e]
  rfl
theorem implSt_good (l : List S47) (s : List Int × Nat) (h : Good s) : Good (implSt l s) := by
  induction l generalizing s with
  | nil => exact h
  | cons p l ih => exact ih _ (ones_good _ _ h _)
theorem implSt_snd {l : List S47} (h : fitB l = true) : ∀ i, i ≤ l.length → (implSt (l.take i) ([], 0)).2 ≤ 16 * i := by
  intro i
  induction i with
  | zero => intro _; simp [implSt]
  | succ i ih =>
    intro hi
    obtain ⟨n, hn, hn16, _⟩ := fit_at h (i := i) (by omega)
    rw [implSt_take l _ (by omega), ones_snd, hn, Int.toNat_natCast]
    have := ih (by omega)
    omega
theorem IsWr.below {base : Nat} {W W1 : World} {g : Nat} {v : Value} {bs : List Int} {m : Nat} (h : IsWr base W g v bs m) (hb : Below W.heap.size W W1) : IsWr base W1 g v bs m :=
  ⟨blk_below h.1 hb, h.2.1, pw_own_below h.2.2.1 hb, h.2.2.2⟩
set_option maxHeartbeats 8000000 in
set_option maxRecDepth 100000 in
theorem impl_BitsPut.calls (k : Nat) (A0 : Option Addr) (c0 : Nat) (l0 : List S47) (r : ByteArray) (w : World) (hr0 : Kd.C k47 w A0 l0.length l0) (hc0 : l0.length ≤ c0) (h : impl_BitsPut.f k l0 = some r) :
    Calls Try.prog 33 #[.slice A0 l0.length c0] w fun e w' => e = .returned (.string r) ∧ Below w.heap.size w w' := by
  have hu47 := Try.underlying47
  have hu78 := Try.underlying78
  have HR0 := Aside0.mk hr0
  have HC0 := Aside0.mk hc0
  clear hr0 hc0
  have HB := Aside0.mk (Below.refl w.heap.size w)
  unfold impl_BitsPut.f at h
  obtain ⟨t, A20, H⟩ := Option.bind_eq_some_iff.mp h
  clear h
  have A2 := Aside0.mk A20
  clear A20
  cases t with
  | true =>
    rw [if_pos rfl] at H
    by_cases hf : fitB l0 = true
    · rw [if_pos hf] at H
      obtain rfl := Option.some.inj H
      clear H
      have HF := Aside0.mk hf
      clear hf
      go_enter Try.func33, Try.ntmps33
      go_wp2_with (first | ((with_reducible refine gate_callee (f := 52) rfl ?_); refine goesL_ (some 7) rfl rfl Try.func52 (by kernel_rfl) rfl #[.slice A0 l0.length c0] rfl (by (try simp only [List.map_toArray, List.map_cons, List.map_nil]); first | done | rfl) ?_; (with_reducible refine (impl_piecesOk.calls k _ _ l0 true _ ?side1 ?side2 A2.out).mono ?_); (case side1 => exact HR0.out); (case side2 => exact HC0.out); rintro e w4 ⟨rfl, hb⟩; refine ⟨_, rfl, ?_⟩; have n0_ := Aside0.mk (below_step HB.out hb); clear HB; have HB := n0_; clear n0_; clear hb) | ((with_reducible refine gate_dst (N := 10) rfl ?_); refine box_event ?hg (N := 10) ?hd (cs := #[.slice none 0 0, .int .i64 0]) (t := 78) ?hr ?_; (case hd => rfl); (case hg => rfl); (case hr => first | (go_simp; done) | (go_simp; rfl)); intro g hg w5 hbox hb; have hge : w.heap.size ≤ g := (by rw [hg]; exact below_size HB.out); have n0_ := Aside0.mk (below_step HB.out hb); clear HB; have HB := n0_; clear n0_; have HI := Aside0.mk (show IsWr w.heap.size w5 g (.slice none 0 0) [] 0 from ⟨hbox, hge, own_nil _ _ _ _, by simp [Value.ownBlock]⟩); clear hb hbox hg hge))
      have HG := Aside0.mk (HB.out)
      go_loopw [13] (fun v13 wr => ∃ x : Int, v13 = .int .i64 x ∧ Aside0 (0 ≤ x ∧ x ≤ (l0.length : Int)) ∧ Aside0 (∃ v, IsWr w.heap.size wr g v (implSt (l0.take x.toNat) ([], 0)).1 (implSt (l0.take x.toNat) ([], 0)).2) ∧ Aside0 (Below w.heap.size w wr)) (fun v13 _ => l0.length - (intOf v13).toNat)
      case atStart => exact ⟨0, rfl, ⟨by omega⟩, ⟨_, HI.out⟩, HB⟩
      case round =>
        clear HI HB HG
        obtain ⟨x, rfl, hx, hI', HB⟩ := hrel
        obtain ⟨v1, hv1⟩ := hI'.out
        clear hI'
        by_cases hlt : x < (l0.length : Int)
        · have c5 : decide (x < (l0.length : Int)) = true := decide_eq_true hlt
          have hx0 : 0 ≤ x := hx.out.1
          obtain ⟨n, hn, hn16, hn0, hn1⟩ := fit_at HF.out (i := x.toNat) (by omega)
          have hst := implSt_take l0 ([], 0) (i := x.toNat) (by omega)
          have hgood := implSt_good (l0.take x.toNat) ([], 0) rfl
          have hsnd := implSt_snd HF.out x.toNat (by omega)
          rw [show ((x.toNat : Nat) : Int) = x by omega] at hn hst hn0 hn1
          obtain ⟨s1, hs1⟩ : ∃ s1, s1 = implSt (l0.take x.toNat) ([], 0) := ⟨_, rfl⟩
          rw [← hs1] at hv1 hst hgood hsnd
          obtain ⟨bs1, m1⟩ := s1
          obtain ⟨ad, e, q0, q1⟩ := at_T47 HR0.out x hx0 hlt
          cases e
          rw [hn] at q1 hst
          obtain ⟨num, hnum⟩ : ∃ num, num = (rd_T47 l0 x).f0 := ⟨_, rfl⟩
          rw [← hnum] at q0 hst
          replace q0 := (HB.out.cell (World.block_lt_of_cell? w _ q0)).trans q0
          replace q1 := (HB.out.cell (World.block_lt_of_cell? w _ q1)).trans q1
          have p170 := eq_true hx0
          have q170 := eq_true hlt
          have HV := Aside0.mk (show IsWr w.heap.size wr g v1 bs1 m1 from hv1)
          have HST := Aside0.mk hst
          have HGOOD := Aside0.mk hgood
          have HM := Aside0.mk (show m1 ≤ 1000000 by have hl := fit_len HF.out; have hs9 : m1 ≤ 16 * x.toNat := hsnd; omega)
          have HX1 : Aside0 (0 ≤ x + 1 ∧ x + 1 ≤ (l0.length : Int)) := ⟨by omega⟩
          have HX2 : Aside0 ((x + 1).toNat = x.toNat + 1) := ⟨by omega⟩
          have HX3 : Aside0 (l0.length - (x + 1).toNat < l0.length - x.toNat) := ⟨by omega⟩
          have HN := Aside0.mk hn16
          have hwx : IntKind.i64.wrap (x + 1) = x + 1 := IntWalk.i64_in _ (by have hl := fit_len HF.out; omega)
          have hwx' : wrap64 (x + 1) = x + 1 := (i64_w _).symm.trans hwx
          clear hst hgood hsnd hv1 hs1 hn hnum hlt hx0 hx hn0 hn1 hn16
          go_wp2_with (first | ((with_reducible refine gate_dst (N := 5) rfl ?_); refine box_event ?hg (N := 5) ?hd (cs := #[.int .i64 0, .int .i64 0]) (t := 47) ?hr ?_; (case hd => rfl); (case hg => rfl); (case hr => first | (go_simp; done) | (go_simp; rfl)); intro gb hg w8 hbox hb; have HX := Aside0.mk hb; have GX := Aside0.mk (show wr.heap.size ≤ gb by rw [hg]; exact Nat.le_refl _); have hcz0 : w8.cell? ⟨gb, 0, none⟩ = some (.int .i64 0) := (blk_cell hbox 0).trans rfl; have hcz1 : w8.cell? ⟨gb, 1, none⟩ = some (.int .i64 0) := (blk_cell hbox 1).trans rfl; have hfz0 := blk_frozen hbox 0; have hfz1 := blk_frozen hbox 1; clear hb hbox hg) | ((with_reducible refine gate_callee (f := 59) rfl ?_); refine goesL_ (some 22) rfl rfl Try.func59 (by kernel_rfl) rfl #[.pointer (some ⟨g, 0, none⟩), .int .i64 num, .int .i64 (n : Int)] rfl (by (try simp only [List.map_toArray, List.map_cons, List.map_nil]); first | done | rfl) ?_; (with_reducible refine (put_calls num n w.heap.size _ g v1 bs1 m1 (HV.out.below ?side1) ?side2 HN.out HM.out HGOOD.out).mono ?_); (case side1 => exact below_set (below_set HX.out GX.out) GX.out); (case side2 => exact below_size (below_step HB.out (below_set (below_set HX.out GX.out) GX.out))); rintro e w9 ⟨v2, rfl, hi, hb2⟩; refine ⟨_, rfl, ?_⟩; have HI2 := Aside0.mk hi; have HB2 := Aside0.mk ((below_step HB.out (by exact below_set (below_set HX.out GX.out) GX.out)).trans hb2); clear hi hb2))
          refine ⟨⟨x + 1, rfl, HX1, ⟨v2, ?_⟩, HB2⟩, HX3.out⟩
          rw [HX2.out, HST.out, Int.toNat_natCast]
          exact HI2.out
        · have c5 : decide (x < (l0.length : Int)) = false := decide_eq_false hlt
          have hxl : x.toNat = l0.length := by have := hx.out; omega
          rw [hxl, List.take_length] at hv1
          obtain ⟨bs1, hbs1⟩ : ∃ b, b = (implSt l0 ([], 0)).1 := ⟨_, rfl⟩
          rw [← hbs1] at hv1
          have HBS := Aside0.mk hbs1
          obtain ⟨hb1, _, hown, _⟩ := id hv1
          have d0 := (blk_cell hb1 0).trans rfl
          have hcv := own_string (P := Try.prog) Try.underlying24 Try.underlying5 Try.underlying9 hown
          clear hbs1 hv1 hb1 hown hxl hlt hx
          go_wp2
          go_ret
          exact ⟨by rw [HBS.out]; rfl, HB.out⟩
    · rw [if_neg hf] at H
      cases H
  | false =>
    rw [if_neg (by decide)] at H
    obtain rfl := Option.some.inj H
    clear H
    go_enter Try.func33, Try.ntmps33
    go_wp2_with (((with_reducible refine gate_callee (f := 52) rfl ?_); refine goesL_ (some 7) rfl rfl Try.func52 (by kernel_rfl) rfl #[.slice A0 l0.length c0] rfl (by (try simp only [List.map_toArray, List.map_cons, List.map_nil]); first | done | rfl) ?_; (with_reducible refine (impl_piecesOk.calls k _ _ l0 false _ ?side1 ?side2 A2.out).mono ?_); (case side1 => exact HR0.out); (case side2 => exact HC0.out); rintro e w4 ⟨rfl, hb⟩; refine ⟨_, rfl, ?_⟩; have n0_ := Aside0.mk (below_step HB.out hb); clear HB; have HB := n0_; clear n0_; clear hb))
    go_ret
    exact ⟨rfl, HB.out⟩

end Go.Proofs.Ytfpbdojbnomnmaa.PAll
