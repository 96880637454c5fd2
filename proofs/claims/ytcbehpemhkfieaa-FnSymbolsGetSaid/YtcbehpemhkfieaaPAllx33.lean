-- Written by a program of this session, over the kit's print. Not trusted: Lean checks it.
import Derived.Test.YtcbehpemhkfieaaPAllx0
import Derived.Test.YtcbehpemhkfieaaPAllx23
import Derived.Test.YtcbehpemhkfieaaPAllx26
import Derived.Test.YtcbehpemhkfieaaPAllx30
import Derived.Test.YtcbehpemhkfieaaPAllx32
namespace Go.Proofs.Ytcbehpemhkfieaa.PAll
open Go.RowKit Go.Proofs.YtcbehpemhkfieaaW.PrintWords Go.Proofs.YtcbehpemhkfieaaW.PrintLast Go.Proofs.YtcbehpemhkfieaaW.PrintMore
attribute [local go_sem] max2_int min2_int max_two min_two max_three min_three max_four min_four   -- for this text's walks alone
set_option linter.unusedVariables false
set_option linter.unusedSimpArgs false

/-! ### laws_FnSymbolsGet: function 4 -/
mutual
def laws_FnSymbolsGet.j0 : Nat → List Int → List Int → Bool → Option (Bool)
  | 0, _, _, _ => none
  | k + 1, x0, x1, x23 => if x23 = true then (some true) else ((spec_DrawSymbolsGet.f k x0).bind fun bt507 => ((impl_SymbolsGet.f k bt507.1 bt507.2.1 bt507.2.2).bind fun bt512 => ((spec_SymbolsGet.f k bt507.1 bt507.2.1 bt507.2.2).bind fun bt516 => (if (bt512.2 != bt516.2) = true then (laws_FnSymbolsGet.j1 k x1 bt507.1 bt507.2.1 bt507.2.2 bt512.1 bt512.2 bt516.1 bt516.2 true) else ((laws_cbInts.f k bt512.1 bt516.1).bind fun t520 => (if t520 = true then (laws_FnSymbolsGet.j1 k x1 bt507.1 bt507.2.1 bt507.2.2 bt512.1 bt512.2 bt516.1 bt516.2 (!bt512.2)) else (laws_FnSymbolsGet.j1 k x1 bt507.1 bt507.2.1 bt507.2.2 bt512.1 bt512.2 bt516.1 bt516.2 true)))))))
def laws_FnSymbolsGet.j1 : Nat → List Int → List Int → ByteArray → Int → List Int → Bool → List Int → Bool → Bool → Option (Bool)
  | 0, _, _, _, _, _, _, _, _, _ => none
  | k + 1, x1, x5, x6, x7, x8, x9, x10, x11, x56 => if x56 = true then (if (x9 == x11) = true then ((laws_cbInts.f k x8 x10).bind fun t521 => (some t521)) else (some false)) else (if (wrap64 (x7 + 1)) = 0 then (none) else ((impl_SymbolsGet.f k x5 x6 ((x1.length : Int) % (wrap64 (x7 + 1)))).bind fun bt522 => (laws_FnSymbolsGet.l0 k x5 x7 x8 ((x1.length : Int) % (wrap64 (x7 + 1))) bt522.1 bt522.2 0)))
def laws_FnSymbolsGet.l0 : Nat → List Int → Int → List Int → Int → List Int → Bool → Int → Option (Bool)
  | 0, _, _, _, _, _, _, _ => none
  | k + 1, x5, x7, x8, x12, x13, x14, x15 => if x15 < (x8.length : Int) then (if 0 ≤ x15 then (if 0 ≤ (rd x8 x15) then (if (rd x8 x15) < (x5.length : Int) then (if (rd x5 (rd x8 x15)) = 0 then (some false) else (laws_FnSymbolsGet.l0 k x5 x7 x8 x12 x13 x14 (wrap64 (x15 + 1)))) else (none)) else (none)) else (none)) else (if x14 = true then (if 0 ≤ x12 then (if x12 ≤ (x8.length : Int) then ((laws_cbInts.f k x13 (x8.take (x12 : Int).toNat)).bind fun t532 => (if t532 = true then (some ((x8.length : Int) == x7)) else (some false))) else (none)) else (none)) else (some false))
end
def laws_FnSymbolsGet.f (k : Nat) (l0 : List Int) (l1 : List Int) : Option (Bool) := if (l0.length : Int) > 1048576 then (laws_FnSymbolsGet.j0 k l0 l1 true) else (laws_FnSymbolsGet.j0 k l0 l1 (decide ((l1.length : Int) > 1048576)))
theorem laws_FnSymbolsGet.mono_l : ∀ k, (∀ y0 y1 y2, LeO (laws_FnSymbolsGet.j0 k y0 y1 y2) (laws_FnSymbolsGet.j0 (k + 1) y0 y1 y2)) ∧ (∀ y0 y1 y2 y3 y4 y5 y6 y7 y8, LeO (laws_FnSymbolsGet.j1 k y0 y1 y2 y3 y4 y5 y6 y7 y8) (laws_FnSymbolsGet.j1 (k + 1) y0 y1 y2 y3 y4 y5 y6 y7 y8)) ∧ (∀ y0 y1 y2 y3 y4 y5 y6, LeO (laws_FnSymbolsGet.l0 k y0 y1 y2 y3 y4 y5 y6) (laws_FnSymbolsGet.l0 (k + 1) y0 y1 y2 y3 y4 y5 y6))
  | 0 => ⟨fun _ _ _ r h => by simp [laws_FnSymbolsGet.j0] at h, fun _ _ _ _ _ _ _ _ _ r h => by simp [laws_FnSymbolsGet.j1] at h, fun _ _ _ _ _ _ _ r h => by simp [laws_FnSymbolsGet.l0] at h⟩
  | k + 1 => by
    obtain ⟨ih0, ih1, ih2⟩ := laws_FnSymbolsGet.mono_l k
    refine ⟨?_, ?_, ?_⟩
    · intro y0 y1 y2
      unfold laws_FnSymbolsGet.j0
      repeat' first
      | (with_reducible exact ih0 _ _ _)
      | (with_reducible exact ih1 _ _ _ _ _ _ _ _ _)
      | (with_reducible exact ih2 _ _ _ _ _ _ _)
      | (with_reducible exact impl_SymbolsGet.mono _ _ _ _)
      | (with_reducible exact laws_cbInts.mono _ _ _)
      | (with_reducible exact spec_DrawSymbolsGet.mono _ _)
      | (with_reducible exact spec_SymbolsGet.mono _ _ _ _)
      | (with_reducible exact LeO.refl _)
      | (with_reducible exact LeO.none _)
      | (with_reducible refine LeO.ite ?_ ?_)
      | (with_reducible refine LeO.bind ?_ (fun _ => ?_))
      | exact ih0 _ _ _
      | exact ih1 _ _ _ _ _ _ _ _ _
      | exact ih2 _ _ _ _ _ _ _
      | exact impl_SymbolsGet.mono _ _ _ _
      | exact laws_cbInts.mono _ _ _
      | exact spec_DrawSymbolsGet.mono _ _
      | exact spec_SymbolsGet.mono _ _ _ _
      | exact LeO.none _
      | refine LeO.ite ?_ ?_
      | refine LeO.bind ?_ (fun _ => ?_)
    · intro y0 y1 y2 y3 y4 y5 y6 y7 y8
      unfold laws_FnSymbolsGet.j1
      repeat' first
      | (with_reducible exact ih0 _ _ _)
      | (with_reducible exact ih1 _ _ _ _ _ _ _ _ _)
      | (with_reducible exact ih2 _ _ _ _ _ _ _)
      | (with_reducible exact impl_SymbolsGet.mono _ _ _ _)
      | (with_reducible exact laws_cbInts.mono _ _ _)
      | (with_reducible exact spec_DrawSymbolsGet.mono _ _)
      | (with_reducible exact spec_SymbolsGet.mono _ _ _ _)
      | (with_reducible exact LeO.refl _)
      | (with_reducible exact LeO.none _)
      | (with_reducible refine LeO.ite ?_ ?_)
      | (with_reducible refine LeO.bind ?_ (fun _ => ?_))
      | exact ih0 _ _ _
      | exact ih1 _ _ _ _ _ _ _ _ _
      | exact ih2 _ _ _ _ _ _ _
      | exact impl_SymbolsGet.mono _ _ _ _
      | exact laws_cbInts.mono _ _ _
      | exact spec_DrawSymbolsGet.mono _ _
      | exact spec_SymbolsGet.mono _ _ _ _
      | exact LeO.none _
      | refine LeO.ite ?_ ?_
      | refine LeO.bind ?_ (fun _ => ?_)
    · intro y0 y1 y2 y3 y4 y5 y6
      unfold laws_FnSymbolsGet.l0
      repeat' first
      | (with_reducible exact ih0 _ _ _)
      | (with_reducible exact ih1 _ _ _ _ _ _ _ _ _)
      | (with_reducible exact ih2 _ _ _ _ _ _ _)
      | (with_reducible exact impl_SymbolsGet.mono _ _ _ _)
      | (with_reducible exact laws_cbInts.mono _ _ _)
      | (with_reducible exact spec_DrawSymbolsGet.mono _ _)
      | (with_reducible exact spec_SymbolsGet.mono _ _ _ _)
      | (with_reducible exact LeO.refl _)
      | (with_reducible exact LeO.none _)
      | (with_reducible refine LeO.ite ?_ ?_)
      | (with_reducible refine LeO.bind ?_ (fun _ => ?_))
      | exact ih0 _ _ _
      | exact ih1 _ _ _ _ _ _ _ _ _
      | exact ih2 _ _ _ _ _ _ _
      | exact impl_SymbolsGet.mono _ _ _ _
      | exact laws_cbInts.mono _ _ _
      | exact spec_DrawSymbolsGet.mono _ _
      | exact spec_SymbolsGet.mono _ _ _ _
      | exact LeO.none _
      | refine LeO.ite ?_ ?_
      | refine LeO.bind ?_ (fun _ => ?_)
theorem laws_FnSymbolsGet.mono : ∀ a0 a1 k, LeO (laws_FnSymbolsGet.f k a0 a1) (laws_FnSymbolsGet.f (k + 1) a0 a1) := by
  intro a0 a1 k
  obtain ⟨ih0, ih1, ih2⟩ := laws_FnSymbolsGet.mono_l k
  unfold laws_FnSymbolsGet.f
  repeat' first
      | (with_reducible exact ih0 _ _ _)
      | (with_reducible exact ih1 _ _ _ _ _ _ _ _ _)
      | (with_reducible exact ih2 _ _ _ _ _ _ _)
      | (with_reducible exact impl_SymbolsGet.mono _ _ _ _)
      | (with_reducible exact laws_cbInts.mono _ _ _)
      | (with_reducible exact spec_DrawSymbolsGet.mono _ _)
      | (with_reducible exact spec_SymbolsGet.mono _ _ _ _)
      | (with_reducible exact LeO.refl _)
      | (with_reducible exact LeO.none _)
      | (with_reducible refine LeO.ite ?_ ?_)
      | (with_reducible refine LeO.bind ?_ (fun _ => ?_))
      | exact ih0 _ _ _
      | exact ih1 _ _ _ _ _ _ _ _ _
      | exact ih2 _ _ _ _ _ _ _
      | exact impl_SymbolsGet.mono _ _ _ _
      | exact laws_cbInts.mono _ _ _
      | exact spec_DrawSymbolsGet.mono _ _
      | exact spec_SymbolsGet.mono _ _ _ _
      | exact LeO.none _
      | refine LeO.ite ?_ ?_
      | refine LeO.bind ?_ (fun _ => ?_)
set_option maxHeartbeats 8000000 in
set_option maxRecDepth 100000 in
theorem laws_FnSymbolsGet.calls (k : Nat) (A0 : Option Addr) (c0 : Nat) (l0 : List Int) (A1 : Option Addr) (c1 : Nat) (l1 : List Int) (r : Bool) (w : World) (hr0 : Kd.C (Kd.int .u8) w A0 l0.length l0) (hc0 : l0.length ≤ c0) (hr1 : Kd.C (Kd.int .u8) w A1 l1.length l1) (hc1 : l1.length ≤ c1) (h : laws_FnSymbolsGet.f k l0 l1 = some r) :
    Calls Try.prog 4 #[.slice A0 l0.length c0, .slice A1 l1.length c1] w fun e w' => e = .returned (.bool r) ∧ Below w.heap.size w w' := by
  have HR0 := Aside0.mk hr0
  have HC0 := Aside0.mk hc0
  clear hr0 hc0
  have HR1 := Aside0.mk hr1
  have HC1 := Aside0.mk hc1
  clear hr1 hc1
  have HB := Aside0.mk (Below.refl w.heap.size w)
  have H : (if (l0.length : Int) > 1048576 then (laws_FnSymbolsGet.j0 k l0 l1 true) else (laws_FnSymbolsGet.j0 k l0 l1 (decide ((l1.length : Int) > 1048576)))) = some r := h
  clear h
  have HC3 := Aside0.mk H
  clear H
  go_enter Try.func4, Try.ntmps4
  go_upto_region 1 with (fail)
  go_cut [23] (fun v23 wc => ∃ (kq : Nat) (x23_2 : Bool), v23 = .bool x23_2 ∧ Aside0 (laws_FnSymbolsGet.j0 kq l0 l1 x23_2 = some r) ∧ Aside0 (kq ≤ k) ∧ Aside0 (Below w.heap.size w wc))
  case first =>
    have H := HC3.out
    clear HC3
    by_cases c4 : (l0.length : Int) > 1048576
    · rw [if_pos c4] at H
      have c4b0 : decide (1048576 < (l0.length : Int)) = true := decide_eq_true c4
      have c4b1 : decide (1048576 < l0.length) = true := decide_eq_true (by omega)
      clear c4
      (first | rw [c4b0] | (simp only [i64_w, i32_w]; rw [c4b0]) | skip)
      have H' := Aside0.mk H
      clear H
      go_wp2
      go_meet
      case rel => exact ⟨_, (true), (by first | rfl | (simp; done) | (simp [*]; done)), H', ⟨by first | omega | exact Nat.le_refl _⟩, ⟨by repeat (first | (with_reducible first | exact HB.out | apply below_alloc | apply pw_below_drewN | apply below_drew1) | exact HB.out)⟩⟩
    · rw [if_neg c4] at H
      have c4b0 : decide (1048576 < (l0.length : Int)) = false := decide_eq_false c4
      have c4b1 : decide (1048576 < l0.length) = false := decide_eq_false (by omega)
      clear c4
      (first | rw [c4b0] | (simp only [i64_w, i32_w]; rw [c4b0]) | skip)
      have H' := Aside0.mk H
      clear H
      go_wp2
      go_meet
      case rel => exact ⟨_, (decide ((l1.length : Int) > 1048576)), (by first | rfl | (simp; done) | (simp [*]; done)), H', ⟨by first | omega | exact Nat.le_refl _⟩, ⟨by repeat (first | (with_reducible first | exact HB.out | apply below_alloc | apply pw_below_drewN | apply below_drew1) | exact HB.out)⟩⟩
  case rest =>
    clear HC3
    try clear c1
    try clear p2
    try clear c4
    try clear c4b0
    try clear c4b1
    obtain ⟨kq, x23_2, rfl, HA, HJ2, HB⟩ := hcut
    cases kq with
    | zero => exact absurd HA.out (by simp [laws_FnSymbolsGet.j0])
    | succ kj2 =>
      have H := HA.out
      clear HA
      simp only [laws_FnSymbolsGet.j0] at H
      by_cases c5 : x23_2 = true
      · subst c5
        have H1 : (some true) = some r := by rw [if_pos rfl] at H; exact H
        clear H
        have H := H1
        clear H1
        obtain rfl := Option.some.inj H
        go_wp2
        go_ret
        exact ⟨by first | rfl | (show Ending.returned (.bool _) = Ending.returned (.bool _); rw [i64_w]) | (simp [errW_none, errW_some] <;> rfl) | (simp [*, errW_none, errW_some] <;> rfl), by repeat (first | (with_reducible first | exact HB.out | apply below_alloc | apply pw_below_drewN | apply below_drew1) | exact HB.out)⟩
      · replace c5 := Bool.eq_false_iff.mpr c5
        subst c5
        have H1 : ((spec_DrawSymbolsGet.f kj2 l0).bind fun bt507 => ((impl_SymbolsGet.f kj2 bt507.1 bt507.2.1 bt507.2.2).bind fun bt512 => ((spec_SymbolsGet.f kj2 bt507.1 bt507.2.1 bt507.2.2).bind fun bt516 => (if (bt512.2 != bt516.2) = true then (laws_FnSymbolsGet.j1 kj2 l1 bt507.1 bt507.2.1 bt507.2.2 bt512.1 bt512.2 bt516.1 bt516.2 true) else ((laws_cbInts.f kj2 bt512.1 bt516.1).bind fun t520 => (if t520 = true then (laws_FnSymbolsGet.j1 kj2 l1 bt507.1 bt507.2.1 bt507.2.2 bt512.1 bt512.2 bt516.1 bt516.2 (!bt512.2)) else (laws_FnSymbolsGet.j1 kj2 l1 bt507.1 bt507.2.1 bt507.2.2 bt512.1 bt512.2 bt516.1 bt516.2 true))))))) = some r := by rw [if_neg (show ¬ (false = true) by decide)] at H; exact H
        clear H
        have H := H1
        clear H1
        replace H := Option.bind_eq_some_iff.mp H
        obtain ⟨⟨t507, t508, t509⟩, A60, H⟩ := H
        replace H : ((impl_SymbolsGet.f kj2 t507 t508 t509).bind fun bt512 => ((spec_SymbolsGet.f kj2 t507 t508 t509).bind fun bt516 => (if (bt512.2 != bt516.2) = true then (laws_FnSymbolsGet.j1 kj2 l1 t507 t508 t509 bt512.1 bt512.2 bt516.1 bt516.2 true) else ((laws_cbInts.f kj2 bt512.1 bt516.1).bind fun t520 => (if t520 = true then (laws_FnSymbolsGet.j1 kj2 l1 t507 t508 t509 bt512.1 bt512.2 bt516.1 bt516.2 (!bt512.2)) else (laws_FnSymbolsGet.j1 kj2 l1 t507 t508 t509 bt512.1 bt512.2 bt516.1 bt516.2 true)))))) = some r := H
        have A6 := Aside0.mk A60
        clear A60
        replace H := Option.bind_eq_some_iff.mp H
        obtain ⟨⟨t512, t513⟩, A70, H⟩ := H
        replace H : ((spec_SymbolsGet.f kj2 t507 t508 t509).bind fun bt516 => (if (t513 != bt516.2) = true then (laws_FnSymbolsGet.j1 kj2 l1 t507 t508 t509 t512 t513 bt516.1 bt516.2 true) else ((laws_cbInts.f kj2 t512 bt516.1).bind fun t520 => (if t520 = true then (laws_FnSymbolsGet.j1 kj2 l1 t507 t508 t509 t512 t513 bt516.1 bt516.2 (!t513)) else (laws_FnSymbolsGet.j1 kj2 l1 t507 t508 t509 t512 t513 bt516.1 bt516.2 true))))) = some r := H
        have A7 := Aside0.mk A70
        clear A70
        replace H := Option.bind_eq_some_iff.mp H
        obtain ⟨⟨t516, t517⟩, A80, H⟩ := H
        replace H : (if (t513 != t517) = true then (laws_FnSymbolsGet.j1 kj2 l1 t507 t508 t509 t512 t513 t516 t517 true) else ((laws_cbInts.f kj2 t512 t516).bind fun t520 => (if t520 = true then (laws_FnSymbolsGet.j1 kj2 l1 t507 t508 t509 t512 t513 t516 t517 (!t513)) else (laws_FnSymbolsGet.j1 kj2 l1 t507 t508 t509 t512 t513 t516 t517 true)))) = some r := H
        have A8 := Aside0.mk A80
        clear A80
        have HC9 := Aside0.mk H
        clear H
        go_upto_region 6 with (first | ((with_reducible refine gate_callee (f := 15) rfl ?_); refine goesL_ (some 26) rfl rfl Try.func15 (by kernel_rfl) rfl #[.slice A0 l0.length c0] rfl (by (try simp only [List.map_toArray, List.map_cons, List.map_nil]); first | done | rfl | (simp only [List.length_drop, List.length_take]; rfl)) ?_; (with_reducible refine (spec_DrawSymbolsGet.calls kj2 _ _ l0 t507 t508 t509 _ ?side1 ?side2 A6.out).mono ?_); (case side1 => repeat (first | exact (Kd.C_below HR0.out HB.out) | (with_reducible refine Kd.C_alloc ?_ _) | (with_reducible refine Kd.C_drewN ?_ _) | (with_reducible refine Kd.C_drew ?_))); (case side2 => exact HC0.out); rintro e w10 ⟨v510, rfl, ho0, hb⟩; refine ⟨_, rfl, ?_⟩; have n0_ := Aside0.mk (Kd.R_lower ho0 (below_size (by repeat (first | (with_reducible first | exact HB.out | apply below_alloc | apply pw_below_drewN | apply below_drew1) | exact HB.out)))); have n1_ := Aside0.mk (below_step (by repeat (first | (with_reducible first | exact HB.out | apply below_alloc | apply pw_below_drewN | apply below_drew1) | exact HB.out)) hb); clear HB; have HO511 := n0_; have HB := n1_; clear n0_ n1_; (try clear hb); (try clear hb2); (try clear hk); (try clear hi); (try clear ho0); obtain ⟨Ao11, co11, eo11⟩ := Kd.R_slice HO511.out; subst eo11) | ((with_reducible refine gate_callee (f := 11) rfl ?_); refine goesL_ (some 34) rfl rfl Try.func11 (by kernel_rfl) rfl #[.slice Ao11 t507.length co11, .string t508, .int .i64 t509] rfl (by (try simp only [List.map_toArray, List.map_cons, List.map_nil]); first | done | rfl | (simp only [List.length_drop, List.length_take]; rfl)) ?_; (with_reducible refine (impl_SymbolsGet.calls kj2 _ _ t507 t508 t509 t512 t513 _ ?side1 ?side2 A7.out).mono ?_); (case side1 => repeat (first | exact (Kd.R_reads' HO511.out).2.2 | (with_reducible refine Kd.C_alloc ?_ _) | (with_reducible refine Kd.C_drewN ?_ _) | (with_reducible refine Kd.C_drew ?_))); (case side2 => exact (Kd.R_reads' HO511.out).2.1); rintro e w12 ⟨v514, rfl, ho0, hb⟩; refine ⟨_, rfl, ?_⟩; have n0_ := Aside0.mk (Kd.R_elder' (by (with_reducible repeat (first | apply Kd.R_alloc | apply Kd.R_drewN | apply Kd.R_drew)); exact HO511.out) (Kd.R_base ho0) hb); have n1_ := Aside0.mk (Kd.R_lower (Kd.R_new' ho0 (Kd.R_lt (by (with_reducible repeat (first | apply Kd.R_alloc | apply Kd.R_drewN | apply Kd.R_drew)); exact HO511.out))) (below_size (by repeat (first | (with_reducible first | exact HB.out | apply below_alloc | apply pw_below_drewN | apply below_drew1) | exact HB.out)))); have n2_ := Aside0.mk (below_step (by repeat (first | (with_reducible first | exact HB.out | apply below_alloc | apply pw_below_drewN | apply below_drew1) | exact HB.out)) hb); clear HO511; clear HB; have HO511 := n0_; have HO515 := n1_; have HB := n2_; clear n0_ n1_ n2_; (try clear hb); (try clear hb2); (try clear hk); (try clear hi); (try clear ho0)) | ((with_reducible refine gate_callee (f := 16) rfl ?_); refine goesL_ (some 41) rfl rfl Try.func16 (by kernel_rfl) rfl #[.slice Ao11 t507.length co11, .string t508, .int .i64 t509] rfl (by (try simp only [List.map_toArray, List.map_cons, List.map_nil]); first | done | rfl | (simp only [List.length_drop, List.length_take]; rfl)) ?_; (with_reducible refine (spec_SymbolsGet.calls kj2 _ _ t507 t508 t509 t516 t517 _ ?side1 ?side2 A8.out).mono ?_); (case side1 => repeat (first | exact (Kd.R_reads' HO511.out).2.2 | (with_reducible refine Kd.C_alloc ?_ _) | (with_reducible refine Kd.C_drewN ?_ _) | (with_reducible refine Kd.C_drew ?_))); (case side2 => exact (Kd.R_reads' HO511.out).2.1); rintro e w13 ⟨v518, rfl, ho0, hb⟩; refine ⟨_, rfl, ?_⟩; have n0_ := Aside0.mk (Kd.R_elder' (by (with_reducible repeat (first | apply Kd.R_alloc | apply Kd.R_drewN | apply Kd.R_drew)); exact HO511.out) (Kd.R_base ho0) hb); have n1_ := Aside0.mk (Kd.R_elder' (by (with_reducible repeat (first | apply Kd.R_alloc | apply Kd.R_drewN | apply Kd.R_drew)); exact HO515.out) (Kd.R_base ho0) hb); have n2_ := Aside0.mk (Kd.R_lower (Kd.R_new' (Kd.R_new' ho0 (Kd.R_lt (by (with_reducible repeat (first | apply Kd.R_alloc | apply Kd.R_drewN | apply Kd.R_drew)); exact HO511.out))) (Kd.R_lt (by (with_reducible repeat (first | apply Kd.R_alloc | apply Kd.R_drewN | apply Kd.R_drew)); exact HO515.out))) (below_size (by repeat (first | (with_reducible first | exact HB.out | apply below_alloc | apply pw_below_drewN | apply below_drew1) | exact HB.out)))); have n3_ := Aside0.mk (below_step (by repeat (first | (with_reducible first | exact HB.out | apply below_alloc | apply pw_below_drewN | apply below_drew1) | exact HB.out)) hb); clear HO511; clear HO515; clear HB; have HO511 := n0_; have HO515 := n1_; have HO519 := n2_; have HB := n3_; clear n0_ n1_ n2_ n3_; (try clear hb); (try clear hb2); (try clear hk); (try clear hi); (try clear ho0)))
        (try simp only [Act.put, List.setIfInBounds_toArray, List.set_cons_zero, List.set_cons_succ])
        go_cut [56] (fun v56 wc => ∃ (kq : Nat) (x56_8 : Bool), v56 = .bool x56_8 ∧ Aside0 (laws_FnSymbolsGet.j1 kq l1 t507 t508 t509 t512 t513 t516 t517 x56_8 = some r) ∧ Aside0 (kq ≤ kj2) ∧ Aside0 (Kd.R (Kd.int .i64) 3 wc w.heap.size (fun k_ => some k_ ≠ (v514 : Value).ownBlock ∧ some k_ ≠ (v518 : Value).ownBlock) (.slice Ao11 t507.length co11) t507) ∧ Aside0 (Kd.R (Kd.int .i64) 3 wc w.heap.size (fun k_ => some k_ ≠ ((.slice Ao11 t507.length co11) : Value).ownBlock ∧ some k_ ≠ (v518 : Value).ownBlock) v514 t512) ∧ Aside0 (Kd.R (Kd.int .i64) 3 wc w.heap.size (fun k_ => some k_ ≠ ((.slice Ao11 t507.length co11) : Value).ownBlock ∧ some k_ ≠ (v514 : Value).ownBlock) v518 t516) ∧ Aside0 (Below w.heap.size w wc))
        case first =>
          have H := HC9.out
          clear HC9
          by_cases c14 : (t513 != t517) = true
          · rw [if_pos c14] at H
            have c14b0 : (t513 != t517) = true := c14
            (try (have c14b1 : decide (t513 = t517) = false := by simpa using c14))
            (try (have c14b2 : (t513 == t517) = false := by simpa using c14))
            (try (have c14b3 : ¬ (t513 = t517) := by simpa using c14))
            clear c14
            (first | rw [c14b0] | (simp only [i64_w, i32_w]; rw [c14b0]) | skip)
            have H' := Aside0.mk H
            clear H
            go_wp2
            go_meet
            case rel => exact ⟨_, (true), (by first | rfl | (simp; done) | (simp [*]; done)), H', ⟨by have := HJ2.out; first | omega | exact Nat.le_refl _⟩, ⟨by (with_reducible repeat (first | apply Kd.R_alloc | apply Kd.R_drewN | apply Kd.R_drew)); exact Kd.R_mono HO511.out (fun _ hk => ⟨hk.1.2, hk.2⟩)⟩, ⟨by (with_reducible repeat (first | apply Kd.R_alloc | apply Kd.R_drewN | apply Kd.R_drew)); exact Kd.R_mono HO515.out (fun _ hk => ⟨hk.1.2, hk.2⟩)⟩, ⟨by (with_reducible repeat (first | apply Kd.R_alloc | apply Kd.R_drewN | apply Kd.R_drew)); exact Kd.R_mono HO519.out (fun _ hk => ⟨hk.1.2, hk.2⟩)⟩, ⟨by repeat (first | (with_reducible first | exact HB.out | apply below_alloc | apply pw_below_drewN | apply below_drew1) | exact HB.out)⟩⟩
          · rw [if_neg c14] at H
            have c14b0 : (t513 != t517) = false := by simpa using c14
            (try (have c14b1 : decide (t513 = t517) = true := by simpa using c14))
            (try (have c14b2 : (t513 == t517) = true := by simpa using c14))
            clear c14
            (first | rw [c14b0] | (simp only [i64_w, i32_w]; rw [c14b0]) | skip)
            replace H := Option.bind_eq_some_iff.mp H
            obtain ⟨t520, A150, H⟩ := H
            replace H : (if t520 = true then (laws_FnSymbolsGet.j1 kj2 l1 t507 t508 t509 t512 t513 t516 t517 (!t513)) else (laws_FnSymbolsGet.j1 kj2 l1 t507 t508 t509 t512 t513 t516 t517 true)) = some r := H
            have A15 := Aside0.mk A150
            clear A150
            by_cases c16 : t520 = true
            · subst c16
              have H1 : (laws_FnSymbolsGet.j1 kj2 l1 t507 t508 t509 t512 t513 t516 t517 (!t513)) = some r := by rw [if_pos rfl] at H; exact H
              clear H
              have H := H1
              clear H1
              have H' := Aside0.mk H
              clear H
              obtain ⟨Ao17, co17, eo17⟩ := Kd.R_slice HO515.out
              subst eo17
              obtain ⟨Ao18, co18, eo18⟩ := Kd.R_slice HO519.out
              subst eo18
              go_wp2_with (first | (go_at_call 13; (with_reducible refine (laws_cbInts.calls kj2 _ _ t512 _ _ t516 true _ ?side1 ?side2 ?side3 ?side4 A15.out).mono ?_); (case side1 => repeat (first | exact (Kd.R_reads' HO515.out).2.2 | (with_reducible refine Kd.C_alloc ?_ _) | (with_reducible refine Kd.C_drewN ?_ _) | (with_reducible refine Kd.C_drew ?_))); (case side2 => exact (Kd.R_reads' HO515.out).2.1); (case side3 => repeat (first | exact (Kd.R_reads' HO519.out).2.2 | (with_reducible refine Kd.C_alloc ?_ _) | (with_reducible refine Kd.C_drewN ?_ _) | (with_reducible refine Kd.C_drew ?_))); (case side4 => exact (Kd.R_reads' HO519.out).2.1); rintro e w' ⟨rfl, ⟨nd, rfl⟩⟩))
              go_meet
              case rel => exact ⟨_, (!t513), (by first | rfl | (simp; done) | (simp [*]; done)), H', ⟨by have := HJ2.out; first | omega | exact Nat.le_refl _⟩, ⟨by (with_reducible repeat (first | apply Kd.R_alloc | apply Kd.R_drewN | apply Kd.R_drew)); exact Kd.R_mono HO511.out (fun _ hk => ⟨hk.1.2, hk.2⟩)⟩, ⟨by (with_reducible repeat (first | apply Kd.R_alloc | apply Kd.R_drewN | apply Kd.R_drew)); exact Kd.R_mono HO515.out (fun _ hk => ⟨hk.1.2, hk.2⟩)⟩, ⟨by (with_reducible repeat (first | apply Kd.R_alloc | apply Kd.R_drewN | apply Kd.R_drew)); exact Kd.R_mono HO519.out (fun _ hk => ⟨hk.1.2, hk.2⟩)⟩, ⟨by repeat (first | (with_reducible first | exact HB.out | apply below_alloc | apply pw_below_drewN | apply below_drew1) | exact HB.out)⟩⟩
            · replace c16 := Bool.eq_false_iff.mpr c16
              subst c16
              have H1 : (laws_FnSymbolsGet.j1 kj2 l1 t507 t508 t509 t512 t513 t516 t517 true) = some r := by rw [if_neg (show ¬ (false = true) by decide)] at H; exact H
              clear H
              have H := H1
              clear H1
              have H' := Aside0.mk H
              clear H
              obtain ⟨Ao19, co19, eo19⟩ := Kd.R_slice HO515.out
              subst eo19
              obtain ⟨Ao20, co20, eo20⟩ := Kd.R_slice HO519.out
              subst eo20
              go_wp2_with (first | (go_at_call 13; (with_reducible refine (laws_cbInts.calls kj2 _ _ t512 _ _ t516 false _ ?side1 ?side2 ?side3 ?side4 A15.out).mono ?_); (case side1 => repeat (first | exact (Kd.R_reads' HO515.out).2.2 | (with_reducible refine Kd.C_alloc ?_ _) | (with_reducible refine Kd.C_drewN ?_ _) | (with_reducible refine Kd.C_drew ?_))); (case side2 => exact (Kd.R_reads' HO515.out).2.1); (case side3 => repeat (first | exact (Kd.R_reads' HO519.out).2.2 | (with_reducible refine Kd.C_alloc ?_ _) | (with_reducible refine Kd.C_drewN ?_ _) | (with_reducible refine Kd.C_drew ?_))); (case side4 => exact (Kd.R_reads' HO519.out).2.1); rintro e w' ⟨rfl, ⟨nd, rfl⟩⟩))
              go_meet
              case rel => exact ⟨_, (true), (by first | rfl | (simp; done) | (simp [*]; done)), H', ⟨by have := HJ2.out; first | omega | exact Nat.le_refl _⟩, ⟨by (with_reducible repeat (first | apply Kd.R_alloc | apply Kd.R_drewN | apply Kd.R_drew)); exact Kd.R_mono HO511.out (fun _ hk => ⟨hk.1.2, hk.2⟩)⟩, ⟨by (with_reducible repeat (first | apply Kd.R_alloc | apply Kd.R_drewN | apply Kd.R_drew)); exact Kd.R_mono HO515.out (fun _ hk => ⟨hk.1.2, hk.2⟩)⟩, ⟨by (with_reducible repeat (first | apply Kd.R_alloc | apply Kd.R_drewN | apply Kd.R_drew)); exact Kd.R_mono HO519.out (fun _ hk => ⟨hk.1.2, hk.2⟩)⟩, ⟨by repeat (first | (with_reducible first | exact HB.out | apply below_alloc | apply pw_below_drewN | apply below_drew1) | exact HB.out)⟩⟩
        case rest =>
          clear HC9
          try clear c1
          try clear p2
          try clear c4
          try clear c4b0
          try clear c4b1
          try clear c5
          try clear c11
          try clear c14
          try clear c14b0
          try clear c14b1
          try clear c14b2
          try clear c15
          try clear c16
          try clear p2
          obtain ⟨kq, x56_8, rfl, HA, HJ8, HO_5, HO_8, HO_10, HB⟩ := hcut
          cases kq with
          | zero => exact absurd HA.out (by simp [laws_FnSymbolsGet.j1])
          | succ kj8 =>
            have H := HA.out
            clear HA
            simp only [laws_FnSymbolsGet.j1] at H
            by_cases c21 : x56_8 = true
            · subst c21
              have H1 : (if (t513 == t517) = true then ((laws_cbInts.f kj8 t512 t516).bind fun t521 => (some t521)) else (some false)) = some r := by rw [if_pos rfl] at H; exact H
              clear H
              have H := H1
              clear H1
              by_cases c22 : (t513 == t517) = true
              · rw [if_pos c22] at H
                have c22b0 : (t513 == t517) = true := c22
                (try (have c22b1 : decide (t513 = t517) = true := by simpa using c22))
                (try (have c22b2 : (t513 == t517) = true := by simpa using c22))
                clear c22
                replace H := Option.bind_eq_some_iff.mp H
                obtain ⟨t521, A230, H⟩ := H
                replace H : (some t521) = some r := H
                have A23 := Aside0.mk A230
                clear A230
                obtain rfl := Option.some.inj H
                obtain ⟨Ao24, co24, eo24⟩ := Kd.R_slice HO_8.out
                subst eo24
                obtain ⟨Ao25, co25, eo25⟩ := Kd.R_slice HO_10.out
                subst eo25
                go_wp2_with (first | (go_at_call 13; (with_reducible refine (laws_cbInts.calls kj8 _ _ t512 _ _ t516 t521 _ ?side1 ?side2 ?side3 ?side4 A23.out).mono ?_); (case side1 => repeat (first | exact (Kd.R_reads' HO_8.out).2.2 | (with_reducible refine Kd.C_alloc ?_ _) | (with_reducible refine Kd.C_drewN ?_ _) | (with_reducible refine Kd.C_drew ?_))); (case side2 => exact (Kd.R_reads' HO_8.out).2.1); (case side3 => repeat (first | exact (Kd.R_reads' HO_10.out).2.2 | (with_reducible refine Kd.C_alloc ?_ _) | (with_reducible refine Kd.C_drewN ?_ _) | (with_reducible refine Kd.C_drew ?_))); (case side4 => exact (Kd.R_reads' HO_10.out).2.1); rintro e w' ⟨rfl, ⟨nd, rfl⟩⟩))
                go_ret
                exact ⟨by first | rfl | (show Ending.returned (.bool _) = Ending.returned (.bool _); rw [i64_w]) | (simp [errW_none, errW_some] <;> rfl) | (simp [*, errW_none, errW_some] <;> rfl), by repeat (first | (with_reducible first | exact HB.out | apply below_alloc | apply pw_below_drewN | apply below_drew1) | exact HB.out)⟩
              · rw [if_neg c22] at H
                have c22b0 : (t513 == t517) = false := by simpa using c22
                (try (have c22b1 : decide (t513 = t517) = false := by simpa using c22))
                (try (have c22b2 : (t513 == t517) = false := by simpa using c22))
                (try (have c22b3 : ¬ (t513 = t517) := by simpa using c22))
                clear c22
                obtain rfl := Option.some.inj H
                go_wp2
                go_ret
                exact ⟨by first | rfl | (show Ending.returned (.bool _) = Ending.returned (.bool _); rw [i64_w]) | (simp [errW_none, errW_some] <;> rfl) | (simp [*, errW_none, errW_some] <;> rfl), by repeat (first | (with_reducible first | exact HB.out | apply below_alloc | apply pw_below_drewN | apply below_drew1) | exact HB.out)⟩
            · replace c21 := Bool.eq_false_iff.mpr c21
              subst c21
              have H1 : (if (wrap64 (t509 + 1)) = 0 then (none) else ((impl_SymbolsGet.f kj8 t507 t508 ((l1.length : Int) % (wrap64 (t509 + 1)))).bind fun bt522 => (laws_FnSymbolsGet.l0 kj8 t507 t509 t512 ((l1.length : Int) % (wrap64 (t509 + 1))) bt522.1 bt522.2 0))) = some r := by rw [if_neg (show ¬ (false = true) by decide)] at H; exact H
              clear H
              have H := H1
              clear H1
              by_cases c26 : (wrap64 (t509 + 1)) = 0
              · rw [if_pos c26] at H
                exact absurd H (by simp)
              · rw [if_neg c26] at H
                have c26b0 : ((wrap64 (t509 + 1)) == 0) = false := beq_eq_false_iff_ne.mpr c26
                have c26b1 : ((wrap64 (t509 + 1)) != 0) = true := bne_iff_ne.mpr c26
                replace H := Option.bind_eq_some_iff.mp H
                obtain ⟨⟨t522, t523⟩, A270, H⟩ := H
                replace H : (laws_FnSymbolsGet.l0 kj8 t507 t509 t512 ((l1.length : Int) % (wrap64 (t509 + 1))) t522 t523 0) = some r := H
                have A27 := Aside0.mk A270
                clear A270
                have H' := Aside0.mk H
                clear H
                go_wp2_with (first | ((with_reducible refine gate_callee (f := 11) rfl ?_); refine goesL_ (some 74) rfl rfl Try.func11 (by kernel_rfl) rfl #[.slice Ao11 t507.length co11, .string t508, .int .i64 ((l1.length : Int) % (wrap64 (t509 + 1)))] rfl (by (try simp only [List.map_toArray, List.map_cons, List.map_nil]); first | done | rfl | (simp only [List.length_drop, List.length_take]; rfl)) ?_; (with_reducible refine (impl_SymbolsGet.calls kj8 _ _ t507 t508 ((l1.length : Int) % (wrap64 (t509 + 1))) t522 t523 _ ?side1 ?side2 A27.out).mono ?_); (case side1 => repeat (first | exact (Kd.R_reads' HO_5.out).2.2 | (with_reducible refine Kd.C_alloc ?_ _) | (with_reducible refine Kd.C_drewN ?_ _) | (with_reducible refine Kd.C_drew ?_))); (case side2 => exact (Kd.R_reads' HO_5.out).2.1); rintro e w28 ⟨v524, rfl, ho0, hb⟩; refine ⟨_, rfl, ?_⟩; have n0_ := Aside0.mk (Kd.R_elder' (by (with_reducible repeat (first | apply Kd.R_alloc | apply Kd.R_drewN | apply Kd.R_drew)); exact HO_5.out) (Kd.R_base ho0) hb); have n1_ := Aside0.mk (Kd.R_elder' (by (with_reducible repeat (first | apply Kd.R_alloc | apply Kd.R_drewN | apply Kd.R_drew)); exact HO_8.out) (Kd.R_base ho0) hb); have n2_ := Aside0.mk (Kd.R_elder' (by (with_reducible repeat (first | apply Kd.R_alloc | apply Kd.R_drewN | apply Kd.R_drew)); exact HO_10.out) (Kd.R_base ho0) hb); have n3_ := Aside0.mk (Kd.R_lower (Kd.R_new' (Kd.R_new' (Kd.R_new' ho0 (Kd.R_lt (by (with_reducible repeat (first | apply Kd.R_alloc | apply Kd.R_drewN | apply Kd.R_drew)); exact HO_5.out))) (Kd.R_lt (by (with_reducible repeat (first | apply Kd.R_alloc | apply Kd.R_drewN | apply Kd.R_drew)); exact HO_8.out))) (Kd.R_lt (by (with_reducible repeat (first | apply Kd.R_alloc | apply Kd.R_drewN | apply Kd.R_drew)); exact HO_10.out))) (below_size (by repeat (first | (with_reducible first | exact HB.out | apply below_alloc | apply pw_below_drewN | apply below_drew1) | exact HB.out)))); have n4_ := Aside0.mk (below_step (by repeat (first | (with_reducible first | exact HB.out | apply below_alloc | apply pw_below_drewN | apply below_drew1) | exact HB.out)) hb); clear HO_5; clear HO_8; clear HO_10; clear HB; have HO_5 := n0_; have HO_8 := n1_; have HO_10 := n2_; have HO525 := n3_; have HB := n4_; clear n0_ n1_ n2_ n3_ n4_; (try clear hb); (try clear hb2); (try clear hk); (try clear hi); (try clear ho0)))
                go_loopg [15] kj8 (fun kq v15 w' => ∃ (x15_3 : Int), v15 = .int .i64 x15_3 ∧ Aside0 (laws_FnSymbolsGet.l0 kq t507 t509 t512 ((l1.length : Int) % (wrap64 (t509 + 1))) t522 t523 x15_3 = some r) ∧ Aside0 (kq ≤ kj8) ∧ Aside0 (Kd.R (Kd.int .i64) 3 w' w.heap.size (fun k_ => some k_ ≠ (v514 : Value).ownBlock ∧ some k_ ≠ (v524 : Value).ownBlock) (.slice Ao11 t507.length co11) t507) ∧ Aside0 (Kd.R (Kd.int .i64) 3 w' w.heap.size (fun k_ => some k_ ≠ ((.slice Ao11 t507.length co11) : Value).ownBlock ∧ some k_ ≠ (v524 : Value).ownBlock) v514 t512) ∧ Aside0 (Kd.R (Kd.int .i64) 3 w' w.heap.size (fun k_ => some k_ ≠ ((.slice Ao11 t507.length co11) : Value).ownBlock ∧ some k_ ≠ (v514 : Value).ownBlock) v524 t522) ∧ Aside0 (Below w.heap.size w w'))
                case atStart => exact ⟨(0), (by first | rfl | (simp; done) | (simp [*]; done)), H', ⟨Nat.le_refl _⟩, ⟨by (with_reducible repeat (first | apply Kd.R_alloc | apply Kd.R_drewN | apply Kd.R_drew)); exact Kd.R_mono HO_5.out (fun _ hk => ⟨hk.1.1, hk.2⟩)⟩, ⟨by (with_reducible repeat (first | apply Kd.R_alloc | apply Kd.R_drewN | apply Kd.R_drew)); exact Kd.R_mono HO_8.out (fun _ hk => ⟨hk.1.1, hk.2⟩)⟩, ⟨by (with_reducible repeat (first | apply Kd.R_alloc | apply Kd.R_drewN | apply Kd.R_drew)); exact Kd.R_mono HO525.out (fun _ hk => ⟨hk.1.1.2, hk.1.2⟩)⟩, ⟨by repeat (first | (with_reducible first | exact HB.out | apply below_alloc | apply pw_below_drewN | apply below_drew1) | exact HB.out)⟩⟩
                case round =>
                  clear H'
                  try clear c1
                  try clear c2
                  try clear p2
                  try clear c4
                  try clear c4b0
                  try clear c4b1
                  try clear c5
                  try clear p6
                  try clear c11
                  try clear c14
                  try clear c14b0
                  try clear c14b1
                  try clear c14b2
                  try clear c15
                  try clear c16
                  try clear c21
                  try clear c22
                  try clear c22b0
                  try clear c22b1
                  try clear c22b2
                  try clear c26
                  try clear c26b0
                  try clear c26b1
                  try clear p2
                  obtain ⟨x15_3, rfl, HA, HK3, HO_5, HO_8, HO_13, HB⟩ := hrel
                  cases gk with
                  | zero => exact absurd HA.out (by simp [laws_FnSymbolsGet.l0])
                  | succ k3 =>
                    have H := HA.out
                    clear HA
                    simp only [laws_FnSymbolsGet.l0] at H
                    by_cases c29 : x15_3 < (t512.length : Int)
                    · rw [if_pos c29] at H
                      have c29b0 : decide (x15_3 < (t512.length : Int)) = true := decide_eq_true c29
                      clear c29
                      by_cases c30 : 0 ≤ x15_3
                      · rw [if_pos c30] at H
                        have c30b0 : decide (0 ≤ x15_3) = true := decide_eq_true c30
                        clear c30
                        by_cases c31 : 0 ≤ (rd t512 x15_3)
                        · rw [if_pos c31] at H
                          have c31b0 : decide (0 ≤ (rd t512 x15_3)) = true := decide_eq_true c31
                          clear c31
                          by_cases c32 : (rd t512 x15_3) < (t507.length : Int)
                          · rw [if_pos c32] at H
                            have c32b0 : decide ((rd t512 x15_3) < (t507.length : Int)) = true := decide_eq_true c32
                            clear c32
                            by_cases c33 : (rd t507 (rd t512 x15_3)) = 0
                            · rw [if_pos c33] at H
                              have c33b0 : ((rd t507 (rd t512 x15_3)) == 0) = true := beq_iff_eq.mpr c33
                              have c33b1 : ((rd t507 (rd t512 x15_3)) != 0) = false := bne_eq_false_iff_eq.mpr c33
                              clear c33
                              obtain rfl := Option.some.inj H
                              obtain ⟨Ao34, co34, eo34⟩ := Kd.R_slice HO_8.out
                              subst eo34
                              have p526 : 0 ≤ (x15_3 : Int) := of_decide_eq_true (by first | (with_reducible assumption) | assumption)
                              have q526 : x15_3 < (t512.length : Int) := of_decide_eq_true (by first | (with_reducible assumption) | assumption)
                              obtain ⟨ad526, e526, hx526_0⟩ := Kd.at_int (Kd.R_reads' HO_8.out).2.2 x15_3 p526 q526
                              cases e526
                              replace p526 := eq_true p526
                              replace q526 := eq_true q526
                              have p527 : 0 ≤ ((rd t512 x15_3) : Int) := of_decide_eq_true (by first | (with_reducible assumption) | assumption)
                              have q527 : (rd t512 x15_3) < (t507.length : Int) := of_decide_eq_true (by first | (with_reducible assumption) | assumption)
                              obtain ⟨ad527, e527, hx527_0⟩ := Kd.at_int (Kd.R_reads' HO_5.out).2.2 (rd t512 x15_3) p527 q527
                              cases e527
                              replace p527 := eq_true p527
                              replace q527 := eq_true q527
                              go_wp2
                              go_ret
                              exact ⟨by first | rfl | (show Ending.returned (.bool _) = Ending.returned (.bool _); rw [i64_w]) | (simp [errW_none, errW_some] <;> rfl) | (simp [*, errW_none, errW_some] <;> rfl), by repeat (first | (with_reducible first | exact HB.out | apply below_alloc | apply pw_below_drewN | apply below_drew1) | exact HB.out)⟩
                            · rw [if_neg c33] at H
                              have c33b0 : ((rd t507 (rd t512 x15_3)) == 0) = false := beq_eq_false_iff_ne.mpr c33
                              have c33b1 : ((rd t507 (rd t512 x15_3)) != 0) = true := bne_iff_ne.mpr c33
                              have H' := Aside0.mk H
                              clear H
                              obtain ⟨Ao35, co35, eo35⟩ := Kd.R_slice HO_8.out
                              subst eo35
                              have p526 : 0 ≤ (x15_3 : Int) := of_decide_eq_true (by first | (with_reducible assumption) | assumption)
                              have q526 : x15_3 < (t512.length : Int) := of_decide_eq_true (by first | (with_reducible assumption) | assumption)
                              obtain ⟨ad526, e526, hx526_0⟩ := Kd.at_int (Kd.R_reads' HO_8.out).2.2 x15_3 p526 q526
                              cases e526
                              replace p526 := eq_true p526
                              replace q526 := eq_true q526
                              have p527 : 0 ≤ ((rd t512 x15_3) : Int) := of_decide_eq_true (by first | (with_reducible assumption) | assumption)
                              have q527 : (rd t512 x15_3) < (t507.length : Int) := of_decide_eq_true (by first | (with_reducible assumption) | assumption)
                              obtain ⟨ad527, e527, hx527_0⟩ := Kd.at_int (Kd.R_reads' HO_5.out).2.2 (rd t512 x15_3) p527 q527
                              cases e527
                              replace p527 := eq_true p527
                              replace q527 := eq_true q527
                              go_wp2
                              go_roundg k3
                              case measure => have := HJ2.out; have := HJ8.out; have := HK3.out; omega
                              case rel => exact ⟨(wrap64 (x15_3 + 1)), (by first | rfl | (simp; done) | (simp [*]; done)), H', ⟨by have := HJ2.out; have := HJ8.out; have := HK3.out; omega⟩, ⟨by (with_reducible repeat (first | apply Kd.R_alloc | apply Kd.R_drewN | apply Kd.R_drew)); exact HO_5.out⟩, ⟨by (with_reducible repeat (first | apply Kd.R_alloc | apply Kd.R_drewN | apply Kd.R_drew)); exact HO_8.out⟩, ⟨by (with_reducible repeat (first | apply Kd.R_alloc | apply Kd.R_drewN | apply Kd.R_drew)); exact HO_13.out⟩, ⟨by repeat (first | (with_reducible first | exact HB.out | apply below_alloc | apply pw_below_drewN | apply below_drew1) | exact HB.out)⟩⟩
                          · rw [if_neg c32] at H
                            exact absurd H (by simp)
                        · rw [if_neg c31] at H
                          exact absurd H (by simp)
                      · rw [if_neg c30] at H
                        exact absurd H (by simp)
                    · rw [if_neg c29] at H
                      have c29b0 : decide (x15_3 < (t512.length : Int)) = false := decide_eq_false c29
                      clear c29
                      by_cases c36 : t523 = true
                      · subst c36
                        have H1 : (if 0 ≤ ((l1.length : Int) % (wrap64 (t509 + 1))) then (if ((l1.length : Int) % (wrap64 (t509 + 1))) ≤ (t512.length : Int) then ((laws_cbInts.f k3 t522 (t512.take (((l1.length : Int) % (wrap64 (t509 + 1))) : Int).toNat)).bind fun t532 => (if t532 = true then (some ((t512.length : Int) == t509)) else (some false))) else (none)) else (none)) = some r := by rw [if_pos rfl] at H; exact H
                        clear H
                        have H := H1
                        clear H1
                        obtain ⟨ji37, hji37⟩ : ∃ j_ : Int, ((l1.length : Int) % (wrap64 (t509 + 1))) = j_ := ⟨_, rfl⟩
                        replace H : (if 0 ≤ (ji37) then (if (ji37) ≤ (t512.length : Int) then ((laws_cbInts.f k3 t522 (t512.take ((ji37) : Int).toNat)).bind fun t532 => (if t532 = true then (some ((t512.length : Int) == t509)) else (some false))) else (none)) else (none)) = some r := by first | (rw [hji37] at H; exact H) | (simp only [hji37] at H ⊢; exact H)
                        by_cases c38 : 0 ≤ (ji37)
                        · rw [if_pos c38] at H
                          have c38b0 := eq_true c38
                          have c38b1 : decide (0 ≤ (ji37)) = true := decide_eq_true c38
                          clear c38
                          by_cases c39 : (ji37) ≤ (t512.length : Int)
                          · rw [if_pos c39] at H
                            have c39b0 := eq_true c39
                            have c39b1 : decide ((ji37) ≤ (t512.length : Int)) = true := decide_eq_true c39
                            clear c39
                            obtain ⟨y528, hy528⟩ : ∃ y_ : List Int, y_ = (t512.take ((ji37) : Int).toNat) := ⟨_, rfl⟩
                            replace H : ((laws_cbInts.f k3 t522 y528).bind fun t532 => (if t532 = true then (some ((t512.length : Int) == t509)) else (some false))) = some r := by first | (rw [hy528]; with_reducible exact H) | (have H2_ := (Option.bind_some _ _).symm.trans H; rw [hy528]; with_reducible exact H2_) | (have H2_ := (Option.bind_some _ _).symm.trans H; with_reducible exact H2_) | with_reducible exact H | (rw [hy528]; exact H) | exact H
                            have Ny528 := Aside0.mk hy528
                            clear hy528
                            replace H := Option.bind_eq_some_iff.mp H
                            obtain ⟨t532, A400, H⟩ := H
                            replace H : (if t532 = true then (some ((t512.length : Int) == t509)) else (some false)) = some r := H
                            have A40 := Aside0.mk A400
                            clear A400
                            by_cases c41 : t532 = true
                            · subst c41
                              have H1 : (some ((t512.length : Int) == t509)) = some r := by rw [if_pos rfl] at H; exact H
                              clear H
                              have H := H1
                              clear H1
                              obtain rfl := Option.some.inj H
                              obtain ⟨Ao42, co42, eo42⟩ := Kd.R_slice HO_8.out
                              subst eo42
                              have q43 : ((ji37) : Int) ≤ ((t512.length : Int) : Int) := of_decide_eq_true (by first | (with_reducible assumption) | assumption)
                              obtain ⟨i043, hi043, _, hsz43, _⟩ := info_parts info3
                              have hroom43 : t512.length ≤ co42 := (Kd.R_reads' HO_8.out).2.1
                              have hC43 : Kd.C (Kd.int .i64) _ Ao42 t512.length t512 := (Kd.R_reads' HO_8.out).2.2
                              have hcut43 := cut_to (P := Try.prog) 23 3 .i64 Try.underlying23 hi043 Ao42 t512.length co42 (ji37) (of_decide_eq_true (by first | (with_reducible assumption) | assumption)) q43 hroom43
                              have hr43 := Kd.C_take (m := ((ji37) : Int).toNat) hC43 (by omega)
                              have hy43 : y528.length = ((ji37) : Int).toNat := (by rw [Ny528.out, List.length_take]; omega)
                              rw [← Ny528.out] at hr43
                              rw [← hy43] at hcut43
                              have HR531 := Aside0.mk hr43
                              have HC531 := Aside0.mk (show y528.length ≤ co42 from by omega)
                              clear hr43 hC43 hroom43 hi043 hsz43
                              have KY43 := Aside0.mk hy43
                              clear hy43
                              have KL43 := Aside0.mk (show ((ji37) : Int).toNat ≤ t512.length from by omega)
                              replace q43 := eq_true q43
                              obtain ⟨Ao44, co44, eo44⟩ := Kd.R_slice HO_13.out
                              subst eo44
                              go_wp2_with (first | (go_at_call 13; (with_reducible refine (laws_cbInts.calls k3 _ _ t522 _ _ y528 true _ ?side1 ?side2 ?side3 ?side4 A40.out).mono ?_); (case side1 => repeat (first | exact (Kd.R_reads' HO_13.out).2.2 | (with_reducible refine Kd.C_alloc ?_ _) | (with_reducible refine Kd.C_drewN ?_ _) | (with_reducible refine Kd.C_drew ?_))); (case side2 => exact (Kd.R_reads' HO_13.out).2.1); (case side3 => repeat (first | exact (by repeat (first | (with_reducible exact HR531.out) | (with_reducible refine Kd.C_alloc ?_ _) | (with_reducible refine Kd.C_drewN ?_ _) | (with_reducible refine Kd.C_drew ?_) | exact HR531.out)) | (with_reducible refine Kd.C_alloc ?_ _) | (with_reducible refine Kd.C_drewN ?_ _) | (with_reducible refine Kd.C_drew ?_))); (case side4 => exact HC531.out); rintro e w' ⟨rfl, ⟨nd, rfl⟩⟩))
                              go_ret
                              exact ⟨by first | rfl | (show Ending.returned (.bool _) = Ending.returned (.bool _); rw [i64_w]) | (simp [errW_none, errW_some] <;> rfl) | (simp only [← hji37]; first | rfl | (simp [errW_none, errW_some] <;> rfl)) | (simp [*, errW_none, errW_some] <;> rfl), by repeat (first | (with_reducible first | exact HB.out | apply below_alloc | apply pw_below_drewN | apply below_drew1) | exact HB.out)⟩
                            · replace c41 := Bool.eq_false_iff.mpr c41
                              subst c41
                              have H1 : (some false) = some r := by rw [if_neg (show ¬ (false = true) by decide)] at H; exact H
                              clear H
                              have H := H1
                              clear H1
                              obtain rfl := Option.some.inj H
                              obtain ⟨Ao45, co45, eo45⟩ := Kd.R_slice HO_8.out
                              subst eo45
                              have q46 : ((ji37) : Int) ≤ ((t512.length : Int) : Int) := of_decide_eq_true (by first | (with_reducible assumption) | assumption)
                              obtain ⟨i046, hi046, _, hsz46, _⟩ := info_parts info3
                              have hroom46 : t512.length ≤ co45 := (Kd.R_reads' HO_8.out).2.1
                              have hC46 : Kd.C (Kd.int .i64) _ Ao45 t512.length t512 := (Kd.R_reads' HO_8.out).2.2
                              have hcut46 := cut_to (P := Try.prog) 23 3 .i64 Try.underlying23 hi046 Ao45 t512.length co45 (ji37) (of_decide_eq_true (by first | (with_reducible assumption) | assumption)) q46 hroom46
                              have hr46 := Kd.C_take (m := ((ji37) : Int).toNat) hC46 (by omega)
                              have hy46 : y528.length = ((ji37) : Int).toNat := (by rw [Ny528.out, List.length_take]; omega)
                              rw [← Ny528.out] at hr46
                              rw [← hy46] at hcut46
                              have HR531 := Aside0.mk hr46
                              have HC531 := Aside0.mk (show y528.length ≤ co45 from by omega)
                              clear hr46 hC46 hroom46 hi046 hsz46
                              have KY46 := Aside0.mk hy46
                              clear hy46
                              have KL46 := Aside0.mk (show ((ji37) : Int).toNat ≤ t512.length from by omega)
                              replace q46 := eq_true q46
                              obtain ⟨Ao47, co47, eo47⟩ := Kd.R_slice HO_13.out
                              subst eo47
                              go_wp2_with (first | (go_at_call 13; (with_reducible refine (laws_cbInts.calls k3 _ _ t522 _ _ y528 false _ ?side1 ?side2 ?side3 ?side4 A40.out).mono ?_); (case side1 => repeat (first | exact (Kd.R_reads' HO_13.out).2.2 | (with_reducible refine Kd.C_alloc ?_ _) | (with_reducible refine Kd.C_drewN ?_ _) | (with_reducible refine Kd.C_drew ?_))); (case side2 => exact (Kd.R_reads' HO_13.out).2.1); (case side3 => repeat (first | exact (by repeat (first | (with_reducible exact HR531.out) | (with_reducible refine Kd.C_alloc ?_ _) | (with_reducible refine Kd.C_drewN ?_ _) | (with_reducible refine Kd.C_drew ?_) | exact HR531.out)) | (with_reducible refine Kd.C_alloc ?_ _) | (with_reducible refine Kd.C_drewN ?_ _) | (with_reducible refine Kd.C_drew ?_))); (case side4 => exact HC531.out); rintro e w' ⟨rfl, ⟨nd, rfl⟩⟩))
                              go_ret
                              exact ⟨by first | rfl | (show Ending.returned (.bool _) = Ending.returned (.bool _); rw [i64_w]) | (simp [errW_none, errW_some] <;> rfl) | (simp only [← hji37]; first | rfl | (simp [errW_none, errW_some] <;> rfl)) | (simp [*, errW_none, errW_some] <;> rfl), by repeat (first | (with_reducible first | exact HB.out | apply below_alloc | apply pw_below_drewN | apply below_drew1) | exact HB.out)⟩
                          · rw [if_neg c39] at H
                            exact absurd H (by simp)
                        · rw [if_neg c38] at H
                          exact absurd H (by simp)
                      · replace c36 := Bool.eq_false_iff.mpr c36
                        subst c36
                        have H1 : (some false) = some r := by rw [if_neg (show ¬ (false = true) by decide)] at H; exact H
                        clear H
                        have H := H1
                        clear H1
                        obtain rfl := Option.some.inj H
                        obtain ⟨Ao48, co48, eo48⟩ := Kd.R_slice HO_8.out
                        subst eo48
                        go_wp2
                        go_ret
                        exact ⟨by first | rfl | (show Ending.returned (.bool _) = Ending.returned (.bool _); rw [i64_w]) | (simp [errW_none, errW_some] <;> rfl) | (simp [*, errW_none, errW_some] <;> rfl), by repeat (first | (with_reducible first | exact HB.out | apply below_alloc | apply pw_below_drewN | apply below_drew1) | exact HB.out)⟩

/-- THE ONE PURE STATEMENT of laws_FnSymbolsGet: yours. -/
def laws_FnSymbolsGet.Pure : Prop := ∀ (l0 : List Int) (l1 : List Int), l0.length ≤ maxLen → l0.length * 1 ≤ 140737488351232 → (∀ x ∈ l0, (Lit.int .u8 x).wf = true) → l1.length ≤ maxLen → l1.length * 1 ≤ 140737488351232 → (∀ x ∈ l1, (Lit.int .u8 x).wf = true) → ∃ k, laws_FnSymbolsGet.f k l0 l1 = some true
theorem laws_FnSymbolsGet.walk (P : laws_FnSymbolsGet.Pure) (a0 : Option Addr) (len0 cap0 : Nat) (z0 : List Int) (a1 : Option Addr) (len1 cap1 : Nat) (z1 : List Int) (w : World) (w0 : (a0 = none ∧ len0 = 0 ∧ cap0 = 0 ∧ z0 = []) ∨ ∃ x, a0 = some x ∧ len0 ≤ cap0 ∧ cap0 ≤ maxLen ∧ z0.length = cap0 ∧ (∀ i, i < z0.length → w.cell? (x.add i) = some (.int .u8 (z0.getD i 0))) ∧ ∀ n ∈ z0, (Lit.int .u8 n).wf = true) (y0 : len0 * 1 ≤ 140737488351232) (w1 : (a1 = none ∧ len1 = 0 ∧ cap1 = 0 ∧ z1 = []) ∨ ∃ x, a1 = some x ∧ len1 ≤ cap1 ∧ cap1 ≤ maxLen ∧ z1.length = cap1 ∧ (∀ i, i < z1.length → w.cell? (x.add i) = some (.int .u8 (z1.getD i 0))) ∧ ∀ n ∈ z1, (Lit.int .u8 n).wf = true) (y1 : len1 * 1 ≤ 140737488351232) :
    Calls Try.prog 4 #[.slice a0 len0 cap0, .slice a1 len1 cap1] w fun e w' => e = .returned (.bool true) ∧ Below w.heap.size w w' := by
  obtain ⟨l0, rfl, hr0, hm0, hw0, hc0⟩ := ReadsInt.ofRowC w0
  obtain ⟨l1, rfl, hr1, hm1, hw1, hc1⟩ := ReadsInt.ofRowC w1
  obtain ⟨k, h⟩ := P l0 l1 hm0 y0 hw0 hm1 y1 hw1
  refine (laws_FnSymbolsGet.calls k _ _ l0 _ _ l1 true w (Kd.C_of_reads (d := (0 : Int)) (h1 := fun _ => rfl) hr0) hc0 (Kd.C_of_reads (d := (0 : Int)) (h1 := fun _ => rfl) hr1) hc1 h).mono ?_
  rintro e w' ⟨rfl, hd⟩
  exact ⟨rfl, hd⟩

end Go.Proofs.Ytcbehpemhkfieaa.PAll
