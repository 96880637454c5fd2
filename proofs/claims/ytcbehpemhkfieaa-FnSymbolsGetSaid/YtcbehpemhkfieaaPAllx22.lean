-- Written by a program of this session, over the kit's print. Not trusted: Lean checks it.
import Derived.Test.YtcbehpemhkfieaaPAllx0
import Derived.Test.YtcbehpemhkfieaaPAllx21
namespace Go.Proofs.Ytcbehpemhkfieaa.PAll
open Go.RowKit Go.Proofs.YtcbehpemhkfieaaW.PrintWords Go.Proofs.YtcbehpemhkfieaaW.PrintLast Go.Proofs.YtcbehpemhkfieaaW.PrintMore
attribute [local go_sem] max2_int min2_int max_two min_two max_three min_three max_four min_four   -- for this text's walks alone
set_option linter.unusedVariables false
set_option linter.unusedSimpArgs false

/-! ### impl_reader_symbol: function 32 -/
theorem IsBook.keep {w0 W W1 : World} {base g : Nat} {v : Value} {xs : List Int} {f0 : ByteArray} {f1 : Int} {f2 : Bool} (h : IsBook W base v xs) (hI : IsS53 w0 W g f0 f1 f2) (hk : KeepBut W W1 g none) : IsBook W1 base v xs := by
  obtain ⟨b, n, rfl, hb, es, clock, hm, h1, h2, h3⟩ := h
  obtain ⟨hg, _⟩ := hI
  have hne : b ≠ g := by
    intro e
    rw [e, hg] at hm
    injection hm with hm
    cases hm
  have hlt : b < W.heap.size := (Array.getElem?_eq_some_iff.1 hm).1
  exact ⟨b, n, rfl, hb, es, clock, (hk.2 b hlt hne (by simp)).trans hm, h1, h2, h3⟩
/-- The symbol of a code of n bits, by the first rounds of the book. -/
def findB (cs l : List Int) (c n : Int) : Nat → Option Int
  | 0 => none
  | j + 1 => if rd l (j : Int) > 0 then (if rd cs (j : Int) = c ∧ rd l (j : Int) = n then some (j : Int) else findB cs l c n j) else findB cs l c n j
theorem bookP_isMap (cs l : List Int) : ∀ j, Go.Maps.IsMap (bookP cs l j)
  | 0 => Go.Maps.isMap_empty
  | j + 1 => by
    rw [bookP]
    split
    · exact (bookP_isMap cs l j).put _ _
    · exact bookP_isMap cs l j
theorem bookP_find {cs l : List Int} (hc : wfL cs = true) (hl : wfL l = true) {c n : Int} (hfc : fit64 c = true) (hfn : fit64 n = true) : ∀ j : Nat, j ≤ cs.length → j ≤ l.length →
    (bookP cs l j).atKey (pk c n) (.lit (.int .i64 0)) = .lit (.int .i64 ((findB cs l c n j).getD 0)) ∧ Go.Maps.has (bookP cs l j) (pk c n) = (findB cs l c n j).isSome
  | 0, _, _ => ⟨rfl, rfl⟩
  | j + 1, h1, h2 => by
    have ih := bookP_find hc hl hfc hfn j (by omega) (by omega)
    have f1 := wfL_at hc (show j < cs.length by omega)
    have f2 := wfL_at hl (show j < l.length by omega)
    rw [bookP, findB]
    by_cases hp : rd l (j : Int) > 0
    · rw [if_pos hp, if_pos hp]
      by_cases he : rd cs (j : Int) = c ∧ rd l (j : Int) = n
      · rw [if_pos he, he.1, he.2]
        have hk := law49.key (key49 hfc hfn)
        exact ⟨Go.Maps.atKey_put_same (bookP_isMap cs l j) hk _ _, Go.Maps.has_put_same (bookP_isMap cs l j) hk _⟩
      · rw [if_neg he]
        have hne : pk c n ≠ pk (rd cs (j : Int)) (rd l (j : Int)) := fun e => he ⟨(pk_inj hfc hfn f1 f2 e).1.symm, (pk_inj hfc hfn f1 f2 e).2.symm⟩
        rw [Go.Maps.atKey_put_other hne, Go.Maps.has_put_other hne]
        exact ih
    · rw [if_neg hp, if_neg hp]
      exact ih
def findX (xs : List Int) (c n : Int) : Option Int := findB (xs.take (xs.length / 2)) (xs.drop (xs.length / 2)) c n (xs.length / 2)
theorem wfL_take {xs : List Int} (h : wfL xs = true) (m : Nat) : wfL (xs.take m) = true := List.all_eq_true.2 (fun x hx => List.all_eq_true.1 h x (List.mem_of_mem_take hx))
theorem wfL_drop {xs : List Int} (h : wfL xs = true) (m : Nat) : wfL (xs.drop m) = true := List.all_eq_true.2 (fun x hx => List.all_eq_true.1 h x (List.mem_of_mem_drop hx))
theorem bookD_find {xs : List Int} (h : wfL xs = true) {c n : Int} (hfc : fit64 c = true) (hfn : fit64 n = true) :
    (bookD xs).atKey (pk c n) (.lit (.int .i64 0)) = .lit (.int .i64 ((findX xs c n).getD 0)) ∧ Go.Maps.has (bookD xs) (pk c n) = (findX xs c n).isSome :=
  bookP_find (wfL_take h _) (wfL_drop h _) hfc hfn _ (by rw [List.length_take]; omega) (by rw [List.length_drop]; omega)
/-- The next symbol: so many rounds are left. -/
def symB (xs : List Int) : Nat → Int → Int → ByteArray → Int → Bool → Option (Int × ByteArray × Int × Bool)
  | 0, _, _, s, m, _ => some (0, s, m, true)
  | d + 1, c, n, s, m, b => (impl_reader_bit.f s m b).bind fun t => (if (findX xs (wrap64 ((wrap64 (2 * c)) + t.1)) n).isSome = true then (if t.2.2.2 = true then symB xs d (wrap64 ((wrap64 (2 * c)) + t.1)) (wrap64 (n + 1)) t.2.1 t.2.2.1 t.2.2.2 else some ((findX xs (wrap64 ((wrap64 (2 * c)) + t.1)) n).getD 0, t.2.1, t.2.2.1, t.2.2.2)) else symB xs d (wrap64 ((wrap64 (2 * c)) + t.1)) (wrap64 (n + 1)) t.2.1 t.2.2.1 t.2.2.2)
def impl_reader_symbol.f (_k : Nat) (s0_0 : ByteArray) (s0_1 : Int) (s0_2 : Bool) (l1 : List Int) : Option (Int × ByteArray × Int × Bool) := if wfL l1 = true then symB l1 15 0 1 s0_0 s0_1 s0_2 else none
theorem impl_reader_symbol.mono : ∀ a0 a1 a2 a3 k, LeO (impl_reader_symbol.f k a0 a1 a2 a3) (impl_reader_symbol.f (k + 1) a0 a1 a2 a3) := fun _ _ _ _ _ => LeO.refl _
theorem zero49 (w : World) : (zeroValue 3).run Try.prog w = .ok (.int .i64 0) w := by kernel_rfl
theorem fit_wrap (x : Int) : fit64 (wrap64 x) = true := by
  simp only [fit64, Bool.and_eq_true, decide_eq_true_eq]
  unfold wrap64
  omega
set_option maxHeartbeats 8000000 in
set_option maxRecDepth 100000 in
theorem impl_reader_symbol.calls (k : Nat) (g : Nat) (s0_0 : ByteArray) (s0_1 : Int) (s0_2 : Bool) (bk base : Nat) (l1 : List Int) (r1 : Int) (r2 : ByteArray) (r3 : Int) (r4 : Bool) (w0 w : World) (hI : IsS53 w0 w g s0_0 s0_1 s0_2) (hB : Below w0.heap.size w0 w) (hM : IsBook w base (.map (some bk)) l1) (h : impl_reader_symbol.f k s0_0 s0_1 s0_2 l1 = some (r1, r2, r3, r4)) :
    Calls Try.prog 32 #[.pointer (some ⟨g, 0, none⟩), .map (some bk)] w fun e w' => e = .returned (.int .i64 r1) ∧ IsS53 w0 w' g r2 r3 r4 ∧ Below w0.heap.size w0 w' ∧ KeepBut w w' g none := by
  have HE := Aside0.mk (show ∃ n, ∀ W1, KeepBut w W1 g none → W1.ownsMap Try.prog 49 (plainElem Try.prog 3) bk n (bookD l1) from by
    obtain ⟨b, n, e, hb, es, clock, hm, h1, h2, h3⟩ := hM
    cases e
    refine ⟨n, fun W1 hk => ?_⟩
    obtain ⟨hg, _⟩ := hI
    have hne : bk ≠ g := by
      intro e
      rw [e, hg] at hm
      injection hm with hm
      cases hm
    have hlt : bk < w.heap.size := (Array.getElem?_eq_some_iff.1 hm).1
    exact ⟨es, clock, (hk.2 bk hlt hne (by simp)).trans hm, h1, h2, h3⟩)
  clear hM
  have HI0 := Aside0.mk hI
  have HK := Aside0.mk (KeepBut.refl w g none)
  have HL := Aside0.mk hB.size
  clear hI
  have HW0 := Aside0.mk hB.size
  have HB := Aside0.mk hB
  clear hB
  have HF : Aside0 (wfL l1 = true ∧ symB l1 15 0 1 s0_0 s0_1 s0_2 = some (r1, r2, r3, r4)) := by
    unfold impl_reader_symbol.f at h
    by_cases hx : wfL l1 = true
    · rw [if_pos hx] at h; exact ⟨hx, h⟩
    · rw [if_neg hx] at h; cases h
  clear h
  have H' := Aside0.mk HF.out.2
  have HWF := Aside0.mk HF.out.1
  clear HF
  go_enter Try.func32, Try.ntmps32
  go_wp2
  go_loopg [5, 6] 16 (fun kq v5 v6 w' => ∃ (x5 : Int) (x6 : Int) (d : Nat) (x1000 : ByteArray) (x1001 : Int) (x1002 : Bool), v5 = .int .i64 x5 ∧ v6 = .int .i64 x6 ∧ Aside0 (kq = d + 1 ∧ x6 + (d : Int) = 16 ∧ d ≤ 15) ∧ Aside0 (symB l1 d x5 x6 x1000 x1001 x1002 = some (r1, r2, r3, r4)) ∧ Aside0 (IsS53 w0 w' g x1000 x1001 x1002) ∧ Aside0 (KeepBut w w' g none) ∧ Aside0 (Below w0.heap.size w0 w'))
  case atStart => exact ⟨0, 1, 15, s0_0, s0_1, s0_2, (by first | rfl | (simp; done) | (simp [*]; done)), (by first | rfl | (simp; done) | (simp [*]; done)), ⟨rfl, by omega, by omega⟩, H', ⟨by repeat (first | (with_reducible first | exact HI0.out | apply IsS53.alloc | apply IsS53.drewN | apply IsS53.drew | apply IsS53.set_0 | apply IsS53.set_1 | apply IsS53.set_2) | exact HI0.out)⟩, ⟨by repeat (first | (with_reducible first | exact HK.out | apply KeepBut.set_ | apply keep_drewN | apply keep_drew | apply keep_alloc) | exact HK.out)⟩, ⟨by repeat (first | (with_reducible first | exact HB.out | apply below_alloc | apply pw_below_drewN | apply below_drew1 | refine below_set ?_ (IsS53.ge HI0.out)) | exact HB.out)⟩⟩
  case round =>
    clear H' HI0 HK HB
    obtain ⟨x5, x6, d, x1000, x1001, x1002, rfl, rfl, HD, HA, HI0, HK, HB⟩ := hrel
    cases d with
    | zero =>
      have c1b0 : decide (x6 ≤ 15) = false := decide_eq_false (by have := HD.out; omega)
      have H := HA.out
      clear HA
      rw [symB] at H
      simp only [Option.some.injEq, Prod.mk.injEq] at H
      obtain ⟨rfl, rfl, rfl, rfl⟩ := H
      obtain ⟨HGz6, hgz6⟩ := HI0.out
      have hcz6_0 := cellS53_0 HGz6
      have hcz6_1 := cellS53_1 HGz6
      have hcz6_2 := cellS53_2 HGz6
      have hfz6_0 := blk_frozen HGz6 0
      have hfz6_1 := blk_frozen HGz6 1
      have hfz6_2 := blk_frozen HGz6 2
      clear HGz6 hgz6
      go_wp2
      go_ret
      exact ⟨by first | rfl | (show Ending.returned (.bool _) = Ending.returned (.bool _); rw [i64_w]) | (simp [errW_none, errW_some] <;> rfl) | (simp [*, errW_none, errW_some] <;> rfl), by repeat (first | (with_reducible first | exact HI0.out | apply IsS53.alloc | apply IsS53.drewN | apply IsS53.drew | apply IsS53.set_0 | apply IsS53.set_1 | apply IsS53.set_2) | exact HI0.out), by repeat (first | (with_reducible first | exact HB.out | apply below_alloc | apply pw_below_drewN | apply below_drew1 | refine below_set ?_ (IsS53.ge HI0.out)) | exact HB.out), by repeat (first | (with_reducible first | exact HK.out | apply KeepBut.set_ | apply keep_drewN | apply keep_drew | apply keep_alloc) | exact HK.out)⟩
    | succ d =>
      have c1b0 : decide (x6 ≤ 15) = true := decide_eq_true (by have := HD.out; omega)
      have H := HA.out
      clear HA
      rw [symB] at H
      replace H := Option.bind_eq_some_iff.mp H
      obtain ⟨⟨t1, t2, t3, t4⟩, A80, H⟩ := H
      have A8 := Aside0.mk A80
      clear A80
      simp only [] at H
      have hkey := key49 (fit_wrap ((wrap64 (2 * x5)) + t1)) (show fit64 x6 = true by have := HD.out; simp only [fit64, Bool.and_eq_true, decide_eq_true_eq]; omega)
      have HBF := Aside0.mk (bookD_find HWF.out (fit_wrap ((wrap64 (2 * x5)) + t1)) (show fit64 x6 = true by have := HD.out; simp only [fit64, Bool.and_eq_true, decide_eq_true_eq]; omega))
      have HW1 := Aside0.mk (show wrap64 (x6 + 1) = x6 + 1 by have := HD.out; unfold wrap64; omega)
      by_cases cs : (findX l1 (wrap64 ((wrap64 (2 * x5)) + t1)) x6).isSome = true
      · rw [if_pos cs] at H
        have hhas : Go.Maps.has (bookD l1) (pk (wrap64 ((wrap64 (2 * x5)) + t1)) x6) = true := HBF.out.2.trans cs
        clear cs
        cases t4 with
        | true =>
          rw [if_pos rfl] at H
          have H' := Aside0.mk H
          clear H
          go_wp2_with (first | ((with_reducible refine gate_callee (f := 46) rfl ?_); refine goesL_ (some 16) rfl rfl Try.func46 (by kernel_rfl) rfl #[.pointer (some ⟨g, 0, none⟩)] rfl (by (try simp only [List.map_toArray, List.map_cons, List.map_nil]); first | done | rfl) ?_; (with_reducible refine (impl_reader_bit.calls g x1000 x1001 x1002 t1 t2 t3 true w0 _ ?side1 ?side2 A8.out).mono ?_); (case side1 => exact HI0.out); (case side2 => exact HB.out); rintro e w9 ⟨rfl, hi, hb, hk⟩; refine ⟨_, rfl, ?_⟩; have n0_ := Aside0.mk (KeepBut.trans HK.out hk (.inl rfl)); have n1_ := Aside0.mk hb; have n2_ := Aside0.mk hi; clear HK HB HI0 hi hb hk; have HK := n0_; have HB := n1_; have HI0 := n2_; clear n0_ n1_ n2_; obtain ⟨nm, hm9⟩ := HE.out; have HM9 := Aside0.mk (hm9 w9 HK.out); clear hm9; obtain ⟨HGz6, hgz6⟩ := HI0.out; have hcz6_0 := cellS53_0 HGz6; have hcz6_1 := cellS53_1 HGz6; have hcz6_2 := cellS53_2 HGz6; clear HGz6 hgz6) | (at_lookup; refine wpList_lookup_own_ok_int _ rfl _ _ 55 rfl 49 3 .i64 law49 Try.underlying55 Try.underlying3 (zero49 _) bk nm (bookD l1) rfl HM9.out _ _ rfl hkey ?_; intro cc hat hwc; have HAT := Aside0.mk hat; clear hat hwc))
          go_roundg (d + 1)
          case measure => have := HD.out; omega
          case rel => exact ⟨wrap64 ((wrap64 (2 * x5)) + t1), wrap64 (x6 + 1), d, t2, t3, true, (by first | rfl | (simp; done) | (simp [*]; done)), (by first | rfl | (simp; done) | (simp [*]; done)), ⟨rfl, by rw [HW1.out]; have := HD.out; omega, by have := HD.out; omega⟩, H', HI0, HK, HB⟩
        | false =>
          rw [if_neg (by simp)] at H
          simp only [Option.some.injEq, Prod.mk.injEq] at H
          obtain ⟨h1, rfl, rfl, rfl⟩ := H
          have H1 := Aside0.mk h1
          clear h1
          go_wp2_with (first | ((with_reducible refine gate_callee (f := 46) rfl ?_); refine goesL_ (some 16) rfl rfl Try.func46 (by kernel_rfl) rfl #[.pointer (some ⟨g, 0, none⟩)] rfl (by (try simp only [List.map_toArray, List.map_cons, List.map_nil]); first | done | rfl) ?_; (with_reducible refine (impl_reader_bit.calls g x1000 x1001 x1002 t1 t2 t3 false w0 _ ?side1 ?side2 A8.out).mono ?_); (case side1 => exact HI0.out); (case side2 => exact HB.out); rintro e w9 ⟨rfl, hi, hb, hk⟩; refine ⟨_, rfl, ?_⟩; have n0_ := Aside0.mk (KeepBut.trans HK.out hk (.inl rfl)); have n1_ := Aside0.mk hb; have n2_ := Aside0.mk hi; clear HK HB HI0 hi hb hk; have HK := n0_; have HB := n1_; have HI0 := n2_; clear n0_ n1_ n2_; obtain ⟨nm, hm9⟩ := HE.out; have HM9 := Aside0.mk (hm9 w9 HK.out); clear hm9; obtain ⟨HGz6, hgz6⟩ := HI0.out; have hcz6_0 := cellS53_0 HGz6; have hcz6_1 := cellS53_1 HGz6; have hcz6_2 := cellS53_2 HGz6; clear HGz6 hgz6) | (at_lookup; refine wpList_lookup_own_ok_int _ rfl _ _ 55 rfl 49 3 .i64 law49 Try.underlying55 Try.underlying3 (zero49 _) bk nm (bookD l1) rfl HM9.out _ _ rfl hkey ?_; intro cc hat hwc; have HAT := Aside0.mk hat; clear hat hwc))
          go_ret
          have hcc : cc = r1 := by
            have e := HBF.out.1
            rw [HAT.out, H1.out] at e
            injection e with e
            injection e with _ e
          exact ⟨by rw [← hcc]; first | rfl | (simp; done), HI0.out, HB.out, HK.out⟩
      · rw [if_neg cs] at H
        have hhas : Go.Maps.has (bookD l1) (pk (wrap64 ((wrap64 (2 * x5)) + t1)) x6) = false := HBF.out.2.trans (by simpa using cs)
        clear cs
        have H' := Aside0.mk H
        clear H
        go_wp2_with (first | ((with_reducible refine gate_callee (f := 46) rfl ?_); refine goesL_ (some 16) rfl rfl Try.func46 (by kernel_rfl) rfl #[.pointer (some ⟨g, 0, none⟩)] rfl (by (try simp only [List.map_toArray, List.map_cons, List.map_nil]); first | done | rfl) ?_; (with_reducible refine (impl_reader_bit.calls g x1000 x1001 x1002 t1 t2 t3 t4 w0 _ ?side1 ?side2 A8.out).mono ?_); (case side1 => exact HI0.out); (case side2 => exact HB.out); rintro e w9 ⟨rfl, hi, hb, hk⟩; refine ⟨_, rfl, ?_⟩; have n0_ := Aside0.mk (KeepBut.trans HK.out hk (.inl rfl)); have n1_ := Aside0.mk hb; have n2_ := Aside0.mk hi; clear HK HB HI0 hi hb hk; have HK := n0_; have HB := n1_; have HI0 := n2_; clear n0_ n1_ n2_; obtain ⟨nm, hm9⟩ := HE.out; have HM9 := Aside0.mk (hm9 w9 HK.out); clear hm9; obtain ⟨HGz6, hgz6⟩ := HI0.out; have hcz6_0 := cellS53_0 HGz6; have hcz6_1 := cellS53_1 HGz6; have hcz6_2 := cellS53_2 HGz6; clear HGz6 hgz6) | (at_lookup; refine wpList_lookup_own_ok_int _ rfl _ _ 55 rfl 49 3 .i64 law49 Try.underlying55 Try.underlying3 (zero49 _) bk nm (bookD l1) rfl HM9.out _ _ rfl hkey ?_; intro cc hat hwc; have HAT := Aside0.mk hat; clear hat hwc))
        go_roundg (d + 1)
        case measure => have := HD.out; omega
        case rel => exact ⟨wrap64 ((wrap64 (2 * x5)) + t1), wrap64 (x6 + 1), d, t2, t3, t4, (by first | rfl | (simp; done) | (simp [*]; done)), (by first | rfl | (simp; done) | (simp [*]; done)), ⟨rfl, by rw [HW1.out]; have := HD.out; omega, by have := HD.out; omega⟩, H', HI0, HK, HB⟩

end Go.Proofs.Ytcbehpemhkfieaa.PAll
