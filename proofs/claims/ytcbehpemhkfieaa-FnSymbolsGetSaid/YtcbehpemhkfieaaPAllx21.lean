-- Written by a program of this session, over the kit's print. Not trusted: Lean checks it.
import Derived.Test.YtcbehpemhkfieaaPAllx0
import Derived.Test.YtcbehpemhkfieaaPAllx13
namespace Go.Proofs.Ytcbehpemhkfieaa.PAll
open Go.RowKit Go.Proofs.YtcbehpemhkfieaaW.PrintWords Go.Proofs.YtcbehpemhkfieaaW.PrintLast Go.Proofs.YtcbehpemhkfieaaW.PrintMore
attribute [local go_sem] max2_int min2_int max_two min_two max_three min_three max_four min_four   -- for this text's walks alone
set_option linter.unusedVariables false
set_option linter.unusedSimpArgs false

/-! ### impl_bookOf: function 31 -/
/-! A book: a map by pieces, told by what is written in it. -/
theorem law49 : Go.Maps.Keyed Try.prog 49 := Go.Maps.Keyed.of_law (deep_law_laid (by kernel_rfl) (m := 2) (by omega) (of_decide_eq_true (by kernel_rfl)) (by kernel_rfl) (by rw [Try.underlying49]))
def fit64 (x : Int) : Bool := decide (-9223372036854775808 ≤ x) && decide (x ≤ 9223372036854775807)
theorem fit64_wf {x : Int} (h : fit64 x = true) : (Lit.int .i64 x).wf = true := by
  simp only [fit64, Bool.and_eq_true, decide_eq_true_eq] at h
  simpa [Lit.wf, IntKind.min, IntKind.max, IntKind.signed, IntKind.bits] using h
def pk (c n : Int) : Lit := .string (keyBytes [.int .i64 c, .int .i64 n])
theorem key49 {c n : Int} (hc : fit64 c = true) (hn : fit64 n = true) : keyOf Try.prog 49 (.agg #[.int .i64 c, .int .i64 n]) = some (pk c n) := by
  have h1 : Try.prog.keyType 49 = true := by kernel_rfl
  have h4 : Try.prog.cellsOf 49 = 2 := by kernel_rfl
  have h5 : Try.prog.cellsOf 3 = 1 := by kernel_rfl
  have h2 : (Value.agg #[.int .i64 c, .int .i64 n]).formed Try.prog 49 = true := by
    simp [Value.formed, Try.underlying49, h4]
  obtain ⟨m, hm⟩ : ∃ m, Try.prog.types.size = m + 1 := ⟨Try.prog.types.size - 1, by have : 0 < Try.prog.types.size := of_decide_eq_true (by kernel_rfl); omega⟩
  have w1 := fit64_wf hc
  have w2 := fit64_wf hn
  unfold keyOf pk
  rw [Try.underlying49]
  simp only [h1, h2, Bool.and_self, if_true, hm]
  simp [Program.keyLits, Try.underlying49, Try.underlying3, Value.cells, h4, h5, w1, w2]
theorem pk_inj {c n c' n' : Int} (hc : fit64 c = true) (hn : fit64 n = true) (hc' : fit64 c' = true) (hn' : fit64 n' = true) (h : pk c n = pk c' n') : c = c' ∧ n = n' := by
  have := law49.inj (key49 hc hn) ((key49 hc' hn').trans (by rw [h]))
  simpa using this
def wfL (l : List Int) : Bool := l.all fit64
theorem wfL_at {l : List Int} (h : wfL l = true) {j : Nat} (hj : j < l.length) : fit64 (rd l (j : Int)) = true := by
  have e : rd l (j : Int) = l[j] := by simp [rd, List.getElem?_eq_getElem hj]
  rw [e]
  exact List.all_eq_true.1 h _ (List.getElem_mem hj)
/-- What the book holds after so many rounds. -/
def bookP (cs l : List Int) : Nat → DataW Unit
  | 0 => .map []
  | j + 1 => if rd l (j : Int) > 0 then (bookP cs l j).put (pk (rd cs (j : Int)) (rd l (j : Int))) (.lit (.int .i64 (j : Int))) else bookP cs l j
def bookD (xs : List Int) : DataW Unit := bookP (xs.take (xs.length / 2)) (xs.drop (xs.length / 2)) (xs.length / 2)
theorem bookD_eq {cs l : List Int} (h : cs.length = l.length) : bookD (cs ++ l) = bookP cs l cs.length := by
  have e : (cs ++ l).length / 2 = cs.length := by rw [List.length_append]; omega
  unfold bookD
  rw [e, List.take_left, List.drop_left]
/-- v is a book of W, made since. -/
def IsBook (W : World) (base : Nat) (v : Value) (xs : List Int) : Prop := ∃ b n, v = .map (some b) ∧ base ≤ b ∧ W.ownsMap Try.prog 49 (plainElem Try.prog 3) b n (bookD xs)
theorem IsBook.kept {W W1 : World} {base : Nat} {v : Value} {xs : List Int} {row : Option Nat} (h : IsBook W base v xs) (hg : W.grownBy W1 row) (hne : ∀ b, v = .map (some b) → some b ≠ row) : IsBook W1 base v xs := by
  obtain ⟨b, n, rfl, hb, ho⟩ := h
  exact ⟨b, n, rfl, hb, ho.kept hg (hne b rfl)⟩
theorem IsBook.below {W W1 : World} {base : Nat} {v : Value} {xs : List Int} (h : IsBook W base v xs) (hb : Below W.heap.size W W1) : IsBook W1 base v xs := h.kept (grown_of_below hb none) (fun _ _ => by simp)
theorem IsBook.lower {W : World} {base base' : Nat} {v : Value} {xs : List Int} (h : IsBook W base v xs) (hle : base' ≤ base) : IsBook W base' v xs := by
  obtain ⟨b, n, rfl, hb, ho⟩ := h
  exact ⟨b, n, rfl, Nat.le_trans hle hb, ho⟩
theorem IsBook.own {W : World} {base : Nat} {v : Value} {xs : List Int} (h : IsBook W base v xs) : v.ownBlock = none := by
  obtain ⟨b, n, rfl, hb, ho⟩ := h
  rfl
theorem IsBook.map {W : World} {base : Nat} {v : Value} {xs : List Int} (h : IsBook W base v xs) : ∃ b, v = .map (some b) := by
  obtain ⟨b, n, rfl, hb, ho⟩ := h
  exact ⟨b, rfl⟩
theorem map_ne {W : World} {b n : Nat} {D : DataW Unit} (ho : W.ownsMap Try.prog 49 (plainElem Try.prog 3) b n D) {α : Type} {d : Kd α} {e base' : Nat} {ok : Nat → Prop} {u : Value} {ys : List α} (hu : Kd.R d e W base' ok u ys) : some b ≠ u.ownBlock := by
  intro he
  obtain ⟨cells, hc⟩ := Kd.R_typed hu b he.symm
  obtain ⟨es, clock, hb, _⟩ := ho
  rw [hb] at hc
  injection hc with hc
  cases hc
theorem IsBook.grown {W W1 : World} {base : Nat} {v : Value} {xs : List Int} (h : IsBook W base v xs) {α : Type} {d : Kd α} {e base' : Nat} {ok : Nat → Prop} {u : Value} {ys : List α} (hu : Kd.R d e W base' ok u ys) (hg : W.grownBy W1 u.ownBlock) : IsBook W1 base v xs := by
  obtain ⟨b, n, rfl, hb, ho⟩ := h
  exact ⟨b, n, rfl, hb, ho.kept hg (map_ne ho hu)⟩
def impl_bookOf.f (k : Nat) (l0 : List Int) : Option (List Int) := (impl_codes.f k l0).bind fun cs => if cs.length = l0.length ∧ cs.length ≤ 1000 ∧ wfL cs = true ∧ wfL l0 = true then some (cs ++ l0) else none
theorem impl_bookOf.mono : ∀ a0 k, LeO (impl_bookOf.f k a0) (impl_bookOf.f (k + 1) a0) := by
  intro a0 k
  unfold impl_bookOf.f
  exact LeO.bind (impl_codes.mono _ _) (fun _ => LeO.refl _)
set_option maxHeartbeats 8000000 in
set_option maxRecDepth 100000 in
theorem impl_bookOf.calls (k : Nat) (A0 : Option Addr) (c0 : Nat) (l0 : List Int) (r : List Int) (w : World) (hr0 : Kd.C (Kd.int .i64) w A0 l0.length l0) (hc0 : l0.length ≤ c0) (h : impl_bookOf.f k l0 = some r) :
    Calls Try.prog 31 #[.slice A0 l0.length c0] w fun e w' => ∃ v0_ : Value, e = .returned v0_ ∧ IsBook w' w.heap.size v0_ r ∧ Below w.heap.size w w' := by
  have HR0 := Aside0.mk hr0
  have HC0 := Aside0.mk hc0
  clear hr0 hc0
  obtain ⟨cs, A10, h2⟩ := Option.bind_eq_some_iff.mp h
  have A1 := Aside0.mk A10
  clear A10 h
  have hcond : Aside0 (cs.length = l0.length ∧ cs.length ≤ 1000 ∧ wfL cs = true ∧ wfL l0 = true) := by
    by_cases hx : cs.length = l0.length ∧ cs.length ≤ 1000 ∧ wfL cs = true ∧ wfL l0 = true
    · exact ⟨hx⟩
    · rw [if_neg hx] at h2; cases h2
  rw [if_pos hcond.out] at h2
  obtain rfl := Option.some.inj h2
  clear h2
  have hmm := @run_makeMap Try.prog
  have HM0 := Aside0.mk (show (w.alloc (.map #[] 0)).ownsMap Try.prog 49 (plainElem Try.prog 3) w.heap.size 0 (bookP cs l0 0) from World.ownsMap_made _ _ _ _)
  have HB0 := Aside0.mk (show Below w.heap.size w (w.alloc (.map #[] 0)) from (Below.refl _ _).alloc (Nat.le_refl _) _)
  go_enter Try.func31, Try.ntmps31
  go_wp2_with (first | ((with_reducible refine gate_callee (f := 24) rfl ?_); refine goesL_ (some 8) rfl rfl Try.func24 (by kernel_rfl) rfl #[.slice A0 l0.length c0] rfl (by (try simp only [List.map_toArray, List.map_cons, List.map_nil]); first | done | rfl) ?_; (with_reducible refine (impl_codes.calls k _ _ l0 cs _ ?side1 ?side2 A1.out).mono ?_); (case side1 => exact Kd.C_below HR0.out HB0.out); (case side2 => exact HC0.out); rintro e w1 ⟨v8, rfl, ho0, hb⟩; refine ⟨_, rfl, ?_⟩; have HO := Aside0.mk (Kd.R_lower ho0 (below_size HB0.out)); have HM := Aside0.mk (HM0.out.kept (grown_of_below hb none) (by simp)); have HB := Aside0.mk (below_step HB0.out hb); clear ho0 hb HM0 HB0; obtain ⟨Ao, co, eo⟩ := Kd.R_slice HO.out; subst eo))
  go_loopg [10] (cs.length + 1) (fun kq v10 w' => ∃ (x : Int) (i : Nat), v10 = .int .i64 x ∧ Aside0 (x = (i : Int) ∧ i + kq = cs.length + 1 ∧ i ≤ cs.length) ∧ Aside0 (w'.ownsMap Try.prog 49 (plainElem Try.prog 3) w.heap.size i (bookP cs l0 i)) ∧ Aside0 (Kd.R (Kd.int .i64) 3 w' w.heap.size (fun _ => True) (.slice Ao cs.length co) cs) ∧ Aside0 (Below w.heap.size w w'))
  case atStart => exact ⟨0, 0, (by first | rfl | (simp; done) | (simp [*]; done)), ⟨rfl, by omega, by omega⟩, HM, HO, HB⟩
  case round =>
    clear HM HO HB
    obtain ⟨x, i, rfl, hi, HM, HO, HB⟩ := hrel
    have hcd := hcond.out
    have hxi := hi.out.1
    by_cases c1 : x < (cs.length : Int)
    · have c1b0 : decide (x < (cs.length : Int)) = true := decide_eq_true c1
      have p1 : 0 ≤ x := by omega
      have q2 : x < (l0.length : Int) := by omega
      obtain ⟨ad1, e1, hx1⟩ := Kd.at_int (Kd.R_reads' HO.out).2.2 x p1 c1
      cases e1
      obtain ⟨ad0, e0, hx0⟩ := Kd.at_int (Kd.C_below HR0.out HB.out) x p1 q2
      cases e0
      have hf1 : fit64 (rd cs x) = true := by rw [hxi]; exact wfL_at hcd.2.2.1 (by omega)
      have hf2 : fit64 (rd l0 x) = true := by rw [hxi]; exact wfL_at hcd.2.2.2 (by omega)
      have hkey := key49 hf1 hf2
      have hwi : (Lit.int .i64 x).wf = true := fit64_wf (by simp only [fit64, Bool.and_eq_true, decide_eq_true_eq]; omega)
      have W1_ : Aside0 (wrap64 (x + 1) = ((i + 1 : Nat) : Int)) := ⟨by unfold wrap64; omega⟩
      have HX := Aside0.mk (show x = (i : Int) ∧ i < cs.length ∧ cs.length ≤ 1000 from ⟨hxi, by omega, hcd.2.1⟩)
      have p1b := eq_true p1
      have c1b := eq_true c1
      have q2b := eq_true q2
      clear hxi hcd
      by_cases c2 : rd l0 x > 0
      · have c2b0 : decide (0 < rd l0 x) = true := decide_eq_true c2
        go_wp2_with (first | (at_mapUpdate; refine wpList_mapUpdate_own _ rfl _ _ _ 55 rfl 49 3 law49 Try.underlying55 _ w.heap.size i _ rfl HM.out (by have := HX.out; unfold maxLen; omega) _ _ _ rfl rfl hkey _ [] (plainElem_int Try.underlying3 hwi) ?_; intro w2 hown1 hgrow1; have HM1 := Aside0.mk (show w2.ownsMap Try.prog 49 (plainElem Try.prog 3) w.heap.size (i + 1) (bookP cs l0 (i + 1)) from by rw [bookP, ← HX.out.1, if_pos c2]; exact hown1); have HO1 := Aside0.mk (Kd.R_grown2 HO.out rfl hgrow1 (fun k hk => by cases hk; exact map_ne HM.out HO.out)); have HB1 := Aside0.mk (HB.out.grown hgrow1 HB.out.size (fun j hj => by cases hj; exact Nat.le_refl _)); clear HM HO HB hown1 hgrow1; have HM := HM1; have HO := HO1; have HB := HB1; clear HM1 HO1 HB1))
        go_roundg (cs.length - i)
        case measure => have := hi.out; omega
        case rel => exact ⟨wrap64 (x + 1), i + 1, (by first | rfl | (simp; done) | (simp [*]; done)), ⟨W1_.out, by have := hi.out; omega, by have := HX.out; omega⟩, HM, HO, HB⟩
      · have c2b0 : decide (0 < rd l0 x) = false := decide_eq_false c2
        go_wp2
        go_roundg (cs.length - i)
        case measure => have := hi.out; omega
        case rel => exact ⟨wrap64 (x + 1), i + 1, (by first | rfl | (simp; done) | (simp [*]; done)), ⟨W1_.out, by have := hi.out; omega, by have := HX.out; omega⟩, ⟨by rw [bookP, ← HX.out.1, if_neg (by omega)]; exact HM.out.mono (Nat.le_succ _)⟩, HO, HB⟩
    · have c1b0 : decide (x < (cs.length : Int)) = false := decide_eq_false c1
      have HL := Aside0.mk (show i = cs.length by have := hi.out; omega)
      clear hxi hcd
      go_wp2
      go_ret
      exact ⟨_, rfl, ⟨w.heap.size, i, rfl, Nat.le_refl _, by rw [bookD_eq hcond.out.1, ← HL.out]; exact HM.out⟩, HB.out⟩

/-- A state of type 53 at block g of W; what its slices lead to came in by w0. -/
def IsS53 (w0 W : World) (g : Nat) (f0 : ByteArray) (f1 : Int) (f2 : Bool) : Prop := W.heap[g]? = some (.cells #[.string f0, .int .i64 f1, .bool f2] 53 (0, 0)) ∧ w0.heap.size ≤ g
theorem IsS53.grown {w0 W : World} {g : Nat} {f0 : ByteArray} {f1 : Int} {f2 : Bool} {W1 : World} {row : Option Nat} (h : IsS53 w0 W g f0 f1 f2) (hw : W.grownBy W1 row) (hne : some g ≠ row) : IsS53 w0 W1 g f0 f1 f2 := by
  obtain ⟨hb, hg⟩ := h
  exact ⟨blk_grown hb hw hne, hg⟩
theorem IsS53.own_neN {w0 W : World} {g : Nat} {f0 : ByteArray} {f1 : Int} {f2 : Bool} {α : Type} {d : Kd α} {e : Nat} {base : Nat} {ok : Nat → Prop} {v : Value} {xs : List α} (h : IsS53 w0 W g f0 f1 f2) (ho : Kd.N d e W base ok v xs) (ht : e ≠ 53) : some g ≠ v.ownBlock := by
  obtain ⟨hb, hg⟩ := h
  exact Kd.N_ne ho hb ht
theorem IsS53.fresh {w0 W : World} {g : Nat} {f0 : ByteArray} {f1 : Int} {f2 : Bool} (h : IsS53 w0 W g f0 f1 f2) : ∀ k, W.heap.size ≤ k → k ≠ g := by
  obtain ⟨hb, hg⟩ := h
  exact Kd.freshB hb
theorem IsS53.kept {w0 W : World} {g : Nat} {f0 : ByteArray} {f1 : Int} {f2 : Bool} {W1 : World} {S : Nat → Prop} (h : IsS53 w0 W g f0 f1 f2) (hk : Kept W W1 S) (hne : ¬ S g) : IsS53 w0 W1 g f0 f1 f2 := by
  obtain ⟨hb, hg⟩ := h
  exact ⟨blk_kept hb hk hne, hg⟩
theorem IsS53.below {w0 W : World} {g : Nat} {f0 : ByteArray} {f1 : Int} {f2 : Bool} {W1 : World} (h : IsS53 w0 W g f0 f1 f2) (hw : Below W.heap.size W W1) : IsS53 w0 W1 g f0 f1 f2 := h.grown (grown_of_below hw none) (by simp)
theorem IsS53.alloc {w0 W : World} {g : Nat} {f0 : ByteArray} {f1 : Int} {f2 : Bool} (h : IsS53 w0 W g f0 f1 f2) (o : Obj) : IsS53 w0 (W.alloc o) g f0 f1 f2 := h.below (below_alloc (Below.refl _ _) o)
theorem IsS53.drewN {w0 W : World} {g : Nat} {f0 : ByteArray} {f1 : Int} {f2 : Bool} (h : IsS53 w0 W g f0 f1 f2) (m : Nat) : IsS53 w0 (W.drewN m) g f0 f1 f2 := h
theorem IsS53.drew {w0 W : World} {g : Nat} {f0 : ByteArray} {f1 : Int} {f2 : Bool} (h : IsS53 w0 W g f0 f1 f2) : IsS53 w0 W.drew g f0 f1 f2 := h
theorem IsS53.at_ {w0 W : World} {g : Nat} {f0 : ByteArray} {f1 : Int} {f2 : Bool} {w' : World} {m : Nat} (hq : W.drewN m = w') (h : IsS53 w0 W g f0 f1 f2) : IsS53 w0 w' g f0 f1 f2 := by subst hq; exact IsS53.drewN h m
theorem IsS53.apart {w0 W : World} {g : Nat} {f0 : ByteArray} {f1 : Int} {f2 : Bool} {α : Type} {d : Kd α} {e : Nat} {base : Nat} {ok : Nat → Prop} {v : Value} {xs : List α} (h : IsS53 w0 W g f0 f1 f2) (ho : d.R e W base ok v xs) (ht : ∀ q, q ∈ e :: d.E → q ≠ 53) : d.R e W base (fun k => ok k ∧ k ≠ g) v xs := by
  obtain ⟨hb, hg⟩ := h
  exact Kd.R_types ho hb ht
theorem IsS53.own_ne {w0 W : World} {g : Nat} {f0 : ByteArray} {f1 : Int} {f2 : Bool} {α : Type} {d : Kd α} {e : Nat} {base : Nat} {ok : Nat → Prop} {v : Value} {xs : List α} (h : IsS53 w0 W g f0 f1 f2) (ho : d.R e W base ok v xs) (ht : e ≠ 53) : some g ≠ v.ownBlock := by
  obtain ⟨hb, hg⟩ := h
  exact Kd.R_ne ho hb ht
theorem IsS53.apartQ {w0 W : World} {g : Nat} {f0 : ByteArray} {f1 : Int} {f2 : Bool} {α : Type} {d : Kd α} {e : Nat} {base : Nat} {ok : Nat → Prop} {v : Value} {xs : List α} (h : IsS53 w0 W g f0 f1 f2) (ho : d.Q e W base ok v xs) (ht : ∀ q, q ∈ e :: d.E → q ≠ 53) : d.Q e W base (fun k => ok k ∧ k ≠ g) v xs := by
  obtain ⟨hb, hg⟩ := h
  exact Kd.Q_types ho hb ht
theorem IsS53.own_neQ {w0 W : World} {g : Nat} {f0 : ByteArray} {f1 : Int} {f2 : Bool} {α : Type} {d : Kd α} {e : Nat} {base : Nat} {ok : Nat → Prop} {v : Value} {xs : List α} (h : IsS53 w0 W g f0 f1 f2) (ho : d.Q e W base ok v xs) (ht : e ≠ 53) : some g ≠ v.ownBlock := by
  obtain ⟨hb, hg⟩ := h
  exact Kd.Q_ne ho hb ht
theorem IsS53.apartS {w0 W : World} {g : Nat} {f0 : ByteArray} {f1 : Int} {f2 : Bool} {α : Type} {d : Kd α} {e : Nat} {base : Nat} {ok : Nat → Prop} {v : Value} {xs : List α} (h : IsS53 w0 W g f0 f1 f2) (ho : d.S e W base ok v xs) (ht : ∀ q, q ∈ e :: d.E → q ≠ 53) : d.S e W base (fun k => ok k ∧ k ≠ g) v xs := by
  obtain ⟨hb, hg⟩ := h
  exact Kd.S_types ho hb ht
theorem IsS53.own_neS {w0 W : World} {g : Nat} {f0 : ByteArray} {f1 : Int} {f2 : Bool} {α : Type} {d : Kd α} {e : Nat} {base : Nat} {ok : Nat → Prop} {v : Value} {xs : List α} (h : IsS53 w0 W g f0 f1 f2) (ho : d.S e W base ok v xs) (ht : e ≠ 53) : some g ≠ v.ownBlock := by
  obtain ⟨hb, hg⟩ := h
  exact Kd.S_ne ho hb ht
theorem IsS53.lt {w0 W : World} {g : Nat} {f0 : ByteArray} {f1 : Int} {f2 : Bool} (h : IsS53 w0 W g f0 f1 f2) : g < W.heap.size := by
  obtain ⟨hb, hg⟩ := h
  exact blk_lt hb
theorem IsS53.ge {w0 W : World} {g : Nat} {f0 : ByteArray} {f1 : Int} {f2 : Bool} (h : IsS53 w0 W g f0 f1 f2) : w0.heap.size ≤ g := by
  obtain ⟨hb, hg⟩ := h
  exact hg
theorem IsS53.ne_blk {w0 W : World} {g : Nat} {f0 : ByteArray} {f1 : Int} {f2 : Bool} {a : Nat} {cs : Array Value} {t : TypeId} {fr : Nat × Nat} (h : IsS53 w0 W g f0 f1 f2) (hb2 : W.heap[a]? = some (.cells cs t fr)) (ht : t ≠ 53) : g ≠ a := by
  obtain ⟨hb, hg⟩ := h
  rintro rfl
  rw [hb] at hb2
  injection hb2 with hb2
  injection hb2 with _ ht2
  exact ht ht2.symm
theorem IsS53.far {w0 W : World} {g : Nat} {f0 : ByteArray} {f1 : Int} {f2 : Bool} {p : Addr} (h : IsS53 w0 W g f0 f1 f2) (hne : g ≠ p.block) (u : Value) : IsS53 w0 (W.setCell p u) g f0 f1 f2 := by
  obtain ⟨hb, hg⟩ := h
  exact ⟨blk_far hb hne u, hg⟩
theorem cellS53_0 {W : World} {g : Nat} {f0 : ByteArray} {f1 : Int} {f2 : Bool} (h : W.heap[g]? = some (.cells #[.string f0, .int .i64 f1, .bool f2] 53 (0, 0))) : W.cell? ⟨g, 0, none⟩ = some (.string f0) := (blk_cell h 0).trans rfl
theorem IsS53.set_0 {w0 W : World} {g : Nat} {f0 : ByteArray} {f1 : Int} {f2 : Bool} (h : IsS53 w0 W g f0 f1 f2) (x : ByteArray) : IsS53 w0 (W.setCell ⟨g, 0, none⟩ (.string x)) g x f1 f2 := by
  obtain ⟨hb, hg⟩ := h
  exact ⟨by simpa using blk_set hb 0 (.string x), hg⟩
theorem cellS53_1 {W : World} {g : Nat} {f0 : ByteArray} {f1 : Int} {f2 : Bool} (h : W.heap[g]? = some (.cells #[.string f0, .int .i64 f1, .bool f2] 53 (0, 0))) : W.cell? ⟨g, 1, none⟩ = some (.int .i64 f1) := (blk_cell h 1).trans rfl
theorem IsS53.set_1 {w0 W : World} {g : Nat} {f0 : ByteArray} {f1 : Int} {f2 : Bool} (h : IsS53 w0 W g f0 f1 f2) (x : Int) : IsS53 w0 (W.setCell ⟨g, 1, none⟩ (.int .i64 x)) g f0 x f2 := by
  obtain ⟨hb, hg⟩ := h
  exact ⟨by simpa using blk_set hb 1 (.int .i64 x), hg⟩
theorem cellS53_2 {W : World} {g : Nat} {f0 : ByteArray} {f1 : Int} {f2 : Bool} (h : W.heap[g]? = some (.cells #[.string f0, .int .i64 f1, .bool f2] 53 (0, 0))) : W.cell? ⟨g, 2, none⟩ = some (.bool f2) := (blk_cell h 2).trans rfl
theorem IsS53.set_2 {w0 W : World} {g : Nat} {f0 : ByteArray} {f1 : Int} {f2 : Bool} (h : IsS53 w0 W g f0 f1 f2) (x : Bool) : IsS53 w0 (W.setCell ⟨g, 2, none⟩ (.bool x)) g f0 f1 x := by
  obtain ⟨hb, hg⟩ := h
  exact ⟨by simpa using blk_set hb 2 (.bool x), hg⟩
theorem IsS53.new (w0 W : World) (f0 : ByteArray) (f1 : Int) (f2 : Bool) (hB : Below w0.heap.size w0 W) : IsS53 w0 (W.alloc (.cells #[.string f0, .int .i64 f1, .bool f2] 53)) W.heap.size f0 f1 f2 := ⟨by simpa using heap_alloc_new W _, hB.size⟩

/-! ### impl_reader_bit: function 46 -/
def impl_reader_bit.f (s0_0 : ByteArray) (s0_1 : Int) (s0_2 : Bool) : Option (Int × ByteArray × Int × Bool) := if s0_1 ≥ (wrap64 (8 * (s0_0.size : Int))) then (some (0, s0_0, s0_1, true)) else (if 0 ≤ (wrap64 (Int.tdiv s0_1 8)) then (if (wrap64 (Int.tdiv s0_1 8)) < (s0_0.size : Int) then (if 0 ≤ (Int.tmod s0_1 8) then (some (Go.bits .and .i64 (shr .i64 (wrap64 (bt s0_0 (wrap64 (Int.tdiv s0_1 8)))) (Int.tmod s0_1 8)) 1, s0_0, wrap64 (s0_1 + 1), s0_2)) else (none)) else (none)) else (none))
set_option maxHeartbeats 8000000 in
set_option maxRecDepth 100000 in
theorem impl_reader_bit.calls (g : Nat) (s0_0 : ByteArray) (s0_1 : Int) (s0_2 : Bool) (r1 : Int) (r2 : ByteArray) (r3 : Int) (r4 : Bool) (w0 w : World) (hI : IsS53 w0 w g s0_0 s0_1 s0_2) (hB : Below w0.heap.size w0 w) (h : impl_reader_bit.f s0_0 s0_1 s0_2 = some (r1, r2, r3, r4)) :
    Calls Try.prog 46 #[.pointer (some ⟨g, 0, none⟩)] w fun e w' => e = .returned (.int .i64 r1) ∧ IsS53 w0 w' g r2 r3 r4 ∧ Below w0.heap.size w0 w' ∧ KeepBut w w' g none := by
  have HI0 := Aside0.mk hI
  have HK := Aside0.mk (KeepBut.refl w g none)
  have HL := Aside0.mk hB.size
  clear hI
  have HW0 := Aside0.mk hB.size
  have HB := Aside0.mk hB
  clear hB
  have H : (if s0_1 ≥ (wrap64 (8 * (s0_0.size : Int))) then (some (0, s0_0, s0_1, true)) else (if 0 ≤ (wrap64 (Int.tdiv s0_1 8)) then (if (wrap64 (Int.tdiv s0_1 8)) < (s0_0.size : Int) then (if 0 ≤ (Int.tmod s0_1 8) then (some (Go.bits .and .i64 (shr .i64 (wrap64 (bt s0_0 (wrap64 (Int.tdiv s0_1 8)))) (Int.tmod s0_1 8)) 1, s0_0, wrap64 (s0_1 + 1), s0_2)) else (none)) else (none)) else (none))) = some (r1, r2, r3, r4) := h
  clear h
  by_cases c2 : s0_1 ≥ (wrap64 (8 * (s0_0.size : Int)))
  · rw [if_pos c2] at H
    have c2b0 : decide ((wrap64 (8 * (s0_0.size : Int))) ≤ s0_1) = true := decide_eq_true c2
    clear c2
    simp only [Option.some.injEq, Prod.mk.injEq] at H
    obtain ⟨rfl, rfl, rfl, rfl⟩ := H
    obtain ⟨HGz3, hgz3⟩ := HI0.out
    have hcz3_0 := cellS53_0 HGz3
    have hcz3_1 := cellS53_1 HGz3
    have hcz3_2 := cellS53_2 HGz3
    have hfz3_0 := blk_frozen HGz3 0
    have hfz3_1 := blk_frozen HGz3 1
    have hfz3_2 := blk_frozen HGz3 2
    clear HGz3 hgz3
    go_enter Try.func46, Try.ntmps46
    go_wp2
    repeat (go_quiet (fail); try go_wp2)
    go_ret
    exact ⟨by first | rfl | (show Ending.returned (.bool _) = Ending.returned (.bool _); rw [i64_w]) | (simp [errW_none, errW_some] <;> rfl) | (simp [*, errW_none, errW_some] <;> rfl), by repeat (first | (with_reducible first | exact HI0.out | apply IsS53.alloc | apply IsS53.drewN | apply IsS53.drew | apply IsS53.set_0 | apply IsS53.set_1 | apply IsS53.set_2) | exact HI0.out), by repeat (first | (with_reducible first | exact HB.out | apply below_alloc | apply pw_below_drewN | apply below_drew1 | refine below_set ?_ (IsS53.ge HI0.out)) | exact HB.out), by repeat (first | (with_reducible first | exact HK.out | apply KeepBut.set_ | apply keep_drewN | apply keep_drew | apply keep_alloc) | exact HK.out)⟩
  · rw [if_neg c2] at H
    have c2b0 : decide ((wrap64 (8 * (s0_0.size : Int))) ≤ s0_1) = false := decide_eq_false c2
    clear c2
    obtain ⟨ji4, hji4⟩ : ∃ j_ : Int, (wrap64 (Int.tdiv s0_1 8)) = j_ := ⟨_, rfl⟩
    replace H : (if 0 ≤ (ji4) then (if (ji4) < (s0_0.size : Int) then (if 0 ≤ (Int.tmod s0_1 8) then (some (Go.bits .and .i64 (shr .i64 (wrap64 (bt s0_0 (ji4))) (Int.tmod s0_1 8)) 1, s0_0, wrap64 (s0_1 + 1), s0_2)) else (none)) else (none)) else (none)) = some (r1, r2, r3, r4) := by first | (rw [hji4] at H; exact H) | (simp only [hji4] at H ⊢; exact H)
    have hji4w : (IntKind.i64.wrap (Int.tdiv s0_1 8)) = ji4 := (i64_w _).trans hji4
    by_cases c5 : 0 ≤ (ji4)
    · rw [if_pos c5] at H
      have c5b0 : decide (0 ≤ (ji4)) = true := decide_eq_true c5
      clear c5
      by_cases c6 : (ji4) < (s0_0.size : Int)
      · rw [if_pos c6] at H
        have c6b0 : decide ((ji4) < (s0_0.size : Int)) = true := decide_eq_true c6
        clear c6
        obtain ⟨ji8, hji8⟩ : ∃ j_ : Int, (Int.tmod s0_1 8) = j_ := ⟨_, rfl⟩
        replace H : (if 0 ≤ (ji8) then (some (Go.bits .and .i64 (shr .i64 (wrap64 (bt s0_0 (ji4))) (ji8)) 1, s0_0, wrap64 (s0_1 + 1), s0_2)) else (none)) = some (r1, r2, r3, r4) := by first | (rw [hji8] at H; exact H) | (simp only [hji8] at H ⊢; exact H)
        by_cases c9 : 0 ≤ (ji8)
        · rw [if_pos c9] at H
          have c9b0 := eq_true c9
          have c9b1 : decide (0 ≤ (ji8)) = true := decide_eq_true c9
          clear c9
          obtain ⟨ji10, hji10⟩ : ∃ j_ : Int, (shr .i64 (wrap64 (bt s0_0 (ji4))) (ji8)) = j_ := ⟨_, rfl⟩
          replace H : (some (Go.bits .and .i64 (ji10) 1, s0_0, wrap64 (s0_1 + 1), s0_2)) = some (r1, r2, r3, r4) := by first | (rw [hji10] at H; exact H) | (simp only [hji10] at H ⊢; exact H)
          have hji10_ : ((wrap64 (bt s0_0 (ji4))) / 2 ^ min (ji8).toNat 64) = ji10 := hji10
          have hji10z : (ji8) ≤ 64 → ((wrap64 (bt s0_0 (ji4))) / 2 ^ (ji8).toNat) = ji10 := shr_small hji10
          simp only [Option.some.injEq, Prod.mk.injEq] at H
          obtain ⟨rfl, rfl, rfl, rfl⟩ := H
          obtain ⟨HGz11, hgz11⟩ := HI0.out
          have hcz11_0 := cellS53_0 HGz11
          have hcz11_1 := cellS53_1 HGz11
          have hcz11_2 := cellS53_2 HGz11
          have hfz11_0 := blk_frozen HGz11 0
          have hfz11_1 := blk_frozen HGz11 1
          have hfz11_2 := blk_frozen HGz11 2
          clear HGz11 hgz11
          have p7 : 0 ≤ ((ji4) : Int) := of_decide_eq_true (by first | (with_reducible assumption) | assumption)
          have q7 : (ji4) < (s0_0.size : Int) := of_decide_eq_true (by first | (with_reducible assumption) | assumption)
          have hx7 := bt_at s0_0 (ji4)
          replace p7 := eq_true p7
          replace q7 := eq_true q7
          go_enter Try.func46, Try.ntmps46
          go_wp2
          repeat (go_quiet (fail); try go_wp2)
          go_ret
          exact ⟨by first | rfl | (show Ending.returned (.bool _) = Ending.returned (.bool _); rw [i64_w]) | (simp [errW_none, errW_some] <;> rfl) | (simp only [← hji4, ← hji8, ← hji10]; first | rfl | (simp [errW_none, errW_some] <;> rfl)) | (simp [*, errW_none, errW_some] <;> rfl), by repeat (first | (with_reducible first | exact HI0.out | apply IsS53.alloc | apply IsS53.drewN | apply IsS53.drew | apply IsS53.set_0 | apply IsS53.set_1 | apply IsS53.set_2) | exact HI0.out), by repeat (first | (with_reducible first | exact HB.out | apply below_alloc | apply pw_below_drewN | apply below_drew1 | refine below_set ?_ (IsS53.ge HI0.out)) | exact HB.out), by repeat (first | (with_reducible first | exact HK.out | apply KeepBut.set_ | apply keep_drewN | apply keep_drew | apply keep_alloc) | exact HK.out)⟩
        · rw [if_neg c9] at H
          exact absurd H (by simp)
      · rw [if_neg c6] at H
        exact absurd H (by simp)
    · rw [if_neg c5] at H
      exact absurd H (by simp)

end Go.Proofs.Ytcbehpemhkfieaa.PAll
