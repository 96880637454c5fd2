/- The law FnSymbols. -/
import Derived.Test.YtcbehpemhkfieaaPAllx0
import Derived.Test.YtcbehpemhkfieaaPAllx20
import Derived.Test.YtcbehpemhkfieaaPAllx25
import Derived.Test.YtcbehpemhkfieaaPAllx27
import Derived.Test.YtcbehpemhkfieaaMD
import Derived.Test.YtcbehpemhkfieaaPutTwo
import Derived.Test.YtcbehpemhkfieaaCbInts
import Derived.Test.YtcbehpemhkfieaaSymGetI
import Derived.Test.YtcbehpemhkfieaaLongF
namespace Go.Proofs.Ytcbehpemhkfieaa.My
open Go Go.RowKit Go.Proofs.YtcbehpemhkfieaaW.PrintWords Go.Proofs.YtcbehpemhkfieaaW.PrintLast Go.Proofs.YtcbehpemhkfieaaW.PrintMore Go.Proofs.Ytcbehpemhkfieaa.PAll
open Go.Proofs.Ytcbehpemhkfieaa.Bit

/-! ### A code that lies in a text is read -/
theorem symN_reads {l : List Int} {s : ByteArray} {j n p : Nat} (hj : j < l.length) (hn : rd l (j : Int) = (n : Int)) (h15 : n ≤ 15) (hp : p + n ≤ 8 * s.size) (hb : ∀ m, m < n → bit1 s (p + m) = code l j / 2 ^ (n - 1 - m) % 2) (d : Nat) :
    ∀ m, m < n → n - m = d + 1 → symN l s (15 - m) (code l j / 2 ^ (n - m)) (m + 1) (p + m) = some (j, p + n) := by
  induction d with
  | zero =>
    intro m hm hd
    obtain ⟨e, he⟩ : ∃ e, 15 - m = e + 1 := ⟨14 - m, by omega⟩
    have h1 : n - m = 1 := hd
    have h2 : n - 1 - m = 0 := by omega
    have hbm := hb m hm
    rw [h2, Nat.pow_zero, Nat.div_one] at hbm
    have hx : 2 * (code l j / 2 ^ 1) + code l j % 2 = code l j := by rw [Nat.pow_one]; omega
    rw [he, symN, if_pos (by omega), hbm, h1, hx, hitL_eq (j := j) ⟨hj, by rw [hn]; omega, rfl⟩]
    have h3 : p + m + 1 = p + n := by omega
    simp only [h3]
  | succ d ih =>
    intro m hm hd
    obtain ⟨e, he⟩ : ∃ e, 15 - m = e + 1 := ⟨14 - m, by omega⟩
    have hm1 : m + 1 < n := by omega
    have hbm := hb m hm
    have h1 : n - m = (n - (m + 1)) + 1 := by omega
    have h2 : n - 1 - m = n - (m + 1) := by omega
    have hx : 2 * (code l j / 2 ^ (n - m)) + code l j / 2 ^ (n - (m + 1)) % 2 = code l j / 2 ^ (n - (m + 1)) := by
      rw [h1, Nat.pow_succ, ← Nat.div_div_eq_div_mul]
      omega
    rw [h2] at hbm
    have hno : hitL l (code l j / 2 ^ (n - (m + 1))) (m + 1) = none := by
      cases e2 : hitL l (code l j / 2 ^ (n - (m + 1))) (m + 1) with
      | none => rfl
      | some i =>
        have hi := hitL_some e2
        have := code_prefix hi.1 hj hi.2.1 hn (Nat.succ_le_succ (Nat.zero_le _)) hm1
        rw [hi.2.2] at this
        exact absurd this (Nat.lt_irrefl _)
    have ih2 := ih (m + 1) hm1 (by omega)
    have h3 : 15 - (m + 1) = e := by omega
    rw [h3] at ih2
    rw [he, symN, if_pos (by omega), hbm, hx, hno]
    exact ih2
theorem bit1_at {s : ByteArray} {p m : Nat} {L R : List Bool} (h : (tb s).drop p = L ++ R) (hm : m < L.length) : bit1 s (p + m) = (L[m]).toNat := by
  have e : (tb s)[p + m]? = some (L[m]) := by
    rw [← List.getElem?_drop, h, List.getElem?_append_left hm, List.getElem?_eq_getElem hm]
  unfold bit1
  rw [e]
  rfl
/-- The bits of a symbol's code, the first one first. -/
def symBits (l : List Int) (v : Int) : List Bool := (nb (code l v.toNat) (rd l v).toNat).reverse
theorem symN_bits {l : List Int} (hk : okLens l = true) {s : ByteArray} {p : Nat} {v : Int} {R : List Bool} (hv : symOk l v) (h : (tb s).drop p = symBits l v ++ R) :
    symN l s 15 0 1 p = some (v.toNat, p + (rd l v).toNat) ∧ ((v.toNat : Nat) : Int) = v ∧ (tb s).drop (p + (rd l v).toNat) = R := by
  obtain ⟨h1, h2⟩ := hv
  simp only [isSym, Bool.and_eq_true, decide_eq_true_eq] at h1
  obtain ⟨j, rfl⟩ := Int.eq_ofNat_of_zero_le h1.1
  have hj : j < l.length := by omega
  obtain ⟨n, c, e1, e2, e3, e4, e5, e6⟩ := sym_code hk hj h2
  subst e5
  unfold symBits at h
  rw [Int.toNat_natCast, e1, Int.toNat_natCast] at h
  have hlen : (nb (code l j) n).reverse.length = n := by rw [List.length_reverse, nb_length]
  have hl2 : (tb s).length - p = n + R.length := by rw [← List.length_drop, h, List.length_append, hlen]
  rw [tb_length] at hl2
  have hb : ∀ m, m < n → bit1 s (p + m) = code l j / 2 ^ (n - 1 - m) % 2 := by
    intro m hm
    rw [bit1_at h (by rw [hlen]; exact hm), List.getElem_reverse]
    have hi : (nb (code l j) n).length - 1 - m < n := by rw [nb_length]; omega
    have := nb_get (code l j) n ((nb (code l j) n).length - 1 - m) hi
    rw [List.getElem?_eq_getElem (by rw [nb_length]; omega)] at this
    rw [Option.some.inj this, nb_length]
    by_cases hd : code l j / 2 ^ (n - 1 - m) % 2 = 1
    · simp [hd]
    · simp [hd]; omega
  refine ⟨?_, rfl, ?_⟩
  · have := symN_reads hj e1 e3 (s := s) (p := p) (by omega) hb (n - 1) 0 (by omega) (by omega)
    rw [Nat.sub_zero, Nat.sub_zero, Nat.add_zero, Nat.div_eq_of_lt e6] at this
    rw [e1, Int.toNat_natCast, Int.toNat_natCast]
    exact this
  · rw [e1, Int.toNat_natCast, ← List.drop_drop, h, List.drop_append_of_le_length (by rw [hlen]; exact Nat.le_refl _), List.drop_of_length_le (by rw [hlen]; exact Nat.le_refl _)]
    rfl
theorem getS_bits {l : List Int} (hk : okLens l = true) {s : ByteArray} : ∀ (o : List Int) (p : Nat) (R : List Bool), (∀ v ∈ o, symOk l v) → (tb s).drop p = o.flatMap (symBits l) ++ R → getS l s o.length p = some o
  | [], p, R, _, _ => rfl
  | v :: o, p, R, ho, h => by
    rw [List.flatMap_cons, List.append_assoc] at h
    obtain ⟨h1, h2, h3⟩ := symN_bits hk (ho v (List.mem_cons_self ..)) h
    rw [List.length_cons, getS, h1]
    simp only []
    rw [getS_bits hk o _ R (fun x hx => ho x (List.mem_cons_of_mem _ hx)) h3, h2]
    rfl

/-! ### What is put -/
theorem piece_at {l : List Int} (hk : okLens l = true) {v : Int} (hv : symOk l v) : okP (piece l v).f0 (piece l v).f1 = true ∧ nb (piece l v).f0.toNat (piece l v).f1.toNat = symBits l v := by
  obtain ⟨h1, h2⟩ := hv
  simp only [isSym, Bool.and_eq_true, decide_eq_true_eq] at h1
  obtain ⟨j, rfl⟩ := Int.eq_ofNat_of_zero_le h1.1
  obtain ⟨n, c, e1, e2, e3, e4, e5, e6⟩ := sym_code hk (show j < l.length by omega) h2
  subst e5
  unfold piece symBits
  simp only []
  rw [e1, e4, turnI_ok (show n ≤ 16 by omega) e6, Int.toNat_natCast, Int.toNat_natCast, Int.toNat_natCast]
  exact ⟨okP_mk (by omega) (turn_lt _ _), turn_nb _ _⟩
theorem bits_put {l : List Int} (hk : okLens l = true) : ∀ s : List Int, (∀ v ∈ s, symOk l v) → bitsOf (s.map (piece l)) = s.flatMap (symBits l)
  | [], _ => rfl
  | v :: s, h => by
    have ih := bits_put hk s (fun x hx => h x (List.mem_cons_of_mem _ hx))
    have e := (piece_at hk (h v (List.mem_cons_self ..))).2
    unfold bitsOf at ih ⊢
    rw [List.map_cons, List.flatMap_cons, List.flatMap_cons, ih, e]
theorem put_ok {l : List Int} (hk : okLens l = true) {s : List Int} (hs : s.length ≤ 4000) (h : ∀ v ∈ s, symOk l v) : okL (s.map (piece l)) = true := by
  refine okL_mk (fun p hp => ?_) (by rw [List.length_map]; exact hs)
  obtain ⟨v, hv, rfl⟩ := List.mem_map.1 hp
  exact (piece_at hk (h v hv)).1
theorem tb_txt {P : List S49} (h : okL P = true) : ∃ R, tb (txt P) = bitsOf P ++ R := by
  unfold tb
  rw [bys_txt h]
  rw [unpack_pack]
  exact ⟨_, rfl⟩
theorem get_put {l : List Int} (hk : okLens l = true) {s : List Int} (hs : s.length ≤ 4000) (h : ∀ v ∈ s, symOk l v) : symGetR l (txt (s.map (piece l))) (s.length : Int) = (s, true) := by
  obtain ⟨R, hR⟩ := tb_txt (put_ok hk hs h)
  rw [bits_put hk s h] at hR
  unfold symGetR
  rw [if_pos ⟨hk, by omega, by omega⟩, Int.toNat_natCast, getS_bits hk s 0 R h (by rw [List.drop_zero]; exact hR)]
  rfl
theorem put_all {l s : List Int} (hk : okLens l = true) (h : (putR l s).length = s.length) : (∀ v ∈ s, symOk l v) ∧ putR l s = s.map (piece l) := by
  unfold putR at h ⊢
  rw [if_pos hk] at h ⊢
  by_cases hs : ∀ v ∈ s, symOk l v
  · exact ⟨hs, by rw [putL_ok l s _ hs]; rfl⟩
  · rw [putL_bad l s _ hs] at h
    have : s = [] := List.eq_nil_of_length_eq_zero h.symm
    subst this
    exact absurd (fun v hv => by cases hv) hs

/-! ### The law -/
theorem lawSym_l {l s : List Int} (hk : okLens l = true) (hs : s.length ≤ 100) (h : ∀ v ∈ s, symOk l v) (d : Nat) : ∀ k i, i ≤ s.length → s.length - i = d → 100000 + d < k →
    laws_FnSymbols.l0 k l s (s.map (piece l)) ((total ((s.take i).map (piece l)) : Nat) : Int) (i : Int) = some true := by
  have hok := put_ok hk (by omega) h
  have hT := txt_small (s.map (piece l))
  have hl := (okLens_at hk).2.1
  have hlen : (s.map (piece l)).length = s.length := List.length_map ..
  induction d with
  | zero =>
    intro k i hi hd hk2
    obtain ⟨k, rfl⟩ : ∃ m, k = m + 1 := ⟨k - 1, by omega⟩
    have I : impl_BitsPut.f k (s.map (piece l)) = some (txt (s.map (piece l))) := impl_BitsPut_f _ (by omega) (by omega)
    have G := impl_SymbolsGet_f (k := k) l (txt (s.map (piece l))) (by omega) (s.length : Int) (by omega)
    have Lg := impl_BitsLong_f (k := k) (s.map (piece l)) (by omega) (by omega)
    rw [get_put hk (by omega) h] at G
    unfold longI at Lg
    rw [hok, if_pos rfl] at Lg
    rw [laws_FnSymbols.l0, if_neg (by omega), I, Option.bind_some, G, Option.bind_some, if_pos rfl, cbInts_f s (by omega) (by omega), Option.bind_some, if_pos rfl, Lg, Option.bind_some, List.take_of_length_le (by omega)]
    simp
  | succ d ih =>
    intro k i hi hd hk2
    obtain ⟨k, rfl⟩ : ∃ m, k = m + 1 := ⟨k - 1, by omega⟩
    have his : i < s.length := by omega
    obtain ⟨h1, h2⟩ := h _ (List.getElem_mem his)
    simp only [isSym, Bool.and_eq_true, decide_eq_true_eq] at h1
    obtain ⟨j, hj⟩ := Int.eq_ofNat_of_zero_le h1.1
    have hjl : j < l.length := by omega
    rw [hj] at h2
    obtain ⟨n, c, e1, e2, e3, e4, e5, e6⟩ := sym_code hk hjl h2
    have ht : total ((s.take (i + 1)).map (piece l)) = total ((s.take i).map (piece l)) + n := by
      rw [List.take_succ_eq_append_getElem his, List.map_append, total_append, hj]
      simp only [total, List.map_cons, List.map_nil, List.sum_cons, List.sum_nil, piece, e1, Int.toNat_natCast, Nat.add_zero]
    have hle := total_le (l := (s.take i).map (piece l)) (fun p hp => by
      obtain ⟨v, hv, rfl⟩ := List.mem_map.1 hp
      exact (piece_at hk (h v (List.mem_of_mem_take hv))).1)
    rw [List.length_map, List.length_take] at hle
    have ih2 := ih k (i + 1) (by omega) (by omega) (by omega)
    rw [ht] at ih2
    rw [laws_FnSymbols.l0, if_pos (by omega), if_pos (by omega), rd_int_at his, hj, if_pos (by omega), if_pos (by omega), e1, w64 (x := (i : Int) + 1) (by omega) (by omega), w64 (by omega) (by omega), show ((i : Int) + 1) = ((i + 1 : Nat) : Int) by omega]
    exact ih2
theorem LawSymbols : laws_FnSymbols.Pure := by
  intro l0 _ _ hl0
  obtain ⟨b, hb, ho⟩ := open_f hl0
  obtain ⟨l, q, hl1, hl2, hq1, hq2, hd⟩ := lens_f hb (p := 0) (by omega) (by omega)
  obtain ⟨s, q2, hs, _, _, hd2⟩ := syms_f hb (p := q) (by omega) (by omega) hl1 (by omega)
  have P : ∀ k, 100000 ≤ k → spec_SymbolsPut.f k l s = some (putR l s) := fun k hk => spec_SymbolsPut_f l s (by omega) (by omega) (by omega)
  have hp := putR_length l s
  have D : spec_DrawSymbolsPut.f 200003 l0 = some (l, s) := by
    unfold spec_DrawSymbolsPut.f
    rw [ho, Option.bind_some, hd _ (by omega), Option.bind_some, hd2 _ (by omega), Option.bind_some]
  have J1 : laws_FnSymbols.j0 200003 l s (putR l s) true = some true := by
    rw [laws_FnSymbols.j0, if_pos rfl, P _ (by omega), Option.bind_some, cbPieces_f _ (by omega) (by omega), Option.bind_some]
  have J0 : okLens l = true → (putR l s).length = s.length → laws_FnSymbols.j0 200003 l s (putR l s) false = some true := fun hk he => by
    obtain ⟨h1, h2⟩ := put_all hk he
    rw [h2, laws_FnSymbols.j0, if_neg (by decide)]
    have := lawSym_l hk (by omega) h1 s.length 200002 0 (by omega) (by omega) (by omega)
    exact this
  refine ⟨200003, ?_⟩
  unfold laws_FnSymbols.f
  by_cases hz : (l0.length : Int) > 1048576
  · rw [if_pos hz]
  rw [if_neg hz, D, Option.bind_some, impl_SymbolsPut_f l s (by omega) (by omega), Option.bind_some, P _ (by omega), Option.bind_some, cbPieces_f _ (by omega) (by omega), Option.bind_some, if_pos rfl]
  by_cases he : (putR l s).length = s.length
  · rw [if_pos (by simp only []; omega), impl_LensOk_f l (by omega), Option.bind_some]
    cases hk : okLens l with
    | true => exact J0 hk he
    | false => exact J1
  · rw [if_neg (by simp only []; omega)]
    exact J1
end Go.Proofs.Ytcbehpemhkfieaa.My
