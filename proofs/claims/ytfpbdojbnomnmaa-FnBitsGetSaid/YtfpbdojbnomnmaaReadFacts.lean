/- Pieces that are read of texts. -/
import Derived.Test.YtfpbdojbnomnmaaPAllx0
import Derived.Test.YtfpbdojbnomnmaaBitFacts
import Derived.Test.YtfpbdojbnomnmaaLinkGetI
namespace Go.Proofs.Ytfpbdojbnomnmaa.My
open Go Go.RowKit Go.Proofs.YtfpbdojbnomnmaaW.PrintWords Go.Proofs.YtfpbdojbnomnmaaW.PrintLast Go.Proofs.YtfpbdojbnomnmaaW.PrintMore Go.Proofs.Ytfpbdojbnomnmaa.PAll
open Go.Proofs.Ytfpbdojbnomnmaa.Bit

/-! ### Reading: the bits are there -/
theorem tb_txt {l : List S47} (h : okL l = true) : tb (txt l) = fill (bitsOf l) := by
  unfold tb; rw [bys_txt h, unpack_pack]
theorem okBit_nat {n : Nat} (h : n ≤ 16) : okBit (n : Int) = true := by simp [okBit]; omega
theorem getL_there (s : ByteArray) (r : List S47) (hr : ∀ p ∈ r, okP p.f0 p.f1 = true) : ∀ (out : List Int) (p : Nat) (z : List Bool), (tb s).drop p = bitsOf r ++ z → p ≤ 8 * s.size →
    getL s (r.map (fun q => q.f1)) out p false = fin s (out ++ r.map (fun q => q.f0)) (p + total r) false := by
  induction r with
  | nil => intro out p z _ _; simp [getL, total]
  | cons q r ih =>
    intro out p z hz hp
    obtain ⟨x, m, e1, e2, h3, h4⟩ := okP_yes (hr q (List.mem_cons_self ..))
    have hb : bitsOf (q :: r) = nb x m ++ bitsOf r := by simp [bitsOf, e1, e2]
    rw [hb, List.append_assoc] at hz
    have hlen := congrArg List.length hz
    rw [List.length_drop, tb_length, List.length_append, nb_length] at hlen
    have hpm : p + m ≤ 8 * s.size := by omega
    obtain ⟨g1, g2, g3⟩ := rd_there s m p hpm
    have hv : rdv s m p = x := by
      rw [g1, hz, List.take_append_of_le_length (by rw [nb_length]; omega), List.take_of_length_le (by rw [nb_length]; omega), val_nb m x h4]
    have hd : (tb s).drop (p + m) = bitsOf r ++ z := by
      rw [← List.drop_drop, hz, List.drop_append_of_le_length (by rw [nb_length]; omega), List.drop_of_length_le (by rw [nb_length]; omega), List.nil_append]
    simp only [List.map_cons, getL, e2, okBit_nat h3, if_true, Int.toNat_natCast, hv, g2, g3]
    rw [ih (fun p hp => hr p (List.mem_cons_of_mem _ hp)) _ _ z hd hpm]
    have ht : total (q :: r) = m + total r := by simp [total, e2]
    rw [ht, e1]
    simp only [List.append_assoc, List.cons_append, List.nil_append]
    congr 1
    omega
theorem fin_bad (s : ByteArray) (out : List Int) (p : Nat) : fin s out p true = ([], false) := by simp [fin]
theorem getL_bad (s : ByteArray) : ∀ (r out : List Int) (p : Nat), (getL s r out p true) = ([], false)
  | [], out, p => by simp only [getL]; exact fin_bad s out p
  | x :: r, out, p => by
    simp only [getL]
    split
    · rw [rdb_true]; exact getL_bad s r _ _
    · rfl
theorem getL_lost (s : ByteArray) (r : List S47) (hr : ∀ p ∈ r, okP p.f0 p.f1 = true) : ∀ (out : List Int) (p : Nat) (b : Bool), p ≤ 8 * s.size → 8 * s.size < p + total r →
    getL s (r.map (fun q => q.f1)) out p b = ([], false) := by
  induction r with
  | nil => intro out p b h1 h2; simp [total] at h2; omega
  | cons q r ih =>
    intro out p b h1 h2
    obtain ⟨x, m, e1, e2, h3, h4⟩ := okP_yes (hr q (List.mem_cons_self ..))
    have ht : total (q :: r) = m + total r := by simp [total, e2]
    simp only [List.map_cons, getL, e2, okBit_nat h3, if_true, Int.toNat_natCast]
    by_cases hm : p + m ≤ 8 * s.size
    · obtain ⟨g1, g2, g3⟩ := rd_there s m p hm
      rw [g2, g3]
      exact ih (fun p hp => hr p (List.mem_cons_of_mem _ hp)) _ _ _ hm (by omega)
    · obtain ⟨g1, g2⟩ := rd_lost s m p h1 (by omega)
      rw [g2]
      exact getL_bad s _ _ _
/-- What is read back of a text of pieces. -/
theorem getR_txt {l : List S47} (h : okL l = true) : getR (txt l) (l.map (fun q => q.f1)) = (l.map (fun q => q.f0), true) := by
  have h2 := okL_at h
  unfold getR
  rw [if_pos (by simp; exact h2.1)]
  have ht := tb_txt h
  have hlen := tb_length (txt l)
  rw [getL_there (txt l) l h2.2 [] 0 (List.replicate (8 * ((total l + 7) / 8) - total l) false) (by rw [List.drop_zero, ht]; unfold fill; rw [bitsOf_length]) (by omega)]
  have hs := txt_size h
  have hrest : rest (txt l) (0 + total l) = List.replicate (8 * ((total l + 7) / 8) - total l) false := by
    unfold rest
    rw [Nat.zero_add, ht]
    unfold fill
    rw [← bitsOf_length, List.drop_left, List.take_of_length_le (by rw [List.length_replicate]; omega)]
  unfold fin
  rw [hrest, if_neg (by simp), if_pos (by rw [hs]; omega), List.nil_append]

/-! ### Reading: what was read -/
theorem fin_true {s : ByteArray} {out x : List Int} {p : Nat} {b : Bool} (h : fin s out p b = (x, true)) : x = out ∧ b = false ∧ (∀ c ∈ rest s p, c = false) ∧ 8 * ((p + 7) / 8) = 8 * s.size := by
  unfold fin at h
  split at h
  · simp at h
  · rename_i h1
    split at h
    · rename_i h2
      simp only [Prod.mk.injEq, and_true] at h
      simp only [Bool.or_eq_true, not_or, Bool.not_eq_true, List.any_eq_false, id] at h1
      exact ⟨h.symm, h1.1, fun c hc => h1.2 c hc, h2⟩
    · simp at h
theorem rdb_false {s : ByteArray} {n p : Nat} {b : Bool} (hp : p ≤ 8 * s.size) (h : rdb s n p b = false) : b = false ∧ p + n ≤ 8 * s.size := by
  by_cases hm : p + n ≤ 8 * s.size
  · rw [(rd_there s n p hm).2.2] at h
    exact ⟨h, hm⟩
  · rw [(rd_lost s n p hp (by omega)).2] at h
    cases h
theorem getL_true (s : ByteArray) : ∀ (r out x : List Int) (p : Nat) (b : Bool), p ≤ 8 * s.size → getL s r out p b = (x, true) →
    ∃ l : List S47, r = l.map (fun q => q.f1) ∧ x = out ++ l.map (fun q => q.f0) ∧ (∀ q ∈ l, okP q.f0 q.f1 = true) ∧ b = false ∧ p + total l ≤ 8 * s.size ∧ ((tb s).drop p).take (total l) = bitsOf l ∧ (∀ c ∈ rest s (p + total l), c = false) ∧ 8 * ((p + total l + 7) / 8) = 8 * s.size
  | [], out, x, p, b, hp, h => by
    simp only [getL] at h
    obtain ⟨h1, h2, h3, h4⟩ := fin_true h
    exact ⟨[], rfl, by simp [h1], by simp, h2, by simp [total]; exact hp, by simp [total, bitsOf], by simpa [total] using h3, by simpa [total] using h4⟩
  | y :: r, out, x, p, b, hp, h => by
    simp only [getL] at h
    cases hy : okBit y with
    | false => rw [hy] at h; simp at h
    | true =>
      obtain ⟨n, rfl, hn⟩ := okBit_yes hy
      rw [hy, if_pos rfl, Int.toNat_natCast] at h
      obtain ⟨l, h1, h2, h3, h4, h5, h6, h7, h8⟩ := getL_true s r _ x _ _ (rdp_le s n p hp) h
      obtain ⟨hb, hpn⟩ := rdb_false hp h4
      obtain ⟨g1, g2, g3⟩ := rd_there s n p hpn
      rw [g2] at h5 h6 h7 h8
      have hlt := rdv_lt s n p
      have hnb : nb (rdv s n p) n = ((tb s).drop p).take n := by
        rw [g1]
        have hl : (((tb s).drop p).take n).length = n := by rw [List.length_take, List.length_drop, tb_length]; omega
        have := nb_val (((tb s).drop p).take n)
        rwa [hl] at this
      have ht : total ((⟨((rdv s n p : Nat) : Int), (n : Int)⟩ : S47) :: l) = n + total l := by simp [total]
      refine ⟨(⟨((rdv s n p : Nat) : Int), (n : Int)⟩ : S47) :: l, by simp [h1], by simp [h2], ?_, hb, by rw [ht]; omega, ?_, ?_, ?_⟩
      · intro q hq
        rcases List.mem_cons.1 hq with rfl | hq
        · exact okP_mk hn hlt
        · exact h3 q hq
      · rw [ht, List.take_add, List.drop_drop, h6, ← hnb]
        simp [bitsOf]
      · rw [ht, ← Nat.add_assoc]; exact h7
      · rw [ht, ← Nat.add_assoc]; exact h8
theorem all_false {l : List Bool} (h : ∀ c ∈ l, c = false) : l = List.replicate l.length false := by
  apply List.eq_replicate_of_mem; exact h
/-- What is read of a text is written just so. -/
theorem txt_get {s : ByteArray} {r x : List Int} (h : getR s r = (x, true)) : ∃ l : List S47, r = l.map (fun q => q.f1) ∧ x = l.map (fun q => q.f0) ∧ okL l = true ∧ txt l = s := by
  unfold getR at h
  split at h
  · rename_i hl
    obtain ⟨l, h1, h2, h3, _, h5, h6, h7, h8⟩ := getL_true s r [] x 0 false (by omega) h
    have hok : okL l = true := okL_mk h3 (by rw [h1] at hl; simpa using hl)
    refine ⟨l, h1, by simpa using h2, hok, bys_inj ?_⟩
    rw [bys_txt hok]
    rw [Nat.zero_add] at h5 h7 h8
    rw [List.drop_zero] at h6
    have hr : (tb s).drop (total l) = List.replicate (8 * s.size - total l) false := by
      have : rest s (total l) = (tb s).drop (total l) := by
        unfold rest
        rw [List.take_of_length_le (by rw [List.length_drop, tb_length]; omega)]
      rw [this] at h7
      have := all_false h7
      rwa [List.length_drop, tb_length] at this
    have htb : tb s = bitsOf l ++ List.replicate (8 * s.size - total l) false := by
      rw [← h6, ← hr, List.take_append_drop]
    have : pack (tb s) = pack (bitsOf l) := by
      rw [htb]
      exact pack_zeros (by rw [bitsOf_length]; omega)
    rw [← this]
    exact pack_unpack (bys_lt s)
  · simp at h
end Go.Proofs.Ytfpbdojbnomnmaa.My
