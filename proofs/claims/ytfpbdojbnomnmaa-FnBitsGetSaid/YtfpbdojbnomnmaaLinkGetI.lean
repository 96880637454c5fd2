/- The program's printed reader of bits, told by plain lists of bits. -/
import Derived.Test.YtfpbdojbnomnmaaPAllx22
import Derived.Test.YtfpbdojbnomnmaaLinkBits
namespace Go.Proofs.Ytfpbdojbnomnmaa.My
open Go Go.RowKit Go.Proofs.YtfpbdojbnomnmaaW.PrintWords Go.Proofs.YtfpbdojbnomnmaaW.PrintLast Go.Proofs.YtfpbdojbnomnmaaW.PrintMore Go.Proofs.Ytfpbdojbnomnmaa.PAll
open Go.Proofs.Ytfpbdojbnomnmaa.Bit

/-! ### A text's bits -/
def tb (s : ByteArray) : List Bool := unpack (bys s)
theorem tb_length (s : ByteArray) : (tb s).length = 8 * s.size := by unfold tb; rw [unpack_length, bys_length]
theorem nb_get (x n : Nat) : ∀ i, i < n → (nb x n)[i]? = some (decide (x / 2 ^ i % 2 = 1)) := by
  induction n generalizing x with
  | zero => intro i hi; omega
  | succ n ih =>
    intro i hi
    cases i with
    | zero => simp [nb]
    | succ i =>
      simp only [nb, List.getElem?_cons_succ]
      rw [ih _ _ (by omega), Nat.div_div_eq_div_mul, Nat.pow_succ, Nat.mul_comm 2]
theorem unpack_get : ∀ (bs : List Nat) (p : Nat) (h : p / 8 < bs.length), (unpack bs)[p]? = some (decide (bs[p / 8] / 2 ^ (p % 8) % 2 = 1))
  | [], p, h => by simp at h
  | b :: t, p, h => by
    simp only [unpack]
    by_cases h8 : p < 8
    · rw [List.getElem?_append_left (by rw [nb_length]; exact h8), nb_get b 8 p h8]
      have h1 : p / 8 = 0 := by omega
      have h2 : p % 8 = p := by omega
      simp only [h1, h2, List.getElem_cons_zero]
    · rw [List.getElem?_append_right (by rw [nb_length]; omega), nb_length]
      have h1 : p / 8 = (p - 8) / 8 + 1 := by omega
      have h2 : p % 8 = (p - 8) % 8 := by omega
      simp only [h1, h2, List.getElem_cons_succ]
      exact unpack_get t (p - 8) (by simp at h; omega)
theorem tb_get (s : ByteArray) {p : Nat} (h : p < 8 * s.size) : ∃ b : Bool, (tb s)[p]? = some b ∧ (bt s ((p / 8 : Nat) : Int)) / 2 ^ (p % 8) % 2 = ((b.toNat : Nat) : Int) := by
  have hl : p / 8 < (bys s).length := by rw [bys_length]; omega
  refine ⟨_, unpack_get (bys s) p hl, ?_⟩
  rw [bt_get s (p / 8) (by rw [bys_length] at hl; exact hl)]
  generalize (bys s)[p / 8] = x
  have e : ((x : Int) / 2 ^ (p % 8)) = ((x / 2 ^ (p % 8) : Nat) : Int) := by simp
  rw [e]
  generalize x / 2 ^ (p % 8) = y
  by_cases h : y % 2 = 1
  · simp [h]; omega
  · simp [h]; omega
/-- One bit: it, where it goes on, and whether it was there. -/
def bit1 (s : ByteArray) (p : Nat) : Nat := (((tb s)[p]?).getD false).toNat
theorem bit1_lt (s : ByteArray) (p : Nat) : bit1 s p < 2 := by unfold bit1; cases ((tb s)[p]?).getD false <;> simp
theorem bit1_past (s : ByteArray) {p : Nat} (h : 8 * s.size ≤ p) : bit1 s p = 0 := by
  unfold bit1; rw [List.getElem?_eq_none (by rw [tb_length]; exact h)]; rfl
def nx (s : ByteArray) (p : Nat) : Nat := if p < 8 * s.size then p + 1 else p
def lost (s : ByteArray) (p : Nat) (b : Bool) : Bool := if p < 8 * s.size then b else true
theorem and1w {y : Int} (h0 : 0 ≤ y) (h1 : y ≤ 65535) : Go.bits .and .i64 y 1 = y % 2 := by
  obtain ⟨n, rfl⟩ := Int.eq_ofNat_of_zero_le h0
  rw [and1 n (by omega)]
  omega
theorem impl_bit (s : ByteArray) (hs : s.size ≤ 1099511627776) (p : Nat) (hp : p ≤ 8 * s.size) (b : Bool) :
    impl_reader_bit.f s (p : Int) b = some (((bit1 s p : Nat) : Int), s, ((nx s p : Nat) : Int), lost s p b) := by
  unfold impl_reader_bit.f nx lost
  rw [w64 (x := 8 * (s.size : Int)) (by omega) (by omega)]
  by_cases h : p < 8 * s.size
  · obtain ⟨c, hc, he⟩ := tb_get s h
    have hd : ((p : Int) / 8) = ((p / 8 : Nat) : Int) := by omega
    have hr := bt_range s ((p / 8 : Nat) : Int)
    have hmt : ((p : Int) % 8).toNat = p % 8 := by omega
    have hsh : shr .i64 (bt s ((p / 8 : Nat) : Int)) ((p : Int) % 8) = bt s ((p / 8 : Nat) : Int) / 2 ^ (p % 8) := by
      unfold shr
      rw [hmt, show min (p % 8) IntKind.i64.bits = p % 8 from Nat.min_eq_left (by show p % 8 ≤ 64; omega)]
    have h0 : 0 ≤ bt s ((p / 8 : Nat) : Int) / 2 ^ (p % 8) := Int.ediv_nonneg hr.1 (Int.pow_nonneg (by decide))
    have h1 : bt s ((p / 8 : Nat) : Int) / 2 ^ (p % 8) ≤ bt s ((p / 8 : Nat) : Int) := Int.ediv_le_self _ hr.1
    rw [if_neg (by omega), tdiv_pos (by omega), tmod_pos (by omega), hd, w64 (by omega) (by omega), if_pos (by omega), if_pos (by omega), if_pos (by omega), w64 (by omega) (by omega), hsh, and1w h0 (by omega), he, w64 (by omega) (by omega), if_pos h, if_pos h]
    have : bit1 s p = c.toNat := by unfold bit1; rw [hc]; rfl
    rw [this]
    simp
  · rw [if_pos (by omega), if_neg h, if_neg h, bit1_past s (by omega)]
    rfl
/-! ### A number of so many bits that is read -/
def rdv (s : ByteArray) : Nat → Nat → Nat
  | 0, _ => 0
  | n + 1, p => bit1 s p + 2 * rdv s n (nx s p)
def rdp (s : ByteArray) : Nat → Nat → Nat
  | 0, p => p
  | n + 1, p => rdp s n (nx s p)
def rdb (s : ByteArray) : Nat → Nat → Bool → Bool
  | 0, _, b => b
  | n + 1, p, b => rdb s n (nx s p) (lost s p b)
theorem nx_le (s : ByteArray) {p : Nat} (h : p ≤ 8 * s.size) : nx s p ≤ 8 * s.size := by unfold nx; split <;> omega
theorem rdp_le (s : ByteArray) (n : Nat) : ∀ p, p ≤ 8 * s.size → rdp s n p ≤ 8 * s.size := by
  induction n with
  | zero => intro p h; exact h
  | succ n ih => intro p h; exact ih _ (nx_le s h)
theorem rdv_lt (s : ByteArray) (n : Nat) : ∀ p, rdv s n p < 2 ^ n := by
  induction n with
  | zero => intro p; simp [rdv]
  | succ n ih =>
    intro p
    have := ih (nx s p)
    have := bit1_lt s p
    simp only [rdv, Nat.pow_succ]
    omega
theorem or_next {acc j c : Nat} (ha : acc < 2 ^ j) (hj : j ≤ 16) (hc : c < 2) : Go.bits .or .i64 (acc : Int) (shl .i64 (c : Int) (j : Int)) = ((acc + 2 ^ j * c : Nat) : Int) := by
  have h16 := pow16 hj
  have hcp : 2 ^ j * c ≤ 2 ^ j * 1 := Nat.mul_le_mul_left _ (by omega)
  have hs : shl .i64 (c : Int) (j : Int) = ((2 ^ j * c : Nat) : Int) := by
    unfold shl
    rw [Int.toNat_natCast, show min j IntKind.i64.bits = j from Nat.min_eq_left (by show j ≤ 64; omega)]
    have e : (c : Int) * 2 ^ j = ((2 ^ j * c : Nat) : Int) := by rw [Nat.mul_comm]; simp
    rw [e, IntKind.wrap_i64]
    omega
  rw [hs, (bits_nat .i64 63 (by decide) (fun n h0 h1 => by rw [IntKind.wrap_i64]; omega) acc (2 ^ j * c) (by omega) (by omega)).2, Nat.or_comm, ← Nat.two_pow_add_eq_or_of_lt ha]
  congr 1
  omega
theorem impl_get_l (s : ByteArray) (hs : s.size ≤ 1099511627776) (n : Nat) : ∀ (k acc j p : Nat) (b : Bool), acc < 2 ^ j → j + n ≤ 16 → p ≤ 8 * s.size → n < k →
    impl_reader_get.l0 k (acc : Int) ((j + n : Nat) : Int) (j : Int) s (p : Int) b = some (((acc + 2 ^ j * rdv s n p : Nat) : Int), s, ((rdp s n p : Nat) : Int), rdb s n p b) := by
  induction n with
  | zero =>
    intro k acc j p b ha hj hp hk
    obtain ⟨k, rfl⟩ : ∃ m, k = m + 1 := ⟨k - 1, by omega⟩
    simp only [impl_reader_get.l0]
    rw [if_neg (by omega)]
    simp [rdv, rdp, rdb]
  | succ n ih =>
    intro k acc j p b ha hj hp hk
    obtain ⟨k, rfl⟩ : ∃ m, k = m + 1 := ⟨k - 1, by omega⟩
    simp only [impl_reader_get.l0]
    have hc := bit1_lt s p
    have hlt : acc + 2 ^ j * bit1 s p < 2 ^ (j + 1) := by
      have : 2 ^ j * bit1 s p ≤ 2 ^ j * 1 := Nat.mul_le_mul_left _ (by omega)
      rw [Nat.pow_succ]; omega
    rw [if_pos (by omega), impl_bit s hs p hp b, Option.bind_some, if_pos (by omega), or_next ha (by omega) hc, w64 (by omega) (by omega)]
    have := ih k (acc + 2 ^ j * bit1 s p) (j + 1) (nx s p) (lost s p b) hlt (by omega) (nx_le s hp) (by omega)
    rw [show ((j : Int) + 1) = ((j + 1 : Nat) : Int) by omega, show j + (n + 1) = j + 1 + n by omega]
    simp only [this, rdv, rdp, rdb]
    congr 2
    rw [Nat.pow_succ]
    grind
theorem impl_get {k : Nat} (s : ByteArray) (hs : s.size ≤ 1099511627776) (n p : Nat) (b : Bool) (hn : n ≤ 16) (hp : p ≤ 8 * s.size) (hk : 20 ≤ k) :
    impl_reader_get.f k s (p : Int) b (n : Int) = some (((rdv s n p : Nat) : Int), s, ((rdp s n p : Nat) : Int), rdb s n p b) := by
  unfold impl_reader_get.f
  have := impl_get_l s hs n k 0 0 p b (by decide) (by omega) hp (by omega)
  simpa using this
/-- What is read, in terms of the text's bits. -/
theorem bit1_eq (s : ByteArray) {p : Nat} (h : p < 8 * s.size) : (tb s)[p]'(by rw [tb_length]; exact h) = decide (bit1 s p = 1) := by
  unfold bit1
  rw [List.getElem?_eq_getElem (by rw [tb_length]; exact h)]
  cases (tb s)[p]'(by rw [tb_length]; exact h) <;> rfl
theorem bit1_toNat (s : ByteArray) {p : Nat} (h : p < 8 * s.size) : bit1 s p = ((tb s)[p]'(by rw [tb_length]; exact h)).toNat := by
  unfold bit1
  rw [List.getElem?_eq_getElem (by rw [tb_length]; exact h)]
  rfl
theorem rd_there (s : ByteArray) (n : Nat) : ∀ p, p + n ≤ 8 * s.size → rdv s n p = val (((tb s).drop p).take n) ∧ rdp s n p = p + n ∧ ∀ b, rdb s n p b = b := by
  induction n with
  | zero => intro p h; simp [rdv, rdp, rdb, val]
  | succ n ih =>
    intro p h
    have hp : p < 8 * s.size := by omega
    have hnx : nx s p = p + 1 := by unfold nx; rw [if_pos hp]
    obtain ⟨h1, h2, h3⟩ := ih (p + 1) (by omega)
    simp only [rdv, rdp, rdb, hnx]
    rw [List.drop_eq_getElem_cons (by rw [tb_length]; exact hp), List.take_succ_cons]
    refine ⟨?_, by rw [h2]; omega, fun b => ?_⟩
    · simp only [val]; rw [h1, bit1_toNat s hp]
    · rw [h3]; unfold lost; rw [if_pos hp]
theorem rdb_true (s : ByteArray) (n : Nat) : ∀ p, rdb s n p true = true := by
  induction n with
  | zero => intro p; rfl
  | succ n ih => intro p; simp only [rdb]; unfold lost; split <;> exact ih _
theorem rd_lost (s : ByteArray) (n : Nat) : ∀ p, p ≤ 8 * s.size → 8 * s.size < p + n → rdp s n p = 8 * s.size ∧ ∀ b, rdb s n p b = true := by
  induction n with
  | zero => intro p h1 h2; omega
  | succ n ih =>
    intro p h1 h2
    simp only [rdp, rdb]
    by_cases hp : p < 8 * s.size
    · have hnx : nx s p = p + 1 := by unfold nx; rw [if_pos hp]
      rw [hnx]
      obtain ⟨h3, h4⟩ := ih (p + 1) (by omega) (by omega)
      exact ⟨h3, fun b => h4 _⟩
    · have hnx : nx s p = p := by unfold nx; rw [if_neg hp]
      rw [hnx]
      have hl : ∀ b, lost s p b = true := fun b => by unfold lost; rw [if_neg hp]
      refine ⟨?_, fun b => by rw [hl]; exact rdb_true s n p⟩
      cases n with
      | zero => simp only [rdp]; omega
      | succ n => exact (ih p h1 (by omega)).1

/-! ### On to the next whole byte -/
/-- Whether a bit is set from p on to the next whole byte. -/
def rest (s : ByteArray) (p : Nat) : List Bool := ((tb s).drop p).take (8 * ((p + 7) / 8) - p)
theorem even_step (s : ByteArray) {p : Nat} (h8 : p % 8 ≠ 0) (hp : p ≤ 8 * s.size) : p < 8 * s.size ∧ rest s p = (decide (bit1 s p = 1)) :: rest s (p + 1) ∧ 8 * ((p + 1 + 7) / 8) = 8 * ((p + 7) / 8) := by
  have hlt : p < 8 * s.size := by omega
  refine ⟨hlt, ?_, by omega⟩
  unfold rest
  rw [List.drop_eq_getElem_cons (by rw [tb_length]; exact hlt), show 8 * ((p + 7) / 8) - p = (8 * ((p + 1 + 7) / 8) - (p + 1)) + 1 by omega, List.take_succ_cons, bit1_eq s hlt]
theorem rest_even (s : ByteArray) {p : Nat} (h8 : p % 8 = 0) : rest s p = [] := by
  unfold rest; rw [show 8 * ((p + 7) / 8) - p = 0 by omega]; simp
theorem impl_even_l (s : ByteArray) (hs : s.size ≤ 1099511627776) (d : Nat) : ∀ (k p : Nat) (b : Bool), 8 * ((p + 7) / 8) - p = d → p ≤ 8 * s.size → d < k →
    impl_reader_even.l0 k s (p : Int) b = some (s, ((8 * ((p + 7) / 8) : Nat) : Int), b || (rest s p).any id) := by
  induction d with
  | zero =>
    intro k p b hd hp hk
    obtain ⟨k, rfl⟩ : ∃ m, k = m + 1 := ⟨k - 1, by omega⟩
    simp only [impl_reader_even.l0]
    rw [tmod_pos (by omega), if_pos (by omega), rest_even s (by omega), show 8 * ((p + 7) / 8) = p by omega]
    simp
  | succ d ih =>
    intro k p b hd hp hk
    obtain ⟨k, rfl⟩ : ∃ m, k = m + 1 := ⟨k - 1, by omega⟩
    simp only [impl_reader_even.l0]
    obtain ⟨hlt, hr, he⟩ := even_step s (p := p) (by omega) hp
    have hnx : nx s p = p + 1 := by unfold nx; rw [if_pos hlt]
    have hlo : lost s p b = b := by unfold lost; rw [if_pos hlt]
    rw [tmod_pos (by omega), if_neg (by omega), impl_bit s hs p hp b, Option.bind_some, hnx, hlo, hr]
    have hc := bit1_lt s p
    by_cases h0 : bit1 s p = 0
    · rw [if_pos (by omega), ih k (p + 1) b (by omega) (by omega) (by omega), he]
      simp [h0]
    · rw [if_neg (by omega), ih k (p + 1) true (by omega) (by omega) (by omega), he]
      have : bit1 s p = 1 := by omega
      simp [this]
theorem impl_even {k : Nat} (s : ByteArray) (hs : s.size ≤ 1099511627776) (p : Nat) (b : Bool) (hp : p ≤ 8 * s.size) (hk : 10 ≤ k) :
    impl_reader_even.f k s (p : Int) b = some (s, ((8 * ((p + 7) / 8) : Nat) : Int), b || (rest s p).any id) := by
  unfold impl_reader_even.f
  exact impl_even_l s hs _ k p b rfl hp (by omega)
/-! ### BitsGet -/
def okBit (x : Int) : Bool := decide (0 ≤ x) && decide (x ≤ 16)
theorem okBit_yes {x : Int} (h : okBit x = true) : ∃ n : Nat, x = n ∧ n ≤ 16 := by
  simp only [okBit, Bool.and_eq_true, decide_eq_true_eq] at h
  exact ⟨x.toNat, by omega, by omega⟩
/-- What comes of numbers that were read up to p. -/
def fin (s : ByteArray) (out : List Int) (p : Nat) (b : Bool) : List Int × Bool :=
  if b || (rest s p).any id then ([], false) else if 8 * ((p + 7) / 8) = 8 * s.size then (out, true) else ([], false)
def getL (s : ByteArray) : List Int → List Int → Nat → Bool → List Int × Bool
  | [], out, p, b => fin s out p b
  | x :: r, out, p, b => if okBit x then getL s r (out ++ [((rdv s x.toNat p : Nat) : Int)]) (rdp s x.toNat p) (rdb s x.toNat p b) else ([], false)
def getR (s : ByteArray) (l : List Int) : List Int × Bool := if l.length ≤ 4000 then getL s l [] 0 false else ([], false)
theorem rd_int {l : List Int} {i : Nat} (h : i < l.length) : rd l (i : Int) = l[i] := by simp [rd, List.getElem?_eq_getElem h]
theorem impl_BitsGet_l (s : ByteArray) (hs : s.size ≤ 1099511627776) (d : Nat) : ∀ (k : Nat) (l out : List Int) (i p : Nat) (b : Bool), i ≤ l.length → l.length - i = d → l.length ≤ 4000 → out.length ≤ i → p ≤ 8 * s.size → d + 60 < k →
    impl_BitsGet.l0 k s out l (l.length : Int) (i : Int) s (p : Int) b = some (getL s (l.drop i) out p b) := by
  induction d with
  | zero =>
    intro k l out i p b hi hd hl ho hp hk
    obtain ⟨k, rfl⟩ : ∃ m, k = m + 1 := ⟨k - 1, by omega⟩
    simp only [impl_BitsGet.l0]
    rw [if_neg (by omega), impl_even s hs p b hp (by omega), Option.bind_some, List.drop_of_length_le (by omega), w64 (by omega) (by omega)]
    simp only [getL, fin]
    split
    · rfl
    · by_cases h : 8 * ((p + 7) / 8) = 8 * s.size
      · rw [if_pos (by omega), if_pos h]
      · rw [if_neg (by omega), if_neg h]
  | succ d ih =>
    intro k l out i p b hi hd hl ho hp hk
    obtain ⟨k, rfl⟩ : ∃ m, k = m + 1 := ⟨k - 1, by omega⟩
    simp only [impl_BitsGet.l0]
    rw [if_pos (by omega), if_pos (by omega), if_pos (by omega), within_f, Option.bind_some, rd_int (by omega), List.drop_eq_getElem_cons (show i < l.length by omega)]
    simp only [getL]
    change (if okBit (l[i]'(by omega)) = true then _ else _) = _
    cases h : okBit (l[i]'(by omega)) with
    | false => simp
    | true =>
      obtain ⟨n, hn, hn16⟩ := okBit_yes h
      rw [if_pos rfl, if_pos rfl, hn, impl_get s hs n p b hn16 hp (by omega), Option.bind_some, if_pos (by omega), w64 (by omega) (by omega), show ((i : Int) + 1) = ((i + 1 : Nat) : Int) by omega, Int.toNat_natCast]
      exact ih k l _ (i + 1) _ _ (by omega) (by omega) hl (by simp; omega) (rdp_le s n p hp) (by omega)
theorem impl_BitsGet_f {k : Nat} (s : ByteArray) (hs : s.size ≤ 1099511627776) (l : List Int) (hk : l.length + 70 ≤ k) : impl_BitsGet.f k s l = some (getR s l) := by
  unfold impl_BitsGet.f getR
  rw [Option.bind_some]
  by_cases h : l.length ≤ 4000
  · rw [if_neg (by omega), if_pos h]
    exact impl_BitsGet_l s hs l.length k l [] 0 0 false (by omega) (by omega) h (by simp) (by omega) (by omega)
  · rw [if_pos (by omega), if_neg h]
theorem getL_len (s : ByteArray) : ∀ (l out : List Int) (p : Nat) (b : Bool), (getL s l out p b).1.length ≤ out.length + l.length
  | [], out, p, b => by
    simp only [getL, fin]
    split
    · simp
    · split <;> simp
  | x :: r, out, p, b => by
    simp only [getL]
    split
    · have := getL_len s r (out ++ [((rdv s x.toNat p : Nat) : Int)]) (rdp s x.toNat p) (rdb s x.toNat p b)
      simp at this ⊢
      omega
    · simp
theorem getR_len (s : ByteArray) (l : List Int) : (getR s l).1.length ≤ l.length := by
  unfold getR
  split
  · have := getL_len s l [] 0 false
    simpa using this
  · simp
end Go.Proofs.Ytfpbdojbnomnmaa.My
