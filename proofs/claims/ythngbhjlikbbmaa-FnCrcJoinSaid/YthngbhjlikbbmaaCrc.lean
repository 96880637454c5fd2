/- CRC-32 as plain steps on 32 bits, and what holds of it. No program in sight. -/
namespace Go.Proofs.Ythngbhjlikbbmaa.Crc

def P : BitVec 32 := 0xEDB88320#32
def F : BitVec 32 := 0xFFFFFFFF#32
def stp (c : BitVec 32) : BitVec 32 := (c >>> 1) ^^^ (if c.getLsbD 0 then P else 0#32)
def stps : Nat → BitVec 32 → BitVec 32
  | 0, c => c
  | n + 1, c => stps n (stp c)
def st8 (c : BitVec 32) : BitVec 32 := stps 8 c
def byt (b : Nat) : BitVec 32 := BitVec.ofNat 32 b
def run : BitVec 32 → List Nat → BitVec 32
  | c, [] => c
  | c, b :: t => run (st8 (c ^^^ byt b)) t
def zer : BitVec 32 → Nat → BitVec 32
  | c, 0 => c
  | c, n + 1 => zer (st8 c) n
/-- The sum of what was, gone on with a text. -/
def more (c : BitVec 32) (t : List Nat) : BitVec 32 := run (c ^^^ F) t ^^^ F
def crc (t : List Nat) : BitVec 32 := more 0#32 t
def join (a b : BitVec 32) (n : Nat) : BitVec 32 := zer a n ^^^ b

theorem xlc (a b c : BitVec 32) : a ^^^ (b ^^^ c) = b ^^^ (a ^^^ c) := by
  rw [← BitVec.xor_assoc, BitVec.xor_comm a b, BitVec.xor_assoc]
theorem xcc (a c : BitVec 32) : a ^^^ (a ^^^ c) = c := by
  rw [← BitVec.xor_assoc, BitVec.xor_self, BitVec.zero_xor]
theorem stp_xor (a b : BitVec 32) : stp (a ^^^ b) = stp a ^^^ stp b := by
  unfold stp
  rw [BitVec.ushiftRight_xor_distrib, BitVec.getLsbD_xor]
  cases a.getLsbD 0 <;> cases b.getLsbD 0 <;> simp [BitVec.xor_assoc, BitVec.xor_comm, xlc, xcc]
theorem stps_xor (n : Nat) : ∀ a b : BitVec 32, stps n (a ^^^ b) = stps n a ^^^ stps n b := by
  induction n with
  | zero => intro a b; rfl
  | succ n ih => intro a b; simp only [stps]; rw [stp_xor, ih]
theorem stps_add (m n : Nat) : ∀ a : BitVec 32, stps (m + n) a = stps n (stps m a) := by
  induction m with
  | zero => intro a; simp [stps]
  | succ m ih => intro a; rw [show m + 1 + n = (m + n) + 1 by omega]; simp only [stps]; rw [ih]
theorem st8_xor (a b : BitVec 32) : st8 (a ^^^ b) = st8 a ^^^ st8 b := stps_xor 8 a b
theorem zer_xor (n : Nat) : ∀ a b : BitVec 32, zer (a ^^^ b) n = zer a n ^^^ zer b n := by
  induction n with
  | zero => intro a b; rfl
  | succ n ih => intro a b; simp only [zer]; rw [st8_xor, ih]
theorem zer_stps (n : Nat) : ∀ a : BitVec 32, zer a n = stps (8 * n) a := by
  induction n with
  | zero => intro a; rfl
  | succ n ih => intro a; rw [zer, ih, show 8 * (n + 1) = 8 + 8 * n by omega, stps_add]; rfl
theorem zer_add (m n : Nat) (a : BitVec 32) : zer a (m + n) = zer (zer a m) n := by
  rw [zer_stps, zer_stps, zer_stps, Nat.mul_add, stps_add]
theorem run_xor (t : List Nat) : ∀ c d : BitVec 32, run (c ^^^ d) t = run c t ^^^ zer d t.length := by
  induction t with
  | nil => intro c d; rfl
  | cons b t ih =>
    intro c d
    simp only [run, zer, List.length_cons]
    rw [show c ^^^ d ^^^ byt b = (c ^^^ byt b) ^^^ d by simp only [BitVec.xor_assoc]; rw [BitVec.xor_comm d], st8_xor, ih]
theorem run_append (s t : List Nat) : ∀ c : BitVec 32, run c (s ++ t) = run (run c s) t := by
  induction s with
  | nil => intro c; rfl
  | cons b s ih => intro c; simp only [run, List.cons_append]; rw [ih]
theorem xor_FF (a : BitVec 32) : a ^^^ F ^^^ F = a := by rw [BitVec.xor_assoc, BitVec.xor_self, BitVec.xor_zero]
theorem more_append (c : BitVec 32) (s t : List Nat) : more c (s ++ t) = more (more c s) t := by
  unfold more
  rw [xor_FF, run_append]
theorem crc_append (s t : List Nat) : crc (s ++ t) = more (crc s) t := more_append _ s t
theorem more_nil (c : BitVec 32) : more c [] = c := by unfold more run; exact xor_FF c
/-- Sums of two texts make that of both. -/
theorem join_crc (s t : List Nat) : join (crc s) (crc t) t.length = crc (s ++ t) := by
  rw [crc_append]
  have h : ∀ x : BitVec 32, join x (crc t) t.length = more x t := by
    intro x
    unfold join crc more
    rw [BitVec.zero_xor, BitVec.xor_comm x F, run_xor, BitVec.xor_comm _ (zer x t.length), BitVec.xor_assoc]
  exact h _
theorem join_more (x : BitVec 32) (t : List Nat) : join x (crc t) t.length = more x t := by
  unfold join crc more
  rw [BitVec.zero_xor, BitVec.xor_comm x F, run_xor, BitVec.xor_comm _ (zer x t.length), BitVec.xor_assoc]
theorem join_zero (a : BitVec 32) : join a 0#32 0 = a := by simp [join, zer]

/-! A step leads to one from one place only. -/
theorem stp_zero {c : BitVec 32} (h : stp c = 0#32) : c = 0#32 := by
  unfold stp at h
  have h31 : (c >>> 1 ^^^ (if c.getLsbD 0 then P else 0#32)).getLsbD 31 = false := by rw [h]; simp
  rw [BitVec.getLsbD_xor, BitVec.getLsbD_ushiftRight] at h31
  have h0 : c.getLsbD 0 = false := by
    cases hc : c.getLsbD 0
    · rfl
    · rw [hc] at h31
      have : c.getLsbD (1 + 31) = false := BitVec.getLsbD_of_ge _ _ (by decide)
      rw [this] at h31
      revert h31; decide
  rw [h0] at h
  simp only [Bool.false_eq_true, if_false, BitVec.xor_zero] at h
  apply BitVec.eq_of_getLsbD_eq
  intro i hi
  cases i with
  | zero => rw [h0]; simp
  | succ i =>
    have : (c >>> 1).getLsbD i = false := by rw [h]; simp
    rw [BitVec.getLsbD_ushiftRight] at this
    rw [Nat.add_comm i 1, this]; simp
theorem stps_zero (n : Nat) : ∀ c : BitVec 32, stps n c = 0#32 → c = 0#32 := by
  induction n with
  | zero => intro c h; exact h
  | succ n ih => intro c h; exact stp_zero (ih _ h)
theorem xor_zero_eq {a b : BitVec 32} (h : a ^^^ b = 0#32) : a = b := by
  have : a ^^^ b ^^^ b = 0#32 ^^^ b := by rw [h]
  rwa [BitVec.xor_assoc, BitVec.xor_self, BitVec.xor_zero, BitVec.zero_xor] at this
theorem st8_inj {a b : BitVec 32} (h : st8 a = st8 b) : a = b := by
  apply xor_zero_eq
  apply stps_zero 8
  have := st8_xor a b
  rw [h, BitVec.xor_self] at this
  exact this
theorem run_inj (t : List Nat) : ∀ {c d : BitVec 32}, run c t = run d t → c = d := by
  induction t with
  | nil => intro c d h; exact h
  | cons b t ih =>
    intro c d h
    have := st8_inj (ih h)
    have h2 : c ^^^ byt b ^^^ byt b = d ^^^ byt b ^^^ byt b := by rw [this]
    rwa [BitVec.xor_assoc, BitVec.xor_self, BitVec.xor_zero, BitVec.xor_assoc, BitVec.xor_self, BitVec.xor_zero] at h2
/-- Texts that are one byte apart have two sums. -/
theorem crc_byte (s t : List Nat) {a b : Nat} (ha : a < 256) (hb : b < 256) (hab : a ≠ b) : crc (s ++ a :: t) ≠ crc (s ++ b :: t) := by
  intro h
  unfold crc more at h
  rw [run_append, run_append] at h
  have h1 : run (run (0#32 ^^^ F) s) (a :: t) = run (run (0#32 ^^^ F) s) (b :: t) := by
    have : ∀ x y : BitVec 32, x ^^^ F = y ^^^ F → x = y := by
      intro x y h
      have h2 : x ^^^ F ^^^ F = y ^^^ F ^^^ F := by rw [h]
      rwa [xor_FF, xor_FF] at h2
    exact this _ _ h
  simp only [run] at h1
  have h2 := st8_inj (run_inj t h1)
  have h3 : byt a = byt b := by
    have := congrArg (fun x => run (0#32 ^^^ F) s ^^^ x) h2
    simp only [xcc] at this
    exact this
  have h4 := congrArg BitVec.toNat h3
  simp only [byt, BitVec.toNat_ofNat] at h4
  omega

/-! A text with its sum behind it. -/
theorem stp_even {c : BitVec 32} (h : c.getLsbD 0 = false) : stp c = c >>> 1 := by
  unfold stp; rw [h]; simp
theorem stps_even (n : Nat) : ∀ c : BitVec 32, (∀ i, i < n → c.getLsbD i = false) → stps n c = c >>> n := by
  induction n with
  | zero => intro c _; simp [stps]
  | succ n ih =>
    intro c h
    simp only [stps]
    rw [stp_even (h 0 (by omega)), ih]
    · apply BitVec.eq_of_getLsbD_eq
      intro i hi
      simp only [BitVec.getLsbD_ushiftRight]
      congr 1
      omega
    · intro i hi
      rw [BitVec.getLsbD_ushiftRight, Nat.add_comm]
      exact h _ (by omega)
/-- The lowest byte goes in, what is above it goes down. -/
theorem st8_word (c : BitVec 32) (n : Nat) (hn : n < 4294967296) : st8 (c ^^^ byt n) = st8 (c ^^^ byt (n % 256)) ^^^ byt (n / 256) := by
  have e : byt n = byt (n % 256) ^^^ byt (n / 256 * 256) := by
    apply BitVec.eq_of_toNat_eq
    unfold byt
    rw [BitVec.toNat_xor, BitVec.toNat_ofNat, BitVec.toNat_ofNat, BitVec.toNat_ofNat]
    rw [Nat.mod_eq_of_lt (show n < 2 ^ 32 by omega), Nat.mod_eq_of_lt (show n % 256 < 2 ^ 32 by omega), Nat.mod_eq_of_lt (show n / 256 * 256 < 2 ^ 32 by omega)]
    apply Nat.eq_of_testBit_eq
    intro i
    rw [Nat.testBit_xor, show (256 : Nat) = 2 ^ 8 by rfl, Nat.testBit_mod_two_pow, Nat.testBit_mul_two_pow, Nat.testBit_div_two_pow]
    by_cases hi : i < 8
    · simp [hi, Nat.not_le.2 hi]
    · simp [hi, Nat.not_lt.1 hi]
  rw [e, ← BitVec.xor_assoc, st8_xor]
  congr 1
  unfold st8
  rw [stps_even]
  · apply BitVec.eq_of_toNat_eq
    unfold byt
    rw [BitVec.toNat_ushiftRight, BitVec.toNat_ofNat, BitVec.toNat_ofNat, Nat.mod_eq_of_lt (show n / 256 * 256 < 2 ^ 32 by omega), Nat.mod_eq_of_lt (show n / 256 < 2 ^ 32 by omega), Nat.shiftRight_eq_div_pow]
    omega
  · intro i hi
    unfold byt
    rw [BitVec.getLsbD_ofNat, show (256 : Nat) = 2 ^ 8 by rfl, Nat.testBit_mul_two_pow]
    simp [Nat.not_le.2 hi]
def word4 (n : Nat) : List Nat := [n % 256, n / 256 % 256, n / 65536 % 256, n / 16777216]
theorem run_word (c : BitVec 32) (n : Nat) (hn : n < 4294967296) : run c (word4 n) = zer (c ^^^ byt n) 4 := by
  unfold word4
  simp only [run, zer]
  have h1 := st8_word c n hn
  have h2 := st8_word (st8 (c ^^^ byt (n % 256))) (n / 256) (by omega)
  have h3 := st8_word (st8 (st8 (c ^^^ byt (n % 256)) ^^^ byt (n / 256 % 256))) (n / 256 / 256) (by omega)
  have e1 : n / 256 / 256 = n / 65536 := by omega
  have e2 : n / 65536 / 256 = n / 16777216 := by omega
  rw [e1] at h2 h3
  rw [e2] at h3
  rw [h1, h2, h3]
theorem crc_end (s : List Nat) : crc (s ++ word4 (crc s).toNat) = 558161692#32 := by
  unfold crc more
  rw [run_append, run_word _ _ (by exact BitVec.isLt _)]
  have : byt (run (0#32 ^^^ F) s ^^^ F).toNat = run (0#32 ^^^ F) s ^^^ F := by unfold byt; simp
  rw [this, xcc]
  decide +kernel
theorem crc_nine : crc [49, 50, 51, 52, 53, 54, 55, 56, 57] = 3421780262#32 := by decide +kernel
theorem crc_nil : crc [] = 0#32 := by decide +kernel
#print axioms crc_end
#print axioms crc_byte
end Go.Proofs.Ythngbhjlikbbmaa.Crc
