/- Put together: Base1, Bit, LinkIn, LensP. -/
import Derived.Test.YtcbehpemhkfieaaPAllx0
import Derived.Test.YtcbehpemhkfieaaPAllx0
import Derived.Test.YtcbehpemhkfieaaPAllx25
import Derived.Test.YtcbehpemhkfieaaPAllx38
namespace Go.Proofs.Ytcbehpemhkfieaa.My
open Go Go.RowKit Go.Proofs.YtcbehpemhkfieaaW.PrintWords Go.Proofs.YtcbehpemhkfieaaW.PrintLast Go.Proofs.YtcbehpemhkfieaaW.PrintMore

theorem w64 {x : Int} (h0 : -9223372036854775808 ≤ x) (h1 : x ≤ 9223372036854775807) : wrap64 x = x := by
  unfold wrap64
  omega
theorem tmod_pos {x m : Int} (h : 0 ≤ x) : Int.tmod x m = x % m := Int.tmod_eq_emod_of_nonneg h
theorem tdiv_pos {x m : Int} (h : 0 ≤ x) : Int.tdiv x m = x / m := Int.tdiv_eq_ediv_of_nonneg h
theorem wf_i64 {x : Int} (h : (Lit.int .i64 x).wf = true) : -9223372036854775808 ≤ x ∧ x ≤ 9223372036854775807 := by
  simpa [Lit.wf, IntKind.min, IntKind.max, IntKind.signed, IntKind.bits] using h
theorem wf_u8 {x : Int} (h : (Lit.int .u8 x).wf = true) : 0 ≤ x ∧ x ≤ 255 := by
  simpa [Lit.wf, IntKind.min, IntKind.max, IntKind.signed, IntKind.bits] using h

/-! ### Bits of 32 -/
theorem ofInt_toNat32 (c : BitVec 32) : BitVec.ofInt 32 (c.toNat : Int) = c := by
  rw [BitVec.ofInt_natCast, BitVec.ofNat_toNat, BitVec.setWidth_eq]
theorem wrap_u32_toNat (c : BitVec 32) : IntKind.u32.wrap (c.toNat : Int) = c.toNat := by
  rw [IntKind.wrap_u32]
  have := c.isLt
  omega
theorem bits_xor32 (c d : BitVec 32) : Go.bits .xor .u32 (c.toNat : Int) (d.toNat : Int) = ((c ^^^ d).toNat : Int) := by
  change IntKind.u32.wrap ((BitVec.ofInt 32 (c.toNat : Int) ^^^ BitVec.ofInt 32 (d.toNat : Int)).toNat : Int) = _
  rw [ofInt_toNat32, ofInt_toNat32]
  exact wrap_u32_toNat _
theorem bits_and32 (c d : BitVec 32) : Go.bits .and .u32 (c.toNat : Int) (d.toNat : Int) = ((c &&& d).toNat : Int) := by
  change IntKind.u32.wrap ((BitVec.ofInt 32 (c.toNat : Int) &&& BitVec.ofInt 32 (d.toNat : Int)).toNat : Int) = _
  rw [ofInt_toNat32, ofInt_toNat32]
  exact wrap_u32_toNat _
theorem toNat_shr1 (c : BitVec 32) : ((c >>> 1).toNat : Int) = (c.toNat : Int) / 2 := by
  rw [BitVec.toNat_ushiftRight, Nat.shiftRight_eq_div_pow]
  omega
theorem toNat_odd (c : BitVec 32) : c.getLsbD 0 = decide ((c.toNat : Int) % 2 = 1) := by
  rw [BitVec.getLsbD, Nat.testBit_zero]
  rw [Bool.eq_iff_iff]
  simp only [decide_eq_true_eq]
  omega
theorem and_one (c : BitVec 32) : ((c &&& 1#32).toNat : Int) = (c.toNat : Int) % 2 := by
  rw [BitVec.toNat_and, show (1#32).toNat = 2 ^ 1 - 1 from rfl, Nat.and_two_pow_sub_one_eq_mod]
  omega
theorem int_toNat32 {x : Int} (h0 : 0 ≤ x) (h1 : x ≤ 4294967295) : ∃ c : BitVec 32, x = (c.toNat : Int) := by
  refine ⟨BitVec.ofNat 32 x.toNat, ?_⟩
  rw [BitVec.toNat_ofNat]
  omega

/-! ### Bits of 64: numbers that are not below 0 -/
theorem bits_xor64 {x y : Int} (h0 : 0 ≤ x) (h1 : x < 9223372036854775808) (h2 : 0 ≤ y) (h3 : y < 9223372036854775808) : ∃ n : Nat, Go.bits .xor .i64 x y = (n : Int) ∧ n < 9223372036854775808 := by
  obtain ⟨a, rfl⟩ := Int.eq_ofNat_of_zero_le h0
  obtain ⟨b, rfl⟩ := Int.eq_ofNat_of_zero_le h2
  have ha : a < 2 ^ 63 := by omega
  have hb : b < 2 ^ 63 := by omega
  have hx : a ^^^ b < 2 ^ 63 := Nat.xor_lt_two_pow ha hb
  refine ⟨a ^^^ b, ?_, by omega⟩
  change IntKind.i64.wrap ((BitVec.ofInt 64 (a : Int) ^^^ BitVec.ofInt 64 (b : Int)).toNat : Int) = _
  have e1 : BitVec.ofInt 64 (a : Int) = BitVec.ofNat 64 a := BitVec.ofInt_natCast _ _
  have e2 : BitVec.ofInt 64 (b : Int) = BitVec.ofNat 64 b := BitVec.ofInt_natCast _ _
  rw [e1, e2, BitVec.toNat_xor, BitVec.toNat_ofNat, BitVec.toNat_ofNat, Nat.mod_eq_of_lt (show a < 2 ^ 64 by omega), Nat.mod_eq_of_lt (show b < 2 ^ 64 by omega), IntKind.wrap_i64]
  omega
end Go.Proofs.Ytcbehpemhkfieaa.My

namespace Go.Proofs.Ytcbehpemhkfieaa.Bit

def val : List Bool → Nat
  | [] => 0
  | b :: t => b.toNat + 2 * val t
/-- The lowest n bits of x, the lowest first. -/
def nb (x : Nat) : Nat → List Bool
  | 0 => []
  | n + 1 => decide (x % 2 = 1) :: nb (x / 2) n
theorem nb_length (n : Nat) : ∀ x, (nb x n).length = n := by
  induction n with
  | zero => intro x; rfl
  | succ n ih => intro x; simp [nb, ih]
theorem val_lt (l : List Bool) : val l < 2 ^ l.length := by
  induction l with
  | nil => simp [val]
  | cons b t ih =>
    simp only [val, List.length_cons, Nat.pow_succ]
    cases b <;> simp <;> omega
theorem val_append (l m : List Bool) : val (l ++ m) = val l + 2 ^ l.length * val m := by
  induction l with
  | nil => simp [val]
  | cons b t ih => simp only [List.cons_append, val, ih, List.length_cons, Nat.pow_succ]; grind
theorem val_nb (n : Nat) : ∀ x, x < 2 ^ n → val (nb x n) = x := by
  induction n with
  | zero => intro x h; simp at h; simp [nb, val, h]
  | succ n ih =>
    intro x h
    simp only [nb, val]
    rw [ih (x / 2) (by rw [Nat.pow_succ] at h; omega)]
    by_cases h2 : x % 2 = 1
    · simp [h2]; omega
    · simp [h2]; omega
theorem nb_val (l : List Bool) : nb (val l) l.length = l := by
  induction l with
  | nil => rfl
  | cons b t ih =>
    simp only [val, List.length_cons, nb]
    have h1 : (b.toNat + 2 * val t) / 2 = val t := by cases b <;> simp <;> omega
    have h2 : decide ((b.toNat + 2 * val t) % 2 = 1) = b := by cases b <;> simp <;> omega
    rw [h1, h2, ih]
theorem val_inj {l m : List Bool} (hl : l.length = m.length) (h : val l = val m) : l = m := by
  rw [← nb_val l, ← nb_val m, hl, h]
theorem nb_zero (n : Nat) : nb 0 n = List.replicate n false := by
  induction n with
  | zero => rfl
  | succ n ih => simp [nb, ih, List.replicate_succ]
theorem val_zeros (n : Nat) : val (List.replicate n false) = 0 := by
  induction n with
  | zero => rfl
  | succ n ih => simp [val, ih, List.replicate_succ]
theorem nb_add (m n : Nat) : ∀ x, nb x (m + n) = nb x m ++ nb (x / 2 ^ m) n := by
  induction m with
  | zero => intro x; simp [nb]
  | succ m ih =>
    intro x
    rw [show m + 1 + n = (m + n) + 1 by omega]
    simp only [nb, List.cons_append]
    rw [ih, Nat.div_div_eq_div_mul, Nat.pow_succ, Nat.mul_comm 2]
theorem nb_snoc (x n : Nat) : nb x (n + 1) = nb x n ++ [decide (x / 2 ^ n % 2 = 1)] := by
  rw [nb_add]; rfl
theorem nb_mod (n : Nat) : ∀ x, nb (x % 2 ^ n) n = nb x n := by
  induction n with
  | zero => intro x; rfl
  | succ n ih =>
    intro x
    simp only [nb]
    have h1 : x % 2 ^ (n + 1) % 2 = x % 2 := by rw [Nat.pow_succ, Nat.mul_comm, Nat.mod_mul_right_mod]
    have h2 : x % 2 ^ (n + 1) / 2 = x / 2 % 2 ^ n := by rw [Nat.pow_succ, Nat.mul_comm, Nat.mod_mul_right_div_self]
    rw [h1, h2, ih]
theorem all_false_val {l : List Bool} : val l = 0 ↔ ∀ b ∈ l, b = false := by
  induction l with
  | nil => simp [val]
  | cons b t ih =>
    simp only [val, List.mem_cons, forall_eq_or_imp]
    rw [← ih]
    cases b
    · simp
      omega
    · simp

/-! ### Bytes -/
def packN : Nat → List Bool → List Nat
  | 0, _ => []
  | n + 1, l => val (l.take 8) :: packN n (l.drop 8)
def pack (l : List Bool) : List Nat := packN ((l.length + 7) / 8) l
def unpack : List Nat → List Bool
  | [] => []
  | b :: t => nb b 8 ++ unpack t
theorem packN_length (n : Nat) : ∀ l, (packN n l).length = n := by
  induction n with
  | zero => intro l; rfl
  | succ n ih => intro l; simp [packN, ih]
theorem pack_length (l : List Bool) : (pack l).length = (l.length + 7) / 8 := packN_length _ _
theorem unpack_length (l : List Nat) : (unpack l).length = 8 * l.length := by
  induction l with
  | nil => rfl
  | cons b t ih => simp [unpack, nb_length, ih]; omega
theorem unpack_append (l m : List Nat) : unpack (l ++ m) = unpack l ++ unpack m := by
  induction l with
  | nil => rfl
  | cons b t ih => simp [unpack, ih]
theorem packN_append (n : Nat) : ∀ l m : List Bool, l.length = 8 * n → ∀ k, packN (n + k) (l ++ m) = packN n l ++ packN k m := by
  induction n with
  | zero =>
    intro l m hl k
    have : l = [] := List.eq_nil_of_length_eq_zero (by omega)
    subst this
    simp [packN]
  | succ n ih =>
    intro l m hl k
    rw [show n + 1 + k = (n + k) + 1 by omega]
    simp only [packN, List.cons_append]
    rw [List.take_append_of_le_length (by omega), List.drop_append_of_le_length (by omega), ih _ _ (by rw [List.length_drop]; omega)]
/-- What is of whole bytes, and more behind it. -/
theorem pack_append {l : List Bool} (hl : l.length % 8 = 0) (m : List Bool) : pack (l ++ m) = pack l ++ pack m := by
  unfold pack
  rw [← packN_append ((l.length + 7) / 8) l m (by omega), List.length_append]
  congr 1
  omega
theorem pack_small {l : List Bool} (h1 : 0 < l.length) (h2 : l.length ≤ 8) : pack l = [val l] := by
  unfold pack
  rw [show (l.length + 7) / 8 = 1 by omega]
  simp only [packN]
  rw [List.take_of_length_le h2]
theorem pack_nil : pack [] = [] := rfl
theorem pack_unpack {bs : List Nat} (h : ∀ b ∈ bs, b < 256) : pack (unpack bs) = bs := by
  induction bs with
  | nil => rfl
  | cons b t ih =>
    rw [unpack, pack_append (by rw [nb_length]), pack_small (by rw [nb_length]; omega) (by rw [nb_length]; omega), val_nb 8 b (h b (List.mem_cons_self ..)), ih (fun c hc => h c (List.mem_cons_of_mem _ hc))]
    rfl
/-- The bits of whole bytes, and those of a last byte that is not full. -/
theorem parts (l : List Bool) : ∃ a r : List Bool, l = a ++ r ∧ a.length % 8 = 0 ∧ r.length < 8 ∧ a.length = 8 * (l.length / 8) ∧ r.length = l.length % 8 := by
  refine ⟨l.take (8 * (l.length / 8)), l.drop (8 * (l.length / 8)), (List.take_append_drop _ _).symm, ?_, ?_, ?_, ?_⟩
  · rw [List.length_take]; omega
  · rw [List.length_drop]; omega
  · rw [List.length_take]; omega
  · rw [List.length_drop]; omega
theorem unpack_pack_aligned {l : List Bool} (h : l.length % 8 = 0) : unpack (pack l) = l := by
  have key : ∀ n (l : List Bool), l.length = 8 * n → unpack (packN n l) = l := by
    intro n
    induction n with
    | zero => intro l hl; rw [List.eq_nil_of_length_eq_zero (by omega : l.length = 0)]; rfl
    | succ n ih =>
      intro l hl
      simp only [packN, unpack]
      rw [ih _ (by rw [List.length_drop]; omega)]
      have : nb (val (l.take 8)) 8 = l.take 8 := by
        have h8 : (l.take 8).length = 8 := by rw [List.length_take]; omega
        have := nb_val (l.take 8)
        rwa [h8] at this
      rw [this, List.take_append_drop]
  exact key _ l (by omega)
theorem pack_zeros {l : List Bool} {n : Nat} (h : (l.length + n + 7) / 8 = (l.length + 7) / 8) : pack (l ++ List.replicate n false) = pack l := by
  obtain ⟨a, r, rfl, ha, hr, hal, hrl⟩ := parts l
  rw [List.append_assoc, pack_append ha, pack_append ha]
  congr 1
  rw [List.length_append] at h hal hrl
  rcases Nat.eq_zero_or_pos r.length with h0 | h0
  · have : r = [] := List.eq_nil_of_length_eq_zero h0
    subst this
    have : n = 0 := by simp at h; omega
    subst this
    rfl
  · rw [pack_small (l := r) h0 (by omega), pack_small (by rw [List.length_append]; omega) (by rw [List.length_append, List.length_replicate]; omega), val_append, val_zeros]
    simp
/-- What is filled up to whole bytes. -/
def fill (l : List Bool) : List Bool := l ++ List.replicate (8 * ((l.length + 7) / 8) - l.length) false
theorem fill_length (l : List Bool) : (fill l).length = 8 * ((l.length + 7) / 8) := by
  unfold fill; rw [List.length_append, List.length_replicate]; omega
theorem unpack_pack (l : List Bool) : unpack (pack l) = fill l := by
  have h : pack (fill l) = pack l := pack_zeros (by omega)
  rw [← h, unpack_pack_aligned (by rw [fill_length]; omega)]
theorem pack_lt (l : List Bool) : ∀ b ∈ pack l, b < 256 := by
  have key : ∀ n (l : List Bool), ∀ b ∈ packN n l, b < 256 := by
    intro n
    induction n with
    | zero => intro l b hb; cases hb
    | succ n ih =>
      intro l b hb
      simp only [packN, List.mem_cons] at hb
      rcases hb with rfl | hb
      · have := val_lt (l.take 8)
        have h8 : 2 ^ (l.take 8).length ≤ 2 ^ 8 := Nat.pow_le_pow_right (by decide) (by rw [List.length_take]; omega)
        omega
      · exact ih _ b hb
  exact key _ l
/-- A bit more: a byte more, or the last one with it. -/
theorem pack_snoc_new {l : List Bool} (h : l.length % 8 = 0) (b : Bool) : pack (l ++ [b]) = pack l ++ [b.toNat] := by
  rw [pack_append h, pack_small (l := [b]) (by simp) (by simp)]
  simp [val]
theorem pack_snoc_old {l : List Bool} (h : l.length % 8 ≠ 0) (b : Bool) :
    ∃ x, (pack l)[l.length / 8]? = some x ∧ x < 2 ^ (l.length % 8) ∧ pack (l ++ [b]) = (pack l).set (l.length / 8) (x + b.toNat * 2 ^ (l.length % 8)) := by
  obtain ⟨a, r, hl, ha, hr, hal, hrl⟩ := parts l
  have hr0 : 0 < r.length := by omega
  have hpa : (pack a).length = l.length / 8 := by rw [pack_length]; omega
  have e1 : pack l = pack a ++ [val r] := by rw [hl, pack_append ha, pack_small hr0 (by omega)]
  have e2 : pack (l ++ [b]) = pack a ++ [val r + b.toNat * 2 ^ r.length] := by
    rw [hl, List.append_assoc, pack_append ha, pack_small (l := r ++ [b]) (by simp) (by simp; omega), val_append]
    simp [val, Nat.mul_comm]
  refine ⟨val r, ?_, ?_, ?_⟩
  · rw [e1, ← hpa]; simp
  · rw [← hrl]; exact val_lt r
  · rw [e1, e2, ← hpa, ← hrl]
    simp
end Go.Proofs.Ytcbehpemhkfieaa.Bit

namespace Go.Proofs.Ytcbehpemhkfieaa.My
open Go Go.RowKit Go.Proofs.YtcbehpemhkfieaaW.PrintWords Go.Proofs.YtcbehpemhkfieaaW.PrintLast Go.Proofs.YtcbehpemhkfieaaW.PrintMore Go.Proofs.Ytcbehpemhkfieaa.PAll
open Go.Proofs.Ytcbehpemhkfieaa.Bit

/-! ### A number of so many bits -/
theorem l1In_f (a l h : Int) : spec_l1In.f a l h = some (decide (l ≤ a) && decide (a ≤ h)) := by
  unfold spec_l1In.f
  by_cases x : a ≥ l
  · rw [if_pos x]; simp [x]
  · rw [if_neg x]; have : ¬ l ≤ a := x; simp [this]
theorem within_f (a l h : Int) : impl_within.f a l h = some (decide (l ≤ a) && decide (a ≤ h)) := by
  unfold impl_within.f
  by_cases x : a ≥ l
  · rw [if_pos x]; simp [x]
  · rw [if_neg x]; have : ¬ l ≤ a := x; simp [this]
theorem l1Pow_l (n : Nat) : ∀ (k : Nat) (p : Nat), n ≤ 62 → p * 2 ^ n ≤ 4611686018427387904 → n < k → spec_l1Pow.l0 k (n : Int) (p : Int) = some ((p * 2 ^ n : Nat) : Int) := by
  induction n with
  | zero =>
    intro k p _ _ hk
    obtain ⟨k, rfl⟩ : ∃ m, k = m + 1 := ⟨k - 1, by omega⟩
    simp only [spec_l1Pow.l0]
    rw [if_neg (by omega)]
    simp
  | succ n ih =>
    intro k p hn hp hk
    obtain ⟨k, rfl⟩ : ∃ m, k = m + 1 := ⟨k - 1, by omega⟩
    simp only [spec_l1Pow.l0]
    have h2 : p * 2 ^ (n + 1) = (2 * p) * 2 ^ n := by rw [Nat.pow_succ]; grind
    have h3 : (2 * p) * 1 ≤ (2 * p) * 2 ^ n := Nat.mul_le_mul_left _ Nat.one_le_two_pow
    rw [if_pos (by omega), w64 (by omega) (by omega), w64 (by omega) (by omega)]
    rw [show ((n + 1 : Nat) : Int) - 1 = (n : Int) by omega, show (2 * (p : Int)) = ((2 * p : Nat) : Int) by omega, ih k (2 * p) (by omega) (by omega) (by omega), h2]
theorem l1Pow_f {k n : Nat} (hn : n ≤ 62) (hk : n < k) : spec_l1Pow.f k (n : Int) = some ((2 ^ n : Nat) : Int) := by
  unfold spec_l1Pow.f
  have h : 2 ^ n ≤ 2 ^ 62 := Nat.pow_le_pow_right (by decide) hn
  have := l1Pow_l n k 1 hn (by omega) hk
  rwa [Nat.one_mul] at this
end Go.Proofs.Ytcbehpemhkfieaa.My

namespace Go.Proofs.Ytcbehpemhkfieaa.My
open Go Go.RowKit Go.Proofs.YtcbehpemhkfieaaW.PrintWords Go.Proofs.YtcbehpemhkfieaaW.PrintLast Go.Proofs.YtcbehpemhkfieaaW.PrintMore Go.Proofs.Ytcbehpemhkfieaa.PAll

theorem rd_int_at {l : List Int} {i : Nat} (h : i < l.length) : rd l (i : Int) = l[i] := by simp [rd, List.getElem?_eq_getElem h]
/-! ### Lengths -/
def rng (l : List Int) : Bool := l.all (fun x => decide (0 ≤ x) && decide (x ≤ 15))
def wt (x : Int) : Nat := if 0 < x then 2 ^ (15 - x.toNat) else 0
def ks (l : List Int) : Nat := (l.map wt).sum
def used (l : List Int) : Nat := l.countP (fun x => decide (0 < x))
def fits (n u s : Nat) : Bool := decide (n ≤ 300) && (decide (s = 32768) || (decide (u = 1) && decide (s = 16384)))
def okLens (l : List Int) : Bool := rng l && fits l.length (used l) (ks l)
theorem rng_cons (x : Int) (l : List Int) : rng (x :: l) = ((decide (0 ≤ x) && decide (x ≤ 15)) && rng l) := by simp [rng]
theorem ks_cons (x : Int) (l : List Int) : ks (x :: l) = wt x + ks l := by simp [ks]
theorem used_cons (x : Int) (l : List Int) : used (x :: l) = (if 0 < x then 1 else 0) + used l := by
  unfold used
  rw [List.countP_cons]
  by_cases h : 0 < x
  · simp [h]; omega
  · simp [h]
theorem wt_le (x : Int) : wt x ≤ 32768 := by
  unfold wt
  split
  · exact Nat.pow_le_pow_right (by decide : 0 < 2) (by omega : 15 - x.toNat ≤ 15)
  · omega
theorem l3Used_l (d : Nat) : ∀ (k : Nat) (l : List Int) (n i : Nat), i ≤ l.length → l.length - i = d → l.length ≤ 1099511627776 → n ≤ i → d < k →
    spec_l3Used.l0 k l (n : Int) (i : Int) = some ((n + used (l.drop i) : Nat) : Int) := by
  induction d with
  | zero =>
    intro k l n i hi hd hl hn hk
    obtain ⟨k, rfl⟩ : ∃ m, k = m + 1 := ⟨k - 1, by omega⟩
    rw [spec_l3Used.l0, if_neg (by omega), List.drop_of_length_le (by omega)]
    simp [used]
  | succ d ih =>
    intro k l n i hi hd hl hn hk
    obtain ⟨k, rfl⟩ : ∃ m, k = m + 1 := ⟨k - 1, by omega⟩
    rw [spec_l3Used.l0, if_pos (by omega), if_pos (by omega), rd_int_at (by omega), List.drop_eq_getElem_cons (show i < l.length by omega), used_cons, w64 (x := (i : Int) + 1) (by omega) (by omega), show ((i : Int) + 1) = ((i + 1 : Nat) : Int) by omega]
    by_cases h : l[i]'(by omega) > 0
    · rw [if_pos h, if_pos h, w64 (by omega) (by omega), show ((n : Int) + 1) = ((n + 1 : Nat) : Int) by omega, ih k l (n + 1) (i + 1) (by omega) (by omega) hl (by omega) (by omega)]
      congr 2
      omega
    · rw [if_neg h, if_neg h, ih k l n (i + 1) (by omega) (by omega) hl (by omega) (by omega)]
      congr 2
      omega
theorem l3Used_f {k : Nat} (l : List Int) (hl : l.length ≤ 1099511627776) (hk : l.length < k) : spec_l3Used.f k l = some (used l : Int) := by
  unfold spec_l3Used.f
  have := l3Used_l l.length k l 0 0 (by omega) (by omega) hl (by omega) hk
  simpa using this
end Go.Proofs.Ytcbehpemhkfieaa.My
