/- Bits one behind the other, the lowest first, and bytes: plain lists. No program in sight. -/
namespace Go.Proofs.Ytlmpgihimbechaa.Bit

def val : List Bool → Nat
  | [] => 0
  | b :: t => b.toNat + 2 * val t
/-- The lowest n bits of x, the lowest first. -/
def nb (x : Nat) : Nat → List Bool
  | 0 => []
  | n + 1 => decide (x % 2 = 1) :: nb (x / 2) n
theorem nb_length (n : Nat) : ∀ x, (nb x n).length = n := by
  induction n with
  | zero => intro x; rfl
  | succ n ih => intro x; simp [nb, ih]
theorem val_lt (l : List Bool) : val l < 2 ^ l.length := by
  induction l with
  | nil => simp [val]
  | cons b t ih =>
    simp only [val, List.length_cons, Nat.pow_succ]
    cases b <;> simp <;> omega
theorem val_append (l m : List Bool) : val (l ++ m) = val l + 2 ^ l.length * val m := by
  induction l with
  | nil => simp [val]
  | cons b t ih => simp only [List.cons_append, val, ih, List.length_cons, Nat.pow_succ]; grind
theorem val_nb (n : Nat) : ∀ x, x < 2 ^ n → val (nb x n) = x := by
  induction n with
  | zero => intro x h; simp at h; simp [nb, val, h]
  | succ n ih =>
    intro x h
    simp only [nb, val]
    rw [ih (x / 2) (by rw [Nat.pow_succ] at h; omega)]
    by_cases h2 : x % 2 = 1
    · simp [h2]; omega
    · simp [h2]; omega
theorem nb_val (l : List Bool) : nb (val l) l.length = l := by
  induction l with
  | nil => rfl
  | cons b t ih =>
    simp only [val, List.length_cons, nb]
    have h1 : (b.toNat + 2 * val t) / 2 = val t := by cases b <;> simp <;> omega
    have h2 : decide ((b.toNat + 2 * val t) % 2 = 1) = b := by cases b <;> simp <;> omega
    rw [h1, h2, ih]
theorem val_inj {l m : List Bool} (hl : l.length = m.length) (h : val l = val m) : l = m := by
  rw [← nb_val l, ← nb_val m, hl, h]
theorem nb_zero (n : Nat) : nb 0 n = List.replicate n false := by
  induction n with
  | zero => rfl
  | succ n ih => simp [nb, ih, List.replicate_succ]
theorem val_zeros (n : Nat) : val (List.replicate n false) = 0 := by
  induction n with
  | zero => rfl
  | succ n ih => simp [val, ih, List.replicate_succ]
theorem nb_add (m n : Nat) : ∀ x, nb x (m + n) = nb x m ++ nb (x / 2 ^ m) n := by
  induction m with
  | zero => intro x; simp [nb]
  | succ m ih =>
    intro x
    rw [show m + 1 + n = (m + n) + 1 by omega]
    simp only [nb, List.cons_append]
    rw [ih, Nat.div_div_eq_div_mul, Nat.pow_succ, Nat.mul_comm 2]
theorem nb_snoc (x n : Nat) : nb x (n + 1) = nb x n ++ [decide (x / 2 ^ n % 2 = 1)] := by
  rw [nb_add]; rfl
theorem nb_mod (n : Nat) : ∀ x, nb (x % 2 ^ n) n = nb x n := by
  induction n with
  | zero => intro x; rfl
  | succ n ih =>
    intro x
    simp only [nb]
    have h1 : x % 2 ^ (n + 1) % 2 = x % 2 := by rw [Nat.pow_succ, Nat.mul_comm, Nat.mod_mul_right_mod]
    have h2 : x % 2 ^ (n + 1) / 2 = x / 2 % 2 ^ n := by rw [Nat.pow_succ, Nat.mul_comm, Nat.mod_mul_right_div_self]
    rw [h1, h2, ih]
theorem all_false_val {l : List Bool} : val l = 0 ↔ ∀ b ∈ l, b = false := by
  induction l with
  | nil => simp [val]
  | cons b t ih =>
    simp only [val, List.mem_cons, forall_eq_or_imp]
    rw [← ih]
    cases b
    · simp
      omega
    · simp

/-! ### Bytes -/
def packN : Nat → List Bool → List Nat
  | 0, _ => []
  | n + 1, l => val (l.take 8) :: packN n (l.drop 8)
def pack (l : List Bool) : List Nat := packN ((l.length + 7) / 8) l
def unpack : List Nat → List Bool
  | [] => []
  | b :: t => nb b 8 ++ unpack t
theorem packN_length (n : Nat) : ∀ l, (packN n l).length = n := by
  induction n with
  | zero => intro l; rfl
  | succ n ih => intro l; simp [packN, ih]
theorem pack_length (l : List Bool) : (pack l).length = (l.length + 7) / 8 := packN_length _ _
theorem unpack_length (l : List Nat) : (unpack l).length = 8 * l.length := by
  induction l with
  | nil => rfl
  | cons b t ih => simp [unpack, nb_length, ih]; omega
theorem unpack_append (l m : List Nat) : unpack (l ++ m) = unpack l ++ unpack m := by
  induction l with
  | nil => rfl
  | cons b t ih => simp [unpack, ih]
theorem packN_append (n : Nat) : ∀ l m : List Bool, l.length = 8 * n → ∀ k, packN (n + k) (l ++ m) = packN n l ++ packN k m := by
  induction n with
  | zero =>
    intro l m hl k
    have : l = [] := List.eq_nil_of_length_eq_zero (by omega)
    subst this
    simp [packN]
  | succ n ih =>
    intro l m hl k
    rw [show n + 1 + k = (n + k) + 1 by omega]
    simp only [packN, List.cons_append]
    rw [List.take_append_of_le_length (by omega), List.drop_append_of_le_length (by omega), ih _ _ (by rw [List.length_drop]; omega)]
/-- What is of whole bytes, and more behind it. -/
theorem pack_append {l : List Bool} (hl : l.length % 8 = 0) (m : List Bool) : pack (l ++ m) = pack l ++ pack m := by
  unfold pack
  rw [← packN_append ((l.length + 7) / 8) l m (by omega), List.length_append]
  congr 1
  omega
theorem pack_small {l : List Bool} (h1 : 0 < l.length) (h2 : l.length ≤ 8) : pack l = [val l] := by
  unfold pack
  rw [show (l.length + 7) / 8 = 1 by omega]
  simp only [packN]
  rw [List.take_of_length_le h2]
theorem pack_nil : pack [] = [] := rfl
theorem pack_unpack {bs : List Nat} (h : ∀ b ∈ bs, b < 256) : pack (unpack bs) = bs := by
  induction bs with
  | nil => rfl
  | cons b t ih =>
    rw [unpack, pack_append (by rw [nb_length]), pack_small (by rw [nb_length]; omega) (by rw [nb_length]; omega), val_nb 8 b (h b (List.mem_cons_self ..)), ih (fun c hc => h c (List.mem_cons_of_mem _ hc))]
    rfl
/-- The bits of whole bytes, and those of a last byte that is not full. -/
theorem parts (l : List Bool) : ∃ a r : List Bool, l = a ++ r ∧ a.length % 8 = 0 ∧ r.length < 8 ∧ a.length = 8 * (l.length / 8) ∧ r.length = l.length % 8 := by
  refine ⟨l.take (8 * (l.length / 8)), l.drop (8 * (l.length / 8)), (List.take_append_drop _ _).symm, ?_, ?_, ?_, ?_⟩
  · rw [List.length_take]; omega
  · rw [List.length_drop]; omega
  · rw [List.length_take]; omega
  · rw [List.length_drop]; omega
theorem unpack_pack_aligned {l : List Bool} (h : l.length % 8 = 0) : unpack (pack l) = l := by
  have key : ∀ n (l : List Bool), l.length = 8 * n → unpack (packN n l) = l := by
    intro n
    induction n with
    | zero => intro l hl; rw [List.eq_nil_of_length_eq_zero (by omega : l.length = 0)]; rfl
    | succ n ih =>
      intro l hl
      simp only [packN, unpack]
      rw [ih _ (by rw [List.length_drop]; omega)]
      have : nb (val (l.take 8)) 8 = l.take 8 := by
        have h8 : (l.take 8).length = 8 := by rw [List.length_take]; omega
        have := nb_val (l.take 8)
        rwa [h8] at this
      rw [this, List.take_append_drop]
  exact key _ l (by omega)
theorem pack_zeros {l : List Bool} {n : Nat} (h : (l.length + n + 7) / 8 = (l.length + 7) / 8) : pack (l ++ List.replicate n false) = pack l := by
  obtain ⟨a, r, rfl, ha, hr, hal, hrl⟩ := parts l
  rw [List.append_assoc, pack_append ha, pack_append ha]
  congr 1
  rw [List.length_append] at h hal hrl
  rcases Nat.eq_zero_or_pos r.length with h0 | h0
  · have : r = [] := List.eq_nil_of_length_eq_zero h0
    subst this
    have : n = 0 := by simp at h; omega
    subst this
    rfl
  · rw [pack_small (l := r) h0 (by omega), pack_small (by rw [List.length_append]; omega) (by rw [List.length_append, List.length_replicate]; omega), val_append, val_zeros]
    simp
/-- What is filled up to whole bytes. -/
def fill (l : List Bool) : List Bool := l ++ List.replicate (8 * ((l.length + 7) / 8) - l.length) false
theorem fill_length (l : List Bool) : (fill l).length = 8 * ((l.length + 7) / 8) := by
  unfold fill; rw [List.length_append, List.length_replicate]; omega
theorem unpack_pack (l : List Bool) : unpack (pack l) = fill l := by
  have h : pack (fill l) = pack l := pack_zeros (by omega)
  rw [← h, unpack_pack_aligned (by rw [fill_length]; omega)]
theorem pack_lt (l : List Bool) : ∀ b ∈ pack l, b < 256 := by
  have key : ∀ n (l : List Bool), ∀ b ∈ packN n l, b < 256 := by
    intro n
    induction n with
    | zero => intro l b hb; cases hb
    | succ n ih =>
      intro l b hb
      simp only [packN, List.mem_cons] at hb
      rcases hb with rfl | hb
      · have := val_lt (l.take 8)
        have h8 : 2 ^ (l.take 8).length ≤ 2 ^ 8 := Nat.pow_le_pow_right (by decide) (by rw [List.length_take]; omega)
        omega
      · exact ih _ b hb
  exact key _ l
/-- A bit more: a byte more, or the last one with it. -/
theorem pack_snoc_new {l : List Bool} (h : l.length % 8 = 0) (b : Bool) : pack (l ++ [b]) = pack l ++ [b.toNat] := by
  rw [pack_append h, pack_small (l := [b]) (by simp) (by simp)]
  simp [val]
theorem pack_snoc_old {l : List Bool} (h : l.length % 8 ≠ 0) (b : Bool) :
    ∃ x, (pack l)[l.length / 8]? = some x ∧ x < 2 ^ (l.length % 8) ∧ pack (l ++ [b]) = (pack l).set (l.length / 8) (x + b.toNat * 2 ^ (l.length % 8)) := by
  obtain ⟨a, r, hl, ha, hr, hal, hrl⟩ := parts l
  have hr0 : 0 < r.length := by omega
  have hpa : (pack a).length = l.length / 8 := by rw [pack_length]; omega
  have e1 : pack l = pack a ++ [val r] := by rw [hl, pack_append ha, pack_small hr0 (by omega)]
  have e2 : pack (l ++ [b]) = pack a ++ [val r + b.toNat * 2 ^ r.length] := by
    rw [hl, List.append_assoc, pack_append ha, pack_small (l := r ++ [b]) (by simp) (by simp; omega), val_append]
    simp [val, Nat.mul_comm]
  refine ⟨val r, ?_, ?_, ?_⟩
  · rw [e1, ← hpa]; simp
  · rw [← hrl]; exact val_lt r
  · rw [e1, e2, ← hpa, ← hrl]
    simp
end Go.Proofs.Ytlmpgihimbechaa.Bit
