/- Adler-32 as plain steps on numbers, and what holds of it. No program in sight. -/
namespace Go.Proofs.Ythngbhjlikbbmaa.Adler

def M : Nat := 65521
def ad : Nat → Nat → List Nat → Nat × Nat
  | a, b, [] => (a, b)
  | a, b, c :: t => ad ((a + c) % 65521) ((b + (a + c) % 65521) % 65521) t
def S : List Nat → Nat
  | [] => 0
  | c :: t => c + S t
def W : List Nat → Nat
  | [] => 0
  | c :: t => (t.length + 1) * c + W t
def adler (t : List Nat) : Nat := (ad 1 0 t).2 * 65536 + (ad 1 0 t).1

theorem S_append (s t : List Nat) : S (s ++ t) = S s + S t := by
  induction s with
  | nil => simp [S]
  | cons c s ih => simp only [List.cons_append, S, ih]; omega
theorem W_append (s t : List Nat) : W (s ++ t) = W s + t.length * S s + W t := by
  induction s with
  | nil => simp [W, S]
  | cons c s ih => simp only [List.cons_append, W, S, ih, List.length_append]; grind
theorem mod_step (b n a c w : Nat) : ((b + (a + c) % 65521) % 65521 + n * ((a + c) % 65521) + w) % 65521 = (b + (n + 1) * a + ((n + 1) * c + w)) % 65521 := by
  have h : n * ((a + c) % 65521) % 65521 = n * (a + c) % 65521 := by rw [Nat.mul_mod, Nat.mod_mod, ← Nat.mul_mod]
  have e : b + (n + 1) * a + ((n + 1) * c + w) = b + (a + c) + n * (a + c) + w := by grind
  rw [e]
  generalize n * ((a + c) % 65521) = x at h ⊢
  generalize n * (a + c) = y at h ⊢
  omega
theorem ad_eq (t : List Nat) : ∀ a b : Nat, a < 65521 → b < 65521 → ad a b t = ((a + S t) % 65521, (b + t.length * a + W t) % 65521) := by
  induction t with
  | nil => intro a b ha hb; simp [ad, S, W, Nat.mod_eq_of_lt ha, Nat.mod_eq_of_lt hb]
  | cons c t ih =>
    intro a b ha hb
    rw [ad, ih _ _ (Nat.mod_lt _ (by decide)) (Nat.mod_lt _ (by decide))]
    simp only [S, W, List.length_cons]
    refine Prod.ext ?_ ?_
    · simp only []; omega
    · simp only []; exact mod_step b t.length a c (W t)
theorem ad_lt (t : List Nat) : (ad 1 0 t).1 < 65521 ∧ (ad 1 0 t).2 < 65521 := by
  rw [ad_eq t 1 0 (by decide) (by decide)]
  exact ⟨Nat.mod_lt _ (by decide), Nat.mod_lt _ (by decide)⟩
theorem ad_append (s t : List Nat) : ∀ a b : Nat, ad a b (s ++ t) = ad (ad a b s).1 (ad a b s).2 t := by
  induction s with
  | nil => intro a b; rfl
  | cons c s ih => intro a b; simp only [List.cons_append, ad]; exact ih _ _
/-- The halves of two sums and a length: the halves of both. -/
def jo (x p y q n : Nat) : Nat := (p + q + n * (x + 65520)) % 65521 * 65536 + (x + y + 65520) % 65521
theorem jo_aux (a b c d m n x y : Nat) (h : x % 65521 = y % 65521) :
    ((0 + m * 1 + c) % 65521 + (0 + n * 1 + d) % 65521 + x) % 65521 * 65536 + ((1 + a) % 65521 + (1 + b) % 65521 + 65520) % 65521 =
    (0 + (m + n) * 1 + (c + y + d)) % 65521 * 65536 + (1 + (a + b)) % 65521 := by
  have h1 : ((0 + m * 1 + c) % 65521 + (0 + n * 1 + d) % 65521 + x) % 65521 = (0 + (m + n) * 1 + (c + y + d)) % 65521 := by omega
  have h2 : ((1 + a) % 65521 + (1 + b) % 65521 + 65520) % 65521 = (1 + (a + b)) % 65521 := by omega
  rw [h1, h2]
theorem join_adler (s t : List Nat) : jo (ad 1 0 s).1 (ad 1 0 s).2 (ad 1 0 t).1 (ad 1 0 t).2 t.length = adler (s ++ t) := by
  unfold jo adler
  rw [ad_eq s 1 0 (by decide) (by decide), ad_eq t 1 0 (by decide) (by decide), ad_eq (s ++ t) 1 0 (by decide) (by decide), S_append, W_append, List.length_append]
  simp only []
  have h : t.length * ((1 + S s) % 65521 + 65520) % 65521 = t.length * S s % 65521 := by
    rw [Nat.mul_mod, show ((1 + S s) % 65521 + 65520) % 65521 = S s % 65521 by omega, ← Nat.mul_mod]
  exact jo_aux (S s) (S t) (W s) (W t) s.length t.length _ _ h
theorem adler_halves (t : List Nat) : adler t % 65536 = (ad 1 0 t).1 ∧ adler t / 65536 = (ad 1 0 t).2 ∧ adler t < 4294967296 := by
  have := ad_lt t
  unfold adler
  omega
theorem adler_snoc (t : List Nat) (c : Nat) : adler (t ++ [c]) % 65536 = (adler t % 65536 + c) % 65521 ∧ adler (t ++ [c]) / 65536 = (adler t / 65536 + (adler t % 65536 + c) % 65521) % 65521 := by
  have h1 := adler_halves t
  have h2 := adler_halves (t ++ [c])
  have e := ad_append t [c] 1 0
  simp only [ad] at e
  rw [h1.1, h1.2.1, h2.1, h2.2.1, e]
  exact ⟨rfl, rfl⟩
theorem adler_nil : adler [] = 1 := rfl
theorem adler_word : adler [87, 105, 107, 105, 112, 101, 100, 105, 97] = 300286872 := by decide +kernel
end Go.Proofs.Ythngbhjlikbbmaa.Adler
