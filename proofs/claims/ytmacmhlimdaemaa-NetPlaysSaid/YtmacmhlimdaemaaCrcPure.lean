import Derived.ProofKit
/- The register of CRC-32 as numbers: its step is linear and has no kernel below 2^32, so bytes that differ within 32 bits have another sum. -/
namespace Go.Proofs.Ytmacmhlimdaemaa.Crc

/-- one bit's step of the register -/
def stp (v : Nat) : Nat := if v % 2 = 1 then (v / 2) ^^^ 3988292384 else v / 2
def stpN : Nat → Nat → Nat
  | 0, v => v
  | n + 1, v => stpN n (stp v)

theorem stp_zero : stp 0 = 0 := by simp [stp]
theorem stp_xor (a b : Nat) : stp (a ^^^ b) = stp a ^^^ stp b := by
  unfold stp
  have hm : (a ^^^ b) % 2 = (a % 2) ^^^ (b % 2) := Nat.xor_mod_two_pow (n := 1)
  have hd : (a ^^^ b) / 2 = (a / 2) ^^^ (b / 2) := Nat.xor_div_two_pow (n := 1)
  rw [hm, hd]
  rcases Nat.mod_two_eq_zero_or_one a with ha | ha <;> rcases Nat.mod_two_eq_zero_or_one b with hb | hb
  · rw [ha, hb, if_neg (by decide), if_neg (by decide), if_neg (by decide)]
  · rw [ha, hb, if_pos (by decide), if_neg (by decide), if_pos (by decide), Nat.xor_assoc]
  · rw [ha, hb, if_pos (by decide), if_pos (by decide), if_neg (by decide), Nat.xor_assoc, Nat.xor_assoc, Nat.xor_comm (b / 2)]
  · rw [ha, hb, if_neg (by decide), if_pos (by decide), if_pos (by decide)]
    rw [Nat.xor_assoc, ← Nat.xor_assoc 3988292384, Nat.xor_comm 3988292384 (b / 2), Nat.xor_assoc (b / 2), Nat.xor_self, Nat.xor_zero]
theorem stp_two (x : Nat) : stp (2 * x) = x := by
  unfold stp
  rw [if_neg (by omega)]
  omega
theorem stp_lt {v : Nat} (h : v < 4294967296) : stp v < 4294967296 := by
  unfold stp
  split
  · exact Nat.xor_lt_two_pow (n := 32) (by omega) (by omega)
  · omega
theorem stp_ne {v : Nat} (h : v < 4294967296) (h0 : v ≠ 0) : stp v ≠ 0 := by
  unfold stp
  split
  · intro h1
    have h2 : v / 2 = 3988292384 := by
      have := congrArg (· ^^^ 3988292384) h1
      simpa [Nat.xor_assoc, Nat.xor_self] using this
    omega
  · omega


theorem stpN_xor (n : Nat) : ∀ a b, stpN n (a ^^^ b) = stpN n a ^^^ stpN n b := by
  induction n with
  | zero => intro a b; rfl
  | succ n ih => intro a b; simp only [stpN]; rw [stp_xor, ih]
theorem stpN_zero (n : Nat) : stpN n 0 = 0 := by
  induction n with
  | zero => rfl
  | succ n ih => simp only [stpN]; rw [stp_zero, ih]
theorem stpN_add (m n : Nat) : ∀ v, stpN (m + n) v = stpN n (stpN m v) := by
  induction m with
  | zero => intro v; simp [stpN]
  | succ m ih => intro v; rw [Nat.succ_add]; simp only [stpN]; exact ih _
theorem stpN_lt (n : Nat) : ∀ {v}, v < 4294967296 → stpN n v < 4294967296 := by
  induction n with
  | zero => intro v h; exact h
  | succ n ih => intro v h; exact ih (stp_lt h)
theorem stpN_ne (n : Nat) : ∀ {v}, v < 4294967296 → v ≠ 0 → stpN n v ≠ 0 := by
  induction n with
  | zero => intro v _ h; exact h
  | succ n ih => intro v h h0; exact ih (stp_lt h) (stp_ne h h0)
theorem stpN_shl (k : Nat) : ∀ x, stpN k (x <<< k) = x := by
  induction k with
  | zero => intro x; rfl
  | succ k ih =>
    intro x
    simp only [stpN]
    have : x <<< (k + 1) = 2 * (x <<< k) := by rw [Nat.shiftLeft_succ]
    rw [this, stp_two, ih]

theorem split8 (v : Nat) : v = ((v / 256) <<< 8) ^^^ (v % 256) := by
  apply Nat.eq_of_testBit_eq
  intro i
  rw [Nat.testBit_xor, Nat.testBit_shiftLeft, show (256 : Nat) = 2 ^ 8 from rfl, Nat.testBit_mod_two_pow, Nat.testBit_div_two_pow]
  by_cases h : i < 8
  · simp [h, show ¬ 8 ≤ i by omega]
  · simp [h, show 8 ≤ i by omega]
/-- what the table's row does is what eight steps do -/
theorem byte_step (v c : Nat) : stpN 8 (v ^^^ c) = (v / 256) ^^^ stpN 8 ((v % 256) ^^^ c) := by
  have h : v ^^^ c = ((v / 256) <<< 8) ^^^ ((v % 256) ^^^ c) := by
    rw [← Nat.xor_assoc, ← split8 v]
  rw [h, stpN_xor, stpN_shl]

theorem stpN_none (v : Nat) : stpN 0 v = v := rfl
theorem stpN_succ (n v : Nat) : stpN (n + 1) v = stp (stpN n v) := by rw [stpN_add]; rfl
attribute [irreducible] stpN
/-- the register behind bytes -/
def st : Nat → List Nat → Nat
  | v, [] => v
  | v, c :: l => st (stpN 8 (v ^^^ c)) l
/-- bytes as one number, the first one lowest -/
def num : List Nat → Nat
  | [] => 0
  | c :: l => c ^^^ (num l <<< 8)
theorem st_num (l : List Nat) : ∀ v, st v l = stpN (8 * l.length) (v ^^^ num l) := by
  induction l with
  | nil => intro v; show v = stpN 0 (v ^^^ 0); rw [stpN_none, Nat.xor_zero]
  | cons c l ih =>
    intro v
    show st (stpN 8 (v ^^^ c)) l = stpN (8 * (l.length + 1)) (v ^^^ (c ^^^ (num l <<< 8)))
    rw [ih, show 8 * (l.length + 1) = 8 + 8 * l.length by omega, stpN_add, ← Nat.xor_assoc, stpN_xor 8 (v ^^^ c), stpN_shl]
theorem st_append (l m : List Nat) : ∀ v, st v (l ++ m) = st (st v l) m := by
  induction l with
  | nil => intro v; rfl
  | cons c l ih => intro v; exact ih (stpN 8 (v ^^^ c))
theorem st_lt (l : List Nat) : ∀ {v}, v < 4294967296 → (∀ c ∈ l, c < 256) → st v l < 4294967296 := by
  induction l with
  | nil => intro v h _; exact h
  | cons c l ih =>
    intro v h hl
    show st (stpN 8 (v ^^^ c)) l < 4294967296
    refine ih (stpN_lt 8 (Nat.xor_lt_two_pow (n := 32) (by omega) ?_)) (fun c hc => hl c (List.mem_cons_of_mem _ hc))
    have := hl c List.mem_cons_self
    omega

/-- the sum of bytes -/
def sum (l : List Nat) : Nat := st 4294967295 l ^^^ 4294967295
theorem sum_lt (l : List Nat) (h : ∀ c ∈ l, c < 256) : sum l < 4294967296 :=
  Nat.xor_lt_two_pow (n := 32) (st_lt l (by omega) h) (by omega)

theorem xor_cancel (a b c : Nat) : (a ^^^ c) ^^^ (b ^^^ c) = a ^^^ b := by
  rw [Nat.xor_comm b c, Nat.xor_assoc, ← Nat.xor_assoc c, Nat.xor_self, Nat.zero_xor]
/-- of two rows of like length the sums part just where the register's steps of what they differ in is not 0 -/
theorem sum_xor {l m : List Nat} (h : l.length = m.length) : sum l ^^^ sum m = stpN (8 * l.length) (num l ^^^ num m) := by
  unfold sum
  rw [xor_cancel, st_num, st_num, ← h, ← stpN_xor]
  congr 1
  rw [Nat.xor_comm 4294967295, Nat.xor_comm 4294967295, xor_cancel]
theorem xor_eq_zero {a b : Nat} : a ^^^ b = 0 ↔ a = b := by
  constructor
  · intro h
    have := congrArg (· ^^^ b) h
    simpa [Nat.xor_assoc, Nat.xor_self] using this
  · rintro rfl; exact Nat.xor_self _
/-- THE BURST: what differs within 32 bits has another sum -/
theorem burst {l m : List Nat} (h : l.length = m.length) (p s : Nat) (hs : s ≤ 8 * l.length) (hp : p < 4294967296) (hx : num l ^^^ num m = p <<< s) :
    sum l = sum m ↔ p = 0 := by
  rw [← xor_eq_zero, sum_xor h, hx, show 8 * l.length = s + (8 * l.length - s) by omega, stpN_add, stpN_shl]
  constructor
  · intro h0
    by_cases hp0 : p = 0
    · exact hp0
    · exact absurd h0 (stpN_ne _ hp hp0)
  · rintro rfl
    exact stpN_zero _

theorem num_lt (l : List Nat) (h : ∀ c ∈ l, c < 256) : num l < 2 ^ (8 * l.length) := by
  induction l with
  | nil => simp [num]
  | cons c l ih =>
    have h1 := ih (fun c hc => h c (List.mem_cons_of_mem _ hc))
    have hc := h c List.mem_cons_self
    simp only [num, List.length_cons]
    refine Nat.xor_lt_two_pow ?_ ?_
    · refine Nat.lt_of_lt_of_le hc ?_
      exact Nat.pow_le_pow_right (n := 2) (by omega) (show 8 ≤ 8 * (l.length + 1) by omega)
    · rw [Nat.shiftLeft_eq, show 8 * (l.length + 1) = 8 * l.length + 8 by omega, Nat.pow_add]
      exact Nat.mul_lt_mul_of_pos_right h1 (by decide)
theorem num_append (l m : List Nat) : num (l ++ m) = num l ^^^ (num m <<< (8 * l.length)) := by
  induction l with
  | nil => simp [num]
  | cons c l ih =>
    simp only [List.cons_append, num, List.length_cons]
    rw [ih, Nat.shiftLeft_xor_distrib, Nat.xor_assoc, ← Nat.shiftLeft_add, show 8 * (l.length + 1) = 8 * l.length + 8 by omega]
/-- a bit turned -/
theorem num_set (l : List Nat) : ∀ (i x : Nat) (h : i < l.length), num (l.set i (l[i] ^^^ x)) = num l ^^^ (x <<< (8 * i)) := by
  induction l with
  | nil => intro i x h; simp at h
  | cons c l ih =>
    intro i x h
    cases i with
    | zero => simp only [List.set_cons_zero, num, List.getElem_cons_zero]; simp only [Nat.mul_zero, Nat.shiftLeft_zero]; rw [Nat.xor_assoc, Nat.xor_comm x, ← Nat.xor_assoc]
    | succ i =>
      simp only [List.length_cons] at h
      simp only [List.set_cons_succ, num, List.getElem_cons_succ]
      rw [ih i x (by omega), Nat.shiftLeft_xor_distrib, ← Nat.xor_assoc, ← Nat.shiftLeft_add, show 8 * i + 8 = 8 * (i + 1) by omega]

/-- a row and behind it the four bytes of its sum, the lowest first -/
theorem rest (l : List Nat) (h : ∀ c ∈ l, c < 256) (v : Nat) (hv : v = sum l) :
    sum (l ++ [v % 256, v / 256 % 256, v / 65536 % 256, v / 16777216 % 256]) = 0x2144df1c := by
  have hlt : v < 4294967296 := hv ▸ sum_lt l h
  have hn : num [v % 256, v / 256 % 256, v / 65536 % 256, v / 16777216 % 256] = v := by
    simp only [num]
    have e1 := split8 v
    have e2 := split8 (v / 256)
    have e3 := split8 (v / 65536)
    rw [Nat.div_div_eq_div_mul] at e2 e3
    have e4 : v / 16777216 % 256 = v / 16777216 := Nat.mod_eq_of_lt (by omega)
    rw [Nat.zero_shiftLeft, Nat.xor_zero, e4]
    rw [Nat.xor_comm (v / 65536 % 256), ← e3, Nat.xor_comm (v / 256 % 256), ← e2, Nat.xor_comm, ← e1]
  unfold sum
  rw [st_append, st_num _ (st _ _), hn, hv]
  unfold sum
  simp only [List.length_cons, List.length_nil]
  rw [← Nat.xor_assoc, Nat.xor_self, Nat.zero_xor]
  decide +kernel
end Go.Proofs.Ytmacmhlimdaemaa.Crc
