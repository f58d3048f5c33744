/- Packets as lists of numbers: what Write and Read say, of the program and of the reference alike. -/
import Derived.Test.YtmacmhlimdaemaaExtClone
import Derived.Laws.BitsAllLaws
import Derived.Lib.Strings
namespace Go.Proofs.Ytmacmhlimdaemaa.Pkt
open Go.RowKit Go.Proofs.Ytmacmhlimdaemaa.Ext Go.Proofs.Ytmacmhlimdaemaa.Crc Go.Proofs.YtmacmhlimdaemaaW.PrintWords
theorem w64 {x : Int} (h1 : -9223372036854775808 ≤ x) (h2 : x ≤ 9223372036854775807) : wrap64 x = x := by unfold wrap64; omega
theorem u64w (x : Int) (h1 : 0 ≤ x) (h2 : x < 18446744073709551616) : IntKind.u64.wrap x = x := by
  simp [IntKind.wrap, IntKind.bits, IntKind.signed]
  omega
/-- n bytes of a number, the highest first -/
def be : Nat → Nat → List Int
  | 0, _ => []
  | n + 1, v => ((v / 256 ^ n % 256 : Nat) : Int) :: be n v
def val (l : List Int) : Nat := l.foldl (fun a c => a * 256 + c.toNat) 0
theorem be_len (n v : Nat) : (be n v).length = n := by
  induction n with
  | zero => rfl
  | succ n ih => simp [be, ih]
theorem be_mem (n v : Nat) : ∀ x ∈ be n v, 0 ≤ x ∧ x < 256 := by
  induction n with
  | zero => intro x h; simp [be] at h
  | succ n ih =>
    intro x h
    simp only [be, List.mem_cons] at h
    rcases h with h | h
    · subst h; omega
    · exact ih x h
theorem be_snoc (n v : Nat) : be (n + 1) v = be n (v / 256) ++ [((v % 256 : Nat) : Int)] := by
  induction n generalizing v with
  | zero => simp [be]
  | succ n ih =>
    rw [be, ih]
    show _ = be (n + 1) (v / 256) ++ _
    rw [be]
    simp only [List.cons_append]
    rw [Nat.div_div_eq_div_mul, Nat.pow_succ, Nat.mul_comm 256]
theorem val_snoc (l : List Int) (c : Int) : val (l ++ [c]) = val l * 256 + c.toNat := by simp [val]
theorem val_be (n : Nat) : ∀ v, val (be n v) = v % 256 ^ n := by
  induction n with
  | zero => intro v; simp [be, val, Nat.mod_one]
  | succ n ih =>
    intro v
    rw [be_snoc, val_snoc, ih, Int.toNat_natCast, Nat.pow_succ, Nat.mul_comm (256 ^ n) 256, Nat.mod_mul]
    omega
theorem val_lt (l : List Int) (h : ∀ x ∈ l, 0 ≤ x ∧ x < 256) : val l < 256 ^ l.length := by
  obtain ⟨r, rfl⟩ : ∃ r, l = r.reverse := ⟨l.reverse, by simp⟩
  induction r with
  | nil => simp [val]
  | cons c r ih =>
    rw [List.reverse_cons, val_snoc, List.length_append, List.length_singleton, Nat.pow_succ]
    have h1 := ih (fun x hx => h x (by rw [List.reverse_cons]; exact List.mem_append_left _ hx))
    have h2 := h c (by simp)
    have : c.toNat < 256 := by omega
    omega
theorem val_inj : ∀ (n : Nat) (l m : List Int), l.length = n → m.length = n → (∀ x ∈ l, 0 ≤ x ∧ x < 256) → (∀ x ∈ m, 0 ≤ x ∧ x < 256) → val l = val m → l = m := by
  intro n
  induction n with
  | zero =>
    intro l m hl hm _ _ _
    rw [List.eq_nil_of_length_eq_zero hl, List.eq_nil_of_length_eq_zero hm]
  | succ n ih =>
    intro l m hl hm bl bm hv
    have hl0 : l ≠ [] := by intro h; subst h; simp at hl
    have hm0 : m ≠ [] := by intro h; subst h; simp at hm
    obtain ⟨l', a, rfl⟩ : ∃ l' a, l = l' ++ [a] := ⟨l.dropLast, l.getLast hl0, (List.dropLast_concat_getLast hl0).symm⟩
    obtain ⟨m', b, rfl⟩ : ∃ m' b, m = m' ++ [b] := ⟨m.dropLast, m.getLast hm0, (List.dropLast_concat_getLast hm0).symm⟩
    rw [val_snoc, val_snoc] at hv
    have ha := bl a (by simp)
    have hb := bm b (by simp)
    have h1 : val l' = val m' := by omega
    have h2 : a = b := by omega
    rw [h2, ih l' m' (by simp at hl; omega) (by simp at hm; omega) (fun x hx => bl x (by simp [hx])) (fun x hx => bm x (by simp [hx])) h1]
theorem take_snoc' (l : List Int) (i : Nat) (h : i < l.length) : l.take (i + 1) = l.take i ++ [l[i]] := by
  rw [List.take_succ_eq_append_getElem h]
theorem val_take_succ (l : List Int) (i : Nat) (h : i < l.length) : val (l.take (i + 1)) = val (l.take i) * 256 + (l[i]).toNat := by rw [take_snoc' l i h, val_snoc]
theorem val_take_lt (l : List Int) (hb : ∀ x ∈ l, 0 ≤ x ∧ x < 256) (i : Nat) (h : i ≤ l.length) : val (l.take i) < 256 ^ i := by
  have := val_lt (l.take i) (fun x hx => hb x (List.mem_of_mem_take hx))
  rwa [List.length_take, Nat.min_eq_left h] at this
theorem rd_at (l : List Int) (i : Nat) (h : i < l.length) : rd l (i : Int) = l[i] := by
  unfold rd
  rw [Int.toNat_natCast, List.getD_eq_getElem?_getD, List.getElem?_eq_getElem h, Option.getD_some]
theorem or_step (a c : Nat) (hc : c < 256) : a * 256 ||| c = a * 256 + c := by
  have := Nat.shiftLeft_add_eq_or_of_lt (i := 8) (b := c) hc a
  rw [Nat.shiftLeft_eq] at this
  exact this.symm
theorem okB_append {l m : List Int} (hl : ∀ x ∈ l, 0 ≤ x ∧ x < 256) (hm : ∀ x ∈ m, 0 ≤ x ∧ x < 256) : ∀ x ∈ l ++ m, 0 ≤ x ∧ x < 256 := fun x hx => (List.mem_append.1 hx).elim (hl x) (hm x)
/-- what a datagram's content is written as, behind the sum -/
def bodyS (e o a : Nat) (d : List Int) : List Int := be 4 e ++ be 8 o ++ be 8 a ++ d
def wrS (e o a : Nat) (d : List Int) : List Int := be 4 (sum (nat (bodyS e o a d))) ++ bodyS e o a d
def writeS (e o a : Nat) (d : List Int) : List Int × Int := if d.length > 256 then ([], 2) else (wrS e o a d, 0)
def readS (l : List Int) : Int × Int × Int × List Int × Int :=
  if l.length < 24 then (0, 0, 0, [], 211) else if l.length > 280 then (0, 0, 0, [], 2) else
    if sum (nat (l.drop 4)) = val (l.take 4) then ((val ((l.drop 4).take 4) : Nat), (val ((l.drop 8).take 8) : Nat), (val ((l.drop 16).take 8) : Nat), l.drop 24, 0) else (0, 0, 0, [], 210)
theorem bodyS_len (e o a : Nat) (d : List Int) : (bodyS e o a d).length = 20 + d.length := by simp [bodyS, be_len]; omega
theorem wrS_len (e o a : Nat) (d : List Int) : (wrS e o a d).length = 24 + d.length := by simp [wrS, be_len, bodyS_len]; omega
theorem bodyS_mem (e o a : Nat) (d : List Int) (hd : ∀ x ∈ d, 0 ≤ x ∧ x < 256) : ∀ x ∈ bodyS e o a d, 0 ≤ x ∧ x < 256 :=
  okB_append (okB_append (okB_append (be_mem _ _) (be_mem _ _)) (be_mem _ _)) hd
theorem wrS_mem (e o a : Nat) (d : List Int) (hd : ∀ x ∈ d, 0 ≤ x ∧ x < 256) : ∀ x ∈ wrS e o a d, 0 ≤ x ∧ x < 256 := okB_append (be_mem _ _) (bodyS_mem e o a d hd)
theorem okB_drop {l : List Int} (h : okB l = true) (n : Nat) : okB (l.drop n) = true := okB_mk (fun x hx => okB_mem h x (List.mem_of_mem_drop hx)) (by rw [List.length_drop]; have := okB_len h; omega)
theorem wrS_take (e o a : Nat) (d : List Int) : (wrS e o a d).take 4 = be 4 (sum (nat (bodyS e o a d))) := by
  unfold wrS
  rw [List.take_left' (be_len _ _)]
theorem wrS_drop (e o a : Nat) (d : List Int) : (wrS e o a d).drop 4 = bodyS e o a d := by
  unfold wrS
  rw [List.drop_left' (be_len _ _)]
theorem sum_val (e o a : Nat) (d : List Int) (hd : ∀ x ∈ d, 0 ≤ x ∧ x < 256) (hl : d.length ≤ 256) : val (be 4 (sum (nat (bodyS e o a d)))) = sum (nat (bodyS e o a d)) := by
  rw [val_be]
  refine Nat.mod_eq_of_lt (sum_lt _ (nat_lt (okB_mk (bodyS_mem e o a d hd) (by rw [bodyS_len]; omega))))
/-- what is written is read as it was -/
theorem back (e o a : Nat) (d : List Int) (he : e < 256 ^ 4) (ho : o < 256 ^ 8) (ha : a < 256 ^ 8) (hd : ∀ x ∈ d, 0 ≤ x ∧ x < 256) (hl : d.length ≤ 256) :
    readS (wrS e o a d) = ((e : Int), (o : Int), (a : Int), d, 0) := by
  unfold readS
  rw [if_neg (by rw [wrS_len]; omega), if_neg (by rw [wrS_len]; omega), wrS_drop, wrS_take, sum_val e o a d hd hl, if_pos rfl]
  have h4 : (wrS e o a d).drop 4 = be 4 e ++ (be 8 o ++ (be 8 a ++ d)) := by rw [wrS_drop]; simp [bodyS]
  have h8 : (wrS e o a d).drop 8 = be 8 o ++ (be 8 a ++ d) := by
    rw [show 8 = 4 + 4 from rfl, ← List.drop_drop, h4, List.drop_left' (be_len _ _)]
  have h16 : (wrS e o a d).drop 16 = be 8 a ++ d := by
    rw [show 16 = 8 + 8 from rfl, ← List.drop_drop, h8, List.drop_left' (be_len _ _)]
  have h24 : (wrS e o a d).drop 24 = d := by
    rw [show 24 = 16 + 8 from rfl, ← List.drop_drop, h16, List.drop_left' (be_len _ _)]
  have e4 : (bodyS e o a d).take 4 = be 4 e := by rw [← wrS_drop, h4, List.take_left' (be_len _ _)]
  rw [h8, h16, h24, e4, List.take_left' (be_len _ _), List.take_left' (be_len _ _), val_be, val_be, val_be, Nat.mod_eq_of_lt he, Nat.mod_eq_of_lt ho, Nat.mod_eq_of_lt ha]
/-- strings of bytes are the same just if the bytes are -/
theorem str_eq {l m : List Int} (hl : ∀ x ∈ l, 0 ≤ x ∧ x < 256) (hm : ∀ x ∈ m, 0 ≤ x ∧ x < 256) : (strOfNums l).toList = (strOfNums m).toList ↔ l = m := by
  constructor
  · intro h
    rw [Lib.toList_data, Lib.toList_data, strOfNums_data, strOfNums_data] at h
    have hlen : l.length = m.length := by simpa using congrArg List.length h
    apply List.ext_getElem hlen
    intro i h1 h2
    have h3 := congrArg (fun z => z[i]?) h
    simp only [List.getElem?_map, List.getElem?_eq_getElem h1, List.getElem?_eq_getElem h2, Option.map_some, Option.some.injEq] at h3
    have h4 := congrArg UInt8.toNat h3
    have b1 := hl _ (List.getElem_mem h1)
    have b2 := hm _ (List.getElem_mem h2)
    simp only [UInt8.toNat_ofNat'] at h4
    omega
  · rintro rfl; rfl
/-! what turned: within the sum, or behind it -/
theorem num_inj : ∀ (l m : List Nat), l.length = m.length → (∀ c ∈ l, c < 256) → (∀ c ∈ m, c < 256) → num l = num m → l = m := by
  intro l
  induction l with
  | nil => intro m h _ _ _; exact (List.eq_nil_of_length_eq_zero h.symm).symm
  | cons a l ih =>
    intro m h hl hm hn
    cases m with
    | nil => simp at h
    | cons b m =>
      simp only [num] at hn
      have ha := hl a (by simp)
      have hb := hm b (by simp)
      have key : ∀ (x y : Nat), x < 256 → (x ^^^ (y <<< 8)) % 256 = x ∧ (x ^^^ (y <<< 8)) / 256 = y := by
        intro x y hx
        have h1 : x ^^^ (y <<< 8) = y * 256 + x := by
          have := Nat.shiftLeft_add_eq_or_of_lt (i := 8) (b := x) hx y
          rw [Nat.shiftLeft_eq] at this ⊢
          show x ^^^ (y * 256) = _
          have h2 : y * 2 ^ 8 + x = y * 2 ^ 8 ||| x := this
          have h3 : x ^^^ (y * 2 ^ 8) = y * 2 ^ 8 ||| x := by
            apply Nat.eq_of_testBit_eq
            intro i
            rw [Nat.testBit_xor, Nat.testBit_or]
            by_cases hi : i < 8
            · have : (y * 2 ^ 8).testBit i = false := by rw [← Nat.shiftLeft_eq, Nat.testBit_shiftLeft]; simp; omega
              simp [this]
            · have : x.testBit i = false := Nat.testBit_lt_two_pow (Nat.lt_of_lt_of_le hx (Nat.pow_le_pow_right (n := 2) (by omega) (show 8 ≤ i by omega)))
              simp [this]
          rw [show y * 256 = y * 2 ^ 8 from rfl, h3, ← h2]
        rw [h1]
        omega
      have k1 := key a (num l) ha
      have k2 := key b (num m) hb
      rw [hn] at k1
      rw [show a = b by omega, ih m (by simpa using h) (fun c hc => hl c (by simp [hc])) (fun c hc => hm c (by simp [hc])) (by omega)]
theorem nat_inj {l m : List Int} (hl : ∀ x ∈ l, 0 ≤ x ∧ x < 256) (hm : ∀ x ∈ m, 0 ≤ x ∧ x < 256) (h : nat l = nat m) : l = m := by
  have hlen : l.length = m.length := by have := congrArg List.length h; simpa [nat] using this
  apply List.ext_getElem hlen
  intro i h1 h2
  have h3 := congrArg (fun z => z[i]?) h
  simp only [nat, List.getElem?_map, List.getElem?_eq_getElem h1, List.getElem?_eq_getElem h2, Option.map_some, Option.some.injEq] at h3
  have b1 := hl _ (List.getElem_mem h1)
  have b2 := hm _ (List.getElem_mem h2)
  omega
theorem nat_take (l : List Int) (n : Nat) : nat (l.take n) = (nat l).take n := by simp [nat, List.map_take]
theorem nat_drop (l : List Int) (n : Nat) : nat (l.drop n) = (nat l).drop n := by simp [nat, List.map_drop]
theorem num_split (l : List Int) (h : 4 ≤ l.length) : num (nat l) = num (nat (l.take 4)) ^^^ (num (nat (l.drop 4)) <<< 32) := by
  conv => lhs; rw [← List.take_append_drop 4 l]
  rw [show nat (l.take 4 ++ l.drop 4) = nat (l.take 4) ++ nat (l.drop 4) by simp [nat], num_append, nat_length, List.length_take, Nat.min_eq_left h]
theorem num4_lt (l : List Int) (hl : okB l = true) (h : 4 ≤ l.length) : num (nat (l.take 4)) < 4294967296 := by
  have := num_lt (nat (l.take 4)) (fun c hc => nat_lt hl c (by rw [nat_take] at hc; exact List.mem_of_mem_take hc))
  rwa [nat_length, List.length_take, Nat.min_eq_left h] at this
/-- two rows that differ by bits of which none lies on both sides of the sum's end: the one read as a packet (sum and value agree), the other isn't -/
theorem spoilt (b c : List Int) (hb : okB b = true) (hc : okB c = true) (hlen : c.length = b.length) (h24 : 24 ≤ b.length) (hrd : sum (nat (b.drop 4)) = val (b.take 4)) (p s : Nat) (hp : p < 4294967296) (hs : s ≤ 8 * b.length)
    (hx : num (nat b) ^^^ num (nat c) = p <<< s) (hside : s = 0 ∨ 32 ≤ s ∨ p <<< s < 4294967296) (hne : c ≠ b) : sum (nat (c.drop 4)) ≠ val (c.take 4) := by
  have key : num (nat b) ^^^ num (nat c) = (num (nat (b.take 4)) ^^^ num (nat (c.take 4))) ^^^ ((num (nat (b.drop 4)) ^^^ num (nat (c.drop 4))) <<< 32) := by
    rw [num_split b (by omega), num_split c (by omega), Nat.shiftLeft_xor_distrib]
    generalize num (nat (b.take 4)) = x1
    generalize num (nat (c.take 4)) = x2
    generalize num (nat (b.drop 4)) <<< 32 = x3
    generalize num (nat (c.drop 4)) <<< 32 = x4
    apply Nat.eq_of_testBit_eq
    intro i
    simp only [Nat.testBit_xor]
    cases x1.testBit i <;> cases x2.testBit i <;> cases x3.testBit i <;> cases x4.testBit i <;> rfl
  have l4 := Nat.xor_lt_two_pow (n := 32) (num4_lt b hb (by omega)) (num4_lt c hc (by omega))
  generalize hlo : num (nat (b.take 4)) ^^^ num (nat (c.take 4)) = lo at key l4
  generalize hhi : num (nat (b.drop 4)) ^^^ num (nat (c.drop 4)) = hi at key
  have parts : ∀ i, (p <<< s).testBit i = (if i < 32 then lo.testBit i else hi.testBit (i - 32)) := by
    intro i
    rw [← hx, key, Nat.testBit_xor, Nat.testBit_shiftLeft]
    by_cases h : i < 32
    · simp [h, show ¬ 32 ≤ i by omega]
    · have : lo.testBit i = false := Nat.testBit_lt_two_pow (Nat.lt_of_lt_of_le l4 (Nat.pow_le_pow_right (n := 2) (by omega) (show 32 ≤ i by omega)))
      simp [h, this, show 32 ≤ i by omega]
  have tb : ∀ x ∈ b.take 4, 0 ≤ x ∧ x < 256 := fun x hx => okB_mem hb x (List.mem_of_mem_take hx)
  have tc : ∀ x ∈ c.take 4, 0 ≤ x ∧ x < 256 := fun x hx => okB_mem hc x (List.mem_of_mem_take hx)
  have db := fun x (hx : x ∈ b.drop 4) => okB_mem hb x (List.mem_of_mem_drop hx)
  have dc := fun x (hx : x ∈ c.drop 4) => okB_mem hc x (List.mem_of_mem_drop hx)
  have lt4 : (b.take 4).length = 4 := by rw [List.length_take]; omega
  have lc4 : (c.take 4).length = 4 := by rw [List.length_take]; omega
  by_cases hside2 : 32 ≤ s
  · -- behind the sum
    have hlo0 : lo = 0 := by
      apply Nat.eq_of_testBit_eq
      intro i
      rw [Nat.zero_testBit]
      by_cases h : i < 32
      · have := parts i
        rw [if_pos h, Nat.testBit_shiftLeft] at this
        rw [← this]
        simp; omega
      · exact Nat.testBit_lt_two_pow (Nat.lt_of_lt_of_le l4 (Nat.pow_le_pow_right (n := 2) (by omega) (show 32 ≤ i by omega)))
    have htake : b.take 4 = c.take 4 := by
      refine nat_inj tb tc (num_inj _ _ (by rw [nat_length, nat_length, lt4, lc4]) (fun x hx => nat_lt hb x (by rw [nat_take] at hx; exact List.mem_of_mem_take hx)) (fun x hx => nat_lt hc x (by rw [nat_take] at hx; exact List.mem_of_mem_take hx)) ?_)
      rw [hlo0] at hlo
      exact xor_eq_zero.1 hlo
    have hhi2 : num (nat (b.drop 4)) ^^^ num (nat (c.drop 4)) = p <<< (s - 32) := by
      rw [hhi]
      apply Nat.eq_of_testBit_eq
      intro i
      have := parts (i + 32)
      rw [if_neg (by omega), show i + 32 - 32 = i by omega] at this
      rw [← this, Nat.testBit_shiftLeft, Nat.testBit_shiftLeft]
      rw [show i + 32 - s = i - (s - 32) by omega]
      congr 1
      simp only [ge_iff_le, decide_eq_decide]
      omega
    have hbu := burst (l := nat (b.drop 4)) (m := nat (c.drop 4)) (by simp [nat_length, hlen]) p (s - 32) (by simp [nat_length]; omega) hp hhi2
    intro hcv
    rw [← htake, ← hrd] at hcv
    have hp0 := hbu.1 hcv.symm
    rw [hp0, Nat.zero_shiftLeft] at hhi2
    have hd : b.drop 4 = c.drop 4 := nat_inj db dc (num_inj _ _ (by simp [nat_length, hlen]) (fun x hx => nat_lt hb x (by rw [nat_drop] at hx; exact List.mem_of_mem_drop hx)) (fun x hx => nat_lt hc x (by rw [nat_drop] at hx; exact List.mem_of_mem_drop hx)) (xor_eq_zero.1 hhi2))
    exact hne (by rw [← List.take_append_drop 4 c, ← List.take_append_drop 4 b, htake, hd])
  · -- within the sum
    have hsm : p <<< s < 4294967296 := by
      rcases hside with h | h | h
      · subst h; simpa using hp
      · omega
      · exact h
    have hhi0 : hi = 0 := by
      apply Nat.eq_of_testBit_eq
      intro i
      rw [Nat.zero_testBit]
      have := parts (i + 32)
      rw [if_neg (by omega), show i + 32 - 32 = i by omega] at this
      rw [← this]
      exact Nat.testBit_lt_two_pow (Nat.lt_of_lt_of_le hsm (Nat.pow_le_pow_right (n := 2) (by omega) (show 32 ≤ i + 32 by omega)))
    rw [hhi0] at hhi
    have hd : b.drop 4 = c.drop 4 := nat_inj db dc (num_inj _ _ (by simp [nat_length, hlen]) (fun x hx => nat_lt hb x (by rw [nat_drop] at hx; exact List.mem_of_mem_drop hx)) (fun x hx => nat_lt hc x (by rw [nat_drop] at hx; exact List.mem_of_mem_drop hx)) (xor_eq_zero.1 hhi))
    intro hcv
    rw [← hd, hrd] at hcv
    have := val_inj 4 _ _ lt4 lc4 tb tc hcv
    exact hne (by rw [← List.take_append_drop 4 c, ← List.take_append_drop 4 b, this, hd])
end Go.Proofs.Ytmacmhlimdaemaa.Pkt
