/-
  Plain mathematics of the record format: sums (CRC-32), numbers in bytes, records, manifests. No program in sight.
-/

set_option linter.unusedSimpArgs false
set_option linter.unusedVariables false
set_option linter.unnecessarySimpa false
namespace Go.Proofs.YtgpbhjjajpbeeaaGreatDoor
namespace Pl

/-- one bit of the sum -/
def crcBit (c : Nat) : Nat := (c / 2) ^^^ (if c % 2 = 1 then 3988292384 else 0)
def crcBits : Nat → Nat → Nat
  | 0, c => c
  | n + 1, c => crcBits n (crcBit c)
def crcByte (c : Nat) (b : UInt8) : Nat := crcBits 8 (c ^^^ b.toNat)
def crcFold (c : Nat) (l : List UInt8) : Nat := l.foldl crcByte c
def crc (l : List UInt8) : Nat := crcFold 4294967295 l ^^^ 4294967295

theorem xor_lt {a b : Nat} (ha : a < 4294967296) (hb : b < 4294967296) : a ^^^ b < 4294967296 :=
  Nat.xor_lt_two_pow (n := 32) ha hb
theorem crcBit_lt {c : Nat} (h : c < 4294967296) : crcBit c < 4294967296 := by
  unfold crcBit; split <;> exact xor_lt (by omega) (by omega)
theorem crcBits_lt (n : Nat) : ∀ {c : Nat}, c < 4294967296 → crcBits n c < 4294967296 := by
  induction n with
  | zero => intro c h; exact h
  | succ n ih => intro c h; exact ih (crcBit_lt h)
theorem crcBits_snoc (n : Nat) : ∀ c : Nat, crcBits (n + 1) c = crcBit (crcBits n c) := by
  induction n with
  | zero => intro c; rfl
  | succ n ih => intro c; exact ih (crcBit c)
theorem crcByte_lt {c : Nat} (h : c < 4294967296) (b : UInt8) : crcByte c b < 4294967296 :=
  crcBits_lt 8 (xor_lt h (by have := b.toNat_lt; omega))
theorem crcFold_lt (l : List UInt8) : ∀ {c : Nat}, c < 4294967296 → crcFold c l < 4294967296 := by
  induction l with
  | nil => intro c h; exact h
  | cons b l ih => intro c h; exact ih (crcByte_lt h b)
theorem crc_lt (l : List UInt8) : crc l < 4294967296 := xor_lt (crcFold_lt l (by omega)) (by omega)
theorem crcFold_snoc (c : Nat) (l : List UInt8) (b : UInt8) : crcFold c (l ++ [b]) = crcByte (crcFold c l) b := by
  simp [crcFold]
theorem take_snoc {α : Type} (l : List α) (k : Nat) (h : k < l.length) : l.take (k + 1) = l.take k ++ [l[k]] := by
  rw [List.take_succ_eq_append_getElem h]

/-- a number in k bytes, the highest first -/
def be (n : Nat) : Nat → List UInt8
  | 0 => []
  | k + 1 => UInt8.ofNat (n / 256 ^ k) :: be n k
theorem be_length (n k : Nat) : (be n k).length = k := by
  induction k with
  | zero => rfl
  | succ k ih => simp [be, ih]
theorem u8_wrap (n j : Nat) : ((n : Int) / 2 ^ (8 * (j : Int)).toNat) % 256 = ((UInt8.ofNat (n / 256 ^ j)).toNat : Int) := by
  have h1 : (8 * (j : Int)).toNat = 8 * j := by omega
  have h2 : (2 : Nat) ^ (8 * j) = 256 ^ j := by rw [Nat.pow_mul]
  rw [h1, show ((2 : Int) ^ (8 * j)) = ((2 ^ (8 * j) : Nat) : Int) by push_cast; rfl, h2]
  simp
/-- a record in bytes, behind its sum -/
def body (seq : Nat) (k v : List UInt8) (d : Bool) : List UInt8 := be seq 8 ++ be (if d then 1 else 0) 1 ++ be k.length 1 ++ be v.length 2 ++ k ++ v
/-- what is put behind its own sum -/
def summed (l : List UInt8) : List UInt8 := be (crc l) 4 ++ l
/-- which error: 1 the key, 2 the value -/
def badRec (k v : List UInt8) (d : Bool) : Nat := if k.length < 1 ∨ 16 < k.length then 1 else if 64 < v.length ∨ (d = true ∧ v ≠ []) then 2 else 0
theorem be_mod (n m k : Nat) (hk : k ≤ m) : be n k = be (n % 256 ^ m) k := by
  induction k with
  | zero => rfl
  | succ k ih =>
    rw [be, be, ← ih (by omega)]
    congr 1
    have e : (256 : Nat) ^ m = 256 ^ k * 256 ^ (m - k) := by rw [← Nat.pow_add]; congr 1; omega
    have hd : n % 256 ^ m / 256 ^ k = n / 256 ^ k % 256 ^ (m - k) := by rw [e, Nat.mod_mul_right_div_self]
    have h2 : (256 : Nat) ^ (m - k) = 256 * 256 ^ (m - k - 1) := by rw [← Nat.pow_succ']; congr 1; omega
    rw [hd, h2]
    apply UInt8.toNat_inj.1
    simp [Nat.mod_mul_right_mod]
/-- the number that bytes are -/
def num (l : List UInt8) : Nat := l.foldl (fun n b => n * 256 + b.toNat) 0
theorem num_snoc (l : List UInt8) (b : UInt8) : num (l ++ [b]) = num l * 256 + b.toNat := by simp [num]
theorem num_from (l : List UInt8) : ∀ n, l.foldl (fun n b => n * 256 + b.toNat) n = n * 256 ^ l.length + num l := by
  induction l with
  | nil => intro n; simp [num]
  | cons b l ih =>
    intro n
    simp only [List.foldl_cons, num]
    rw [ih, ih (0 * 256 + b.toNat)]
    simp only [List.length_cons, Nat.pow_succ]
    rw [Nat.add_mul, Nat.zero_mul, Nat.zero_add, Nat.add_assoc, Nat.mul_assoc, Nat.mul_comm 256]
theorem num_cons (b : UInt8) (l : List UInt8) : num (b :: l) = b.toNat * 256 ^ l.length + num l := by
  have := num_from l (0 * 256 + b.toNat)
  simpa [num] using this
theorem num_lt (l : List UInt8) : num l < 256 ^ l.length := by
  induction l with
  | nil => simp [num]
  | cons b l ih =>
    rw [num_cons, List.length_cons, Nat.pow_succ]
    have := b.toNat_lt
    have h1 : b.toNat * 256 ^ l.length ≤ 255 * 256 ^ l.length := Nat.mul_le_mul_right _ (by omega)
    omega
theorem num_be (n k : Nat) (h : n < 256 ^ k) : num (be n k) = n := by
  induction k generalizing n with
  | zero => simp at h; simp [be, num, h]
  | succ k ih =>
    rw [be, num_cons, be_length]
    have hp : 0 < 256 ^ k := Nat.pow_pos (by omega)
    have h1 : n / 256 ^ k < 256 := by rw [Nat.div_lt_iff_lt_mul hp, Nat.mul_comm, ← Nat.pow_succ]; exact h
    have h2 : (UInt8.ofNat (n / 256 ^ k)).toNat = n / 256 ^ k := by simp; omega
    have h3 : be n k = be (n % 256 ^ k) k := be_mod n k k (Nat.le_refl _)
    rw [h2, h3, ih _ (Nat.mod_lt _ hp)]
    exact Nat.div_add_mod' n (256 ^ k)
theorem u8_wrap' (n j : Nat) : ((n : Int) / 2 ^ (8 * j)) % 256 = ((UInt8.ofNat (n / 256 ^ j)).toNat : Int) := by
  have := u8_wrap n j
  rw [show (8 * (j : Int)).toNat = 8 * j by omega] at this; exact this
/-- a record that was read -/
structure Rec where
  seq : Nat
  key : List UInt8
  val : List UInt8
  del : Bool
  size : Nat
/-- how many bytes the head tells -/
def klen (l : List UInt8) : Nat := num ((l.drop 13).take 1)
def vlen (l : List UInt8) : Nat := num ((l.drop 14).take 2)
def flagOf (l : List UInt8) : Nat := num ((l.drop 12).take 1)
/-- is there a record at the front? -/
def good (l : List UInt8) : Bool :=
  decide (16 + klen l + vlen l ≤ l.length) && (decide (flagOf l ≤ 1) && (decide (1 ≤ klen l) && (decide (klen l ≤ 16) && (decide (vlen l ≤ 64) && (!(decide (flagOf l = 1) && decide (0 < vlen l)) &&
    decide (crc ((l.take (16 + klen l + vlen l)).drop 4) = num (l.take 4)))))))
def dec (l : List UInt8) : Option Rec :=
  if good l = true then some ⟨num ((l.drop 4).take 8), (l.drop 16).take (klen l), (l.drop (16 + klen l)).take (vlen l), decide (flagOf l = 1), 16 + klen l + vlen l⟩ else none
/-- the Reader as a function: a number -/
def rdN (s : List UInt8 × Bool) (n : Nat) : Nat × (List UInt8 × Bool) :=
  if s.2 = true ∨ s.1.length < n then (0, (s.1, true)) else (num (s.1.take n), (s.1.drop n, false))
/-- .. a text -/
def rdT (s : List UInt8 × Bool) (n : Nat) : List UInt8 × (List UInt8 × Bool) :=
  if s.2 = true ∨ s.1.length < n then ([], (s.1, true)) else (s.1.take n, (s.1.drop n, false))
theorem rdN_bad (x : List UInt8) (n : Nat) : rdN (x, true) n = (0, (x, true)) := by simp [rdN]
theorem rdT_bad (x : List UInt8) (n : Nat) : rdT (x, true) n = ([], (x, true)) := by simp [rdT]
theorem rdN_short {x : List UInt8} {n : Nat} (h : x.length < n) : rdN (x, false) n = (0, (x, true)) := by simp [rdN, h]
theorem rdT_short {x : List UInt8} {n : Nat} (h : x.length < n) : rdT (x, false) n = ([], (x, true)) := by simp [rdT, h]
theorem rdN_ok {x : List UInt8} {n : Nat} (h : n ≤ x.length) : rdN (x, false) n = (num (x.take n), (x.drop n, false)) := by
  have : ¬ x.length < n := by omega
  simp [rdN, this]
theorem rdT_ok {x : List UInt8} {n : Nat} (h : n ≤ x.length) : rdT (x, false) n = (x.take n, (x.drop n, false)) := by
  have : ¬ x.length < n := by omega
  simp [rdT, this]
theorem num_take_lt (l : List UInt8) (k : Nat) : num (l.take k) < 256 ^ k :=
  Nat.lt_of_lt_of_le (num_lt _) (Nat.pow_le_pow_right (by omega) (by rw [List.length_take]; omega))
/-- all that record.Decode reads -/
theorem rd_all {l : List UInt8} {m1 m2 fl k v : Nat} {key val : List UInt8} {s1 s2 s3 s4 s5 s6 s7 : List UInt8 × Bool}
    (e1 : (m1, s1) = rdN (l, false) 4) (e2 : (m2, s2) = rdN s1 8) (e3 : (fl, s3) = rdN s2 1) (e4 : (k, s4) = rdN s3 1) (e5 : (v, s5) = rdN s4 2) (e6 : (key, s6) = rdT s5 k) (e7 : (val, s7) = rdT s6 v) :
    k < 256 ∧ v < 65536 ∧ ((s7.2 = true ∧ l.length < 16 + klen l + vlen l) ∨ (s7.2 = false ∧ 16 + klen l + vlen l ≤ l.length ∧ m1 = num (l.take 4) ∧ m2 = num ((l.drop 4).take 8) ∧ fl = flagOf l ∧ k = klen l ∧ v = vlen l ∧
      key = (l.drop 16).take k ∧ val = (l.drop (16 + k)).take v)) := by
  have bad7 : ∀ {x : List UInt8}, s5 = (x, true) → k < 256 → v < 65536 → l.length < 16 → k < 256 ∧ v < 65536 ∧ ((s7.2 = true ∧ l.length < 16 + klen l + vlen l) ∨ (s7.2 = false ∧ 16 + klen l + vlen l ≤ l.length ∧ m1 = num (l.take 4) ∧ m2 = num ((l.drop 4).take 8) ∧ fl = flagOf l ∧ k = klen l ∧ v = vlen l ∧
      key = (l.drop 16).take k ∧ val = (l.drop (16 + k)).take v)) := by
    intro x hx hk hv hl
    subst hx
    rw [rdT_bad] at e6; injection e6 with _ e6; subst e6
    rw [rdT_bad] at e7; injection e7 with _ e7; subst e7
    exact ⟨hk, hv, .inl ⟨rfl, by omega⟩⟩
  by_cases h4 : l.length < 4
  · rw [rdN_short h4] at e1; injection e1 with _ e1; subst e1
    rw [rdN_bad] at e2; injection e2 with _ e2; subst e2
    rw [rdN_bad] at e3; injection e3 with _ e3; subst e3
    rw [rdN_bad] at e4; injection e4 with e4' e4; subst e4; subst e4'
    rw [rdN_bad] at e5; injection e5 with e5' e5; subst e5'
    exact bad7 e5 (by omega) (by omega) (by omega)
  rw [rdN_ok (by omega)] at e1; injection e1 with f1 e1; subst e1
  by_cases h12 : l.length < 12
  · rw [rdN_short (by simp; omega)] at e2; injection e2 with _ e2; subst e2
    rw [rdN_bad] at e3; injection e3 with _ e3; subst e3
    rw [rdN_bad] at e4; injection e4 with e4' e4; subst e4; subst e4'
    rw [rdN_bad] at e5; injection e5 with e5' e5; subst e5'
    exact bad7 e5 (by omega) (by omega) (by omega)
  rw [rdN_ok (by simp; omega)] at e2; injection e2 with f2 e2; subst e2
  by_cases h13 : l.length < 13
  · rw [rdN_short (by simp; omega)] at e3; injection e3 with _ e3; subst e3
    rw [rdN_bad] at e4; injection e4 with e4' e4; subst e4; subst e4'
    rw [rdN_bad] at e5; injection e5 with e5' e5; subst e5'
    exact bad7 e5 (by omega) (by omega) (by omega)
  rw [rdN_ok (by simp; omega)] at e3; injection e3 with f3 e3; subst e3
  by_cases h14 : l.length < 14
  · rw [rdN_short (by simp; omega)] at e4; injection e4 with e4' e4; subst e4; subst e4'
    rw [rdN_bad] at e5; injection e5 with e5' e5; subst e5'
    exact bad7 e5 (by omega) (by omega) (by omega)
  rw [rdN_ok (by simp; omega)] at e4; injection e4 with f4 e4; subst e4
  have hk : k < 256 := by rw [f4]; exact num_take_lt _ 1
  by_cases h16 : l.length < 16
  · rw [rdN_short (by simp; omega)] at e5; injection e5 with e5' e5; subst e5'
    exact bad7 e5 hk (by omega) (by omega)
  rw [rdN_ok (by simp; omega)] at e5; injection e5 with f5 e5; subst e5
  have hv : v < 65536 := by rw [f5]; exact num_take_lt _ 2
  simp only [List.drop_drop, Nat.reduceAdd] at *
  have gk : k = klen l := f4
  have gv : v = vlen l := f5
  refine ⟨hk, hv, ?_⟩
  by_cases hk2 : l.length < 16 + k
  · rw [rdT_short (by simp; omega)] at e6; injection e6 with _ e6; subst e6
    rw [rdT_bad] at e7; injection e7 with _ e7; subst e7
    exact .inl ⟨rfl, by omega⟩
  rw [rdT_ok (by simp; omega)] at e6; injection e6 with f6 e6; subst e6
  by_cases hv2 : l.length < 16 + k + v
  · rw [rdT_short (by simp; omega)] at e7; injection e7 with _ e7; subst e7
    exact .inl ⟨rfl, by omega⟩
  rw [rdT_ok (by simp; omega)] at e7; injection e7 with f7 e7; subst e7
  exact .inr ⟨rfl, by omega, f1, f2, f3, gk, gv, f6, by rw [f7, List.drop_drop]⟩
theorem u8_lt (b : UInt8) : b.toNat < 256 := b.toNat_lt
end Pl
end Go.Proofs.YtgpbhjjajpbeeaaGreatDoor
