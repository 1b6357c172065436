/-
  Plain mathematics of a manifest's bytes, read. No program in sight.
-/
import Derived.Test.YtgpbhjjajpbeeaaDoorMan
namespace Go.Proofs.YtgpbhjjajpbeeaaDoor
open Go.RowKit Go.Lib Pl

/-- how many numbers the head tells -/
def cnt (l : List UInt8) : Nat := num ((l.drop 12).take 2)
def idAt (l : List UInt8) (i : Nat) : Nat := num ((l.drop (14 + 4 * i)).take 4)
def idsTo (l : List UInt8) (k : Nat) : List Int := (List.range k).map fun i => (idAt l i : Int)
def manGood (l : List UInt8) : Bool :=
  decide (14 ≤ l.length) && (decide (l.length = 14 + 4 * cnt l) && (decide (crc (l.drop 4) = num (l.take 4)) && idsOK (idsTo l (cnt l))))
def readMan (l : List UInt8) : Option (Nat × List Int) :=
  if manGood l = true then some (num ((l.drop 4).take 8), idsTo l (cnt l)) else none
theorem idsTo_snoc (l : List UInt8) (k : Nat) : idsTo l (k + 1) = idsTo l k ++ [(idAt l k : Int)] := by simp [idsTo, List.range_succ]
theorem idsTo_length (l : List UInt8) (k : Nat) : (idsTo l k).length = k := by simp [idsTo]
theorem idAt_lt (l : List UInt8) (k : Nat) : idAt l k < 4294967296 := num_take_lt _ 4
theorem cnt_lt (l : List UInt8) : cnt l < 65536 := num_take_lt _ 2
theorem idsTo_small (l : List UInt8) (k : Nat) : ∀ n ∈ idsTo l k, 0 ≤ n ∧ n < 4294967296 := by
  intro n hn
  obtain ⟨i, _, rfl⟩ := List.mem_map.1 hn
  have := idAt_lt l i
  omega
theorem wf_small {n : Int} (h : 0 ≤ n ∧ n < 4294967296) : (Lit.int .i64 n).wf = true := by
  simp only [Lit.wf, Bool.and_eq_true, decide_eq_true_eq]
  refine ⟨?_, ?_⟩
  · show (-9223372036854775808 : Int) ≤ n; omega
  · show n ≤ (9223372036854775807 : Int); omega
theorem readMan_none {l : List UInt8} (h : manGood l = false) : readMan l = none := by unfold readMan; rw [h]; rfl
theorem manGood_len {l : List UInt8} (h : l.length < 14 ∨ l.length ≠ 14 + 4 * cnt l) : manGood l = false := by
  unfold manGood
  rcases h with h | h
  · rw [decide_eq_false (show ¬ 14 ≤ l.length by omega)]; rfl
  · rw [decide_eq_false h]; simp
theorem manGood_crc {l : List UInt8} (h : crc (l.drop 4) ≠ num (l.take 4)) : manGood l = false := by
  unfold manGood; rw [decide_eq_false h]; simp
theorem manGood_ids {l : List UInt8} (h : idsOK (idsTo l (cnt l)) = false) : manGood l = false := by
  unfold manGood; rw [h]; simp
theorem readMan_some {l : List UInt8} (h1 : 14 ≤ l.length) (h2 : l.length = 14 + 4 * cnt l) (h3 : crc (l.drop 4) = num (l.take 4)) (h4 : idsOK (idsTo l (cnt l)) = true) :
    readMan l = some (num ((l.drop 4).take 8), idsTo l (cnt l)) := by
  unfold readMan manGood
  rw [decide_eq_true h1, decide_eq_true h2, decide_eq_true h3, h4]; rfl
/-- what the head's three reads give -/
theorem rd3 {l : List UInt8} {m g n : Nat} {s1 s2 s3 : List UInt8 × Bool} (e1 : (m, s1) = rdN (l, false) 4) (e2 : (g, s2) = rdN s1 8) (e3 : (n, s3) = rdN s2 2) :
    n < 65536 ∧ ((l.length < 14 ∧ n = 0 ∧ s3.2 = true) ∨ (14 ≤ l.length ∧ s3 = (l.drop 14, false) ∧ m = num (l.take 4) ∧ g = num ((l.drop 4).take 8) ∧ n = cnt l)) := by
  by_cases h4 : l.length < 4
  · rw [rdN_short h4] at e1; injection e1 with _ e1; subst e1
    rw [rdN_bad] at e2; injection e2 with _ e2; subst e2
    rw [rdN_bad] at e3; injection e3 with e3' e3; subst e3; subst e3'
    exact ⟨by omega, .inl ⟨by omega, rfl, rfl⟩⟩
  rw [rdN_ok (by omega)] at e1; injection e1 with f1 e1; subst e1
  by_cases h12 : l.length < 12
  · rw [rdN_short (by simp; omega)] at e2; injection e2 with _ e2; subst e2
    rw [rdN_bad] at e3; injection e3 with e3' e3; subst e3; subst e3'
    exact ⟨by omega, .inl ⟨by omega, rfl, rfl⟩⟩
  rw [rdN_ok (by simp; omega)] at e2; injection e2 with f2 e2; subst e2
  by_cases h14 : l.length < 14
  · rw [rdN_short (by simp; omega)] at e3; injection e3 with e3' e3; subst e3; subst e3'
    exact ⟨by omega, .inl ⟨by omega, rfl, rfl⟩⟩
  rw [rdN_ok (by simp; omega)] at e3; injection e3 with e3' e3
  simp only [List.drop_drop, Nat.reduceAdd] at *
  refine ⟨?_, .inr ⟨by omega, e3, f1, f2, e3'⟩⟩
  rw [e3']; exact num_take_lt _ 2
/-- where the reading of the numbers stands behind k of them -/
def Upto (l : List UInt8) (k : Nat) (s : List UInt8 × Bool) (L : List Int) : Prop :=
  (s = (l.drop (14 + 4 * k), false) ∧ 14 + 4 * k ≤ l.length ∧ L = idsTo l k) ∨ (s.2 = true ∧ (l.length < 14 ∨ l.length < 14 + 4 * cnt l))
theorem Upto.step {l : List UInt8} {k x : Nat} {s s' : List UInt8 × Bool} {L : List Int} (h : Upto l k s L) (hb : s.2 = false) (hk : k < cnt l) (e : (x, s') = rdN s 4) : x < 4294967296 ∧ Upto l (k + 1) s' (L ++ [(x : Int)]) := by
  rcases h with ⟨rfl, hl, rfl⟩ | ⟨h, _⟩
  · by_cases h4 : l.length < 14 + 4 * k + 4
    · rw [rdN_short (by simp; omega)] at e; injection e with e1 e2; subst e1; subst e2
      exact ⟨by omega, .inr ⟨rfl, .inr (by omega)⟩⟩
    · rw [rdN_ok (by simp; omega)] at e; injection e with e1 e2; subst e1; subst e2
      refine ⟨num_take_lt _ 4, .inl ⟨?_, by omega, ?_⟩⟩
      · rw [List.drop_drop]; congr 2
      · rw [idsTo_snoc]; rfl
  · rw [h] at hb; cases hb
theorem Upto.all {l : List UInt8} {s : List UInt8 × Bool} {L : List Int} (h : Upto l (cnt l) s L) (hb : s.2 = false) : s.1 = l.drop (14 + 4 * cnt l) ∧ 14 + 4 * cnt l ≤ l.length ∧ L = idsTo l (cnt l) := by
  rcases h with ⟨rfl, h1, h2⟩ | ⟨h, _⟩
  · exact ⟨rfl, h1, h2⟩
  · rw [h] at hb; cases hb
theorem Upto.bad {l : List UInt8} {k : Nat} {s : List UInt8 × Bool} {L : List Int} (h : Upto l k s L) (hb : s.2 = true) : manGood l = false := by
  rcases h with ⟨rfl, _⟩ | ⟨_, h⟩
  · cases hb
  · exact manGood_len (by omega)
end Go.Proofs.YtgpbhjjajpbeeaaDoor
