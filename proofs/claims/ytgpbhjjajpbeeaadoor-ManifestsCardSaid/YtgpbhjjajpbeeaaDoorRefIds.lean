/-
  The walk of keydirref.checkIDs: the same as record.checked answers.
-/
import Derived.Test.YtgpbhjjajpbeeaaDoorIds
import Derived.Deep.QuietTactic
import Derived.BigQuiet
namespace Go.Proofs.YtgpbhjjajpbeeaaDoor
open Go.RowKit Go.Lib Pl

theorem drewN_add (w : World) (a b : Nat) : (w.drewN a).drewN b = w.drewN (a + b) := by
  induction b with
  | zero => rfl
  | succ b ih => show ((w.drewN a).drewN b).drew = (w.drewN (a + b)).drew; rw [ih]
theorem Ints.at {w w' : World} {a : Option Addr} {cap : Nat} {l : List Int} (h : Ints w (.slice a l.length cap) l) (hE : Ext w w') {k : Nat} (hk : k < l.length) : ∃ b, a = some b ∧ w'.cell? (b.add k) = some (.int .i64 (l[k])) := by
  obtain ⟨a', c', e, _, _, hf⟩ := (h.ext hE).open
  injection e with e1; subst e1; exact hf k hk
set_option maxRecDepth 100000 in
set_option maxHeartbeats 800000 in
theorem checkIDs_any (v : Value) (l : List Int) (w : World) (h : Ints w v l) :
    Calls Tryd.prog 18 #[v] w fun e w' => e = .returned (.bool (idsOK l)) ∧ ∃ n, w' = w.drewN n := by
  obtain ⟨a, cap, rfl, hc, hc', -⟩ := h.open
  have HI := Lib.hid h; clear h
  by_cases h60 : 60 < l.length
  · have hd : idsOK l = false := by unfold idsOK; rw [decide_eq_false (by omega)]; rfl
    go_enter Tryd.func18, Tryd.ntmps18
    go_wp2
    go_ret
    exact ⟨by first | rfl | (rw [hd]; rfl), 0, rfl⟩
  have H60 : Hid (l.length ≤ 60) := by
    have : l.length ≤ 60 := by omega
    exact this
  go_enter Tryd.func18, Tryd.ntmps18
  go_wp2
  go_loopw [3, 4] (fun i _ wr => ∃ k : Nat, k ≤ l.length ∧ i = .int .i64 k ∧ goodTo l k ∧ ∃ n, wr = w.drewN n) (fun i _ _ => l.length - (intOf i).toNat)
  case atStart => exact ⟨0, Nat.zero_le _, rfl, ⟨rfl, List.nodup_nil⟩, 0, rfl⟩
  case round =>
    obtain ⟨k, hk, rfl, hg, n, rfl⟩ := hrel
    by_cases hlt : k < l.length
    · obtain ⟨b, rfl, hb⟩ := HI.out.at (Ext.drewN w n) hlt
      have HG := Lib.hid hg; clear hg
      by_cases h1 : l[k] < 1
      · have hf := notOK_range (x := l[k]) hlt rfl (by unfold inRange; rw [decide_eq_false (by omega)]; rfl)
        go_wp2
        go_ret
        exact ⟨by first | rfl | (rw [hf]; rfl), n, rfl⟩
      by_cases h2 : 999999 < l[k]
      · have hf := notOK_range (x := l[k]) hlt rfl (by unfold inRange; rw [decide_eq_false (show ¬ l[k] ≤ 999999 by omega)]; simp)
        go_wp2
        go_ret
        exact ⟨by first | rfl | (rw [hf]; rfl), n, rfl⟩
      go_wp2
      go_loopw [4] (fun j wr => ∃ m : Nat, m ≤ k ∧ j = .int .i64 m ∧ l[k] ∉ l.take m ∧ ∃ n, wr = w.drewN n) (fun j _ => k - (intOf j).toNat)
      case atStart => exact ⟨0, Nat.zero_le _, rfl, by simp, n, rfl⟩
      case round =>
        obtain ⟨m, hm, rfl, hne, n', rfl⟩ := hrel
        by_cases hmk : m < k
        · obtain ⟨b', eb, hb1⟩ := HI.out.at (Ext.drewN w n') (k := m) (by omega)
          injection eb with eb; subst eb
          obtain ⟨b', eb, hb2⟩ := HI.out.at (Ext.drewN w n') hlt
          injection eb with eb; subst eb
          have HN := Lib.hid hne; clear hne
          clear hb
          generalize hwn : w.drewN n' = wn at *
          have hml : m < l.length := by omega
          by_cases he : l[m] = l[k]
          · have he' : ((l[m] : Int) == l[k]) = true := beq_iff_eq.2 he
            have hf := notOK_dup (x := l[k]) hlt rfl (by rw [← he]; exact List.mem_take_iff_getElem.2 ⟨m, by omega, rfl⟩)
            clear he
            go_wp2
            go_quiet (fail)
            go_wp2
            go_ret
            exact ⟨by first | rfl | (rw [hf]; rfl), n' + nq, by rw [← hwn, drewN_add]⟩
          · have he' : ((l[m] : Int) == l[k]) = false := beq_eq_false_iff_ne.2 he
            have HM : Hid (l[k] ∉ l.take (m + 1)) := by
              have : l[k] ∉ l.take (m + 1) := by
                rw [take_snoc l m hml, List.mem_append]
                rintro (h | h)
                · exact HN.out h
                · simp at h; exact he h.symm
              exact this
            clear he
            go_wp2
            go_quiet (fail)
            go_wp2
            go_roundw
            case rel => exact ⟨m + 1, by omega, by go_num, HM.out, n' + nq, by rw [← hwn, drewN_add]⟩
            case measure => simp [intOf]; omega
        · obtain rfl : m = k := by omega
          have HN := Lib.hid hne; clear hne
          go_wp2
          go_roundw
          case rel => exact ⟨m + 1, by omega, by go_num, goodTo_step HG.out hlt rfl (by unfold inRange; rw [decide_eq_true (show 1 ≤ l[m] by omega), decide_eq_true (show l[m] ≤ 999999 by omega)]; rfl) HN.out, n', rfl⟩
          case measure => simp [intOf]; omega
    · go_wp2
      go_ret
      obtain rfl : k = l.length := by omega
      unfold goodTo at hg
      rw [List.take_length] at hg
      refine ⟨?_, n, rfl⟩
      unfold idsOK
      rw [hg.1, decide_eq_true hg.2, decide_eq_true H60.out]
      rfl
end Go.Proofs.YtgpbhjjajpbeeaaDoor
