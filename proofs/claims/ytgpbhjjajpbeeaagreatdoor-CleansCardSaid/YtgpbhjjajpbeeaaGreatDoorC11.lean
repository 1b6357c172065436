/-
  The walk of record.ReadManifest: what readMan says of the bytes. No condition.
-/
import Derived.Test.YtgpbhjjajpbeeaaGreatDoorC10
set_option linter.unusedSimpArgs false
set_option linter.unusedVariables false
set_option linter.unnecessarySimpa false
namespace Go.Proofs.YtgpbhjjajpbeeaaGreatDoor
open Go.RowKit Go.Lib Pl

/-- a row of ints of the call's own -/
def OwnI (w : World) (B : Nat) (v : Value) (l : List Int) : Prop := w.ownsRow B 3 1 v l.length (l.map (Value.int .i64))
theorem OwnI.ints {w : World} {B : Nat} {v : Value} {l : List Int} (h : OwnI w B v l) : Ints w v l := by
  have hh := h
  rcases h.2 with ⟨rfl, h0⟩ | ⟨g, cap, cur, rfl, hb, hg, h1, h2, h3, h4⟩
  · have : l = [] := List.eq_nil_of_length_eq_zero h0
    subst this
    exact ⟨none, 0, rfl, by simp, ⟨by omega, fun _ => rfl⟩, by simp⟩
  · exact ⟨some ⟨g, 0, none⟩, cap, rfl, h1, ⟨by unfold maxLen at h2; omega, fun h => by cases h⟩, fun _ => ⟨_, rfl, fun i x hx => hh.cells rfl i x hx⟩⟩
/-- what ReadManifest answers -/
def RManIs (r : Option (Nat × List Int)) (w : World) (e : Ending) (w' : World) : Prop :=
  ∃ g v y, e = .returned (.tuple #[.agg #[.int .u64 g, v], y]) ∧ Ext w w' ∧
    ((r = none ∧ g = 0 ∧ v = .slice none 0 0 ∧ y = errV 6) ∨ (∃ gen ids, r = some (gen, ids) ∧ g = (gen : Int) ∧ y = .nilIface ∧ OwnI w' w.heap.size v ids))
/-- where the loop stands -/
def ManSt (w wr : World) (rb mb g : Nat) (s : List UInt8 × Bool) (L : List Int) (v : Value) : Prop :=
  ReaderAt wr rb w.heap.size s.1 s.2 ∧ BoxAt wr w.heap.size 125 #[.int .u64 0, .slice none 0 0] ∧ BoxAt wr mb 125 #[.int .u64 g, v] ∧ OwnI wr w.heap.size v L ∧ Ext w wr ∧ w.heap.size < rb ∧ rb < mb
theorem ManSt.off {w wr w1 : World} {rb mb g : Nat} {s s' : List UInt8 × Bool} {L : List Int} {v : Value} (h : ManSt w wr rb mb g s L v) (hO : Off rb wr w1) (hR : ReaderAt w1 rb w.heap.size s'.1 s'.2) : ManSt w w1 rb mb g s' L v := by
  obtain ⟨h1, h2, h3, h4, h5, h6, h7⟩ := h
  obtain ⟨rv, hr1, _, _⟩ := h1
  have hne := ownsRow_ne h4 hr1 (by decide)
  refine ⟨hR, hO.box h2 (by omega), hO.box h3 (by omega), ?_, Below.trans h5 (hO.below (by omega)), h6, h7⟩
  obtain ⟨q1, q2⟩ := h4
  refine ⟨q1, ?_⟩
  rcases q2 with q2 | ⟨gb, cap, cur, rfl, hg, hh, r⟩
  · exact Or.inl q2
  · exact Or.inr ⟨gb, cap, cur, rfl, hg, (hO.block gb (by intro e; subst e; exact hne rfl)).trans hh, r⟩
theorem ManSt.ext {w wr w1 : World} {rb mb g : Nat} {s : List UInt8 × Bool} {L : List Int} {v : Value} (h : ManSt w wr rb mb g s L v) (hE : Ext wr w1) : ManSt w w1 rb mb g s L v := by
  obtain ⟨h1, h2, h3, h4, h5, h6, h7⟩ := h
  obtain ⟨rv, hr1, hr2, hr3⟩ := h1
  have hl2 := lt_of_block h2
  have hl3 := lt_of_block h3
  have hl1 := lt_of_block hr1
  exact ⟨⟨rv, (hE.block _ hl1).trans hr1, hr2, hr3.below (hE.mono (by omega))⟩, h2.below hE hl2, h3.below hE hl3, ownsRow_below h4 hE, Ext.trans h5 hE, h6, h7⟩
theorem ManSt.grow {w wr w0 w1 : World} {rb mb g : Nat} {s : List UInt8 × Bool} {L : List Int} {v v' : Value} (h : ManSt w wr rb mb g s L v) (hb0 : Ext wr w0) (hgrow : w0.grownBy w1 v.ownBlock)
    {n : Nat} {xs : List Value} (hown1 : w1.ownsRow w.heap.size 3 1 v' n xs) {L' : List Int} (hn : n = L'.length) (hx : xs = L'.map (Value.int .i64)) :
    BoxAt w1 mb 125 #[.int .u64 g, v] ∧ ManSt w (w1.setCell ⟨mb, 1, none⟩ v') rb mb g s L' v' := by
  subst hn; subst hx
  obtain ⟨h1, h2, h3, h4, h5, h6, h7⟩ := h.ext hb0
  obtain ⟨rv, hr1, hr2, hr3⟩ := h1
  have hl2 := lt_of_block h2
  have hl3 := lt_of_block h3
  have hl1 := lt_of_block hr1
  have hne1 := ownsRow_ne h4 hr1 (by decide)
  have hne2 := ownsRow_ne h4 h2 (by decide)
  have hne3 := ownsRow_ne h4 h3 (by decide)
  have hr1' := (hgrow.block rb hl1 (Ne.symm hne1)).trans hr1
  have h2' : BoxAt w1 w.heap.size 125 #[.int .u64 0, .slice none 0 0] := (hgrow.block _ hl2 (Ne.symm hne2)).trans h2
  have h3' : BoxAt w1 mb 125 #[.int .u64 g, v] := (hgrow.block mb hl3 (Ne.symm hne3)).trans h3
  have hlow : ∀ k, v.ownBlock = some k → w.heap.size ≤ k := fun k hk => (h4.lt k hk).1
  have hE1 : Ext w w1 := Below.grown h5 hgrow (by have := h5.size; omega) hlow
  refine ⟨h3', ⟨rv, ?_, hr2, ?_⟩, ?_, h3'.set 1 v', ?_, hE1.setN (by simp; omega), h6, h7⟩
  · rw [Below.heap_setCell _ _ _ _ (by simp; omega)]; exact hr1'
  · have hB : Below w.heap.size w0 (w1.setCell ⟨mb, 1, none⟩ v') := ((Below.refl _ w0).grown hgrow (by have := h5.size; omega) hlow).setCell (by simp; omega) _
    exact hr3.below hB
  · exact h2'.setOther (by simp; omega) _
  · exact ownsRow_setCell_other (a := ⟨mb, 1, none⟩) hown1 (ownsRow_ne hown1 (b := mb) (t := 125) (by exact h3') (by decide)) _

theorem own_sets {w : World} {n B : Nat} {u1 u2 : Value} {v : Value} {L : List Int} (hX : BoxAt w n 125 #[u1, u2]) (h : OwnI w B v L) (g : Nat) (v' : Value) :
    OwnI ((w.setCell ⟨n, 0, none⟩ (.int .u64 g)).setCell ⟨n, 1, none⟩ v') B v L := by
  have hne := ownsRow_ne h (b := n) (t := 125) (by exact hX) (by decide)
  exact ownsRow_setCell_other (a := ⟨n, 1, none⟩) (ownsRow_setCell_other (a := ⟨n, 0, none⟩) h hne _) hne _

set_option maxRecDepth 100000 in
set_option maxHeartbeats 2000000 in
theorem readManW_any (v : Value) (l : List UInt8) (w : World) (h : Bytes w v l) :
    Calls Tryz.prog 94 #[v] w (RManIs (readMan l) w) := by
  obtain ⟨⟨m1, s1⟩, e1⟩ : ∃ p, p = rdN (l, false) 4 := ⟨_, rfl⟩
  obtain ⟨⟨gen, s2⟩, e2⟩ : ∃ p, p = rdN s1 8 := ⟨_, rfl⟩
  obtain ⟨⟨n, s3⟩, e3⟩ : ∃ p, p = rdN s2 2 := ⟨_, rfl⟩
  obtain ⟨hn, hall⟩ := rd3 e1 e2 e3
  have HA := Lib.hid hall; clear hall
  have E1 := Lib.hid e1; have E2 := Lib.hid e2; have E3 := Lib.hid e3
  clear e1 e2 e3
  obtain ⟨i0, hi, hz0, hz1, hz2⟩ := info_parts info_int
  obtain ⟨a, cap, rfl, h1, h2, h3⟩ := id h
  have HL := Lib.hid (BytesL.of h)
  clear h h2 h3
  go_enter Tryz.func94, Tryz.ntmps94
  go_wp2_with fail
  have x0 : BoxAt (w.alloc (.cells #[.int .u64 0, .slice none 0 0] 125)) w.heap.size 125 #[.int .u64 0, .slice none 0 0] := heap_alloc_new w _
  have X := x0.alloc (.cells #[.slice a l.length cap, .bool false] 241)
  have hEx : Ext w ((w.alloc (.cells #[.int .u64 0, .slice none 0 0] 125)).alloc (.cells #[.slice a l.length cap, .bool false] 241)) := ((Ext.refl w).new _).new _
  have hR : ReaderAt ((w.alloc (.cells #[.int .u64 0, .slice none 0 0] 125)).alloc (.cells #[.slice a l.length cap, .bool false] 241)) (w.heap.size + 1) w.heap.size l false := by
    refine ⟨.slice a l.length cap, ?_, by omega, HL.out.below hEx⟩
    exact BoxAt.new _ _ (by simp)
  clear x0
  have c1 := rnumber_anyO (w.heap.size + 1) w.heap.size 4 (l, false) _ hR (by omega)
  rw [← E1.out] at c1
  refine c1.mono ?_
  clear c1 hR
  rintro e w1 ⟨rfl, hR, hb⟩
  replace hEx := Below.trans hEx (hb.below (by omega))
  replace X := hb.box X (by omega)
  clear hb
  go_wp2_with fail
  have c2 := rnumber_anyO (w.heap.size + 1) w.heap.size 8 s1 _ hR (by omega)
  rw [← E2.out] at c2
  refine c2.mono ?_
  clear c2 hR
  rintro e w2 ⟨rfl, hR, hb⟩
  replace hEx := Below.trans hEx (hb.below (by omega))
  replace X := hb.box X (by omega)
  clear hb
  obtain ⟨mb, hmb⟩ : ∃ mb, mb = w2.heap.size := ⟨_, rfl⟩
  have hlt : w.heap.size + 1 < mb := by
    obtain ⟨_, hr, _⟩ := hR
    rw [hmb]; exact lt_of_block hr
  go_wp2_with fail
  have hS0 : ManSt w (w2.alloc (.cells #[.int .u64 gen, .slice none 0 0] 125)) (w.heap.size + 1) mb gen s2 [] (.slice none 0 0) := by
    have hE2 : Ext w2 (w2.alloc (.cells #[.int .u64 gen, .slice none 0 0] 125)) := (Ext.refl _).new _
    obtain ⟨rv, hr1, hr2, hr3⟩ := hR
    refine ⟨⟨rv, ?_, hr2, hr3.below (hE2.mono (by have := hEx.size; omega))⟩, X.alloc _, BoxAt.new _ _ hmb.symm, ⟨rfl, Or.inl ⟨rfl, rfl⟩⟩, Ext.new hEx _, by omega, hlt⟩
    exact (hE2.block _ (lt_of_block hr1)).trans hr1
  rw [← hmb]
  have c3 := rnumber_anyO (w.heap.size + 1) w.heap.size 2 s2 _ hS0.1 (by omega)
  rw [← E3.out] at c3
  refine c3.mono ?_
  clear c3 hR hEx X
  rintro e w3 ⟨rfl, hR, hb⟩
  have hS := hS0.off hb hR
  clear hS0 hb hR
  clear hmb
  have hU : Upto l 0 s3 [] := by
    rcases HA.out with ⟨h1, _, h3⟩ | ⟨h1, h2, _⟩
    · exact Or.inr ⟨h3, Or.inl h1⟩
    · exact Or.inl ⟨h2, by omega, rfl⟩
  have hN : s3.2 = false → n = cnt l ∧ 14 ≤ l.length ∧ m1 = num (l.take 4) ∧ gen = num ((l.drop 4).take 8) := by
    intro hf
    rcases HA.out with ⟨_, _, h3⟩ | ⟨h1, _, h3, h4, h5⟩
    · rw [h3] at hf; cases hf
    · exact ⟨h5, h1, h3, h4⟩
  have hN0 : n ≤ cnt l ∧ (s3.2 = true → n = 0) := by
    rcases HA.out with ⟨_, h2, _⟩ | ⟨_, h2, _, _, h5⟩
    · exact ⟨by omega, fun _ => h2⟩
    · exact ⟨by omega, fun h => by rw [h2] at h; cases h⟩
  have HN := Lib.hid hN; have HN0 := Lib.hid hN0; have HS := Lib.hid hS; have HU := Lib.hid hU
  clear hN hN0 hS hU HA E1 E2 E3
  go_wp2
  go_loopw [7] (fun c wr => ∃ (k : Nat) (s : List UInt8 × Bool) (L : List Int) (v : Value), k ≤ n ∧ c = .int .u64 ((n : Int) - k) ∧ L.length = k ∧ (∀ x ∈ L, (Lit.int .i64 x).wf = true) ∧ Upto l k s L ∧ (s3.2 = true → s.2 = true) ∧ ManSt w wr (w.heap.size + 1) mb gen s L v) (fun c _ => (intOf c).toNat)
  case atStart => exact ⟨0, s3, [], .slice none 0 0, Nat.zero_le _, by simp, rfl, by simp, HU.out, fun h => h, HS.out⟩
  case round =>
    clear HS HU
    obtain ⟨k, s, L, v, hk, rfl, hLk, hwf, hU, hs3, hSt⟩ := hrel
    obtain ⟨rv, hr1, hr2, hr3⟩ := id hSt.1
    obtain ⟨rc0, rc1, rf0, rf1⟩ := two_cells hr1
    have xc0 := hSt.2.1.cell 0
    have xc1 := hSt.2.1.cell 1
    have xf0 := hSt.2.1.free 0
    have xf1 := hSt.2.1.free 1
    have mc0 := hSt.2.2.1.cell 0
    have mc1 := hSt.2.2.1.cell 1
    have mf1 := hSt.2.2.1.free 1
    have HSt := Lib.hid hSt; have HU := Lib.hid hU; have HW := Lib.hid hwf; have HR3 := Lib.hid hr3
    clear hSt hU hwf hr1 hr2 hr3 rf0 rf1
    by_cases hbad : s.2 = true
    · have hd : readMan l = none := readMan_none (HU.out.bad hbad)
      rw [hbad] at rc1
      have HX := Lib.hid HSt.out.2.2.2.2.1
      clear HSt HU HN HN0
      by_cases hkn : k < n
      · go_wp2
        refine bodyPost_ret (v := .tuple #[.agg #[.int .u64 0, .slice none 0 0], errV 6]) (by simp [results, Tryz.results94, go_sem, xc0, xc1, errV]) rfl ⟨0, _, _, rfl, ?_, Or.inl ⟨hd, rfl, rfl, rfl⟩⟩
        repeat' refine Ext.setN ?_ (by simp)
        exact HX.out
      · go_wp2
        refine bodyPost_ret (v := .tuple #[.agg #[.int .u64 0, .slice none 0 0], errV 6]) (by simp [results, Tryz.results94, go_sem, xc0, xc1, errV]) rfl ⟨0, _, _, rfl, ?_, Or.inl ⟨hd, rfl, rfl, rfl⟩⟩
        repeat' refine Ext.setN ?_ (by simp)
        exact HX.out
    · have hbf : s.2 = false := Bool.eq_false_iff.2 hbad
      rw [hbf] at rc1
      have hs3f : s3.2 = false := by
        cases h : s3.2 with
        | false => rfl
        | true => rw [hs3 h] at hbf; cases hbf
      obtain ⟨hnc, hl14, hm1, hgen⟩ := HN.out hs3f
      have HM1 := Lib.hid hm1; have HGEN := Lib.hid hgen; have HNC := Lib.hid hnc; have HLK := Lib.hid hLk
      clear hm1 hgen hLk
      by_cases hkn : k < n
      · obtain ⟨⟨x, s'⟩, ex⟩ : ∃ p, p = rdN s 4 := ⟨_, rfl⟩
        obtain ⟨hx32, hU'⟩ := HU.out.step hbf (by omega) ex
        have hwx : IntKind.i64.wrap (x : Int) = (x : Int) := IntWalk.i64_in _ (by omega)
        have hLn : L.length < 65536 := by have := HLK.out; omega
        clear hnc
        have hcall := rnumber_anyO (w.heap.size + 1) w.heap.size 4 s wr.drew (by
          obtain ⟨q1, q2, q3, q4⟩ := HSt.out.1
          exact ⟨q1, q2, q3, q4.below ((Below.refl _ _).drew)⟩) (by omega)
        rw [← ex] at hcall
        have HU' := Lib.hid hU'; have HC := Lib.hid hcall; have HEX := Lib.hid ex
        clear hU' hcall ex
        have hn16 : n < 65536 := hn
        go_wp2_with fail
        go_region_law (first | (go_simp; go_at_call 126; refine HC.out.mono ?_; rintro e w5 ⟨rfl, hR5, hb5⟩; have hS5 := Lib.hid ((HSt.out.ext (Below.drew (Ext.refl wr))).off hb5 hR5); have m5 := hS5.out.2.2.1.cell 1; have mf5 := hS5.out.2.2.1.free 1; have ma5 := (hS5.out.2.2.1.alloc (.cells #[.int .i64 x] 3)).cell 1; clear hR5 hb5) | (refine step_append_lies _ (by rfl) _ _ _ (by rfl) w.heap.size 3 i0 _ 1 8 Tryz.underlying69 hi hz0 hz1 hz2 rfl (by omega) v L.length (L.map (Value.int .i64)) (by rfl) (hS5.out.2.2.2.1.alloc _) ⟨w5.heap.size, 0, none⟩ 1 1 [_] (by rfl) (by rfl) (World.news_of_block (cs := #[_]) (t := 3) (fr := (0, 0)) (heap_alloc_new w5 _)) (by simp [Value.oneCell']) (by omega) (by unfold maxLen; omega) (by omega) (by have := hS5.out.2.2.2.2.1.size; simp; omega) (w5.heap.size + 1) (by simp) ?_; intro gg cap6 w6 hown6 hgrow6 hat6 hlt6; have HST := Lib.hid (hS5.out.grow (L' := L ++ [(x : Int)]) (Ext.new (Ext.refl w5) _) hgrow6 hown6 (by simp) (by simp)); have m6 := HST.out.1.cell 1; have mf6 := HST.out.1.free 1))
        all_goals
          go_wp2
          go_roundw
          case rel =>
            have hwf' : ∀ y ∈ L ++ [(x : Int)], (Lit.int .i64 y).wf = true := by
              intro y hy
              rcases List.mem_append.1 hy with h | h
              · exact HW.out y h
              · simp only [List.mem_singleton] at h
                subst h
                exact wf_small ⟨by omega, by omega⟩
            have hs3' : s3.2 = true → s'.2 = true := fun h => absurd (h.symm.trans hs3f) (by decide)
            exact ⟨k + 1, s', L ++ [(x : Int)], _, by omega, by go_num, by have := HLK.out; simp; omega, hwf', HU'.out, hs3', HST.out.2⟩
          case measure => simp [intOf]; omega
      · obtain rfl : k = n := by omega
        obtain ⟨ra, rcap, rfl, hrc, hrc', -⟩ := HR3.out.1.open
        rw [hnc] at HU
        obtain ⟨hrest, hlen, hLL⟩ := HU.out.all hbf
        have hrl : s.1.length = l.length - (14 + 4 * cnt l) := by rw [hrest]; simp
        rw [hrl] at rc0
        have HX := Lib.hid HSt.out.2.2.2.2.1
        by_cases hlong : 14 + 4 * cnt l < l.length
        · have hd : readMan l = none := readMan_none (manGood_len (by omega))
          clear HSt HU HN HN0
          go_wp2
          refine bodyPost_ret (v := .tuple #[.agg #[.int .u64 0, .slice none 0 0], errV 6]) (by simp [results, Tryz.results94, go_sem, xc0, xc1, errV]) rfl ⟨0, _, _, rfl, ?_, Or.inl ⟨hd, rfl, rfl, rfl⟩⟩
          repeat' refine Ext.setN ?_ (by simp)
          exact HX.out
        · have hl : l.length = 14 + 4 * cnt l := by omega
          have hsl : ∀ W : World, Below w.heap.size w W → Bytes W (.slice (a.map (fun x => ⟨x.block, x.off + 4, none⟩)) (l.length - 4) (cap - 4)) (l.drop 4) := by
            intro W hW
            have := ((HL.out.below hW).sliced 4 l.length (by omega) (by omega)).1
            rw [if_neg (by omega), List.take_length] at this
            have e : a.map (fun x => x.add 4) = a.map (fun x => ⟨x.block, x.off + 4, none⟩) := by
              congr 1
            rw [← e]; exact this
          have HS := Lib.hid hsl; clear hsl
          have hs4 : (4 : Nat) ≤ l.length := by omega
          have hs5 : l.length ≤ cap := h1
          have hs6 : ¬ cap = 4 := by omega
          have hm4 : m1 < 4294967296 := by rw [HM1.out]; exact num_take_lt l 4
          have hcall := checked_any (H := Unit) v L wr HSt.out.2.2.2.1.ints HW.out
          have hII : idsOK L = idsOK (idsTo l (cnt l)) := by rw [hLL]
          have hOwn : OwnI wr w.heap.size v L := HSt.out.2.2.2.1
          have HO := Lib.hid hOwn
          have HSS := Lib.hid (HS.out wr HX.out)
          rw [hl] at HSS
          have hw3 : ∀ c : Nat, c < 4294967296 → IntKind.u64.wrap (c : Int) = (c : Int) := fun c h => by rw [IntKind.wrap_u64]; omega
          have hwc := hw3 _ (crc_lt (l.drop 4))
          have hne : (¬ crc (l.drop 4) = m1 → ((crc (l.drop 4) : Int) != (m1 : Int)) = true) ∧ (crc (l.drop 4) = m1 → ((crc (l.drop 4) : Int) != (m1 : Int)) = false) :=
            ⟨fun h => by rw [bne, beq_eq_false_iff_ne.2 (by omega)]; rfl, fun h => by rw [bne, beq_iff_eq.2 (by omega)]; rfl⟩
          have HNE := Lib.hid hne; have HC := Lib.hid hcall; have HII := Lib.hid hII; have HLL := Lib.hid hLL
          clear hl14 hw3 hne hcall hII hLL hOwn HS
          go_wp2_with fail
          refine (sum_any _ _ _ HSS.out).mono ?_
          rintro e w8 ⟨rfl, hw⟩
          subst hw
          by_cases hcr : crc (l.drop 4) = m1
          · have hcr' := HNE.out.2 hcr
            obtain ⟨va, vc, rfl⟩ := ownsRow_form HO.out
            go_wp2_with fail
            refine HC.out.mono ?_
            rintro e w9 ⟨rfl, hE9⟩
            have X9 := HSt.out.2.1.below hE9 (lt_of_block HSt.out.2.1)
            have M9 := HSt.out.2.2.1.below hE9 (lt_of_block HSt.out.2.2.1)
            have hO9 : OwnI w9 w.heap.size (.slice va L.length vc) L := ownsRow_below HO.out hE9
            have hOe := own_sets X9 hO9 gen (.slice va L.length vc)
            have hE : Ext w w9 := Ext.trans HX.out hE9
            have HXE := Lib.hid hE; have HO9 := Lib.hid hO9
            clear xc0 xc1 xf0 xf1 mc0 mc1 mf1 rc0 rc1 hE hO9 hE9
            have xc0 := X9.cell 0
            have xc1 := X9.cell 1
            have xf0 := X9.free 0
            have xf1 := X9.free 1
            have mc0 := M9.cell 0
            have mc1 := M9.cell 1
            clear X9 M9
            cases hok : idsOK L with
            | false =>
              have hd : readMan l = none := readMan_none (manGood_ids (by rw [← HII.out]; exact hok))
              go_wp2
              refine bodyPost_ret (v := .tuple #[.agg #[.int .u64 0, .slice none 0 0], errV 6]) (by simp [results, Tryz.results94, go_sem, xc0, xc1, errV]) rfl ⟨0, _, _, rfl, ?_, Or.inl ⟨hd, rfl, rfl, rfl⟩⟩
              repeat' refine Ext.setN ?_ (by simp)
              exact HXE.out
            | true =>
              have hd : readMan l = some (num ((l.drop 4).take 8), idsTo l (cnt l)) := readMan_some (by omega) hl (by rw [← HM1.out]; exact hcr) (by rw [← HII.out]; exact hok)
              have HD := Lib.hid hd; clear hd
              go_wp2
              refine bodyPost_ret (v := .tuple #[.agg #[.int .u64 gen, .slice va L.length vc], .nilIface]) (by simp [results, Tryz.results94, go_sem, xc0, xc1]) rfl ⟨(gen : Int), _, _, rfl, ?_, Or.inr ⟨gen, L, ?_, rfl, rfl, ?_⟩⟩
              · repeat' refine Ext.setN ?_ (by simp)
                exact HXE.out
              · rw [HD.out, HGEN.out, HLL.out]
              · exact hOe
          · have hcr' := HNE.out.1 hcr
            have hd : readMan l = none := readMan_none (manGood_crc (by rw [← HM1.out]; exact hcr))
            go_wp2
            refine bodyPost_ret (v := .tuple #[.agg #[.int .u64 0, .slice none 0 0], errV 6]) (by simp [results, Tryz.results94, go_sem, xc0, xc1, errV]) rfl ⟨0, _, _, rfl, ?_, Or.inl ⟨hd, rfl, rfl, rfl⟩⟩
            repeat' refine Ext.setN ?_ (by simp)
            exact HX.out
end Go.Proofs.YtgpbhjjajpbeeaaGreatDoor
