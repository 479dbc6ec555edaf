import Derived.Test.YtjebmcbpiobbaaaQ8
import Derived.Test.YtjebmcbpiobbaaaClrAt
namespace Go.Proofs.Ytjebmcbpiobbaaa
open Go.RowKit

theorem inForce_other {l : List Clr} {n : Clr} {fl : Int} (h : n.fl ≠ fl) : inForce (l ++ [n]) fl = inForce l fl := by
  unfold inForce
  rw [List.find?_append]
  have : List.find? (inF fl) [n] = none := by simp [inF, h]
  rw [this]; simp
def OptAt (w : World) (b : Nat) (o : Opt) : Prop := w.cell? ⟨b, 0, none⟩ = some (.int .i64 o.d) ∧ w.cell? ⟨b, 1, none⟩ = some (.int .i64 o.y) ∧ w.cell? ⟨b, 2, none⟩ = some (.int .i64 o.h) ∧ w.cell? ⟨b, 3, none⟩ = some (.bool o.c)
theorem OptAt.ext {w w' : World} {b : Nat} {x : Opt} (h : OptAt w b x) (hlt : b < w.heap.size) (hb : Below w.heap.size w w') : OptAt w' b x :=
  ⟨(hb.cell (p := ⟨b, 0, none⟩) hlt).trans h.1, (hb.cell (p := ⟨b, 1, none⟩) hlt).trans h.2.1, (hb.cell (p := ⟨b, 2, none⟩) hlt).trans h.2.2.1, (hb.cell (p := ⟨b, 3, none⟩) hlt).trans h.2.2.2⟩
theorem OptAt.new (w w' : World) (o : Opt) (h : Below (w.alloc (.cells #[.int .i64 o.d, .int .i64 o.y, .int .i64 o.h, .bool o.c] 24)).heap.size (w.alloc (.cells #[.int .i64 o.d, .int .i64 o.y, .int .i64 o.h, .bool o.c] 24)) w') : OptAt w' w.heap.size o := by
  refine ⟨?_, ?_, ?_, ?_⟩ <;> (rw [h.cell (by simp)]; simp)

set_option maxHeartbeats 3200000 in
set_option maxRecDepth 100000 in
theorem law6 (A : Option Addr) (c : Nat) (l : List Clr) (fl ot : Int) (o : Opt) (m : Int) (w : World) (ha : Slc w Clr.cells 9 A l) (hc : l.length ≤ c) :
    Calls Try.prog 6 #[.slice A l.length c, .int .i64 fl, .int .i64 ot, o.v, .int .i64 m] w (Tru w) := by
  go_enter Try.func6, Try.ntmps6
  go_wp2_with fail
  refine (sane_any _).mono ?_
  rintro e w1 ⟨rfl, B1⟩
  have hb1 : Below w.heap.size w w1 := ext_trans (ext_alloc (ext_refl w) _) B1
  have O1 := OptAt.new w w1 o B1
  have s0 : w.heap.size < w1.heap.size := by have := B1.size; simp at this; omega
  clear B1
  go_wp2_with fail
  refine (few_any A l.length c _).mono ?_
  rintro e w1' ⟨rfl, rfl⟩
  by_cases hf : l.length ≤ 40
  rotate_left
  · rw [few_no hf]
    go_wp2_with fail
    go_ret
    exact ⟨rfl, hb1⟩
  rw [few_yes hf]
  go_wp2_with fail
  refine (check_any A c l _ (ha.ext hb1) (by omega)).mono ?_
  rintro e w2 ⟨rfl, B2⟩
  have hb2 := ext_trans hb1 B2
  have O2 := O1.ext s0 B2
  have s2 : w.heap.size < w2.heap.size := Nat.lt_of_lt_of_le s0 B2.size
  clear O1 s0
  cases hch : chk l
  · rw [chkE_1 hch]
    go_wp2_with fail
    go_ret
    exact ⟨rfl, hb2⟩
  rw [chkE_0 hch]
  have HV := Lib.hid ((chk_iff l).1 hch)
  clear hch
  obtain ⟨o0, o1', o2, o3⟩ := O2
  have HO : Hid (OptAt w2 w.heap.size o) := ⟨o0, o1', o2, o3⟩
  by_cases hrg : 0 ≤ fl ∧ fl ≤ 4095 ∧ 0 ≤ m ∧ m ≤ 1439
  rotate_left
  · have HNC : Hid (¬ CanIssue l fl o m) := fun h => hrg ⟨h.fl0, h.fl1, h.m0, by have := h.m1; omega⟩
    go_wp2_with fail
    all_goals first | (exfalso; omega) | skip
    all_goals
      refine (issue_at ([], 340) (issue_no HNC.out) rfl (ha.ext hb2) (by omega) hc).mono ?_
      rintro e w3 ⟨A3, k3, rfl, S3, hk3, B3⟩
      go_wp2_with fail
      go_ret
      exact ⟨rfl, ext_trans hb2 B3⟩
  obtain ⟨hr0, hr1, hr2, hr3⟩ := hrg
  have hlast : (∀ y : Clr, 0 < l.length → l[l.length - 1]? = some y → y.iss ≤ m) ∨ ∃ y : Clr, 0 < l.length ∧ l[l.length - 1]? = some y ∧ m < y.iss := by
    by_cases h0 : 0 < l.length
    · have hy : l[l.length - 1]? = some (l[l.length - 1]'(by omega)) := List.getElem?_eq_getElem _
      by_cases h : m < (l[l.length - 1]'(by omega)).iss
      · exact .inr ⟨_, h0, hy, h⟩
      · refine .inl (fun y _ hy' => ?_)
        rw [hy] at hy'; cases hy'; omega
    · exact .inl (fun y h => absurd h h0)
  rcases hlast with hlast | ⟨y, hpos, hy, hmy⟩
  rotate_left
  · have HNC : Hid (¬ CanIssue l fl o m) := fun h => by have := h.last y hpos hy; omega
    obtain ⟨q, hq⟩ : ∃ q, q = l.length - 1 := ⟨_, rfl⟩
    obtain ⟨y', b3, o3, hy', rfl, hbb3, hc3⟩ := (ha.ext hb2).at_ (show q < l.length by omega)
    obtain rfl : y = y' := by rw [← hq] at hy; exact Option.some.inj (hy.symm.trans hy')
    have e2 := hc3 2 _ rfl
    have hi0 : ((l.length : Int) - 1).toNat = q := by omega
    have hi1 : (l.length : Int) - 1 = (q : Int) := by omega
    have hql : (q : Int) < l.length := by omega
    clear hy hy' hc3 hq
    go_wp2_with fail
    refine (issue_at ([], 340) (issue_no HNC.out) rfl (ha.ext hb2) (by omega) hc).mono ?_
    rintro e w3 ⟨A3, k3, rfl, S3, hk3, B3⟩
    go_wp2_with fail
    go_ret
    exact ⟨rfl, ext_trans hb2 B3⟩
  have HL := Lib.hid hlast
  have hsplit : l.length = 0 ∨ 0 < l.length := by omega
  rcases hsplit with h0 | hpos
  · have hz : decide (0 < (l.length : Int)) = false := decide_eq_false (by omega)
    have hz' : decide (0 < l.length) = false := decide_eq_false (by omega)
    have H0 := Lib.hid h0
    clear h0 hlast
    go_wp2_with fail
    clear hz hz'
    refine (rformed_any o _).mono ?_
    rintro e w3 ⟨rfl, B3⟩
    have hb3 := ext_trans hb2 B3
    have O3 := HO.out.ext s2 B3
    have s3 : w.heap.size < w3.heap.size := Nat.lt_of_lt_of_le s2 B3.size
    obtain ⟨u0, u1', u2', u3⟩ := O3
    have HO3 : Hid (OptAt w3 w.heap.size o) := ⟨u0, u1', u2', u3⟩
    cases hfm : fmd o
    · have HNC : Hid (¬ CanIssue l fl o m) := fun h => by have := h.fm; rw [hfm] at this; cases this
      go_wp2_with fail
      refine (issue_at ([], 340) (issue_no HNC.out) rfl (ha.ext hb3) (by omega) hc).mono ?_
      rintro e w4 ⟨A4, k4, rfl, S4, hk4, B4⟩
      go_wp2_with fail
      go_ret
      exact ⟨rfl, ext_trans hb3 B4⟩
    obtain ⟨⟨ci, bi⟩, hi⟩ : ∃ r, inForce l fl = r := ⟨_, rfl⟩
    have HI := Lib.hid hi
    clear hi
    cases bi
    rotate_left
    · have HNC : Hid (¬ CanIssue l fl o m) := fun h => by have := h.free; rw [HI.out] at this; cases this
      go_wp2_with fail
      refine (issue_at ([], 340) (issue_no HNC.out) rfl (ha.ext hb3) (by omega) hc).mono ?_
      rintro e w4 ⟨A4, k4, rfl, S4, hk4, B4⟩
      go_wp2_with fail
      refine (inForce_at (ci, true) HI.out rfl (ha.ext (ext_trans hb3 B4)) (by omega)).mono ?_
      rintro e w5 ⟨rfl, B5⟩
      go_wp2_with fail
      go_ret
      exact ⟨rfl, ext_alloc (ext_trans (ext_trans hb3 B4) B5) _⟩
    have HC : Hid (CanIssue l fl o m) := ⟨hr0, hr1, hr2, by omega, hfm, HL.out, by rw [HI.out]⟩
    have HIY := Lib.hid (issue_yes HV.out HC.out)
    have HIF : Hid (inForce (l ++ [newC l fl o m]) fl = (newC l fl o m, true)) := inForce_is (x := newC l fl o m) (k := l.length) HIY.out.1 (by simp) rfl
    go_wp2_with fail
    refine (issue_at (l ++ [newC l fl o m], 0) HIY.out.2 rfl (ha.ext hb3) (by omega) hc).mono ?_
    rintro e w4 ⟨A4, k4, rfl, S4, hk4, B4⟩
    have hb4 := ext_trans hb3 B4
    have O4 := HO3.out.ext s3 B4
    have s4 : w.heap.size < w4.heap.size := Nat.lt_of_lt_of_le s3 B4.size
    have HO4 := Lib.hid O4
    clear O4 u0 u1' u2' u3
    have hn4 : (l ++ [newC l fl o m]).length < 1000000 := by simp; omega
    go_wp2_with fail
    refine (inForce_at (ci, false) HI.out rfl (ha.ext hb4) (by omega)).mono ?_
    rintro e w5 ⟨rfl, B5⟩
    have B5a := ext_trans B5 (ext_alloc (ext_refl w5) (.cells ci.cells.toArray 31))
    have hb5 := ext_trans hb4 B5a
    go_wp2_with fail
    refine (inForce_at (newC l fl o m, true) HIF.out (by simp) (S4.ext B5a) hn4).mono ?_
    rintro e w6 ⟨rfl, B6⟩
    have B6a := ext_trans B6 (ext_alloc (ext_refl w6) (.cells (newC l fl o m).cells.toArray 31))
    have hb6 := ext_trans hb5 B6a
    have HOa := HO4.out.ext s4 (ext_trans B5a B6a)
    have s6 : w.heap.size < (w6.alloc (.cells (newC l fl o m).cells.toArray 31)).heap.size := Nat.lt_of_lt_of_le s4 (ext_trans B5a B6a).size
    obtain ⟨⟨ca, ba⟩, hA⟩ : ∃ r, inForce l ot = r := ⟨_, rfl⟩
    have HA := Lib.hid hA
    clear hA
    obtain ⟨⟨cb, bb⟩, hB⟩ : ∃ r, inForce (l ++ [newC l fl o m]) ot = r := ⟨_, rfl⟩
    have HB := Lib.hid hB
    clear hB
    have HO6 := Lib.hid HOa
    clear HOa
    generalize hnc : newC l fl o m = nc at *
    go_wp2_with fail
    refine (inForce_at (ca, ba) HA.out rfl (ha.ext hb6) (by omega)).mono ?_
    rintro e w7 ⟨rfl, B7⟩
    have N7 := ClrAt.new w6 w7 nc B7
    have s67 : w6.heap.size < w7.heap.size := by have := B7.size; simp at this; omega
    have O7 := HO6.out.ext s6 B7
    have s7 : w.heap.size < w7.heap.size := Nat.lt_of_lt_of_le s6 B7.size
    have hb7 := ext_trans hb6 B7
    have B7a := ext_trans B7 (ext_alloc (ext_refl w7) (.cells ca.cells.toArray 31))
    have HN7 := Lib.hid N7
    have HO7 := Lib.hid O7
    clear N7 O7
    go_wp2_with fail
    refine (inForce_at (cb, bb) HB.out (by simp) ((S4.ext (ext_trans B5a B6a)).ext B7a) hn4).mono ?_
    rintro e w8 ⟨rfl, B8⟩
    have hb8 := ext_trans (ext_alloc hb7 _) B8
    have B78 := ext_trans (ext_alloc (ext_refl w7) _) B8
    have N8 := HN7.out.ext s67 B78
    have O8 := HO7.out.ext s7 B78
    have M8 := ClrAt.new w7 w8 ca B8
    have s78 : w7.heap.size < w8.heap.size := by have := B8.size; simp at this; omega
    obtain ⟨n0, n1, n2, n3, n4, n5, n6, n7, n8⟩ := N8.all
    obtain ⟨v0, v1, v2, v3⟩ := O8
    obtain ⟨m0, m1, m2, m3, m4, m5, m6, m7, m8⟩ := M8.all
    have heq : ∀ w, (binOp .eql 31 nc.v (.agg #[.int .i64 l.length, .int .i64 fl, .int .i64 m, .int .i64 o.d, .int .i64 o.y, .int .i64 o.h, .bool o.c, .bool false, .bool false])).run Try.prog w = .ok (.bool true) w := by
      intro w
      have := run_eql31 nc (newC l fl o m) w
      rw [hnc] at this
      simp only [decide_true] at this
      rw [← this, ← hnc]; rfl
    have s8 : w.heap.size < w8.heap.size := Nat.lt_of_lt_of_le s7 B78.size
    have s68 : w6.heap.size < w8.heap.size := Nat.lt_of_lt_of_le s67 B78.size
    clear N8 M8
    have HNC2 := Lib.hid hnc
    clear hnc
    by_cases hot : ot = fl
    · have hot' : (ot == fl) = true := by simp [hot]
      clear hot
      go_wp2_with fail
      go_ret
      exact ⟨rfl, ext_alloc hb8 _⟩
    · have hot' : (ot == fl) = false := by simp [hot]
      have hsm : (cb, bb) = (ca, ba) := by
        rw [← HB.out, ← HA.out]; exact inForce_other (by rw [← HNC2.out]; exact fun h => hot h.symm)
      injection hsm with e1 e2
      subst e1 e2
      have heq2 := fun w => run_eql31 cb cb w
      simp only [decide_true] at heq2
      clear hot
      go_wp2_with fail
      go_ret
      exact ⟨by simp, ext_alloc hb8 _⟩
  · obtain ⟨q, hq⟩ : ∃ q, q = l.length - 1 := ⟨_, rfl⟩
    obtain ⟨y, b3, o3, hy, rfl, hbb3, hc3⟩ := (ha.ext hb2).at_ (show q < l.length by omega)
    have hmy : ¬ m < y.iss := by have := hlast y hpos (by rw [← hq]; exact hy); omega
    have e2 := hc3 2 _ rfl
    have hi0 : ((l.length : Int) - 1).toNat = q := by omega
    have hi1 : (l.length : Int) - 1 = (q : Int) := by omega
    have hql : (q : Int) < l.length := by omega
    clear hy hc3 hq hlast
    go_wp2_with fail
    clear hi0 hi1 e2
    refine (rformed_any o _).mono ?_
    rintro e w3 ⟨rfl, B3⟩
    have hb3 := ext_trans hb2 B3
    have O3 := HO.out.ext s2 B3
    have s3 : w.heap.size < w3.heap.size := Nat.lt_of_lt_of_le s2 B3.size
    obtain ⟨u0, u1', u2', u3⟩ := O3
    have HO3 : Hid (OptAt w3 w.heap.size o) := ⟨u0, u1', u2', u3⟩
    cases hfm : fmd o
    · have HNC : Hid (¬ CanIssue l fl o m) := fun h => by have := h.fm; rw [hfm] at this; cases this
      go_wp2_with fail
      refine (issue_at ([], 340) (issue_no HNC.out) rfl (ha.ext hb3) (by omega) hc).mono ?_
      rintro e w4 ⟨A4, k4, rfl, S4, hk4, B4⟩
      go_wp2_with fail
      go_ret
      exact ⟨rfl, ext_trans hb3 B4⟩
    obtain ⟨⟨ci, bi⟩, hi⟩ : ∃ r, inForce l fl = r := ⟨_, rfl⟩
    have HI := Lib.hid hi
    clear hi
    cases bi
    rotate_left
    · have HNC : Hid (¬ CanIssue l fl o m) := fun h => by have := h.free; rw [HI.out] at this; cases this
      go_wp2_with fail
      refine (issue_at ([], 340) (issue_no HNC.out) rfl (ha.ext hb3) (by omega) hc).mono ?_
      rintro e w4 ⟨A4, k4, rfl, S4, hk4, B4⟩
      go_wp2_with fail
      refine (inForce_at (ci, true) HI.out rfl (ha.ext (ext_trans hb3 B4)) (by omega)).mono ?_
      rintro e w5 ⟨rfl, B5⟩
      go_wp2_with fail
      go_ret
      exact ⟨rfl, ext_alloc (ext_trans (ext_trans hb3 B4) B5) _⟩
    have HC : Hid (CanIssue l fl o m) := ⟨hr0, hr1, hr2, by omega, hfm, HL.out, by rw [HI.out]⟩
    have HIY := Lib.hid (issue_yes HV.out HC.out)
    have HIF : Hid (inForce (l ++ [newC l fl o m]) fl = (newC l fl o m, true)) := inForce_is (x := newC l fl o m) (k := l.length) HIY.out.1 (by simp) rfl
    go_wp2_with fail
    refine (issue_at (l ++ [newC l fl o m], 0) HIY.out.2 rfl (ha.ext hb3) (by omega) hc).mono ?_
    rintro e w4 ⟨A4, k4, rfl, S4, hk4, B4⟩
    have hb4 := ext_trans hb3 B4
    have O4 := HO3.out.ext s3 B4
    have s4 : w.heap.size < w4.heap.size := Nat.lt_of_lt_of_le s3 B4.size
    have HO4 := Lib.hid O4
    clear O4 u0 u1' u2' u3
    have hn4 : (l ++ [newC l fl o m]).length < 1000000 := by simp; omega
    go_wp2_with fail
    refine (inForce_at (ci, false) HI.out rfl (ha.ext hb4) (by omega)).mono ?_
    rintro e w5 ⟨rfl, B5⟩
    have B5a := ext_trans B5 (ext_alloc (ext_refl w5) (.cells ci.cells.toArray 31))
    have hb5 := ext_trans hb4 B5a
    go_wp2_with fail
    refine (inForce_at (newC l fl o m, true) HIF.out (by simp) (S4.ext B5a) hn4).mono ?_
    rintro e w6 ⟨rfl, B6⟩
    have B6a := ext_trans B6 (ext_alloc (ext_refl w6) (.cells (newC l fl o m).cells.toArray 31))
    have hb6 := ext_trans hb5 B6a
    have HOa := HO4.out.ext s4 (ext_trans B5a B6a)
    have s6 : w.heap.size < (w6.alloc (.cells (newC l fl o m).cells.toArray 31)).heap.size := Nat.lt_of_lt_of_le s4 (ext_trans B5a B6a).size
    obtain ⟨⟨ca, ba⟩, hA⟩ : ∃ r, inForce l ot = r := ⟨_, rfl⟩
    have HA := Lib.hid hA
    clear hA
    obtain ⟨⟨cb, bb⟩, hB⟩ : ∃ r, inForce (l ++ [newC l fl o m]) ot = r := ⟨_, rfl⟩
    have HB := Lib.hid hB
    clear hB
    have HO6 := Lib.hid HOa
    clear HOa
    generalize hnc : newC l fl o m = nc at *
    go_wp2_with fail
    refine (inForce_at (ca, ba) HA.out rfl (ha.ext hb6) (by omega)).mono ?_
    rintro e w7 ⟨rfl, B7⟩
    have N7 := ClrAt.new w6 w7 nc B7
    have s67 : w6.heap.size < w7.heap.size := by have := B7.size; simp at this; omega
    have O7 := HO6.out.ext s6 B7
    have s7 : w.heap.size < w7.heap.size := Nat.lt_of_lt_of_le s6 B7.size
    have hb7 := ext_trans hb6 B7
    have B7a := ext_trans B7 (ext_alloc (ext_refl w7) (.cells ca.cells.toArray 31))
    have HN7 := Lib.hid N7
    have HO7 := Lib.hid O7
    clear N7 O7
    go_wp2_with fail
    refine (inForce_at (cb, bb) HB.out (by simp) ((S4.ext (ext_trans B5a B6a)).ext B7a) hn4).mono ?_
    rintro e w8 ⟨rfl, B8⟩
    have hb8 := ext_trans (ext_alloc hb7 _) B8
    have B78 := ext_trans (ext_alloc (ext_refl w7) _) B8
    have N8 := HN7.out.ext s67 B78
    have O8 := HO7.out.ext s7 B78
    have M8 := ClrAt.new w7 w8 ca B8
    have s78 : w7.heap.size < w8.heap.size := by have := B8.size; simp at this; omega
    obtain ⟨n0, n1, n2, n3, n4, n5, n6, n7, n8⟩ := N8.all
    obtain ⟨v0, v1, v2, v3⟩ := O8
    obtain ⟨m0, m1, m2, m3, m4, m5, m6, m7, m8⟩ := M8.all
    have heq : ∀ w, (binOp .eql 31 nc.v (.agg #[.int .i64 l.length, .int .i64 fl, .int .i64 m, .int .i64 o.d, .int .i64 o.y, .int .i64 o.h, .bool o.c, .bool false, .bool false])).run Try.prog w = .ok (.bool true) w := by
      intro w
      have := run_eql31 nc (newC l fl o m) w
      rw [hnc] at this
      simp only [decide_true] at this
      rw [← this, ← hnc]; rfl
    have s8 : w.heap.size < w8.heap.size := Nat.lt_of_lt_of_le s7 B78.size
    have s68 : w6.heap.size < w8.heap.size := Nat.lt_of_lt_of_le s67 B78.size
    clear N8 M8
    have HNC2 := Lib.hid hnc
    clear hnc
    by_cases hot : ot = fl
    · have hot' : (ot == fl) = true := by simp [hot]
      clear hot
      go_wp2_with fail
      go_ret
      exact ⟨rfl, ext_alloc hb8 _⟩
    · have hot' : (ot == fl) = false := by simp [hot]
      have hsm : (cb, bb) = (ca, ba) := by
        rw [← HB.out, ← HA.out]; exact inForce_other (by rw [← HNC2.out]; exact fun h => hot h.symm)
      injection hsm with e1 e2
      subst e1 e2
      have heq2 := fun w => run_eql31 cb cb w
      simp only [decide_true] at heq2
      clear hot
      go_wp2_with fail
      go_ret
      exact ⟨by simp, ext_alloc hb8 _⟩
theorem walk6 (s : SliceOf Clr) (fl ot : Int) (o : Opt) (m : Int) (w : World) (ok : SliceOf.ok Clr.cells 9 (fun _ _ => True) w s) (_ : True) :
    Calls Try.prog 6 #[.slice s.A s.l.length s.c, .int .i64 fl, .int .i64 ot, .agg o.cells.toArray, .int .i64 m] w fun e w' => e = .returned (.bool true) ∧ Below w.heap.size w w' :=
  law6 s.A s.c s.l fl ot o m w ok.1 ok.2.1
end Go.Proofs.Ytjebmcbpiobbaaa
