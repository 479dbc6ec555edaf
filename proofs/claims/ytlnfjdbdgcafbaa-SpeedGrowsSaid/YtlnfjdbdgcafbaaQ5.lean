import Derived.Test.YtlnfjdbdgcafbaaQ4
namespace Go.Proofs.Ytlnfjdbdgcafbaa
open Go.RowKit
set_option maxHeartbeats 3200000 in
set_option maxRecDepth 100000 in
theorem law5 (k : Kd) (m n : Int) (w : World) (hk : k.ok w) (hl : k.cur.l.length ≤ maxLen) : Calls Try.prog 5 #[k.v, .int .i64 m, .int .i64 n] w (Tru w) := by
  obtain ⟨⟨b2, er2⟩, hr2⟩ : ∃ r, bound k n = r := ⟨_, rfl⟩
  have HR2 := Lib.hid hr2
  clear hr2
  obtain ⟨⟨b, er⟩, hr⟩ : ∃ r, bound k m = r := ⟨_, rfl⟩
  have HR := Lib.hid hr
  have HL := Lib.hid hl
  clear hr hl
  go_enter Try.func5, Try.ntmps5
  go_wp2_with fail
  refine (sane_any _).mono ?_
  rintro e w1 ⟨rfl, B1⟩
  have hb1 : Below w.heap.size w w1 := ext_trans (ext_alloc (ext_refl w) _) B1
  have N1 := (KdAt.new w k 24).ext (by simp) B1
  have s1 : w.heap.size < w1.heap.size := by have := B1.size; simp at this; omega
  clear B1
  obtain ⟨n0, n1, n2, n3, n4, n5⟩ := N1.all
  go_wp2_with fail
  refine (few_at (hk.ext hb1) HL.out).mono ?_
  rintro e w2 ⟨rfl, B2⟩
  have hb2 := ext_trans hb1 B2
  have N2 := N1.ext s1 B2
  have s2 : w.heap.size < w2.heap.size := Nat.lt_of_lt_of_le s1 B2.size
  clear n0 n1 n2 n3 n4 n5 N1 B2 s1
  cases hf : fewK k
  · go_wp2_with fail
    go_ret
    exact ⟨rfl, hb2⟩
  obtain ⟨n0, n1, n2, n3, n4, n5⟩ := N2.all
  have HFW := Lib.hid (fewK_few hf)
  go_wp2_with fail
  refine (bound_at (b, er) HR.out (hk.ext hb2) HFW.out).mono ?_
  rintro e w3 ⟨rfl, B3⟩
  have hb3 := ext_trans hb2 B3
  have N3 := N2.ext s2 B3
  have s3 : w.heap.size < w3.heap.size := Nat.lt_of_lt_of_le s2 B3.size
  clear n0 n1 n2 n3 n4 n5 N2 B3 s2
  obtain ⟨n0, n1, n2, n3, n4, n5⟩ := N3.all
  have A3 := ba w3 b
  have NB := BdAt.new w3 b
  have hb3a := ext_trans hb3 A3
  have N3a := N3.ext s3 A3
  have s3a : w.heap.size < (w3.alloc (.cells #[.int .i64 b.lo, .int .i64 b.hi] 28)).heap.size := by simp; omega
  clear N3
  go_wp2_with fail
  refine (bound_at (b2, er2) HR2.out (hk.ext hb3a) HFW.out).mono ?_
  rintro e w4 ⟨rfl, B4⟩
  have NB4 := NB.ext (by simp) B4
  have N4 := N3a.ext s3a B4
  have s34 : w3.heap.size < w4.heap.size := by have := B4.size; simp at this; omega
  have s4 : w.heap.size < w4.heap.size := by omega
  have hb4 := ext_trans hb3a B4
  obtain ⟨m0, m1⟩ := NB4
  clear n0 n1 n2 n3 n4 n5 NB N3a s3a B4 A3 hb3a
  by_cases he : er = 0
  rotate_left
  · have he' : (er != 0) = true := by simp [he]
    clear he
    go_wp2_with fail
    go_ret
    exact ⟨rfl, ext_alloc hb4 _⟩
  subst he
  by_cases he2 : er2 = 0
  rotate_left
  · have he' : (er2 != 0) = true := by simp [he2]
    clear he2
    go_wp2_with fail
    go_ret
    exact ⟨rfl, ext_alloc hb4 _⟩
  subst he2
  obtain ⟨hv, h1, h2, hb⟩ := bound_ok HR.out
  obtain ⟨_, h3, h4, hb'⟩ := bound_ok HR2.out
  have Rr := vld_rng hv
  have rs := Rr.s0
  have rf : 1 ≤ k.fast := by have := Rr.f0; omega
  obtain ⟨q1, q2, q3, _⟩ := bnd_facts hv h1
  obtain ⟨t1, t2, t3, _⟩ := bnd_facts hv h3
  rw [← hb] at q1 q2 q3
  rw [← hb'] at t1 t2 t3
  have hm1 : m ≤ n → b.lo ≤ b2.lo ∧ b.hi ≤ b2.hi := fun h => by rw [hb, hb']; exact ⟨mins_mono h1 rf h, mins_mono h1 rs h⟩
  have c1 : m ≤ n → ¬ b2.lo < b.lo := fun h => by have := (hm1 h).1; omega
  have c2 : m ≤ n → ¬ b2.hi < b.hi := fun h => by have := (hm1 h).2; omega
  have HMONO := Lib.hid hm1
  obtain ⟨n0, n1, n2, n3, n4, n5⟩ := N4.all
  have A4 := ba w4 b2
  have NB2 := BdAt.new w4 b2
  have hb4a := ext_trans hb4 A4
  have hadd : 0 ≤ b.lo + b2.lo - (bnd k (m + n)).lo ∧ b.lo + b2.lo - (bnd k (m + n)).lo ≤ 1 := by rw [hb, hb']; exact mins_add h1 h3 rf
  have hadd2 : 0 ≤ b.hi + b2.hi - (bnd k (m + n)).hi ∧ b.hi + b2.hi - (bnd k (m + n)).hi ≤ 1 := by rw [hb, hb']; exact mins_add h1 h3 rs
  clear hm1 Rr hb hb'
  obtain ⟨⟨b3, er3⟩, hr3⟩ : ∃ r, bound k (m + n) = r := ⟨_, rfl⟩
  have HR3 := Lib.hid hr3
  clear hr3
  have hsp : (m ≤ n ∧ b.lo ≤ b2.lo ∧ b.hi ≤ b2.hi) ∨ n < m := by
    by_cases h : m ≤ n
    · exact .inl ⟨h, HMONO.out h⟩
    · exact .inr (by omega)
  clear c1 c2
  rcases hsp with ⟨g1, g2, g3⟩ | g1
  all_goals
    go_wp2_with fail
    all_goals first | (exfalso; omega) | skip
    refine (bound_at (b3, er3) HR3.out (hk.ext hb4a) HFW.out).mono ?_
    rintro e w5 ⟨rfl, B5⟩
    have hb5 := ext_trans hb4a B5
    obtain ⟨p0, p1⟩ := NB2.ext (by simp) B5
    have o0 := ((ext_trans A4 B5).cell (p := ⟨w3.heap.size, 0, none⟩) s34).trans m0
    have o1 := ((ext_trans A4 B5).cell (p := ⟨w3.heap.size, 1, none⟩) s34).trans m1
    have s45 : w4.heap.size < w5.heap.size := by have := B5.size; simp at this; omega
    have s35 : w3.heap.size < w5.heap.size := by omega
    clear n0 n1 n2 n3 n4 n5 m0 m1
    by_cases hsum : m + n ≤ 4096
    · have e3 : (b3, er3) = (bnd k (m + n), 0) := by rw [← HR3.out]; exact bound_yes hv (by omega) hsum
      injection e3 with e3 e4
      subst e4
      rw [← e3] at hadd hadd2
      obtain ⟨u1, u2⟩ := hadd
      obtain ⟨u3, u4⟩ := hadd2
      have f1 := (bnd_facts hv (show 1 ≤ m + n by omega)).1
      have f2 := (bnd_facts hv (show 1 ≤ m + n by omega)).2.1
      have f3 := (bnd_facts hv (show 1 ≤ m + n by omega)).2.2.1
      rw [← e3] at f1 f2 f3
      have l1 : IntKind.i64.wrap (b.lo + b2.lo) = b.lo + b2.lo := IntWalk.i64_in _ (by omega)
      have l2 : IntKind.i64.wrap (b.hi + b2.hi) = b.hi + b2.hi := IntWalk.i64_in _ (by omega)
      have l3 : IntKind.i64.wrap (b.lo + b2.lo - b3.lo) = b.lo + b2.lo - b3.lo := IntWalk.i64_in _ (by omega)
      have l4 : IntKind.i64.wrap (b.hi + b2.hi - b3.hi) = b.hi + b2.hi - b3.hi := IntWalk.i64_in _ (by omega)
      have y1 : decide (0 ≤ b.lo + b2.lo - b3.lo) = true := decide_eq_true u1
      have y2 : decide (b.lo + b2.lo - b3.lo ≤ 1) = true := decide_eq_true u2
      have y3 : decide (0 ≤ b.hi + b2.hi - b3.hi) = true := decide_eq_true u3
      have y4 : decide (b.hi + b2.hi - b3.hi ≤ 1) = true := decide_eq_true u4
      clear e3
      go_wp2_with fail
      go_quiet (fail)
      clear l1 l2 l3 l4
      go_wp2_with fail
      all_goals first | (exfalso; omega) | skip
      all_goals
        go_ret
        exact ⟨by simp <;> omega, ext_drewN (ext_alloc hb5 _) _⟩
    · have e3 : (b3, er3) = (⟨0, 0⟩, 1) := by rw [← HR3.out]; exact bound_no hv (by omega)
      injection e3 with e3 e4
      subst e3 e4
      go_wp2_with fail
      all_goals first | (exfalso; omega) | skip
      all_goals
        go_ret
        exact ⟨by simp <;> omega, ext_alloc hb5 _⟩
theorem walk5 (k : Kd) (m n : Int) (w : World) (ok : k.ok w ∧ k.cur.l.length ≤ maxLen) :
    Calls Try.prog 5 #[.agg k.cells.toArray, .int .i64 m, .int .i64 n] w fun e w' => e = .returned (.bool true) ∧ Below w.heap.size w w' :=
  law5 k m n w ok.1 ok.2
end Go.Proofs.Ytlnfjdbdgcafbaa
