import Derived.Test.YtlnfjdbdgcafbaaQ4
namespace Go.Proofs.Ytlnfjdbdgcafbaa
open Go.RowKit
set_option maxHeartbeats 3200000 in
set_option maxRecDepth 100000 in
theorem law7 (k h : Kd) (n : Int) (w : World) (hk : k.ok w) (hl : k.cur.l.length ≤ maxLen) (hh : h.ok w) (hhl : h.cur.l.length ≤ maxLen) : Calls Try.prog 7 #[k.v, h.v, .int .i64 n] w (Tru w) := by
  obtain ⟨⟨b, er⟩, hr⟩ : ∃ r, bound k n = r := ⟨_, rfl⟩
  have HR := Lib.hid hr
  obtain ⟨⟨c, es⟩, hs⟩ : ∃ r, bound h n = r := ⟨_, rfl⟩
  have HS := Lib.hid hs
  have HL := Lib.hid hl
  have HHL := Lib.hid hhl
  clear hr hl hs hhl
  go_enter Try.func7, Try.ntmps7
  go_wp2_with fail
  refine (sane_any _).mono ?_
  rintro e w1 ⟨rfl, B1⟩
  have hb1 : Below w.heap.size w w1 := ext_trans (ext_alloc (ext_alloc (ext_refl w) _) _) B1
  have N1 := ((KdAt.new w k 24).ext (by simp) (ext_alloc (ext_refl _) _)).ext (by simp; omega) B1
  have M1 : KdAt w1 (w.heap.size + 1) h := by
    have := (KdAt.new (w.alloc (.cells #[.int .i64 k.slow, .int .i64 k.fast, .int .i64 k.places, .int .i64 k.weight, .int .i64 k.longest, .slice k.cur.A k.cur.l.length k.cur.c] 24)) h 24).ext (by simp) B1
    rwa [World.size_alloc] at this
  have s1 : w.heap.size + 1 < w1.heap.size := by have := B1.size; simp at this; omega
  clear B1
  obtain ⟨n0, n1, n2, n3, n4, n5⟩ := N1.all
  go_wp2_with fail
  refine (few_at (hk.ext hb1) HL.out).mono ?_
  rintro e w2 ⟨rfl, B2⟩
  have hb2 := ext_trans hb1 B2
  have N2 := N1.ext (by omega) B2
  have M2 := M1.ext s1 B2
  have s2 : w.heap.size + 1 < w2.heap.size := Nat.lt_of_lt_of_le s1 B2.size
  clear n0 n1 n2 n3 n4 n5 N1 M1 B2 s1
  cases hf : fewK k
  · go_wp2_with fail
    go_ret
    exact ⟨rfl, hb2⟩
  obtain ⟨n0, n1, n2, n3, n4, n5⟩ := M2.all
  go_wp2_with fail
  refine (few_at (hh.ext hb2) HHL.out).mono ?_
  rintro e w3 ⟨rfl, B3⟩
  have hb3 := ext_trans hb2 B3
  have N3 := N2.ext (by omega) B3
  have M3 := M2.ext s2 B3
  have s3 : w.heap.size + 1 < w3.heap.size := Nat.lt_of_lt_of_le s2 B3.size
  clear n0 n1 n2 n3 n4 n5 N2 M2 B3 s2
  cases hg : fewK h
  · go_wp2_with fail
    go_ret
    exact ⟨rfl, hb3⟩
  obtain ⟨n0, n1, n2, n3, n4, n5⟩ := N3.all
  obtain ⟨m0, m1, m2, m3, m4, m5⟩ := M3.all
  have HFW := Lib.hid (fewK_few hf)
  have HGW := Lib.hid (fewK_few hg)
  by_cases hsf : k.slow ≤ h.slow ∧ k.fast ≤ h.fast
  rotate_left
  · go_wp2_with fail
    all_goals first | (exfalso; omega) | skip
    all_goals
      go_ret
      exact ⟨rfl, hb3⟩
  obtain ⟨g1, g2⟩ := hsf
  go_wp2_with fail
  refine (bound_at (b, er) HR.out (hk.ext hb3) HFW.out).mono ?_
  rintro e w4 ⟨rfl, B4⟩
  have hb4 := ext_trans hb3 B4
  have A4 := ba w4 b
  have NB := BdAt.new w4 b
  have M4 := M3.ext s3 B4
  have s4 : w.heap.size + 1 < w4.heap.size := Nat.lt_of_lt_of_le s3 B4.size
  clear n0 n1 n2 n3 n4 n5 m0 m1 m2 m3 m4 m5 N3 M3
  obtain ⟨m0, m1, m2, m3, m4, m5⟩ := M4.all
  go_wp2_with fail
  refine (bound_at (c, es) HS.out (hh.ext (ext_trans hb4 A4)) HGW.out).mono ?_
  rintro e w5 ⟨rfl, B5⟩
  have hb5 := ext_trans (ext_trans hb4 A4) B5
  obtain ⟨p0, p1⟩ := NB.ext (by simp) B5
  have s45 : w4.heap.size < w5.heap.size := by have := B5.size; simp at this; omega
  clear m0 m1 m2 m3 m4 m5
  by_cases he : er = 0
  rotate_left
  · have he' : (er != 0) = true := by simp [he]
    clear he
    go_wp2_with fail
    go_ret
    exact ⟨rfl, ext_alloc hb5 _⟩
  subst he
  by_cases he2 : es = 0
  rotate_left
  · have he' : (es != 0) = true := by simp [he2]
    clear he2
    go_wp2_with fail
    go_ret
    exact ⟨rfl, ext_alloc hb5 _⟩
  subst he2
  obtain ⟨hv, h1, h2, hb⟩ := bound_ok HR.out
  obtain ⟨hv2, _, _, hc⟩ := bound_ok HS.out
  have Rr := vld_rng hv
  have y1 : c.lo ≤ b.lo := by rw [hb, hc]; exact mins_anti h1 (by have := Rr.s0; have := Rr.f0; omega) g2
  have y2 : c.hi ≤ b.hi := by rw [hb, hc]; exact mins_anti h1 Rr.s0 g1
  clear hb hc Rr
  go_wp2_with fail
  all_goals first | (exfalso; omega) | skip
  all_goals
    go_ret
    exact ⟨by simp <;> omega, ext_alloc hb5 _⟩
theorem walk7 (k h : Kd) (n : Int) (w : World) (ok : k.ok w ∧ k.cur.l.length ≤ maxLen) (ok2 : h.ok w ∧ h.cur.l.length ≤ maxLen) :
    Calls Try.prog 7 #[.agg k.cells.toArray, .agg h.cells.toArray, .int .i64 n] w fun e w' => e = .returned (.bool true) ∧ Below w.heap.size w w' :=
  law7 k h n w ok.1 ok.2 ok2.1 ok2.2
end Go.Proofs.Ytlnfjdbdgcafbaa
