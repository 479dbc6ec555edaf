import Derived.Test.YtlnfjdbdgcafbaaO
namespace Go.Proofs.Ytlnfjdbdgcafbaa
open Go.RowKit
theorem few_at {k : Kd} {w : World} (hk : k.ok w) (hn : k.cur.l.length ≤ maxLen) : Calls Try.prog 9 #[.agg #[.int .i64 k.slow, .int .i64 k.fast, .int .i64 k.places, .int .i64 k.weight, .int .i64 k.longest, .slice k.cur.A k.cur.l.length k.cur.c]] w fun e w' => e = .returned (.bool (fewK k)) ∧ Below w.heap.size w w' := few_any k w hk hn
set_option maxHeartbeats 3200000 in
set_option maxRecDepth 100000 in
theorem law3 (k : Kd) (n : Int) (w : World) (hk : k.ok w) (hl : k.cur.l.length ≤ maxLen) : Calls Try.prog 3 #[k.v, .int .i64 n] w (Tru w) := by
  obtain ⟨⟨b, er⟩, hr⟩ : ∃ r, bound k n = r := ⟨_, rfl⟩
  have HR := Lib.hid hr
  have HL := Lib.hid hl
  clear hr hl
  go_enter Try.func3, Try.ntmps3
  go_wp2_with fail
  refine (sane_any _).mono ?_
  rintro e w1 ⟨rfl, B1⟩
  have hb1 : Below w.heap.size w w1 := ext_trans (ext_alloc (ext_refl w) _) B1
  have N1 := (KdAt.new w k 24).ext (by simp) B1
  have s1 : w.heap.size < w1.heap.size := by have := B1.size; simp at this; omega
  clear B1
  obtain ⟨n0, n1, n2, n3, n4, n5⟩ := N1.all
  go_wp2_with fail
  refine (few_at (hk.ext hb1) HL.out).mono ?_
  rintro e w2 ⟨rfl, B2⟩
  have hb2 := ext_trans hb1 B2
  have N2 := N1.ext s1 B2
  have s2 : w.heap.size < w2.heap.size := Nat.lt_of_lt_of_le s1 B2.size
  clear n0 n1 n2 n3 n4 n5 N1 B2 s1
  cases hf : fewK k
  · go_wp2_with fail
    go_ret
    exact ⟨rfl, hb2⟩
  obtain ⟨n0, n1, n2, n3, n4, n5⟩ := N2.all
  have HFW := Lib.hid (fewK_few hf)
  go_wp2_with fail
  refine (bound_at (b, er) HR.out (hk.ext hb2) HFW.out).mono ?_
  rintro e w3 ⟨rfl, B3⟩
  have hb3 := ext_trans hb2 B3
  have N3 := N2.ext s2 B3
  have s3 : w.heap.size < w3.heap.size := Nat.lt_of_lt_of_le s2 B3.size
  clear n0 n1 n2 n3 n4 n5 N2 B3 s2
  by_cases he : er = 0
  rotate_left
  · have hb := bound_err HR.out he
    subst hb
    have he' : (er != 0) = true := by simp [he]
    have heq := fun w => run_eql28 ⟨0, 0⟩ ⟨0, 0⟩ w
    simp only [decide_true] at heq
    clear he N3
    go_wp2_with fail
    go_ret
    exact ⟨rfl, ext_alloc hb3 _⟩
  subst he
  obtain ⟨hv, h1, h2, hb⟩ := bound_ok HR.out
  obtain ⟨q1, q2, q3, q4, q5, q6, q7⟩ := bnd_facts hv h1
  rw [← hb] at q1 q2 q3 q4 q5 q6 q7
  have R := vld_rng hv
  have r0 := R.s0
  have r1 := R.s1
  have r2 := R.f0
  have r3 := R.f1
  obtain ⟨m0, m1⟩ := mul_range (a := b.lo) (b := k.fast) (A := 4096) (B := 64) (by omega) (by omega) (by omega) (by omega)
  obtain ⟨m2, m3⟩ := mul_range (a := b.lo - 1) (b := k.fast) (A := 4096) (B := 64) (by omega) (by omega) (by omega) (by omega)
  obtain ⟨m4, m5⟩ := mul_range (a := b.hi) (b := k.slow) (A := 4096) (B := 64) (by omega) (by omega) (by omega) (by omega)
  obtain ⟨m6, m7⟩ := mul_range (a := b.hi - 1) (b := k.slow) (A := 4096) (B := 64) (by omega) (by omega) (by omega) (by omega)
  simp only [show (4096 : Int) * 64 = 262144 from rfl] at m1 m3 m5 m7
  obtain ⟨n0, n1, n2, n3, n4, n5⟩ := N3.all
  clear R hb
  go_wp2_with fail
  all_goals first | (exfalso; omega) | skip
  all_goals
    go_ret
    exact ⟨by simp, ext_alloc hb3 _⟩
theorem walk3 (k : Kd) (n : Int) (w : World) (ok : k.ok w ∧ k.cur.l.length ≤ maxLen) :
    Calls Try.prog 3 #[.agg k.cells.toArray, .int .i64 n] w fun e w' => e = .returned (.bool true) ∧ Below w.heap.size w w' :=
  law3 k n w ok.1 ok.2
end Go.Proofs.Ytlnfjdbdgcafbaa
