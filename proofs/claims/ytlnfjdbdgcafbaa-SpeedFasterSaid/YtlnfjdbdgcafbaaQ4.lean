import Derived.Test.YtlnfjdbdgcafbaaQ3
namespace Go.Proofs.Ytlnfjdbdgcafbaa
open Go.RowKit
set_option maxHeartbeats 3200000 in
set_option maxRecDepth 100000 in
theorem law4 (k : Kd) (n v : Int) (w : World) (hk : k.ok w) (hl : k.cur.l.length ≤ maxLen) : Calls Try.prog 4 #[k.v, .int .i64 n, .int .i64 v] w (Tru w) := by
  obtain ⟨⟨b, er⟩, hr⟩ : ∃ r, bound k n = r := ⟨_, rfl⟩
  have HR := Lib.hid hr
  have HL := Lib.hid hl
  clear hr hl
  go_enter Try.func4, Try.ntmps4
  go_wp2_with fail
  refine (sane_any _).mono ?_
  rintro e w1 ⟨rfl, B1⟩
  have hb1 : Below w.heap.size w w1 := ext_trans (ext_alloc (ext_refl w) _) B1
  have N1 := (KdAt.new w k 24).ext (by simp) B1
  have s1 : w.heap.size < w1.heap.size := by have := B1.size; simp at this; omega
  clear B1
  obtain ⟨n0, n1, n2, n3, n4, n5⟩ := N1.all
  go_wp2_with fail
  refine (few_at (hk.ext hb1) HL.out).mono ?_
  rintro e w2 ⟨rfl, B2⟩
  have hb2 := ext_trans hb1 B2
  have N2 := N1.ext s1 B2
  have s2 : w.heap.size < w2.heap.size := Nat.lt_of_lt_of_le s1 B2.size
  clear n0 n1 n2 n3 n4 n5 N1 B2 s1
  cases hf : fewK k
  · go_wp2_with fail
    go_ret
    exact ⟨rfl, hb2⟩
  obtain ⟨n0, n1, n2, n3, n4, n5⟩ := N2.all
  have HFW := Lib.hid (fewK_few hf)
  go_wp2_with fail
  refine (bound_at (b, er) HR.out (hk.ext hb2) HFW.out).mono ?_
  rintro e w3 ⟨rfl, B3⟩
  have hb3 := ext_trans hb2 B3
  have N3 := N2.ext s2 B3
  have s3 : w.heap.size < w3.heap.size := Nat.lt_of_lt_of_le s2 B3.size
  clear n0 n1 n2 n3 n4 n5 N2 B3 s2
  obtain ⟨n0, n1, n2, n3, n4, n5⟩ := N3.all
  by_cases he : er = 0
  rotate_left
  · have he' : (er != 0) = true := by simp [he]
    clear he N3
    go_wp2_with fail
    go_ret
    exact ⟨rfl, ext_alloc hb3 _⟩
  subst he
  by_cases hv : k.slow ≤ v ∧ v ≤ k.fast
  rotate_left
  · clear N3
    go_wp2_with fail
    all_goals first | (exfalso; omega) | skip
    all_goals
      go_ret
      exact ⟨rfl, ext_alloc hb3 _⟩
  obtain ⟨v1, v2⟩ := hv
  obtain ⟨hvl, h1, h2, hb⟩ := bound_ok HR.out
  have hy := bound_yes (vld_at hvl v1 v2) h1 h2
  obtain ⟨z1, z2⟩ := between hvl h1 v1 v2
  rw [← hb] at z1 z2
  have HY := Lib.hid hy
  have hbb : (bnd (k.at_ v) n).lo = (bnd (k.at_ v) n).hi := rfl
  obtain ⟨x, hx⟩ : ∃ x, bnd (k.at_ v) n = x := ⟨_, rfl⟩
  rw [hx] at z1 z2 hbb
  have HX := Lib.hid hx
  have hxx : (x.lo == x.hi) = true := by simp [hbb]
  have HB3 := Lib.hid (ext_alloc hb3 (.cells #[.int .i64 b.lo, .int .i64 b.hi] 28))
  have NB := BdAt.new w3 b
  have HBB := Lib.hid hbb
  clear hy hx hb hbb
  go_wp2_with fail
  refine (bound_at (k := k.at_ v) (x, 0) (by rw [HY.out, HX.out]) (Kd.ok.ext (k := k) hk (ext_alloc HB3.out _)) HFW.out).mono ?_
  rintro e w4 ⟨rfl, B4⟩
  obtain ⟨m0, m1⟩ := (NB.ext (by simp) (ext_alloc (ext_refl _) _)).ext (by simp; omega) B4
  have s34 : w3.heap.size < w4.heap.size := by have := B4.size; simp at this; omega
  have hb4 := ext_trans (ext_alloc HB3.out _) B4
  clear n0 n1 n2 n3 n4 n5 N3 NB
  go_wp2_with fail
  all_goals first | (exfalso; omega) | skip
  all_goals
    go_ret
    exact ⟨by simp, ext_alloc hb4 _⟩
theorem walk4 (k : Kd) (n v : Int) (w : World) (ok : k.ok w ∧ k.cur.l.length ≤ maxLen) :
    Calls Try.prog 4 #[.agg k.cells.toArray, .int .i64 n, .int .i64 v] w fun e w' => e = .returned (.bool true) ∧ Below w.heap.size w w' :=
  law4 k n v w ok.1 ok.2
end Go.Proofs.Ytlnfjdbdgcafbaa
