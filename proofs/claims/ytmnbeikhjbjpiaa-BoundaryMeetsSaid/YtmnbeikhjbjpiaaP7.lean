/- Contracts: an offer is made, the reference's. -/
import Derived.Test.YtmnbeikhjbjpiaaP6
import Derived.Test.YtmnbeikhjbjpiaaO
set_option linter.unusedSimpArgs false
set_option linter.unusedVariables false
namespace Go.Proofs.Ytmnbeikhjbjpiaa
open Go.RowKit
theorem great_gt {n : Int} {l : List Ag} {k : Nat} {x : Ag} (hx : l[k]? = some x) (h : great n (l.take k) < x.no) : great n (l.take (k + 1)) = x.no := by rw [great_take hx]; omega
theorem great_le2 {n : Int} {l : List Ag} {k : Nat} {x : Ag} (hx : l[k]? = some x) (h : ¬ great n (l.take k) < x.no) : great n (l.take (k + 1)) = great n (l.take k) := by rw [great_take hx]; omega
set_option maxHeartbeats 1600000 in
set_option maxRecDepth 100000 in
theorem roffer_any (b : Bd) (f t m r : Int) (w : World) (hb : BOk w b) (hl : b.ag.l.length ≤ 1000 ∧ b.op.l.length ≤ 1000) :
    Calls Try.prog 13 #[b.v, .int .i64 f, .int .i64 t, .int .i64 m, .int .i64 r] w (BaR w b.off (b.bl.offB f t m r) (b.bl.offX f t m r) (b.bl.offE f t m r)) := by
  have hagl := maxLen_of hb.agl hb.agc
  have hopl := maxLen_of hb.opl hb.opc
  have HOFF := Lib.hid (fun c (h : w.heap.size ≤ c) => hb.off h)
  have HLL := Lib.hid hl
  clear hl
  have HCP := Lib.hid (show _ ∧ _ from ⟨hb.opl, hb.opc⟩)
  obtain ⟨v, hv⟩ : ∃ v, b.bl.ok = v := ⟨_, rfl⟩
  obtain ⟨ft, hft⟩ : ∃ v, fits b.own b.ot ⟨1, f, t, m, r⟩ = v := ⟨_, rfl⟩
  obtain ⟨err, herr⟩ : ∃ e, b.bl.offE f t m r = e := ⟨_, rfl⟩
  have HZ := Lib.hid (show err ≠ 0 → b.bl.offB f t m r = zeroB ∧ b.bl.offX f t m r = zeroA from fun h => by unfold Bl.offB Bl.offX; rw [herr, if_neg h, if_neg h]; exact ⟨rfl, rfl⟩)
  have HV := Lib.hid hv
  have HFT := Lib.hid hft
  have HE := Lib.hid herr
  rw [herr]
  clear hv hft herr
  cases v
  · have E := Lib.hid (ext_refl w)
    have HB := Lib.hid (hb)
    clear hb
    replace E := Lib.hid (ext_alloc E.out (.cells #[.int .i64 b.own, .int .i64 b.ot, .slice b.ag.A b.ag.l.length b.ag.c, .slice b.op.A b.op.l.length b.op.c] 24))
    replace HB := Lib.hid (HB.out.alloc (.cells #[.int .i64 b.own, .int .i64 b.ot, .slice b.ag.A b.ag.l.length b.ag.c, .slice b.op.A b.op.l.length b.op.c] 24))
    have BB := Lib.hid (Blk.newH w [.int .i64 b.own, .int .i64 b.ot, .slice b.ag.A b.ag.l.length b.ag.c, .slice b.op.A b.op.l.length b.op.c] 24 (w.heap.size) (by first | rfl | simp))
    replace E := Lib.hid (ext_alloc E.out (.cells #[.int .i64 0, .int .i64 0, .slice none 0 0, .slice none 0 0] 24))
    replace HB := Lib.hid (HB.out.alloc (.cells #[.int .i64 0, .int .i64 0, .slice none 0 0, .slice none 0 0] 24))
    replace BB := Lib.hid (BB.out.alloc (.cells #[.int .i64 0, .int .i64 0, .slice none 0 0, .slice none 0 0] 24))
    have R := Lib.hid (Blk.newH (w.alloc (.cells #[.int .i64 b.own, .int .i64 b.ot, .slice b.ag.A b.ag.l.length b.ag.c, .slice b.op.A b.op.l.length b.op.c] 24)) [.int .i64 0, .int .i64 0, .slice none 0 0, .slice none 0 0] 24 (w.heap.size + 1) (by first | rfl | simp))
    replace E := Lib.hid (ext_alloc E.out (.cells #[.int .i64 0, .int .i64 0, .int .i64 0, .int .i64 0, .int .i64 0] 26))
    replace HB := Lib.hid (HB.out.alloc (.cells #[.int .i64 0, .int .i64 0, .int .i64 0, .int .i64 0, .int .i64 0] 26))
    replace BB := Lib.hid (BB.out.alloc (.cells #[.int .i64 0, .int .i64 0, .int .i64 0, .int .i64 0, .int .i64 0] 26))
    replace R := Lib.hid (R.out.alloc (.cells #[.int .i64 0, .int .i64 0, .int .i64 0, .int .i64 0, .int .i64 0] 26))
    have RA := Lib.hid (Blk.newH ((w.alloc (.cells #[.int .i64 b.own, .int .i64 b.ot, .slice b.ag.A b.ag.l.length b.ag.c, .slice b.op.A b.op.l.length b.op.c] 24)).alloc (.cells #[.int .i64 0, .int .i64 0, .slice none 0 0, .slice none 0 0] 24)) [.int .i64 0, .int .i64 0, .int .i64 0, .int .i64 0, .int .i64 0] 26 (w.heap.size + 1 + 1) (by first | rfl | simp))
    go_enter Try.func13, Try.ntmps13
    have c0 := BB.out.c 0 _ rfl
    have c1 := BB.out.c 1 _ rfl
    have c2 := BB.out.c 2 _ rfl
    have c3 := BB.out.c 3 _ rfl
    go_wp2_with fail
    refine (rcheck_at 480 (chk_ok HV.out) HB.out).mono ?_
    rintro e v1 ⟨rfl, B⟩
    clear c0 c1 c2 c3
    replace E := Lib.hid (ext_trans E.out B)
    replace HB := Lib.hid (HB.out.ext B)
    replace BB := Lib.hid (BB.out.ext B)
    replace R := Lib.hid (R.out.ext B)
    replace RA := Lib.hid (RA.out.ext B)
    clear B
    have HERR := Lib.hid (show err = 480 by rw [← HE.out]; unfold Bl.offE; rw [HV.out]; rfl)
    have r0 := R.out.c 0 _ rfl
    have r1 := R.out.c 1 _ rfl
    have r2 := R.out.c 2 _ rfl
    have r3 := R.out.c 3 _ rfl
    have rf := R.out.f
    have rl := R.out.lt
    have ra0 := RA.out.c 0 _ rfl
    have ra1 := RA.out.c 1 _ rfl
    have ra2 := RA.out.c 2 _ rfl
    have ra3 := RA.out.c 3 _ rfl
    have ra4 := RA.out.c 4 _ rfl
    have raf := RA.out.f
    have ral := RA.out.lt
    replace E := Lib.hid (ext_set4 E.out (w.heap.size + 1) (.int .i64 0) (.int .i64 0) (.slice none 0 0) (.slice none 0 0) (by first | exact Nat.le_refl _ | omega | (simp; done) | (simp; omega)))
    replace HB := Lib.hid (HB.out.set4 (c := (w.heap.size + 1)) (.int .i64 0) (.int .i64 0) (.slice none 0 0) (.slice none 0 0) (HOFF.out _ (by omega)))
    replace BB := Lib.hid (BB.out.off4 (c := w.heap.size + 1) (.int .i64 0) (.int .i64 0) (.slice none 0 0) (.slice none 0 0) (by first | omega | (simp; done) | (simp; omega)))
    replace R := Lib.hid (R.out.put4 (.int .i64 0) (.int .i64 0) (.slice none 0 0) (.slice none 0 0))
    replace RA := Lib.hid (RA.out.off4 (c := w.heap.size + 1) (.int .i64 0) (.int .i64 0) (.slice none 0 0) (.slice none 0 0) (by first | omega | (simp; done) | (simp; omega)))
    unfold set4 at E HB BB R RA
    replace E := Lib.hid (ext_set5 E.out (w.heap.size + 1 + 1) (.int .i64 0) (.int .i64 0) (.int .i64 0) (.int .i64 0) (.int .i64 0) (by first | exact Nat.le_refl _ | omega | (simp; done) | (simp; omega)))
    replace HB := Lib.hid (HB.out.set5 (c := (w.heap.size + 1 + 1)) (.int .i64 0) (.int .i64 0) (.int .i64 0) (.int .i64 0) (.int .i64 0) (HOFF.out _ (by omega)))
    replace BB := Lib.hid (BB.out.off5 (c := w.heap.size + 1 + 1) (.int .i64 0) (.int .i64 0) (.int .i64 0) (.int .i64 0) (.int .i64 0) (by first | omega | (simp; done) | (simp; omega)))
    replace R := Lib.hid (R.out.off5 (c := w.heap.size + 1 + 1) (.int .i64 0) (.int .i64 0) (.int .i64 0) (.int .i64 0) (.int .i64 0) (by first | omega | (simp; done) | (simp; omega)))
    replace RA := Lib.hid (RA.out.put5 (.int .i64 0) (.int .i64 0) (.int .i64 0) (.int .i64 0) (.int .i64 0))
    unfold set5 at E HB BB R RA
    go_wp2_with fail
    refine bodyPost_ret (v := .tuple #[.agg #[.int .i64 0, .int .i64 0, .slice none 0 0, .slice none 0 0], .agg #[.int .i64 0, .int .i64 0, .int .i64 0, .int .i64 0, .int .i64 0], .int .i64 480]) (by simp [results, Try.results13, go_sem, *]) rfl ?_
    exact BaR.zero HERR.out HZ.out (by decide) rfl E.out
  have E := Lib.hid (ext_refl w)
  have HB := Lib.hid (hb)
  clear hb
  replace E := Lib.hid (ext_alloc E.out (.cells #[.int .i64 b.own, .int .i64 b.ot, .slice b.ag.A b.ag.l.length b.ag.c, .slice b.op.A b.op.l.length b.op.c] 24))
  replace HB := Lib.hid (HB.out.alloc (.cells #[.int .i64 b.own, .int .i64 b.ot, .slice b.ag.A b.ag.l.length b.ag.c, .slice b.op.A b.op.l.length b.op.c] 24))
  have BB := Lib.hid (Blk.newH w [.int .i64 b.own, .int .i64 b.ot, .slice b.ag.A b.ag.l.length b.ag.c, .slice b.op.A b.op.l.length b.op.c] 24 (w.heap.size) (by first | rfl | simp))
  replace E := Lib.hid (ext_alloc E.out (.cells #[.int .i64 0, .int .i64 0, .slice none 0 0, .slice none 0 0] 24))
  replace HB := Lib.hid (HB.out.alloc (.cells #[.int .i64 0, .int .i64 0, .slice none 0 0, .slice none 0 0] 24))
  replace BB := Lib.hid (BB.out.alloc (.cells #[.int .i64 0, .int .i64 0, .slice none 0 0, .slice none 0 0] 24))
  have R := Lib.hid (Blk.newH (w.alloc (.cells #[.int .i64 b.own, .int .i64 b.ot, .slice b.ag.A b.ag.l.length b.ag.c, .slice b.op.A b.op.l.length b.op.c] 24)) [.int .i64 0, .int .i64 0, .slice none 0 0, .slice none 0 0] 24 (w.heap.size + 1) (by first | rfl | simp))
  replace E := Lib.hid (ext_alloc E.out (.cells #[.int .i64 0, .int .i64 0, .int .i64 0, .int .i64 0, .int .i64 0] 26))
  replace HB := Lib.hid (HB.out.alloc (.cells #[.int .i64 0, .int .i64 0, .int .i64 0, .int .i64 0, .int .i64 0] 26))
  replace BB := Lib.hid (BB.out.alloc (.cells #[.int .i64 0, .int .i64 0, .int .i64 0, .int .i64 0, .int .i64 0] 26))
  replace R := Lib.hid (R.out.alloc (.cells #[.int .i64 0, .int .i64 0, .int .i64 0, .int .i64 0, .int .i64 0] 26))
  have RA := Lib.hid (Blk.newH ((w.alloc (.cells #[.int .i64 b.own, .int .i64 b.ot, .slice b.ag.A b.ag.l.length b.ag.c, .slice b.op.A b.op.l.length b.op.c] 24)).alloc (.cells #[.int .i64 0, .int .i64 0, .slice none 0 0, .slice none 0 0] 24)) [.int .i64 0, .int .i64 0, .int .i64 0, .int .i64 0, .int .i64 0] 26 (w.heap.size + 1 + 1) (by first | rfl | simp))
  go_enter Try.func13, Try.ntmps13
  have c0 := BB.out.c 0 _ rfl
  have c1 := BB.out.c 1 _ rfl
  have c2 := BB.out.c 2 _ rfl
  have c3 := BB.out.c 3 _ rfl
  go_wp2_with fail
  refine (rcheck_at 0 (chk_ok HV.out) HB.out).mono ?_
  rintro e v1 ⟨rfl, B⟩
  clear c0 c1 c2 c3
  replace E := Lib.hid (ext_trans E.out B)
  replace HB := Lib.hid (HB.out.ext B)
  replace BB := Lib.hid (BB.out.ext B)
  replace R := Lib.hid (R.out.ext B)
  replace RA := Lib.hid (RA.out.ext B)
  clear B
  obtain ⟨g, hg⟩ : ∃ g, great (great 0 b.ag.l) b.op.l = g := ⟨_, rfl⟩
  have HGL := great_lim HV.out
  rw [show great (great 0 b.bl.ag) b.bl.op = g from hg] at HGL
  obtain ⟨hg0, hg1⟩ := HGL
  obtain ⟨od, hod⟩ : ∃ o, offd (g + 1) b.own b.ot = o := ⟨_, rfl⟩
  have HNN := Lib.hid (newNo_of hg hod)
  have HEN := Lib.hid (show ft = true → err = if 1048576 < newNo b.own b.ot b.ag.l b.op.l then 2 else 0 from fun h => by rw [← HE.out]; unfold Bl.offE; rw [HV.out, show fits b.bl.own b.bl.ot ⟨1, f, t, m, r⟩ = true from HFT.out.trans h]; rfl)
  have HEF := Lib.hid (show ft = false → err = 480 from fun h => by rw [← HE.out]; unfold Bl.offE; rw [HV.out, show fits b.bl.own b.bl.ot ⟨1, f, t, m, r⟩ = false from HFT.out.trans h]; rfl)
  have HG := Lib.hid hg
  have HOD := Lib.hid hod
  have hal := HLL.out.1
  have hol := HLL.out.2
  clear hg hod
  have b2 := BB.out.c 2 _ rfl
  have b3 := BB.out.c 3 _ rfl
  go_wp2_with fail
  go_loop [13, 14] (fun v i => ∃ k : Nat, k ≤ b.ag.l.length ∧ i = .int .i64 k ∧ v = .int .i64 (great 0 (b.ag.l.take k))) (fun _ i => b.ag.l.length - (intOf i).toNat)
  case atStart => exact ⟨0, Nat.zero_le _, rfl, rfl⟩
  case round =>
    obtain ⟨k, hk, rfl, rfl⟩ := hrel
    obtain ⟨n, hn⟩ : ∃ n, great 0 (b.ag.l.take k) = n := ⟨_, rfl⟩
    have HN := Lib.hid hn
    rw [hn]
    clear hn
    by_cases hlt : k < b.ag.l.length
    rotate_left
    · have hge : ¬ (k : Int) < b.ag.l.length := by omega
      have HK := Lib.hid (show great 0 b.ag.l = n by rw [← HN.out, List.take_of_length_le (by omega)])
      clear hk hlt HN
      have HK1 := HK
      clear HK
      obtain ⟨n1, hn1⟩ : ∃ n1, n1 = n := ⟨_, rfl⟩
      rw [← hn1] at HK1 ⊢
      clear hn1
      go_wp2_with fail
      go_loop [13, 15] (fun v i => ∃ k : Nat, k ≤ b.op.l.length ∧ i = .int .i64 k ∧ v = .int .i64 (great n1 (b.op.l.take k))) (fun _ i => b.op.l.length - (intOf i).toNat)
      case atStart => exact ⟨0, Nat.zero_le _, rfl, rfl⟩
      case round =>
        obtain ⟨k, hk, rfl, rfl⟩ := hrel
        obtain ⟨n, hn⟩ : ∃ n, great n1 (b.op.l.take k) = n := ⟨_, rfl⟩
        have HN := Lib.hid hn
        rw [hn]
        clear hn
        by_cases hlt : k < b.op.l.length
        rotate_left
        · have hge : ¬ (k : Int) < b.op.l.length := by omega
          have HK := Lib.hid (show great n1 b.op.l = n by rw [← HN.out, List.take_of_length_le (by omega)])
          clear hk hlt HN
          have HK2 := HK
          clear HK
          have n2e : n = n := rfl
          obtain ⟨n2, hn2⟩ : ∃ n2, n2 = n := ⟨_, rfl⟩
          rw [← hn2] at HK2 ⊢
          clear hn2 n2e
          obtain rfl : n2 = g := by have h1 := HK1.out; have h2 := HK2.out; rw [← h1] at h2; rw [← h2]; exact HG.out
          clear HK1 HK2 HG
          have c0 := BB.out.c 0 _ rfl
          have c1 := BB.out.c 1 _ rfl
          go_wp2_with fail
          refine (offB_at od HOD.out).mono ?_
          rintro e v2 ⟨rfl, B⟩
          clear c0 c1
          replace E := Lib.hid (ext_trans E.out B)
          replace HB := Lib.hid (HB.out.ext B)
          replace BB := Lib.hid (BB.out.ext B)
          replace R := Lib.hid (R.out.ext B)
          replace RA := Lib.hid (RA.out.ext B)
          clear B
          clear b2 b3
          cases od
          · have HN := Lib.hid (show newNo b.own b.ot b.ag.l b.op.l = n2 + 1 + 1 from HNN.out)
            have ll0 := BB.out.lt
            have ll1 := R.out.lt
            have ll2 := RA.out.lt
            have bb0 := BB.out.c 0 _ rfl
            have bb1 := BB.out.c 1 _ rfl
            have bb2 := BB.out.c 2 _ rfl
            have bb3 := BB.out.c 3 _ rfl
            have bbf := BB.out.f
            have bbl := BB.out.lt
            replace E := Lib.hid (ext_alloc E.out (.cells #[.int .i64 (n2 + 1 + 1), .int .i64 f, .int .i64 t, .int .i64 m, .int .i64 r] 26))
            replace HB := Lib.hid (HB.out.alloc (.cells #[.int .i64 (n2 + 1 + 1), .int .i64 f, .int .i64 t, .int .i64 m, .int .i64 r] 26))
            replace BB := Lib.hid (BB.out.alloc (.cells #[.int .i64 (n2 + 1 + 1), .int .i64 f, .int .i64 t, .int .i64 m, .int .i64 r] 26))
            replace R := Lib.hid (R.out.alloc (.cells #[.int .i64 (n2 + 1 + 1), .int .i64 f, .int .i64 t, .int .i64 m, .int .i64 r] 26))
            replace RA := Lib.hid (RA.out.alloc (.cells #[.int .i64 (n2 + 1 + 1), .int .i64 f, .int .i64 t, .int .i64 m, .int .i64 r] 26))
            have S1 := Lib.hid (Blk.newH v2 [.int .i64 (n2 + 1 + 1), .int .i64 f, .int .i64 t, .int .i64 m, .int .i64 r] 26 (v2.heap.size) (by first | rfl | simp))
            replace E := Lib.hid (ext_alloc E.out (.cells #[.int .i64 1, .int .i64 f, .int .i64 t, .int .i64 m, .int .i64 r] 26))
            replace HB := Lib.hid (HB.out.alloc (.cells #[.int .i64 1, .int .i64 f, .int .i64 t, .int .i64 m, .int .i64 r] 26))
            replace BB := Lib.hid (BB.out.alloc (.cells #[.int .i64 1, .int .i64 f, .int .i64 t, .int .i64 m, .int .i64 r] 26))
            replace R := Lib.hid (R.out.alloc (.cells #[.int .i64 1, .int .i64 f, .int .i64 t, .int .i64 m, .int .i64 r] 26))
            replace RA := Lib.hid (RA.out.alloc (.cells #[.int .i64 1, .int .i64 f, .int .i64 t, .int .i64 m, .int .i64 r] 26))
            replace S1 := Lib.hid (S1.out.alloc (.cells #[.int .i64 1, .int .i64 f, .int .i64 t, .int .i64 m, .int .i64 r] 26))
            have S2 := Lib.hid (Blk.newH (v2.alloc (.cells #[.int .i64 (n2 + 1 + 1), .int .i64 f, .int .i64 t, .int .i64 m, .int .i64 r] 26)) [.int .i64 1, .int .i64 f, .int .i64 t, .int .i64 m, .int .i64 r] 26 (v2.heap.size + 1) (by first | rfl | simp))
            go_wp2_with fail
            clear bb0 bb1 bb2 bb3 bbf bbl
            refine (valid_at (x := ⟨1, f, t, m, r⟩) ft HFT.out).mono ?_
            rintro e v4 ⟨rfl, B⟩
            clear S2
            replace E := Lib.hid (ext_trans E.out B)
            replace HB := Lib.hid (HB.out.ext B)
            replace BB := Lib.hid (BB.out.ext B)
            replace R := Lib.hid (R.out.ext B)
            replace RA := Lib.hid (RA.out.ext B)
            replace S1 := Lib.hid (S1.out.ext B)
            clear B
            cases ft
            · have HERR := Lib.hid (show err = 480 by exact HEF.out rfl)
              have r0 := R.out.c 0 _ rfl
              have r1 := R.out.c 1 _ rfl
              have r2 := R.out.c 2 _ rfl
              have r3 := R.out.c 3 _ rfl
              have rf := R.out.f
              have rl := R.out.lt
              have ra0 := RA.out.c 0 _ rfl
              have ra1 := RA.out.c 1 _ rfl
              have ra2 := RA.out.c 2 _ rfl
              have ra3 := RA.out.c 3 _ rfl
              have ra4 := RA.out.c 4 _ rfl
              have raf := RA.out.f
              have ral := RA.out.lt
              replace E := Lib.hid (ext_set4 E.out (w.heap.size + 1) (.int .i64 0) (.int .i64 0) (.slice none 0 0) (.slice none 0 0) (by first | exact Nat.le_refl _ | omega | (simp; done) | (simp; omega)))
              replace HB := Lib.hid (HB.out.set4 (c := (w.heap.size + 1)) (.int .i64 0) (.int .i64 0) (.slice none 0 0) (.slice none 0 0) (HOFF.out _ (by omega)))
              replace BB := Lib.hid (BB.out.off4 (c := w.heap.size + 1) (.int .i64 0) (.int .i64 0) (.slice none 0 0) (.slice none 0 0) (by first | omega | (simp; done) | (simp; omega)))
              replace R := Lib.hid (R.out.put4 (.int .i64 0) (.int .i64 0) (.slice none 0 0) (.slice none 0 0))
              replace RA := Lib.hid (RA.out.off4 (c := w.heap.size + 1) (.int .i64 0) (.int .i64 0) (.slice none 0 0) (.slice none 0 0) (by first | omega | (simp; done) | (simp; omega)))
              replace S1 := Lib.hid (S1.out.off4 (c := w.heap.size + 1) (.int .i64 0) (.int .i64 0) (.slice none 0 0) (.slice none 0 0) (by first | omega | (simp; done) | (simp; omega)))
              unfold set4 at E HB BB R RA S1
              replace E := Lib.hid (ext_set5 E.out (w.heap.size + 1 + 1) (.int .i64 0) (.int .i64 0) (.int .i64 0) (.int .i64 0) (.int .i64 0) (by first | exact Nat.le_refl _ | omega | (simp; done) | (simp; omega)))
              replace HB := Lib.hid (HB.out.set5 (c := (w.heap.size + 1 + 1)) (.int .i64 0) (.int .i64 0) (.int .i64 0) (.int .i64 0) (.int .i64 0) (HOFF.out _ (by omega)))
              replace BB := Lib.hid (BB.out.off5 (c := w.heap.size + 1 + 1) (.int .i64 0) (.int .i64 0) (.int .i64 0) (.int .i64 0) (.int .i64 0) (by first | omega | (simp; done) | (simp; omega)))
              replace R := Lib.hid (R.out.off5 (c := w.heap.size + 1 + 1) (.int .i64 0) (.int .i64 0) (.int .i64 0) (.int .i64 0) (.int .i64 0) (by first | omega | (simp; done) | (simp; omega)))
              replace RA := Lib.hid (RA.out.put5 (.int .i64 0) (.int .i64 0) (.int .i64 0) (.int .i64 0) (.int .i64 0))
              replace S1 := Lib.hid (S1.out.off5 (c := w.heap.size + 1 + 1) (.int .i64 0) (.int .i64 0) (.int .i64 0) (.int .i64 0) (.int .i64 0) (by first | omega | (simp; done) | (simp; omega)))
              unfold set5 at E HB BB R RA S1
              go_wp2_with fail
              refine bodyPost_ret (v := .tuple #[.agg #[.int .i64 0, .int .i64 0, .slice none 0 0, .slice none 0 0], .agg #[.int .i64 0, .int .i64 0, .int .i64 0, .int .i64 0, .int .i64 0], .int .i64 480]) (by simp [results, Try.results13, go_sem, *]) rfl ?_
              exact BaR.zero HERR.out HZ.out (by decide) rfl E.out
            · by_cases hlim : 1048576 < n2 + 1 + 1
              · have hl1 : decide (1048576 < n2 + 1 + 1) = true := by simpa using hlim
                have hl2 : decide (n2 + 1 + 1 > 1048576) = true := by simpa using hlim
                have HERR := Lib.hid (show err = 2 by rw [HEN.out rfl, HN.out, if_pos hlim])
                have r0 := R.out.c 0 _ rfl
                have r1 := R.out.c 1 _ rfl
                have r2 := R.out.c 2 _ rfl
                have r3 := R.out.c 3 _ rfl
                have rf := R.out.f
                have rl := R.out.lt
                have ra0 := RA.out.c 0 _ rfl
                have ra1 := RA.out.c 1 _ rfl
                have ra2 := RA.out.c 2 _ rfl
                have ra3 := RA.out.c 3 _ rfl
                have ra4 := RA.out.c 4 _ rfl
                have raf := RA.out.f
                have ral := RA.out.lt
                replace E := Lib.hid (ext_set4 E.out (w.heap.size + 1) (.int .i64 0) (.int .i64 0) (.slice none 0 0) (.slice none 0 0) (by first | exact Nat.le_refl _ | omega | (simp; done) | (simp; omega)))
                replace HB := Lib.hid (HB.out.set4 (c := (w.heap.size + 1)) (.int .i64 0) (.int .i64 0) (.slice none 0 0) (.slice none 0 0) (HOFF.out _ (by omega)))
                replace BB := Lib.hid (BB.out.off4 (c := w.heap.size + 1) (.int .i64 0) (.int .i64 0) (.slice none 0 0) (.slice none 0 0) (by first | omega | (simp; done) | (simp; omega)))
                replace R := Lib.hid (R.out.put4 (.int .i64 0) (.int .i64 0) (.slice none 0 0) (.slice none 0 0))
                replace RA := Lib.hid (RA.out.off4 (c := w.heap.size + 1) (.int .i64 0) (.int .i64 0) (.slice none 0 0) (.slice none 0 0) (by first | omega | (simp; done) | (simp; omega)))
                replace S1 := Lib.hid (S1.out.off4 (c := w.heap.size + 1) (.int .i64 0) (.int .i64 0) (.slice none 0 0) (.slice none 0 0) (by first | omega | (simp; done) | (simp; omega)))
                unfold set4 at E HB BB R RA S1
                replace E := Lib.hid (ext_set5 E.out (w.heap.size + 1 + 1) (.int .i64 0) (.int .i64 0) (.int .i64 0) (.int .i64 0) (.int .i64 0) (by first | exact Nat.le_refl _ | omega | (simp; done) | (simp; omega)))
                replace HB := Lib.hid (HB.out.set5 (c := (w.heap.size + 1 + 1)) (.int .i64 0) (.int .i64 0) (.int .i64 0) (.int .i64 0) (.int .i64 0) (HOFF.out _ (by omega)))
                replace BB := Lib.hid (BB.out.off5 (c := w.heap.size + 1 + 1) (.int .i64 0) (.int .i64 0) (.int .i64 0) (.int .i64 0) (.int .i64 0) (by first | omega | (simp; done) | (simp; omega)))
                replace R := Lib.hid (R.out.off5 (c := w.heap.size + 1 + 1) (.int .i64 0) (.int .i64 0) (.int .i64 0) (.int .i64 0) (.int .i64 0) (by first | omega | (simp; done) | (simp; omega)))
                replace RA := Lib.hid (RA.out.put5 (.int .i64 0) (.int .i64 0) (.int .i64 0) (.int .i64 0) (.int .i64 0))
                replace S1 := Lib.hid (S1.out.off5 (c := w.heap.size + 1 + 1) (.int .i64 0) (.int .i64 0) (.int .i64 0) (.int .i64 0) (.int .i64 0) (by first | omega | (simp; done) | (simp; omega)))
                unfold set5 at E HB BB R RA S1
                go_wp2_with fail
                refine bodyPost_ret (v := .tuple #[.agg #[.int .i64 0, .int .i64 0, .slice none 0 0, .slice none 0 0], .agg #[.int .i64 0, .int .i64 0, .int .i64 0, .int .i64 0, .int .i64 0], .int .i64 2]) (by simp [results, Try.results13, go_sem, *]) rfl ?_
                exact BaR.zero HERR.out HZ.out (by decide) rfl E.out
              · have hl1 : decide (1048576 < n2 + 1 + 1) = false := by simpa using hlim
                have HERR := Lib.hid (show err = 0 by rw [HEN.out rfl, HN.out, if_neg hlim])
                obtain ⟨a, ha⟩ : ∃ a : Ag, a = ⟨n2 + 1 + 1, f, t, m, r⟩ := ⟨_, rfl⟩
                have HA := Lib.hid ha
                have HP := Lib.hid (show PutOk b.op.l a from ⟨HLL.out.2, (ok_iff.1 HV.out).2.2.1.2, (fits_no2 (own := 0) (ot := 0) HV.out).2, by rw [ha]; show 1 ≤ n2 + 1 + 1 ∧ n2 + 1 + 1 ≤ 1048576; omega⟩)
                have HW := Lib.hid (show b.bl.offB f t m r = ⟨b.own, b.ot, b.ag.l, putL b.op.l a⟩ ∧ b.bl.offX f t m r = a from by
                  have h0 : b.bl.offE f t m r = 0 := by rw [HE.out]; exact HERR.out
                  have h1 : b.bl.offA f t m r = a := by rw [ha]; unfold Bl.offA; rw [show newNo b.bl.own b.bl.ot b.bl.ag b.bl.op = n2 + 1 + 1 from HN.out]
                  unfold Bl.offB Bl.offX
                  rw [if_pos h0, if_pos h0, h1]; exact ⟨rfl, rfl⟩)
                have ea := ha
                clear ha hlim
                have s10 := S1.out.c 0 _ rfl
                have s11 := S1.out.c 1 _ rfl
                have s12 := S1.out.c 2 _ rfl
                have s13 := S1.out.c 3 _ rfl
                have s14 := S1.out.c 4 _ rfl
                have s1f := S1.out.f
                have s1l := S1.out.lt
                have b3 := BB.out.c 3 _ rfl
                go_wp2_with fail
                clear s10 s11 s12 s13 s14 s1f s1l
                clear b3
                refine (rput_at (a := ⟨n2 + 1 + 1, f, t, m, r⟩) rfl HB.out.op (by rw [← ea]; exact HP.out) HCP.out.1).mono ?_
                rintro e v6 ⟨A3, c3, rfl, hO3, B⟩
                have HO3 := Lib.hid (hO3.low (base' := w.heap.size + 3) (by have := RA.out.lt; omega))
                clear hO3
                rw [← ea] at HO3 ⊢
                replace E := Lib.hid (ext_trans E.out B)
                replace HB := Lib.hid (HB.out.ext B)
                replace BB := Lib.hid (BB.out.ext B)
                replace R := Lib.hid (R.out.ext B)
                replace RA := Lib.hid (RA.out.ext B)
                replace S1 := Lib.hid (S1.out.ext B)
                clear B
                have SP := Lib.hid (HO3.out.slc agI.hl agI.hz)
                obtain ⟨N, hN⟩ : ∃ N, (putL b.op.l a).length = N := ⟨_, rfl⟩
                have HNL := Lib.hid hN
                rw [hN] at HO3 ⊢
                clear hN ea
                have bb0 := BB.out.c 0 _ rfl
                have bb1 := BB.out.c 1 _ rfl
                have bb2 := BB.out.c 2 _ rfl
                have bb3 := BB.out.c 3 _ rfl
                have bbf := BB.out.f
                have bbl := BB.out.lt
                replace E := Lib.hid (ext_set E.out ⟨w.heap.size, 3, none⟩ (.slice A3 N c3) (by first | exact Nat.le_refl _ | omega | (simp; done) | (simp; omega)))
                replace HB := Lib.hid (HB.out.set (p := ⟨w.heap.size, 3, none⟩) (.slice A3 N c3) (HOFF.out _ (by first | exact Nat.le_refl _ | (simp; done) | (simp; omega))))
                replace BB := Lib.hid (show Blk _ (w.heap.size) [.int .i64 b.own, .int .i64 b.ot, .slice b.ag.A b.ag.l.length b.ag.c, .slice A3 N c3] from BB.out.set (j := 3) (by simp) (.slice A3 N c3))
                replace R := Lib.hid (R.out.other (p := ⟨w.heap.size, 3, none⟩) (.slice A3 N c3) (by first | omega | (simp; done) | (simp; omega)))
                replace RA := Lib.hid (RA.out.other (p := ⟨w.heap.size, 3, none⟩) (.slice A3 N c3) (by first | omega | (simp; done) | (simp; omega)))
                replace S1 := Lib.hid (S1.out.other (p := ⟨w.heap.size, 3, none⟩) (.slice A3 N c3) (by first | omega | (simp; done) | (simp; omega)))
                replace SP := Lib.hid (SP.out.far (p := ⟨w.heap.size, 3, none⟩) (v := (.slice A3 N c3)) (own_off HO3.out (by simp)))
                go_wp2_with fail
                clear bb0 bb1 bb2 bb3 bbf bbl
                obtain ⟨v7, hNv7⟩ : ∃ W0, W0 = (v6.setCell ⟨w.heap.size, 3, none⟩ (.slice A3 N c3)) := ⟨_, rfl⟩
                rw [← hNv7] at E HB BB R RA S1 SP ⊢
                clear hNv7
                refine rg_begin (S := (fun w' => w'.cell? ⟨w.heap.size, 0, none⟩ = some (.int .i64 b.own) ∧ w'.cell? ⟨w.heap.size, 1, none⟩ = some (.int .i64 b.ot) ∧ w'.cell? ⟨w.heap.size, 2, none⟩ = some (.slice b.ag.A b.ag.l.length b.ag.c) ∧ w'.cell? ⟨w.heap.size, 3, none⟩ = some (.slice A3 N c3) ∧ w'.cell? ⟨v2.heap.size, 0, none⟩ = some (.int .i64 (n2 + 1 + 1)) ∧ w'.cell? ⟨v2.heap.size, 1, none⟩ = some (.int .i64 f) ∧ w'.cell? ⟨v2.heap.size, 2, none⟩ = some (.int .i64 t) ∧ w'.cell? ⟨v2.heap.size, 3, none⟩ = some (.int .i64 m) ∧ w'.cell? ⟨v2.heap.size, 4, none⟩ = some (.int .i64 r))) 3 (by kernel_rfl) (by intro d; cases d <;> intro _ _ _ _ h <;> exact h) ?_ (fun Q7 hQ7 hN7 hHeld => ?_)
                · exact ⟨(BB.out.drew).c 0 _ rfl, (BB.out.drew).c 1 _ rfl, (BB.out.drew).c 2 _ rfl, (BB.out.drew).c 3 _ rfl, (S1.out.drew).c 0 _ rfl, (S1.out.drew).c 1 _ rfl, (S1.out.drew).c 2 _ rfl, (S1.out.drew).c 3 _ rfl, (S1.out.drew).c 4 _ rfl⟩
                have g00 : v7.cell? ⟨w.heap.size + 1, 0, none⟩ = some (.int .i64 0) := R.out.c 0 _ rfl
                have g01 : v7.cell? ⟨w.heap.size + 1, 1, none⟩ = some (.int .i64 0) := R.out.c 1 _ rfl
                have g02 : v7.cell? ⟨w.heap.size + 1, 2, none⟩ = some (.slice none 0 0) := R.out.c 2 _ rfl
                have g03 : v7.cell? ⟨w.heap.size + 1, 3, none⟩ = some (.slice none 0 0) := R.out.c 3 _ rfl
                have g0f : ∀ j, v7.frozen? ⟨w.heap.size + 1, j, none⟩ = false := R.out.f
                have g0l : w.heap.size + 1 < v7.heap.size := R.out.lt
                have g10 : v7.cell? ⟨w.heap.size + 1 + 1, 0, none⟩ = some (.int .i64 0) := RA.out.c 0 _ rfl
                have g11 : v7.cell? ⟨w.heap.size + 1 + 1, 1, none⟩ = some (.int .i64 0) := RA.out.c 1 _ rfl
                have g12 : v7.cell? ⟨w.heap.size + 1 + 1, 2, none⟩ = some (.int .i64 0) := RA.out.c 2 _ rfl
                have g13 : v7.cell? ⟨w.heap.size + 1 + 1, 3, none⟩ = some (.int .i64 0) := RA.out.c 3 _ rfl
                have g14 : v7.cell? ⟨w.heap.size + 1 + 1, 4, none⟩ = some (.int .i64 0) := RA.out.c 4 _ rfl
                have g1f : ∀ j, v7.frozen? ⟨w.heap.size + 1 + 1, j, none⟩ = false := RA.out.f
                have g1l : w.heap.size + 1 + 1 < v7.heap.size := RA.out.lt
                refine rg_take (i := 0) (some 102) (v := ?_) rfl rfl (by kernel_rfl) (by rfl) hQ7 hHeld ?_ ?_
                rotate_left
                · intro w7 hSw; (try dsimp only at hSw); go_simp; all_goals with_reducible rfl
                try simp only [Act.put, List.setIfInBounds_toArray, List.set_cons_zero, List.set_cons_succ]
                refine rg_take (i := 1) (some 103) (v := ?_) rfl rfl (by kernel_rfl) (by rfl) hQ7 hHeld ?_ ?_
                rotate_left
                · intro w7 hSw; (try dsimp only at hSw); go_simp; all_goals with_reducible rfl
                try simp only [Act.put, List.setIfInBounds_toArray, List.set_cons_zero, List.set_cons_succ]
                have KBB := BB.out.off4 (c := w.heap.size + 1) (.int .i64 b.own) (.int .i64 b.ot) (.slice b.ag.A b.ag.l.length b.ag.c) (.slice A3 N c3) (by first | omega | (simp; done) | (simp; omega))
                have KS1 := S1.out.off4 (c := w.heap.size + 1) (.int .i64 b.own) (.int .i64 b.ot) (.slice b.ag.A b.ag.l.length b.ag.c) (.slice A3 N c3) (by first | omega | (simp; done) | (simp; omega))
                unfold set4 at KBB KS1
                refine rg_one (i := 2) (by kernel_rfl) (rg_step rfl (by rfl) (fun K hK => ?_))
                go_simp
                refine hK.out _ _ ?_ (fun hHeld2 => ?_)
                · exact ⟨(KBB.drew).c 0 _ rfl, (KBB.drew).c 1 _ rfl, (KBB.drew).c 2 _ rfl, (KBB.drew).c 3 _ rfl, (KS1.drew).c 0 _ rfl, (KS1.drew).c 1 _ rfl, (KS1.drew).c 2 _ rfl, (KS1.drew).c 3 _ rfl, (KS1.drew).c 4 _ rfl⟩
                clear hHeld
                have hHeld := hHeld2
                clear hHeld2
                clear hK K
                try simp only [Act.put, List.setIfInBounds_toArray, List.set_cons_zero, List.set_cons_succ]
                clear KBB KS1
                replace E := Lib.hid (ext_set4 E.out (w.heap.size + 1) (.int .i64 b.own) (.int .i64 b.ot) (.slice b.ag.A b.ag.l.length b.ag.c) (.slice A3 N c3) (by first | exact Nat.le_refl _ | omega | (simp; done) | (simp; omega)))
                replace HB := Lib.hid (HB.out.set4 (c := (w.heap.size + 1)) (.int .i64 b.own) (.int .i64 b.ot) (.slice b.ag.A b.ag.l.length b.ag.c) (.slice A3 N c3) (HOFF.out _ (by omega)))
                replace BB := Lib.hid (BB.out.off4 (c := w.heap.size + 1) (.int .i64 b.own) (.int .i64 b.ot) (.slice b.ag.A b.ag.l.length b.ag.c) (.slice A3 N c3) (by first | omega | (simp; done) | (simp; omega)))
                replace R := Lib.hid (R.out.put4 (.int .i64 b.own) (.int .i64 b.ot) (.slice b.ag.A b.ag.l.length b.ag.c) (.slice A3 N c3))
                replace RA := Lib.hid (RA.out.off4 (c := w.heap.size + 1) (.int .i64 b.own) (.int .i64 b.ot) (.slice b.ag.A b.ag.l.length b.ag.c) (.slice A3 N c3) (by first | omega | (simp; done) | (simp; omega)))
                replace S1 := Lib.hid (S1.out.off4 (c := w.heap.size + 1) (.int .i64 b.own) (.int .i64 b.ot) (.slice b.ag.A b.ag.l.length b.ag.c) (.slice A3 N c3) (by first | omega | (simp; done) | (simp; omega)))
                replace SP := Lib.hid (SP.out.far4 (b := (w.heap.size + 1)) (.int .i64 b.own) (.int .i64 b.ot) (.slice b.ag.A b.ag.l.length b.ag.c) (.slice A3 N c3) (own_off HO3.out (by simp)))
                unfold set4 at E HB BB R RA S1 SP
                refine rg_one (i := 3) (by kernel_rfl) (rg_late rfl (by rfl) (by kernel_rfl) (fun K hK => ?_))
                go_simp
                refine hK.out _ _ ?_
                clear hK K
                try simp only [Act.put, List.setIfInBounds_toArray, List.set_cons_zero, List.set_cons_succ]
                replace E := Lib.hid (ext_set5 E.out (w.heap.size + 1 + 1) (.int .i64 (n2 + 1 + 1)) (.int .i64 f) (.int .i64 t) (.int .i64 m) (.int .i64 r) (by first | exact Nat.le_refl _ | omega | (simp; done) | (simp; omega)))
                replace HB := Lib.hid (HB.out.set5 (c := (w.heap.size + 1 + 1)) (.int .i64 (n2 + 1 + 1)) (.int .i64 f) (.int .i64 t) (.int .i64 m) (.int .i64 r) (HOFF.out _ (by omega)))
                replace BB := Lib.hid (BB.out.off5 (c := w.heap.size + 1 + 1) (.int .i64 (n2 + 1 + 1)) (.int .i64 f) (.int .i64 t) (.int .i64 m) (.int .i64 r) (by first | omega | (simp; done) | (simp; omega)))
                replace R := Lib.hid (R.out.off5 (c := w.heap.size + 1 + 1) (.int .i64 (n2 + 1 + 1)) (.int .i64 f) (.int .i64 t) (.int .i64 m) (.int .i64 r) (by first | omega | (simp; done) | (simp; omega)))
                replace RA := Lib.hid (RA.out.put5 (.int .i64 (n2 + 1 + 1)) (.int .i64 f) (.int .i64 t) (.int .i64 m) (.int .i64 r))
                replace S1 := Lib.hid (S1.out.off5 (c := w.heap.size + 1 + 1) (.int .i64 (n2 + 1 + 1)) (.int .i64 f) (.int .i64 t) (.int .i64 m) (.int .i64 r) (by first | omega | (simp; done) | (simp; omega)))
                replace SP := Lib.hid (SP.out.far5 (b := (w.heap.size + 1 + 1)) (.int .i64 (n2 + 1 + 1)) (.int .i64 f) (.int .i64 t) (.int .i64 m) (.int .i64 r) (own_off HO3.out (by simp)))
                unfold set5 at E HB BB R RA S1 SP
                refine rg_pure (i := 4) (some 12) (v := ?_) rfl rfl (by kernel_rfl) (by rfl) hQ7 (.inl (by kernel_rfl)) ?_ ?_
                rotate_left
                · intro w7; go_simp; all_goals with_reducible rfl
                try simp only [Act.put, List.setIfInBounds_toArray, List.set_cons_zero, List.set_cons_succ]
                refine rg_end (by kernel_rfl) (hN7 _ _ ?_) _
                clear hQ7 hN7 Q7
                have DD := ext_drew (ext_refl (((((((((v7.setCell ⟨w.heap.size + 1, 0, none⟩ (.int .i64 b.own)).setCell ⟨w.heap.size + 1, 1, none⟩ (.int .i64 b.ot)).setCell ⟨w.heap.size + 1, 2, none⟩ (.slice b.ag.A b.ag.l.length b.ag.c)).setCell ⟨w.heap.size + 1, 3, none⟩ (.slice A3 N c3)).setCell ⟨w.heap.size + 1 + 1, 0, none⟩ (.int .i64 (n2 + 1 + 1))).setCell ⟨w.heap.size + 1 + 1, 1, none⟩ (.int .i64 f)).setCell ⟨w.heap.size + 1 + 1, 2, none⟩ (.int .i64 t)).setCell ⟨w.heap.size + 1 + 1, 3, none⟩ (.int .i64 m)).setCell ⟨w.heap.size + 1 + 1, 4, none⟩ (.int .i64 r)))
                replace E := Lib.hid (ext_trans E.out DD)
                replace HB := Lib.hid (HB.out.ext DD)
                replace BB := Lib.hid (BB.out.ext DD)
                replace R := Lib.hid (R.out.ext DD)
                replace RA := Lib.hid (RA.out.ext DD)
                replace S1 := Lib.hid (S1.out.ext DD)
                replace SP := Lib.hid (SP.out.ext DD)
                clear DD
                go_wp2_with fail
                refine bodyPost_ret (v := .tuple #[Bd.v ⟨b.own, b.ot, b.ag, ⟨A3, c3, putL b.op.l a⟩⟩, Ag.v ⟨n2 + 1 + 1, f, t, m, r⟩, .int .i64 0]) (by simp [results, Try.results13, go_sem, *, HNL.out]) rfl ?_
                obtain ⟨hw1, hw2⟩ := HW.out
                rw [hw1, hw2, HERR.out]
                have k3 := own_cap HO3.out
                refine ⟨⟨b.own, b.ot, b.ag, ⟨A3, c3, putL b.op.l a⟩⟩, by rw [HA.out], rfl, ⟨HB.out.ag, SP.out, HB.out.agl, HB.out.agc, k3.1, k3.2⟩, E.out, fun c hc hf => ⟨hf.1, own_off HO3.out (by omega)⟩⟩
          · have HN := Lib.hid (show newNo b.own b.ot b.ag.l b.op.l = n2 + 1 from HNN.out)
            have ll0 := BB.out.lt
            have ll1 := R.out.lt
            have ll2 := RA.out.lt
            have bb0 := BB.out.c 0 _ rfl
            have bb1 := BB.out.c 1 _ rfl
            have bb2 := BB.out.c 2 _ rfl
            have bb3 := BB.out.c 3 _ rfl
            have bbf := BB.out.f
            have bbl := BB.out.lt
            replace E := Lib.hid (ext_alloc E.out (.cells #[.int .i64 (n2 + 1), .int .i64 f, .int .i64 t, .int .i64 m, .int .i64 r] 26))
            replace HB := Lib.hid (HB.out.alloc (.cells #[.int .i64 (n2 + 1), .int .i64 f, .int .i64 t, .int .i64 m, .int .i64 r] 26))
            replace BB := Lib.hid (BB.out.alloc (.cells #[.int .i64 (n2 + 1), .int .i64 f, .int .i64 t, .int .i64 m, .int .i64 r] 26))
            replace R := Lib.hid (R.out.alloc (.cells #[.int .i64 (n2 + 1), .int .i64 f, .int .i64 t, .int .i64 m, .int .i64 r] 26))
            replace RA := Lib.hid (RA.out.alloc (.cells #[.int .i64 (n2 + 1), .int .i64 f, .int .i64 t, .int .i64 m, .int .i64 r] 26))
            have S1 := Lib.hid (Blk.newH v2 [.int .i64 (n2 + 1), .int .i64 f, .int .i64 t, .int .i64 m, .int .i64 r] 26 (v2.heap.size) (by first | rfl | simp))
            replace E := Lib.hid (ext_alloc E.out (.cells #[.int .i64 1, .int .i64 f, .int .i64 t, .int .i64 m, .int .i64 r] 26))
            replace HB := Lib.hid (HB.out.alloc (.cells #[.int .i64 1, .int .i64 f, .int .i64 t, .int .i64 m, .int .i64 r] 26))
            replace BB := Lib.hid (BB.out.alloc (.cells #[.int .i64 1, .int .i64 f, .int .i64 t, .int .i64 m, .int .i64 r] 26))
            replace R := Lib.hid (R.out.alloc (.cells #[.int .i64 1, .int .i64 f, .int .i64 t, .int .i64 m, .int .i64 r] 26))
            replace RA := Lib.hid (RA.out.alloc (.cells #[.int .i64 1, .int .i64 f, .int .i64 t, .int .i64 m, .int .i64 r] 26))
            replace S1 := Lib.hid (S1.out.alloc (.cells #[.int .i64 1, .int .i64 f, .int .i64 t, .int .i64 m, .int .i64 r] 26))
            have S2 := Lib.hid (Blk.newH (v2.alloc (.cells #[.int .i64 (n2 + 1), .int .i64 f, .int .i64 t, .int .i64 m, .int .i64 r] 26)) [.int .i64 1, .int .i64 f, .int .i64 t, .int .i64 m, .int .i64 r] 26 (v2.heap.size + 1) (by first | rfl | simp))
            go_wp2_with fail
            clear bb0 bb1 bb2 bb3 bbf bbl
            refine (valid_at (x := ⟨1, f, t, m, r⟩) ft HFT.out).mono ?_
            rintro e v4 ⟨rfl, B⟩
            clear S2
            replace E := Lib.hid (ext_trans E.out B)
            replace HB := Lib.hid (HB.out.ext B)
            replace BB := Lib.hid (BB.out.ext B)
            replace R := Lib.hid (R.out.ext B)
            replace RA := Lib.hid (RA.out.ext B)
            replace S1 := Lib.hid (S1.out.ext B)
            clear B
            cases ft
            · have HERR := Lib.hid (show err = 480 by exact HEF.out rfl)
              have r0 := R.out.c 0 _ rfl
              have r1 := R.out.c 1 _ rfl
              have r2 := R.out.c 2 _ rfl
              have r3 := R.out.c 3 _ rfl
              have rf := R.out.f
              have rl := R.out.lt
              have ra0 := RA.out.c 0 _ rfl
              have ra1 := RA.out.c 1 _ rfl
              have ra2 := RA.out.c 2 _ rfl
              have ra3 := RA.out.c 3 _ rfl
              have ra4 := RA.out.c 4 _ rfl
              have raf := RA.out.f
              have ral := RA.out.lt
              replace E := Lib.hid (ext_set4 E.out (w.heap.size + 1) (.int .i64 0) (.int .i64 0) (.slice none 0 0) (.slice none 0 0) (by first | exact Nat.le_refl _ | omega | (simp; done) | (simp; omega)))
              replace HB := Lib.hid (HB.out.set4 (c := (w.heap.size + 1)) (.int .i64 0) (.int .i64 0) (.slice none 0 0) (.slice none 0 0) (HOFF.out _ (by omega)))
              replace BB := Lib.hid (BB.out.off4 (c := w.heap.size + 1) (.int .i64 0) (.int .i64 0) (.slice none 0 0) (.slice none 0 0) (by first | omega | (simp; done) | (simp; omega)))
              replace R := Lib.hid (R.out.put4 (.int .i64 0) (.int .i64 0) (.slice none 0 0) (.slice none 0 0))
              replace RA := Lib.hid (RA.out.off4 (c := w.heap.size + 1) (.int .i64 0) (.int .i64 0) (.slice none 0 0) (.slice none 0 0) (by first | omega | (simp; done) | (simp; omega)))
              replace S1 := Lib.hid (S1.out.off4 (c := w.heap.size + 1) (.int .i64 0) (.int .i64 0) (.slice none 0 0) (.slice none 0 0) (by first | omega | (simp; done) | (simp; omega)))
              unfold set4 at E HB BB R RA S1
              replace E := Lib.hid (ext_set5 E.out (w.heap.size + 1 + 1) (.int .i64 0) (.int .i64 0) (.int .i64 0) (.int .i64 0) (.int .i64 0) (by first | exact Nat.le_refl _ | omega | (simp; done) | (simp; omega)))
              replace HB := Lib.hid (HB.out.set5 (c := (w.heap.size + 1 + 1)) (.int .i64 0) (.int .i64 0) (.int .i64 0) (.int .i64 0) (.int .i64 0) (HOFF.out _ (by omega)))
              replace BB := Lib.hid (BB.out.off5 (c := w.heap.size + 1 + 1) (.int .i64 0) (.int .i64 0) (.int .i64 0) (.int .i64 0) (.int .i64 0) (by first | omega | (simp; done) | (simp; omega)))
              replace R := Lib.hid (R.out.off5 (c := w.heap.size + 1 + 1) (.int .i64 0) (.int .i64 0) (.int .i64 0) (.int .i64 0) (.int .i64 0) (by first | omega | (simp; done) | (simp; omega)))
              replace RA := Lib.hid (RA.out.put5 (.int .i64 0) (.int .i64 0) (.int .i64 0) (.int .i64 0) (.int .i64 0))
              replace S1 := Lib.hid (S1.out.off5 (c := w.heap.size + 1 + 1) (.int .i64 0) (.int .i64 0) (.int .i64 0) (.int .i64 0) (.int .i64 0) (by first | omega | (simp; done) | (simp; omega)))
              unfold set5 at E HB BB R RA S1
              go_wp2_with fail
              refine bodyPost_ret (v := .tuple #[.agg #[.int .i64 0, .int .i64 0, .slice none 0 0, .slice none 0 0], .agg #[.int .i64 0, .int .i64 0, .int .i64 0, .int .i64 0, .int .i64 0], .int .i64 480]) (by simp [results, Try.results13, go_sem, *]) rfl ?_
              exact BaR.zero HERR.out HZ.out (by decide) rfl E.out
            · by_cases hlim : 1048576 < n2 + 1
              · have hl1 : decide (1048576 < n2 + 1) = true := by simpa using hlim
                have hl2 : decide (n2 + 1 > 1048576) = true := by simpa using hlim
                have HERR := Lib.hid (show err = 2 by rw [HEN.out rfl, HN.out, if_pos hlim])
                have r0 := R.out.c 0 _ rfl
                have r1 := R.out.c 1 _ rfl
                have r2 := R.out.c 2 _ rfl
                have r3 := R.out.c 3 _ rfl
                have rf := R.out.f
                have rl := R.out.lt
                have ra0 := RA.out.c 0 _ rfl
                have ra1 := RA.out.c 1 _ rfl
                have ra2 := RA.out.c 2 _ rfl
                have ra3 := RA.out.c 3 _ rfl
                have ra4 := RA.out.c 4 _ rfl
                have raf := RA.out.f
                have ral := RA.out.lt
                replace E := Lib.hid (ext_set4 E.out (w.heap.size + 1) (.int .i64 0) (.int .i64 0) (.slice none 0 0) (.slice none 0 0) (by first | exact Nat.le_refl _ | omega | (simp; done) | (simp; omega)))
                replace HB := Lib.hid (HB.out.set4 (c := (w.heap.size + 1)) (.int .i64 0) (.int .i64 0) (.slice none 0 0) (.slice none 0 0) (HOFF.out _ (by omega)))
                replace BB := Lib.hid (BB.out.off4 (c := w.heap.size + 1) (.int .i64 0) (.int .i64 0) (.slice none 0 0) (.slice none 0 0) (by first | omega | (simp; done) | (simp; omega)))
                replace R := Lib.hid (R.out.put4 (.int .i64 0) (.int .i64 0) (.slice none 0 0) (.slice none 0 0))
                replace RA := Lib.hid (RA.out.off4 (c := w.heap.size + 1) (.int .i64 0) (.int .i64 0) (.slice none 0 0) (.slice none 0 0) (by first | omega | (simp; done) | (simp; omega)))
                replace S1 := Lib.hid (S1.out.off4 (c := w.heap.size + 1) (.int .i64 0) (.int .i64 0) (.slice none 0 0) (.slice none 0 0) (by first | omega | (simp; done) | (simp; omega)))
                unfold set4 at E HB BB R RA S1
                replace E := Lib.hid (ext_set5 E.out (w.heap.size + 1 + 1) (.int .i64 0) (.int .i64 0) (.int .i64 0) (.int .i64 0) (.int .i64 0) (by first | exact Nat.le_refl _ | omega | (simp; done) | (simp; omega)))
                replace HB := Lib.hid (HB.out.set5 (c := (w.heap.size + 1 + 1)) (.int .i64 0) (.int .i64 0) (.int .i64 0) (.int .i64 0) (.int .i64 0) (HOFF.out _ (by omega)))
                replace BB := Lib.hid (BB.out.off5 (c := w.heap.size + 1 + 1) (.int .i64 0) (.int .i64 0) (.int .i64 0) (.int .i64 0) (.int .i64 0) (by first | omega | (simp; done) | (simp; omega)))
                replace R := Lib.hid (R.out.off5 (c := w.heap.size + 1 + 1) (.int .i64 0) (.int .i64 0) (.int .i64 0) (.int .i64 0) (.int .i64 0) (by first | omega | (simp; done) | (simp; omega)))
                replace RA := Lib.hid (RA.out.put5 (.int .i64 0) (.int .i64 0) (.int .i64 0) (.int .i64 0) (.int .i64 0))
                replace S1 := Lib.hid (S1.out.off5 (c := w.heap.size + 1 + 1) (.int .i64 0) (.int .i64 0) (.int .i64 0) (.int .i64 0) (.int .i64 0) (by first | omega | (simp; done) | (simp; omega)))
                unfold set5 at E HB BB R RA S1
                go_wp2_with fail
                refine bodyPost_ret (v := .tuple #[.agg #[.int .i64 0, .int .i64 0, .slice none 0 0, .slice none 0 0], .agg #[.int .i64 0, .int .i64 0, .int .i64 0, .int .i64 0, .int .i64 0], .int .i64 2]) (by simp [results, Try.results13, go_sem, *]) rfl ?_
                exact BaR.zero HERR.out HZ.out (by decide) rfl E.out
              · have hl1 : decide (1048576 < n2 + 1) = false := by simpa using hlim
                have HERR := Lib.hid (show err = 0 by rw [HEN.out rfl, HN.out, if_neg hlim])
                obtain ⟨a, ha⟩ : ∃ a : Ag, a = ⟨n2 + 1, f, t, m, r⟩ := ⟨_, rfl⟩
                have HA := Lib.hid ha
                have HP := Lib.hid (show PutOk b.op.l a from ⟨HLL.out.2, (ok_iff.1 HV.out).2.2.1.2, (fits_no2 (own := 0) (ot := 0) HV.out).2, by rw [ha]; show 1 ≤ n2 + 1 ∧ n2 + 1 ≤ 1048576; omega⟩)
                have HW := Lib.hid (show b.bl.offB f t m r = ⟨b.own, b.ot, b.ag.l, putL b.op.l a⟩ ∧ b.bl.offX f t m r = a from by
                  have h0 : b.bl.offE f t m r = 0 := by rw [HE.out]; exact HERR.out
                  have h1 : b.bl.offA f t m r = a := by rw [ha]; unfold Bl.offA; rw [show newNo b.bl.own b.bl.ot b.bl.ag b.bl.op = n2 + 1 from HN.out]
                  unfold Bl.offB Bl.offX
                  rw [if_pos h0, if_pos h0, h1]; exact ⟨rfl, rfl⟩)
                have ea := ha
                clear ha hlim
                have s10 := S1.out.c 0 _ rfl
                have s11 := S1.out.c 1 _ rfl
                have s12 := S1.out.c 2 _ rfl
                have s13 := S1.out.c 3 _ rfl
                have s14 := S1.out.c 4 _ rfl
                have s1f := S1.out.f
                have s1l := S1.out.lt
                have b3 := BB.out.c 3 _ rfl
                go_wp2_with fail
                clear s10 s11 s12 s13 s14 s1f s1l
                clear b3
                refine (rput_at (a := ⟨n2 + 1, f, t, m, r⟩) rfl HB.out.op (by rw [← ea]; exact HP.out) HCP.out.1).mono ?_
                rintro e v6 ⟨A3, c3, rfl, hO3, B⟩
                have HO3 := Lib.hid (hO3.low (base' := w.heap.size + 3) (by have := RA.out.lt; omega))
                clear hO3
                rw [← ea] at HO3 ⊢
                replace E := Lib.hid (ext_trans E.out B)
                replace HB := Lib.hid (HB.out.ext B)
                replace BB := Lib.hid (BB.out.ext B)
                replace R := Lib.hid (R.out.ext B)
                replace RA := Lib.hid (RA.out.ext B)
                replace S1 := Lib.hid (S1.out.ext B)
                clear B
                have SP := Lib.hid (HO3.out.slc agI.hl agI.hz)
                obtain ⟨N, hN⟩ : ∃ N, (putL b.op.l a).length = N := ⟨_, rfl⟩
                have HNL := Lib.hid hN
                rw [hN] at HO3 ⊢
                clear hN ea
                have bb0 := BB.out.c 0 _ rfl
                have bb1 := BB.out.c 1 _ rfl
                have bb2 := BB.out.c 2 _ rfl
                have bb3 := BB.out.c 3 _ rfl
                have bbf := BB.out.f
                have bbl := BB.out.lt
                replace E := Lib.hid (ext_set E.out ⟨w.heap.size, 3, none⟩ (.slice A3 N c3) (by first | exact Nat.le_refl _ | omega | (simp; done) | (simp; omega)))
                replace HB := Lib.hid (HB.out.set (p := ⟨w.heap.size, 3, none⟩) (.slice A3 N c3) (HOFF.out _ (by first | exact Nat.le_refl _ | (simp; done) | (simp; omega))))
                replace BB := Lib.hid (show Blk _ (w.heap.size) [.int .i64 b.own, .int .i64 b.ot, .slice b.ag.A b.ag.l.length b.ag.c, .slice A3 N c3] from BB.out.set (j := 3) (by simp) (.slice A3 N c3))
                replace R := Lib.hid (R.out.other (p := ⟨w.heap.size, 3, none⟩) (.slice A3 N c3) (by first | omega | (simp; done) | (simp; omega)))
                replace RA := Lib.hid (RA.out.other (p := ⟨w.heap.size, 3, none⟩) (.slice A3 N c3) (by first | omega | (simp; done) | (simp; omega)))
                replace S1 := Lib.hid (S1.out.other (p := ⟨w.heap.size, 3, none⟩) (.slice A3 N c3) (by first | omega | (simp; done) | (simp; omega)))
                replace SP := Lib.hid (SP.out.far (p := ⟨w.heap.size, 3, none⟩) (v := (.slice A3 N c3)) (own_off HO3.out (by simp)))
                go_wp2_with fail
                clear bb0 bb1 bb2 bb3 bbf bbl
                obtain ⟨v7, hNv7⟩ : ∃ W0, W0 = (v6.setCell ⟨w.heap.size, 3, none⟩ (.slice A3 N c3)) := ⟨_, rfl⟩
                rw [← hNv7] at E HB BB R RA S1 SP ⊢
                clear hNv7
                refine rg_begin (S := (fun w' => w'.cell? ⟨w.heap.size, 0, none⟩ = some (.int .i64 b.own) ∧ w'.cell? ⟨w.heap.size, 1, none⟩ = some (.int .i64 b.ot) ∧ w'.cell? ⟨w.heap.size, 2, none⟩ = some (.slice b.ag.A b.ag.l.length b.ag.c) ∧ w'.cell? ⟨w.heap.size, 3, none⟩ = some (.slice A3 N c3) ∧ w'.cell? ⟨v2.heap.size, 0, none⟩ = some (.int .i64 (n2 + 1)) ∧ w'.cell? ⟨v2.heap.size, 1, none⟩ = some (.int .i64 f) ∧ w'.cell? ⟨v2.heap.size, 2, none⟩ = some (.int .i64 t) ∧ w'.cell? ⟨v2.heap.size, 3, none⟩ = some (.int .i64 m) ∧ w'.cell? ⟨v2.heap.size, 4, none⟩ = some (.int .i64 r))) 3 (by kernel_rfl) (by intro d; cases d <;> intro _ _ _ _ h <;> exact h) ?_ (fun Q7 hQ7 hN7 hHeld => ?_)
                · exact ⟨(BB.out.drew).c 0 _ rfl, (BB.out.drew).c 1 _ rfl, (BB.out.drew).c 2 _ rfl, (BB.out.drew).c 3 _ rfl, (S1.out.drew).c 0 _ rfl, (S1.out.drew).c 1 _ rfl, (S1.out.drew).c 2 _ rfl, (S1.out.drew).c 3 _ rfl, (S1.out.drew).c 4 _ rfl⟩
                have g00 : v7.cell? ⟨w.heap.size + 1, 0, none⟩ = some (.int .i64 0) := R.out.c 0 _ rfl
                have g01 : v7.cell? ⟨w.heap.size + 1, 1, none⟩ = some (.int .i64 0) := R.out.c 1 _ rfl
                have g02 : v7.cell? ⟨w.heap.size + 1, 2, none⟩ = some (.slice none 0 0) := R.out.c 2 _ rfl
                have g03 : v7.cell? ⟨w.heap.size + 1, 3, none⟩ = some (.slice none 0 0) := R.out.c 3 _ rfl
                have g0f : ∀ j, v7.frozen? ⟨w.heap.size + 1, j, none⟩ = false := R.out.f
                have g0l : w.heap.size + 1 < v7.heap.size := R.out.lt
                have g10 : v7.cell? ⟨w.heap.size + 1 + 1, 0, none⟩ = some (.int .i64 0) := RA.out.c 0 _ rfl
                have g11 : v7.cell? ⟨w.heap.size + 1 + 1, 1, none⟩ = some (.int .i64 0) := RA.out.c 1 _ rfl
                have g12 : v7.cell? ⟨w.heap.size + 1 + 1, 2, none⟩ = some (.int .i64 0) := RA.out.c 2 _ rfl
                have g13 : v7.cell? ⟨w.heap.size + 1 + 1, 3, none⟩ = some (.int .i64 0) := RA.out.c 3 _ rfl
                have g14 : v7.cell? ⟨w.heap.size + 1 + 1, 4, none⟩ = some (.int .i64 0) := RA.out.c 4 _ rfl
                have g1f : ∀ j, v7.frozen? ⟨w.heap.size + 1 + 1, j, none⟩ = false := RA.out.f
                have g1l : w.heap.size + 1 + 1 < v7.heap.size := RA.out.lt
                refine rg_take (i := 0) (some 102) (v := ?_) rfl rfl (by kernel_rfl) (by rfl) hQ7 hHeld ?_ ?_
                rotate_left
                · intro w7 hSw; (try dsimp only at hSw); go_simp; all_goals with_reducible rfl
                try simp only [Act.put, List.setIfInBounds_toArray, List.set_cons_zero, List.set_cons_succ]
                refine rg_take (i := 1) (some 103) (v := ?_) rfl rfl (by kernel_rfl) (by rfl) hQ7 hHeld ?_ ?_
                rotate_left
                · intro w7 hSw; (try dsimp only at hSw); go_simp; all_goals with_reducible rfl
                try simp only [Act.put, List.setIfInBounds_toArray, List.set_cons_zero, List.set_cons_succ]
                have KBB := BB.out.off4 (c := w.heap.size + 1) (.int .i64 b.own) (.int .i64 b.ot) (.slice b.ag.A b.ag.l.length b.ag.c) (.slice A3 N c3) (by first | omega | (simp; done) | (simp; omega))
                have KS1 := S1.out.off4 (c := w.heap.size + 1) (.int .i64 b.own) (.int .i64 b.ot) (.slice b.ag.A b.ag.l.length b.ag.c) (.slice A3 N c3) (by first | omega | (simp; done) | (simp; omega))
                unfold set4 at KBB KS1
                refine rg_one (i := 2) (by kernel_rfl) (rg_step rfl (by rfl) (fun K hK => ?_))
                go_simp
                refine hK.out _ _ ?_ (fun hHeld2 => ?_)
                · exact ⟨(KBB.drew).c 0 _ rfl, (KBB.drew).c 1 _ rfl, (KBB.drew).c 2 _ rfl, (KBB.drew).c 3 _ rfl, (KS1.drew).c 0 _ rfl, (KS1.drew).c 1 _ rfl, (KS1.drew).c 2 _ rfl, (KS1.drew).c 3 _ rfl, (KS1.drew).c 4 _ rfl⟩
                clear hHeld
                have hHeld := hHeld2
                clear hHeld2
                clear hK K
                try simp only [Act.put, List.setIfInBounds_toArray, List.set_cons_zero, List.set_cons_succ]
                clear KBB KS1
                replace E := Lib.hid (ext_set4 E.out (w.heap.size + 1) (.int .i64 b.own) (.int .i64 b.ot) (.slice b.ag.A b.ag.l.length b.ag.c) (.slice A3 N c3) (by first | exact Nat.le_refl _ | omega | (simp; done) | (simp; omega)))
                replace HB := Lib.hid (HB.out.set4 (c := (w.heap.size + 1)) (.int .i64 b.own) (.int .i64 b.ot) (.slice b.ag.A b.ag.l.length b.ag.c) (.slice A3 N c3) (HOFF.out _ (by omega)))
                replace BB := Lib.hid (BB.out.off4 (c := w.heap.size + 1) (.int .i64 b.own) (.int .i64 b.ot) (.slice b.ag.A b.ag.l.length b.ag.c) (.slice A3 N c3) (by first | omega | (simp; done) | (simp; omega)))
                replace R := Lib.hid (R.out.put4 (.int .i64 b.own) (.int .i64 b.ot) (.slice b.ag.A b.ag.l.length b.ag.c) (.slice A3 N c3))
                replace RA := Lib.hid (RA.out.off4 (c := w.heap.size + 1) (.int .i64 b.own) (.int .i64 b.ot) (.slice b.ag.A b.ag.l.length b.ag.c) (.slice A3 N c3) (by first | omega | (simp; done) | (simp; omega)))
                replace S1 := Lib.hid (S1.out.off4 (c := w.heap.size + 1) (.int .i64 b.own) (.int .i64 b.ot) (.slice b.ag.A b.ag.l.length b.ag.c) (.slice A3 N c3) (by first | omega | (simp; done) | (simp; omega)))
                replace SP := Lib.hid (SP.out.far4 (b := (w.heap.size + 1)) (.int .i64 b.own) (.int .i64 b.ot) (.slice b.ag.A b.ag.l.length b.ag.c) (.slice A3 N c3) (own_off HO3.out (by simp)))
                unfold set4 at E HB BB R RA S1 SP
                refine rg_one (i := 3) (by kernel_rfl) (rg_late rfl (by rfl) (by kernel_rfl) (fun K hK => ?_))
                go_simp
                refine hK.out _ _ ?_
                clear hK K
                try simp only [Act.put, List.setIfInBounds_toArray, List.set_cons_zero, List.set_cons_succ]
                replace E := Lib.hid (ext_set5 E.out (w.heap.size + 1 + 1) (.int .i64 (n2 + 1)) (.int .i64 f) (.int .i64 t) (.int .i64 m) (.int .i64 r) (by first | exact Nat.le_refl _ | omega | (simp; done) | (simp; omega)))
                replace HB := Lib.hid (HB.out.set5 (c := (w.heap.size + 1 + 1)) (.int .i64 (n2 + 1)) (.int .i64 f) (.int .i64 t) (.int .i64 m) (.int .i64 r) (HOFF.out _ (by omega)))
                replace BB := Lib.hid (BB.out.off5 (c := w.heap.size + 1 + 1) (.int .i64 (n2 + 1)) (.int .i64 f) (.int .i64 t) (.int .i64 m) (.int .i64 r) (by first | omega | (simp; done) | (simp; omega)))
                replace R := Lib.hid (R.out.off5 (c := w.heap.size + 1 + 1) (.int .i64 (n2 + 1)) (.int .i64 f) (.int .i64 t) (.int .i64 m) (.int .i64 r) (by first | omega | (simp; done) | (simp; omega)))
                replace RA := Lib.hid (RA.out.put5 (.int .i64 (n2 + 1)) (.int .i64 f) (.int .i64 t) (.int .i64 m) (.int .i64 r))
                replace S1 := Lib.hid (S1.out.off5 (c := w.heap.size + 1 + 1) (.int .i64 (n2 + 1)) (.int .i64 f) (.int .i64 t) (.int .i64 m) (.int .i64 r) (by first | omega | (simp; done) | (simp; omega)))
                replace SP := Lib.hid (SP.out.far5 (b := (w.heap.size + 1 + 1)) (.int .i64 (n2 + 1)) (.int .i64 f) (.int .i64 t) (.int .i64 m) (.int .i64 r) (own_off HO3.out (by simp)))
                unfold set5 at E HB BB R RA S1 SP
                refine rg_pure (i := 4) (some 12) (v := ?_) rfl rfl (by kernel_rfl) (by rfl) hQ7 (.inl (by kernel_rfl)) ?_ ?_
                rotate_left
                · intro w7; go_simp; all_goals with_reducible rfl
                try simp only [Act.put, List.setIfInBounds_toArray, List.set_cons_zero, List.set_cons_succ]
                refine rg_end (by kernel_rfl) (hN7 _ _ ?_) _
                clear hQ7 hN7 Q7
                have DD := ext_drew (ext_refl (((((((((v7.setCell ⟨w.heap.size + 1, 0, none⟩ (.int .i64 b.own)).setCell ⟨w.heap.size + 1, 1, none⟩ (.int .i64 b.ot)).setCell ⟨w.heap.size + 1, 2, none⟩ (.slice b.ag.A b.ag.l.length b.ag.c)).setCell ⟨w.heap.size + 1, 3, none⟩ (.slice A3 N c3)).setCell ⟨w.heap.size + 1 + 1, 0, none⟩ (.int .i64 (n2 + 1))).setCell ⟨w.heap.size + 1 + 1, 1, none⟩ (.int .i64 f)).setCell ⟨w.heap.size + 1 + 1, 2, none⟩ (.int .i64 t)).setCell ⟨w.heap.size + 1 + 1, 3, none⟩ (.int .i64 m)).setCell ⟨w.heap.size + 1 + 1, 4, none⟩ (.int .i64 r)))
                replace E := Lib.hid (ext_trans E.out DD)
                replace HB := Lib.hid (HB.out.ext DD)
                replace BB := Lib.hid (BB.out.ext DD)
                replace R := Lib.hid (R.out.ext DD)
                replace RA := Lib.hid (RA.out.ext DD)
                replace S1 := Lib.hid (S1.out.ext DD)
                replace SP := Lib.hid (SP.out.ext DD)
                clear DD
                go_wp2_with fail
                refine bodyPost_ret (v := .tuple #[Bd.v ⟨b.own, b.ot, b.ag, ⟨A3, c3, putL b.op.l a⟩⟩, Ag.v ⟨n2 + 1, f, t, m, r⟩, .int .i64 0]) (by simp [results, Try.results13, go_sem, *, HNL.out]) rfl ?_
                obtain ⟨hw1, hw2⟩ := HW.out
                rw [hw1, hw2, HERR.out]
                have k3 := own_cap HO3.out
                refine ⟨⟨b.own, b.ot, b.ag, ⟨A3, c3, putL b.op.l a⟩⟩, by rw [HA.out], rfl, ⟨HB.out.ag, SP.out, HB.out.agl, HB.out.agc, k3.1, k3.2⟩, E.out, fun c hc hf => ⟨hf.1, own_off HO3.out (by omega)⟩⟩
        obtain ⟨x, b1, o1, hx, hA, hb1, hd⟩ := HB.out.op.at_ hlt
        have d0 := hd 0 _ rfl
        simp only [Nat.add_zero] at d0
        have HX := Lib.hid hx
        have hlt' : (k : Int) < b.op.l.length := by omega
        obtain ⟨sA, hsA⟩ : ∃ sA, b.op.A = sA := ⟨_, rfl⟩
        rw [hsA] at hA
        subst hA
        simp only [hsA] at *
        clear hd hx
        by_cases hxn : n < x.no
        · have e1 : decide (n < x.no) = true := by simpa using hxn
          have e2 : decide (x.no > n) = true := by simpa using hxn
          have HZ2 := Lib.hid (show great n1 (b.op.l.take (k + 1)) = x.no from great_gt HX.out (by rw [HN.out]; exact hxn))
          clear hxn
          go_wp2_with fail
          go_round
          case rel => exact ⟨k + 1, hlt, by go_num, by rw [HZ2.out]⟩
          case measure => simp [intOf]; omega
        · have e1 : decide (n < x.no) = false := by simpa using hxn
          have e2 : decide (x.no > n) = false := by simpa using hxn
          have HZ2 := Lib.hid (show great n1 (b.op.l.take (k + 1)) = n by rw [great_le2 HX.out (by rw [HN.out]; exact hxn), HN.out])
          clear hxn
          go_wp2_with fail
          go_round
          case rel => exact ⟨k + 1, hlt, by go_num, by rw [HZ2.out]⟩
          case measure => simp [intOf]; omega
    obtain ⟨x, b1, o1, hx, hA, hb1, hd⟩ := HB.out.ag.at_ hlt
    have d0 := hd 0 _ rfl
    simp only [Nat.add_zero] at d0
    have HX := Lib.hid hx
    have hlt' : (k : Int) < b.ag.l.length := by omega
    obtain ⟨sA, hsA⟩ : ∃ sA, b.ag.A = sA := ⟨_, rfl⟩
    rw [hsA] at hA
    subst hA
    simp only [hsA] at *
    clear hd hx
    by_cases hxn : n < x.no
    · have e1 : decide (n < x.no) = true := by simpa using hxn
      have e2 : decide (x.no > n) = true := by simpa using hxn
      have HZ2 := Lib.hid (show great 0 (b.ag.l.take (k + 1)) = x.no from great_gt HX.out (by rw [HN.out]; exact hxn))
      clear hxn
      go_wp2_with fail
      go_round
      case rel => exact ⟨k + 1, hlt, by go_num, by rw [HZ2.out]⟩
      case measure => simp [intOf]; omega
    · have e1 : decide (n < x.no) = false := by simpa using hxn
      have e2 : decide (x.no > n) = false := by simpa using hxn
      have HZ2 := Lib.hid (show great 0 (b.ag.l.take (k + 1)) = n by rw [great_le2 HX.out (by rw [HN.out]; exact hxn), HN.out])
      clear hxn
      go_wp2_with fail
      go_round
      case rel => exact ⟨k + 1, hlt, by go_num, by rw [HZ2.out]⟩
      case measure => simp [intOf]; omega
end Go.Proofs.Ytmnbeikhjbjpiaa
