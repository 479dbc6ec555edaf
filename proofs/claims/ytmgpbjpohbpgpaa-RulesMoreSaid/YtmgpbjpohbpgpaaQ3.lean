/- Laws 3 and 5: Reason as the reference says; minutes of curfews. -/
import Derived.Test.YtmgpbjpohbpgpaaX
import Derived.Test.YtmgpbjpohbpgpaaP
set_option linter.unusedSimpArgs false
set_option linter.unusedVariables false
namespace Go.Proofs.Ytmgpbjpohbpgpaa
open Go.RowKit
theorem few_at {a : As} {w : World} (q : Bool) (hq : fewR a.cls.n a.aps.n a.rs.l = q) (ha : AOk w a) : Calls Try.prog 9 #[.agg #[.slice a.s0.A a.s0.n a.s0.c, .slice a.s1.A a.s1.n a.s1.c, .slice a.s2.A a.s2.n a.s2.c, .slice a.s3.A a.s3.n a.s3.c, .slice a.s4.A a.s4.n a.s4.c, .slice a.aps.A a.aps.n a.aps.c, .slice a.cls.A a.cls.n a.cls.c, .slice a.rs.A a.rs.l.length a.rs.c]] w (RetB w q) := by
  subst hq; exact few9_any a w ha
theorem idx_len {n : Nat} {T : List Nat} (h : Idx n T) : T.length ≤ n := by
  have := (sub_of_subset h.1 (List.pairwise_lt_range (n := n)) (fun i hi => by simpa using h.2 i hi)).length_le
  simpa using this
theorem reaL_idx (nC nA : Nat) (l : List Ru) : Idx l.length (reaL nC nA l) := by
  unfold reaL
  split
  · next h =>
    by_cases hR : reasonL nC nA l = []
    · rw [hR]; exact ⟨List.Pairwise.nil, fun i hi => by cases hi⟩
    · exact ((reason_spec nC nA l (hv_of h)).2.1 hR).1
  · exact ⟨List.Pairwise.nil, fun i hi => by cases hi⟩
theorem reaL_len (nC nA : Nat) (l : List Ru) : (reaL nC nA l).length ≤ 64 := by
  by_cases h : chkR nC nA l = 0
  · exact Nat.le_trans (idx_len (reaL_idx nC nA l)) (valid_of h).1
  · unfold reaL; rw [if_neg h]; simp
set_option maxHeartbeats 6400000 in
theorem law3 (a : As) (w : World) (ha : AOk w a) : Calls Try.prog 3 #[a.v] w (Tru w) := by
  obtain ⟨v, hv⟩ : ∃ v, chkR a.cls.n a.aps.n a.rs.l = v := ⟨_, rfl⟩
  have HV := Lib.hid hv
  obtain ⟨R, hR⟩ : ∃ R, reaL a.cls.n a.aps.n a.rs.l = R := ⟨_, rfl⟩
  have HR := Lib.hid hR
  have HRl := Lib.hid (show R.length ≤ 64 from hR ▸ reaL_len a.cls.n a.aps.n a.rs.l)
  obtain ⟨q, hq⟩ : ∃ q, fewR a.cls.n a.aps.n a.rs.l = q := ⟨_, rfl⟩
  have HQ := Lib.hid hq
  clear hv hR hq
  have E := Lib.hid (ext_refl w)
  have HA := Lib.hid (ha)
  clear ha
  replace E := Lib.hid (ext_alloc E.out (.cells #[.slice a.s0.A a.s0.n a.s0.c, .slice a.s1.A a.s1.n a.s1.c, .slice a.s2.A a.s2.n a.s2.c, .slice a.s3.A a.s3.n a.s3.c, .slice a.s4.A a.s4.n a.s4.c, .slice a.aps.A a.aps.n a.aps.c, .slice a.cls.A a.cls.n a.cls.c, .slice a.rs.A a.rs.l.length a.rs.c] 31))
  replace HA := Lib.hid (HA.out.alloc (.cells #[.slice a.s0.A a.s0.n a.s0.c, .slice a.s1.A a.s1.n a.s1.c, .slice a.s2.A a.s2.n a.s2.c, .slice a.s3.A a.s3.n a.s3.c, .slice a.s4.A a.s4.n a.s4.c, .slice a.aps.A a.aps.n a.aps.c, .slice a.cls.A a.cls.n a.cls.c, .slice a.rs.A a.rs.l.length a.rs.c] 31))
  have X := Lib.hid (Blk.newH w [.slice a.s0.A a.s0.n a.s0.c, .slice a.s1.A a.s1.n a.s1.c, .slice a.s2.A a.s2.n a.s2.c, .slice a.s3.A a.s3.n a.s3.c, .slice a.s4.A a.s4.n a.s4.c, .slice a.aps.A a.aps.n a.aps.c, .slice a.cls.A a.cls.n a.cls.c, .slice a.rs.A a.rs.l.length a.rs.c] 31 (w.heap.size) (by first | rfl | simp))
  go_enter Try.func3, Try.ntmps3
  go_wp2_with fail
  refine (sane_any _).mono ?_
  rintro e v1 ⟨rfl, B⟩
  replace E := Lib.hid (ext_trans E.out B)
  replace HA := Lib.hid (HA.out.ext B)
  replace X := Lib.hid (X.out.ext B)
  clear B
  have c0 := X.out.c 0 _ rfl
  have c1 := X.out.c 1 _ rfl
  have c2 := X.out.c 2 _ rfl
  have c3 := X.out.c 3 _ rfl
  have c4 := X.out.c 4 _ rfl
  have c5 := X.out.c 5 _ rfl
  have c6 := X.out.c 6 _ rfl
  have c7 := X.out.c 7 _ rfl
  go_wp2_with fail
  refine (few_at q HQ.out HA.out).mono ?_
  rintro e v2 ⟨rfl, B⟩
  clear c0 c1 c2 c3 c4 c5 c6 c7
  replace E := Lib.hid (ext_trans E.out B)
  replace HA := Lib.hid (HA.out.ext B)
  replace X := Lib.hid (X.out.ext B)
  clear B
  cases q
  · go_wp2_with fail
    go_ret
    exact ⟨rfl, E.out⟩
  have c0 := X.out.c 0 _ rfl
  have c1 := X.out.c 1 _ rfl
  have c2 := X.out.c 2 _ rfl
  have c3 := X.out.c 3 _ rfl
  have c4 := X.out.c 4 _ rfl
  have c5 := X.out.c 5 _ rfl
  have c6 := X.out.c 6 _ rfl
  have c7 := X.out.c 7 _ rfl
  go_wp2_with fail
  refine (reason_at R v HR.out HV.out HA.out).mono ?_
  rintro e v3 ⟨A2, q2, rfl, h2, B⟩
  clear c0 c1 c2 c3 c4 c5 c6 c7
  replace E := Lib.hid (ext_trans E.out B)
  replace HA := Lib.hid (HA.out.ext B)
  replace X := Lib.hid (X.out.ext B)
  clear B
  have L := Lib.hid h2
  clear h2
  have c0 := X.out.c 0 _ rfl
  have c1 := X.out.c 1 _ rfl
  have c2 := X.out.c 2 _ rfl
  have c3 := X.out.c 3 _ rfl
  have c4 := X.out.c 4 _ rfl
  have c5 := X.out.c 5 _ rfl
  have c6 := X.out.c 6 _ rfl
  have c7 := X.out.c 7 _ rfl
  go_wp2_with fail
  refine (rreason_at R v HR.out HV.out HA.out).mono ?_
  rintro e v4 ⟨A3, q3, rfl, h2, B⟩
  clear c0 c1 c2 c3 c4 c5 c6 c7
  replace E := Lib.hid (ext_trans E.out B)
  replace HA := Lib.hid (HA.out.ext B)
  replace X := Lib.hid (X.out.ext B)
  replace L := Lib.hid (L.out.ext B)
  clear B
  have M := Lib.hid h2
  clear h2
  go_wp2_with fail
  refine (sameN true (by simp) rfl rfl L.out M.out (by have := HRl.out; omega)).mono ?_
  rintro e v5 ⟨rfl, B⟩
  replace E := Lib.hid (ext_trans E.out B)
  replace HA := Lib.hid (HA.out.ext B)
  replace X := Lib.hid (X.out.ext B)
  replace L := Lib.hid (L.out.ext B)
  replace M := Lib.hid (M.out.ext B)
  clear B
  go_wp2_with fail
  go_ret
  exact ⟨ret_bool (by first | rfl | simp), E.out⟩
def onM (cl ap mi : Int) (r : Ru) : Bool := decide (r.k = 1) && decide (r.cl = cl) && decide (r.ap = ap) && decide (r.f ≤ mi) && decide (mi < r.t)
theorem inL_cur (l : List Ru) (cl ap mi : Int) : inL (curL l cl ap) mi = l.any (onM cl ap mi) := by
  unfold inL curL
  rw [List.any_map, List.any_filter]
  congr 1
  funext r
  simp [onM, inS, Ru.h, Bool.and_assoc]
  rfl
theorem has_cur {nC nA : Int} {l : List Ru} {cl ap mi : Int} (h : curE nC nA l cl ap = 0) : has (curN nC nA l cl ap) mi = l.any (onM cl ap mi) := by
  have hc : chkR nC nA l = 0 := by
    apply chkR_of (cl := cl)
    unfold curE at h; split at h
    · assumption
    · exact h
  unfold curN
  rw [if_pos h, nor, nrm_has, ← inL_cur]
  have hb : inL (curL l cl ap) mi = true → 0 ≤ mi ∧ mi < 1440 := fun hq => by
    rw [inL_cur, List.any_eq_true] at hq
    obtain ⟨r, hr, hq⟩ := hq
    simp only [onM, Bool.and_eq_true, decide_eq_true_eq] at hq
    have := (good_k hc r hr).1 hq.1.1.1.1
    omega
  cases hq : inL (curL l cl ap) mi with
  | true =>
    have := hb hq
    rw [Int.toNat_of_nonneg this.1, hq]; simp [this]
  | false =>
    by_cases h0 : 0 ≤ mi
    · rw [Int.toNat_of_nonneg h0, hq]; simp
    · simp [h0]
theorem curN_bad {nC nA : Int} {l : List Ru} {cl ap : Int} (h : curE nC nA l cl ap ≠ 0) : curN nC nA l cl ap = [] := by unfold curN; rw [if_neg h]
theorem has_at {A : Option Addr} {c n : Nat} {l : List Sp} {m : Int} {w : World} (r : Bool) (hr : has l m = r) (hn : n = l.length) (ha : Slc w Sp.cells 2 A l) (hl : l.length < 1000000) : Calls Try.prog 16 #[.slice A n c, .int .i64 m] w (RetB w r) := by
  subst hr hn; exact has_any A c l m w ha hl
theorem curN_len (nC nA : Int) (l : List Ru) (cl ap : Int) : (curN nC nA l cl ap).length ≤ 1440 := by
  unfold curN; split
  · unfold nor nrm; exact runs_len _ 1440
  · simp
theorem any_stepR {p : Ru → Bool} {l : List Ru} {m : Nat} {y : Ru} (hy : l[m]? = some y) : (l.take (m + 1)).any p = ((l.take m).any p || p y) := by
  obtain ⟨hm, rfl⟩ := List.getElem?_eq_some_iff.1 hy
  rw [← List.take_append_getElem hm, List.any_append]; simp
set_option maxRecDepth 100000 in
set_option maxHeartbeats 12800000 in
theorem law5 (a : As) (cl ap mi : Int) (w : World) (ha : AOk w a) : Calls Try.prog 5 #[a.v, .int .i64 cl, .int .i64 ap, .int .i64 mi] w (Tru w) := by
  obtain ⟨v, hv⟩ : ∃ v, curE a.cls.n a.aps.n a.rs.l cl ap = v := ⟨_, rfl⟩
  have HV := Lib.hid hv
  obtain ⟨R, hR⟩ : ∃ R, curN a.cls.n a.aps.n a.rs.l cl ap = R := ⟨_, rfl⟩
  have HR := Lib.hid hR
  have HRl := Lib.hid (show R.length ≤ 1440 from hR ▸ curN_len a.cls.n a.aps.n a.rs.l cl ap)
  obtain ⟨r, hr⟩ : ∃ r, a.rs.l.any (onM cl ap mi) = r := ⟨_, rfl⟩
  have HAny := Lib.hid hr
  have HH := Lib.hid (show v = 0 → has R mi = r from fun h => by rw [← hR, has_cur (hv.trans h), hr])
  have HN := Lib.hid (show v ≠ 0 → R = [] from fun h => by rw [← hR]; exact curN_bad (by rw [hv]; exact h))
  clear hv hR hr
  have E := Lib.hid (ext_refl w)
  have HA := Lib.hid (ha)
  clear ha
  replace E := Lib.hid (ext_alloc E.out (.cells #[.slice a.s0.A a.s0.n a.s0.c, .slice a.s1.A a.s1.n a.s1.c, .slice a.s2.A a.s2.n a.s2.c, .slice a.s3.A a.s3.n a.s3.c, .slice a.s4.A a.s4.n a.s4.c, .slice a.aps.A a.aps.n a.aps.c, .slice a.cls.A a.cls.n a.cls.c, .slice a.rs.A a.rs.l.length a.rs.c] 31))
  replace HA := Lib.hid (HA.out.alloc (.cells #[.slice a.s0.A a.s0.n a.s0.c, .slice a.s1.A a.s1.n a.s1.c, .slice a.s2.A a.s2.n a.s2.c, .slice a.s3.A a.s3.n a.s3.c, .slice a.s4.A a.s4.n a.s4.c, .slice a.aps.A a.aps.n a.aps.c, .slice a.cls.A a.cls.n a.cls.c, .slice a.rs.A a.rs.l.length a.rs.c] 31))
  have X := Lib.hid (Blk.newH w [.slice a.s0.A a.s0.n a.s0.c, .slice a.s1.A a.s1.n a.s1.c, .slice a.s2.A a.s2.n a.s2.c, .slice a.s3.A a.s3.n a.s3.c, .slice a.s4.A a.s4.n a.s4.c, .slice a.aps.A a.aps.n a.aps.c, .slice a.cls.A a.cls.n a.cls.c, .slice a.rs.A a.rs.l.length a.rs.c] 31 (w.heap.size) (by first | rfl | simp))
  go_enter Try.func5, Try.ntmps5
  go_wp2_with fail
  refine (sane_any _).mono ?_
  rintro e v1 ⟨rfl, B⟩
  replace E := Lib.hid (ext_trans E.out B)
  replace HA := Lib.hid (HA.out.ext B)
  replace X := Lib.hid (X.out.ext B)
  clear B
  by_cases hl : (80 : Int) < a.rs.l.length
  · have c0 := X.out.c 7 _ rfl
    go_wp2_with fail
    go_ret
    exact ⟨rfl, E.out⟩
  have c0 := X.out.c 0 _ rfl
  have c1 := X.out.c 1 _ rfl
  have c2 := X.out.c 2 _ rfl
  have c3 := X.out.c 3 _ rfl
  have c4 := X.out.c 4 _ rfl
  have c5 := X.out.c 5 _ rfl
  have c6 := X.out.c 6 _ rfl
  have c7 := X.out.c 7 _ rfl
  go_wp2_with fail
  refine (curfew_at R v HR.out HV.out HA.out).mono ?_
  rintro e v2 ⟨A2, q2, rfl, h2, B⟩
  clear c0 c1 c2 c3 c4 c5 c6 c7
  replace E := Lib.hid (ext_trans E.out B)
  replace HA := Lib.hid (HA.out.ext B)
  replace X := Lib.hid (X.out.ext B)
  clear B
  have L := Lib.hid h2
  clear h2
  by_cases h0 : v = 0
  rotate_left
  · have hz : (v != 0) = true := by simp [h0]
    obtain rfl := HN.out h0
    clear h0 HH HN
    go_wp2_with fail
    go_ret
    exact ⟨ret_bool (by first | rfl | simp), E.out⟩
  subst h0
  have HH2 := Lib.hid (HH.out rfl)
  clear HH HN HV
  have c0 := X.out.c 7 _ rfl
  go_wp2_with fail
  clear c0
  obtain ⟨v2, hv2⟩ : ∃ W0, W0 = v2 := ⟨_, rfl⟩
  clear hv2 v2
  go_loopw [11, 35] (fun s i W => ∃ k : Nat, k ≤ a.rs.l.length ∧ i = .int .i64 k ∧ s = .bool ((a.rs.l.take k).any (onM cl ap mi)) ∧ Below v2.heap.size v2 W) (fun _ i _ => a.rs.l.length - (intOf i).toNat)
  case atStart => exact ⟨0, Nat.zero_le _, rfl, rfl, ext_refl _⟩
  case round =>
    obtain ⟨k, hk, rfl, rfl, hB⟩ := hrel
    have F := Lib.hid hB
    clear hB
    by_cases hlt : k < a.rs.l.length
    rotate_left
    · obtain rfl : k = a.rs.l.length := by omega
      have HG := Lib.hid (has_at (c := q2) (n := R.length) r HH2.out rfl (L.out.ext F.out) (by have := HRl.out; omega))
      have HT := Lib.hid (show (a.rs.l.take a.rs.l.length).any (onM cl ap mi) = r by rw [List.take_length]; exact HAny.out)
      rw [HT.out]
      clear HT HH2
      go_wp2_with fail
      refine HG.out.mono ?_
      rintro e w5 ⟨rfl, B5⟩
      have E5 := Lib.hid (ext_trans (ext_trans E.out F.out) B5)
      clear HG B5
      cases r
      · go_wp2_with fail
        go_ret
        exact ⟨ret_bool (by first | rfl | simp), E5.out⟩
      · go_wp2_with fail
        go_ret
        exact ⟨ret_bool (by first | rfl | simp), E5.out⟩
    · obtain ⟨x, b1, o1, hx, hA1, hb1, hd⟩ := (HA.out.rs.ext F.out).at_ hlt
      have d0 := hd 0 _ rfl
      have d1 := hd 1 _ rfl
      have d2 := hd 2 _ rfl
      have d3 := hd 3 _ rfl
      have d4 := hd 4 _ rfl
      have d5 := hd 5 _ rfl
      have d6 := hd 6 _ rfl
      have d7 := hd 7 _ rfl
      simp only [Nat.add_zero] at d0
      have hlt' : (k : Int) < a.rs.l.length := by omega
      obtain ⟨s, hs⟩ : ∃ s, (a.rs.l.take k).any (onM cl ap mi) = s := ⟨_, rfl⟩
      have HSt := Lib.hid (any_stepR (p := onM cl ap mi) hx)
      rw [hs] at HSt ⊢
      have F2 := Lib.hid (ext_alloc F.out (.cells #[.int .i64 x.k, .string x.sc, .string x.sa, .int .i64 x.cl, .int .i64 x.ap, .int .i64 x.n, .int .i64 x.f, .int .i64 x.t] 42))
      clear hs hd hx HH2
      obtain ⟨p1, hp1⟩ : ∃ p, (x.k == 1) = p := ⟨_, rfl⟩
      obtain ⟨p2, hp2⟩ : ∃ p, (x.cl == cl) = p := ⟨_, rfl⟩
      obtain ⟨p3, hp3⟩ : ∃ p, (x.ap == ap) = p := ⟨_, rfl⟩
      obtain ⟨p4, hp4⟩ : ∃ p, decide (x.f ≤ mi) = p := ⟨_, rfl⟩
      obtain ⟨p5, hp5⟩ : ∃ p, decide (mi < x.t) = p := ⟨_, rfl⟩
      have HC := Lib.hid (show onM cl ap mi x = (p1 && p2 && p3 && p4 && p5) by rw [← hp1, ← hp2, ← hp3, ← hp4, ← hp5]; rfl)
      replace HSt := Lib.hid (HSt.out.trans (by rw [HC.out]))
      clear HC
      cases s
      rotate_left
      · go_wp2_with fail
        try rw [← hA1]
        first
          | exact ⟨⟨k + 1, hlt, by go_num, by rw [HSt.out]; rfl, F2.out⟩, by simp [intOf]; omega⟩
          | (go_roundw
             case rel => exact ⟨k + 1, hlt, by go_num, by rw [HSt.out]; rfl, F2.out⟩
             case measure => simp [intOf]; omega)
      cases p1
      · go_wp2_with fail
        try rw [← hA1]
        first
          | exact ⟨⟨k + 1, hlt, by go_num, by rw [HSt.out]; rfl, F2.out⟩, by simp [intOf]; omega⟩
          | (go_roundw
             case rel => exact ⟨k + 1, hlt, by go_num, by rw [HSt.out]; rfl, F2.out⟩
             case measure => simp [intOf]; omega)
      cases p2
      · go_wp2_with fail
        try rw [← hA1]
        first
          | exact ⟨⟨k + 1, hlt, by go_num, by rw [HSt.out]; rfl, F2.out⟩, by simp [intOf]; omega⟩
          | (go_roundw
             case rel => exact ⟨k + 1, hlt, by go_num, by rw [HSt.out]; rfl, F2.out⟩
             case measure => simp [intOf]; omega)
      cases p3
      · go_wp2_with fail
        try rw [← hA1]
        first
          | exact ⟨⟨k + 1, hlt, by go_num, by rw [HSt.out]; rfl, F2.out⟩, by simp [intOf]; omega⟩
          | (go_roundw
             case rel => exact ⟨k + 1, hlt, by go_num, by rw [HSt.out]; rfl, F2.out⟩
             case measure => simp [intOf]; omega)
      cases p4
      · go_wp2_with fail
        try rw [← hA1]
        first
          | exact ⟨⟨k + 1, hlt, by go_num, by rw [HSt.out]; rfl, F2.out⟩, by simp [intOf]; omega⟩
          | (go_roundw
             case rel => exact ⟨k + 1, hlt, by go_num, by rw [HSt.out]; rfl, F2.out⟩
             case measure => simp [intOf]; omega)
      cases p5
      · go_wp2_with fail
        try rw [← hA1]
        first
          | exact ⟨⟨k + 1, hlt, by go_num, by rw [HSt.out]; rfl, F2.out⟩, by simp [intOf]; omega⟩
          | (go_roundw
             case rel => exact ⟨k + 1, hlt, by go_num, by rw [HSt.out]; rfl, F2.out⟩
             case measure => simp [intOf]; omega)
      · go_wp2_with fail
        try rw [← hA1]
        first
          | exact ⟨⟨k + 1, hlt, by go_num, by rw [HSt.out]; rfl, F2.out⟩, by simp [intOf]; omega⟩
          | (go_roundw
             case rel => exact ⟨k + 1, hlt, by go_num, by rw [HSt.out]; rfl, F2.out⟩
             case measure => simp [intOf]; omega)
end Go.Proofs.Ytmgpbjpohbpgpaa
