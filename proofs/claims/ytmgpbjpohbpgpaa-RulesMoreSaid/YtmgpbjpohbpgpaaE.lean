/- Contracts: two rules against each other; numbers of rules; weights. -/
import Derived.Test.YtmgpbjpohbpgpaaD
set_option linter.unusedSimpArgs false
set_option linter.unusedVariables false
namespace Go.Proofs.Ytmgpbjpohbpgpaa
open Go.RowKit
set_option maxHeartbeats 6400000 in
theorem against_any (x y : Ru) (w : World) : Calls Try.prog 28 #[x.v, y.v] w (RetB w (agR x y)) := by
  have HF := Lib.hid (@ag_iff x y)
  go_enter Try.func28, Try.ntmps28
  go_wp2_with fail
  all_goals
    go_ret
    refine ⟨ret_bool ?_, ext_alloc (ext_alloc (ext_refl w) _) _⟩
    rw [Bool.eq_iff_iff, HF.out]
    try (rename ∀ (a : Act) (w : World), _ => hK; clear hK)
    clear HF
    first | (simp_all; done) | (simp_all; omega) | (simp at *; omega)
theorem num1_any (r : Ru) (k cl : Int) (bk bc : Nat) (w : World) (hk : Blk w bk [.int .i64 k]) (hc : Blk w bc [.int .i64 cl]) : Calls Try.prog 49 #[r.v, .pointer (some ⟨bk, 0, none⟩), .pointer (some ⟨bc, 0, none⟩)] w (RetB w (isR k cl r)) := by
  have k0 := hk.c 0 _ rfl
  have kl := hk.lt
  have c0 := hc.c 0 _ rfl
  have cl' := hc.lt
  clear hk hc
  by_cases h : r.k = k
  · have h1 : (r.k == k) = true := by simp [h]
    have HH := Lib.hid h
    clear h
    go_enter Try.func49, Try.ntmps49
    go_wp2_with fail
    all_goals
      go_ret
      exact ⟨ret_bool (by have hh := HH.out; unfold isR; first | (simp [hh]; done) | (simp [hh]; rfl) | (simp_all; done) | (simp_all; rfl)), ext_alloc (ext_refl w) _⟩
  · have h1 : (r.k == k) = false := by simp [h]
    have HH := Lib.hid h
    clear h
    go_enter Try.func49, Try.ntmps49
    go_wp2_with fail
    all_goals
      go_ret
      exact ⟨ret_bool (by have hh := HH.out; unfold isR; first | (simp [hh]; done) | (simp [hh]; rfl) | (simp_all; done) | (simp_all; rfl)), ext_alloc (ext_refl w) _⟩
theorem num_idx (p : Ru → Bool) (l : List Ru) (n d : Int) (hn : (match l.find? p with | some r => r.n | none => d) = n) : (idxGo p 0 l = -1 ∧ n = d) ∨ ∃ (i : Nat) (x : Ru), idxGo p 0 l = (i : Int) ∧ l[i]? = some x ∧ n = x.n := by
  rcases idxGo_cases p 0 l with ⟨h1, h2⟩ | ⟨i0, x0, h1, h2, h3, h4⟩
  · refine .inl ⟨h1, ?_⟩
    rw [List.find?_eq_none.2 (fun x hx => by simp [h2 x hx])] at hn
    exact hn.symm
  · refine .inr ⟨i0, x0, by rw [h1]; simp, h2, ?_⟩
    have hi := (List.getElem?_eq_some_iff.1 h2).1
    have : l.find? p = some x0 := by
      rw [List.find?_eq_some_iff_getElem]
      refine ⟨h3, i0, hi, (List.getElem?_eq_some_iff.1 h2).2, fun j hj => ?_⟩
      have := h4 j hj l[j] (List.getElem?_eq_getElem (by omega))
      simpa using this
    rw [this] at hn
    exact hn.symm
set_option maxHeartbeats 1600000 in
theorem number_any (a : As) (k cl d n : Int) (w : World) (ha : AOk w a) (hn : numR a.rs.l k cl d = n) : Calls Try.prog 32 #[.agg #[.slice a.s0.A a.s0.n a.s0.c, .slice a.s1.A a.s1.n a.s1.c, .slice a.s2.A a.s2.n a.s2.c, .slice a.s3.A a.s3.n a.s3.c, .slice a.s4.A a.s4.n a.s4.c, .slice a.aps.A a.aps.n a.aps.c, .slice a.cls.A a.cls.n a.cls.c, .slice a.rs.A a.rs.l.length a.rs.c], .int .i64 k, .int .i64 cl, .int .i64 d] w (RetE w n) := by
  have hlm := Nat.le_trans ha.rl ha.rc
  have HN := Lib.hid (num_idx (isR k cl) a.rs.l n d hn)
  clear hn
  obtain ⟨ix, hix⟩ : ∃ v, idxGo (isR k cl) 0 a.rs.l = v := ⟨_, rfl⟩
  have HIX := Lib.hid hix
  clear hix
  have E := Lib.hid (ext_refl w)
  have HA := Lib.hid (ha)
  clear ha
  replace E := Lib.hid (ext_alloc E.out (.cells #[.slice a.s0.A a.s0.n a.s0.c, .slice a.s1.A a.s1.n a.s1.c, .slice a.s2.A a.s2.n a.s2.c, .slice a.s3.A a.s3.n a.s3.c, .slice a.s4.A a.s4.n a.s4.c, .slice a.aps.A a.aps.n a.aps.c, .slice a.cls.A a.cls.n a.cls.c, .slice a.rs.A a.rs.l.length a.rs.c] 31))
  replace HA := Lib.hid (HA.out.alloc (.cells #[.slice a.s0.A a.s0.n a.s0.c, .slice a.s1.A a.s1.n a.s1.c, .slice a.s2.A a.s2.n a.s2.c, .slice a.s3.A a.s3.n a.s3.c, .slice a.s4.A a.s4.n a.s4.c, .slice a.aps.A a.aps.n a.aps.c, .slice a.cls.A a.cls.n a.cls.c, .slice a.rs.A a.rs.l.length a.rs.c] 31))
  have X := Lib.hid (Blk.newH w [.slice a.s0.A a.s0.n a.s0.c, .slice a.s1.A a.s1.n a.s1.c, .slice a.s2.A a.s2.n a.s2.c, .slice a.s3.A a.s3.n a.s3.c, .slice a.s4.A a.s4.n a.s4.c, .slice a.aps.A a.aps.n a.aps.c, .slice a.cls.A a.cls.n a.cls.c, .slice a.rs.A a.rs.l.length a.rs.c] 31 (w.heap.size) (by first | rfl | simp))
  replace E := Lib.hid (ext_alloc E.out (.cells #[.int .i64 k] 3))
  replace HA := Lib.hid (HA.out.alloc (.cells #[.int .i64 k] 3))
  replace X := Lib.hid (X.out.alloc (.cells #[.int .i64 k] 3))
  have K := Lib.hid (Blk.newH (w.alloc (.cells #[.slice a.s0.A a.s0.n a.s0.c, .slice a.s1.A a.s1.n a.s1.c, .slice a.s2.A a.s2.n a.s2.c, .slice a.s3.A a.s3.n a.s3.c, .slice a.s4.A a.s4.n a.s4.c, .slice a.aps.A a.aps.n a.aps.c, .slice a.cls.A a.cls.n a.cls.c, .slice a.rs.A a.rs.l.length a.rs.c] 31)) [.int .i64 k] 3 (w.heap.size + 1) (by first | rfl | simp))
  replace E := Lib.hid (ext_alloc E.out (.cells #[.int .i64 cl] 3))
  replace HA := Lib.hid (HA.out.alloc (.cells #[.int .i64 cl] 3))
  replace X := Lib.hid (X.out.alloc (.cells #[.int .i64 cl] 3))
  replace K := Lib.hid (K.out.alloc (.cells #[.int .i64 cl] 3))
  have C := Lib.hid (Blk.newH ((w.alloc (.cells #[.slice a.s0.A a.s0.n a.s0.c, .slice a.s1.A a.s1.n a.s1.c, .slice a.s2.A a.s2.n a.s2.c, .slice a.s3.A a.s3.n a.s3.c, .slice a.s4.A a.s4.n a.s4.c, .slice a.aps.A a.aps.n a.aps.c, .slice a.cls.A a.cls.n a.cls.c, .slice a.rs.A a.rs.l.length a.rs.c] 31)).alloc (.cells #[.int .i64 k] 3)) [.int .i64 cl] 3 (w.heap.size + 1 + 1) (by first | rfl | simp))
  go_enter Try.func32, Try.ntmps32
  have c0 := X.out.c 7 _ rfl
  go_wp2_with fail
  refine (indexRu 49 (.pointer (some ⟨w.heap.size + 1, 0, none⟩)) (.pointer (some ⟨w.heap.size + 1 + 1, 0, none⟩)) (isR k cl) a.rs.A a.rs.c a.rs.l _ HA.out.rs hlm enters49 (fun x W hx hW => num1_any x k cl (w.heap.size + 1) (w.heap.size + 1 + 1) W (K.out.ext hW) (C.out.ext hW))).mono ?_
  rintro e v1 ⟨rfl, B⟩
  clear c0
  replace E := Lib.hid (ext_trans E.out B)
  replace HA := Lib.hid (HA.out.ext B)
  replace X := Lib.hid (X.out.ext B)
  replace K := Lib.hid (K.out.ext B)
  replace C := Lib.hid (C.out.ext B)
  clear B
  rw [HIX.out]
  rcases HN.out with ⟨h1, h2⟩ | ⟨i, x, h1, h2, h3⟩
  · have hx1 : ix = -1 := by rw [← HIX.out]; exact h1
    subst hx1 h2
    clear h1
    go_wp2_with fail
    go_ret
    exact ⟨rfl, E.out⟩
  · have hx1 : ix = (i : Int) := by rw [← HIX.out]; exact h1
    subst hx1 h3
    have hlt := (List.getElem?_eq_some_iff.1 h2).1
    have hlt1 : (i : Int) < a.rs.l.length := by omega
    have hi0 : ¬ (i : Int) < 0 := by omega
    obtain ⟨b1, o1, hA1, hb1, hd⟩ := HA.out.rs i x h2
    have d5 := hd 5 _ rfl
    clear hd h1 h2
    have c0 := X.out.c 7 _ rfl
    go_wp2_with fail
    go_ret
    exact ⟨rfl, E.out⟩
theorem chk31_any (a : As) (cl : Int) (w : World) (ha : AOk w a) : Calls Try.prog 31 #[.agg #[.slice a.s0.A a.s0.n a.s0.c, .slice a.s1.A a.s1.n a.s1.c, .slice a.s2.A a.s2.n a.s2.c, .slice a.s3.A a.s3.n a.s3.c, .slice a.s4.A a.s4.n a.s4.c, .slice a.aps.A a.aps.n a.aps.c, .slice a.cls.A a.cls.n a.cls.c, .slice a.rs.A a.rs.l.length a.rs.c], .int .i64 cl] w (RetE w (chkC a.cls.n a.aps.n a.rs.l cl)) := by
  obtain ⟨v, hv⟩ : ∃ v, chkR a.cls.n a.aps.n a.rs.l = v := ⟨_, rfl⟩
  have HV := Lib.hid hv
  obtain ⟨r, hr⟩ : ∃ v, chkC a.cls.n a.aps.n a.rs.l cl = v := ⟨_, rfl⟩
  have HR := Lib.hid (show (if v = 0 then (if decide (cl < 0) || decide ((a.cls.n : Int) ≤ cl) then 1 else 0) else v) = r by rw [← hr]; unfold chkC; rw [hv])
  rw [hr]
  clear hv hr
  by_cases h0 : v = 0
  rotate_left
  · have f0 : (v != 0) = true := by simp [h0]
    have HR2 := Lib.hid (show v = r by rw [← HR.out, if_neg h0])
    clear h0
    have E := Lib.hid (ext_refl w)
    have HA := Lib.hid (ha)
    clear ha
    replace E := Lib.hid (ext_alloc E.out (.cells #[.slice a.s0.A a.s0.n a.s0.c, .slice a.s1.A a.s1.n a.s1.c, .slice a.s2.A a.s2.n a.s2.c, .slice a.s3.A a.s3.n a.s3.c, .slice a.s4.A a.s4.n a.s4.c, .slice a.aps.A a.aps.n a.aps.c, .slice a.cls.A a.cls.n a.cls.c, .slice a.rs.A a.rs.l.length a.rs.c] 31))
    replace HA := Lib.hid (HA.out.alloc (.cells #[.slice a.s0.A a.s0.n a.s0.c, .slice a.s1.A a.s1.n a.s1.c, .slice a.s2.A a.s2.n a.s2.c, .slice a.s3.A a.s3.n a.s3.c, .slice a.s4.A a.s4.n a.s4.c, .slice a.aps.A a.aps.n a.aps.c, .slice a.cls.A a.cls.n a.cls.c, .slice a.rs.A a.rs.l.length a.rs.c] 31))
    have X := Lib.hid (Blk.newH w [.slice a.s0.A a.s0.n a.s0.c, .slice a.s1.A a.s1.n a.s1.c, .slice a.s2.A a.s2.n a.s2.c, .slice a.s3.A a.s3.n a.s3.c, .slice a.s4.A a.s4.n a.s4.c, .slice a.aps.A a.aps.n a.aps.c, .slice a.cls.A a.cls.n a.cls.c, .slice a.rs.A a.rs.l.length a.rs.c] 31 (w.heap.size) (by first | rfl | simp))
    go_enter Try.func31, Try.ntmps31
    have c0 := X.out.c 0 _ rfl
    have c1 := X.out.c 1 _ rfl
    have c2 := X.out.c 2 _ rfl
    have c3 := X.out.c 3 _ rfl
    have c4 := X.out.c 4 _ rfl
    have c5 := X.out.c 5 _ rfl
    have c6 := X.out.c 6 _ rfl
    have c7 := X.out.c 7 _ rfl
    go_wp2_with fail
    refine (check_at13 v HV.out HA.out).mono ?_
    rintro e v1 ⟨rfl, B⟩
    clear c0 c1 c2 c3 c4 c5 c6 c7
    replace E := Lib.hid (ext_trans E.out B)
    replace HA := Lib.hid (HA.out.ext B)
    replace X := Lib.hid (X.out.ext B)
    clear B
    go_wp2_with fail
    go_ret
    exact ⟨ret_int HR2.out, E.out⟩
  subst h0
  by_cases h1 : cl < 0
  · have HR2 := Lib.hid (show (1 : Int) = r by rw [← HR.out]; simp [h1])
    have E := Lib.hid (ext_refl w)
    have HA := Lib.hid (ha)
    clear ha
    replace E := Lib.hid (ext_alloc E.out (.cells #[.slice a.s0.A a.s0.n a.s0.c, .slice a.s1.A a.s1.n a.s1.c, .slice a.s2.A a.s2.n a.s2.c, .slice a.s3.A a.s3.n a.s3.c, .slice a.s4.A a.s4.n a.s4.c, .slice a.aps.A a.aps.n a.aps.c, .slice a.cls.A a.cls.n a.cls.c, .slice a.rs.A a.rs.l.length a.rs.c] 31))
    replace HA := Lib.hid (HA.out.alloc (.cells #[.slice a.s0.A a.s0.n a.s0.c, .slice a.s1.A a.s1.n a.s1.c, .slice a.s2.A a.s2.n a.s2.c, .slice a.s3.A a.s3.n a.s3.c, .slice a.s4.A a.s4.n a.s4.c, .slice a.aps.A a.aps.n a.aps.c, .slice a.cls.A a.cls.n a.cls.c, .slice a.rs.A a.rs.l.length a.rs.c] 31))
    have X := Lib.hid (Blk.newH w [.slice a.s0.A a.s0.n a.s0.c, .slice a.s1.A a.s1.n a.s1.c, .slice a.s2.A a.s2.n a.s2.c, .slice a.s3.A a.s3.n a.s3.c, .slice a.s4.A a.s4.n a.s4.c, .slice a.aps.A a.aps.n a.aps.c, .slice a.cls.A a.cls.n a.cls.c, .slice a.rs.A a.rs.l.length a.rs.c] 31 (w.heap.size) (by first | rfl | simp))
    go_enter Try.func31, Try.ntmps31
    have c0 := X.out.c 0 _ rfl
    have c1 := X.out.c 1 _ rfl
    have c2 := X.out.c 2 _ rfl
    have c3 := X.out.c 3 _ rfl
    have c4 := X.out.c 4 _ rfl
    have c5 := X.out.c 5 _ rfl
    have c6 := X.out.c 6 _ rfl
    have c7 := X.out.c 7 _ rfl
    go_wp2_with fail
    refine (check_at13 0 HV.out HA.out).mono ?_
    rintro e v1 ⟨rfl, B⟩
    clear c0 c1 c2 c3 c4 c5 c6 c7
    replace E := Lib.hid (ext_trans E.out B)
    replace HA := Lib.hid (HA.out.ext B)
    replace X := Lib.hid (X.out.ext B)
    clear B
    go_wp2_with fail
    go_ret
    exact ⟨ret_int HR2.out, E.out⟩
  by_cases h2 : (a.cls.n : Int) ≤ cl
  · have HR2 := Lib.hid (show (1 : Int) = r by rw [← HR.out]; simp [h2])
    have E := Lib.hid (ext_refl w)
    have HA := Lib.hid (ha)
    clear ha
    replace E := Lib.hid (ext_alloc E.out (.cells #[.slice a.s0.A a.s0.n a.s0.c, .slice a.s1.A a.s1.n a.s1.c, .slice a.s2.A a.s2.n a.s2.c, .slice a.s3.A a.s3.n a.s3.c, .slice a.s4.A a.s4.n a.s4.c, .slice a.aps.A a.aps.n a.aps.c, .slice a.cls.A a.cls.n a.cls.c, .slice a.rs.A a.rs.l.length a.rs.c] 31))
    replace HA := Lib.hid (HA.out.alloc (.cells #[.slice a.s0.A a.s0.n a.s0.c, .slice a.s1.A a.s1.n a.s1.c, .slice a.s2.A a.s2.n a.s2.c, .slice a.s3.A a.s3.n a.s3.c, .slice a.s4.A a.s4.n a.s4.c, .slice a.aps.A a.aps.n a.aps.c, .slice a.cls.A a.cls.n a.cls.c, .slice a.rs.A a.rs.l.length a.rs.c] 31))
    have X := Lib.hid (Blk.newH w [.slice a.s0.A a.s0.n a.s0.c, .slice a.s1.A a.s1.n a.s1.c, .slice a.s2.A a.s2.n a.s2.c, .slice a.s3.A a.s3.n a.s3.c, .slice a.s4.A a.s4.n a.s4.c, .slice a.aps.A a.aps.n a.aps.c, .slice a.cls.A a.cls.n a.cls.c, .slice a.rs.A a.rs.l.length a.rs.c] 31 (w.heap.size) (by first | rfl | simp))
    go_enter Try.func31, Try.ntmps31
    have c0 := X.out.c 0 _ rfl
    have c1 := X.out.c 1 _ rfl
    have c2 := X.out.c 2 _ rfl
    have c3 := X.out.c 3 _ rfl
    have c4 := X.out.c 4 _ rfl
    have c5 := X.out.c 5 _ rfl
    have c6 := X.out.c 6 _ rfl
    have c7 := X.out.c 7 _ rfl
    go_wp2_with fail
    refine (check_at13 0 HV.out HA.out).mono ?_
    rintro e v1 ⟨rfl, B⟩
    clear c0 c1 c2 c3 c4 c5 c6 c7
    replace E := Lib.hid (ext_trans E.out B)
    replace HA := Lib.hid (HA.out.ext B)
    replace X := Lib.hid (X.out.ext B)
    clear B
    have c0 := X.out.c 6 _ rfl
    go_wp2_with fail
    go_ret
    exact ⟨ret_int HR2.out, E.out⟩
  · have HR2 := Lib.hid (show (0 : Int) = r by rw [← HR.out]; simp [h1, h2])
    have E := Lib.hid (ext_refl w)
    have HA := Lib.hid (ha)
    clear ha
    replace E := Lib.hid (ext_alloc E.out (.cells #[.slice a.s0.A a.s0.n a.s0.c, .slice a.s1.A a.s1.n a.s1.c, .slice a.s2.A a.s2.n a.s2.c, .slice a.s3.A a.s3.n a.s3.c, .slice a.s4.A a.s4.n a.s4.c, .slice a.aps.A a.aps.n a.aps.c, .slice a.cls.A a.cls.n a.cls.c, .slice a.rs.A a.rs.l.length a.rs.c] 31))
    replace HA := Lib.hid (HA.out.alloc (.cells #[.slice a.s0.A a.s0.n a.s0.c, .slice a.s1.A a.s1.n a.s1.c, .slice a.s2.A a.s2.n a.s2.c, .slice a.s3.A a.s3.n a.s3.c, .slice a.s4.A a.s4.n a.s4.c, .slice a.aps.A a.aps.n a.aps.c, .slice a.cls.A a.cls.n a.cls.c, .slice a.rs.A a.rs.l.length a.rs.c] 31))
    have X := Lib.hid (Blk.newH w [.slice a.s0.A a.s0.n a.s0.c, .slice a.s1.A a.s1.n a.s1.c, .slice a.s2.A a.s2.n a.s2.c, .slice a.s3.A a.s3.n a.s3.c, .slice a.s4.A a.s4.n a.s4.c, .slice a.aps.A a.aps.n a.aps.c, .slice a.cls.A a.cls.n a.cls.c, .slice a.rs.A a.rs.l.length a.rs.c] 31 (w.heap.size) (by first | rfl | simp))
    go_enter Try.func31, Try.ntmps31
    have c0 := X.out.c 0 _ rfl
    have c1 := X.out.c 1 _ rfl
    have c2 := X.out.c 2 _ rfl
    have c3 := X.out.c 3 _ rfl
    have c4 := X.out.c 4 _ rfl
    have c5 := X.out.c 5 _ rfl
    have c6 := X.out.c 6 _ rfl
    have c7 := X.out.c 7 _ rfl
    go_wp2_with fail
    refine (check_at13 0 HV.out HA.out).mono ?_
    rintro e v1 ⟨rfl, B⟩
    clear c0 c1 c2 c3 c4 c5 c6 c7
    replace E := Lib.hid (ext_trans E.out B)
    replace HA := Lib.hid (HA.out.ext B)
    replace X := Lib.hid (X.out.ext B)
    clear B
    have c0 := X.out.c 6 _ rfl
    go_wp2_with fail
    go_ret
    exact ⟨ret_int HR2.out, E.out⟩
theorem chk31_at {a : As} {cl : Int} {w : World} (r : Int) (hr : chkC a.cls.n a.aps.n a.rs.l cl = r) (ha : AOk w a) : Calls Try.prog 31 #[.agg #[.slice a.s0.A a.s0.n a.s0.c, .slice a.s1.A a.s1.n a.s1.c, .slice a.s2.A a.s2.n a.s2.c, .slice a.s3.A a.s3.n a.s3.c, .slice a.s4.A a.s4.n a.s4.c, .slice a.aps.A a.aps.n a.aps.c, .slice a.cls.A a.cls.n a.cls.c, .slice a.rs.A a.rs.l.length a.rs.c], .int .i64 cl] w (RetE w r) := by
  subst hr; exact chk31_any a cl w ha
/-- A number and an error. -/
def NeR (w : World) (n err : Int) (e : Ending) (w' : World) : Prop := e = .returned (.tuple #[.int .i64 n, .int .i64 err]) ∧ Below w.heap.size w w'
/-- The weight, the longest delay; 0 where there is an error. -/
def weightN (nC nA : Int) (l : List Ru) (cl : Int) : Int := if chkC nC nA l cl = 0 then numR l 3 cl 1 else 0
def longN (nC nA : Int) (l : List Ru) (cl : Int) : Int := if chkC nC nA l cl = 0 then min (numR l 4 cl 60) (numR l 2 cl 60) else 0
theorem weight_any (a : As) (cl : Int) (w : World) (ha : AOk w a) : Calls Try.prog 13 #[.agg #[.slice a.s0.A a.s0.n a.s0.c, .slice a.s1.A a.s1.n a.s1.c, .slice a.s2.A a.s2.n a.s2.c, .slice a.s3.A a.s3.n a.s3.c, .slice a.s4.A a.s4.n a.s4.c, .slice a.aps.A a.aps.n a.aps.c, .slice a.cls.A a.cls.n a.cls.c, .slice a.rs.A a.rs.l.length a.rs.c], .int .i64 cl] w (NeR w (weightN a.cls.n a.aps.n a.rs.l cl) (chkC a.cls.n a.aps.n a.rs.l cl)) := by
  obtain ⟨v, hv⟩ : ∃ v, chkC a.cls.n a.aps.n a.rs.l cl = v := ⟨_, rfl⟩
  have HV := Lib.hid hv
  obtain ⟨n, hn⟩ : ∃ v, numR a.rs.l 3 cl 1 = v := ⟨_, rfl⟩
  have HN := Lib.hid hn
  have HW := Lib.hid (show weightN a.cls.n a.aps.n a.rs.l cl = if v = 0 then n else 0 by unfold weightN; rw [hv, hn])
  rw [HW.out, hv]
  clear hv hn
  by_cases h0 : v = 0
  rotate_left
  · rw [if_neg h0]
    have f0 : (v != 0) = true := by simp [h0]
    clear h0
    have E := Lib.hid (ext_refl w)
    have HA := Lib.hid (ha)
    clear ha
    replace E := Lib.hid (ext_alloc E.out (.cells #[.slice a.s0.A a.s0.n a.s0.c, .slice a.s1.A a.s1.n a.s1.c, .slice a.s2.A a.s2.n a.s2.c, .slice a.s3.A a.s3.n a.s3.c, .slice a.s4.A a.s4.n a.s4.c, .slice a.aps.A a.aps.n a.aps.c, .slice a.cls.A a.cls.n a.cls.c, .slice a.rs.A a.rs.l.length a.rs.c] 31))
    replace HA := Lib.hid (HA.out.alloc (.cells #[.slice a.s0.A a.s0.n a.s0.c, .slice a.s1.A a.s1.n a.s1.c, .slice a.s2.A a.s2.n a.s2.c, .slice a.s3.A a.s3.n a.s3.c, .slice a.s4.A a.s4.n a.s4.c, .slice a.aps.A a.aps.n a.aps.c, .slice a.cls.A a.cls.n a.cls.c, .slice a.rs.A a.rs.l.length a.rs.c] 31))
    have X := Lib.hid (Blk.newH w [.slice a.s0.A a.s0.n a.s0.c, .slice a.s1.A a.s1.n a.s1.c, .slice a.s2.A a.s2.n a.s2.c, .slice a.s3.A a.s3.n a.s3.c, .slice a.s4.A a.s4.n a.s4.c, .slice a.aps.A a.aps.n a.aps.c, .slice a.cls.A a.cls.n a.cls.c, .slice a.rs.A a.rs.l.length a.rs.c] 31 (w.heap.size) (by first | rfl | simp))
    go_enter Try.func13, Try.ntmps13
    have c0 := X.out.c 0 _ rfl
    have c1 := X.out.c 1 _ rfl
    have c2 := X.out.c 2 _ rfl
    have c3 := X.out.c 3 _ rfl
    have c4 := X.out.c 4 _ rfl
    have c5 := X.out.c 5 _ rfl
    have c6 := X.out.c 6 _ rfl
    have c7 := X.out.c 7 _ rfl
    go_wp2_with fail
    refine (chk31_at v HV.out HA.out).mono ?_
    rintro e v1 ⟨rfl, B⟩
    clear c0 c1 c2 c3 c4 c5 c6 c7
    replace E := Lib.hid (ext_trans E.out B)
    replace HA := Lib.hid (HA.out.ext B)
    replace X := Lib.hid (X.out.ext B)
    clear B
    go_wp2_with fail
    refine bodyPost_ret (v := .tuple #[.int .i64 0, .int .i64 v]) (by simp [results, Try.results13, go_sem, *]) rfl ?_
    exact ⟨rfl, E.out⟩
  subst h0
  rw [if_pos rfl]
  · have E := Lib.hid (ext_refl w)
    have HA := Lib.hid (ha)
    clear ha
    replace E := Lib.hid (ext_alloc E.out (.cells #[.slice a.s0.A a.s0.n a.s0.c, .slice a.s1.A a.s1.n a.s1.c, .slice a.s2.A a.s2.n a.s2.c, .slice a.s3.A a.s3.n a.s3.c, .slice a.s4.A a.s4.n a.s4.c, .slice a.aps.A a.aps.n a.aps.c, .slice a.cls.A a.cls.n a.cls.c, .slice a.rs.A a.rs.l.length a.rs.c] 31))
    replace HA := Lib.hid (HA.out.alloc (.cells #[.slice a.s0.A a.s0.n a.s0.c, .slice a.s1.A a.s1.n a.s1.c, .slice a.s2.A a.s2.n a.s2.c, .slice a.s3.A a.s3.n a.s3.c, .slice a.s4.A a.s4.n a.s4.c, .slice a.aps.A a.aps.n a.aps.c, .slice a.cls.A a.cls.n a.cls.c, .slice a.rs.A a.rs.l.length a.rs.c] 31))
    have X := Lib.hid (Blk.newH w [.slice a.s0.A a.s0.n a.s0.c, .slice a.s1.A a.s1.n a.s1.c, .slice a.s2.A a.s2.n a.s2.c, .slice a.s3.A a.s3.n a.s3.c, .slice a.s4.A a.s4.n a.s4.c, .slice a.aps.A a.aps.n a.aps.c, .slice a.cls.A a.cls.n a.cls.c, .slice a.rs.A a.rs.l.length a.rs.c] 31 (w.heap.size) (by first | rfl | simp))
    go_enter Try.func13, Try.ntmps13
    have c0 := X.out.c 0 _ rfl
    have c1 := X.out.c 1 _ rfl
    have c2 := X.out.c 2 _ rfl
    have c3 := X.out.c 3 _ rfl
    have c4 := X.out.c 4 _ rfl
    have c5 := X.out.c 5 _ rfl
    have c6 := X.out.c 6 _ rfl
    have c7 := X.out.c 7 _ rfl
    go_wp2_with fail
    refine (chk31_at 0 HV.out HA.out).mono ?_
    rintro e v1 ⟨rfl, B⟩
    clear c0 c1 c2 c3 c4 c5 c6 c7
    replace E := Lib.hid (ext_trans E.out B)
    replace HA := Lib.hid (HA.out.ext B)
    replace X := Lib.hid (X.out.ext B)
    clear B
    have c0 := X.out.c 0 _ rfl
    have c1 := X.out.c 1 _ rfl
    have c2 := X.out.c 2 _ rfl
    have c3 := X.out.c 3 _ rfl
    have c4 := X.out.c 4 _ rfl
    have c5 := X.out.c 5 _ rfl
    have c6 := X.out.c 6 _ rfl
    have c7 := X.out.c 7 _ rfl
    go_wp2_with fail
    refine (number_any a 3 cl 1 n _ HA.out HN.out).mono ?_
    rintro e v2 ⟨rfl, B⟩
    clear c0 c1 c2 c3 c4 c5 c6 c7
    replace E := Lib.hid (ext_trans E.out B)
    replace HA := Lib.hid (HA.out.ext B)
    replace X := Lib.hid (X.out.ext B)
    clear B
    go_wp2_with fail
    refine bodyPost_ret (v := .tuple #[.int .i64 n, .int .i64 0]) (by simp [results, Try.results13, go_sem, *]) rfl ?_
    exact ⟨rfl, E.out⟩
end Go.Proofs.Ytmgpbjpohbpgpaa
