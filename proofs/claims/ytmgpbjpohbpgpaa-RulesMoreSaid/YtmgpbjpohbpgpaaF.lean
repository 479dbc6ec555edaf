/- Contracts: the longest delay, the curfew. -/
import Derived.Test.YtmgpbjpohbpgpaaE
import Derived.Test.YtmgpbjpohbpgpaaHG
set_option linter.unusedSimpArgs false
set_option linter.unusedVariables false
namespace Go.Proofs.Ytmgpbjpohbpgpaa
open Go.RowKit
theorem longest_any (a : As) (cl : Int) (w : World) (ha : AOk w a) : Calls Try.prog 14 #[.agg #[.slice a.s0.A a.s0.n a.s0.c, .slice a.s1.A a.s1.n a.s1.c, .slice a.s2.A a.s2.n a.s2.c, .slice a.s3.A a.s3.n a.s3.c, .slice a.s4.A a.s4.n a.s4.c, .slice a.aps.A a.aps.n a.aps.c, .slice a.cls.A a.cls.n a.cls.c, .slice a.rs.A a.rs.l.length a.rs.c], .int .i64 cl] w (NeR w (longN a.cls.n a.aps.n a.rs.l cl) (chkC a.cls.n a.aps.n a.rs.l cl)) := by
  obtain ⟨v, hv⟩ : ∃ v, chkC a.cls.n a.aps.n a.rs.l cl = v := ⟨_, rfl⟩
  have HV := Lib.hid hv
  obtain ⟨n, hn⟩ : ∃ v, numR a.rs.l 4 cl 60 = v := ⟨_, rfl⟩
  have HN := Lib.hid hn
  obtain ⟨m, hm⟩ : ∃ v, numR a.rs.l 2 cl 60 = v := ⟨_, rfl⟩
  have HM := Lib.hid hm
  have HW := Lib.hid (show longN a.cls.n a.aps.n a.rs.l cl = if v = 0 then min n m else 0 by unfold longN; rw [hv, hn, hm])
  rw [HW.out, hv]
  clear hv hn hm HW
  by_cases h0 : v = 0
  rotate_left
  · rw [if_neg h0]
    have f0 : (v != 0) = true := by simp [h0]
    clear h0
    have E := Lib.hid (ext_refl w)
    have HA := Lib.hid (ha)
    clear ha
    replace E := Lib.hid (ext_alloc E.out (.cells #[.slice a.s0.A a.s0.n a.s0.c, .slice a.s1.A a.s1.n a.s1.c, .slice a.s2.A a.s2.n a.s2.c, .slice a.s3.A a.s3.n a.s3.c, .slice a.s4.A a.s4.n a.s4.c, .slice a.aps.A a.aps.n a.aps.c, .slice a.cls.A a.cls.n a.cls.c, .slice a.rs.A a.rs.l.length a.rs.c] 31))
    replace HA := Lib.hid (HA.out.alloc (.cells #[.slice a.s0.A a.s0.n a.s0.c, .slice a.s1.A a.s1.n a.s1.c, .slice a.s2.A a.s2.n a.s2.c, .slice a.s3.A a.s3.n a.s3.c, .slice a.s4.A a.s4.n a.s4.c, .slice a.aps.A a.aps.n a.aps.c, .slice a.cls.A a.cls.n a.cls.c, .slice a.rs.A a.rs.l.length a.rs.c] 31))
    have X := Lib.hid (Blk.newH w [.slice a.s0.A a.s0.n a.s0.c, .slice a.s1.A a.s1.n a.s1.c, .slice a.s2.A a.s2.n a.s2.c, .slice a.s3.A a.s3.n a.s3.c, .slice a.s4.A a.s4.n a.s4.c, .slice a.aps.A a.aps.n a.aps.c, .slice a.cls.A a.cls.n a.cls.c, .slice a.rs.A a.rs.l.length a.rs.c] 31 (w.heap.size) (by first | rfl | simp))
    go_enter Try.func14, Try.ntmps14
    have c0 := X.out.c 0 _ rfl
    have c1 := X.out.c 1 _ rfl
    have c2 := X.out.c 2 _ rfl
    have c3 := X.out.c 3 _ rfl
    have c4 := X.out.c 4 _ rfl
    have c5 := X.out.c 5 _ rfl
    have c6 := X.out.c 6 _ rfl
    have c7 := X.out.c 7 _ rfl
    go_wp2_with fail
    refine (chk31_at v HV.out HA.out).mono ?_
    rintro e v1 ⟨rfl, B⟩
    clear c0 c1 c2 c3 c4 c5 c6 c7
    replace E := Lib.hid (ext_trans E.out B)
    replace HA := Lib.hid (HA.out.ext B)
    replace X := Lib.hid (X.out.ext B)
    clear B
    go_wp2_with fail
    refine bodyPost_ret (v := .tuple #[.int .i64 0, .int .i64 v]) (by simp [results, Try.results14, go_sem, *]) rfl ?_
    exact ⟨rfl, E.out⟩
  subst h0
  rw [if_pos rfl]
  · have E := Lib.hid (ext_refl w)
    have HA := Lib.hid (ha)
    clear ha
    replace E := Lib.hid (ext_alloc E.out (.cells #[.slice a.s0.A a.s0.n a.s0.c, .slice a.s1.A a.s1.n a.s1.c, .slice a.s2.A a.s2.n a.s2.c, .slice a.s3.A a.s3.n a.s3.c, .slice a.s4.A a.s4.n a.s4.c, .slice a.aps.A a.aps.n a.aps.c, .slice a.cls.A a.cls.n a.cls.c, .slice a.rs.A a.rs.l.length a.rs.c] 31))
    replace HA := Lib.hid (HA.out.alloc (.cells #[.slice a.s0.A a.s0.n a.s0.c, .slice a.s1.A a.s1.n a.s1.c, .slice a.s2.A a.s2.n a.s2.c, .slice a.s3.A a.s3.n a.s3.c, .slice a.s4.A a.s4.n a.s4.c, .slice a.aps.A a.aps.n a.aps.c, .slice a.cls.A a.cls.n a.cls.c, .slice a.rs.A a.rs.l.length a.rs.c] 31))
    have X := Lib.hid (Blk.newH w [.slice a.s0.A a.s0.n a.s0.c, .slice a.s1.A a.s1.n a.s1.c, .slice a.s2.A a.s2.n a.s2.c, .slice a.s3.A a.s3.n a.s3.c, .slice a.s4.A a.s4.n a.s4.c, .slice a.aps.A a.aps.n a.aps.c, .slice a.cls.A a.cls.n a.cls.c, .slice a.rs.A a.rs.l.length a.rs.c] 31 (w.heap.size) (by first | rfl | simp))
    go_enter Try.func14, Try.ntmps14
    have c0 := X.out.c 0 _ rfl
    have c1 := X.out.c 1 _ rfl
    have c2 := X.out.c 2 _ rfl
    have c3 := X.out.c 3 _ rfl
    have c4 := X.out.c 4 _ rfl
    have c5 := X.out.c 5 _ rfl
    have c6 := X.out.c 6 _ rfl
    have c7 := X.out.c 7 _ rfl
    go_wp2_with fail
    refine (chk31_at 0 HV.out HA.out).mono ?_
    rintro e v1 ⟨rfl, B⟩
    clear c0 c1 c2 c3 c4 c5 c6 c7
    replace E := Lib.hid (ext_trans E.out B)
    replace HA := Lib.hid (HA.out.ext B)
    replace X := Lib.hid (X.out.ext B)
    clear B
    go_wp2_with fail
    have SS := Lib.hid (show ∀ w', Below v1.heap.size v1 w' → (fun w' => Below v1.heap.size v1 w' ∧ w'.cell? ⟨w.heap.size, 0, none⟩ = some (.slice a.s0.A a.s0.n a.s0.c) ∧ w'.cell? ⟨w.heap.size, 1, none⟩ = some (.slice a.s1.A a.s1.n a.s1.c) ∧ w'.cell? ⟨w.heap.size, 2, none⟩ = some (.slice a.s2.A a.s2.n a.s2.c) ∧ w'.cell? ⟨w.heap.size, 3, none⟩ = some (.slice a.s3.A a.s3.n a.s3.c) ∧ w'.cell? ⟨w.heap.size, 4, none⟩ = some (.slice a.s4.A a.s4.n a.s4.c) ∧ w'.cell? ⟨w.heap.size, 5, none⟩ = some (.slice a.aps.A a.aps.n a.aps.c) ∧ w'.cell? ⟨w.heap.size, 6, none⟩ = some (.slice a.cls.A a.cls.n a.cls.c) ∧ w'.cell? ⟨w.heap.size, 7, none⟩ = some (.slice a.rs.A a.rs.l.length a.rs.c)) w' from fun w' h => ⟨h, (X.out.ext h).c 0 _ rfl, (X.out.ext h).c 1 _ rfl, (X.out.ext h).c 2 _ rfl, (X.out.ext h).c 3 _ rfl, (X.out.ext h).c 4 _ rfl, (X.out.ext h).c 5 _ rfl, (X.out.ext h).c 6 _ rfl, (X.out.ext h).c 7 _ rfl⟩)
    refine rg_begin (S := (fun w' => Below v1.heap.size v1 w' ∧ w'.cell? ⟨w.heap.size, 0, none⟩ = some (.slice a.s0.A a.s0.n a.s0.c) ∧ w'.cell? ⟨w.heap.size, 1, none⟩ = some (.slice a.s1.A a.s1.n a.s1.c) ∧ w'.cell? ⟨w.heap.size, 2, none⟩ = some (.slice a.s2.A a.s2.n a.s2.c) ∧ w'.cell? ⟨w.heap.size, 3, none⟩ = some (.slice a.s3.A a.s3.n a.s3.c) ∧ w'.cell? ⟨w.heap.size, 4, none⟩ = some (.slice a.s4.A a.s4.n a.s4.c) ∧ w'.cell? ⟨w.heap.size, 5, none⟩ = some (.slice a.aps.A a.aps.n a.aps.c) ∧ w'.cell? ⟨w.heap.size, 6, none⟩ = some (.slice a.cls.A a.cls.n a.cls.c) ∧ w'.cell? ⟨w.heap.size, 7, none⟩ = some (.slice a.rs.A a.rs.l.length a.rs.c))) 9 (by kernel_rfl) (by intro d; cases d <;> intro _ _ _ _ h <;> exact h) ?_ (fun Q7 hQ7 hN7 hHeld => ?_)
    · exact SS.out _ (ext_drew (ext_refl _))
    refine rg_take (i := 0) (some 13) (v := ?_) rfl rfl (by kernel_rfl) (by rfl) hQ7 hHeld ?_ ?_
    rotate_left
    · intro w7 hSw; (try dsimp only at hSw); go_simp; all_goals with_reducible rfl
    try simp only [Act.put, List.setIfInBounds_toArray, List.set_cons_zero, List.set_cons_succ]
    refine rg_take (i := 1) (some 14) (v := ?_) rfl rfl (by kernel_rfl) (by rfl) hQ7 hHeld ?_ ?_
    rotate_left
    · intro w7 hSw; (try dsimp only at hSw); go_simp; all_goals with_reducible rfl
    try simp only [Act.put, List.setIfInBounds_toArray, List.set_cons_zero, List.set_cons_succ]
    refine rg_take (i := 3) (some 16) (v := ?_) rfl rfl (by kernel_rfl) (by rfl) hQ7 hHeld ?_ ?_
    rotate_left
    · intro w7 hSw; (try dsimp only at hSw); go_simp; all_goals with_reducible rfl
    try simp only [Act.put, List.setIfInBounds_toArray, List.set_cons_zero, List.set_cons_succ]
    refine rg_take (i := 4) (some 17) (v := ?_) rfl rfl (by kernel_rfl) (by rfl) hQ7 hHeld ?_ ?_
    rotate_left
    · intro w7 hSw; (try dsimp only at hSw); go_simp; all_goals with_reducible rfl
    try simp only [Act.put, List.setIfInBounds_toArray, List.set_cons_zero, List.set_cons_succ]
    refine rg_one (i := 2) (by kernel_rfl) (rg_step rfl (by rfl) (fun K hK => ?_))
    go_simp
    refine (number_any a 4 cl 60 n _ (HA.out.ext hHeld.1) HN.out).mono ?_
    rintro e u1 ⟨rfl, B1⟩
    go_wp2_with fail
    refine hK.out _ _ ?_ (fun hHeld2 => ?_)
    · exact SS.out _ (ext_trans hHeld.1 B1)
    clear hHeld
    have hHeld := hHeld2
    clear hHeld2
    clear hK K
    try simp only [Act.put, List.setIfInBounds_toArray, List.set_cons_zero, List.set_cons_succ]
    refine rg_one (i := 5) (by kernel_rfl) (rg_step rfl (by rfl) (fun K hK => ?_))
    go_simp
    refine (number_any a 2 cl 60 m _ (HA.out.ext hHeld.1) HM.out).mono ?_
    rintro e u2 ⟨rfl, B2⟩
    go_wp2_with fail
    refine hK.out _ _ ?_ (fun hHeld2 => ?_)
    · exact SS.out _ (ext_trans hHeld.1 B2)
    clear hHeld
    have hHeld := hHeld2
    clear hHeld2
    clear hK K
    try simp only [Act.put, List.setIfInBounds_toArray, List.set_cons_zero, List.set_cons_succ]
    refine rg_take (i := 6) (some 19) (v := ?_) rfl rfl (by kernel_rfl) (by rfl) hQ7 hHeld ?_ ?_
    rotate_left
    · intro w7 hSw; (try dsimp only at hSw); go_simp; all_goals with_reducible rfl
    try simp only [Act.put, List.setIfInBounds_toArray, List.set_cons_zero, List.set_cons_succ]
    refine rg_take (i := 7) (some 4) (v := ?_) rfl rfl (by kernel_rfl) (by rfl) hQ7 hHeld ?_ ?_
    rotate_left
    · intro w7 hSw; (try dsimp only at hSw); go_simp; all_goals with_reducible rfl
    try simp only [Act.put, List.setIfInBounds_toArray, List.set_cons_zero, List.set_cons_succ]
    refine rg_take (i := 8) (some 5) (v := ?_) rfl rfl (by kernel_rfl) (by rfl) hQ7 hHeld ?_ ?_
    rotate_left
    · intro w7 hSw; (try dsimp only at hSw); go_simp; all_goals with_reducible rfl
    try simp only [Act.put, List.setIfInBounds_toArray, List.set_cons_zero, List.set_cons_succ]
    refine rg_end (by kernel_rfl) (hN7 _ _ ?_) _
    clear hQ7 hN7 Q7
    have BX := hHeld.1
    clear SS
    replace E := Lib.hid (ext_trans E.out BX)
    go_wp2_with fail
    all_goals
      refine bodyPost_ret (v := .tuple #[.int .i64 (min n m), .int .i64 0]) (by first | (simp [results, Try.results14, go_sem, *]; done) | (simp [results, Try.results14, go_sem, *]; omega)) rfl ?_
      exact ⟨rfl, E.out⟩
/-- The spans of the curfews of a class at an airport. -/
def curL (l : List Ru) (cl ap : Int) : List Sp := (l.filter (fun r => decide (r.k = 1) && decide (r.cl = cl) && decide (r.ap = ap))).map Ru.h
def curE (nC nA : Int) (l : List Ru) (cl ap : Int) : Int := if chkC nC nA l cl = 0 then (if decide (ap < 0) || decide (nA ≤ ap) then 1 else 0) else chkC nC nA l cl
def curN (nC nA : Int) (l : List Ru) (cl ap : Int) : List Sp := if curE nC nA l cl ap = 0 then nor (curL l cl ap) else []
def SeR (w : World) (l : List Sp) (err : Int) (e : Ending) (w' : World) : Prop := ∃ A c, e = .returned (.tuple #[.slice A l.length c, .int .i64 err]) ∧ Slc w' Sp.cells 2 A l ∧ Below w.heap.size w w'
theorem curL_step {l : List Ru} {k : Nat} {x : Ru} {cl ap : Int} (h : l[k]? = some x) : curL (l.take (k + 1)) cl ap = curL (l.take k) cl ap ++ (if decide (x.k = 1) && decide (x.cl = cl) && decide (x.ap = ap) then [x.h] else []) := by
  obtain ⟨hk, rfl⟩ := List.getElem?_eq_some_iff.1 h
  unfold curL
  rw [← List.take_append_getElem hk, List.filter_append, List.map_append]
  congr 1
  split <;> rename_i g
  · simp only [List.filter_cons, g, if_true, List.filter_nil, List.map_cons, List.map_nil]
  · simp [List.filter_cons, g]
theorem chkR_of {nC nA cl : Int} {l : List Ru} (h : chkC nC nA l cl = 0) : chkR nC nA l = 0 := by
  unfold chkC at h; split at h
  · assumption
  · exact h
theorem chk_len {nC nA : Int} {l : List Ru} (h : chkR nC nA l = 0) : l.length ≤ 64 := by
  unfold chkR at h; split at h
  · exact absurd h (by decide)
  · rename_i g; simp at g; omega
theorem curL_len (l : List Ru) (cl ap : Int) : (curL l cl ap).length ≤ l.length := by
  unfold curL; rw [List.length_map]; exact List.length_filter_le ..
set_option maxRecDepth 100000 in
set_option maxHeartbeats 1600000 in
theorem curfew_any (a : As) (cl ap : Int) (w : World) (ha : AOk w a) : Calls Try.prog 15 #[.agg #[.slice a.s0.A a.s0.n a.s0.c, .slice a.s1.A a.s1.n a.s1.c, .slice a.s2.A a.s2.n a.s2.c, .slice a.s3.A a.s3.n a.s3.c, .slice a.s4.A a.s4.n a.s4.c, .slice a.aps.A a.aps.n a.aps.c, .slice a.cls.A a.cls.n a.cls.c, .slice a.rs.A a.rs.l.length a.rs.c], .int .i64 cl, .int .i64 ap] w (SeR w (curN a.cls.n a.aps.n a.rs.l cl ap) (curE a.cls.n a.aps.n a.rs.l cl ap)) := by
  obtain ⟨v, hv⟩ : ∃ v, chkC a.cls.n a.aps.n a.rs.l cl = v := ⟨_, rfl⟩
  have HV := Lib.hid hv
  have HE := Lib.hid (show curE a.cls.n a.aps.n a.rs.l cl ap = if v = 0 then (if decide (ap < 0) || decide ((a.aps.n : Int) ≤ ap) then 1 else 0) else v by unfold curE; rw [hv])
  have HW := Lib.hid (show curN a.cls.n a.aps.n a.rs.l cl ap = if (if v = 0 then (if decide (ap < 0) || decide ((a.aps.n : Int) ≤ ap) then 1 else 0) else v) = 0 then nor (curL a.rs.l cl ap) else [] by unfold curN; rw [HE.out])
  rw [HW.out, HE.out]
  clear hv HE HW
  by_cases h0 : v = 0
  rotate_left
  · rw [if_neg h0, if_neg h0]
    have f0 : (v != 0) = true := by simp [h0]
    clear h0
    have E := Lib.hid (ext_refl w)
    have HA := Lib.hid (ha)
    clear ha
    replace E := Lib.hid (ext_alloc E.out (.cells #[.slice a.s0.A a.s0.n a.s0.c, .slice a.s1.A a.s1.n a.s1.c, .slice a.s2.A a.s2.n a.s2.c, .slice a.s3.A a.s3.n a.s3.c, .slice a.s4.A a.s4.n a.s4.c, .slice a.aps.A a.aps.n a.aps.c, .slice a.cls.A a.cls.n a.cls.c, .slice a.rs.A a.rs.l.length a.rs.c] 31))
    replace HA := Lib.hid (HA.out.alloc (.cells #[.slice a.s0.A a.s0.n a.s0.c, .slice a.s1.A a.s1.n a.s1.c, .slice a.s2.A a.s2.n a.s2.c, .slice a.s3.A a.s3.n a.s3.c, .slice a.s4.A a.s4.n a.s4.c, .slice a.aps.A a.aps.n a.aps.c, .slice a.cls.A a.cls.n a.cls.c, .slice a.rs.A a.rs.l.length a.rs.c] 31))
    have X := Lib.hid (Blk.newH w [.slice a.s0.A a.s0.n a.s0.c, .slice a.s1.A a.s1.n a.s1.c, .slice a.s2.A a.s2.n a.s2.c, .slice a.s3.A a.s3.n a.s3.c, .slice a.s4.A a.s4.n a.s4.c, .slice a.aps.A a.aps.n a.aps.c, .slice a.cls.A a.cls.n a.cls.c, .slice a.rs.A a.rs.l.length a.rs.c] 31 (w.heap.size) (by first | rfl | simp))
    go_enter Try.func15, Try.ntmps15
    have c0 := X.out.c 0 _ rfl
    have c1 := X.out.c 1 _ rfl
    have c2 := X.out.c 2 _ rfl
    have c3 := X.out.c 3 _ rfl
    have c4 := X.out.c 4 _ rfl
    have c5 := X.out.c 5 _ rfl
    have c6 := X.out.c 6 _ rfl
    have c7 := X.out.c 7 _ rfl
    go_wp2_with fail
    refine (chk31_at v HV.out HA.out).mono ?_
    rintro e v1 ⟨rfl, B⟩
    clear c0 c1 c2 c3 c4 c5 c6 c7
    replace E := Lib.hid (ext_trans E.out B)
    replace HA := Lib.hid (HA.out.ext B)
    replace X := Lib.hid (X.out.ext B)
    clear B
    go_wp2_with fail
    refine bodyPost_ret (v := .tuple #[.slice none 0 0, .int .i64 v]) (by simp [results, Try.results15, go_sem, *]) rfl ?_
    exact ⟨none, 0, rfl, fun k x h => by simp at h, E.out⟩
  subst h0
  rw [if_pos rfl]
  by_cases h1 : ap < 0
  · rw [show (if (decide (ap < 0) || decide ((a.aps.n : Int) ≤ ap)) = true then (1 : Int) else 0) = 1 by simp [h1], if_neg (by decide)]
    have E := Lib.hid (ext_refl w)
    have HA := Lib.hid (ha)
    clear ha
    replace E := Lib.hid (ext_alloc E.out (.cells #[.slice a.s0.A a.s0.n a.s0.c, .slice a.s1.A a.s1.n a.s1.c, .slice a.s2.A a.s2.n a.s2.c, .slice a.s3.A a.s3.n a.s3.c, .slice a.s4.A a.s4.n a.s4.c, .slice a.aps.A a.aps.n a.aps.c, .slice a.cls.A a.cls.n a.cls.c, .slice a.rs.A a.rs.l.length a.rs.c] 31))
    replace HA := Lib.hid (HA.out.alloc (.cells #[.slice a.s0.A a.s0.n a.s0.c, .slice a.s1.A a.s1.n a.s1.c, .slice a.s2.A a.s2.n a.s2.c, .slice a.s3.A a.s3.n a.s3.c, .slice a.s4.A a.s4.n a.s4.c, .slice a.aps.A a.aps.n a.aps.c, .slice a.cls.A a.cls.n a.cls.c, .slice a.rs.A a.rs.l.length a.rs.c] 31))
    have X := Lib.hid (Blk.newH w [.slice a.s0.A a.s0.n a.s0.c, .slice a.s1.A a.s1.n a.s1.c, .slice a.s2.A a.s2.n a.s2.c, .slice a.s3.A a.s3.n a.s3.c, .slice a.s4.A a.s4.n a.s4.c, .slice a.aps.A a.aps.n a.aps.c, .slice a.cls.A a.cls.n a.cls.c, .slice a.rs.A a.rs.l.length a.rs.c] 31 (w.heap.size) (by first | rfl | simp))
    go_enter Try.func15, Try.ntmps15
    have c0 := X.out.c 0 _ rfl
    have c1 := X.out.c 1 _ rfl
    have c2 := X.out.c 2 _ rfl
    have c3 := X.out.c 3 _ rfl
    have c4 := X.out.c 4 _ rfl
    have c5 := X.out.c 5 _ rfl
    have c6 := X.out.c 6 _ rfl
    have c7 := X.out.c 7 _ rfl
    go_wp2_with fail
    refine (chk31_at 0 HV.out HA.out).mono ?_
    rintro e v1 ⟨rfl, B⟩
    clear c0 c1 c2 c3 c4 c5 c6 c7
    replace E := Lib.hid (ext_trans E.out B)
    replace HA := Lib.hid (HA.out.ext B)
    replace X := Lib.hid (X.out.ext B)
    clear B
    go_wp2_with fail
    refine bodyPost_ret (v := .tuple #[.slice none 0 0, .int .i64 1]) (by simp [results, Try.results15, go_sem, *]) rfl ?_
    exact ⟨none, 0, rfl, fun k x h => by simp at h, E.out⟩
  by_cases h2 : (a.aps.n : Int) ≤ ap
  · rw [show (if (decide (ap < 0) || decide ((a.aps.n : Int) ≤ ap)) = true then (1 : Int) else 0) = 1 by simp [h2], if_neg (by decide)]
    have E := Lib.hid (ext_refl w)
    have HA := Lib.hid (ha)
    clear ha
    replace E := Lib.hid (ext_alloc E.out (.cells #[.slice a.s0.A a.s0.n a.s0.c, .slice a.s1.A a.s1.n a.s1.c, .slice a.s2.A a.s2.n a.s2.c, .slice a.s3.A a.s3.n a.s3.c, .slice a.s4.A a.s4.n a.s4.c, .slice a.aps.A a.aps.n a.aps.c, .slice a.cls.A a.cls.n a.cls.c, .slice a.rs.A a.rs.l.length a.rs.c] 31))
    replace HA := Lib.hid (HA.out.alloc (.cells #[.slice a.s0.A a.s0.n a.s0.c, .slice a.s1.A a.s1.n a.s1.c, .slice a.s2.A a.s2.n a.s2.c, .slice a.s3.A a.s3.n a.s3.c, .slice a.s4.A a.s4.n a.s4.c, .slice a.aps.A a.aps.n a.aps.c, .slice a.cls.A a.cls.n a.cls.c, .slice a.rs.A a.rs.l.length a.rs.c] 31))
    have X := Lib.hid (Blk.newH w [.slice a.s0.A a.s0.n a.s0.c, .slice a.s1.A a.s1.n a.s1.c, .slice a.s2.A a.s2.n a.s2.c, .slice a.s3.A a.s3.n a.s3.c, .slice a.s4.A a.s4.n a.s4.c, .slice a.aps.A a.aps.n a.aps.c, .slice a.cls.A a.cls.n a.cls.c, .slice a.rs.A a.rs.l.length a.rs.c] 31 (w.heap.size) (by first | rfl | simp))
    go_enter Try.func15, Try.ntmps15
    have c0 := X.out.c 0 _ rfl
    have c1 := X.out.c 1 _ rfl
    have c2 := X.out.c 2 _ rfl
    have c3 := X.out.c 3 _ rfl
    have c4 := X.out.c 4 _ rfl
    have c5 := X.out.c 5 _ rfl
    have c6 := X.out.c 6 _ rfl
    have c7 := X.out.c 7 _ rfl
    go_wp2_with fail
    refine (chk31_at 0 HV.out HA.out).mono ?_
    rintro e v1 ⟨rfl, B⟩
    clear c0 c1 c2 c3 c4 c5 c6 c7
    replace E := Lib.hid (ext_trans E.out B)
    replace HA := Lib.hid (HA.out.ext B)
    replace X := Lib.hid (X.out.ext B)
    clear B
    have c0 := X.out.c 5 _ rfl
    go_wp2_with fail
    refine bodyPost_ret (v := .tuple #[.slice none 0 0, .int .i64 1]) (by simp [results, Try.results15, go_sem, *]) rfl ?_
    exact ⟨none, 0, rfl, fun k x h => by simp at h, E.out⟩
  rw [show (if (decide (ap < 0) || decide ((a.aps.n : Int) ≤ ap)) = true then (1 : Int) else 0) = 0 by simp [h1, h2], if_pos rfl]
  · have E := Lib.hid (ext_refl w)
    have HA := Lib.hid (ha)
    clear ha
    replace E := Lib.hid (ext_alloc E.out (.cells #[.slice a.s0.A a.s0.n a.s0.c, .slice a.s1.A a.s1.n a.s1.c, .slice a.s2.A a.s2.n a.s2.c, .slice a.s3.A a.s3.n a.s3.c, .slice a.s4.A a.s4.n a.s4.c, .slice a.aps.A a.aps.n a.aps.c, .slice a.cls.A a.cls.n a.cls.c, .slice a.rs.A a.rs.l.length a.rs.c] 31))
    replace HA := Lib.hid (HA.out.alloc (.cells #[.slice a.s0.A a.s0.n a.s0.c, .slice a.s1.A a.s1.n a.s1.c, .slice a.s2.A a.s2.n a.s2.c, .slice a.s3.A a.s3.n a.s3.c, .slice a.s4.A a.s4.n a.s4.c, .slice a.aps.A a.aps.n a.aps.c, .slice a.cls.A a.cls.n a.cls.c, .slice a.rs.A a.rs.l.length a.rs.c] 31))
    have X := Lib.hid (Blk.newH w [.slice a.s0.A a.s0.n a.s0.c, .slice a.s1.A a.s1.n a.s1.c, .slice a.s2.A a.s2.n a.s2.c, .slice a.s3.A a.s3.n a.s3.c, .slice a.s4.A a.s4.n a.s4.c, .slice a.aps.A a.aps.n a.aps.c, .slice a.cls.A a.cls.n a.cls.c, .slice a.rs.A a.rs.l.length a.rs.c] 31 (w.heap.size) (by first | rfl | simp))
    go_enter Try.func15, Try.ntmps15
    have c0 := X.out.c 0 _ rfl
    have c1 := X.out.c 1 _ rfl
    have c2 := X.out.c 2 _ rfl
    have c3 := X.out.c 3 _ rfl
    have c4 := X.out.c 4 _ rfl
    have c5 := X.out.c 5 _ rfl
    have c6 := X.out.c 6 _ rfl
    have c7 := X.out.c 7 _ rfl
    go_wp2_with fail
    refine (chk31_at 0 HV.out HA.out).mono ?_
    rintro e v1 ⟨rfl, B⟩
    clear c0 c1 c2 c3 c4 c5 c6 c7
    replace E := Lib.hid (ext_trans E.out B)
    replace HA := Lib.hid (HA.out.ext B)
    replace X := Lib.hid (X.out.ext B)
    clear B
    have hrl : a.rs.l.length < 1000000 := by have := chk_len (chkR_of HV.out); omega
    clear HV
    have c0 := X.out.c 5 _ rfl
    have c1 := X.out.c 7 _ rfl
    go_wp2_with fail
    clear c0 c1
    go_loopw [6, 29] (fun v i W => ∃ k : Nat, k ≤ a.rs.l.length ∧ i = .int .i64 k ∧ Own W v1.heap.size 40 Sp.cells 2 v (curL (a.rs.l.take k) cl ap) ∧ Below v1.heap.size v1 W) (fun _ i _ => a.rs.l.length - (intOf i).toNat)
    case atStart => exact ⟨0, Nat.zero_le _, rfl, Own.nil _ _ _ _ _, ext_refl _⟩
    case round =>
      obtain ⟨k, hk, rfl, hO, hB⟩ := hrel
      by_cases hlt : k < a.rs.l.length
      rotate_left
      · obtain rfl : k = a.rs.l.length := by omega
        rw [List.take_length] at hO
        have hlen := curL_len a.rs.l cl ap
        obtain ⟨A, c, rfl, hc, _, _⟩ := hO.form
        have HN := Lib.hid (normal_any A c (curL a.rs.l cl ap) wr (hO.slc (fun _ => rfl) (by decide)) (by omega))
        clear hO hlen
        go_wp2_with fail
        refine HN.out.mono ?_
        rintro e w5 ⟨A5, c5, rfl, hs5, hB5⟩
        clear HN
        go_wp2_with fail
        refine bodyPost_ret (v := .tuple #[.slice A5 (nor (curL a.rs.l cl ap)).length c5, .int .i64 0]) (by simp [results, Try.results15, go_sem, *]) rfl ?_
        exact ⟨A5, c5, rfl, hs5, ext_trans (ext_trans E.out hB) hB5⟩
      · obtain ⟨x, b1, o1, hx, hA1, hb1, hd⟩ := (HA.out.rs.ext hB).at_ hlt
        have HX := Lib.hid hx
        clear hx
        have d0 := hd 0 _ rfl
        have d1 := hd 1 _ rfl
        have d2 := hd 2 _ rfl
        have d3 := hd 3 _ rfl
        have d4 := hd 4 _ rfl
        have d5 := hd 5 _ rfl
        have d6 := hd 6 _ rfl
        have d7 := hd 7 _ rfl
        simp only [Nat.add_zero] at d0
        clear hd
        have hlt' : (k : Int) < a.rs.l.length := by omega
        have HSt := Lib.hid (curL_step (cl := cl) (ap := ap) HX.out)
        have hB1 := Lib.hid (ext_alloc hB (.cells #[.int .i64 x.k, .string x.sc, .string x.sa, .int .i64 x.cl, .int .i64 x.ap, .int .i64 x.n, .int .i64 x.f, .int .i64 x.t] 42))
        have HO := Lib.hid (hO.alloc (.cells #[.int .i64 x.k, .string x.sc, .string x.sa, .int .i64 x.cl, .int .i64 x.ap, .int .i64 x.n, .int .i64 x.f, .int .i64 x.t] 42))
        obtain ⟨p1, hp1⟩ : ∃ p, (x.k == 1) = p := ⟨_, rfl⟩
        obtain ⟨p2, hp2⟩ : ∃ p, (x.cl == cl) = p := ⟨_, rfl⟩
        obtain ⟨p3, hp3⟩ : ∃ p, (x.ap == ap) = p := ⟨_, rfl⟩
        have HC := Lib.hid (show (decide (x.k = 1) && decide (x.cl = cl) && decide (x.ap = ap)) = (p1 && p2 && p3) by rw [← hp1, ← hp2, ← hp3]; rfl)
        have no : (p1 && p2 && p3) = false → curL (a.rs.l.take (k + 1)) cl ap = curL (a.rs.l.take k) cl ap := fun h => by rw [HSt.out, HC.out, h]; simp
        have HNo := Lib.hid no
        clear no hO
        have fin : (p1 && p2 && p3) = false → _ := fun h => by have := HO.out; rw [← HNo.out h] at this; exact this
        cases p1
        · go_wp2_with fail
          go_roundw
          case rel => exact ⟨k + 1, hlt, by go_num, fin rfl, hB1.out⟩
          case measure => simp [intOf]; omega
        cases p2
        · go_wp2_with fail
          go_roundw
          case rel => exact ⟨k + 1, hlt, by go_num, fin rfl, hB1.out⟩
          case measure => simp [intOf]; omega
        cases p3
        · go_wp2_with fail
          go_roundw
          case rel => exact ⟨k + 1, hlt, by go_num, fin rfl, hB1.out⟩
          case measure => simp [intOf]; omega
        clear fin HNo
        have hlen := curL_len (a.rs.l.take k) cl ap
        have htk : (a.rs.l.take k).length = k := by simp; omega
        obtain ⟨A, c, rfl, hc, _, _⟩ := HO.out.form
        have hS := slc_litH (wr.alloc (.cells #[.int .i64 x.k, .string x.sc, .string x.sa, .int .i64 x.cl, .int .i64 x.ap, .int .i64 x.n, .int .i64 x.f, .int .i64 x.t] 42)) [x.h] #[.int .i64 x.f, .int .i64 x.t] 40 (enc := Sp.cells) (sz := 2) (fun _ => rfl) rfl (wr.heap.size + 1) (by simp)
        obtain ⟨v', w5, hrun, A6, c6, hv6, hO6, hB5, hg5, hc6, hm6⟩ := Own.append_k (w0 := v1) I22 46 (HO.out.alloc (.cells #[.int .i64 x.f, .int .i64 x.t] 40)) (ext_alloc hB1.out _) (ys := [x.h]) (m := 1) rfl 1 hS (curL (a.rs.l.take (k + 1)) cl ap) (by rw [HSt.out, HC.out]; rfl) _ rfl (by have := curL_len (a.rs.l.take (k + 1)) cl ap; simp only [List.length_take] at this; omega) (by have := curL_len (a.rs.l.take (k + 1)) cl ap; simp only [List.length_take] at this; unfold maxLen; omega)
        rw [← hv6] at hO6
        have HRUN := Lib.hid hrun
        have HO6 := Lib.hid hO6
        have HB5 := Lib.hid hB5
        clear hrun hO6 hB5 hg5 hS HSt HC hlen htk hv6 hc6 hm6
        go_wp2_with (at_builtin; refine wpList_append_run rfl (.tmp 48) (.tmp 51) 46 rfl (.slice A (curL (a.rs.l.take k) cl ap).length c) (.slice (some ⟨wr.heap.size + 1, 0, none⟩) 1 1) rfl rfl HRUN.out ?_)
        rw [← hA1]
        go_roundw
        case rel => exact ⟨k + 1, hlt, by go_num, HO6.out, HB5.out⟩
        case measure => simp [intOf]; omega
end Go.Proofs.Ytmgpbjpohbpgpaa
