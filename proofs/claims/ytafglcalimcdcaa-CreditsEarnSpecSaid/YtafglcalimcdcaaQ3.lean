/- CreditsEarnSpec, walked. -/
import Derived.Test.YtafglcalimcdcaaS
import Derived.Test.YtafglcalimcdcaaPt
set_option linter.unusedSimpArgs false
set_option linter.unusedVariables false
namespace Go.Proofs.Ytafglcalimcdcaa
open Go.RowKit
set_option maxHeartbeats 3200000 in
set_option maxRecDepth 100000 in
theorem law3 (A : Option Addr) (c : Nat) (l : List Cr) (a : Cr) (w : World) (ha : Slc w Cr.cells 3 A l) (hn : l.length ≤ maxLen) (hc : l.length ≤ c) : Calls Try.prog 3 #[.slice A l.length c, a.v] w (Tru w) := by
  obtain ⟨fw, hfw⟩ : ∃ v, fewC l = v := ⟨_, rfl⟩
  have Hfw := Lib.hid hfw
  clear hfw
  cases fw
  · have E := Lib.hid (ext_refl w)
    have SL := Lib.hid (ha)
    clear ha
    replace E := Lib.hid (ext_alloc E.out (.cells #[.int .i64 a.a, .int .i64 a.m, .int .i64 a.u] 24))
    replace SL := Lib.hid (SL.out.alloc (.cells #[.int .i64 a.a, .int .i64 a.m, .int .i64 a.u] 24))
    have X := Lib.hid (Blk.newH w [.int .i64 a.a, .int .i64 a.m, .int .i64 a.u] 24 (w.heap.size) (by first | rfl | simp))
    go_enter Try.func3, Try.ntmps3
    go_wp2_with fail
    refine (sane_any _).mono ?_
    rintro e v1 ⟨rfl, B⟩
    replace E := Lib.hid (ext_trans E.out B)
    replace SL := Lib.hid (SL.out.ext B)
    replace X := Lib.hid (X.out.ext B)
    clear B
    go_wp2_with fail
    refine (few_at false Hfw.out rfl SL.out hn).mono ?_
    rintro e v2 ⟨rfl, B⟩
    replace E := Lib.hid (ext_trans E.out B)
    replace SL := Lib.hid (SL.out.ext B)
    replace X := Lib.hid (X.out.ext B)
    clear B
    go_wp2_with fail
    go_ret
    exact ⟨rfl, E.out⟩
  · have hl40 : l.length ≤ 40 := (fewc_iff Hfw.out).2
    obtain ⟨L, hL⟩ : ∃ v, earnL l a = v := ⟨_, rfl⟩
    obtain ⟨er, her⟩ : ∃ v, earnE l a = v := ⟨_, rfl⟩
    obtain ⟨n, hnL⟩ : ∃ v, L.length = v := ⟨_, rfl⟩
    obtain ⟨ck, hck⟩ : ∃ v, chkC l = v := ⟨_, rfl⟩
    have HL := Lib.hid hL
    have HE := Lib.hid her
    have HN := Lib.hid hnL
    have HCK := Lib.hid hck
    have HLN := Lib.hid (show L.length ≤ 41 by rw [← hL]; have := earn_len l a; omega)
    clear hL her hnL hck
    have E := Lib.hid (ext_refl w)
    have SL := Lib.hid (ha)
    clear ha
    replace E := Lib.hid (ext_alloc E.out (.cells #[.int .i64 a.a, .int .i64 a.m, .int .i64 a.u] 24))
    replace SL := Lib.hid (SL.out.alloc (.cells #[.int .i64 a.a, .int .i64 a.m, .int .i64 a.u] 24))
    have X := Lib.hid (Blk.newH w [.int .i64 a.a, .int .i64 a.m, .int .i64 a.u] 24 (w.heap.size) (by first | rfl | simp))
    go_enter Try.func3, Try.ntmps3
    go_wp2_with fail
    refine (sane_any _).mono ?_
    rintro e v1 ⟨rfl, B⟩
    replace E := Lib.hid (ext_trans E.out B)
    replace SL := Lib.hid (SL.out.ext B)
    replace X := Lib.hid (X.out.ext B)
    clear B
    go_wp2_with fail
    refine (few_at true Hfw.out rfl SL.out hn).mono ?_
    rintro e v2 ⟨rfl, B⟩
    replace E := Lib.hid (ext_trans E.out B)
    replace SL := Lib.hid (SL.out.ext B)
    replace X := Lib.hid (X.out.ext B)
    clear B
    have c0 := X.out.c 0 _ rfl
    have c1 := X.out.c 1 _ rfl
    have c2 := X.out.c 2 _ rfl
    go_wp2_with fail
    refine (earn_s (a := a) L n er HL.out HE.out HN.out rfl SL.out (by omega)).mono ?_
    rintro e v3 ⟨AS1, cS1, rfl, hS1, hcS1, B⟩
    clear c0 c1 c2
    replace E := Lib.hid (ext_trans E.out B)
    replace SL := Lib.hid (SL.out.ext B)
    replace X := Lib.hid (X.out.ext B)
    clear B
    have S1 := Lib.hid hS1
    clear hS1
    have c0 := X.out.c 0 _ rfl
    have c1 := X.out.c 1 _ rfl
    have c2 := X.out.c 2 _ rfl
    go_wp2_with fail
    refine (rearn_s (a := a) L n er HL.out HE.out HN.out rfl SL.out (by omega) hc).mono ?_
    rintro e v4 ⟨AS2, cS2, rfl, hS2, hcS2, B⟩
    clear c0 c1 c2
    replace E := Lib.hid (ext_trans E.out B)
    replace SL := Lib.hid (SL.out.ext B)
    replace X := Lib.hid (X.out.ext B)
    replace S1 := Lib.hid (S1.out.ext B)
    clear B
    have S2 := Lib.hid hS2
    clear hS2
    go_wp2_with fail
    refine (check_at ck HCK.out rfl SL.out hn).mono ?_
    rintro e v5 ⟨rfl, B⟩
    replace E := Lib.hid (ext_trans E.out B)
    replace SL := Lib.hid (SL.out.ext B)
    replace X := Lib.hid (X.out.ext B)
    replace S1 := Lib.hid (S1.out.ext B)
    replace S2 := Lib.hid (S2.out.ext B)
    clear B
    go_wp2_with fail
    refine (rcheck_at ck HCK.out rfl SL.out hn).mono ?_
    rintro e v6 ⟨rfl, B⟩
    replace E := Lib.hid (ext_trans E.out B)
    replace SL := Lib.hid (SL.out.ext B)
    replace X := Lib.hid (X.out.ext B)
    replace S1 := Lib.hid (S1.out.ext B)
    replace S2 := Lib.hid (S2.out.ext B)
    clear B
    go_wp2_with fail
    refine (sameCr (a := L) (b := L) true (by simp) HN.out.symm HN.out.symm S1.out S2.out (by have := HLN.out; omega)).mono ?_
    rintro e v7 ⟨rfl, B⟩
    replace E := Lib.hid (ext_trans E.out B)
    replace SL := Lib.hid (SL.out.ext B)
    replace X := Lib.hid (X.out.ext B)
    replace S1 := Lib.hid (S1.out.ext B)
    replace S2 := Lib.hid (S2.out.ext B)
    clear B
    go_wp2_with fail
    all_goals
      go_ret
      exact ⟨ret_bool (by simp), E.out⟩
end Go.Proofs.Ytafglcalimcdcaa
