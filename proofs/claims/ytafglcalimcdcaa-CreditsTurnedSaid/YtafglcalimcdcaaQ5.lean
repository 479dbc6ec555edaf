/- CreditsTurned, walked. -/
import Derived.Test.YtafglcalimcdcaaS
import Derived.Test.YtafglcalimcdcaaPt
set_option linter.unusedSimpArgs false
set_option linter.unusedVariables false
namespace Go.Proofs.Ytafglcalimcdcaa
open Go.RowKit
set_option maxHeartbeats 3200000 in
set_option maxRecDepth 100000 in
theorem law5 (A : Option Addr) (c : Nat) (l : List Cr) (a b : Cr) (w : World) (ha : Slc w Cr.cells 3 A l) (hn : l.length ≤ maxLen) : Calls Try.prog 5 #[.slice A l.length c, a.v, b.v] w (Tru w) := by
  obtain ⟨fw, hfw⟩ : ∃ v, fewC l = v := ⟨_, rfl⟩
  have Hfw := Lib.hid hfw
  clear hfw
  cases fw
  · have E := Lib.hid (ext_refl w)
    have SL := Lib.hid (ha)
    clear ha
    replace E := Lib.hid (ext_alloc E.out (.cells #[.int .i64 a.a, .int .i64 a.m, .int .i64 a.u] 24))
    replace SL := Lib.hid (SL.out.alloc (.cells #[.int .i64 a.a, .int .i64 a.m, .int .i64 a.u] 24))
    have X := Lib.hid (Blk.newH w [.int .i64 a.a, .int .i64 a.m, .int .i64 a.u] 24 (w.heap.size) (by first | rfl | simp))
    replace E := Lib.hid (ext_alloc E.out (.cells #[.int .i64 b.a, .int .i64 b.m, .int .i64 b.u] 24))
    replace SL := Lib.hid (SL.out.alloc (.cells #[.int .i64 b.a, .int .i64 b.m, .int .i64 b.u] 24))
    replace X := Lib.hid (X.out.alloc (.cells #[.int .i64 b.a, .int .i64 b.m, .int .i64 b.u] 24))
    have Y := Lib.hid (Blk.newH (w.alloc (.cells #[.int .i64 a.a, .int .i64 a.m, .int .i64 a.u] 24)) [.int .i64 b.a, .int .i64 b.m, .int .i64 b.u] 24 (w.heap.size + 1) (by first | rfl | simp))
    go_enter Try.func5, Try.ntmps5
    go_wp2_with fail
    refine (sane_any _).mono ?_
    rintro e v1 ⟨rfl, B⟩
    replace E := Lib.hid (ext_trans E.out B)
    replace SL := Lib.hid (SL.out.ext B)
    replace X := Lib.hid (X.out.ext B)
    replace Y := Lib.hid (Y.out.ext B)
    clear B
    go_wp2_with fail
    refine (few_at false Hfw.out rfl SL.out hn).mono ?_
    rintro e v2 ⟨rfl, B⟩
    replace E := Lib.hid (ext_trans E.out B)
    replace SL := Lib.hid (SL.out.ext B)
    replace X := Lib.hid (X.out.ext B)
    replace Y := Lib.hid (Y.out.ext B)
    clear B
    go_wp2_with fail
    go_ret
    exact ⟨rfl, E.out⟩
  · have hl40 : l.length ≤ 40 := (fewc_iff Hfw.out).2
    have HSM := Lib.hid (fewc_iff Hfw.out).1
    obtain ⟨L, hL⟩ : ∃ v, earnL l a = v := ⟨_, rfl⟩
    obtain ⟨M, hM⟩ : ∃ v, earnL l b = v := ⟨_, rfl⟩
    obtain ⟨ea, hea⟩ : ∃ v, earnE l a = v := ⟨_, rfl⟩
    obtain ⟨eb, heb⟩ : ∃ v, earnE l b = v := ⟨_, rfl⟩
    obtain ⟨n, hnL⟩ : ∃ v, L.length = v := ⟨_, rfl⟩
    obtain ⟨m, hmM⟩ : ∃ v, M.length = v := ⟨_, rfl⟩
    have HL := Lib.hid hL
    have HM := Lib.hid hM
    have HEA := Lib.hid hea
    have HEB := Lib.hid heb
    have HN := Lib.hid hnL
    have HMN := Lib.hid hmM
    have hn41 : L.length ≤ 41 := by rw [← hL]; have := earn_len l a; omega
    have hm41 : M.length ≤ 41 := by rw [← hM]; have := earn_len l b; omega
    clear hL hM hea heb hnL hmM
    have E := Lib.hid (ext_refl w)
    have SL := Lib.hid (ha)
    clear ha
    replace E := Lib.hid (ext_alloc E.out (.cells #[.int .i64 a.a, .int .i64 a.m, .int .i64 a.u] 24))
    replace SL := Lib.hid (SL.out.alloc (.cells #[.int .i64 a.a, .int .i64 a.m, .int .i64 a.u] 24))
    have X := Lib.hid (Blk.newH w [.int .i64 a.a, .int .i64 a.m, .int .i64 a.u] 24 (w.heap.size) (by first | rfl | simp))
    replace E := Lib.hid (ext_alloc E.out (.cells #[.int .i64 b.a, .int .i64 b.m, .int .i64 b.u] 24))
    replace SL := Lib.hid (SL.out.alloc (.cells #[.int .i64 b.a, .int .i64 b.m, .int .i64 b.u] 24))
    replace X := Lib.hid (X.out.alloc (.cells #[.int .i64 b.a, .int .i64 b.m, .int .i64 b.u] 24))
    have Y := Lib.hid (Blk.newH (w.alloc (.cells #[.int .i64 a.a, .int .i64 a.m, .int .i64 a.u] 24)) [.int .i64 b.a, .int .i64 b.m, .int .i64 b.u] 24 (w.heap.size + 1) (by first | rfl | simp))
    go_enter Try.func5, Try.ntmps5
    go_wp2_with fail
    refine (sane_any _).mono ?_
    rintro e v1 ⟨rfl, B⟩
    replace E := Lib.hid (ext_trans E.out B)
    replace SL := Lib.hid (SL.out.ext B)
    replace X := Lib.hid (X.out.ext B)
    replace Y := Lib.hid (Y.out.ext B)
    clear B
    go_wp2_with fail
    refine (few_at true Hfw.out rfl SL.out hn).mono ?_
    rintro e v2 ⟨rfl, B⟩
    replace E := Lib.hid (ext_trans E.out B)
    replace SL := Lib.hid (SL.out.ext B)
    replace X := Lib.hid (X.out.ext B)
    replace Y := Lib.hid (Y.out.ext B)
    clear B
    have c0 := X.out.c 0 _ rfl
    have c1 := X.out.c 1 _ rfl
    have c2 := X.out.c 2 _ rfl
    go_wp2_with fail
    refine (earn_s (a := a) L n ea HL.out HEA.out HN.out rfl SL.out (by omega)).mono ?_
    rintro e v3 ⟨AS1, cS1, rfl, hS1, hcS1, B⟩
    clear c0 c1 c2
    replace E := Lib.hid (ext_trans E.out B)
    replace SL := Lib.hid (SL.out.ext B)
    replace X := Lib.hid (X.out.ext B)
    replace Y := Lib.hid (Y.out.ext B)
    clear B
    have S1 := Lib.hid hS1
    clear hS1
    have c0 := Y.out.c 0 _ rfl
    have c1 := Y.out.c 1 _ rfl
    have c2 := Y.out.c 2 _ rfl
    go_wp2_with fail
    refine (earn_s (a := b) M m eb HM.out HEB.out HMN.out rfl SL.out (by omega)).mono ?_
    rintro e v4 ⟨AS2, cS2, rfl, hS2, hcS2, B⟩
    clear c0 c1 c2
    replace E := Lib.hid (ext_trans E.out B)
    replace SL := Lib.hid (SL.out.ext B)
    replace X := Lib.hid (X.out.ext B)
    replace Y := Lib.hid (Y.out.ext B)
    replace S1 := Lib.hid (S1.out.ext B)
    clear B
    have S2 := Lib.hid hS2
    clear hS2
    by_cases h1 : ea = 0
    rotate_left
    · have f1 : (ea != 0) = true := by simp [h1]
      clear h1
      go_wp2_with fail
      go_ret
      exact ⟨rfl, E.out⟩
    by_cases h2 : eb = 0
    rotate_left
    · have f1 : (ea != 0) = false := by simp [h1]
      have f2 : (eb != 0) = true := by simp [h2]
      clear h1 h2
      go_wp2_with fail
      go_ret
      exact ⟨rfl, E.out⟩
    subst h1 h2
    have HCM := Lib.hid (earn_comm HEA.out HEB.out)
    rw [HL.out, HM.out] at HCM
    obtain ⟨AB, hAB⟩ : ∃ v, earnL L b = v := ⟨_, rfl⟩
    obtain ⟨e2, he2⟩ : ∃ v, earnE L b = v := ⟨_, rfl⟩
    obtain ⟨p, hp⟩ : ∃ v, AB.length = v := ⟨_, rfl⟩
    have HAB := Lib.hid hAB
    have HE2 := Lib.hid he2
    have HP := Lib.hid hp
    have hp42 : AB.length ≤ 42 := by rw [← hAB]; have := earn_len L b; omega
    have HBA := Lib.hid (show earnL M a = AB from HCM.out.2.symm.trans hAB)
    have HE3 := Lib.hid (show earnE M a = e2 from HCM.out.1.symm.trans he2)
    have HSL := Lib.hid (show SmC L by rw [← HL.out]; exact sm_earn HEA.out)
    obtain ⟨bl, hbl⟩ : ∃ v, balL l a.a 0 = v := ⟨_, rfl⟩
    have HBL := Lib.hid hbl
    clear hAB he2 hp hbl
    have c0 := Y.out.c 0 _ rfl
    have c1 := Y.out.c 1 _ rfl
    have c2 := Y.out.c 2 _ rfl
    go_wp2_with fail
    refine (earn_s (a := b) AB p e2 HAB.out HE2.out HP.out HN.out.symm S1.out (by omega)).mono ?_
    rintro e v5 ⟨AS3, cS3, rfl, hS3, hcS3, B⟩
    clear c0 c1 c2
    replace E := Lib.hid (ext_trans E.out B)
    replace SL := Lib.hid (SL.out.ext B)
    replace X := Lib.hid (X.out.ext B)
    replace Y := Lib.hid (Y.out.ext B)
    replace S1 := Lib.hid (S1.out.ext B)
    replace S2 := Lib.hid (S2.out.ext B)
    clear B
    have S3 := Lib.hid hS3
    clear hS3
    have c0 := X.out.c 0 _ rfl
    have c1 := X.out.c 1 _ rfl
    have c2 := X.out.c 2 _ rfl
    go_wp2_with fail
    refine (earn_s (a := a) AB p e2 HBA.out HE3.out HP.out HMN.out.symm S2.out (by omega)).mono ?_
    rintro e v6 ⟨AS4, cS4, rfl, hS4, hcS4, B⟩
    clear c0 c1 c2
    replace E := Lib.hid (ext_trans E.out B)
    replace SL := Lib.hid (SL.out.ext B)
    replace X := Lib.hid (X.out.ext B)
    replace Y := Lib.hid (Y.out.ext B)
    replace S1 := Lib.hid (S1.out.ext B)
    replace S2 := Lib.hid (S2.out.ext B)
    replace S3 := Lib.hid (S3.out.ext B)
    clear B
    have S4 := Lib.hid hS4
    clear hS4
    go_wp2_with fail
    refine (sameCr (a := AB) (b := AB) true (by simp) HP.out.symm HP.out.symm S3.out S4.out (by omega)).mono ?_
    rintro e v7 ⟨rfl, B⟩
    replace E := Lib.hid (ext_trans E.out B)
    replace SL := Lib.hid (SL.out.ext B)
    replace X := Lib.hid (X.out.ext B)
    replace Y := Lib.hid (Y.out.ext B)
    replace S1 := Lib.hid (S1.out.ext B)
    replace S2 := Lib.hid (S2.out.ext B)
    replace S3 := Lib.hid (S3.out.ext B)
    replace S4 := Lib.hid (S4.out.ext B)
    clear B
    have c0 := X.out.c 0 _ rfl
    go_wp2_with fail
    refine (balance_at (al := a.a) (now := 0) bl HBL.out rfl SL.out (by omega) HSM.out).mono ?_
    rintro e v8 ⟨rfl, B⟩
    clear c0
    replace E := Lib.hid (ext_trans E.out B)
    replace SL := Lib.hid (SL.out.ext B)
    replace X := Lib.hid (X.out.ext B)
    replace Y := Lib.hid (Y.out.ext B)
    replace S1 := Lib.hid (S1.out.ext B)
    replace S2 := Lib.hid (S2.out.ext B)
    replace S3 := Lib.hid (S3.out.ext B)
    replace S4 := Lib.hid (S4.out.ext B)
    clear B
    by_cases hb : 0 < bl
    · have f1 : decide (bl > 0) = true := by simpa using hb
      go_wp2_with fail
      go_ret
      exact ⟨rfl, E.out⟩
    have HSB := Lib.hid (spend_back HEA.out (by rw [HBL.out]; omega))
    rw [HL.out] at HSB
    have c0 := X.out.c 0 _ rfl
    have c1 := X.out.c 1 _ rfl
    go_wp2_with fail
    refine (spend_s (al := a.a) (mi := a.m) (now := 0) l l.length 0 HSB.out.2 HSB.out.1 rfl HN.out.symm S1.out (by omega) HSL.out).mono ?_
    rintro e v9 ⟨A9, c9, rfl, h9, hc9, B⟩
    clear c0 c1
    replace E := Lib.hid (ext_trans E.out B)
    replace SL := Lib.hid (SL.out.ext B)
    replace X := Lib.hid (X.out.ext B)
    replace Y := Lib.hid (Y.out.ext B)
    replace S1 := Lib.hid (S1.out.ext B)
    replace S2 := Lib.hid (S2.out.ext B)
    replace S3 := Lib.hid (S3.out.ext B)
    replace S4 := Lib.hid (S4.out.ext B)
    clear B
    have S9 := Lib.hid h9
    clear h9
    go_wp2_with fail
    refine (sameCr (a := l) (b := l) true (by simp) rfl rfl S9.out SL.out (by omega)).mono ?_
    rintro e v10 ⟨rfl, B⟩
    replace E := Lib.hid (ext_trans E.out B)
    replace SL := Lib.hid (SL.out.ext B)
    replace X := Lib.hid (X.out.ext B)
    replace Y := Lib.hid (Y.out.ext B)
    replace S1 := Lib.hid (S1.out.ext B)
    replace S2 := Lib.hid (S2.out.ext B)
    replace S3 := Lib.hid (S3.out.ext B)
    replace S4 := Lib.hid (S4.out.ext B)
    replace S9 := Lib.hid (S9.out.ext B)
    clear B
    go_wp2_with fail
    go_ret
    exact ⟨rfl, E.out⟩
end Go.Proofs.Ytafglcalimcdcaa
