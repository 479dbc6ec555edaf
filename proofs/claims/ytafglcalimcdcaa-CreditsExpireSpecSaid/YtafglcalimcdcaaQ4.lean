/- CreditsExpireSpec, walked. -/
import Derived.Test.YtafglcalimcdcaaS
import Derived.Test.YtafglcalimcdcaaPt
set_option linter.unusedSimpArgs false
set_option linter.unusedVariables false
namespace Go.Proofs.Ytafglcalimcdcaa
open Go.RowKit
set_option maxHeartbeats 3200000 in
set_option maxRecDepth 100000 in
theorem law4 (A : Option Addr) (c : Nat) (l : List Cr) (now : Int) (w : World) (ha : Slc w Cr.cells 3 A l) (hn : l.length ≤ maxLen) : Calls Try.prog 4 #[.slice A l.length c, .int .i64 now] w (Tru w) := by
  obtain ⟨fw, hfw⟩ : ∃ v, fewC l = v := ⟨_, rfl⟩
  have Hfw := Lib.hid hfw
  clear hfw
  cases fw
  · have E := Lib.hid (ext_refl w)
    have SL := Lib.hid (ha)
    clear ha
    go_enter Try.func4, Try.ntmps4
    go_wp2_with fail
    refine (sane_any _).mono ?_
    rintro e v1 ⟨rfl, B⟩
    replace E := Lib.hid (ext_trans E.out B)
    replace SL := Lib.hid (SL.out.ext B)
    clear B
    go_wp2_with fail
    refine (few_at false Hfw.out rfl SL.out hn).mono ?_
    rintro e v2 ⟨rfl, B⟩
    replace E := Lib.hid (ext_trans E.out B)
    replace SL := Lib.hid (SL.out.ext B)
    clear B
    go_wp2_with fail
    go_ret
    exact ⟨rfl, E.out⟩
  · have hl40 : l.length ≤ 40 := (fewc_iff Hfw.out).2
    obtain ⟨X, hX⟩ : ∃ v, keepC now l = v := ⟨_, rfl⟩
    obtain ⟨G, hG⟩ : ∃ v, goneC now l = v := ⟨_, rfl⟩
    obtain ⟨n, hnX⟩ : ∃ v, X.length = v := ⟨_, rfl⟩
    obtain ⟨m, hmG⟩ : ∃ v, G.length = v := ⟨_, rfl⟩
    have HLX := Lib.hid (show X.length ≤ 40 by rw [← hX]; exact Nat.le_trans (List.length_filter_le _ _) hl40)
    have HLG := Lib.hid (show G.length ≤ 40 by rw [← hG]; exact Nat.le_trans (List.length_filter_le _ _) hl40)
    have HX := Lib.hid hX
    have HG := Lib.hid hG
    have HN := Lib.hid hnX
    have HM := Lib.hid hmG
    clear hX hG hnX hmG
    have E := Lib.hid (ext_refl w)
    have SL := Lib.hid (ha)
    clear ha
    go_enter Try.func4, Try.ntmps4
    go_wp2_with fail
    refine (sane_any _).mono ?_
    rintro e v1 ⟨rfl, B⟩
    replace E := Lib.hid (ext_trans E.out B)
    replace SL := Lib.hid (SL.out.ext B)
    clear B
    go_wp2_with fail
    refine (few_at true Hfw.out rfl SL.out hn).mono ?_
    rintro e v2 ⟨rfl, B⟩
    replace E := Lib.hid (ext_trans E.out B)
    replace SL := Lib.hid (SL.out.ext B)
    clear B
    go_wp2_with fail
    refine (expire_s (now := now) X G n m HX.out HG.out HN.out HM.out rfl SL.out (by omega)).mono ?_
    rintro e v3 ⟨A1, c1, B1, d1, rfl, hx1, hg1, B⟩
    replace E := Lib.hid (ext_trans E.out B)
    replace SL := Lib.hid (SL.out.ext B)
    clear B
    have X1 := Lib.hid hx1
    have G1 := Lib.hid hg1
    clear hx1 hg1
    go_wp2_with fail
    refine (rexpire_s (now := now) X G n m HX.out HG.out HN.out HM.out rfl SL.out (by omega)).mono ?_
    rintro e v4 ⟨A2, c2, B2, d2, rfl, hx2, hg2, B⟩
    replace E := Lib.hid (ext_trans E.out B)
    replace SL := Lib.hid (SL.out.ext B)
    replace X1 := Lib.hid (X1.out.ext B)
    replace G1 := Lib.hid (G1.out.ext B)
    clear B
    have X2 := Lib.hid hx2
    have G2 := Lib.hid hg2
    clear hx2 hg2
    go_wp2_with fail
    refine (sameCr (a := X) (b := X) true (by simp) HN.out.symm HN.out.symm X1.out X2.out (by have := HLX.out; omega)).mono ?_
    rintro e v5 ⟨rfl, B⟩
    replace E := Lib.hid (ext_trans E.out B)
    replace SL := Lib.hid (SL.out.ext B)
    replace X1 := Lib.hid (X1.out.ext B)
    replace G1 := Lib.hid (G1.out.ext B)
    replace X2 := Lib.hid (X2.out.ext B)
    replace G2 := Lib.hid (G2.out.ext B)
    clear B
    go_wp2_with fail
    refine (sameCr (a := G) (b := G) true (by simp) HM.out.symm HM.out.symm G1.out G2.out (by have := HLG.out; omega)).mono ?_
    rintro e v6 ⟨rfl, B⟩
    replace E := Lib.hid (ext_trans E.out B)
    replace SL := Lib.hid (SL.out.ext B)
    replace X1 := Lib.hid (X1.out.ext B)
    replace G1 := Lib.hid (G1.out.ext B)
    replace X2 := Lib.hid (X2.out.ext B)
    replace G2 := Lib.hid (G2.out.ext B)
    clear B
    go_wp2_with fail
    go_ret
    exact ⟨rfl, E.out⟩
end Go.Proofs.Ytafglcalimcdcaa
