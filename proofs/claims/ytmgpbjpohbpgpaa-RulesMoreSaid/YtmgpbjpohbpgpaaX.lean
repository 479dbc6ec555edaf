/- Contract of the reference: Reason. -/
import Derived.Test.YtmgpbjpohbpgpaaW
set_option linter.unusedSimpArgs false
set_option linter.unusedVariables false
namespace Go.Proofs.Ytmgpbjpohbpgpaa
open Go.RowKit
def restR (l : List Ru) (m : Nat) : Option (List Nat) := (List.range' m (l.length + 1 - m)).findSome? (fun n => firstG l n [])
theorem restR_end {l : List Ru} {m : Nat} (h : l.length < m) : restR l m = none := by
  unfold restR; rw [show l.length + 1 - m = 0 by omega]; rfl
theorem restR_step {l : List Ru} {m : Nat} (h : m ≤ l.length) : restR l m = (firstG l m []).or (restR l (m + 1)) := by
  unfold restR
  rw [show l.length + 1 - m = (l.length + 1 - (m + 1)) + 1 by omega, List.range'_succ, List.findSome?_cons]
  cases firstG l m [] <;> rfl
theorem restR_all {nC nA : Nat} {l : List Ru} (h : chkR nC nA l = 0) : (restR l 1).getD [] = reaL nC nA l := by
  unfold reaL
  rw [if_pos h, ← ref_eq h]; rfl
set_option maxRecDepth 100000 in
set_option maxHeartbeats 12800000 in
theorem rreason_any (a : As) (w : World) (ha : AOk w a) : Calls Try.prog 11 #[.agg #[.slice a.s0.A a.s0.n a.s0.c, .slice a.s1.A a.s1.n a.s1.c, .slice a.s2.A a.s2.n a.s2.c, .slice a.s3.A a.s3.n a.s3.c, .slice a.s4.A a.s4.n a.s4.c, .slice a.aps.A a.aps.n a.aps.c, .slice a.cls.A a.cls.n a.cls.c, .slice a.rs.A a.rs.l.length a.rs.c]] w (ReaR w (reaL a.cls.n a.aps.n a.rs.l) (chkR a.cls.n a.aps.n a.rs.l)) := by
  obtain ⟨v, hv⟩ : ∃ v, chkR a.cls.n a.aps.n a.rs.l = v := ⟨_, rfl⟩
  have HV := Lib.hid hv
  have HR0 := Lib.hid (fun h : v = 0 => restR_all (l := a.rs.l) (nC := a.cls.n) (nA := a.aps.n) (hv.trans h))
  have HR1 := Lib.hid (show v ≠ 0 → reaL a.cls.n a.aps.n a.rs.l = [] from fun h => by unfold reaL; rw [if_neg (by rw [hv]; exact h)])
  rw [hv]
  clear hv
  obtain ⟨R, hR⟩ : ∃ R, reaL a.cls.n a.aps.n a.rs.l = R := ⟨_, rfl⟩
  rw [hR] at HR0 HR1 ⊢
  clear hR
  have E := Lib.hid (ext_refl w)
  have HA := Lib.hid (ha)
  clear ha
  replace E := Lib.hid (ext_alloc E.out (.cells #[.slice a.s0.A a.s0.n a.s0.c, .slice a.s1.A a.s1.n a.s1.c, .slice a.s2.A a.s2.n a.s2.c, .slice a.s3.A a.s3.n a.s3.c, .slice a.s4.A a.s4.n a.s4.c, .slice a.aps.A a.aps.n a.aps.c, .slice a.cls.A a.cls.n a.cls.c, .slice a.rs.A a.rs.l.length a.rs.c] 31))
  replace HA := Lib.hid (HA.out.alloc (.cells #[.slice a.s0.A a.s0.n a.s0.c, .slice a.s1.A a.s1.n a.s1.c, .slice a.s2.A a.s2.n a.s2.c, .slice a.s3.A a.s3.n a.s3.c, .slice a.s4.A a.s4.n a.s4.c, .slice a.aps.A a.aps.n a.aps.c, .slice a.cls.A a.cls.n a.cls.c, .slice a.rs.A a.rs.l.length a.rs.c] 31))
  have X := Lib.hid (Blk.newH w [.slice a.s0.A a.s0.n a.s0.c, .slice a.s1.A a.s1.n a.s1.c, .slice a.s2.A a.s2.n a.s2.c, .slice a.s3.A a.s3.n a.s3.c, .slice a.s4.A a.s4.n a.s4.c, .slice a.aps.A a.aps.n a.aps.c, .slice a.cls.A a.cls.n a.cls.c, .slice a.rs.A a.rs.l.length a.rs.c] 31 (w.heap.size) (by first | rfl | simp))
  go_enter Try.func11, Try.ntmps11
  have c0 := X.out.c 0 _ rfl
  have c1 := X.out.c 1 _ rfl
  have c2 := X.out.c 2 _ rfl
  have c3 := X.out.c 3 _ rfl
  have c4 := X.out.c 4 _ rfl
  have c5 := X.out.c 5 _ rfl
  have c6 := X.out.c 6 _ rfl
  have c7 := X.out.c 7 _ rfl
  go_wp2_with fail
  refine (rcheck_at v HV.out HA.out).mono ?_
  rintro e v1 ⟨rfl, B⟩
  clear c0 c1 c2 c3 c4 c5 c6 c7
  replace E := Lib.hid (ext_trans E.out B)
  replace HA := Lib.hid (HA.out.ext B)
  replace X := Lib.hid (X.out.ext B)
  clear B
  by_cases h0 : v = 0
  rotate_left
  · have hz : (v != 0) = true := by simp [h0]
    obtain rfl := HR1.out h0
    clear h0 HR0 HR1
    go_wp2_with fail
    refine bodyPost_ret (v := .tuple #[.slice none 0 0, .int .i64 v]) (by simp [results, Try.results11, go_sem, *]) rfl ?_
    exact ⟨none, 0, rfl, Slc.nil, E.out⟩
  subst h0
  have HL := Lib.hid (chk_len HV.out)
  have HR2 := Lib.hid (HR0.out rfl)
  clear HR0 HR1 HV
  go_wp2_with fail
  go_loopw [5] (fun i W => ∃ m : Nat, 1 ≤ m ∧ m ≤ a.rs.l.length + 1 ∧ i = .int .i64 m ∧ Hid ((restR a.rs.l m).getD [] = R) ∧ Below v1.heap.size v1 W) (fun i _ => a.rs.l.length + 1 - (intOf i).toNat)
  case atStart => exact ⟨1, Nat.le_refl _, by omega, rfl, HR2.out, ext_refl _⟩
  case round =>
    obtain ⟨m, hm1, hm2, rfl, HR, hB⟩ := hrel
    have F := Lib.hid hB
    have BX0 := Lib.hid (X.out.ext hB)
    have x7 := BX0.out.c 7 _ rfl
    have hl64 := HL.out
    clear hB HR2
    by_cases hmt : m ≤ a.rs.l.length
    rotate_left
    · have hret : ([] : List Nat) = R := by rw [← HR.out, restR_end (by omega)]; rfl
      subst hret
      clear HL
      have hc : ¬ ((m : Int) ≤ (a.rs.l.length : Int)) := by omega
      go_wp2_with fail
      refine bodyPost_ret (v := .tuple #[.slice none 0 0, .int .i64 0]) (by simp [results, Try.results11, go_sem, *]) rfl ?_
      exact ⟨none, 0, rfl, Slc.nil, ext_trans E.out F.out⟩
    · have hmt' : (m : Int) ≤ (a.rs.l.length : Int) := by omega
      obtain ⟨g, hg⟩ : ∃ g, firstG a.rs.l m [] = g := ⟨_, rfl⟩
      have HR3 := Lib.hid (show (g.or (restR a.rs.l (m + 1))).getD [] = R by rw [← hg, ← restR_step hmt]; exact HR.out)
      have HC := Lib.hid (first_any a.rs.A a.rs.c m a.rs.l (by omega) (by omega) m [] none 0 0 wr (HA.out.rs.ext F.out) Slc.nil (by simp) (by simp) rfl)
      rw [hg] at HC
      clear hg HR
      go_wp2_with fail
      refine HC.out.mono ?_
      rintro e w5 h5
      clear HC
      cases g with
      | none =>
        obtain ⟨A5, n5, c5, rfl, B5⟩ := h5
        have E5 := Lib.hid (ext_trans F.out B5)
        clear B5
        go_wp2_with fail
        first
          | exact ⟨⟨m + 1, by omega, by omega, by go_num, HR3.out, E5.out⟩, by simp [intOf]; omega⟩
          | (go_roundw
             case rel => exact ⟨m + 1, by omega, by omega, by go_num, HR3.out, E5.out⟩
             case measure => simp [intOf]; omega)
      | some T =>
        obtain ⟨A5, c5, rfl, hs5, B5⟩ := h5
        have E5 := Lib.hid (ext_trans (ext_trans E.out F.out) B5)
        have HS5 := Lib.hid hs5
        clear B5 hs5
        obtain rfl : T = R := HR3.out
        go_wp2_with fail
        refine bodyPost_ret (v := .tuple #[.slice A5 T.length c5, .int .i64 0]) (by simp [results, Try.results11, go_sem, *]) rfl ?_
        exact ⟨A5, c5, rfl, HS5.out, E5.out⟩
theorem rreason_at {a : As} {w : World} (l : List Nat) (err : Int) (hl : reaL a.cls.n a.aps.n a.rs.l = l) (he : chkR a.cls.n a.aps.n a.rs.l = err) (ha : AOk w a) : Calls Try.prog 11 #[.agg #[.slice a.s0.A a.s0.n a.s0.c, .slice a.s1.A a.s1.n a.s1.c, .slice a.s2.A a.s2.n a.s2.c, .slice a.s3.A a.s3.n a.s3.c, .slice a.s4.A a.s4.n a.s4.c, .slice a.aps.A a.aps.n a.aps.c, .slice a.cls.A a.cls.n a.cls.c, .slice a.rs.A a.rs.l.length a.rs.c]] w (ReaR w l err) := by
  subst hl he; exact rreason_any a w ha
end Go.Proofs.Ytmgpbjpohbpgpaa
