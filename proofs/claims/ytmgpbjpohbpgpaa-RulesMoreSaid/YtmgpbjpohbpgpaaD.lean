/- Contracts: the rules of an airspace are checked. -/
import Derived.Test.YtmgpbjpohbpgpaaC
set_option linter.unusedSimpArgs false
set_option linter.unusedVariables false
namespace Go.Proofs.Ytmgpbjpohbpgpaa
open Go.RowKit
theorem AOk.ext {w w' : World} {a : As} (h : AOk w a) (hb : Below w.heap.size w w') : AOk w' a := ⟨h.aps, h.cls, h.rs.ext hb, h.rl, h.rc⟩
theorem AOk.alloc {w : World} {a : As} (h : AOk w a) (o : Obj) : AOk (w.alloc o) a := h.ext (ext_alloc (ext_refl w) o)
set_option maxHeartbeats 1600000 in
set_option maxRecDepth 100000 in
theorem check_any13 (a : As) (w : World) (ha : AOk w a) : Calls Try.prog 21 #[a.v] w (RetE w (chkR a.cls.n a.aps.n a.rs.l)) := by
  have hlm := Nat.le_trans ha.rl ha.rc
  obtain ⟨v, hv⟩ : ∃ v, a.rs.l.any (wrong a.cls.n a.aps.n) = v := ⟨_, rfl⟩
  have HV := Lib.hid hv
  obtain ⟨r, hr⟩ : ∃ v, chkR a.cls.n a.aps.n a.rs.l = v := ⟨_, rfl⟩
  have HR := Lib.hid (show (if decide (64 < (a.rs.l.length : Int)) || v then 130 else 0) = r by rw [← hv, ← hr]; rfl)
  rw [hr]
  clear hv hr
  by_cases h : 64 < a.rs.l.length
  · have E := Lib.hid (ext_refl w)
    have HA := Lib.hid (ha)
    clear ha
    replace E := Lib.hid (ext_alloc E.out (.cells #[.slice a.s0.A a.s0.n a.s0.c, .slice a.s1.A a.s1.n a.s1.c, .slice a.s2.A a.s2.n a.s2.c, .slice a.s3.A a.s3.n a.s3.c, .slice a.s4.A a.s4.n a.s4.c, .slice a.aps.A a.aps.n a.aps.c, .slice a.cls.A a.cls.n a.cls.c, .slice a.rs.A a.rs.l.length a.rs.c] 31))
    replace HA := Lib.hid (HA.out.alloc (.cells #[.slice a.s0.A a.s0.n a.s0.c, .slice a.s1.A a.s1.n a.s1.c, .slice a.s2.A a.s2.n a.s2.c, .slice a.s3.A a.s3.n a.s3.c, .slice a.s4.A a.s4.n a.s4.c, .slice a.aps.A a.aps.n a.aps.c, .slice a.cls.A a.cls.n a.cls.c, .slice a.rs.A a.rs.l.length a.rs.c] 31))
    have X := Lib.hid (Blk.newH w [.slice a.s0.A a.s0.n a.s0.c, .slice a.s1.A a.s1.n a.s1.c, .slice a.s2.A a.s2.n a.s2.c, .slice a.s3.A a.s3.n a.s3.c, .slice a.s4.A a.s4.n a.s4.c, .slice a.aps.A a.aps.n a.aps.c, .slice a.cls.A a.cls.n a.cls.c, .slice a.rs.A a.rs.l.length a.rs.c] 31 (w.heap.size) (by first | rfl | simp))
    go_enter Try.func21, Try.ntmps21
    go_wp2_with fail
    refine (table_any _).mono ?_
    rintro e v1 ⟨rfl, B⟩
    replace E := Lib.hid (ext_trans E.out B)
    replace HA := Lib.hid (HA.out.ext B)
    replace X := Lib.hid (X.out.ext B)
    clear B
    replace E := Lib.hid (ext_alloc E.out (.cells #[.func (.func 54) #[] #[], .func (.func 55) #[] #[], .func (.func 57) #[] #[], .func (.func 59) #[] #[], .func (.func 60) #[] #[]] 77))
    replace HA := Lib.hid (HA.out.alloc (.cells #[.func (.func 54) #[] #[], .func (.func 55) #[] #[], .func (.func 57) #[] #[], .func (.func 59) #[] #[], .func (.func 60) #[] #[]] 77))
    replace X := Lib.hid (X.out.alloc (.cells #[.func (.func 54) #[] #[], .func (.func 55) #[] #[], .func (.func 57) #[] #[], .func (.func 59) #[] #[], .func (.func 60) #[] #[]] 77))
    have K := Lib.hid (Blk.newH v1 [.func (.func 54) #[] #[], .func (.func 55) #[] #[], .func (.func 57) #[] #[], .func (.func 59) #[] #[], .func (.func 60) #[] #[]] 77 (v1.heap.size) (by first | rfl | simp))
    have h1 : (64 : Int) < a.rs.l.length := by omega
    have HR2 := Lib.hid (show (130 : Int) = r by rw [← HR.out]; simp [h1])
    clear h
    have c0 := X.out.c 7 _ rfl
    go_wp2_with fail
    go_ret
    exact ⟨ret_int HR2.out, E.out⟩
  · have E := Lib.hid (ext_refl w)
    have HA := Lib.hid (ha)
    clear ha
    replace E := Lib.hid (ext_alloc E.out (.cells #[.slice a.s0.A a.s0.n a.s0.c, .slice a.s1.A a.s1.n a.s1.c, .slice a.s2.A a.s2.n a.s2.c, .slice a.s3.A a.s3.n a.s3.c, .slice a.s4.A a.s4.n a.s4.c, .slice a.aps.A a.aps.n a.aps.c, .slice a.cls.A a.cls.n a.cls.c, .slice a.rs.A a.rs.l.length a.rs.c] 31))
    replace HA := Lib.hid (HA.out.alloc (.cells #[.slice a.s0.A a.s0.n a.s0.c, .slice a.s1.A a.s1.n a.s1.c, .slice a.s2.A a.s2.n a.s2.c, .slice a.s3.A a.s3.n a.s3.c, .slice a.s4.A a.s4.n a.s4.c, .slice a.aps.A a.aps.n a.aps.c, .slice a.cls.A a.cls.n a.cls.c, .slice a.rs.A a.rs.l.length a.rs.c] 31))
    have X := Lib.hid (Blk.newH w [.slice a.s0.A a.s0.n a.s0.c, .slice a.s1.A a.s1.n a.s1.c, .slice a.s2.A a.s2.n a.s2.c, .slice a.s3.A a.s3.n a.s3.c, .slice a.s4.A a.s4.n a.s4.c, .slice a.aps.A a.aps.n a.aps.c, .slice a.cls.A a.cls.n a.cls.c, .slice a.rs.A a.rs.l.length a.rs.c] 31 (w.heap.size) (by first | rfl | simp))
    go_enter Try.func21, Try.ntmps21
    go_wp2_with fail
    refine (table_any _).mono ?_
    rintro e v1 ⟨rfl, B⟩
    replace E := Lib.hid (ext_trans E.out B)
    replace HA := Lib.hid (HA.out.ext B)
    replace X := Lib.hid (X.out.ext B)
    clear B
    replace E := Lib.hid (ext_alloc E.out (.cells #[.func (.func 54) #[] #[], .func (.func 55) #[] #[], .func (.func 57) #[] #[], .func (.func 59) #[] #[], .func (.func 60) #[] #[]] 77))
    replace HA := Lib.hid (HA.out.alloc (.cells #[.func (.func 54) #[] #[], .func (.func 55) #[] #[], .func (.func 57) #[] #[], .func (.func 59) #[] #[], .func (.func 60) #[] #[]] 77))
    replace X := Lib.hid (X.out.alloc (.cells #[.func (.func 54) #[] #[], .func (.func 55) #[] #[], .func (.func 57) #[] #[], .func (.func 59) #[] #[], .func (.func 60) #[] #[]] 77))
    have K := Lib.hid (Blk.newH v1 [.func (.func 54) #[] #[], .func (.func 55) #[] #[], .func (.func 57) #[] #[], .func (.func 59) #[] #[], .func (.func 60) #[] #[]] 77 (v1.heap.size) (by first | rfl | simp))
    have h1 : ¬ (64 : Int) < a.rs.l.length := by omega
    have HR2 := Lib.hid (show (if v then (130 : Int) else 0) = r by rw [← HR.out]; simp [h1])
    clear h
    have c0 := X.out.c 7 _ rfl
    go_wp2_with fail
    refine (containsRu 38 (.pointer (some ⟨w.heap.size, 0, none⟩)) (.pointer (some ⟨v1.heap.size, 0, none⟩)) (wrong a.cls.n a.aps.n) a.rs.A a.rs.c a.rs.l _ HA.out.rs hlm enters38 (fun x W hx hW => wrong_any x a w.heap.size v1.heap.size W (X.out.ext hW) (K.out.ext hW))).mono ?_
    rintro e v2 ⟨rfl, B⟩
    clear c0
    replace E := Lib.hid (ext_trans E.out B)
    replace HA := Lib.hid (HA.out.ext B)
    replace X := Lib.hid (X.out.ext B)
    replace K := Lib.hid (K.out.ext B)
    clear B
    rw [HV.out]
    cases v
    · go_wp2_with fail
      go_ret
      exact ⟨ret_int HR2.out, E.out⟩
    · go_wp2_with fail
      go_ret
      exact ⟨ret_int HR2.out, E.out⟩
theorem check_at13 {a : As} {w : World} (r : Int) (hr : chkR a.cls.n a.aps.n a.rs.l = r) (ha : AOk w a) : Calls Try.prog 21 #[.agg #[.slice a.s0.A a.s0.n a.s0.c, .slice a.s1.A a.s1.n a.s1.c, .slice a.s2.A a.s2.n a.s2.c, .slice a.s3.A a.s3.n a.s3.c, .slice a.s4.A a.s4.n a.s4.c, .slice a.aps.A a.aps.n a.aps.c, .slice a.cls.A a.cls.n a.cls.c, .slice a.rs.A a.rs.l.length a.rs.c]] w (RetE w r) := by
  subst hr; exact check_any13 a w ha
end Go.Proofs.Ytmgpbjpohbpgpaa
