/- Lose, Repeat. -/
import Derived.Test.YthchcimialclkaaH
set_option linter.unusedSimpArgs false
set_option linter.unusedVariables false
namespace Go.Proofs.Ythchcimialclkaa
open Go.RowKit
def Nt.loseQ (n : Nt) (i : Int) : List Pk := if n.atE i = 0 then delN n.q.l i.toNat else []
def Nt.loseA (n : Nt) (i : Int) : List Lk := if n.atE i = 0 then n.ap.l else []
def Nt.repE (n : Nt) (i : Int) : Int := if n.atE i = 0 then n.sendE (n.atP i) else n.atE i
def Nt.repQ (n : Nt) (i : Int) : List Pk := if n.atE i = 0 then n.sendQ (n.atP i) else []
def Nt.repA (n : Nt) (i : Int) : List Lk := if n.atE i = 0 then n.sendA (n.atP i) else []
theorem atE_zero {n : Nt} {i : Int} (h : n.atE i = 0) : chkE n = 0 ∧ 0 ≤ i ∧ i < n.q.l.length := by
  unfold Nt.atE at h
  by_cases h1 : chkE n = 0
  · rw [if_neg (by simpa using h1)] at h
    by_cases h2 : i < 0 ∨ (n.q.l.length : Int) ≤ i
    · rw [if_pos h2] at h; cases h
    · exact ⟨h1, by omega, by omega⟩
  · rw [if_pos h1] at h; cases h
theorem atP_mem {n : Nt} {i : Int} : n.atP i = zeroP ∨ n.atP i ∈ n.q.l := by
  unfold Nt.atP
  by_cases h : n.atE i = 0
  · rw [if_pos h]
    obtain ⟨_, h1, h2⟩ := atE_zero h
    right
    rw [List.getD_eq_getElem?_getD, List.getElem?_eq_getElem (by omega : i.toNat < n.q.l.length)]
    exact List.getElem_mem _
  · rw [if_neg h]; exact .inl rfl
theorem NOk.atP {w : World} {n : Nt} (hn : NOk w n) (i : Int) : Slc w bc 1 (n.atP i).d.A (n.atP i).d.l ∧ (n.atP i).d.l.length ≤ maxLen := by
  rcases atP_mem (n := n) (i := i) with h | h
  · rw [h]; exact ⟨Slc.nil, by simp [zeroP]⟩
  · exact ⟨hn.d _ h, hn.dl _ h⟩
theorem atP_off {n : Nt} {i : Int} {b : Nat} (h : n.off b) : (n.atP i).off b := by
  rcases atP_mem (n := n) (i := i) with h1 | h1
  · rw [h1]; exact fun h => absurd rfl h
  · exact h.2.2 _ h1
theorem without_at {n : Nt} {i : Int} {w : World} (k : Nat) (hi : i = k) (hn : NOk w n) (hk : k < n.q.l.length) (hq : n.q.l.length ≤ 4096) : Calls Try.prog 33 #[.agg #[.slice n.q.A n.q.l.length n.q.c, .slice n.ap.A n.ap.l.length n.ap.c], .int .i64 i] w (Nt1 w n.off (delN n.q.l k) n.ap.l) := by
  subst hi; exact without_any n k w hn hk hq
theorem send_at {n : Nt} {p : Pk} {w : World} (q : List Pk) (ap : List Lk) (r : Int) (hq : n.sendQ p = q) (ha : n.sendA p = ap) (hr : n.sendE p = r) (hn : NOk w n) (hd : Slc w bc 1 p.d.A p.d.l) (hdl : p.d.l.length ≤ maxLen) :
    Calls Try.prog 10 #[.agg #[.slice n.q.A n.q.l.length n.q.c, .slice n.ap.A n.ap.l.length n.ap.c], .agg #[.int .i64 p.f, .int .i64 p.t, .slice p.d.A p.d.l.length p.d.c]] w (NetR w (NP n p) q ap r) := by
  subst hq ha hr; exact send_any n p w hn hd hdl
set_option maxHeartbeats 1600000 in
set_option maxRecDepth 100000 in
theorem lose_any (n : Nt) (i : Int) (w : World) (hn : NOk w n) : Calls Try.prog 21 #[n.v, .int .i64 i] w (NetR w n.off (n.loseQ i) (n.loseA i) (n.atE i)) := by
  obtain ⟨r, hr⟩ : ∃ r, n.atE i = r := ⟨_, rfl⟩
  obtain ⟨p, hp⟩ : ∃ p, n.atP i = p := ⟨_, rfl⟩
  obtain ⟨rq, hrq⟩ : ∃ q, n.loseQ i = q := ⟨_, rfl⟩
  obtain ⟨ra, hra⟩ : ∃ a, n.loseA i = a := ⟨_, rfl⟩
  have HN := Lib.hid (show r ≠ 0 → rq = [] ∧ ra = [] from fun h => by rw [← hrq, ← hra]; unfold Nt.loseQ Nt.loseA; rw [hr, if_neg h, if_neg h]; exact ⟨rfl, rfl⟩)
  have HY := Lib.hid (show r = 0 → rq = delN n.q.l i.toNat ∧ ra = n.ap.l from fun h => by rw [← hrq, ← hra]; unfold Nt.loseQ Nt.loseA; rw [hr, if_pos h, if_pos h]; exact ⟨rfl, rfl⟩)
  have HR := Lib.hid hr
  have HP := Lib.hid hp
  have HR0 := Lib.hid (show r = 0 → chkE n = 0 ∧ 0 ≤ i ∧ i < n.q.l.length from fun h => atE_zero (by rw [hr, h]))
  rw [hr, hrq, hra]
  clear hr hp hrq hra
  have HB0 := Lib.hid (ext_alloc (ext_alloc (ext_refl w) (.cells #[.slice n.q.A n.q.l.length n.q.c, .slice n.ap.A n.ap.l.length n.ap.c] 25)) (.cells #[.slice none 0 0, .slice none 0 0] 25))
  have X1 := Lib.hid ((Blk.new w [.slice n.q.A n.q.l.length n.q.c, .slice n.ap.A n.ap.l.length n.ap.c] 25).alloc (.cells #[.slice none 0 0, .slice none 0 0] 25))
  have X2 := Lib.hid (Blk.newH (w.alloc (.cells #[.slice n.q.A n.q.l.length n.q.c, .slice n.ap.A n.ap.l.length n.ap.c] 25)) [.slice none 0 0, .slice none 0 0] 25 (w.heap.size + 1) (by simp))
  go_enter Try.func21, Try.ntmps21
  go_wp2_with fail
  refine (at_at p r HP.out HR.out (hn.ext HB0.out)).mono ?_
  rintro e w1 ⟨rfl, B1⟩
  have hB1 := Lib.hid (ext_trans HB0.out B1)
  replace X1 := Lib.hid (X1.out.ext B1)
  replace X2 := Lib.hid (X2.out.ext B1)
  clear B1
  by_cases h0 : r = 0
  rotate_left
  · have h0' : (r != 0) = true := by simpa using h0
    have HZ := Lib.hid (HN.out h0)
    have HZ0 := Lib.hid h0
    have z0 := X2.out.c 0 _ rfl
    have z1 := X2.out.c 1 _ rfl
    have zf := X2.out.f
    clear h0
    go_wp2_with fail
    refine bodyPost_ret (v := .tuple #[.agg #[.slice none 0 0, .slice none 0 0], .int .i64 r]) (by simp [results, Try.results21, go_sem, *]) rfl ?_
    exact NetR.zero rfl (fun _ => HZ.out) HZ0.out rfl (ext_set (ext_set hB1.out _ _ (by simp)) _ _ (by simp))
  subst h0
  have n0 := X1.out.c 0 _ rfl
  have n1 := X1.out.c 1 _ rfl
  go_wp2_with fail
  obtain ⟨k0, k1, k2⟩ := HR0.out (by trivial)
  refine (without_at i.toNat (by omega) (hn.ext hB1.out) (by omega) (chkE_len k0)).mono ?_
  rintro e w2 ⟨m, rfl, hq, ha, hm, B2, hoff⟩
  have hB2 := Lib.hid (ext_trans hB1.out B2)
  have HM := Lib.hid (show _ ∧ _ ∧ _ from ⟨hq, ha, hm⟩)
  have HO := Lib.hid hoff
  have s1 := X2.out.lt
  have S1 := Lib.hid s1
  replace X2 := Lib.hid (X2.out.ext B2)
  have z0 := X2.out.c 0 _ rfl
  have z1 := X2.out.c 1 _ rfl
  have zf := X2.out.f
  clear hq ha hm hoff B2 k0 k1 k2 s1 n0 n1
  go_wp2_with fail
  refine bodyPost_ret (v := .tuple #[m.v, .int .i64 0]) (by simp [results, Try.results21, go_sem, *]) rfl ?_
  obtain ⟨rfl, rfl⟩ := HY.out (by trivial)
  have ho : m.off (w.heap.size + 1) := HO.out _ S1.out (hn.off (by omega))
  have hs := hB1.out.size
  exact ⟨m, rfl, HM.out.1, HM.out.2.1, (HM.out.2.2.set (p := ⟨w.heap.size + 1, 0, none⟩) _ ho).set (p := ⟨w.heap.size + 1, 1, none⟩) _ ho, ext_set (ext_set hB2.out _ _ (by simp)) _ _ (by simp), fun b hb hf => HO.out b (by omega) hf⟩
set_option maxHeartbeats 1600000 in
set_option maxRecDepth 100000 in
theorem rep_any (n : Nt) (i : Int) (w : World) (hn : NOk w n) : Calls Try.prog 22 #[n.v, .int .i64 i] w (NetR w n.off (n.repQ i) (n.repA i) (n.repE i)) := by
  obtain ⟨r, hr⟩ : ∃ r, n.atE i = r := ⟨_, rfl⟩
  obtain ⟨p, hp⟩ : ∃ p, n.atP i = p := ⟨_, rfl⟩
  obtain ⟨rq, hrq⟩ : ∃ q, n.repQ i = q := ⟨_, rfl⟩
  obtain ⟨ra, hra⟩ : ∃ a, n.repA i = a := ⟨_, rfl⟩
  obtain ⟨re, hre⟩ : ∃ a, n.repE i = a := ⟨_, rfl⟩
  have HN := Lib.hid (show r ≠ 0 → re = r ∧ rq = [] ∧ ra = [] from fun h => by rw [← hrq, ← hra, ← hre]; unfold Nt.repQ Nt.repA Nt.repE; rw [hr, if_neg h, if_neg h, if_neg h]; exact ⟨rfl, rfl, rfl⟩)
  have HY := Lib.hid (show r = 0 → n.sendE p = re ∧ n.sendQ p = rq ∧ n.sendA p = ra from fun h => by rw [← hrq, ← hra, ← hre]; unfold Nt.repQ Nt.repA Nt.repE; rw [hr, hp, if_pos h, if_pos h, if_pos h]; exact ⟨rfl, rfl, rfl⟩)
  have HR := Lib.hid hr
  have HP := Lib.hid hp
  have hpd := hn.atP i
  rw [hp] at hpd
  have HD := Lib.hid hpd
  have HOF := Lib.hid (show ∀ b, n.off b → p.off b from fun b h => by rw [← hp]; exact atP_off h)
  rw [hre, hrq, hra]
  clear hr hp hrq hra hre hpd
  have HB0 := Lib.hid (ext_alloc (ext_alloc (ext_refl w) (.cells #[.slice n.q.A n.q.l.length n.q.c, .slice n.ap.A n.ap.l.length n.ap.c] 25)) (.cells #[.slice none 0 0, .slice none 0 0] 25))
  have X1 := Lib.hid ((Blk.new w [.slice n.q.A n.q.l.length n.q.c, .slice n.ap.A n.ap.l.length n.ap.c] 25).alloc (.cells #[.slice none 0 0, .slice none 0 0] 25))
  have X2 := Lib.hid (Blk.newH (w.alloc (.cells #[.slice n.q.A n.q.l.length n.q.c, .slice n.ap.A n.ap.l.length n.ap.c] 25)) [.slice none 0 0, .slice none 0 0] 25 (w.heap.size + 1) (by simp))
  go_enter Try.func22, Try.ntmps22
  go_wp2_with fail
  refine (at_at p r HP.out HR.out (hn.ext HB0.out)).mono ?_
  rintro e w1 ⟨rfl, B1⟩
  have hB1 := Lib.hid (ext_trans HB0.out B1)
  replace X1 := Lib.hid (X1.out.ext B1)
  replace X2 := Lib.hid (X2.out.ext B1)
  clear B1
  have hB2 := Lib.hid (ext_alloc hB1.out (.cells #[.int .i64 p.f, .int .i64 p.t, .slice p.d.A p.d.l.length p.d.c] 28))
  replace X1 := Lib.hid (X1.out.alloc (.cells #[.int .i64 p.f, .int .i64 p.t, .slice p.d.A p.d.l.length p.d.c] 28))
  replace X2 := Lib.hid (X2.out.alloc (.cells #[.int .i64 p.f, .int .i64 p.t, .slice p.d.A p.d.l.length p.d.c] 28))
  by_cases h0 : r = 0
  rotate_left
  · have h0' : (r != 0) = true := by simpa using h0
    have HZ := Lib.hid (HN.out h0)
    have HZ0 := Lib.hid h0
    have z0 := X2.out.c 0 _ rfl
    have z1 := X2.out.c 1 _ rfl
    have zf := X2.out.f
    clear h0
    go_wp2_with fail
    refine bodyPost_ret (v := .tuple #[.agg #[.slice none 0 0, .slice none 0 0], .int .i64 r]) (by simp [results, Try.results22, go_sem, *]) rfl ?_
    rw [HZ.out.1]
    exact NetR.zero rfl (fun _ => HZ.out.2) HZ0.out rfl (ext_set (ext_set hB2.out _ _ (by simp)) _ _ (by simp))
  subst h0
  have n0 := X1.out.c 0 _ rfl
  have n1 := X1.out.c 1 _ rfl
  go_wp2_with fail
  obtain ⟨k0, k1, k2⟩ := HY.out (by trivial)
  refine (send_at (p := p) rq ra re k1 k2 k0 (hn.ext hB2.out) (HD.out.1.ext hB2.out) HD.out.2).mono ?_
  rintro e w2 ⟨m, rfl, hq, ha, hm, B2, hoff⟩
  have hB3 := Lib.hid (ext_trans hB2.out B2)
  have HM := Lib.hid (show _ ∧ _ ∧ _ from ⟨hq, ha, hm⟩)
  have HO := Lib.hid hoff
  have s1 := X2.out.lt
  have S1 := Lib.hid s1
  replace X2 := Lib.hid (X2.out.ext B2)
  have z0 := X2.out.c 0 _ rfl
  have z1 := X2.out.c 1 _ rfl
  have zf := X2.out.f
  clear hq ha hm hoff B2 k0 k1 k2 s1 n0 n1
  go_wp2_with fail
  refine bodyPost_ret (v := .tuple #[m.v, .int .i64 re]) (by simp [results, Try.results22, go_sem, *]) rfl ?_
  have hn1 : n.off (w.heap.size + 1) := hn.off (by omega)
  have ho : m.off (w.heap.size + 1) := HO.out _ S1.out ⟨hn1, HOF.out _ hn1⟩
  have hs := hB2.out.size
  exact ⟨m, rfl, HM.out.1, HM.out.2.1, (HM.out.2.2.set (p := ⟨w.heap.size + 1, 0, none⟩) _ ho).set (p := ⟨w.heap.size + 1, 1, none⟩) _ ho, ext_set (ext_set hB3.out _ _ (by simp)) _ _ (by simp), fun b hb hf => HO.out b (by omega) ⟨hf, HOF.out b hf⟩⟩
end Go.Proofs.Ythchcimialclkaa
