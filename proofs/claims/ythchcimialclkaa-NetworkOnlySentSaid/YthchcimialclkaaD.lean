/- Send, the program's. -/
import Derived.Test.YthchcimialclkaaC
import Derived.Test.YthchcimialclkaaApp2
set_option linter.unusedSimpArgs false
set_option linter.unusedVariables false
namespace Go.Proofs.Ythchcimialclkaa
open Go.RowKit
theorem check_at {n : Nt} {w : World} (r : Int) (hr : chkE n = r) (hn : NOk w n) : Calls Try.prog 12 #[.agg #[.slice n.q.A n.q.l.length n.q.c, .slice n.ap.A n.ap.l.length n.ap.c]] w (RetE w r) := by
  subst hr; exact check_any0 n.q n.ap.A n.ap.c n.ap.l n rfl w hn
theorem rcheck_at {n : Nt} {w : World} (r : Int) (hr : chkE n = r) (hn : NOk w n) : Calls Try.prog 13 #[.agg #[.slice n.q.A n.q.l.length n.q.c, .slice n.ap.A n.ap.l.length n.ap.c]] w (RetE w r) := by
  subst hr; exact rcheck_any n w hn
/-- Links whose rows do not lie in block b. -/
def Nt.off (n : Nt) (b : Nat) : Prop := rowOff n.q.A n.q.l b ∧ rowOff n.ap.A n.ap.l b ∧ ∀ p ∈ n.q.l, rowOff p.d.A p.d.l b
theorem NOk.off {w : World} {n : Nt} (h : NOk w n) {b : Nat} (hb : w.heap.size ≤ b) : n.off b := ⟨h.q.rowOff hb, h.ap.rowOff hb, fun p hp => (h.d p hp).rowOff hb⟩
theorem NOk.set {w : World} {n : Nt} (h : NOk w n) {p : Addr} (v : Value) (ho : n.off p.block) : NOk (w.setCell p v) n :=
  ⟨h.q.far ho.1, h.ap.far ho.2.1, fun x hx => (h.d x hx).far (ho.2.2 x hx), h.ql, h.al, h.dl, h.qc, h.qm⟩
/-- Links and an error; their rows lie in new blocks, or where F does not reach. -/
def NetR (w : World) (F : Nat → Prop) (q : List Pk) (ap : List Lk) (err : Int) (e : Ending) (w' : World) : Prop :=
  ∃ m : Nt, e = .returned (.tuple #[m.v, .int .i64 err]) ∧ m.q.l = q ∧ m.ap.l = ap ∧ NOk w' m ∧ Below w.heap.size w w' ∧ ∀ b, b < w.heap.size → F b → m.off b
def Pk.off (p : Pk) (b : Nat) : Prop := rowOff p.d.A p.d.l b
def NP (n : Nt) (p : Pk) (b : Nat) : Prop := n.off b ∧ p.off b
def zeroN : Nt := ⟨⟨none, 0, []⟩, ⟨none, 0, []⟩⟩
theorem NOk.zero (w : World) : NOk w zeroN := ⟨Slc.nil, Slc.nil, by simp [zeroN], by simp [zeroN], by simp [zeroN], by simp [zeroN], by simp [zeroN], by simp [zeroN]⟩
theorem zeroN_off (b : Nat) : zeroN.off b := ⟨fun h => absurd rfl h, fun h => absurd rfl h, fun p hp => by simp [zeroN] at hp⟩
theorem NetR.zero {w w' : World} {F : Nat → Prop} {q : List Pk} {ap : List Lk} {err r : Int} {e : Ending} (hr : r = err) (hq : r ≠ 0 → q = [] ∧ ap = []) (h0 : err ≠ 0) (he : e = .returned (.tuple #[.agg #[.slice none 0 0, .slice none 0 0], .int .i64 err])) (hb : Below w.heap.size w w') : NetR w F q ap r e w' := by
  subst hr
  obtain ⟨rfl, rfl⟩ := hq h0
  exact ⟨zeroN, he, rfl, rfl, NOk.zero w', hb, fun b _ _ => zeroN_off b⟩
theorem pk_info : (Try.prog.info? 28).map (fun i => (i.zero, i.size, i.bytes)) = some (some (.agg #[.int .i64 0, .int .i64 0, .slice none 0 0]), 3, 40) := by kernel_rfl
theorem pkI : EInfo Try.prog 22 28 Pk.cells 3 40 := by
  obtain ⟨i, h1, h2, h3, h4⟩ := info_parts pk_info
  exact ⟨Try.underlying22, ⟨i, _, h1, h2, h3, h4, rfl⟩, by decide, fun _ => rfl, fun x u hu => by simp [Pk.cells] at hu; rcases hu with rfl | rfl | rfl <;> rfl⟩
def Nt.sendE (n : Nt) (p : Pk) : Int := if chkE n ≠ 0 ∨ okP p = false then 460 else if n.q.l.length = 4096 then 2 else 0
def Nt.sendQ (n : Nt) (p : Pk) : List Pk := if n.sendE p = 0 then n.q.l ++ [p] else []
def Nt.sendA (n : Nt) (p : Pk) : List Lk := if n.sendE p = 0 then n.ap.l else []
theorem chkE_or (n : Nt) : chkE n = 0 ∨ chkE n = 460 := by unfold chkE; split <;> simp
theorem chkE_len {n : Nt} (h : chkE n = 0) : n.q.l.length ≤ 4096 := by
  unfold chkE at h
  by_cases hc : chkN n.q.l n.ap.l = true
  · unfold chkN at hc; simp only [Bool.and_eq_true, decide_eq_true_eq] at hc; exact hc.1.1
  · rw [if_neg hc] at h; cases h
theorem NOk.app {w w' : World} {n : Nt} {p : Pk} (hn : NOk w n) (hd : Slc w bc 1 p.d.A p.d.l) (hdl : p.d.l.length ≤ maxLen) (hb : Below w.heap.size w w') {A : Option Addr} {c : Nat} (hs : Slc w' Pk.cells 3 A (n.q.l ++ [p])) (hc : (n.q.l ++ [p]).length ≤ c) (hm : c ≤ maxLen) :
    NOk w' ⟨⟨A, c, n.q.l ++ [p]⟩, n.ap⟩ := by
  refine ⟨hs, hn.ap.ext hb, ?_, Nat.le_trans hc hm, hn.al, ?_, hc, hm⟩
  · intro x hx
    rcases List.mem_append.1 hx with h | h
    · exact (hn.d x h).ext hb
    · obtain rfl := List.mem_singleton.1 h; exact hd.ext hb
  · intro x hx
    rcases List.mem_append.1 hx with h | h
    · exact hn.dl x h
    · obtain rfl := List.mem_singleton.1 h; exact hdl
set_option maxHeartbeats 3200000 in
set_option maxRecDepth 100000 in
theorem send_any (n : Nt) (p : Pk) (w : World) (hn : NOk w n) (hd : Slc w bc 1 p.d.A p.d.l) (hdl : p.d.l.length ≤ maxLen) :
    Calls Try.prog 10 #[n.v, p.v] w (NetR w (NP n p) (n.sendQ p) (n.sendA p) (n.sendE p)) := by
  obtain ⟨r, hr⟩ : ∃ r, n.sendE p = r := ⟨_, rfl⟩
  have hql := hn.ql
  have hqc := hn.qc
  unfold maxLen at hql
  have HR := Lib.hid hr
  obtain ⟨rq, hrq⟩ : ∃ q, n.sendQ p = q := ⟨_, rfl⟩
  obtain ⟨ra, hra⟩ : ∃ a, n.sendA p = a := ⟨_, rfl⟩
  have HN := Lib.hid (show r ≠ 0 → rq = [] ∧ ra = [] from fun h => by rw [← hrq, ← hra]; unfold Nt.sendQ Nt.sendA; rw [hr, if_neg h, if_neg h]; exact ⟨rfl, rfl⟩)
  have HY := Lib.hid (show r = 0 → rq = n.q.l ++ [p] ∧ ra = n.ap.l from fun h => by rw [← hrq, ← hra]; unfold Nt.sendQ Nt.sendA; rw [hr, if_pos h, if_pos h]; exact ⟨rfl, rfl⟩)
  rw [hr, hrq, hra]
  clear hr hrq hra
  have hB0 := ext_alloc (ext_alloc (ext_alloc (ext_refl w) (.cells #[.slice n.q.A n.q.l.length n.q.c, .slice n.ap.A n.ap.l.length n.ap.c] 25)) (.cells #[.int .i64 p.f, .int .i64 p.t, .slice p.d.A p.d.l.length p.d.c] 28)) (.cells #[.slice none 0 0, .slice none 0 0] 25)
  have b0 := ((Blk.new w [.slice n.q.A n.q.l.length n.q.c, .slice n.ap.A n.ap.l.length n.ap.c] 25).alloc (.cells #[.int .i64 p.f, .int .i64 p.t, .slice p.d.A p.d.l.length p.d.c] 28)).alloc (.cells #[.slice none 0 0, .slice none 0 0] 25)
  have b1 := (Blk.newH (w.alloc (.cells #[.slice n.q.A n.q.l.length n.q.c, .slice n.ap.A n.ap.l.length n.ap.c] 25)) [.int .i64 p.f, .int .i64 p.t, .slice p.d.A p.d.l.length p.d.c] 28 (w.heap.size + 1) (by simp)).alloc (.cells #[.slice none 0 0, .slice none 0 0] 25)
  have b2 := Blk.newH ((w.alloc (.cells #[.slice n.q.A n.q.l.length n.q.c, .slice n.ap.A n.ap.l.length n.ap.c] 25)).alloc (.cells #[.int .i64 p.f, .int .i64 p.t, .slice p.d.A p.d.l.length p.d.c] 28)) [.slice none 0 0, .slice none 0 0] 25 (w.heap.size + 2) (by simp)
  have HB0 := Lib.hid hB0
  have HB := Lib.hid (show _ ∧ _ ∧ _ from ⟨b0, b1, b2⟩)
  clear hB0 b0 b1 b2
  obtain ⟨c, hc⟩ : ∃ c, chkE n = c := ⟨_, rfl⟩
  have HC := Lib.hid hc
  obtain ⟨o, ho⟩ : ∃ o, okP p = o := ⟨_, rfl⟩
  have HO := Lib.hid ho
  have hc01 := chkE_or n
  rw [hc] at hc01
  clear hc ho
  go_enter Try.func10, Try.ntmps10
  go_wp2_with fail
  refine (check_at c HC.out (hn.ext HB0.out)).mono ?_
  rintro e w1 ⟨rfl, B1⟩
  have hB1 := Lib.hid (ext_trans HB0.out B1)
  have HB1 := Lib.hid (show _ ∧ _ ∧ _ from ⟨HB.out.1.ext B1, HB.out.2.1.ext B1, HB.out.2.2.ext B1⟩)
  clear HB B1
  have z0 := HB1.out.2.2.c 0 _ rfl
  have z1 := HB1.out.2.2.c 1 _ rfl
  have zf := HB1.out.2.2.f
  rcases hc01 with rfl | rfl
  rotate_left
  · have HZ := Lib.hid (show r = 460 by rw [← HR.out]; simp [Nt.sendE, HC.out])
    go_wp2_with fail
    refine bodyPost_ret (v := .tuple #[.agg #[.slice none 0 0, .slice none 0 0], .int .i64 460]) (by simp [results, Try.results10, go_sem, *]) rfl ?_
    exact NetR.zero HZ.out HN.out (by decide) rfl (ext_set (ext_set hB1.out _ _ (by simp; omega)) _ _ (by simp; omega))
  clear z0 z1 zf
  have y0 := HB1.out.2.1.c 0 _ rfl
  have y1 := HB1.out.2.1.c 1 _ rfl
  have y2 := HB1.out.2.1.c 2 _ rfl
  go_wp2_with fail
  refine (packet_at (p := p) o HO.out hdl).mono ?_
  rintro e w2 ⟨rfl, B2⟩
  have hB2 := Lib.hid (ext_trans hB1.out B2)
  have HB2 := Lib.hid (show _ ∧ _ ∧ _ from ⟨HB1.out.1.ext B2, HB1.out.2.1.ext B2, HB1.out.2.2.ext B2⟩)
  clear hB1 HB1 B2 y0 y1 y2
  have z0 := HB2.out.2.2.c 0 _ rfl
  have z1 := HB2.out.2.2.c 1 _ rfl
  have zf := HB2.out.2.2.f
  cases o
  · have HZ := Lib.hid (show r = 460 by rw [← HR.out]; simp [Nt.sendE, HO.out])
    go_wp2_with fail
    refine bodyPost_ret (v := .tuple #[.agg #[.slice none 0 0, .slice none 0 0], .int .i64 460]) (by simp [results, Try.results10, go_sem, *]) rfl ?_
    exact NetR.zero HZ.out HN.out (by decide) rfl (ext_set (ext_set hB2.out _ _ (by simp; omega)) _ _ (by simp; omega))
  have n0 := HB2.out.1.c 0 _ rfl
  have nl := chkE_len HC.out
  by_cases hl : n.q.l.length = 4096
  · have hl1 : ((n.q.l.length : Int) == 4096) = true := by simp [hl]
    have HZ := Lib.hid (show r = 2 by rw [← HR.out]; simp [Nt.sendE, HO.out, HC.out, hl])
    clear hl
    go_wp2_with fail
    refine bodyPost_ret (v := .tuple #[.agg #[.slice none 0 0, .slice none 0 0], .int .i64 2]) (by simp [results, Try.results10, go_sem, *]) rfl ?_
    exact NetR.zero HZ.out HN.out (by decide) rfl (ext_set (ext_set hB2.out _ _ (by simp; omega)) _ _ (by simp; omega))
  have hl1 : ((n.q.l.length : Int) == 4096) = false := by rw [beq_eq_false_iff_ne]; omega
  have HZ := Lib.hid (show r = 0 by rw [← HR.out]; simp [Nt.sendE, HO.out, HC.out, hl])
  have HL := Lib.hid hl
  clear hl z0 z1 zf
  have y0 := HB2.out.2.1.c 0 _ rfl
  have y1 := HB2.out.2.1.c 1 _ rfl
  have y2 := HB2.out.2.1.c 2 _ rfl
  have hlc : (n.q.l.length : Int) ≤ n.q.c := by omega
  go_wp2_with fail
  refine rg_begin (S := (fun w' => Below w2.heap.size w2 w' ∧ w'.cell? ⟨w.heap.size, 0, none⟩ = some (.slice n.q.A n.q.l.length n.q.c) ∧ w'.cell? ⟨w.heap.size + 1, 0, none⟩ = some (.int .i64 p.f) ∧ w'.cell? ⟨w.heap.size + 1, 1, none⟩ = some (.int .i64 p.t) ∧ w'.cell? ⟨w.heap.size + 1, 2, none⟩ = some (.slice p.d.A p.d.l.length p.d.c))) 13 (by kernel_rfl) (by intro d; cases d <;> intro _ _ _ _ h <;> exact h) ?_ (fun Q7 hQ7 hN7 hHeld => ?_)
  · exact ⟨ext_drew (ext_refl w2), (HB2.out.1.ext (ext_drew (ext_refl w2))).c 0 _ rfl, (HB2.out.2.1.ext (ext_drew (ext_refl w2))).c 0 _ rfl, (HB2.out.2.1.ext (ext_drew (ext_refl w2))).c 1 _ rfl, (HB2.out.2.1.ext (ext_drew (ext_refl w2))).c 2 _ rfl⟩
  refine rg_take (i := 0) (some 20) (v := ?_) rfl rfl (by kernel_rfl) (by rfl) hQ7 hHeld ?_ ?_
  rotate_left
  · intro w7 hSw; (try dsimp only at hSw); go_simp; all_goals with_reducible rfl
  try simp only [Act.put, List.setIfInBounds_toArray, List.set_cons_zero, List.set_cons_succ]
  refine rg_take (i := 1) (some 21) (v := ?_) rfl rfl (by kernel_rfl) (by rfl) hQ7 hHeld ?_ ?_
  rotate_left
  · intro w7 hSw; (try dsimp only at hSw); go_simp; all_goals with_reducible rfl
  try simp only [Act.put, List.setIfInBounds_toArray, List.set_cons_zero, List.set_cons_succ]
  refine rg_take (i := 2) (some 22) (v := ?_) rfl rfl (by kernel_rfl) (by rfl) hQ7 hHeld ?_ ?_
  rotate_left
  · intro w7 hSw; (try dsimp only at hSw); go_simp; all_goals with_reducible rfl
  try simp only [Act.put, List.setIfInBounds_toArray, List.set_cons_zero, List.set_cons_succ]
  refine rg_take (i := 3) (some 23) (v := ?_) rfl rfl (by kernel_rfl) (by rfl) hQ7 hHeld ?_ ?_
  rotate_left
  · intro w7 hSw; (try dsimp only at hSw); go_simp; all_goals with_reducible rfl
  try simp only [Act.put, List.setIfInBounds_toArray, List.set_cons_zero, List.set_cons_succ]
  refine rg_take (i := 4) (some 24) (v := ?_) rfl rfl (by kernel_rfl) (by rfl) hQ7 hHeld ?_ ?_
  rotate_left
  · intro w7 hSw; (try dsimp only at hSw); go_simp; all_goals with_reducible rfl
  try simp only [Act.put, List.setIfInBounds_toArray, List.set_cons_zero, List.set_cons_succ]
  refine rg_take (i := 5) (some 25) (v := ?_) rfl rfl (by kernel_rfl) (by rfl) hQ7 hHeld ?_ ?_
  rotate_left
  · intro w7 hSw; (try dsimp only at hSw); go_simp; all_goals with_reducible rfl
  try simp only [Act.put, List.setIfInBounds_toArray, List.set_cons_zero, List.set_cons_succ]
  refine rg_take (i := 6) (some 26) (v := ?_) rfl rfl (by kernel_rfl) (by rfl) hQ7 hHeld ?_ ?_
  rotate_left
  · intro w7 hSw; (try dsimp only at hSw); go_simp; all_goals with_reducible rfl
  try simp only [Act.put, List.setIfInBounds_toArray, List.set_cons_zero, List.set_cons_succ]
  refine rg_take (i := 7) (some 27) (v := ?_) rfl rfl (by kernel_rfl) (by rfl) hQ7 hHeld ?_ ?_
  rotate_left
  · intro w7 hSw; (try dsimp only at hSw); go_simp; all_goals with_reducible rfl
  try simp only [Act.put, List.setIfInBounds_toArray, List.set_cons_zero, List.set_cons_succ]
  refine rg_take (i := 8) (some 28) (v := ?_) rfl rfl (by kernel_rfl) (by rfl) hQ7 hHeld ?_ ?_
  rotate_left
  · intro w7 hSw; (try dsimp only at hSw); go_simp; all_goals with_reducible rfl
  try simp only [Act.put, List.setIfInBounds_toArray, List.set_cons_zero, List.set_cons_succ]
  refine rg_take (i := 9) (some 29) (v := ?_) rfl rfl (by kernel_rfl) (by rfl) hQ7 hHeld ?_ ?_
  rotate_left
  · intro w7 hSw; (try dsimp only at hSw); go_simp; all_goals with_reducible rfl
  try simp only [Act.put, List.setIfInBounds_toArray, List.set_cons_zero, List.set_cons_succ]
  refine rg_one (i := 10) (by kernel_rfl) (rg_step rfl (by rfl) (fun K hK => ?_))
  go_simp
  refine hK.out _ _ ?_ (fun hHeld => ?_)
  · exact ⟨ext_alloc (ext_drew (ext_refl w2)) _, (HB2.out.1.ext (ext_alloc (ext_drew (ext_refl w2)) _)).c 0 _ rfl, (HB2.out.2.1.ext (ext_alloc (ext_drew (ext_refl w2)) _)).c 0 _ rfl, (HB2.out.2.1.ext (ext_alloc (ext_drew (ext_refl w2)) _)).c 1 _ rfl, (HB2.out.2.1.ext (ext_alloc (ext_drew (ext_refl w2)) _)).c 2 _ rfl⟩
  clear hK K
  try simp only [Act.put, List.setIfInBounds_toArray, List.set_cons_zero, List.set_cons_succ]
  refine rg_one (i := 11) (by kernel_rfl) (rg_step rfl (by rfl) (fun K hK => ?_))
  refine rg_append (some 31) _ _ 22 22 rfl rfl rfl _ _ rfl rfl (Slc.append_any pkI 22 (l := n.q.l) rfl rfl (hn.q.ext (ext_trans hB2.out (ext_alloc (ext_drew (ext_refl w2)) _))) (ys := [p]) rfl 1 (slc_litH _ [p] _ 28 (enc := Pk.cells) (sz := 3) (fun _ => rfl) rfl _ (by first | rfl | simp)) (by simp; omega) (by simp [maxLen]; omega)) ?_
  rintro v5 w5 ⟨A5, c5, rfl, HS5, B5, hc5, hm5, hn5, hf5⟩
  refine hK.out _ _ ?_ (fun hHeld => ?_)
  · exact ⟨ext_trans (ext_alloc (ext_drew (ext_refl w2)) _) B5, (HB2.out.1.ext (ext_trans (ext_alloc (ext_drew (ext_refl w2)) _) B5)).c 0 _ rfl, (HB2.out.2.1.ext (ext_trans (ext_alloc (ext_drew (ext_refl w2)) _) B5)).c 0 _ rfl, (HB2.out.2.1.ext (ext_trans (ext_alloc (ext_drew (ext_refl w2)) _) B5)).c 1 _ rfl, (HB2.out.2.1.ext (ext_trans (ext_alloc (ext_drew (ext_refl w2)) _) B5)).c 2 _ rfl⟩
  clear hK K
  try simp only [Act.put, List.setIfInBounds_toArray, List.set_cons_zero, List.set_cons_succ]
  refine rg_take (i := 12) (some 32) (v := ?_) rfl rfl (by kernel_rfl) (by rfl) hQ7 hHeld ?_ ?_
  rotate_left
  · intro w7 hSw; (try dsimp only at hSw); go_simp; all_goals with_reducible rfl
  try simp only [Act.put, List.setIfInBounds_toArray, List.set_cons_zero, List.set_cons_succ]
  have hB5 := Lib.hid (ext_trans (ext_alloc (ext_drew (ext_refl w2)) _) B5)
  have n1 := (HB2.out.1.ext hB5.out).c 1 _ rfl
  have zb := HB2.out.2.2.ext hB5.out
  have z0 := zb.c 0 _ rfl
  have z1 := zb.c 1 _ rfl
  have zf := zb.f
  have n0 := hHeld.2.1
  have nf := (HB2.out.1.ext hB5.out).f
  clear zb B5
  refine rg_one (i := 13) (by kernel_rfl) (rg_late rfl (by rfl) (by kernel_rfl) (fun K hK => ?_))
  go_simp
  refine hK.out _ _ ?_
  clear hK K
  try simp only [Act.put, List.setIfInBounds_toArray, List.set_cons_zero, List.set_cons_succ]
  refine rg_end (by kernel_rfl) (hN7 _ _ ?_) _
  clear hQ7 hN7 Q7
  go_wp2_with fail
  refine bodyPost_ret (v := .tuple #[Nt.v ⟨⟨A5, c5, n.q.l ++ [p]⟩, n.ap⟩, .int .i64 0]) (by simp [results, Try.results10, go_sem, *]) rfl ?_
  obtain ⟨rfl, rfl⟩ := HY.out HZ.out
  have hf6 := hf5.resolve_left (fun h => by have := h.2; simp at this)
  have k2 := hB2.out.size
  have k0 := HB2.out.1.lt
  have k1 := HB2.out.2.2.lt
  have hb6 := ext_set (ext_set (ext_set (ext_trans hB2.out hB5.out) ⟨w.heap.size, 0, none⟩ (.slice A5 (n.q.l.length + 1) c5) (Nat.le_refl _)) ⟨w.heap.size + 1 + 1, 0, none⟩ (.slice A5 (n.q.l.length + 1) c5) (by simp; omega)) ⟨w.heap.size + 1 + 1, 1, none⟩ (.slice n.ap.A n.ap.l.length n.ap.c) (by simp; omega)
  refine ⟨⟨⟨A5, c5, n.q.l ++ [p]⟩, n.ap⟩, by rw [HZ.out], rfl, rfl, NOk.app hn hd hdl hb6 (((HS5.far ?_).far ?_).far ?_) hc5 hm5, hb6, ?_⟩
  rotate_right
  · intro b hb hf
    refine ⟨fun _ c o s e => ?_, hf.1.2.1, fun x hx => ?_⟩
    · have := hf6 c o s e; simp at this; omega
    · rcases List.mem_append.1 hx with h | h
      · exact hf.1.2.2 x h
      · obtain rfl := List.mem_singleton.1 h; exact hf.2
  all_goals (intro _ b o s e; have := hf6 b o s e; simp at this ⊢; omega)
end Go.Proofs.Ythchcimialclkaa
