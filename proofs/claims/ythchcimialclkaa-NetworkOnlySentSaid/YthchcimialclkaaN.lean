/- happens. -/
import Derived.Test.YthchcimialclkaaQ5
import Derived.Test.YthchcimialclkaaRd2
set_option linter.unusedSimpArgs false
set_option linter.unusedVariables false
namespace Go.Proofs.Ythchcimialclkaa
open Go.RowKit
/-- What a move brings about. -/
structure Hap (n : Nt) (t : Int) (y : Nt) (p : Pk) (err : Int) : Prop where
  no : err ≠ 0 → y.q.l = [] ∧ y.ap.l = []
  chk : err = 0 → chkE y = 0
  send : err = 0 → t = 0 → ∃ P, y.q.l = n.q.l ++ [P]
  mem : err = 0 → t ≠ 0 → ∀ x ∈ y.q.l, x ∈ n.q.l
  del : err = 0 → t = 1 → p = zeroP ∧ n.ap.l ≠ [] ∨ p ∈ n.q.l
  ap : err = 0 → t ≠ 4 → y.ap.l ≠ [] → n.ap.l ≠ []
def HapR (w : World) (n : Nt) (t : Int) (e : Ending) (w' : World) : Prop :=
  ∃ (y : Nt) (p : Pk) (err : Int), e = .returned (.tuple #[y.v, p.v, .int .i64 err]) ∧ Hap n t y p err ∧ NOk w' y ∧ PkOk w' p ∧ Below w.heap.size w w' ∧ ∀ b, b < w.heap.size → n.off b → y.off b ∧ p.off b
theorem chk_del {n y : Nt} {k : Nat} (hc : chkE n = 0) (hq : y.q.l = delN n.q.l k) (ha : y.ap.l = n.ap.l) : chkE y = 0 := by
  have h := chk_iff.1 hc
  rw [chk_iff, hq, ha]
  exact ⟨by have : (delN n.q.l k).length ≤ n.q.l.length := by (simp [delN]; omega)
            omega, fun p hp => h.2.1 p (mem_del hp), h.2.2⟩
theorem chk_app {n y : Nt} {p : Pk} (hc : chkE n = 0) (hp : okP p = true) (hl : n.q.l.length < 4096) (hq : y.q.l = n.q.l ++ [p]) (ha : y.ap.l = n.ap.l) : chkE y = 0 := by
  have h := chk_iff.1 hc
  rw [chk_iff, hq, ha]
  exact ⟨by simp; omega, fun x hx => (List.mem_append.1 hx).elim (h.2.1 x) (fun e => by rw [List.mem_singleton.1 e]; exact hp), h.2.2⟩
theorem sendE_zero {n : Nt} {p : Pk} (h : n.sendE p = 0) : chkE n = 0 ∧ okP p = true ∧ n.q.l.length < 4096 := by
  unfold Nt.sendE at h
  by_cases h1 : chkE n ≠ 0 ∨ okP p = false
  · rw [if_pos h1] at h; cases h
  · rw [if_neg h1] at h
    by_cases h2 : n.q.l.length = 4096
    · rw [if_pos h2] at h; cases h
    · have h3 : chkE n = 0 := by
        by_cases h3 : chkE n = 0
        · exact h3
        · exact absurd (.inl h3) h1
      have := chkE_len h3
      refine ⟨h3, ?_, by omega⟩
      cases h4 : okP p
      · exact absurd (.inr h4) h1
      · rfl
theorem hap_send {n y : Nt} {p : Pk} {q : Pk} (hq : y.q.l = n.sendQ p) (ha : y.ap.l = n.sendA p) : Hap n 0 y q (n.sendE p) := by
  unfold Nt.sendQ at hq
  unfold Nt.sendA at ha
  refine ⟨fun h => ?_, fun h => ?_, fun h _ => ⟨p, by rw [hq, if_pos h]⟩, fun _ h => absurd rfl h, fun _ h => absurd h (by decide), fun h _ => by rw [ha, if_pos h]; exact id⟩
  · rw [if_neg h] at hq ha; exact ⟨hq, ha⟩
  · rw [if_pos h] at hq ha
    obtain ⟨h1, h2, h3⟩ := sendE_zero h
    exact chk_app h1 h2 h3 hq ha
theorem hap_lose {n y : Nt} {i : Int} {p : Pk} (hq : y.q.l = n.loseQ i) (ha : y.ap.l = n.loseA i) : Hap n 2 y p (n.atE i) := by
  unfold Nt.loseQ at hq
  unfold Nt.loseA at ha
  refine ⟨fun h => ?_, fun h => ?_, fun _ h => absurd h (by decide), fun h _ x hx => ?_, fun _ h => absurd h (by decide), fun h _ => by rw [ha, if_pos h]; exact id⟩
  · rw [if_neg h] at hq ha; exact ⟨hq, ha⟩
  · rw [if_pos h] at hq ha
    exact chk_del (atE_zero h).1 hq ha
  · rw [hq, if_pos h] at hx; exact mem_del hx
theorem hap_del {n y : Nt} {i : Int} (hq : y.q.l = n.loseQ i) (ha : y.ap.l = n.loseA i) : Hap n 1 y (n.delP i) (n.atE i) := by
  have h2 := hap_lose (p := n.delP i) hq ha
  refine ⟨h2.no, h2.chk, fun _ h => absurd h (by decide), fun h _ => h2.mem h (by decide), fun h _ => ?_, fun h _ => h2.ap h (by decide)⟩
  unfold Nt.delP
  by_cases hc : hasL n.ap.l (btw (n.atP i).f (n.atP i).t) = true
  · rw [if_pos ⟨h, hc⟩]
    refine .inl ⟨rfl, fun e => ?_⟩
    rw [e] at hc; cases hc
  · rw [if_neg (fun k => hc k.2)]
    right
    obtain ⟨h1, h3, h4⟩ := atE_zero h
    obtain ⟨k, rfl⟩ : ∃ k : Nat, i = k := ⟨i.toNat, by omega⟩
    rw [atP_ok h1 (by omega)]
    exact List.getElem_mem _
theorem hap_rep {n y : Nt} {i : Int} {p : Pk} (hq : y.q.l = n.repQ i) (ha : y.ap.l = n.repA i) : Hap n 3 y p (n.repE i) := by
  unfold Nt.repQ at hq
  unfold Nt.repA at ha
  unfold Nt.repE
  by_cases h : n.atE i = 0
  · rw [if_pos h] at hq ha ⊢
    have hs := hap_send (q := p) hq ha
    refine ⟨hs.no, hs.chk, fun _ h => absurd h (by decide), fun h0 _ x hx => ?_, fun _ h => absurd h (by decide), fun h0 _ => hs.ap h0 (by decide)⟩
    rw [hq] at hx
    unfold Nt.sendQ at hx
    rw [if_pos h0] at hx
    rcases List.mem_append.1 hx with hx | hx
    · exact hx
    · rw [List.mem_singleton.1 hx]
      obtain ⟨h1, h3, h4⟩ := atE_zero h
      obtain ⟨k, rfl⟩ : ∃ k : Nat, i = k := ⟨i.toNat, by omega⟩
      rw [atP_ok h1 (by omega)]
      exact List.getElem_mem _
  · rw [if_neg h] at hq ha ⊢
    exact ⟨fun _ => ⟨hq, ha⟩, fun h' => absurd h' h, fun h' => absurd h' h, fun h' => absurd h' h, fun h' => absurd h' h, fun h' => absurd h' h⟩
theorem cutE_zero {n : Nt} {a b : Int} (h : n.cutE a b = 0) : chkE n = 0 := by
  unfold Nt.cutE at h
  by_cases h1 : chkE n = 0
  · exact h1
  · rw [if_pos h1] at h; cases h
theorem hap_cut {n y : Nt} {a b : Int} {on : Bool} {p : Pk} {t : Int} (ht : t = 4 ∨ t = 5 ∧ on = false) (hq : y.q.l = n.cutQ a b) (ha : y.ap.l = n.cutA a b on) : Hap n t y p (n.cutE a b) := by
  unfold Nt.cutQ at hq
  unfold Nt.cutA at ha
  refine ⟨fun h => ?_, fun h => ?_, fun _ h => absurd h (by omega), fun h _ x hx => by rw [hq, if_pos h] at hx; exact hx, fun _ h => absurd h (by omega), fun h h4 hne => ?_⟩
  · rw [if_neg h] at hq ha; exact ⟨hq, ha⟩
  · rw [if_pos h] at hq ha
    exact chk_cut (cutE_zero h) hq ha
  · rcases ht with ht | ⟨_, rfl⟩
    · exact absurd ht h4
    · rw [ha, if_pos h] at hne
      intro e
      apply hne
      rw [e]
      unfold cutsL
      rw [List.filter_eq_nil_iff]
      intro x _
      unfold keepL hasL
      split <;> simp

theorem delP_len {w : World} {n : Nt} {i : Int} (hn : NOk w n) : (n.delP i).d.l.length ≤ maxLen := by
  unfold Nt.delP
  split
  · simp [zeroP]
  · exact (hn.atP i).2
theorem delP_off {n : Nt} {i : Int} {b : Nat} (h : n.off b) : (n.delP i).off b := by
  unfold Nt.delP
  split
  · exact fun h => absurd rfl h
  · exact atP_off h
theorem Blk.drew1 {w : World} {b : Nat} {cs : List Value} (h : Blk w b cs) : Blk w.drew b cs := h.drew
theorem wrap_u8 {a : Int} (h : u8 a) : 0 ≤ a ∧ a < 256 := by
  simp [u8, Lit.wf, IntKind.min, IntKind.max, IntKind.signed, IntKind.bits] at h; omega
set_option maxHeartbeats 16000000 in
set_option maxRecDepth 100000 in
theorem hap_any (n : Nt) (mv : Mv) (w : World) (hn : NOk w n) (hm : mv.ok) : Calls Try.prog 20 #[n.v, .agg #[.int .u8 mv.k, .int .u8 mv.at_, .int .u8 mv.a, .int .u8 mv.b, .int .u8 mv.d]] w (HapR w n (mv.k % 6)) := by
  obtain ⟨hk, ht, ha, hb, hd⟩ := hm
  obtain ⟨k0, k1⟩ := wrap_u8 hk
  obtain ⟨t0, t1⟩ := wrap_u8 ht
  obtain ⟨a0, a1⟩ := wrap_u8 ha
  obtain ⟨b0, b1⟩ := wrap_u8 hb
  clear hk ht ha hb hd
  have hql := hn.ql
  unfold maxLen at hql
  have E := Lib.hid (ext_alloc (ext_alloc (ext_alloc (ext_alloc (ext_refl w) (.cells #[.slice n.q.A n.q.l.length n.q.c, .slice n.ap.A n.ap.l.length n.ap.c] 25)) (.cells #[.int .u8 mv.k, .int .u8 mv.at_, .int .u8 mv.a, .int .u8 mv.b, .int .u8 mv.d] 49)) (.cells #[.slice none 0 0, .slice none 0 0] 25)) (.cells #[.int .i64 0, .int .i64 0, .slice none 0 0] 28))
  have X2 := Lib.hid (((Blk.new w [.slice n.q.A n.q.l.length n.q.c, .slice n.ap.A n.ap.l.length n.ap.c] 25).alloc (.cells #[.int .u8 mv.k, .int .u8 mv.at_, .int .u8 mv.a, .int .u8 mv.b, .int .u8 mv.d] 49)).alloc (.cells #[.slice none 0 0, .slice none 0 0] 25) |>.alloc (.cells #[.int .i64 0, .int .i64 0, .slice none 0 0] 28))
  have X3 := Lib.hid (((Blk.newH (w.alloc (.cells #[.slice n.q.A n.q.l.length n.q.c, .slice n.ap.A n.ap.l.length n.ap.c] 25)) [.int .u8 mv.k, .int .u8 mv.at_, .int .u8 mv.a, .int .u8 mv.b, .int .u8 mv.d] 49 (w.heap.size + 1) (by simp)).alloc (.cells #[.slice none 0 0, .slice none 0 0] 25)).alloc (.cells #[.int .i64 0, .int .i64 0, .slice none 0 0] 28))
  have X4 := Lib.hid ((Blk.newH ((w.alloc (.cells #[.slice n.q.A n.q.l.length n.q.c, .slice n.ap.A n.ap.l.length n.ap.c] 25)).alloc (.cells #[.int .u8 mv.k, .int .u8 mv.at_, .int .u8 mv.a, .int .u8 mv.b, .int .u8 mv.d] 49)) [.slice none 0 0, .slice none 0 0] 25 (w.heap.size + 2) (by simp)).alloc (.cells #[.int .i64 0, .int .i64 0, .slice none 0 0] 28))
  have X5 := Lib.hid (Blk.newH (((w.alloc (.cells #[.slice n.q.A n.q.l.length n.q.c, .slice n.ap.A n.ap.l.length n.ap.c] 25)).alloc (.cells #[.int .u8 mv.k, .int .u8 mv.at_, .int .u8 mv.a, .int .u8 mv.b, .int .u8 mv.d] 49)).alloc (.cells #[.slice none 0 0, .slice none 0 0] 25)) [.int .i64 0, .int .i64 0, .slice none 0 0] 28 (w.heap.size + 3) (by simp))
  obtain ⟨w2, hw2⟩ : ∃ w2, ((((w.alloc (.cells #[.slice n.q.A n.q.l.length n.q.c, .slice n.ap.A n.ap.l.length n.ap.c] 25)).alloc (.cells #[.int .u8 mv.k, .int .u8 mv.at_, .int .u8 mv.a, .int .u8 mv.b, .int .u8 mv.d] 49)).alloc (.cells #[.slice none 0 0, .slice none 0 0] 25)).alloc (.cells #[.int .i64 0, .int .i64 0, .slice none 0 0] 28)) = w2 := ⟨_, rfl⟩
  have hz2 : w2.heap.size = w.heap.size + 4 := by rw [← hw2]; simp
  rw [hw2] at E X2 X3 X4 X5
  have HZ2 := Lib.hid hz2
  clear hz2
  have ka : IntKind.i64.wrap mv.a = mv.a := IntWalk.i64_in _ (by omega)
  have kb : IntKind.i64.wrap mv.b = mv.b := IntWalk.i64_in _ (by omega)
  have kt : IntKind.i64.wrap mv.at_ = mv.at_ := IntWalk.i64_in _ (by omega)
  obtain ⟨t, ht⟩ : ∃ t, mv.k % 6 = t := ⟨_, rfl⟩
  have ht2 : mv.k.tmod 6 = t := by rw [Int.tmod_eq_emod_of_nonneg k0]; exact ht
  rw [ht]
  have hcase : t = 0 ∨ t = 1 ∨ t = 2 ∨ t = 3 ∨ t = 4 ∨ t = 5 := by omega
  have n0 := X2.out.c 0 _ rfl
  have n1 := X2.out.c 1 _ rfl
  have m0 := X3.out.c 0 _ rfl
  have m1 := X3.out.c 1 _ rfl
  have m2 := X3.out.c 2 _ rfl
  have m3 := X3.out.c 3 _ rfl
  have m4 := X3.out.c 4 _ rfl
  have SS := Lib.hid (show (fun w' => w'.cell? ⟨w.heap.size + 1, 2, none⟩ = some (.int .u8 mv.a) ∧ w'.cell? ⟨w.heap.size + 1, 3, none⟩ = some (.int .u8 mv.b)) w2.drew from ⟨m2, m3⟩)
  by_cases hl : n.q.l.length = 0
  · have hl0 : ¬ (0 : Int) < n.q.l.length := by omega
    clear hl
    go_enter Try.func20, Try.ntmps20
    go_wp2_with fail
    try rw [hw2]
    clear hw2
    refine rg_begin (S := (fun w' => w'.cell? ⟨w.heap.size + 1, 2, none⟩ = some (.int .u8 mv.a) ∧ w'.cell? ⟨w.heap.size + 1, 3, none⟩ = some (.int .u8 mv.b))) 10 (by kernel_rfl) (by intro d; cases d <;> intro _ _ _ _ h <;> exact h) ?_ (fun Q7 hQ7 hN7 hHeld => ?_)
    · exact SS.out
    refine rg_take (i := 0) (some 21) (v := ?_) rfl rfl (by kernel_rfl) (by rfl) hQ7 hHeld ?_ ?_
    rotate_left
    · intro w7 hSw; (try dsimp only at hSw); go_simp; all_goals with_reducible rfl
    try simp only [Act.put, List.setIfInBounds_toArray, List.set_cons_zero, List.set_cons_succ]
    refine rg_take (i := 1) (some 22) (v := ?_) rfl rfl (by kernel_rfl) (by rfl) hQ7 hHeld ?_ ?_
    rotate_left
    · intro w7 hSw; (try dsimp only at hSw); go_simp; all_goals with_reducible rfl
    try simp only [Act.put, List.setIfInBounds_toArray, List.set_cons_zero, List.set_cons_succ]
    refine rg_take (i := 2) (some 23) (v := ?_) rfl rfl (by kernel_rfl) (by rfl) hQ7 hHeld ?_ ?_
    rotate_left
    · intro w7 hSw; (try dsimp only at hSw); go_simp; all_goals with_reducible rfl
    try simp only [Act.put, List.setIfInBounds_toArray, List.set_cons_zero, List.set_cons_succ]
    refine rg_take (i := 3) (some 24) (v := ?_) rfl rfl (by kernel_rfl) (by rfl) hQ7 hHeld ?_ ?_
    rotate_left
    · intro w7 hSw; (try dsimp only at hSw); go_simp; all_goals with_reducible rfl
    try simp only [Act.put, List.setIfInBounds_toArray, List.set_cons_zero, List.set_cons_succ]
    refine rg_take (i := 4) (some 25) (v := ?_) rfl rfl (by kernel_rfl) (by rfl) hQ7 hHeld ?_ ?_
    rotate_left
    · intro w7 hSw; (try dsimp only at hSw); go_simp; all_goals with_reducible rfl
    try simp only [Act.put, List.setIfInBounds_toArray, List.set_cons_zero, List.set_cons_succ]
    refine rg_take (i := 5) (some 26) (v := ?_) rfl rfl (by kernel_rfl) (by rfl) hQ7 hHeld ?_ ?_
    rotate_left
    · intro w7 hSw; (try dsimp only at hSw); go_simp; all_goals with_reducible rfl
    try simp only [Act.put, List.setIfInBounds_toArray, List.set_cons_zero, List.set_cons_succ]
    refine rg_take (i := 6) (some 27) (v := ?_) rfl rfl (by kernel_rfl) (by rfl) hQ7 hHeld ?_ ?_
    rotate_left
    · intro w7 hSw; (try dsimp only at hSw); go_simp; all_goals with_reducible rfl
    try simp only [Act.put, List.setIfInBounds_toArray, List.set_cons_zero, List.set_cons_succ]
    refine rg_take (i := 7) (some 28) (v := ?_) rfl rfl (by kernel_rfl) (by rfl) hQ7 hHeld ?_ ?_
    rotate_left
    · intro w7 hSw; (try dsimp only at hSw); go_simp; all_goals with_reducible rfl
    try simp only [Act.put, List.setIfInBounds_toArray, List.set_cons_zero, List.set_cons_succ]
    refine rg_take (i := 8) (some 8) (v := ?_) rfl rfl (by kernel_rfl) (by rfl) hQ7 hHeld ?_ ?_
    rotate_left
    · intro w7 hSw; (try dsimp only at hSw); go_simp; all_goals with_reducible rfl
    try simp only [Act.put, List.setIfInBounds_toArray, List.set_cons_zero, List.set_cons_succ]
    refine rg_take (i := 9) (some 9) (v := ?_) rfl rfl (by kernel_rfl) (by rfl) hQ7 hHeld ?_ ?_
    rotate_left
    · intro w7 hSw; (try dsimp only at hSw); go_simp; all_goals with_reducible rfl
    try simp only [Act.put, List.setIfInBounds_toArray, List.set_cons_zero, List.set_cons_succ]
    refine rg_end (by kernel_rfl) (hN7 _ _ ?_) _
    clear hQ7 hN7 Q7
    clear hHeld SS
    have E2 := Lib.hid (ext_drew E.out)
    have Y4 := Lib.hid X4.out.drew
    have Y5 := Lib.hid X5.out.drew
    have HN := Lib.hid (hn.ext E2.out)
    clear X2 X3 X4 X5 E
    obtain ⟨w3, hw3⟩ : ∃ w3, w2.drew = w3 := ⟨_, rfl⟩
    have n0' : w3.cell? ⟨w.heap.size, 0, none⟩ = some (.slice n.q.A n.q.l.length n.q.c) := by rw [← hw3]; exact n0
    have n1' : w3.cell? ⟨w.heap.size, 1, none⟩ = some (.slice n.ap.A n.ap.l.length n.ap.c) := by rw [← hw3]; exact n1
    have m0' : w3.cell? ⟨w.heap.size + 1, 0, none⟩ = some (.int .u8 mv.k) := by rw [← hw3]; exact m0
    have m4' : w3.cell? ⟨w.heap.size + 1, 4, none⟩ = some (.int .u8 mv.d) := by rw [← hw3]; exact m4
    have HZ3 := Lib.hid (show w3.heap.size = w.heap.size + 4 by rw [← hw3]; exact HZ2.out)
    rw [hw3] at E2 Y4 Y5 HN ⊢
    clear hw3 n0 n1 m0 m1 m2 m3 m4 HZ2
    rcases hcase with rfl | rfl | rfl | rfl | rfl | rfl
    · obtain ⟨zp, hzp⟩ : ∃ p, p = zeroP := ⟨_, rfl⟩
      have HZP := Lib.hid hzp
      clear hzp
      replace Y5 := Lib.hid (show Blk w3 (w.heap.size + 3) [.int .i64 zp.f, .int .i64 zp.t, .slice zp.d.A zp.d.l.length zp.d.c] by rw [HZP.out]; exact Y5.out)
      go_wp2_with fail
      refine (send_at (n := n) (p := ⟨_, _, ⟨some ⟨w3.heap.size, 0, none⟩, 1, [mv.d]⟩⟩) _ _ _ rfl rfl rfl (HN.out.alloc _) (slc_litH w3 [mv.d] #[.int .u8 mv.d] 5 (enc := bc) (sz := 1) (fun _ => rfl) rfl w3.heap.size rfl) (by simp [maxLen])).mono ?_
      rintro e w5 ⟨y, rfl, hq, ha, hm, B, ho⟩
      have HAP := Lib.hid (show Hap n 0 y zp _ from hap_send hq ha)
      have hz3 := HZ3.out
      have ho2 : y.off (w.heap.size + 2) := ho _ (by simp; omega) ⟨hn.off (by omega), fun _ c o s e => by cases e; omega⟩
      have ho3 : y.off (w.heap.size + 3) := ho _ (by simp; omega) ⟨hn.off (by omega), fun _ c o s e => by cases e; omega⟩
      have HOF := Lib.hid (show ∀ b, b < w.heap.size → n.off b → y.off b from fun b hb hf => ho b (by simp; omega) ⟨hf, fun _ c o s e => by cases e; omega⟩)
      have E5 := ext_trans E2.out (ext_trans (ext_alloc (ext_refl w3) (.cells #[.int .u8 mv.d] 5)) B)
      have U4 := Y4.out.ext (ext_trans (ext_alloc (ext_refl w3) (.cells #[.int .u8 mv.d] 5)) B)
      have U5 := Y5.out.ext (ext_trans (ext_alloc (ext_refl w3) (.cells #[.int .u8 mv.d] 5)) B)
      have V4 := Lib.hid (U4.put2 (.slice y.q.A y.q.l.length y.q.c) (.slice y.ap.A y.ap.l.length y.ap.c))
      have V5 := Lib.hid (U5.off2 (c := w.heap.size + 2) (.slice y.q.A y.q.l.length y.q.c) (.slice y.ap.A y.ap.l.length y.ap.c) (by omega))
      have E6 := Lib.hid (ext_set2 E5 (w.heap.size + 2) (.slice y.q.A y.q.l.length y.q.c) (.slice y.ap.A y.ap.l.length y.ap.c) (by omega))
      have NY := Lib.hid ((hm.set (p := ⟨w.heap.size + 2, 0, none⟩) (.slice y.q.A y.q.l.length y.q.c) ho2).set (p := ⟨w.heap.size + 2, 1, none⟩) (.slice y.ap.A y.ap.l.length y.ap.c) ho2)
      have z0 := U4.c 0 _ rfl
      have z1 := U4.c 1 _ rfl
      have zf := U4.f
      obtain ⟨w6, hw6⟩ : ∃ w6, set2 w5 (w.heap.size + 2) (.slice y.q.A y.q.l.length y.q.c) (.slice y.ap.A y.ap.l.length y.ap.c) = w6 := ⟨_, rfl⟩
      have hs6 : w5.heap.size = w6.heap.size := by rw [← hw6, set2_size]
      unfold set2 at hw6 V4 V5 E6 NY
      rw [hw6] at V4 V5 E6 NY
      have x0 := V4.out.c 0 _ rfl
      have x1 := V4.out.c 1 _ rfl
      have xf := V4.out.f
      have p0 := V5.out.c 0 _ rfl
      have p1 := V5.out.c 1 _ rfl
      have p2 := V5.out.c 2 _ rfl
      have pf := V5.out.f
      have SS := Lib.hid (show (fun w' => w'.cell? ⟨w.heap.size + 2, 0, none⟩ = some (.slice y.q.A y.q.l.length y.q.c) ∧ w'.cell? ⟨w.heap.size + 2, 1, none⟩ = some (.slice y.ap.A y.ap.l.length y.ap.c) ∧ w'.cell? ⟨w.heap.size + 3, 0, none⟩ = some (.int .i64 zp.f) ∧ w'.cell? ⟨w.heap.size + 3, 1, none⟩ = some (.int .i64 zp.t) ∧ w'.cell? ⟨w.heap.size + 3, 2, none⟩ = some (.slice zp.d.A zp.d.l.length zp.d.c)) w6.drew from ⟨x0, x1, p0, p1, p2⟩)
      clear hq ha ho B x0 x1 p0 p1 p2 xf pf hs6
      go_wp2_with fail
      try rw [hw6]
      clear hw6 z0 z1 zf
      have x0 := V4.out.c 0 _ rfl
      have x1 := V4.out.c 1 _ rfl
      have p0 := V5.out.c 0 _ rfl
      have p1 := V5.out.c 1 _ rfl
      have p2 := V5.out.c 2 _ rfl
      have xf := V4.out.f
      have pf := V5.out.f
      refine rg_begin (S := (fun w' => w'.cell? ⟨w.heap.size + 2, 0, none⟩ = some (.slice y.q.A y.q.l.length y.q.c) ∧ w'.cell? ⟨w.heap.size + 2, 1, none⟩ = some (.slice y.ap.A y.ap.l.length y.ap.c) ∧ w'.cell? ⟨w.heap.size + 3, 0, none⟩ = some (.int .i64 zp.f) ∧ w'.cell? ⟨w.heap.size + 3, 1, none⟩ = some (.int .i64 zp.t) ∧ w'.cell? ⟨w.heap.size + 3, 2, none⟩ = some (.slice zp.d.A zp.d.l.length zp.d.c))) 4 (by kernel_rfl) (by intro d; cases d <;> intro _ _ _ _ h <;> exact h) ?_ (fun Q7 hQ7 hN7 hHeld => ?_)
      · exact SS.out
      refine rg_take (i := 0) (some 88) (v := ?_) rfl rfl (by kernel_rfl) (by rfl) hQ7 hHeld ?_ ?_
      rotate_left
      · intro w7 hSw; (try dsimp only at hSw); go_simp; all_goals with_reducible rfl
      try simp only [Act.put, List.setIfInBounds_toArray, List.set_cons_zero, List.set_cons_succ]
      refine rg_take (i := 1) (some 89) (v := ?_) rfl rfl (by kernel_rfl) (by rfl) hQ7 hHeld ?_ ?_
      rotate_left
      · intro w7 hSw; (try dsimp only at hSw); go_simp; all_goals with_reducible rfl
      try simp only [Act.put, List.setIfInBounds_toArray, List.set_cons_zero, List.set_cons_succ]
      refine rg_pure (i := 2) (some 90) (v := ?_) rfl rfl (by kernel_rfl) (by rfl) hQ7 (by first | exact .inr hHeld | exact .inl (by kernel_rfl)) ?_ ?_
      rotate_left
      · intro w7; go_simp; all_goals with_reducible rfl
      try simp only [Act.put, List.setIfInBounds_toArray, List.set_cons_zero, List.set_cons_succ]
      refine rg_one (i := 3) (by kernel_rfl) (rg_step rfl (by rfl) (fun K hK => ?_))
      go_simp
      refine hK.out _ _ ?_ (fun hHeld2 => ?_)
      · exact ⟨(V4.out.drew.put2 _ _).c 0 _ rfl, (V4.out.drew.put2 _ _).c 1 _ rfl, (V5.out.drew.off2 (c := w.heap.size + 2) _ _ (by omega)).c 0 _ rfl, (V5.out.drew.off2 (c := w.heap.size + 2) _ _ (by omega)).c 1 _ rfl, (V5.out.drew.off2 (c := w.heap.size + 2) _ _ (by omega)).c 2 _ rfl⟩
      clear hHeld
      have hHeld := hHeld2
      clear hHeld2
      clear hK K
      try simp only [Act.put, List.setIfInBounds_toArray, List.set_cons_zero, List.set_cons_succ]
      refine rg_one (i := 4) (by kernel_rfl) (rg_late rfl (by rfl) (by kernel_rfl) (fun K hK => ?_))
      go_simp
      refine hK.out _ _ ?_
      clear hK K
      try simp only [Act.put, List.setIfInBounds_toArray, List.set_cons_zero, List.set_cons_succ]
      refine rg_one (i := 5) (by kernel_rfl) (rg_late rfl (by rfl) (by kernel_rfl) (fun K hK => ?_))
      go_simp
      refine hK.out _ _ ?_
      clear hK K
      try simp only [Act.put, List.setIfInBounds_toArray, List.set_cons_zero, List.set_cons_succ]
      refine rg_end (by kernel_rfl) (hN7 _ _ ?_) _
      clear hQ7 hN7 Q7
      go_wp2_with fail
      refine bodyPost_ret (v := .tuple #[y.v, zp.v, .int .i64 _]) (by simp [results, Try.results20, go_sem, *]; rfl) rfl ?_
      have ho3' : y.off (w.heap.size + 3) := ho3
      have hE8 := ext_drew (ext_set3 (ext_set2 E6.out (w.heap.size + 1 + 1) (.slice y.q.A y.q.l.length y.q.c) (.slice y.ap.A y.ap.l.length y.ap.c) (by omega)) (w.heap.size + 1 + 1 + 1) (.int .i64 zp.f) (.int .i64 zp.t) (.slice zp.d.A zp.d.l.length zp.d.c) (by omega))
      have hN8 := (((((NY.out.set (p := ⟨w.heap.size + 1 + 1, 0, none⟩) (.slice y.q.A y.q.l.length y.q.c) ho2).set (p := ⟨w.heap.size + 1 + 1, 1, none⟩) (.slice y.ap.A y.ap.l.length y.ap.c) ho2).set (p := ⟨w.heap.size + 1 + 1 + 1, 0, none⟩) (.int .i64 zp.f) ho3').set (p := ⟨w.heap.size + 1 + 1 + 1, 1, none⟩) (.int .i64 zp.t) ho3').set (p := ⟨w.heap.size + 1 + 1 + 1, 2, none⟩) (.slice zp.d.A zp.d.l.length zp.d.c) ho3').ext (ext_drew (ext_refl _))
      unfold set2 set3 at hE8
      refine ⟨y, zp, _, rfl, HAP.out, hN8, ?_, hE8, fun b hb hf => ⟨HOF.out b hb hf, ?_⟩⟩
      · rw [HZP.out]; exact ⟨Slc.nil, by simp [zeroP]⟩
      · rw [HZP.out]; exact fun h => absurd rfl h
    · obtain ⟨zp, hzp⟩ : ∃ p, p = zeroP := ⟨_, rfl⟩
      have HZP := Lib.hid hzp
      clear hzp
      replace Y5 := Lib.hid (show Blk w3 (w.heap.size + 3) [.int .i64 zp.f, .int .i64 zp.t, .slice zp.d.A zp.d.l.length zp.d.c] by rw [HZP.out]; exact Y5.out)
      obtain ⟨dp, hdp⟩ : ∃ p, n.delP (0) = p := ⟨_, rfl⟩
      have HDP := Lib.hid hdp
      clear hdp
      go_wp2_with fail
      refine (deliver_at (n := n) (i := 0) dp _ _ _ HDP.out rfl rfl rfl HN.out).mono ?_
      rintro e w5 ⟨y, rfl, hq, ha, hm, B, ho⟩
      have HAP := Lib.hid (show Hap n 1 y dp _ by rw [← HDP.out]; exact hap_del hq ha)
      have hz3 := HZ3.out
      have ho2 : y.off (w.heap.size + 2) := ho _ (by omega) (hn.off (by omega))
      have HOF := Lib.hid (show ∀ b, b < w.heap.size → n.off b → y.off b from fun b hb hf => ho b (by omega) hf)
      have E5 := ext_trans E2.out B
      have U4 := Y4.out.ext B
      have U5 := Y5.out.ext B
      have ho3 : y.off (w.heap.size + 3) := ho _ (by omega) (hn.off (by omega))
      have U5' := U5.put3 (.int .i64 dp.f) (.int .i64 dp.t) (.slice dp.d.A dp.d.l.length dp.d.c)
      have U4' := U4.off3 (c := w.heap.size + 3) (.int .i64 dp.f) (.int .i64 dp.t) (.slice dp.d.A dp.d.l.length dp.d.c) (by omega)
      have E5' := ext_set3 E5 (w.heap.size + 3) (.int .i64 dp.f) (.int .i64 dp.t) (.slice dp.d.A dp.d.l.length dp.d.c) (by omega)
      have hm' := ((hm.set (p := ⟨w.heap.size + 3, 0, none⟩) (.int .i64 dp.f) ho3).set (p := ⟨w.heap.size + 3, 1, none⟩) (.int .i64 dp.t) ho3).set (p := ⟨w.heap.size + 3, 2, none⟩) (.slice dp.d.A dp.d.l.length dp.d.c) ho3
      have a0 := U5.c 0 _ rfl
      have a1 := U5.c 1 _ rfl
      have a2 := U5.c 2 _ rfl
      have af := U5.f
      have V4 := Lib.hid (U4'.put2 (.slice y.q.A y.q.l.length y.q.c) (.slice y.ap.A y.ap.l.length y.ap.c))
      have V5 := Lib.hid (U5'.off2 (c := w.heap.size + 2) (.slice y.q.A y.q.l.length y.q.c) (.slice y.ap.A y.ap.l.length y.ap.c) (by omega))
      have E6 := Lib.hid (ext_set2 E5' (w.heap.size + 2) (.slice y.q.A y.q.l.length y.q.c) (.slice y.ap.A y.ap.l.length y.ap.c) (by omega))
      have NY := Lib.hid ((hm'.set (p := ⟨w.heap.size + 2, 0, none⟩) (.slice y.q.A y.q.l.length y.q.c) ho2).set (p := ⟨w.heap.size + 2, 1, none⟩) (.slice y.ap.A y.ap.l.length y.ap.c) ho2)
      have z0 := U4.c 0 _ rfl
      have z1 := U4.c 1 _ rfl
      have zf := U4.f
      obtain ⟨w6, hw6⟩ : ∃ w6, set2 (set3 w5 (w.heap.size + 3) (.int .i64 dp.f) (.int .i64 dp.t) (.slice dp.d.A dp.d.l.length dp.d.c)) (w.heap.size + 2) (.slice y.q.A y.q.l.length y.q.c) (.slice y.ap.A y.ap.l.length y.ap.c) = w6 := ⟨_, rfl⟩
      have hs6 : w5.heap.size = w6.heap.size := by rw [← hw6, set2_size]; simp [set3]
      unfold set2 at hw6 V4 V5 E6 NY
      unfold set3 at hw6 V4 V5 E6
      rw [hw6] at V4 V5 E6 NY
      have x0 := V4.out.c 0 _ rfl
      have x1 := V4.out.c 1 _ rfl
      have xf := V4.out.f
      have p0 := V5.out.c 0 _ rfl
      have p1 := V5.out.c 1 _ rfl
      have p2 := V5.out.c 2 _ rfl
      have pf := V5.out.f
      have SS := Lib.hid (show (fun w' => w'.cell? ⟨w.heap.size + 2, 0, none⟩ = some (.slice y.q.A y.q.l.length y.q.c) ∧ w'.cell? ⟨w.heap.size + 2, 1, none⟩ = some (.slice y.ap.A y.ap.l.length y.ap.c) ∧ w'.cell? ⟨w.heap.size + 3, 0, none⟩ = some (.int .i64 dp.f) ∧ w'.cell? ⟨w.heap.size + 3, 1, none⟩ = some (.int .i64 dp.t) ∧ w'.cell? ⟨w.heap.size + 3, 2, none⟩ = some (.slice dp.d.A dp.d.l.length dp.d.c)) w6.drew from ⟨x0, x1, p0, p1, p2⟩)
      clear hq ha ho B x0 x1 p0 p1 p2 xf pf hs6
      go_wp2_with fail
      try rw [hw6]
      clear hw6 z0 z1 zf a0 a1 a2 af
      have x0 := V4.out.c 0 _ rfl
      have x1 := V4.out.c 1 _ rfl
      have p0 := V5.out.c 0 _ rfl
      have p1 := V5.out.c 1 _ rfl
      have p2 := V5.out.c 2 _ rfl
      have xf := V4.out.f
      have pf := V5.out.f
      refine rg_begin (S := (fun w' => w'.cell? ⟨w.heap.size + 2, 0, none⟩ = some (.slice y.q.A y.q.l.length y.q.c) ∧ w'.cell? ⟨w.heap.size + 2, 1, none⟩ = some (.slice y.ap.A y.ap.l.length y.ap.c) ∧ w'.cell? ⟨w.heap.size + 3, 0, none⟩ = some (.int .i64 dp.f) ∧ w'.cell? ⟨w.heap.size + 3, 1, none⟩ = some (.int .i64 dp.t) ∧ w'.cell? ⟨w.heap.size + 3, 2, none⟩ = some (.slice dp.d.A dp.d.l.length dp.d.c))) 4 (by kernel_rfl) (by intro d; cases d <;> intro _ _ _ _ h <;> exact h) ?_ (fun Q7 hQ7 hN7 hHeld => ?_)
      · exact SS.out
      refine rg_take (i := 0) (some 88) (v := ?_) rfl rfl (by kernel_rfl) (by rfl) hQ7 hHeld ?_ ?_
      rotate_left
      · intro w7 hSw; (try dsimp only at hSw); go_simp; all_goals with_reducible rfl
      try simp only [Act.put, List.setIfInBounds_toArray, List.set_cons_zero, List.set_cons_succ]
      refine rg_take (i := 1) (some 89) (v := ?_) rfl rfl (by kernel_rfl) (by rfl) hQ7 hHeld ?_ ?_
      rotate_left
      · intro w7 hSw; (try dsimp only at hSw); go_simp; all_goals with_reducible rfl
      try simp only [Act.put, List.setIfInBounds_toArray, List.set_cons_zero, List.set_cons_succ]
      refine rg_pure (i := 2) (some 90) (v := ?_) rfl rfl (by kernel_rfl) (by rfl) hQ7 (by first | exact .inr hHeld | exact .inl (by kernel_rfl)) ?_ ?_
      rotate_left
      · intro w7; go_simp; all_goals with_reducible rfl
      try simp only [Act.put, List.setIfInBounds_toArray, List.set_cons_zero, List.set_cons_succ]
      refine rg_one (i := 3) (by kernel_rfl) (rg_step rfl (by rfl) (fun K hK => ?_))
      go_simp
      refine hK.out _ _ ?_ (fun hHeld2 => ?_)
      · exact ⟨(V4.out.drew.put2 _ _).c 0 _ rfl, (V4.out.drew.put2 _ _).c 1 _ rfl, (V5.out.drew.off2 (c := w.heap.size + 2) _ _ (by omega)).c 0 _ rfl, (V5.out.drew.off2 (c := w.heap.size + 2) _ _ (by omega)).c 1 _ rfl, (V5.out.drew.off2 (c := w.heap.size + 2) _ _ (by omega)).c 2 _ rfl⟩
      clear hHeld
      have hHeld := hHeld2
      clear hHeld2
      clear hK K
      try simp only [Act.put, List.setIfInBounds_toArray, List.set_cons_zero, List.set_cons_succ]
      refine rg_one (i := 4) (by kernel_rfl) (rg_late rfl (by rfl) (by kernel_rfl) (fun K hK => ?_))
      go_simp
      refine hK.out _ _ ?_
      clear hK K
      try simp only [Act.put, List.setIfInBounds_toArray, List.set_cons_zero, List.set_cons_succ]
      refine rg_one (i := 5) (by kernel_rfl) (rg_late rfl (by rfl) (by kernel_rfl) (fun K hK => ?_))
      go_simp
      refine hK.out _ _ ?_
      clear hK K
      try simp only [Act.put, List.setIfInBounds_toArray, List.set_cons_zero, List.set_cons_succ]
      refine rg_end (by kernel_rfl) (hN7 _ _ ?_) _
      clear hQ7 hN7 Q7
      go_wp2_with fail
      refine bodyPost_ret (v := .tuple #[y.v, dp.v, .int .i64 _]) (by simp [results, Try.results20, go_sem, *]; rfl) rfl ?_
      have ho3' : y.off (w.heap.size + 3) := ho3
      have hE8 := ext_drew (ext_set3 (ext_set2 E6.out (w.heap.size + 1 + 1) (.slice y.q.A y.q.l.length y.q.c) (.slice y.ap.A y.ap.l.length y.ap.c) (by omega)) (w.heap.size + 1 + 1 + 1) (.int .i64 dp.f) (.int .i64 dp.t) (.slice dp.d.A dp.d.l.length dp.d.c) (by omega))
      have hN8 := (((((NY.out.set (p := ⟨w.heap.size + 1 + 1, 0, none⟩) (.slice y.q.A y.q.l.length y.q.c) ho2).set (p := ⟨w.heap.size + 1 + 1, 1, none⟩) (.slice y.ap.A y.ap.l.length y.ap.c) ho2).set (p := ⟨w.heap.size + 1 + 1 + 1, 0, none⟩) (.int .i64 dp.f) ho3').set (p := ⟨w.heap.size + 1 + 1 + 1, 1, none⟩) (.int .i64 dp.t) ho3').set (p := ⟨w.heap.size + 1 + 1 + 1, 2, none⟩) (.slice dp.d.A dp.d.l.length dp.d.c) ho3').ext (ext_drew (ext_refl _))
      unfold set2 set3 at hE8
      refine ⟨y, dp, _, rfl, HAP.out, hN8, ?_, hE8, fun b hb hf => ⟨HOF.out b hb hf, ?_⟩⟩
      · have h1 := hn.delP (0)
        have h2 := delP_len (i := 0) hn
        rw [HDP.out] at h1 h2
        exact ⟨h1.ext hE8, h2⟩
      · have h1 := delP_off (i := 0) hf
        rw [HDP.out] at h1
        exact h1
    · obtain ⟨zp, hzp⟩ : ∃ p, p = zeroP := ⟨_, rfl⟩
      have HZP := Lib.hid hzp
      clear hzp
      replace Y5 := Lib.hid (show Blk w3 (w.heap.size + 3) [.int .i64 zp.f, .int .i64 zp.t, .slice zp.d.A zp.d.l.length zp.d.c] by rw [HZP.out]; exact Y5.out)
      go_wp2_with fail
      refine (lose_at (n := n) _ _ _ rfl rfl rfl HN.out).mono ?_
      rintro e w5 ⟨y, rfl, hq, ha, hm, B, ho⟩
      have HAP := Lib.hid (show Hap n 2 y zp _ from hap_lose hq ha)
      have hz3 := HZ3.out
      have ho2 : y.off (w.heap.size + 2) := ho _ (by omega) (hn.off (by omega))
      have ho3 : y.off (w.heap.size + 3) := ho _ (by omega) (hn.off (by omega))
      have HOF := Lib.hid (show ∀ b, b < w.heap.size → n.off b → y.off b from fun b hb hf => ho b (by omega) hf)
      have E5 := ext_trans E2.out B
      have U4 := Y4.out.ext B
      have U5 := Y5.out.ext B
      have V4 := Lib.hid (U4.put2 (.slice y.q.A y.q.l.length y.q.c) (.slice y.ap.A y.ap.l.length y.ap.c))
      have V5 := Lib.hid (U5.off2 (c := w.heap.size + 2) (.slice y.q.A y.q.l.length y.q.c) (.slice y.ap.A y.ap.l.length y.ap.c) (by omega))
      have E6 := Lib.hid (ext_set2 E5 (w.heap.size + 2) (.slice y.q.A y.q.l.length y.q.c) (.slice y.ap.A y.ap.l.length y.ap.c) (by omega))
      have NY := Lib.hid ((hm.set (p := ⟨w.heap.size + 2, 0, none⟩) (.slice y.q.A y.q.l.length y.q.c) ho2).set (p := ⟨w.heap.size + 2, 1, none⟩) (.slice y.ap.A y.ap.l.length y.ap.c) ho2)
      have z0 := U4.c 0 _ rfl
      have z1 := U4.c 1 _ rfl
      have zf := U4.f
      obtain ⟨w6, hw6⟩ : ∃ w6, set2 w5 (w.heap.size + 2) (.slice y.q.A y.q.l.length y.q.c) (.slice y.ap.A y.ap.l.length y.ap.c) = w6 := ⟨_, rfl⟩
      have hs6 : w5.heap.size = w6.heap.size := by rw [← hw6, set2_size]
      unfold set2 at hw6 V4 V5 E6 NY
      rw [hw6] at V4 V5 E6 NY
      have x0 := V4.out.c 0 _ rfl
      have x1 := V4.out.c 1 _ rfl
      have xf := V4.out.f
      have p0 := V5.out.c 0 _ rfl
      have p1 := V5.out.c 1 _ rfl
      have p2 := V5.out.c 2 _ rfl
      have pf := V5.out.f
      have SS := Lib.hid (show (fun w' => w'.cell? ⟨w.heap.size + 2, 0, none⟩ = some (.slice y.q.A y.q.l.length y.q.c) ∧ w'.cell? ⟨w.heap.size + 2, 1, none⟩ = some (.slice y.ap.A y.ap.l.length y.ap.c) ∧ w'.cell? ⟨w.heap.size + 3, 0, none⟩ = some (.int .i64 zp.f) ∧ w'.cell? ⟨w.heap.size + 3, 1, none⟩ = some (.int .i64 zp.t) ∧ w'.cell? ⟨w.heap.size + 3, 2, none⟩ = some (.slice zp.d.A zp.d.l.length zp.d.c)) w6.drew from ⟨x0, x1, p0, p1, p2⟩)
      clear hq ha ho B x0 x1 p0 p1 p2 xf pf hs6
      go_wp2_with fail
      try rw [hw6]
      clear hw6 z0 z1 zf
      have x0 := V4.out.c 0 _ rfl
      have x1 := V4.out.c 1 _ rfl
      have p0 := V5.out.c 0 _ rfl
      have p1 := V5.out.c 1 _ rfl
      have p2 := V5.out.c 2 _ rfl
      have xf := V4.out.f
      have pf := V5.out.f
      refine rg_begin (S := (fun w' => w'.cell? ⟨w.heap.size + 2, 0, none⟩ = some (.slice y.q.A y.q.l.length y.q.c) ∧ w'.cell? ⟨w.heap.size + 2, 1, none⟩ = some (.slice y.ap.A y.ap.l.length y.ap.c) ∧ w'.cell? ⟨w.heap.size + 3, 0, none⟩ = some (.int .i64 zp.f) ∧ w'.cell? ⟨w.heap.size + 3, 1, none⟩ = some (.int .i64 zp.t) ∧ w'.cell? ⟨w.heap.size + 3, 2, none⟩ = some (.slice zp.d.A zp.d.l.length zp.d.c))) 4 (by kernel_rfl) (by intro d; cases d <;> intro _ _ _ _ h <;> exact h) ?_ (fun Q7 hQ7 hN7 hHeld => ?_)
      · exact SS.out
      refine rg_take (i := 0) (some 88) (v := ?_) rfl rfl (by kernel_rfl) (by rfl) hQ7 hHeld ?_ ?_
      rotate_left
      · intro w7 hSw; (try dsimp only at hSw); go_simp; all_goals with_reducible rfl
      try simp only [Act.put, List.setIfInBounds_toArray, List.set_cons_zero, List.set_cons_succ]
      refine rg_take (i := 1) (some 89) (v := ?_) rfl rfl (by kernel_rfl) (by rfl) hQ7 hHeld ?_ ?_
      rotate_left
      · intro w7 hSw; (try dsimp only at hSw); go_simp; all_goals with_reducible rfl
      try simp only [Act.put, List.setIfInBounds_toArray, List.set_cons_zero, List.set_cons_succ]
      refine rg_pure (i := 2) (some 90) (v := ?_) rfl rfl (by kernel_rfl) (by rfl) hQ7 (by first | exact .inr hHeld | exact .inl (by kernel_rfl)) ?_ ?_
      rotate_left
      · intro w7; go_simp; all_goals with_reducible rfl
      try simp only [Act.put, List.setIfInBounds_toArray, List.set_cons_zero, List.set_cons_succ]
      refine rg_one (i := 3) (by kernel_rfl) (rg_step rfl (by rfl) (fun K hK => ?_))
      go_simp
      refine hK.out _ _ ?_ (fun hHeld2 => ?_)
      · exact ⟨(V4.out.drew.put2 _ _).c 0 _ rfl, (V4.out.drew.put2 _ _).c 1 _ rfl, (V5.out.drew.off2 (c := w.heap.size + 2) _ _ (by omega)).c 0 _ rfl, (V5.out.drew.off2 (c := w.heap.size + 2) _ _ (by omega)).c 1 _ rfl, (V5.out.drew.off2 (c := w.heap.size + 2) _ _ (by omega)).c 2 _ rfl⟩
      clear hHeld
      have hHeld := hHeld2
      clear hHeld2
      clear hK K
      try simp only [Act.put, List.setIfInBounds_toArray, List.set_cons_zero, List.set_cons_succ]
      refine rg_one (i := 4) (by kernel_rfl) (rg_late rfl (by rfl) (by kernel_rfl) (fun K hK => ?_))
      go_simp
      refine hK.out _ _ ?_
      clear hK K
      try simp only [Act.put, List.setIfInBounds_toArray, List.set_cons_zero, List.set_cons_succ]
      refine rg_one (i := 5) (by kernel_rfl) (rg_late rfl (by rfl) (by kernel_rfl) (fun K hK => ?_))
      go_simp
      refine hK.out _ _ ?_
      clear hK K
      try simp only [Act.put, List.setIfInBounds_toArray, List.set_cons_zero, List.set_cons_succ]
      refine rg_end (by kernel_rfl) (hN7 _ _ ?_) _
      clear hQ7 hN7 Q7
      go_wp2_with fail
      refine bodyPost_ret (v := .tuple #[y.v, zp.v, .int .i64 _]) (by simp [results, Try.results20, go_sem, *]; rfl) rfl ?_
      have ho3' : y.off (w.heap.size + 3) := ho3
      have hE8 := ext_drew (ext_set3 (ext_set2 E6.out (w.heap.size + 1 + 1) (.slice y.q.A y.q.l.length y.q.c) (.slice y.ap.A y.ap.l.length y.ap.c) (by omega)) (w.heap.size + 1 + 1 + 1) (.int .i64 zp.f) (.int .i64 zp.t) (.slice zp.d.A zp.d.l.length zp.d.c) (by omega))
      have hN8 := (((((NY.out.set (p := ⟨w.heap.size + 1 + 1, 0, none⟩) (.slice y.q.A y.q.l.length y.q.c) ho2).set (p := ⟨w.heap.size + 1 + 1, 1, none⟩) (.slice y.ap.A y.ap.l.length y.ap.c) ho2).set (p := ⟨w.heap.size + 1 + 1 + 1, 0, none⟩) (.int .i64 zp.f) ho3').set (p := ⟨w.heap.size + 1 + 1 + 1, 1, none⟩) (.int .i64 zp.t) ho3').set (p := ⟨w.heap.size + 1 + 1 + 1, 2, none⟩) (.slice zp.d.A zp.d.l.length zp.d.c) ho3').ext (ext_drew (ext_refl _))
      unfold set2 set3 at hE8
      refine ⟨y, zp, _, rfl, HAP.out, hN8, ?_, hE8, fun b hb hf => ⟨HOF.out b hb hf, ?_⟩⟩
      · rw [HZP.out]; exact ⟨Slc.nil, by simp [zeroP]⟩
      · rw [HZP.out]; exact fun h => absurd rfl h
    · obtain ⟨zp, hzp⟩ : ∃ p, p = zeroP := ⟨_, rfl⟩
      have HZP := Lib.hid hzp
      clear hzp
      replace Y5 := Lib.hid (show Blk w3 (w.heap.size + 3) [.int .i64 zp.f, .int .i64 zp.t, .slice zp.d.A zp.d.l.length zp.d.c] by rw [HZP.out]; exact Y5.out)
      go_wp2_with fail
      refine (rep_at (n := n) _ _ _ rfl rfl rfl HN.out).mono ?_
      rintro e w5 ⟨y, rfl, hq, ha, hm, B, ho⟩
      have HAP := Lib.hid (show Hap n 3 y zp _ from hap_rep hq ha)
      have hz3 := HZ3.out
      have ho2 : y.off (w.heap.size + 2) := ho _ (by omega) (hn.off (by omega))
      have ho3 : y.off (w.heap.size + 3) := ho _ (by omega) (hn.off (by omega))
      have HOF := Lib.hid (show ∀ b, b < w.heap.size → n.off b → y.off b from fun b hb hf => ho b (by omega) hf)
      have E5 := ext_trans E2.out B
      have U4 := Y4.out.ext B
      have U5 := Y5.out.ext B
      have V4 := Lib.hid (U4.put2 (.slice y.q.A y.q.l.length y.q.c) (.slice y.ap.A y.ap.l.length y.ap.c))
      have V5 := Lib.hid (U5.off2 (c := w.heap.size + 2) (.slice y.q.A y.q.l.length y.q.c) (.slice y.ap.A y.ap.l.length y.ap.c) (by omega))
      have E6 := Lib.hid (ext_set2 E5 (w.heap.size + 2) (.slice y.q.A y.q.l.length y.q.c) (.slice y.ap.A y.ap.l.length y.ap.c) (by omega))
      have NY := Lib.hid ((hm.set (p := ⟨w.heap.size + 2, 0, none⟩) (.slice y.q.A y.q.l.length y.q.c) ho2).set (p := ⟨w.heap.size + 2, 1, none⟩) (.slice y.ap.A y.ap.l.length y.ap.c) ho2)
      have z0 := U4.c 0 _ rfl
      have z1 := U4.c 1 _ rfl
      have zf := U4.f
      obtain ⟨w6, hw6⟩ : ∃ w6, set2 w5 (w.heap.size + 2) (.slice y.q.A y.q.l.length y.q.c) (.slice y.ap.A y.ap.l.length y.ap.c) = w6 := ⟨_, rfl⟩
      have hs6 : w5.heap.size = w6.heap.size := by rw [← hw6, set2_size]
      unfold set2 at hw6 V4 V5 E6 NY
      rw [hw6] at V4 V5 E6 NY
      have x0 := V4.out.c 0 _ rfl
      have x1 := V4.out.c 1 _ rfl
      have xf := V4.out.f
      have p0 := V5.out.c 0 _ rfl
      have p1 := V5.out.c 1 _ rfl
      have p2 := V5.out.c 2 _ rfl
      have pf := V5.out.f
      have SS := Lib.hid (show (fun w' => w'.cell? ⟨w.heap.size + 2, 0, none⟩ = some (.slice y.q.A y.q.l.length y.q.c) ∧ w'.cell? ⟨w.heap.size + 2, 1, none⟩ = some (.slice y.ap.A y.ap.l.length y.ap.c) ∧ w'.cell? ⟨w.heap.size + 3, 0, none⟩ = some (.int .i64 zp.f) ∧ w'.cell? ⟨w.heap.size + 3, 1, none⟩ = some (.int .i64 zp.t) ∧ w'.cell? ⟨w.heap.size + 3, 2, none⟩ = some (.slice zp.d.A zp.d.l.length zp.d.c)) w6.drew from ⟨x0, x1, p0, p1, p2⟩)
      clear hq ha ho B x0 x1 p0 p1 p2 xf pf hs6
      go_wp2_with fail
      try rw [hw6]
      clear hw6 z0 z1 zf
      have x0 := V4.out.c 0 _ rfl
      have x1 := V4.out.c 1 _ rfl
      have p0 := V5.out.c 0 _ rfl
      have p1 := V5.out.c 1 _ rfl
      have p2 := V5.out.c 2 _ rfl
      have xf := V4.out.f
      have pf := V5.out.f
      refine rg_begin (S := (fun w' => w'.cell? ⟨w.heap.size + 2, 0, none⟩ = some (.slice y.q.A y.q.l.length y.q.c) ∧ w'.cell? ⟨w.heap.size + 2, 1, none⟩ = some (.slice y.ap.A y.ap.l.length y.ap.c) ∧ w'.cell? ⟨w.heap.size + 3, 0, none⟩ = some (.int .i64 zp.f) ∧ w'.cell? ⟨w.heap.size + 3, 1, none⟩ = some (.int .i64 zp.t) ∧ w'.cell? ⟨w.heap.size + 3, 2, none⟩ = some (.slice zp.d.A zp.d.l.length zp.d.c))) 4 (by kernel_rfl) (by intro d; cases d <;> intro _ _ _ _ h <;> exact h) ?_ (fun Q7 hQ7 hN7 hHeld => ?_)
      · exact SS.out
      refine rg_take (i := 0) (some 88) (v := ?_) rfl rfl (by kernel_rfl) (by rfl) hQ7 hHeld ?_ ?_
      rotate_left
      · intro w7 hSw; (try dsimp only at hSw); go_simp; all_goals with_reducible rfl
      try simp only [Act.put, List.setIfInBounds_toArray, List.set_cons_zero, List.set_cons_succ]
      refine rg_take (i := 1) (some 89) (v := ?_) rfl rfl (by kernel_rfl) (by rfl) hQ7 hHeld ?_ ?_
      rotate_left
      · intro w7 hSw; (try dsimp only at hSw); go_simp; all_goals with_reducible rfl
      try simp only [Act.put, List.setIfInBounds_toArray, List.set_cons_zero, List.set_cons_succ]
      refine rg_pure (i := 2) (some 90) (v := ?_) rfl rfl (by kernel_rfl) (by rfl) hQ7 (by first | exact .inr hHeld | exact .inl (by kernel_rfl)) ?_ ?_
      rotate_left
      · intro w7; go_simp; all_goals with_reducible rfl
      try simp only [Act.put, List.setIfInBounds_toArray, List.set_cons_zero, List.set_cons_succ]
      refine rg_one (i := 3) (by kernel_rfl) (rg_step rfl (by rfl) (fun K hK => ?_))
      go_simp
      refine hK.out _ _ ?_ (fun hHeld2 => ?_)
      · exact ⟨(V4.out.drew.put2 _ _).c 0 _ rfl, (V4.out.drew.put2 _ _).c 1 _ rfl, (V5.out.drew.off2 (c := w.heap.size + 2) _ _ (by omega)).c 0 _ rfl, (V5.out.drew.off2 (c := w.heap.size + 2) _ _ (by omega)).c 1 _ rfl, (V5.out.drew.off2 (c := w.heap.size + 2) _ _ (by omega)).c 2 _ rfl⟩
      clear hHeld
      have hHeld := hHeld2
      clear hHeld2
      clear hK K
      try simp only [Act.put, List.setIfInBounds_toArray, List.set_cons_zero, List.set_cons_succ]
      refine rg_one (i := 4) (by kernel_rfl) (rg_late rfl (by rfl) (by kernel_rfl) (fun K hK => ?_))
      go_simp
      refine hK.out _ _ ?_
      clear hK K
      try simp only [Act.put, List.setIfInBounds_toArray, List.set_cons_zero, List.set_cons_succ]
      refine rg_one (i := 5) (by kernel_rfl) (rg_late rfl (by rfl) (by kernel_rfl) (fun K hK => ?_))
      go_simp
      refine hK.out _ _ ?_
      clear hK K
      try simp only [Act.put, List.setIfInBounds_toArray, List.set_cons_zero, List.set_cons_succ]
      refine rg_end (by kernel_rfl) (hN7 _ _ ?_) _
      clear hQ7 hN7 Q7
      go_wp2_with fail
      refine bodyPost_ret (v := .tuple #[y.v, zp.v, .int .i64 _]) (by simp [results, Try.results20, go_sem, *]; rfl) rfl ?_
      have ho3' : y.off (w.heap.size + 3) := ho3
      have hE8 := ext_drew (ext_set3 (ext_set2 E6.out (w.heap.size + 1 + 1) (.slice y.q.A y.q.l.length y.q.c) (.slice y.ap.A y.ap.l.length y.ap.c) (by omega)) (w.heap.size + 1 + 1 + 1) (.int .i64 zp.f) (.int .i64 zp.t) (.slice zp.d.A zp.d.l.length zp.d.c) (by omega))
      have hN8 := (((((NY.out.set (p := ⟨w.heap.size + 1 + 1, 0, none⟩) (.slice y.q.A y.q.l.length y.q.c) ho2).set (p := ⟨w.heap.size + 1 + 1, 1, none⟩) (.slice y.ap.A y.ap.l.length y.ap.c) ho2).set (p := ⟨w.heap.size + 1 + 1 + 1, 0, none⟩) (.int .i64 zp.f) ho3').set (p := ⟨w.heap.size + 1 + 1 + 1, 1, none⟩) (.int .i64 zp.t) ho3').set (p := ⟨w.heap.size + 1 + 1 + 1, 2, none⟩) (.slice zp.d.A zp.d.l.length zp.d.c) ho3').ext (ext_drew (ext_refl _))
      unfold set2 set3 at hE8
      refine ⟨y, zp, _, rfl, HAP.out, hN8, ?_, hE8, fun b hb hf => ⟨HOF.out b hb hf, ?_⟩⟩
      · rw [HZP.out]; exact ⟨Slc.nil, by simp [zeroP]⟩
      · rw [HZP.out]; exact fun h => absurd rfl h
    · obtain ⟨zp, hzp⟩ : ∃ p, p = zeroP := ⟨_, rfl⟩
      have HZP := Lib.hid hzp
      clear hzp
      replace Y5 := Lib.hid (show Blk w3 (w.heap.size + 3) [.int .i64 zp.f, .int .i64 zp.t, .slice zp.d.A zp.d.l.length zp.d.c] by rw [HZP.out]; exact Y5.out)
      go_wp2_with fail
      refine (cut_at (n := n) (on := true) _ _ _ rfl rfl rfl HN.out).mono ?_
      rintro e w5 ⟨y, rfl, hq, ha, hm, B, ho⟩
      have HAP := Lib.hid (show Hap n 4 y zp _ from hap_cut (.inl rfl) hq ha)
      have hz3 := HZ3.out
      have ho2 : y.off (w.heap.size + 2) := ho _ (by omega) (hn.off (by omega))
      have ho3 : y.off (w.heap.size + 3) := ho _ (by omega) (hn.off (by omega))
      have HOF := Lib.hid (show ∀ b, b < w.heap.size → n.off b → y.off b from fun b hb hf => ho b (by omega) hf)
      have E5 := ext_trans E2.out B
      have U4 := Y4.out.ext B
      have U5 := Y5.out.ext B
      have V4 := Lib.hid (U4.put2 (.slice y.q.A y.q.l.length y.q.c) (.slice y.ap.A y.ap.l.length y.ap.c))
      have V5 := Lib.hid (U5.off2 (c := w.heap.size + 2) (.slice y.q.A y.q.l.length y.q.c) (.slice y.ap.A y.ap.l.length y.ap.c) (by omega))
      have E6 := Lib.hid (ext_set2 E5 (w.heap.size + 2) (.slice y.q.A y.q.l.length y.q.c) (.slice y.ap.A y.ap.l.length y.ap.c) (by omega))
      have NY := Lib.hid ((hm.set (p := ⟨w.heap.size + 2, 0, none⟩) (.slice y.q.A y.q.l.length y.q.c) ho2).set (p := ⟨w.heap.size + 2, 1, none⟩) (.slice y.ap.A y.ap.l.length y.ap.c) ho2)
      have z0 := U4.c 0 _ rfl
      have z1 := U4.c 1 _ rfl
      have zf := U4.f
      obtain ⟨w6, hw6⟩ : ∃ w6, set2 w5 (w.heap.size + 2) (.slice y.q.A y.q.l.length y.q.c) (.slice y.ap.A y.ap.l.length y.ap.c) = w6 := ⟨_, rfl⟩
      have hs6 : w5.heap.size = w6.heap.size := by rw [← hw6, set2_size]
      unfold set2 at hw6 V4 V5 E6 NY
      rw [hw6] at V4 V5 E6 NY
      have x0 := V4.out.c 0 _ rfl
      have x1 := V4.out.c 1 _ rfl
      have xf := V4.out.f
      have p0 := V5.out.c 0 _ rfl
      have p1 := V5.out.c 1 _ rfl
      have p2 := V5.out.c 2 _ rfl
      have pf := V5.out.f
      have SS := Lib.hid (show (fun w' => w'.cell? ⟨w.heap.size + 2, 0, none⟩ = some (.slice y.q.A y.q.l.length y.q.c) ∧ w'.cell? ⟨w.heap.size + 2, 1, none⟩ = some (.slice y.ap.A y.ap.l.length y.ap.c) ∧ w'.cell? ⟨w.heap.size + 3, 0, none⟩ = some (.int .i64 zp.f) ∧ w'.cell? ⟨w.heap.size + 3, 1, none⟩ = some (.int .i64 zp.t) ∧ w'.cell? ⟨w.heap.size + 3, 2, none⟩ = some (.slice zp.d.A zp.d.l.length zp.d.c)) w6.drew from ⟨x0, x1, p0, p1, p2⟩)
      clear hq ha ho B x0 x1 p0 p1 p2 xf pf hs6
      go_wp2_with fail
      try rw [hw6]
      clear hw6 z0 z1 zf
      have x0 := V4.out.c 0 _ rfl
      have x1 := V4.out.c 1 _ rfl
      have p0 := V5.out.c 0 _ rfl
      have p1 := V5.out.c 1 _ rfl
      have p2 := V5.out.c 2 _ rfl
      have xf := V4.out.f
      have pf := V5.out.f
      refine rg_begin (S := (fun w' => w'.cell? ⟨w.heap.size + 2, 0, none⟩ = some (.slice y.q.A y.q.l.length y.q.c) ∧ w'.cell? ⟨w.heap.size + 2, 1, none⟩ = some (.slice y.ap.A y.ap.l.length y.ap.c) ∧ w'.cell? ⟨w.heap.size + 3, 0, none⟩ = some (.int .i64 zp.f) ∧ w'.cell? ⟨w.heap.size + 3, 1, none⟩ = some (.int .i64 zp.t) ∧ w'.cell? ⟨w.heap.size + 3, 2, none⟩ = some (.slice zp.d.A zp.d.l.length zp.d.c))) 4 (by kernel_rfl) (by intro d; cases d <;> intro _ _ _ _ h <;> exact h) ?_ (fun Q7 hQ7 hN7 hHeld => ?_)
      · exact SS.out
      refine rg_take (i := 0) (some 88) (v := ?_) rfl rfl (by kernel_rfl) (by rfl) hQ7 hHeld ?_ ?_
      rotate_left
      · intro w7 hSw; (try dsimp only at hSw); go_simp; all_goals with_reducible rfl
      try simp only [Act.put, List.setIfInBounds_toArray, List.set_cons_zero, List.set_cons_succ]
      refine rg_take (i := 1) (some 89) (v := ?_) rfl rfl (by kernel_rfl) (by rfl) hQ7 hHeld ?_ ?_
      rotate_left
      · intro w7 hSw; (try dsimp only at hSw); go_simp; all_goals with_reducible rfl
      try simp only [Act.put, List.setIfInBounds_toArray, List.set_cons_zero, List.set_cons_succ]
      refine rg_pure (i := 2) (some 90) (v := ?_) rfl rfl (by kernel_rfl) (by rfl) hQ7 (by first | exact .inr hHeld | exact .inl (by kernel_rfl)) ?_ ?_
      rotate_left
      · intro w7; go_simp; all_goals with_reducible rfl
      try simp only [Act.put, List.setIfInBounds_toArray, List.set_cons_zero, List.set_cons_succ]
      refine rg_one (i := 3) (by kernel_rfl) (rg_step rfl (by rfl) (fun K hK => ?_))
      go_simp
      refine hK.out _ _ ?_ (fun hHeld2 => ?_)
      · exact ⟨(V4.out.drew.put2 _ _).c 0 _ rfl, (V4.out.drew.put2 _ _).c 1 _ rfl, (V5.out.drew.off2 (c := w.heap.size + 2) _ _ (by omega)).c 0 _ rfl, (V5.out.drew.off2 (c := w.heap.size + 2) _ _ (by omega)).c 1 _ rfl, (V5.out.drew.off2 (c := w.heap.size + 2) _ _ (by omega)).c 2 _ rfl⟩
      clear hHeld
      have hHeld := hHeld2
      clear hHeld2
      clear hK K
      try simp only [Act.put, List.setIfInBounds_toArray, List.set_cons_zero, List.set_cons_succ]
      refine rg_one (i := 4) (by kernel_rfl) (rg_late rfl (by rfl) (by kernel_rfl) (fun K hK => ?_))
      go_simp
      refine hK.out _ _ ?_
      clear hK K
      try simp only [Act.put, List.setIfInBounds_toArray, List.set_cons_zero, List.set_cons_succ]
      refine rg_one (i := 5) (by kernel_rfl) (rg_late rfl (by rfl) (by kernel_rfl) (fun K hK => ?_))
      go_simp
      refine hK.out _ _ ?_
      clear hK K
      try simp only [Act.put, List.setIfInBounds_toArray, List.set_cons_zero, List.set_cons_succ]
      refine rg_end (by kernel_rfl) (hN7 _ _ ?_) _
      clear hQ7 hN7 Q7
      go_wp2_with fail
      refine bodyPost_ret (v := .tuple #[y.v, zp.v, .int .i64 _]) (by simp [results, Try.results20, go_sem, *]; rfl) rfl ?_
      have ho3' : y.off (w.heap.size + 3) := ho3
      have hE8 := ext_drew (ext_set3 (ext_set2 E6.out (w.heap.size + 1 + 1) (.slice y.q.A y.q.l.length y.q.c) (.slice y.ap.A y.ap.l.length y.ap.c) (by omega)) (w.heap.size + 1 + 1 + 1) (.int .i64 zp.f) (.int .i64 zp.t) (.slice zp.d.A zp.d.l.length zp.d.c) (by omega))
      have hN8 := (((((NY.out.set (p := ⟨w.heap.size + 1 + 1, 0, none⟩) (.slice y.q.A y.q.l.length y.q.c) ho2).set (p := ⟨w.heap.size + 1 + 1, 1, none⟩) (.slice y.ap.A y.ap.l.length y.ap.c) ho2).set (p := ⟨w.heap.size + 1 + 1 + 1, 0, none⟩) (.int .i64 zp.f) ho3').set (p := ⟨w.heap.size + 1 + 1 + 1, 1, none⟩) (.int .i64 zp.t) ho3').set (p := ⟨w.heap.size + 1 + 1 + 1, 2, none⟩) (.slice zp.d.A zp.d.l.length zp.d.c) ho3').ext (ext_drew (ext_refl _))
      unfold set2 set3 at hE8
      refine ⟨y, zp, _, rfl, HAP.out, hN8, ?_, hE8, fun b hb hf => ⟨HOF.out b hb hf, ?_⟩⟩
      · rw [HZP.out]; exact ⟨Slc.nil, by simp [zeroP]⟩
      · rw [HZP.out]; exact fun h => absurd rfl h
    · obtain ⟨zp, hzp⟩ : ∃ p, p = zeroP := ⟨_, rfl⟩
      have HZP := Lib.hid hzp
      clear hzp
      replace Y5 := Lib.hid (show Blk w3 (w.heap.size + 3) [.int .i64 zp.f, .int .i64 zp.t, .slice zp.d.A zp.d.l.length zp.d.c] by rw [HZP.out]; exact Y5.out)
      go_wp2_with fail
      refine (cut_at (n := n) (on := false) _ _ _ rfl rfl rfl HN.out).mono ?_
      rintro e w5 ⟨y, rfl, hq, ha, hm, B, ho⟩
      have HAP := Lib.hid (show Hap n 5 y zp _ from hap_cut (.inr ⟨rfl, rfl⟩) hq ha)
      have hz3 := HZ3.out
      have ho2 : y.off (w.heap.size + 2) := ho _ (by omega) (hn.off (by omega))
      have ho3 : y.off (w.heap.size + 3) := ho _ (by omega) (hn.off (by omega))
      have HOF := Lib.hid (show ∀ b, b < w.heap.size → n.off b → y.off b from fun b hb hf => ho b (by omega) hf)
      have E5 := ext_trans E2.out B
      have U4 := Y4.out.ext B
      have U5 := Y5.out.ext B
      have V4 := Lib.hid (U4.put2 (.slice y.q.A y.q.l.length y.q.c) (.slice y.ap.A y.ap.l.length y.ap.c))
      have V5 := Lib.hid (U5.off2 (c := w.heap.size + 2) (.slice y.q.A y.q.l.length y.q.c) (.slice y.ap.A y.ap.l.length y.ap.c) (by omega))
      have E6 := Lib.hid (ext_set2 E5 (w.heap.size + 2) (.slice y.q.A y.q.l.length y.q.c) (.slice y.ap.A y.ap.l.length y.ap.c) (by omega))
      have NY := Lib.hid ((hm.set (p := ⟨w.heap.size + 2, 0, none⟩) (.slice y.q.A y.q.l.length y.q.c) ho2).set (p := ⟨w.heap.size + 2, 1, none⟩) (.slice y.ap.A y.ap.l.length y.ap.c) ho2)
      have z0 := U4.c 0 _ rfl
      have z1 := U4.c 1 _ rfl
      have zf := U4.f
      obtain ⟨w6, hw6⟩ : ∃ w6, set2 w5 (w.heap.size + 2) (.slice y.q.A y.q.l.length y.q.c) (.slice y.ap.A y.ap.l.length y.ap.c) = w6 := ⟨_, rfl⟩
      have hs6 : w5.heap.size = w6.heap.size := by rw [← hw6, set2_size]
      unfold set2 at hw6 V4 V5 E6 NY
      rw [hw6] at V4 V5 E6 NY
      have x0 := V4.out.c 0 _ rfl
      have x1 := V4.out.c 1 _ rfl
      have xf := V4.out.f
      have p0 := V5.out.c 0 _ rfl
      have p1 := V5.out.c 1 _ rfl
      have p2 := V5.out.c 2 _ rfl
      have pf := V5.out.f
      have SS := Lib.hid (show (fun w' => w'.cell? ⟨w.heap.size + 2, 0, none⟩ = some (.slice y.q.A y.q.l.length y.q.c) ∧ w'.cell? ⟨w.heap.size + 2, 1, none⟩ = some (.slice y.ap.A y.ap.l.length y.ap.c) ∧ w'.cell? ⟨w.heap.size + 3, 0, none⟩ = some (.int .i64 zp.f) ∧ w'.cell? ⟨w.heap.size + 3, 1, none⟩ = some (.int .i64 zp.t) ∧ w'.cell? ⟨w.heap.size + 3, 2, none⟩ = some (.slice zp.d.A zp.d.l.length zp.d.c)) w6.drew from ⟨x0, x1, p0, p1, p2⟩)
      clear hq ha ho B x0 x1 p0 p1 p2 xf pf hs6
      go_wp2_with fail
      try rw [hw6]
      clear hw6 z0 z1 zf
      have x0 := V4.out.c 0 _ rfl
      have x1 := V4.out.c 1 _ rfl
      have p0 := V5.out.c 0 _ rfl
      have p1 := V5.out.c 1 _ rfl
      have p2 := V5.out.c 2 _ rfl
      have xf := V4.out.f
      have pf := V5.out.f
      refine rg_begin (S := (fun w' => w'.cell? ⟨w.heap.size + 2, 0, none⟩ = some (.slice y.q.A y.q.l.length y.q.c) ∧ w'.cell? ⟨w.heap.size + 2, 1, none⟩ = some (.slice y.ap.A y.ap.l.length y.ap.c) ∧ w'.cell? ⟨w.heap.size + 3, 0, none⟩ = some (.int .i64 zp.f) ∧ w'.cell? ⟨w.heap.size + 3, 1, none⟩ = some (.int .i64 zp.t) ∧ w'.cell? ⟨w.heap.size + 3, 2, none⟩ = some (.slice zp.d.A zp.d.l.length zp.d.c))) 4 (by kernel_rfl) (by intro d; cases d <;> intro _ _ _ _ h <;> exact h) ?_ (fun Q7 hQ7 hN7 hHeld => ?_)
      · exact SS.out
      refine rg_take (i := 0) (some 88) (v := ?_) rfl rfl (by kernel_rfl) (by rfl) hQ7 hHeld ?_ ?_
      rotate_left
      · intro w7 hSw; (try dsimp only at hSw); go_simp; all_goals with_reducible rfl
      try simp only [Act.put, List.setIfInBounds_toArray, List.set_cons_zero, List.set_cons_succ]
      refine rg_take (i := 1) (some 89) (v := ?_) rfl rfl (by kernel_rfl) (by rfl) hQ7 hHeld ?_ ?_
      rotate_left
      · intro w7 hSw; (try dsimp only at hSw); go_simp; all_goals with_reducible rfl
      try simp only [Act.put, List.setIfInBounds_toArray, List.set_cons_zero, List.set_cons_succ]
      refine rg_pure (i := 2) (some 90) (v := ?_) rfl rfl (by kernel_rfl) (by rfl) hQ7 (by first | exact .inr hHeld | exact .inl (by kernel_rfl)) ?_ ?_
      rotate_left
      · intro w7; go_simp; all_goals with_reducible rfl
      try simp only [Act.put, List.setIfInBounds_toArray, List.set_cons_zero, List.set_cons_succ]
      refine rg_one (i := 3) (by kernel_rfl) (rg_step rfl (by rfl) (fun K hK => ?_))
      go_simp
      refine hK.out _ _ ?_ (fun hHeld2 => ?_)
      · exact ⟨(V4.out.drew.put2 _ _).c 0 _ rfl, (V4.out.drew.put2 _ _).c 1 _ rfl, (V5.out.drew.off2 (c := w.heap.size + 2) _ _ (by omega)).c 0 _ rfl, (V5.out.drew.off2 (c := w.heap.size + 2) _ _ (by omega)).c 1 _ rfl, (V5.out.drew.off2 (c := w.heap.size + 2) _ _ (by omega)).c 2 _ rfl⟩
      clear hHeld
      have hHeld := hHeld2
      clear hHeld2
      clear hK K
      try simp only [Act.put, List.setIfInBounds_toArray, List.set_cons_zero, List.set_cons_succ]
      refine rg_one (i := 4) (by kernel_rfl) (rg_late rfl (by rfl) (by kernel_rfl) (fun K hK => ?_))
      go_simp
      refine hK.out _ _ ?_
      clear hK K
      try simp only [Act.put, List.setIfInBounds_toArray, List.set_cons_zero, List.set_cons_succ]
      refine rg_one (i := 5) (by kernel_rfl) (rg_late rfl (by rfl) (by kernel_rfl) (fun K hK => ?_))
      go_simp
      refine hK.out _ _ ?_
      clear hK K
      try simp only [Act.put, List.setIfInBounds_toArray, List.set_cons_zero, List.set_cons_succ]
      refine rg_end (by kernel_rfl) (hN7 _ _ ?_) _
      clear hQ7 hN7 Q7
      go_wp2_with fail
      refine bodyPost_ret (v := .tuple #[y.v, zp.v, .int .i64 _]) (by simp [results, Try.results20, go_sem, *]; rfl) rfl ?_
      have ho3' : y.off (w.heap.size + 3) := ho3
      have hE8 := ext_drew (ext_set3 (ext_set2 E6.out (w.heap.size + 1 + 1) (.slice y.q.A y.q.l.length y.q.c) (.slice y.ap.A y.ap.l.length y.ap.c) (by omega)) (w.heap.size + 1 + 1 + 1) (.int .i64 zp.f) (.int .i64 zp.t) (.slice zp.d.A zp.d.l.length zp.d.c) (by omega))
      have hN8 := (((((NY.out.set (p := ⟨w.heap.size + 1 + 1, 0, none⟩) (.slice y.q.A y.q.l.length y.q.c) ho2).set (p := ⟨w.heap.size + 1 + 1, 1, none⟩) (.slice y.ap.A y.ap.l.length y.ap.c) ho2).set (p := ⟨w.heap.size + 1 + 1 + 1, 0, none⟩) (.int .i64 zp.f) ho3').set (p := ⟨w.heap.size + 1 + 1 + 1, 1, none⟩) (.int .i64 zp.t) ho3').set (p := ⟨w.heap.size + 1 + 1 + 1, 2, none⟩) (.slice zp.d.A zp.d.l.length zp.d.c) ho3').ext (ext_drew (ext_refl _))
      unfold set2 set3 at hE8
      refine ⟨y, zp, _, rfl, HAP.out, hN8, ?_, hE8, fun b hb hf => ⟨HOF.out b hb hf, ?_⟩⟩
      · rw [HZP.out]; exact ⟨Slc.nil, by simp [zeroP]⟩
      · rw [HZP.out]; exact fun h => absurd rfl h
  · have hl0 : (0 : Int) < n.q.l.length := by omega
    obtain ⟨at0, hat⟩ : ∃ a, mv.at_ % (n.q.l.length : Int) = a := ⟨_, rfl⟩
    have hat2 : mv.at_.tmod (n.q.l.length : Int) = at0 := by rw [Int.tmod_eq_emod_of_nonneg t0]; exact hat
    clear hl
    go_enter Try.func20, Try.ntmps20
    go_wp2_with fail
    try rw [hw2]
    clear hw2
    refine rg_begin (S := (fun w' => w'.cell? ⟨w.heap.size + 1, 2, none⟩ = some (.int .u8 mv.a) ∧ w'.cell? ⟨w.heap.size + 1, 3, none⟩ = some (.int .u8 mv.b))) 10 (by kernel_rfl) (by intro d; cases d <;> intro _ _ _ _ h <;> exact h) ?_ (fun Q7 hQ7 hN7 hHeld => ?_)
    · exact SS.out
    refine rg_take (i := 0) (some 21) (v := ?_) rfl rfl (by kernel_rfl) (by rfl) hQ7 hHeld ?_ ?_
    rotate_left
    · intro w7 hSw; (try dsimp only at hSw); go_simp; all_goals with_reducible rfl
    try simp only [Act.put, List.setIfInBounds_toArray, List.set_cons_zero, List.set_cons_succ]
    refine rg_take (i := 1) (some 22) (v := ?_) rfl rfl (by kernel_rfl) (by rfl) hQ7 hHeld ?_ ?_
    rotate_left
    · intro w7 hSw; (try dsimp only at hSw); go_simp; all_goals with_reducible rfl
    try simp only [Act.put, List.setIfInBounds_toArray, List.set_cons_zero, List.set_cons_succ]
    refine rg_take (i := 2) (some 23) (v := ?_) rfl rfl (by kernel_rfl) (by rfl) hQ7 hHeld ?_ ?_
    rotate_left
    · intro w7 hSw; (try dsimp only at hSw); go_simp; all_goals with_reducible rfl
    try simp only [Act.put, List.setIfInBounds_toArray, List.set_cons_zero, List.set_cons_succ]
    refine rg_take (i := 3) (some 24) (v := ?_) rfl rfl (by kernel_rfl) (by rfl) hQ7 hHeld ?_ ?_
    rotate_left
    · intro w7 hSw; (try dsimp only at hSw); go_simp; all_goals with_reducible rfl
    try simp only [Act.put, List.setIfInBounds_toArray, List.set_cons_zero, List.set_cons_succ]
    refine rg_take (i := 4) (some 25) (v := ?_) rfl rfl (by kernel_rfl) (by rfl) hQ7 hHeld ?_ ?_
    rotate_left
    · intro w7 hSw; (try dsimp only at hSw); go_simp; all_goals with_reducible rfl
    try simp only [Act.put, List.setIfInBounds_toArray, List.set_cons_zero, List.set_cons_succ]
    refine rg_take (i := 5) (some 26) (v := ?_) rfl rfl (by kernel_rfl) (by rfl) hQ7 hHeld ?_ ?_
    rotate_left
    · intro w7 hSw; (try dsimp only at hSw); go_simp; all_goals with_reducible rfl
    try simp only [Act.put, List.setIfInBounds_toArray, List.set_cons_zero, List.set_cons_succ]
    refine rg_take (i := 6) (some 27) (v := ?_) rfl rfl (by kernel_rfl) (by rfl) hQ7 hHeld ?_ ?_
    rotate_left
    · intro w7 hSw; (try dsimp only at hSw); go_simp; all_goals with_reducible rfl
    try simp only [Act.put, List.setIfInBounds_toArray, List.set_cons_zero, List.set_cons_succ]
    refine rg_take (i := 7) (some 28) (v := ?_) rfl rfl (by kernel_rfl) (by rfl) hQ7 hHeld ?_ ?_
    rotate_left
    · intro w7 hSw; (try dsimp only at hSw); go_simp; all_goals with_reducible rfl
    try simp only [Act.put, List.setIfInBounds_toArray, List.set_cons_zero, List.set_cons_succ]
    refine rg_take (i := 8) (some 8) (v := ?_) rfl rfl (by kernel_rfl) (by rfl) hQ7 hHeld ?_ ?_
    rotate_left
    · intro w7 hSw; (try dsimp only at hSw); go_simp; all_goals with_reducible rfl
    try simp only [Act.put, List.setIfInBounds_toArray, List.set_cons_zero, List.set_cons_succ]
    refine rg_take (i := 9) (some 9) (v := ?_) rfl rfl (by kernel_rfl) (by rfl) hQ7 hHeld ?_ ?_
    rotate_left
    · intro w7 hSw; (try dsimp only at hSw); go_simp; all_goals with_reducible rfl
    try simp only [Act.put, List.setIfInBounds_toArray, List.set_cons_zero, List.set_cons_succ]
    refine rg_end (by kernel_rfl) (hN7 _ _ ?_) _
    clear hQ7 hN7 Q7
    clear hHeld SS
    have E2 := Lib.hid (ext_drew E.out)
    have Y4 := Lib.hid X4.out.drew
    have Y5 := Lib.hid X5.out.drew
    have HN := Lib.hid (hn.ext E2.out)
    clear X2 X3 X4 X5 E
    obtain ⟨w3, hw3⟩ : ∃ w3, w2.drew = w3 := ⟨_, rfl⟩
    have n0' : w3.cell? ⟨w.heap.size, 0, none⟩ = some (.slice n.q.A n.q.l.length n.q.c) := by rw [← hw3]; exact n0
    have n1' : w3.cell? ⟨w.heap.size, 1, none⟩ = some (.slice n.ap.A n.ap.l.length n.ap.c) := by rw [← hw3]; exact n1
    have m0' : w3.cell? ⟨w.heap.size + 1, 0, none⟩ = some (.int .u8 mv.k) := by rw [← hw3]; exact m0
    have m4' : w3.cell? ⟨w.heap.size + 1, 4, none⟩ = some (.int .u8 mv.d) := by rw [← hw3]; exact m4
    have HZ3 := Lib.hid (show w3.heap.size = w.heap.size + 4 by rw [← hw3]; exact HZ2.out)
    rw [hw3] at E2 Y4 Y5 HN ⊢
    clear hw3 n0 n1 m0 m1 m2 m3 m4 HZ2
    rcases hcase with rfl | rfl | rfl | rfl | rfl | rfl
    · obtain ⟨zp, hzp⟩ : ∃ p, p = zeroP := ⟨_, rfl⟩
      have HZP := Lib.hid hzp
      clear hzp
      replace Y5 := Lib.hid (show Blk w3 (w.heap.size + 3) [.int .i64 zp.f, .int .i64 zp.t, .slice zp.d.A zp.d.l.length zp.d.c] by rw [HZP.out]; exact Y5.out)
      go_wp2_with fail
      refine (send_at (n := n) (p := ⟨_, _, ⟨some ⟨w3.heap.size, 0, none⟩, 1, [mv.d]⟩⟩) _ _ _ rfl rfl rfl (HN.out.alloc _) (slc_litH w3 [mv.d] #[.int .u8 mv.d] 5 (enc := bc) (sz := 1) (fun _ => rfl) rfl w3.heap.size rfl) (by simp [maxLen])).mono ?_
      rintro e w5 ⟨y, rfl, hq, ha, hm, B, ho⟩
      have HAP := Lib.hid (show Hap n 0 y zp _ from hap_send hq ha)
      have hz3 := HZ3.out
      have ho2 : y.off (w.heap.size + 2) := ho _ (by simp; omega) ⟨hn.off (by omega), fun _ c o s e => by cases e; omega⟩
      have ho3 : y.off (w.heap.size + 3) := ho _ (by simp; omega) ⟨hn.off (by omega), fun _ c o s e => by cases e; omega⟩
      have HOF := Lib.hid (show ∀ b, b < w.heap.size → n.off b → y.off b from fun b hb hf => ho b (by simp; omega) ⟨hf, fun _ c o s e => by cases e; omega⟩)
      have E5 := ext_trans E2.out (ext_trans (ext_alloc (ext_refl w3) (.cells #[.int .u8 mv.d] 5)) B)
      have U4 := Y4.out.ext (ext_trans (ext_alloc (ext_refl w3) (.cells #[.int .u8 mv.d] 5)) B)
      have U5 := Y5.out.ext (ext_trans (ext_alloc (ext_refl w3) (.cells #[.int .u8 mv.d] 5)) B)
      have V4 := Lib.hid (U4.put2 (.slice y.q.A y.q.l.length y.q.c) (.slice y.ap.A y.ap.l.length y.ap.c))
      have V5 := Lib.hid (U5.off2 (c := w.heap.size + 2) (.slice y.q.A y.q.l.length y.q.c) (.slice y.ap.A y.ap.l.length y.ap.c) (by omega))
      have E6 := Lib.hid (ext_set2 E5 (w.heap.size + 2) (.slice y.q.A y.q.l.length y.q.c) (.slice y.ap.A y.ap.l.length y.ap.c) (by omega))
      have NY := Lib.hid ((hm.set (p := ⟨w.heap.size + 2, 0, none⟩) (.slice y.q.A y.q.l.length y.q.c) ho2).set (p := ⟨w.heap.size + 2, 1, none⟩) (.slice y.ap.A y.ap.l.length y.ap.c) ho2)
      have z0 := U4.c 0 _ rfl
      have z1 := U4.c 1 _ rfl
      have zf := U4.f
      obtain ⟨w6, hw6⟩ : ∃ w6, set2 w5 (w.heap.size + 2) (.slice y.q.A y.q.l.length y.q.c) (.slice y.ap.A y.ap.l.length y.ap.c) = w6 := ⟨_, rfl⟩
      have hs6 : w5.heap.size = w6.heap.size := by rw [← hw6, set2_size]
      unfold set2 at hw6 V4 V5 E6 NY
      rw [hw6] at V4 V5 E6 NY
      have x0 := V4.out.c 0 _ rfl
      have x1 := V4.out.c 1 _ rfl
      have xf := V4.out.f
      have p0 := V5.out.c 0 _ rfl
      have p1 := V5.out.c 1 _ rfl
      have p2 := V5.out.c 2 _ rfl
      have pf := V5.out.f
      have SS := Lib.hid (show (fun w' => w'.cell? ⟨w.heap.size + 2, 0, none⟩ = some (.slice y.q.A y.q.l.length y.q.c) ∧ w'.cell? ⟨w.heap.size + 2, 1, none⟩ = some (.slice y.ap.A y.ap.l.length y.ap.c) ∧ w'.cell? ⟨w.heap.size + 3, 0, none⟩ = some (.int .i64 zp.f) ∧ w'.cell? ⟨w.heap.size + 3, 1, none⟩ = some (.int .i64 zp.t) ∧ w'.cell? ⟨w.heap.size + 3, 2, none⟩ = some (.slice zp.d.A zp.d.l.length zp.d.c)) w6.drew from ⟨x0, x1, p0, p1, p2⟩)
      clear hq ha ho B x0 x1 p0 p1 p2 xf pf hs6
      go_wp2_with fail
      try rw [hw6]
      clear hw6 z0 z1 zf
      have x0 := V4.out.c 0 _ rfl
      have x1 := V4.out.c 1 _ rfl
      have p0 := V5.out.c 0 _ rfl
      have p1 := V5.out.c 1 _ rfl
      have p2 := V5.out.c 2 _ rfl
      have xf := V4.out.f
      have pf := V5.out.f
      refine rg_begin (S := (fun w' => w'.cell? ⟨w.heap.size + 2, 0, none⟩ = some (.slice y.q.A y.q.l.length y.q.c) ∧ w'.cell? ⟨w.heap.size + 2, 1, none⟩ = some (.slice y.ap.A y.ap.l.length y.ap.c) ∧ w'.cell? ⟨w.heap.size + 3, 0, none⟩ = some (.int .i64 zp.f) ∧ w'.cell? ⟨w.heap.size + 3, 1, none⟩ = some (.int .i64 zp.t) ∧ w'.cell? ⟨w.heap.size + 3, 2, none⟩ = some (.slice zp.d.A zp.d.l.length zp.d.c))) 4 (by kernel_rfl) (by intro d; cases d <;> intro _ _ _ _ h <;> exact h) ?_ (fun Q7 hQ7 hN7 hHeld => ?_)
      · exact SS.out
      refine rg_take (i := 0) (some 88) (v := ?_) rfl rfl (by kernel_rfl) (by rfl) hQ7 hHeld ?_ ?_
      rotate_left
      · intro w7 hSw; (try dsimp only at hSw); go_simp; all_goals with_reducible rfl
      try simp only [Act.put, List.setIfInBounds_toArray, List.set_cons_zero, List.set_cons_succ]
      refine rg_take (i := 1) (some 89) (v := ?_) rfl rfl (by kernel_rfl) (by rfl) hQ7 hHeld ?_ ?_
      rotate_left
      · intro w7 hSw; (try dsimp only at hSw); go_simp; all_goals with_reducible rfl
      try simp only [Act.put, List.setIfInBounds_toArray, List.set_cons_zero, List.set_cons_succ]
      refine rg_pure (i := 2) (some 90) (v := ?_) rfl rfl (by kernel_rfl) (by rfl) hQ7 (by first | exact .inr hHeld | exact .inl (by kernel_rfl)) ?_ ?_
      rotate_left
      · intro w7; go_simp; all_goals with_reducible rfl
      try simp only [Act.put, List.setIfInBounds_toArray, List.set_cons_zero, List.set_cons_succ]
      refine rg_one (i := 3) (by kernel_rfl) (rg_step rfl (by rfl) (fun K hK => ?_))
      go_simp
      refine hK.out _ _ ?_ (fun hHeld2 => ?_)
      · exact ⟨(V4.out.drew.put2 _ _).c 0 _ rfl, (V4.out.drew.put2 _ _).c 1 _ rfl, (V5.out.drew.off2 (c := w.heap.size + 2) _ _ (by omega)).c 0 _ rfl, (V5.out.drew.off2 (c := w.heap.size + 2) _ _ (by omega)).c 1 _ rfl, (V5.out.drew.off2 (c := w.heap.size + 2) _ _ (by omega)).c 2 _ rfl⟩
      clear hHeld
      have hHeld := hHeld2
      clear hHeld2
      clear hK K
      try simp only [Act.put, List.setIfInBounds_toArray, List.set_cons_zero, List.set_cons_succ]
      refine rg_one (i := 4) (by kernel_rfl) (rg_late rfl (by rfl) (by kernel_rfl) (fun K hK => ?_))
      go_simp
      refine hK.out _ _ ?_
      clear hK K
      try simp only [Act.put, List.setIfInBounds_toArray, List.set_cons_zero, List.set_cons_succ]
      refine rg_one (i := 5) (by kernel_rfl) (rg_late rfl (by rfl) (by kernel_rfl) (fun K hK => ?_))
      go_simp
      refine hK.out _ _ ?_
      clear hK K
      try simp only [Act.put, List.setIfInBounds_toArray, List.set_cons_zero, List.set_cons_succ]
      refine rg_end (by kernel_rfl) (hN7 _ _ ?_) _
      clear hQ7 hN7 Q7
      go_wp2_with fail
      refine bodyPost_ret (v := .tuple #[y.v, zp.v, .int .i64 _]) (by simp [results, Try.results20, go_sem, *]; rfl) rfl ?_
      have ho3' : y.off (w.heap.size + 3) := ho3
      have hE8 := ext_drew (ext_set3 (ext_set2 E6.out (w.heap.size + 1 + 1) (.slice y.q.A y.q.l.length y.q.c) (.slice y.ap.A y.ap.l.length y.ap.c) (by omega)) (w.heap.size + 1 + 1 + 1) (.int .i64 zp.f) (.int .i64 zp.t) (.slice zp.d.A zp.d.l.length zp.d.c) (by omega))
      have hN8 := (((((NY.out.set (p := ⟨w.heap.size + 1 + 1, 0, none⟩) (.slice y.q.A y.q.l.length y.q.c) ho2).set (p := ⟨w.heap.size + 1 + 1, 1, none⟩) (.slice y.ap.A y.ap.l.length y.ap.c) ho2).set (p := ⟨w.heap.size + 1 + 1 + 1, 0, none⟩) (.int .i64 zp.f) ho3').set (p := ⟨w.heap.size + 1 + 1 + 1, 1, none⟩) (.int .i64 zp.t) ho3').set (p := ⟨w.heap.size + 1 + 1 + 1, 2, none⟩) (.slice zp.d.A zp.d.l.length zp.d.c) ho3').ext (ext_drew (ext_refl _))
      unfold set2 set3 at hE8
      refine ⟨y, zp, _, rfl, HAP.out, hN8, ?_, hE8, fun b hb hf => ⟨HOF.out b hb hf, ?_⟩⟩
      · rw [HZP.out]; exact ⟨Slc.nil, by simp [zeroP]⟩
      · rw [HZP.out]; exact fun h => absurd rfl h
    · obtain ⟨zp, hzp⟩ : ∃ p, p = zeroP := ⟨_, rfl⟩
      have HZP := Lib.hid hzp
      clear hzp
      replace Y5 := Lib.hid (show Blk w3 (w.heap.size + 3) [.int .i64 zp.f, .int .i64 zp.t, .slice zp.d.A zp.d.l.length zp.d.c] by rw [HZP.out]; exact Y5.out)
      obtain ⟨dp, hdp⟩ : ∃ p, n.delP (at0) = p := ⟨_, rfl⟩
      have HDP := Lib.hid hdp
      clear hdp
      go_wp2_with fail
      refine (deliver_at (n := n) (i := at0) dp _ _ _ HDP.out rfl rfl rfl HN.out).mono ?_
      rintro e w5 ⟨y, rfl, hq, ha, hm, B, ho⟩
      have HAP := Lib.hid (show Hap n 1 y dp _ by rw [← HDP.out]; exact hap_del hq ha)
      have hz3 := HZ3.out
      have ho2 : y.off (w.heap.size + 2) := ho _ (by omega) (hn.off (by omega))
      have HOF := Lib.hid (show ∀ b, b < w.heap.size → n.off b → y.off b from fun b hb hf => ho b (by omega) hf)
      have E5 := ext_trans E2.out B
      have U4 := Y4.out.ext B
      have U5 := Y5.out.ext B
      have ho3 : y.off (w.heap.size + 3) := ho _ (by omega) (hn.off (by omega))
      have U5' := U5.put3 (.int .i64 dp.f) (.int .i64 dp.t) (.slice dp.d.A dp.d.l.length dp.d.c)
      have U4' := U4.off3 (c := w.heap.size + 3) (.int .i64 dp.f) (.int .i64 dp.t) (.slice dp.d.A dp.d.l.length dp.d.c) (by omega)
      have E5' := ext_set3 E5 (w.heap.size + 3) (.int .i64 dp.f) (.int .i64 dp.t) (.slice dp.d.A dp.d.l.length dp.d.c) (by omega)
      have hm' := ((hm.set (p := ⟨w.heap.size + 3, 0, none⟩) (.int .i64 dp.f) ho3).set (p := ⟨w.heap.size + 3, 1, none⟩) (.int .i64 dp.t) ho3).set (p := ⟨w.heap.size + 3, 2, none⟩) (.slice dp.d.A dp.d.l.length dp.d.c) ho3
      have a0 := U5.c 0 _ rfl
      have a1 := U5.c 1 _ rfl
      have a2 := U5.c 2 _ rfl
      have af := U5.f
      have V4 := Lib.hid (U4'.put2 (.slice y.q.A y.q.l.length y.q.c) (.slice y.ap.A y.ap.l.length y.ap.c))
      have V5 := Lib.hid (U5'.off2 (c := w.heap.size + 2) (.slice y.q.A y.q.l.length y.q.c) (.slice y.ap.A y.ap.l.length y.ap.c) (by omega))
      have E6 := Lib.hid (ext_set2 E5' (w.heap.size + 2) (.slice y.q.A y.q.l.length y.q.c) (.slice y.ap.A y.ap.l.length y.ap.c) (by omega))
      have NY := Lib.hid ((hm'.set (p := ⟨w.heap.size + 2, 0, none⟩) (.slice y.q.A y.q.l.length y.q.c) ho2).set (p := ⟨w.heap.size + 2, 1, none⟩) (.slice y.ap.A y.ap.l.length y.ap.c) ho2)
      have z0 := U4.c 0 _ rfl
      have z1 := U4.c 1 _ rfl
      have zf := U4.f
      obtain ⟨w6, hw6⟩ : ∃ w6, set2 (set3 w5 (w.heap.size + 3) (.int .i64 dp.f) (.int .i64 dp.t) (.slice dp.d.A dp.d.l.length dp.d.c)) (w.heap.size + 2) (.slice y.q.A y.q.l.length y.q.c) (.slice y.ap.A y.ap.l.length y.ap.c) = w6 := ⟨_, rfl⟩
      have hs6 : w5.heap.size = w6.heap.size := by rw [← hw6, set2_size]; simp [set3]
      unfold set2 at hw6 V4 V5 E6 NY
      unfold set3 at hw6 V4 V5 E6
      rw [hw6] at V4 V5 E6 NY
      have x0 := V4.out.c 0 _ rfl
      have x1 := V4.out.c 1 _ rfl
      have xf := V4.out.f
      have p0 := V5.out.c 0 _ rfl
      have p1 := V5.out.c 1 _ rfl
      have p2 := V5.out.c 2 _ rfl
      have pf := V5.out.f
      have SS := Lib.hid (show (fun w' => w'.cell? ⟨w.heap.size + 2, 0, none⟩ = some (.slice y.q.A y.q.l.length y.q.c) ∧ w'.cell? ⟨w.heap.size + 2, 1, none⟩ = some (.slice y.ap.A y.ap.l.length y.ap.c) ∧ w'.cell? ⟨w.heap.size + 3, 0, none⟩ = some (.int .i64 dp.f) ∧ w'.cell? ⟨w.heap.size + 3, 1, none⟩ = some (.int .i64 dp.t) ∧ w'.cell? ⟨w.heap.size + 3, 2, none⟩ = some (.slice dp.d.A dp.d.l.length dp.d.c)) w6.drew from ⟨x0, x1, p0, p1, p2⟩)
      clear hq ha ho B x0 x1 p0 p1 p2 xf pf hs6
      go_wp2_with fail
      try rw [hw6]
      clear hw6 z0 z1 zf a0 a1 a2 af
      have x0 := V4.out.c 0 _ rfl
      have x1 := V4.out.c 1 _ rfl
      have p0 := V5.out.c 0 _ rfl
      have p1 := V5.out.c 1 _ rfl
      have p2 := V5.out.c 2 _ rfl
      have xf := V4.out.f
      have pf := V5.out.f
      refine rg_begin (S := (fun w' => w'.cell? ⟨w.heap.size + 2, 0, none⟩ = some (.slice y.q.A y.q.l.length y.q.c) ∧ w'.cell? ⟨w.heap.size + 2, 1, none⟩ = some (.slice y.ap.A y.ap.l.length y.ap.c) ∧ w'.cell? ⟨w.heap.size + 3, 0, none⟩ = some (.int .i64 dp.f) ∧ w'.cell? ⟨w.heap.size + 3, 1, none⟩ = some (.int .i64 dp.t) ∧ w'.cell? ⟨w.heap.size + 3, 2, none⟩ = some (.slice dp.d.A dp.d.l.length dp.d.c))) 4 (by kernel_rfl) (by intro d; cases d <;> intro _ _ _ _ h <;> exact h) ?_ (fun Q7 hQ7 hN7 hHeld => ?_)
      · exact SS.out
      refine rg_take (i := 0) (some 88) (v := ?_) rfl rfl (by kernel_rfl) (by rfl) hQ7 hHeld ?_ ?_
      rotate_left
      · intro w7 hSw; (try dsimp only at hSw); go_simp; all_goals with_reducible rfl
      try simp only [Act.put, List.setIfInBounds_toArray, List.set_cons_zero, List.set_cons_succ]
      refine rg_take (i := 1) (some 89) (v := ?_) rfl rfl (by kernel_rfl) (by rfl) hQ7 hHeld ?_ ?_
      rotate_left
      · intro w7 hSw; (try dsimp only at hSw); go_simp; all_goals with_reducible rfl
      try simp only [Act.put, List.setIfInBounds_toArray, List.set_cons_zero, List.set_cons_succ]
      refine rg_pure (i := 2) (some 90) (v := ?_) rfl rfl (by kernel_rfl) (by rfl) hQ7 (by first | exact .inr hHeld | exact .inl (by kernel_rfl)) ?_ ?_
      rotate_left
      · intro w7; go_simp; all_goals with_reducible rfl
      try simp only [Act.put, List.setIfInBounds_toArray, List.set_cons_zero, List.set_cons_succ]
      refine rg_one (i := 3) (by kernel_rfl) (rg_step rfl (by rfl) (fun K hK => ?_))
      go_simp
      refine hK.out _ _ ?_ (fun hHeld2 => ?_)
      · exact ⟨(V4.out.drew.put2 _ _).c 0 _ rfl, (V4.out.drew.put2 _ _).c 1 _ rfl, (V5.out.drew.off2 (c := w.heap.size + 2) _ _ (by omega)).c 0 _ rfl, (V5.out.drew.off2 (c := w.heap.size + 2) _ _ (by omega)).c 1 _ rfl, (V5.out.drew.off2 (c := w.heap.size + 2) _ _ (by omega)).c 2 _ rfl⟩
      clear hHeld
      have hHeld := hHeld2
      clear hHeld2
      clear hK K
      try simp only [Act.put, List.setIfInBounds_toArray, List.set_cons_zero, List.set_cons_succ]
      refine rg_one (i := 4) (by kernel_rfl) (rg_late rfl (by rfl) (by kernel_rfl) (fun K hK => ?_))
      go_simp
      refine hK.out _ _ ?_
      clear hK K
      try simp only [Act.put, List.setIfInBounds_toArray, List.set_cons_zero, List.set_cons_succ]
      refine rg_one (i := 5) (by kernel_rfl) (rg_late rfl (by rfl) (by kernel_rfl) (fun K hK => ?_))
      go_simp
      refine hK.out _ _ ?_
      clear hK K
      try simp only [Act.put, List.setIfInBounds_toArray, List.set_cons_zero, List.set_cons_succ]
      refine rg_end (by kernel_rfl) (hN7 _ _ ?_) _
      clear hQ7 hN7 Q7
      go_wp2_with fail
      refine bodyPost_ret (v := .tuple #[y.v, dp.v, .int .i64 _]) (by simp [results, Try.results20, go_sem, *]; rfl) rfl ?_
      have ho3' : y.off (w.heap.size + 3) := ho3
      have hE8 := ext_drew (ext_set3 (ext_set2 E6.out (w.heap.size + 1 + 1) (.slice y.q.A y.q.l.length y.q.c) (.slice y.ap.A y.ap.l.length y.ap.c) (by omega)) (w.heap.size + 1 + 1 + 1) (.int .i64 dp.f) (.int .i64 dp.t) (.slice dp.d.A dp.d.l.length dp.d.c) (by omega))
      have hN8 := (((((NY.out.set (p := ⟨w.heap.size + 1 + 1, 0, none⟩) (.slice y.q.A y.q.l.length y.q.c) ho2).set (p := ⟨w.heap.size + 1 + 1, 1, none⟩) (.slice y.ap.A y.ap.l.length y.ap.c) ho2).set (p := ⟨w.heap.size + 1 + 1 + 1, 0, none⟩) (.int .i64 dp.f) ho3').set (p := ⟨w.heap.size + 1 + 1 + 1, 1, none⟩) (.int .i64 dp.t) ho3').set (p := ⟨w.heap.size + 1 + 1 + 1, 2, none⟩) (.slice dp.d.A dp.d.l.length dp.d.c) ho3').ext (ext_drew (ext_refl _))
      unfold set2 set3 at hE8
      refine ⟨y, dp, _, rfl, HAP.out, hN8, ?_, hE8, fun b hb hf => ⟨HOF.out b hb hf, ?_⟩⟩
      · have h1 := hn.delP (at0)
        have h2 := delP_len (i := at0) hn
        rw [HDP.out] at h1 h2
        exact ⟨h1.ext hE8, h2⟩
      · have h1 := delP_off (i := at0) hf
        rw [HDP.out] at h1
        exact h1
    · obtain ⟨zp, hzp⟩ : ∃ p, p = zeroP := ⟨_, rfl⟩
      have HZP := Lib.hid hzp
      clear hzp
      replace Y5 := Lib.hid (show Blk w3 (w.heap.size + 3) [.int .i64 zp.f, .int .i64 zp.t, .slice zp.d.A zp.d.l.length zp.d.c] by rw [HZP.out]; exact Y5.out)
      go_wp2_with fail
      refine (lose_at (n := n) _ _ _ rfl rfl rfl HN.out).mono ?_
      rintro e w5 ⟨y, rfl, hq, ha, hm, B, ho⟩
      have HAP := Lib.hid (show Hap n 2 y zp _ from hap_lose hq ha)
      have hz3 := HZ3.out
      have ho2 : y.off (w.heap.size + 2) := ho _ (by omega) (hn.off (by omega))
      have ho3 : y.off (w.heap.size + 3) := ho _ (by omega) (hn.off (by omega))
      have HOF := Lib.hid (show ∀ b, b < w.heap.size → n.off b → y.off b from fun b hb hf => ho b (by omega) hf)
      have E5 := ext_trans E2.out B
      have U4 := Y4.out.ext B
      have U5 := Y5.out.ext B
      have V4 := Lib.hid (U4.put2 (.slice y.q.A y.q.l.length y.q.c) (.slice y.ap.A y.ap.l.length y.ap.c))
      have V5 := Lib.hid (U5.off2 (c := w.heap.size + 2) (.slice y.q.A y.q.l.length y.q.c) (.slice y.ap.A y.ap.l.length y.ap.c) (by omega))
      have E6 := Lib.hid (ext_set2 E5 (w.heap.size + 2) (.slice y.q.A y.q.l.length y.q.c) (.slice y.ap.A y.ap.l.length y.ap.c) (by omega))
      have NY := Lib.hid ((hm.set (p := ⟨w.heap.size + 2, 0, none⟩) (.slice y.q.A y.q.l.length y.q.c) ho2).set (p := ⟨w.heap.size + 2, 1, none⟩) (.slice y.ap.A y.ap.l.length y.ap.c) ho2)
      have z0 := U4.c 0 _ rfl
      have z1 := U4.c 1 _ rfl
      have zf := U4.f
      obtain ⟨w6, hw6⟩ : ∃ w6, set2 w5 (w.heap.size + 2) (.slice y.q.A y.q.l.length y.q.c) (.slice y.ap.A y.ap.l.length y.ap.c) = w6 := ⟨_, rfl⟩
      have hs6 : w5.heap.size = w6.heap.size := by rw [← hw6, set2_size]
      unfold set2 at hw6 V4 V5 E6 NY
      rw [hw6] at V4 V5 E6 NY
      have x0 := V4.out.c 0 _ rfl
      have x1 := V4.out.c 1 _ rfl
      have xf := V4.out.f
      have p0 := V5.out.c 0 _ rfl
      have p1 := V5.out.c 1 _ rfl
      have p2 := V5.out.c 2 _ rfl
      have pf := V5.out.f
      have SS := Lib.hid (show (fun w' => w'.cell? ⟨w.heap.size + 2, 0, none⟩ = some (.slice y.q.A y.q.l.length y.q.c) ∧ w'.cell? ⟨w.heap.size + 2, 1, none⟩ = some (.slice y.ap.A y.ap.l.length y.ap.c) ∧ w'.cell? ⟨w.heap.size + 3, 0, none⟩ = some (.int .i64 zp.f) ∧ w'.cell? ⟨w.heap.size + 3, 1, none⟩ = some (.int .i64 zp.t) ∧ w'.cell? ⟨w.heap.size + 3, 2, none⟩ = some (.slice zp.d.A zp.d.l.length zp.d.c)) w6.drew from ⟨x0, x1, p0, p1, p2⟩)
      clear hq ha ho B x0 x1 p0 p1 p2 xf pf hs6
      go_wp2_with fail
      try rw [hw6]
      clear hw6 z0 z1 zf
      have x0 := V4.out.c 0 _ rfl
      have x1 := V4.out.c 1 _ rfl
      have p0 := V5.out.c 0 _ rfl
      have p1 := V5.out.c 1 _ rfl
      have p2 := V5.out.c 2 _ rfl
      have xf := V4.out.f
      have pf := V5.out.f
      refine rg_begin (S := (fun w' => w'.cell? ⟨w.heap.size + 2, 0, none⟩ = some (.slice y.q.A y.q.l.length y.q.c) ∧ w'.cell? ⟨w.heap.size + 2, 1, none⟩ = some (.slice y.ap.A y.ap.l.length y.ap.c) ∧ w'.cell? ⟨w.heap.size + 3, 0, none⟩ = some (.int .i64 zp.f) ∧ w'.cell? ⟨w.heap.size + 3, 1, none⟩ = some (.int .i64 zp.t) ∧ w'.cell? ⟨w.heap.size + 3, 2, none⟩ = some (.slice zp.d.A zp.d.l.length zp.d.c))) 4 (by kernel_rfl) (by intro d; cases d <;> intro _ _ _ _ h <;> exact h) ?_ (fun Q7 hQ7 hN7 hHeld => ?_)
      · exact SS.out
      refine rg_take (i := 0) (some 88) (v := ?_) rfl rfl (by kernel_rfl) (by rfl) hQ7 hHeld ?_ ?_
      rotate_left
      · intro w7 hSw; (try dsimp only at hSw); go_simp; all_goals with_reducible rfl
      try simp only [Act.put, List.setIfInBounds_toArray, List.set_cons_zero, List.set_cons_succ]
      refine rg_take (i := 1) (some 89) (v := ?_) rfl rfl (by kernel_rfl) (by rfl) hQ7 hHeld ?_ ?_
      rotate_left
      · intro w7 hSw; (try dsimp only at hSw); go_simp; all_goals with_reducible rfl
      try simp only [Act.put, List.setIfInBounds_toArray, List.set_cons_zero, List.set_cons_succ]
      refine rg_pure (i := 2) (some 90) (v := ?_) rfl rfl (by kernel_rfl) (by rfl) hQ7 (by first | exact .inr hHeld | exact .inl (by kernel_rfl)) ?_ ?_
      rotate_left
      · intro w7; go_simp; all_goals with_reducible rfl
      try simp only [Act.put, List.setIfInBounds_toArray, List.set_cons_zero, List.set_cons_succ]
      refine rg_one (i := 3) (by kernel_rfl) (rg_step rfl (by rfl) (fun K hK => ?_))
      go_simp
      refine hK.out _ _ ?_ (fun hHeld2 => ?_)
      · exact ⟨(V4.out.drew.put2 _ _).c 0 _ rfl, (V4.out.drew.put2 _ _).c 1 _ rfl, (V5.out.drew.off2 (c := w.heap.size + 2) _ _ (by omega)).c 0 _ rfl, (V5.out.drew.off2 (c := w.heap.size + 2) _ _ (by omega)).c 1 _ rfl, (V5.out.drew.off2 (c := w.heap.size + 2) _ _ (by omega)).c 2 _ rfl⟩
      clear hHeld
      have hHeld := hHeld2
      clear hHeld2
      clear hK K
      try simp only [Act.put, List.setIfInBounds_toArray, List.set_cons_zero, List.set_cons_succ]
      refine rg_one (i := 4) (by kernel_rfl) (rg_late rfl (by rfl) (by kernel_rfl) (fun K hK => ?_))
      go_simp
      refine hK.out _ _ ?_
      clear hK K
      try simp only [Act.put, List.setIfInBounds_toArray, List.set_cons_zero, List.set_cons_succ]
      refine rg_one (i := 5) (by kernel_rfl) (rg_late rfl (by rfl) (by kernel_rfl) (fun K hK => ?_))
      go_simp
      refine hK.out _ _ ?_
      clear hK K
      try simp only [Act.put, List.setIfInBounds_toArray, List.set_cons_zero, List.set_cons_succ]
      refine rg_end (by kernel_rfl) (hN7 _ _ ?_) _
      clear hQ7 hN7 Q7
      go_wp2_with fail
      refine bodyPost_ret (v := .tuple #[y.v, zp.v, .int .i64 _]) (by simp [results, Try.results20, go_sem, *]; rfl) rfl ?_
      have ho3' : y.off (w.heap.size + 3) := ho3
      have hE8 := ext_drew (ext_set3 (ext_set2 E6.out (w.heap.size + 1 + 1) (.slice y.q.A y.q.l.length y.q.c) (.slice y.ap.A y.ap.l.length y.ap.c) (by omega)) (w.heap.size + 1 + 1 + 1) (.int .i64 zp.f) (.int .i64 zp.t) (.slice zp.d.A zp.d.l.length zp.d.c) (by omega))
      have hN8 := (((((NY.out.set (p := ⟨w.heap.size + 1 + 1, 0, none⟩) (.slice y.q.A y.q.l.length y.q.c) ho2).set (p := ⟨w.heap.size + 1 + 1, 1, none⟩) (.slice y.ap.A y.ap.l.length y.ap.c) ho2).set (p := ⟨w.heap.size + 1 + 1 + 1, 0, none⟩) (.int .i64 zp.f) ho3').set (p := ⟨w.heap.size + 1 + 1 + 1, 1, none⟩) (.int .i64 zp.t) ho3').set (p := ⟨w.heap.size + 1 + 1 + 1, 2, none⟩) (.slice zp.d.A zp.d.l.length zp.d.c) ho3').ext (ext_drew (ext_refl _))
      unfold set2 set3 at hE8
      refine ⟨y, zp, _, rfl, HAP.out, hN8, ?_, hE8, fun b hb hf => ⟨HOF.out b hb hf, ?_⟩⟩
      · rw [HZP.out]; exact ⟨Slc.nil, by simp [zeroP]⟩
      · rw [HZP.out]; exact fun h => absurd rfl h
    · obtain ⟨zp, hzp⟩ : ∃ p, p = zeroP := ⟨_, rfl⟩
      have HZP := Lib.hid hzp
      clear hzp
      replace Y5 := Lib.hid (show Blk w3 (w.heap.size + 3) [.int .i64 zp.f, .int .i64 zp.t, .slice zp.d.A zp.d.l.length zp.d.c] by rw [HZP.out]; exact Y5.out)
      go_wp2_with fail
      refine (rep_at (n := n) _ _ _ rfl rfl rfl HN.out).mono ?_
      rintro e w5 ⟨y, rfl, hq, ha, hm, B, ho⟩
      have HAP := Lib.hid (show Hap n 3 y zp _ from hap_rep hq ha)
      have hz3 := HZ3.out
      have ho2 : y.off (w.heap.size + 2) := ho _ (by omega) (hn.off (by omega))
      have ho3 : y.off (w.heap.size + 3) := ho _ (by omega) (hn.off (by omega))
      have HOF := Lib.hid (show ∀ b, b < w.heap.size → n.off b → y.off b from fun b hb hf => ho b (by omega) hf)
      have E5 := ext_trans E2.out B
      have U4 := Y4.out.ext B
      have U5 := Y5.out.ext B
      have V4 := Lib.hid (U4.put2 (.slice y.q.A y.q.l.length y.q.c) (.slice y.ap.A y.ap.l.length y.ap.c))
      have V5 := Lib.hid (U5.off2 (c := w.heap.size + 2) (.slice y.q.A y.q.l.length y.q.c) (.slice y.ap.A y.ap.l.length y.ap.c) (by omega))
      have E6 := Lib.hid (ext_set2 E5 (w.heap.size + 2) (.slice y.q.A y.q.l.length y.q.c) (.slice y.ap.A y.ap.l.length y.ap.c) (by omega))
      have NY := Lib.hid ((hm.set (p := ⟨w.heap.size + 2, 0, none⟩) (.slice y.q.A y.q.l.length y.q.c) ho2).set (p := ⟨w.heap.size + 2, 1, none⟩) (.slice y.ap.A y.ap.l.length y.ap.c) ho2)
      have z0 := U4.c 0 _ rfl
      have z1 := U4.c 1 _ rfl
      have zf := U4.f
      obtain ⟨w6, hw6⟩ : ∃ w6, set2 w5 (w.heap.size + 2) (.slice y.q.A y.q.l.length y.q.c) (.slice y.ap.A y.ap.l.length y.ap.c) = w6 := ⟨_, rfl⟩
      have hs6 : w5.heap.size = w6.heap.size := by rw [← hw6, set2_size]
      unfold set2 at hw6 V4 V5 E6 NY
      rw [hw6] at V4 V5 E6 NY
      have x0 := V4.out.c 0 _ rfl
      have x1 := V4.out.c 1 _ rfl
      have xf := V4.out.f
      have p0 := V5.out.c 0 _ rfl
      have p1 := V5.out.c 1 _ rfl
      have p2 := V5.out.c 2 _ rfl
      have pf := V5.out.f
      have SS := Lib.hid (show (fun w' => w'.cell? ⟨w.heap.size + 2, 0, none⟩ = some (.slice y.q.A y.q.l.length y.q.c) ∧ w'.cell? ⟨w.heap.size + 2, 1, none⟩ = some (.slice y.ap.A y.ap.l.length y.ap.c) ∧ w'.cell? ⟨w.heap.size + 3, 0, none⟩ = some (.int .i64 zp.f) ∧ w'.cell? ⟨w.heap.size + 3, 1, none⟩ = some (.int .i64 zp.t) ∧ w'.cell? ⟨w.heap.size + 3, 2, none⟩ = some (.slice zp.d.A zp.d.l.length zp.d.c)) w6.drew from ⟨x0, x1, p0, p1, p2⟩)
      clear hq ha ho B x0 x1 p0 p1 p2 xf pf hs6
      go_wp2_with fail
      try rw [hw6]
      clear hw6 z0 z1 zf
      have x0 := V4.out.c 0 _ rfl
      have x1 := V4.out.c 1 _ rfl
      have p0 := V5.out.c 0 _ rfl
      have p1 := V5.out.c 1 _ rfl
      have p2 := V5.out.c 2 _ rfl
      have xf := V4.out.f
      have pf := V5.out.f
      refine rg_begin (S := (fun w' => w'.cell? ⟨w.heap.size + 2, 0, none⟩ = some (.slice y.q.A y.q.l.length y.q.c) ∧ w'.cell? ⟨w.heap.size + 2, 1, none⟩ = some (.slice y.ap.A y.ap.l.length y.ap.c) ∧ w'.cell? ⟨w.heap.size + 3, 0, none⟩ = some (.int .i64 zp.f) ∧ w'.cell? ⟨w.heap.size + 3, 1, none⟩ = some (.int .i64 zp.t) ∧ w'.cell? ⟨w.heap.size + 3, 2, none⟩ = some (.slice zp.d.A zp.d.l.length zp.d.c))) 4 (by kernel_rfl) (by intro d; cases d <;> intro _ _ _ _ h <;> exact h) ?_ (fun Q7 hQ7 hN7 hHeld => ?_)
      · exact SS.out
      refine rg_take (i := 0) (some 88) (v := ?_) rfl rfl (by kernel_rfl) (by rfl) hQ7 hHeld ?_ ?_
      rotate_left
      · intro w7 hSw; (try dsimp only at hSw); go_simp; all_goals with_reducible rfl
      try simp only [Act.put, List.setIfInBounds_toArray, List.set_cons_zero, List.set_cons_succ]
      refine rg_take (i := 1) (some 89) (v := ?_) rfl rfl (by kernel_rfl) (by rfl) hQ7 hHeld ?_ ?_
      rotate_left
      · intro w7 hSw; (try dsimp only at hSw); go_simp; all_goals with_reducible rfl
      try simp only [Act.put, List.setIfInBounds_toArray, List.set_cons_zero, List.set_cons_succ]
      refine rg_pure (i := 2) (some 90) (v := ?_) rfl rfl (by kernel_rfl) (by rfl) hQ7 (by first | exact .inr hHeld | exact .inl (by kernel_rfl)) ?_ ?_
      rotate_left
      · intro w7; go_simp; all_goals with_reducible rfl
      try simp only [Act.put, List.setIfInBounds_toArray, List.set_cons_zero, List.set_cons_succ]
      refine rg_one (i := 3) (by kernel_rfl) (rg_step rfl (by rfl) (fun K hK => ?_))
      go_simp
      refine hK.out _ _ ?_ (fun hHeld2 => ?_)
      · exact ⟨(V4.out.drew.put2 _ _).c 0 _ rfl, (V4.out.drew.put2 _ _).c 1 _ rfl, (V5.out.drew.off2 (c := w.heap.size + 2) _ _ (by omega)).c 0 _ rfl, (V5.out.drew.off2 (c := w.heap.size + 2) _ _ (by omega)).c 1 _ rfl, (V5.out.drew.off2 (c := w.heap.size + 2) _ _ (by omega)).c 2 _ rfl⟩
      clear hHeld
      have hHeld := hHeld2
      clear hHeld2
      clear hK K
      try simp only [Act.put, List.setIfInBounds_toArray, List.set_cons_zero, List.set_cons_succ]
      refine rg_one (i := 4) (by kernel_rfl) (rg_late rfl (by rfl) (by kernel_rfl) (fun K hK => ?_))
      go_simp
      refine hK.out _ _ ?_
      clear hK K
      try simp only [Act.put, List.setIfInBounds_toArray, List.set_cons_zero, List.set_cons_succ]
      refine rg_one (i := 5) (by kernel_rfl) (rg_late rfl (by rfl) (by kernel_rfl) (fun K hK => ?_))
      go_simp
      refine hK.out _ _ ?_
      clear hK K
      try simp only [Act.put, List.setIfInBounds_toArray, List.set_cons_zero, List.set_cons_succ]
      refine rg_end (by kernel_rfl) (hN7 _ _ ?_) _
      clear hQ7 hN7 Q7
      go_wp2_with fail
      refine bodyPost_ret (v := .tuple #[y.v, zp.v, .int .i64 _]) (by simp [results, Try.results20, go_sem, *]; rfl) rfl ?_
      have ho3' : y.off (w.heap.size + 3) := ho3
      have hE8 := ext_drew (ext_set3 (ext_set2 E6.out (w.heap.size + 1 + 1) (.slice y.q.A y.q.l.length y.q.c) (.slice y.ap.A y.ap.l.length y.ap.c) (by omega)) (w.heap.size + 1 + 1 + 1) (.int .i64 zp.f) (.int .i64 zp.t) (.slice zp.d.A zp.d.l.length zp.d.c) (by omega))
      have hN8 := (((((NY.out.set (p := ⟨w.heap.size + 1 + 1, 0, none⟩) (.slice y.q.A y.q.l.length y.q.c) ho2).set (p := ⟨w.heap.size + 1 + 1, 1, none⟩) (.slice y.ap.A y.ap.l.length y.ap.c) ho2).set (p := ⟨w.heap.size + 1 + 1 + 1, 0, none⟩) (.int .i64 zp.f) ho3').set (p := ⟨w.heap.size + 1 + 1 + 1, 1, none⟩) (.int .i64 zp.t) ho3').set (p := ⟨w.heap.size + 1 + 1 + 1, 2, none⟩) (.slice zp.d.A zp.d.l.length zp.d.c) ho3').ext (ext_drew (ext_refl _))
      unfold set2 set3 at hE8
      refine ⟨y, zp, _, rfl, HAP.out, hN8, ?_, hE8, fun b hb hf => ⟨HOF.out b hb hf, ?_⟩⟩
      · rw [HZP.out]; exact ⟨Slc.nil, by simp [zeroP]⟩
      · rw [HZP.out]; exact fun h => absurd rfl h
    · obtain ⟨zp, hzp⟩ : ∃ p, p = zeroP := ⟨_, rfl⟩
      have HZP := Lib.hid hzp
      clear hzp
      replace Y5 := Lib.hid (show Blk w3 (w.heap.size + 3) [.int .i64 zp.f, .int .i64 zp.t, .slice zp.d.A zp.d.l.length zp.d.c] by rw [HZP.out]; exact Y5.out)
      go_wp2_with fail
      refine (cut_at (n := n) (on := true) _ _ _ rfl rfl rfl HN.out).mono ?_
      rintro e w5 ⟨y, rfl, hq, ha, hm, B, ho⟩
      have HAP := Lib.hid (show Hap n 4 y zp _ from hap_cut (.inl rfl) hq ha)
      have hz3 := HZ3.out
      have ho2 : y.off (w.heap.size + 2) := ho _ (by omega) (hn.off (by omega))
      have ho3 : y.off (w.heap.size + 3) := ho _ (by omega) (hn.off (by omega))
      have HOF := Lib.hid (show ∀ b, b < w.heap.size → n.off b → y.off b from fun b hb hf => ho b (by omega) hf)
      have E5 := ext_trans E2.out B
      have U4 := Y4.out.ext B
      have U5 := Y5.out.ext B
      have V4 := Lib.hid (U4.put2 (.slice y.q.A y.q.l.length y.q.c) (.slice y.ap.A y.ap.l.length y.ap.c))
      have V5 := Lib.hid (U5.off2 (c := w.heap.size + 2) (.slice y.q.A y.q.l.length y.q.c) (.slice y.ap.A y.ap.l.length y.ap.c) (by omega))
      have E6 := Lib.hid (ext_set2 E5 (w.heap.size + 2) (.slice y.q.A y.q.l.length y.q.c) (.slice y.ap.A y.ap.l.length y.ap.c) (by omega))
      have NY := Lib.hid ((hm.set (p := ⟨w.heap.size + 2, 0, none⟩) (.slice y.q.A y.q.l.length y.q.c) ho2).set (p := ⟨w.heap.size + 2, 1, none⟩) (.slice y.ap.A y.ap.l.length y.ap.c) ho2)
      have z0 := U4.c 0 _ rfl
      have z1 := U4.c 1 _ rfl
      have zf := U4.f
      obtain ⟨w6, hw6⟩ : ∃ w6, set2 w5 (w.heap.size + 2) (.slice y.q.A y.q.l.length y.q.c) (.slice y.ap.A y.ap.l.length y.ap.c) = w6 := ⟨_, rfl⟩
      have hs6 : w5.heap.size = w6.heap.size := by rw [← hw6, set2_size]
      unfold set2 at hw6 V4 V5 E6 NY
      rw [hw6] at V4 V5 E6 NY
      have x0 := V4.out.c 0 _ rfl
      have x1 := V4.out.c 1 _ rfl
      have xf := V4.out.f
      have p0 := V5.out.c 0 _ rfl
      have p1 := V5.out.c 1 _ rfl
      have p2 := V5.out.c 2 _ rfl
      have pf := V5.out.f
      have SS := Lib.hid (show (fun w' => w'.cell? ⟨w.heap.size + 2, 0, none⟩ = some (.slice y.q.A y.q.l.length y.q.c) ∧ w'.cell? ⟨w.heap.size + 2, 1, none⟩ = some (.slice y.ap.A y.ap.l.length y.ap.c) ∧ w'.cell? ⟨w.heap.size + 3, 0, none⟩ = some (.int .i64 zp.f) ∧ w'.cell? ⟨w.heap.size + 3, 1, none⟩ = some (.int .i64 zp.t) ∧ w'.cell? ⟨w.heap.size + 3, 2, none⟩ = some (.slice zp.d.A zp.d.l.length zp.d.c)) w6.drew from ⟨x0, x1, p0, p1, p2⟩)
      clear hq ha ho B x0 x1 p0 p1 p2 xf pf hs6
      go_wp2_with fail
      try rw [hw6]
      clear hw6 z0 z1 zf
      have x0 := V4.out.c 0 _ rfl
      have x1 := V4.out.c 1 _ rfl
      have p0 := V5.out.c 0 _ rfl
      have p1 := V5.out.c 1 _ rfl
      have p2 := V5.out.c 2 _ rfl
      have xf := V4.out.f
      have pf := V5.out.f
      refine rg_begin (S := (fun w' => w'.cell? ⟨w.heap.size + 2, 0, none⟩ = some (.slice y.q.A y.q.l.length y.q.c) ∧ w'.cell? ⟨w.heap.size + 2, 1, none⟩ = some (.slice y.ap.A y.ap.l.length y.ap.c) ∧ w'.cell? ⟨w.heap.size + 3, 0, none⟩ = some (.int .i64 zp.f) ∧ w'.cell? ⟨w.heap.size + 3, 1, none⟩ = some (.int .i64 zp.t) ∧ w'.cell? ⟨w.heap.size + 3, 2, none⟩ = some (.slice zp.d.A zp.d.l.length zp.d.c))) 4 (by kernel_rfl) (by intro d; cases d <;> intro _ _ _ _ h <;> exact h) ?_ (fun Q7 hQ7 hN7 hHeld => ?_)
      · exact SS.out
      refine rg_take (i := 0) (some 88) (v := ?_) rfl rfl (by kernel_rfl) (by rfl) hQ7 hHeld ?_ ?_
      rotate_left
      · intro w7 hSw; (try dsimp only at hSw); go_simp; all_goals with_reducible rfl
      try simp only [Act.put, List.setIfInBounds_toArray, List.set_cons_zero, List.set_cons_succ]
      refine rg_take (i := 1) (some 89) (v := ?_) rfl rfl (by kernel_rfl) (by rfl) hQ7 hHeld ?_ ?_
      rotate_left
      · intro w7 hSw; (try dsimp only at hSw); go_simp; all_goals with_reducible rfl
      try simp only [Act.put, List.setIfInBounds_toArray, List.set_cons_zero, List.set_cons_succ]
      refine rg_pure (i := 2) (some 90) (v := ?_) rfl rfl (by kernel_rfl) (by rfl) hQ7 (by first | exact .inr hHeld | exact .inl (by kernel_rfl)) ?_ ?_
      rotate_left
      · intro w7; go_simp; all_goals with_reducible rfl
      try simp only [Act.put, List.setIfInBounds_toArray, List.set_cons_zero, List.set_cons_succ]
      refine rg_one (i := 3) (by kernel_rfl) (rg_step rfl (by rfl) (fun K hK => ?_))
      go_simp
      refine hK.out _ _ ?_ (fun hHeld2 => ?_)
      · exact ⟨(V4.out.drew.put2 _ _).c 0 _ rfl, (V4.out.drew.put2 _ _).c 1 _ rfl, (V5.out.drew.off2 (c := w.heap.size + 2) _ _ (by omega)).c 0 _ rfl, (V5.out.drew.off2 (c := w.heap.size + 2) _ _ (by omega)).c 1 _ rfl, (V5.out.drew.off2 (c := w.heap.size + 2) _ _ (by omega)).c 2 _ rfl⟩
      clear hHeld
      have hHeld := hHeld2
      clear hHeld2
      clear hK K
      try simp only [Act.put, List.setIfInBounds_toArray, List.set_cons_zero, List.set_cons_succ]
      refine rg_one (i := 4) (by kernel_rfl) (rg_late rfl (by rfl) (by kernel_rfl) (fun K hK => ?_))
      go_simp
      refine hK.out _ _ ?_
      clear hK K
      try simp only [Act.put, List.setIfInBounds_toArray, List.set_cons_zero, List.set_cons_succ]
      refine rg_one (i := 5) (by kernel_rfl) (rg_late rfl (by rfl) (by kernel_rfl) (fun K hK => ?_))
      go_simp
      refine hK.out _ _ ?_
      clear hK K
      try simp only [Act.put, List.setIfInBounds_toArray, List.set_cons_zero, List.set_cons_succ]
      refine rg_end (by kernel_rfl) (hN7 _ _ ?_) _
      clear hQ7 hN7 Q7
      go_wp2_with fail
      refine bodyPost_ret (v := .tuple #[y.v, zp.v, .int .i64 _]) (by simp [results, Try.results20, go_sem, *]; rfl) rfl ?_
      have ho3' : y.off (w.heap.size + 3) := ho3
      have hE8 := ext_drew (ext_set3 (ext_set2 E6.out (w.heap.size + 1 + 1) (.slice y.q.A y.q.l.length y.q.c) (.slice y.ap.A y.ap.l.length y.ap.c) (by omega)) (w.heap.size + 1 + 1 + 1) (.int .i64 zp.f) (.int .i64 zp.t) (.slice zp.d.A zp.d.l.length zp.d.c) (by omega))
      have hN8 := (((((NY.out.set (p := ⟨w.heap.size + 1 + 1, 0, none⟩) (.slice y.q.A y.q.l.length y.q.c) ho2).set (p := ⟨w.heap.size + 1 + 1, 1, none⟩) (.slice y.ap.A y.ap.l.length y.ap.c) ho2).set (p := ⟨w.heap.size + 1 + 1 + 1, 0, none⟩) (.int .i64 zp.f) ho3').set (p := ⟨w.heap.size + 1 + 1 + 1, 1, none⟩) (.int .i64 zp.t) ho3').set (p := ⟨w.heap.size + 1 + 1 + 1, 2, none⟩) (.slice zp.d.A zp.d.l.length zp.d.c) ho3').ext (ext_drew (ext_refl _))
      unfold set2 set3 at hE8
      refine ⟨y, zp, _, rfl, HAP.out, hN8, ?_, hE8, fun b hb hf => ⟨HOF.out b hb hf, ?_⟩⟩
      · rw [HZP.out]; exact ⟨Slc.nil, by simp [zeroP]⟩
      · rw [HZP.out]; exact fun h => absurd rfl h
    · obtain ⟨zp, hzp⟩ : ∃ p, p = zeroP := ⟨_, rfl⟩
      have HZP := Lib.hid hzp
      clear hzp
      replace Y5 := Lib.hid (show Blk w3 (w.heap.size + 3) [.int .i64 zp.f, .int .i64 zp.t, .slice zp.d.A zp.d.l.length zp.d.c] by rw [HZP.out]; exact Y5.out)
      go_wp2_with fail
      refine (cut_at (n := n) (on := false) _ _ _ rfl rfl rfl HN.out).mono ?_
      rintro e w5 ⟨y, rfl, hq, ha, hm, B, ho⟩
      have HAP := Lib.hid (show Hap n 5 y zp _ from hap_cut (.inr ⟨rfl, rfl⟩) hq ha)
      have hz3 := HZ3.out
      have ho2 : y.off (w.heap.size + 2) := ho _ (by omega) (hn.off (by omega))
      have ho3 : y.off (w.heap.size + 3) := ho _ (by omega) (hn.off (by omega))
      have HOF := Lib.hid (show ∀ b, b < w.heap.size → n.off b → y.off b from fun b hb hf => ho b (by omega) hf)
      have E5 := ext_trans E2.out B
      have U4 := Y4.out.ext B
      have U5 := Y5.out.ext B
      have V4 := Lib.hid (U4.put2 (.slice y.q.A y.q.l.length y.q.c) (.slice y.ap.A y.ap.l.length y.ap.c))
      have V5 := Lib.hid (U5.off2 (c := w.heap.size + 2) (.slice y.q.A y.q.l.length y.q.c) (.slice y.ap.A y.ap.l.length y.ap.c) (by omega))
      have E6 := Lib.hid (ext_set2 E5 (w.heap.size + 2) (.slice y.q.A y.q.l.length y.q.c) (.slice y.ap.A y.ap.l.length y.ap.c) (by omega))
      have NY := Lib.hid ((hm.set (p := ⟨w.heap.size + 2, 0, none⟩) (.slice y.q.A y.q.l.length y.q.c) ho2).set (p := ⟨w.heap.size + 2, 1, none⟩) (.slice y.ap.A y.ap.l.length y.ap.c) ho2)
      have z0 := U4.c 0 _ rfl
      have z1 := U4.c 1 _ rfl
      have zf := U4.f
      obtain ⟨w6, hw6⟩ : ∃ w6, set2 w5 (w.heap.size + 2) (.slice y.q.A y.q.l.length y.q.c) (.slice y.ap.A y.ap.l.length y.ap.c) = w6 := ⟨_, rfl⟩
      have hs6 : w5.heap.size = w6.heap.size := by rw [← hw6, set2_size]
      unfold set2 at hw6 V4 V5 E6 NY
      rw [hw6] at V4 V5 E6 NY
      have x0 := V4.out.c 0 _ rfl
      have x1 := V4.out.c 1 _ rfl
      have xf := V4.out.f
      have p0 := V5.out.c 0 _ rfl
      have p1 := V5.out.c 1 _ rfl
      have p2 := V5.out.c 2 _ rfl
      have pf := V5.out.f
      have SS := Lib.hid (show (fun w' => w'.cell? ⟨w.heap.size + 2, 0, none⟩ = some (.slice y.q.A y.q.l.length y.q.c) ∧ w'.cell? ⟨w.heap.size + 2, 1, none⟩ = some (.slice y.ap.A y.ap.l.length y.ap.c) ∧ w'.cell? ⟨w.heap.size + 3, 0, none⟩ = some (.int .i64 zp.f) ∧ w'.cell? ⟨w.heap.size + 3, 1, none⟩ = some (.int .i64 zp.t) ∧ w'.cell? ⟨w.heap.size + 3, 2, none⟩ = some (.slice zp.d.A zp.d.l.length zp.d.c)) w6.drew from ⟨x0, x1, p0, p1, p2⟩)
      clear hq ha ho B x0 x1 p0 p1 p2 xf pf hs6
      go_wp2_with fail
      try rw [hw6]
      clear hw6 z0 z1 zf
      have x0 := V4.out.c 0 _ rfl
      have x1 := V4.out.c 1 _ rfl
      have p0 := V5.out.c 0 _ rfl
      have p1 := V5.out.c 1 _ rfl
      have p2 := V5.out.c 2 _ rfl
      have xf := V4.out.f
      have pf := V5.out.f
      refine rg_begin (S := (fun w' => w'.cell? ⟨w.heap.size + 2, 0, none⟩ = some (.slice y.q.A y.q.l.length y.q.c) ∧ w'.cell? ⟨w.heap.size + 2, 1, none⟩ = some (.slice y.ap.A y.ap.l.length y.ap.c) ∧ w'.cell? ⟨w.heap.size + 3, 0, none⟩ = some (.int .i64 zp.f) ∧ w'.cell? ⟨w.heap.size + 3, 1, none⟩ = some (.int .i64 zp.t) ∧ w'.cell? ⟨w.heap.size + 3, 2, none⟩ = some (.slice zp.d.A zp.d.l.length zp.d.c))) 4 (by kernel_rfl) (by intro d; cases d <;> intro _ _ _ _ h <;> exact h) ?_ (fun Q7 hQ7 hN7 hHeld => ?_)
      · exact SS.out
      refine rg_take (i := 0) (some 88) (v := ?_) rfl rfl (by kernel_rfl) (by rfl) hQ7 hHeld ?_ ?_
      rotate_left
      · intro w7 hSw; (try dsimp only at hSw); go_simp; all_goals with_reducible rfl
      try simp only [Act.put, List.setIfInBounds_toArray, List.set_cons_zero, List.set_cons_succ]
      refine rg_take (i := 1) (some 89) (v := ?_) rfl rfl (by kernel_rfl) (by rfl) hQ7 hHeld ?_ ?_
      rotate_left
      · intro w7 hSw; (try dsimp only at hSw); go_simp; all_goals with_reducible rfl
      try simp only [Act.put, List.setIfInBounds_toArray, List.set_cons_zero, List.set_cons_succ]
      refine rg_pure (i := 2) (some 90) (v := ?_) rfl rfl (by kernel_rfl) (by rfl) hQ7 (by first | exact .inr hHeld | exact .inl (by kernel_rfl)) ?_ ?_
      rotate_left
      · intro w7; go_simp; all_goals with_reducible rfl
      try simp only [Act.put, List.setIfInBounds_toArray, List.set_cons_zero, List.set_cons_succ]
      refine rg_one (i := 3) (by kernel_rfl) (rg_step rfl (by rfl) (fun K hK => ?_))
      go_simp
      refine hK.out _ _ ?_ (fun hHeld2 => ?_)
      · exact ⟨(V4.out.drew.put2 _ _).c 0 _ rfl, (V4.out.drew.put2 _ _).c 1 _ rfl, (V5.out.drew.off2 (c := w.heap.size + 2) _ _ (by omega)).c 0 _ rfl, (V5.out.drew.off2 (c := w.heap.size + 2) _ _ (by omega)).c 1 _ rfl, (V5.out.drew.off2 (c := w.heap.size + 2) _ _ (by omega)).c 2 _ rfl⟩
      clear hHeld
      have hHeld := hHeld2
      clear hHeld2
      clear hK K
      try simp only [Act.put, List.setIfInBounds_toArray, List.set_cons_zero, List.set_cons_succ]
      refine rg_one (i := 4) (by kernel_rfl) (rg_late rfl (by rfl) (by kernel_rfl) (fun K hK => ?_))
      go_simp
      refine hK.out _ _ ?_
      clear hK K
      try simp only [Act.put, List.setIfInBounds_toArray, List.set_cons_zero, List.set_cons_succ]
      refine rg_one (i := 5) (by kernel_rfl) (rg_late rfl (by rfl) (by kernel_rfl) (fun K hK => ?_))
      go_simp
      refine hK.out _ _ ?_
      clear hK K
      try simp only [Act.put, List.setIfInBounds_toArray, List.set_cons_zero, List.set_cons_succ]
      refine rg_end (by kernel_rfl) (hN7 _ _ ?_) _
      clear hQ7 hN7 Q7
      go_wp2_with fail
      refine bodyPost_ret (v := .tuple #[y.v, zp.v, .int .i64 _]) (by simp [results, Try.results20, go_sem, *]; rfl) rfl ?_
      have ho3' : y.off (w.heap.size + 3) := ho3
      have hE8 := ext_drew (ext_set3 (ext_set2 E6.out (w.heap.size + 1 + 1) (.slice y.q.A y.q.l.length y.q.c) (.slice y.ap.A y.ap.l.length y.ap.c) (by omega)) (w.heap.size + 1 + 1 + 1) (.int .i64 zp.f) (.int .i64 zp.t) (.slice zp.d.A zp.d.l.length zp.d.c) (by omega))
      have hN8 := (((((NY.out.set (p := ⟨w.heap.size + 1 + 1, 0, none⟩) (.slice y.q.A y.q.l.length y.q.c) ho2).set (p := ⟨w.heap.size + 1 + 1, 1, none⟩) (.slice y.ap.A y.ap.l.length y.ap.c) ho2).set (p := ⟨w.heap.size + 1 + 1 + 1, 0, none⟩) (.int .i64 zp.f) ho3').set (p := ⟨w.heap.size + 1 + 1 + 1, 1, none⟩) (.int .i64 zp.t) ho3').set (p := ⟨w.heap.size + 1 + 1 + 1, 2, none⟩) (.slice zp.d.A zp.d.l.length zp.d.c) ho3').ext (ext_drew (ext_refl _))
      unfold set2 set3 at hE8
      refine ⟨y, zp, _, rfl, HAP.out, hN8, ?_, hE8, fun b hb hf => ⟨HOF.out b hb hf, ?_⟩⟩
      · rw [HZP.out]; exact ⟨Slc.nil, by simp [zeroP]⟩
      · rw [HZP.out]; exact fun h => absurd rfl h
end Go.Proofs.Ythchcimialclkaa
