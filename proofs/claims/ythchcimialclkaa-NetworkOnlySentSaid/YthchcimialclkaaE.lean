/- Send, the reference's. -/
import Derived.Test.YthchcimialclkaaD
set_option linter.unusedSimpArgs false
set_option linter.unusedVariables false
namespace Go.Proofs.Ythchcimialclkaa
open Go.RowKit
set_option maxHeartbeats 3200000 in
set_option maxRecDepth 100000 in
theorem rsend_any (n : Nt) (p : Pk) (w : World) (hn : NOk w n) (hd : Slc w bc 1 p.d.A p.d.l) (hdl : p.d.l.length ≤ maxLen) :
    Calls Try.prog 11 #[n.v, p.v] w (NetR w (NP n p) (n.sendQ p) (n.sendA p) (n.sendE p)) := by
  obtain ⟨r, hr⟩ : ∃ r, n.sendE p = r := ⟨_, rfl⟩
  have hql := hn.ql
  have hqc := hn.qc
  unfold maxLen at hql
  have HR := Lib.hid hr
  obtain ⟨rq, hrq⟩ : ∃ q, n.sendQ p = q := ⟨_, rfl⟩
  obtain ⟨ra, hra⟩ : ∃ a, n.sendA p = a := ⟨_, rfl⟩
  have HN := Lib.hid (show r ≠ 0 → rq = [] ∧ ra = [] from fun h => by rw [← hrq, ← hra]; unfold Nt.sendQ Nt.sendA; rw [hr, if_neg h, if_neg h]; exact ⟨rfl, rfl⟩)
  have HY := Lib.hid (show r = 0 → rq = n.q.l ++ [p] ∧ ra = n.ap.l from fun h => by rw [← hrq, ← hra]; unfold Nt.sendQ Nt.sendA; rw [hr, if_pos h, if_pos h]; exact ⟨rfl, rfl⟩)
  rw [hr, hrq, hra]
  clear hr hrq hra
  have hB0 := ext_alloc (ext_alloc (ext_alloc (ext_refl w) (.cells #[.slice n.q.A n.q.l.length n.q.c, .slice n.ap.A n.ap.l.length n.ap.c] 25)) (.cells #[.int .i64 p.f, .int .i64 p.t, .slice p.d.A p.d.l.length p.d.c] 28)) (.cells #[.slice none 0 0, .slice none 0 0] 25)
  have b0 := ((Blk.new w [.slice n.q.A n.q.l.length n.q.c, .slice n.ap.A n.ap.l.length n.ap.c] 25).alloc (.cells #[.int .i64 p.f, .int .i64 p.t, .slice p.d.A p.d.l.length p.d.c] 28)).alloc (.cells #[.slice none 0 0, .slice none 0 0] 25)
  have b1 := (Blk.newH (w.alloc (.cells #[.slice n.q.A n.q.l.length n.q.c, .slice n.ap.A n.ap.l.length n.ap.c] 25)) [.int .i64 p.f, .int .i64 p.t, .slice p.d.A p.d.l.length p.d.c] 28 (w.heap.size + 1) (by simp)).alloc (.cells #[.slice none 0 0, .slice none 0 0] 25)
  have b2 := Blk.newH ((w.alloc (.cells #[.slice n.q.A n.q.l.length n.q.c, .slice n.ap.A n.ap.l.length n.ap.c] 25)).alloc (.cells #[.int .i64 p.f, .int .i64 p.t, .slice p.d.A p.d.l.length p.d.c] 28)) [.slice none 0 0, .slice none 0 0] 25 (w.heap.size + 2) (by simp)
  have HB0 := Lib.hid hB0
  have HB := Lib.hid (show _ ∧ _ ∧ _ from ⟨b0, b1, b2⟩)
  clear hB0 b0 b1 b2
  obtain ⟨c, hc⟩ : ∃ c, chkE n = c := ⟨_, rfl⟩
  have HC := Lib.hid hc
  obtain ⟨o, ho⟩ : ∃ o, okP p = o := ⟨_, rfl⟩
  have HO := Lib.hid ho
  have hc01 := chkE_or n
  rw [hc] at hc01
  clear hc ho
  go_enter Try.func11, Try.ntmps11
  go_wp2_with fail
  refine (rcheck_at c HC.out (hn.ext HB0.out)).mono ?_
  rintro e w1 ⟨rfl, B1⟩
  have hB1 := Lib.hid (ext_trans HB0.out B1)
  have HB1 := Lib.hid (show _ ∧ _ ∧ _ from ⟨HB.out.1.ext B1, HB.out.2.1.ext B1, HB.out.2.2.ext B1⟩)
  clear HB B1
  have z0 := HB1.out.2.2.c 0 _ rfl
  have z1 := HB1.out.2.2.c 1 _ rfl
  have zf := HB1.out.2.2.f
  rcases hc01 with rfl | rfl
  rotate_left
  · have HZ := Lib.hid (show r = 460 by rw [← HR.out]; simp [Nt.sendE, HC.out])
    go_wp2_with fail
    refine bodyPost_ret (v := .tuple #[.agg #[.slice none 0 0, .slice none 0 0], .int .i64 460]) (by simp [results, Try.results11, go_sem, *]) rfl ?_
    exact NetR.zero HZ.out HN.out (by decide) rfl (ext_set (ext_set hB1.out _ _ (by simp; omega)) _ _ (by simp; omega))
  clear z0 z1 zf
  have y0 := HB1.out.2.1.c 0 _ rfl
  have y1 := HB1.out.2.1.c 1 _ rfl
  have y2 := HB1.out.2.1.c 2 _ rfl
  go_wp2_with fail
  refine (rpacket_at (p := p) o HO.out hdl).mono ?_
  rintro e w2 ⟨rfl, B2⟩
  have hB2 := Lib.hid (ext_trans hB1.out B2)
  have HB2 := Lib.hid (show _ ∧ _ ∧ _ from ⟨HB1.out.1.ext B2, HB1.out.2.1.ext B2, HB1.out.2.2.ext B2⟩)
  clear hB1 HB1 B2 y0 y1 y2
  have z0 := HB2.out.2.2.c 0 _ rfl
  have z1 := HB2.out.2.2.c 1 _ rfl
  have zf := HB2.out.2.2.f
  cases o
  · have HZ := Lib.hid (show r = 460 by rw [← HR.out]; simp [Nt.sendE, HO.out])
    go_wp2_with fail
    refine bodyPost_ret (v := .tuple #[.agg #[.slice none 0 0, .slice none 0 0], .int .i64 460]) (by simp [results, Try.results11, go_sem, *]) rfl ?_
    exact NetR.zero HZ.out HN.out (by decide) rfl (ext_set (ext_set hB2.out _ _ (by simp; omega)) _ _ (by simp; omega))
  have n0 := HB2.out.1.c 0 _ rfl
  have nl := chkE_len HC.out
  by_cases hl : n.q.l.length = 4096
  · have hl1 : ((n.q.l.length : Int) == 4096) = true := by simp [hl]
    have HZ := Lib.hid (show r = 2 by rw [← HR.out]; simp [Nt.sendE, HO.out, HC.out, hl])
    clear hl
    go_wp2_with fail
    refine bodyPost_ret (v := .tuple #[.agg #[.slice none 0 0, .slice none 0 0], .int .i64 2]) (by simp [results, Try.results11, go_sem, *]) rfl ?_
    exact NetR.zero HZ.out HN.out (by decide) rfl (ext_set (ext_set hB2.out _ _ (by simp; omega)) _ _ (by simp; omega))
  have hl1 : ((n.q.l.length : Int) == 4096) = false := by rw [beq_eq_false_iff_ne]; omega
  have HZ := Lib.hid (show r = 0 by rw [← HR.out]; simp [Nt.sendE, HO.out, HC.out, hl])
  have HL := Lib.hid hl
  clear hl z0 z1 zf
  have y0 := HB2.out.2.1.c 0 _ rfl
  have y1 := HB2.out.2.1.c 1 _ rfl
  have y2 := HB2.out.2.1.c 2 _ rfl
  have hlc : (n.q.l.length : Int) ≤ n.q.c := by omega
  go_wp2_with fail
  have SS := Lib.hid (show ∀ w', Below w2.heap.size w2 w' → (fun w' => Below w2.heap.size w2 w' ∧ w'.cell? ⟨w.heap.size, 0, none⟩ = some (.slice n.q.A n.q.l.length n.q.c) ∧ w'.cell? ⟨w.heap.size + 1, 0, none⟩ = some (.int .i64 p.f) ∧ w'.cell? ⟨w.heap.size + 1, 1, none⟩ = some (.int .i64 p.t) ∧ w'.cell? ⟨w.heap.size + 1, 2, none⟩ = some (.slice p.d.A p.d.l.length p.d.c)) w' from fun w' b => ⟨b, (HB2.out.1.ext b).c 0 _ rfl, (HB2.out.2.1.ext b).c 0 _ rfl, (HB2.out.2.1.ext b).c 1 _ rfl, (HB2.out.2.1.ext b).c 2 _ rfl⟩)
  refine rg_begin (S := (fun w' => Below w2.heap.size w2 w' ∧ w'.cell? ⟨w.heap.size, 0, none⟩ = some (.slice n.q.A n.q.l.length n.q.c) ∧ w'.cell? ⟨w.heap.size + 1, 0, none⟩ = some (.int .i64 p.f) ∧ w'.cell? ⟨w.heap.size + 1, 1, none⟩ = some (.int .i64 p.t) ∧ w'.cell? ⟨w.heap.size + 1, 2, none⟩ = some (.slice p.d.A p.d.l.length p.d.c))) 8 (by kernel_rfl) (by intro d; cases d <;> intro _ _ _ _ h <;> exact h) ?_ (fun Q7 hQ7 hN7 hHeld => ?_)
  · exact SS.out _ (ext_drew (ext_refl w2))
  refine rg_take (i := 1) (some 21) (v := ?_) rfl rfl (by kernel_rfl) (by rfl) hQ7 hHeld ?_ ?_
  rotate_left
  · intro w7 hSw; (try dsimp only at hSw); go_simp; all_goals with_reducible rfl
  try simp only [Act.put, List.setIfInBounds_toArray, List.set_cons_zero, List.set_cons_succ]
  refine rg_take (i := 2) (some 22) (v := ?_) rfl rfl (by kernel_rfl) (by rfl) hQ7 hHeld ?_ ?_
  rotate_left
  · intro w7 hSw; (try dsimp only at hSw); go_simp; all_goals with_reducible rfl
  try simp only [Act.put, List.setIfInBounds_toArray, List.set_cons_zero, List.set_cons_succ]
  refine rg_take (i := 4) (some 24) (v := ?_) rfl rfl (by kernel_rfl) (by rfl) hQ7 hHeld ?_ ?_
  rotate_left
  · intro w7 hSw; (try dsimp only at hSw); go_simp; all_goals with_reducible rfl
  try simp only [Act.put, List.setIfInBounds_toArray, List.set_cons_zero, List.set_cons_succ]
  refine rg_two (i := 0) (j := 5) (by kernel_rfl) (rg_step rfl (by rfl) (fun K hK => ?_)) (rg_step rfl (by rfl) (fun K hK => ?_))
  · go_simp
    refine hK.out _ _ ?_ (fun hHeld => ?_)
    · exact SS.out _ (ext_alloc (ext_drew (ext_refl w2)) _)
    clear hK K
    try simp only [Act.put, List.setIfInBounds_toArray, List.set_cons_zero, List.set_cons_succ]
    refine rg_two (i := 3) (j := 5) (by kernel_rfl) (rg_step rfl (by rfl) (fun K hK => ?_)) (rg_step rfl (by rfl) (fun K hK => ?_))
    · refine rg_append (some 23) _ _ 22 22 rfl rfl rfl _ _ rfl rfl (Own.append_to pkI 22 (Own.madeH (α := Pk) _ w2.heap.size 28 Pk.cells 3 (ext_drew (ext_refl w2)).size _ (by first | rfl | simp)) (ext_alloc (ext_drew (ext_refl w2)) _) (ys := n.q.l) rfl n.q.c (hn.q.ext (ext_trans hB2.out (ext_alloc (ext_drew (ext_refl w2)) _))) (by simp; omega) (by simp [maxLen]; omega)) ?_
      rintro v3 w3 ⟨A3, c3, rfl, o3, B3, G3, hc3, hm3⟩
      refine hK.out _ _ ?_ (fun hHeld => ?_)
      · exact SS.out _ (B3)
      clear hK K
      try simp only [Act.put, List.setIfInBounds_toArray, List.set_cons_zero, List.set_cons_succ]
      have O3 := Lib.hid o3
      refine rg_one (i := 5) (by kernel_rfl) (rg_step rfl (by rfl) (fun K hK => ?_))
      go_simp
      refine hK.out _ _ ?_ (fun hHeld => ?_)
      · exact SS.out _ (ext_alloc B3 _)
      clear hK K
      try simp only [Act.put, List.setIfInBounds_toArray, List.set_cons_zero, List.set_cons_succ]
      replace O3 := Lib.hid (O3.out.alloc (.cells #[.int .i64 p.f, .int .i64 p.t, .slice p.d.A p.d.l.length p.d.c] 28))
      have S5 := Lib.hid (slc_litH w3 [p] _ 28 (enc := Pk.cells) (sz := 3) (fun _ => rfl) rfl _ (by first | rfl | simp))
      clear o3
      refine rg_one (i := 6) (by kernel_rfl) (rg_step rfl (by rfl) (fun K hK => ?_))
      refine rg_append (some 26) _ _ 22 22 rfl rfl rfl _ _ rfl rfl (Own.append_to pkI 22 O3.out (ext_alloc B3 _) (ys := [p]) rfl 1 S5.out (by simp; omega) (by simp [maxLen]; omega)) ?_
      rintro v5 w5 ⟨A5, c5, rfl, o5, B5, _, hc5, hm5⟩
      refine hK.out _ _ ?_ (fun hHeld => ?_)
      · exact SS.out _ (B5)
      clear hK K
      try simp only [Act.put, List.setIfInBounds_toArray, List.set_cons_zero, List.set_cons_succ]
      refine rg_take (i := 7) (some 27) (v := ?_) rfl rfl (by kernel_rfl) (by rfl) hQ7 hHeld ?_ ?_
      rotate_left
      · intro w7 hSw; (try dsimp only at hSw); go_simp; all_goals with_reducible rfl
      try simp only [Act.put, List.setIfInBounds_toArray, List.set_cons_zero, List.set_cons_succ]
      have O5 := Lib.hid o5
      have hB5 := Lib.hid B5
      have n1 := (HB2.out.1.ext B5).c 1 _ rfl
      have zb := HB2.out.2.2.ext B5
      have z0 := zb.c 0 _ rfl
      have z1 := zb.c 1 _ rfl
      have zf := zb.f
      have n0 := hHeld.2.1
      have nf := (HB2.out.1.ext B5).f
      clear zb B5 hHeld o5
      refine rg_one (i := 8) (by kernel_rfl) (rg_late rfl (by rfl) (by kernel_rfl) (fun K hK => ?_))
      go_simp
      refine hK.out _ _ ?_
      clear hK K
      try simp only [Act.put, List.setIfInBounds_toArray, List.set_cons_zero, List.set_cons_succ]
      refine rg_end (by kernel_rfl) (hN7 _ _ ?_) _
      clear hQ7 hN7 Q7
      go_wp2_with fail
      refine bodyPost_ret (v := .tuple #[Nt.v ⟨⟨A5, c5, n.q.l ++ [p]⟩, n.ap⟩, .int .i64 0]) (by simp [results, Try.results11, go_sem, *]) rfl ?_
      obtain ⟨rfl, rfl⟩ := HY.out HZ.out
      have k2 := hB2.out.size
      have k0 := HB2.out.1.lt
      have k1 := HB2.out.2.2.lt
      have hb6 := ext_set (ext_set (ext_set (ext_trans hB2.out hB5.out) ⟨w.heap.size, 0, none⟩ (.slice A5 (n.q.l.length + 1) c5) (Nat.le_refl _)) ⟨w.heap.size + 1 + 1, 0, none⟩ (.slice A5 (n.q.l.length + 1) c5) (by simp; omega)) ⟨w.heap.size + 1 + 1, 1, none⟩ (.slice n.ap.A n.ap.l.length n.ap.c) (by simp; omega)
      refine ⟨⟨⟨A5, c5, n.q.l ++ [p]⟩, n.ap⟩, by rw [HZ.out], rfl, rfl, NOk.app hn hd hdl hb6 ((((O5.out.slc pkI.hl pkI.hz).far ?_).far ?_).far ?_) hc5 hm5, hb6, ?_⟩
      rotate_right
      · intro b hb hf
        refine ⟨fun _ c o s e => ?_, hf.1.2.1, fun x hx => ?_⟩
        · have e1 : A5 = some ⟨c, o, s⟩ := e
          have := (O5.out.lt c (by rw [e1]; rfl)).2; omega
        · rcases List.mem_append.1 hx with h | h
          · exact hf.1.2.2 x h
          · obtain rfl := List.mem_singleton.1 h; exact hf.2
      all_goals (intro _ b o s e; have := (O5.out.lt b (by rw [e]; rfl)).2; simp at this ⊢; omega)
    · go_simp
      refine hK.out _ _ ?_ (fun hHeld => ?_)
      · exact SS.out _ (ext_alloc (ext_alloc (ext_drew (ext_refl w2)) _) _)
      clear hK K
      try simp only [Act.put, List.setIfInBounds_toArray, List.set_cons_zero, List.set_cons_succ]
      refine rg_one (i := 3) (by kernel_rfl) (rg_step rfl (by rfl) (fun K hK => ?_))
      refine rg_append (some 23) _ _ 22 22 rfl rfl rfl _ _ rfl rfl (Own.append_to pkI 22 ((Own.madeH (α := Pk) _ w2.heap.size 28 Pk.cells 3 (ext_drew (ext_refl w2)).size _ (by first | rfl | simp)).alloc _) (ext_alloc (ext_alloc (ext_drew (ext_refl w2)) _) _) (ys := n.q.l) rfl n.q.c (hn.q.ext (ext_trans hB2.out (ext_alloc (ext_alloc (ext_drew (ext_refl w2)) _) _))) (by simp; omega) (by simp [maxLen]; omega)) ?_
      rintro v3 w3 ⟨A3, c3, rfl, o3, B3, G3, hc3, hm3⟩
      refine hK.out _ _ ?_ (fun hHeld => ?_)
      · exact SS.out _ (B3)
      clear hK K
      try simp only [Act.put, List.setIfInBounds_toArray, List.set_cons_zero, List.set_cons_succ]
      have O3 := Lib.hid o3
      have S5 := Lib.hid ((slc_litH (w2.drew.alloc (.cells #[] 28)) [p] _ 28 (enc := Pk.cells) (sz := 3) (fun _ => rfl) rfl (w2.heap.size + 1) (by first | rfl | simp)).grown G3 (by intro b o s e; cases e; simp [Value.ownBlock]))
      clear o3
      refine rg_one (i := 6) (by kernel_rfl) (rg_step rfl (by rfl) (fun K hK => ?_))
      refine rg_append (some 26) _ _ 22 22 rfl rfl rfl _ _ rfl rfl (Own.append_to pkI 22 O3.out (B3) (ys := [p]) rfl 1 S5.out (by simp; omega) (by simp [maxLen]; omega)) ?_
      rintro v5 w5 ⟨A5, c5, rfl, o5, B5, _, hc5, hm5⟩
      refine hK.out _ _ ?_ (fun hHeld => ?_)
      · exact SS.out _ (B5)
      clear hK K
      try simp only [Act.put, List.setIfInBounds_toArray, List.set_cons_zero, List.set_cons_succ]
      refine rg_take (i := 7) (some 27) (v := ?_) rfl rfl (by kernel_rfl) (by rfl) hQ7 hHeld ?_ ?_
      rotate_left
      · intro w7 hSw; (try dsimp only at hSw); go_simp; all_goals with_reducible rfl
      try simp only [Act.put, List.setIfInBounds_toArray, List.set_cons_zero, List.set_cons_succ]
      have O5 := Lib.hid o5
      have hB5 := Lib.hid B5
      have n1 := (HB2.out.1.ext B5).c 1 _ rfl
      have zb := HB2.out.2.2.ext B5
      have z0 := zb.c 0 _ rfl
      have z1 := zb.c 1 _ rfl
      have zf := zb.f
      have n0 := hHeld.2.1
      have nf := (HB2.out.1.ext B5).f
      clear zb B5 hHeld o5
      refine rg_one (i := 8) (by kernel_rfl) (rg_late rfl (by rfl) (by kernel_rfl) (fun K hK => ?_))
      go_simp
      refine hK.out _ _ ?_
      clear hK K
      try simp only [Act.put, List.setIfInBounds_toArray, List.set_cons_zero, List.set_cons_succ]
      refine rg_end (by kernel_rfl) (hN7 _ _ ?_) _
      clear hQ7 hN7 Q7
      go_wp2_with fail
      refine bodyPost_ret (v := .tuple #[Nt.v ⟨⟨A5, c5, n.q.l ++ [p]⟩, n.ap⟩, .int .i64 0]) (by simp [results, Try.results11, go_sem, *]) rfl ?_
      obtain ⟨rfl, rfl⟩ := HY.out HZ.out
      have k2 := hB2.out.size
      have k0 := HB2.out.1.lt
      have k1 := HB2.out.2.2.lt
      have hb6 := ext_set (ext_set (ext_set (ext_trans hB2.out hB5.out) ⟨w.heap.size, 0, none⟩ (.slice A5 (n.q.l.length + 1) c5) (Nat.le_refl _)) ⟨w.heap.size + 1 + 1, 0, none⟩ (.slice A5 (n.q.l.length + 1) c5) (by simp; omega)) ⟨w.heap.size + 1 + 1, 1, none⟩ (.slice n.ap.A n.ap.l.length n.ap.c) (by simp; omega)
      refine ⟨⟨⟨A5, c5, n.q.l ++ [p]⟩, n.ap⟩, by rw [HZ.out], rfl, rfl, NOk.app hn hd hdl hb6 ((((O5.out.slc pkI.hl pkI.hz).far ?_).far ?_).far ?_) hc5 hm5, hb6, ?_⟩
      rotate_right
      · intro b hb hf
        refine ⟨fun _ c o s e => ?_, hf.1.2.1, fun x hx => ?_⟩
        · have e1 : A5 = some ⟨c, o, s⟩ := e
          have := (O5.out.lt c (by rw [e1]; rfl)).2; omega
        · rcases List.mem_append.1 hx with h | h
          · exact hf.1.2.2 x h
          · obtain rfl := List.mem_singleton.1 h; exact hf.2
      all_goals (intro _ b o s e; have := (O5.out.lt b (by rw [e]; rfl)).2; simp at this ⊢; omega)
  · go_simp
    refine hK.out _ _ ?_ (fun hHeld => ?_)
    · exact SS.out _ (ext_alloc (ext_drew (ext_refl w2)) _)
    clear hK K
    try simp only [Act.put, List.setIfInBounds_toArray, List.set_cons_zero, List.set_cons_succ]
    refine rg_one (i := 0) (by kernel_rfl) (rg_step rfl (by rfl) (fun K hK => ?_))
    go_simp
    refine hK.out _ _ ?_ (fun hHeld => ?_)
    · exact SS.out _ (ext_alloc (ext_alloc (ext_drew (ext_refl w2)) _) _)
    clear hK K
    try simp only [Act.put, List.setIfInBounds_toArray, List.set_cons_zero, List.set_cons_succ]
    refine rg_one (i := 3) (by kernel_rfl) (rg_step rfl (by rfl) (fun K hK => ?_))
    refine rg_append (some 23) _ _ 22 22 rfl rfl rfl _ _ rfl rfl (Own.append_to pkI 22 (Own.madeH (α := Pk) _ w2.heap.size 28 Pk.cells 3 (ext_alloc (ext_drew (ext_refl w2)) _).size _ (by first | rfl | simp)) (ext_alloc (ext_alloc (ext_drew (ext_refl w2)) _) _) (ys := n.q.l) rfl n.q.c (hn.q.ext (ext_trans hB2.out (ext_alloc (ext_alloc (ext_drew (ext_refl w2)) _) _))) (by simp; omega) (by simp [maxLen]; omega)) ?_
    rintro v3 w3 ⟨A3, c3, rfl, o3, B3, G3, hc3, hm3⟩
    refine hK.out _ _ ?_ (fun hHeld => ?_)
    · exact SS.out _ (B3)
    clear hK K
    try simp only [Act.put, List.setIfInBounds_toArray, List.set_cons_zero, List.set_cons_succ]
    have O3 := Lib.hid o3
    have S5 := Lib.hid (((slc_litH w2.drew [p] _ 28 (enc := Pk.cells) (sz := 3) (fun _ => rfl) rfl _ (by first | rfl | simp)).alloc (.cells #[] 28)).grown G3 (by intro b o s e; cases e; simp [Value.ownBlock]))
    clear o3
    refine rg_one (i := 6) (by kernel_rfl) (rg_step rfl (by rfl) (fun K hK => ?_))
    refine rg_append (some 26) _ _ 22 22 rfl rfl rfl _ _ rfl rfl (Own.append_to pkI 22 O3.out (B3) (ys := [p]) rfl 1 S5.out (by simp; omega) (by simp [maxLen]; omega)) ?_
    rintro v5 w5 ⟨A5, c5, rfl, o5, B5, _, hc5, hm5⟩
    refine hK.out _ _ ?_ (fun hHeld => ?_)
    · exact SS.out _ (B5)
    clear hK K
    try simp only [Act.put, List.setIfInBounds_toArray, List.set_cons_zero, List.set_cons_succ]
    refine rg_take (i := 7) (some 27) (v := ?_) rfl rfl (by kernel_rfl) (by rfl) hQ7 hHeld ?_ ?_
    rotate_left
    · intro w7 hSw; (try dsimp only at hSw); go_simp; all_goals with_reducible rfl
    try simp only [Act.put, List.setIfInBounds_toArray, List.set_cons_zero, List.set_cons_succ]
    have O5 := Lib.hid o5
    have hB5 := Lib.hid B5
    have n1 := (HB2.out.1.ext B5).c 1 _ rfl
    have zb := HB2.out.2.2.ext B5
    have z0 := zb.c 0 _ rfl
    have z1 := zb.c 1 _ rfl
    have zf := zb.f
    have n0 := hHeld.2.1
    have nf := (HB2.out.1.ext B5).f
    clear zb B5 hHeld o5
    refine rg_one (i := 8) (by kernel_rfl) (rg_late rfl (by rfl) (by kernel_rfl) (fun K hK => ?_))
    go_simp
    refine hK.out _ _ ?_
    clear hK K
    try simp only [Act.put, List.setIfInBounds_toArray, List.set_cons_zero, List.set_cons_succ]
    refine rg_end (by kernel_rfl) (hN7 _ _ ?_) _
    clear hQ7 hN7 Q7
    go_wp2_with fail
    refine bodyPost_ret (v := .tuple #[Nt.v ⟨⟨A5, c5, n.q.l ++ [p]⟩, n.ap⟩, .int .i64 0]) (by simp [results, Try.results11, go_sem, *]) rfl ?_
    obtain ⟨rfl, rfl⟩ := HY.out HZ.out
    have k2 := hB2.out.size
    have k0 := HB2.out.1.lt
    have k1 := HB2.out.2.2.lt
    have hb6 := ext_set (ext_set (ext_set (ext_trans hB2.out hB5.out) ⟨w.heap.size, 0, none⟩ (.slice A5 (n.q.l.length + 1) c5) (Nat.le_refl _)) ⟨w.heap.size + 1 + 1, 0, none⟩ (.slice A5 (n.q.l.length + 1) c5) (by simp; omega)) ⟨w.heap.size + 1 + 1, 1, none⟩ (.slice n.ap.A n.ap.l.length n.ap.c) (by simp; omega)
    refine ⟨⟨⟨A5, c5, n.q.l ++ [p]⟩, n.ap⟩, by rw [HZ.out], rfl, rfl, NOk.app hn hd hdl hb6 ((((O5.out.slc pkI.hl pkI.hz).far ?_).far ?_).far ?_) hc5 hm5, hb6, ?_⟩
    rotate_right
    · intro b hb hf
      refine ⟨fun _ c o s e => ?_, hf.1.2.1, fun x hx => ?_⟩
      · have e1 : A5 = some ⟨c, o, s⟩ := e
        have := (O5.out.lt c (by rw [e1]; rfl)).2; omega
      · rcases List.mem_append.1 hx with h | h
        · exact hf.1.2.2 x h
        · obtain rfl := List.mem_singleton.1 h; exact hf.2
    all_goals (intro _ b o s e; have := (O5.out.lt b (by rw [e]; rfl)).2; simp at this ⊢; omega)
end Go.Proofs.Ythchcimialclkaa
