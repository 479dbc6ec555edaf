/- Pairs compared; Same. -/
import Derived.Test.YthchcimialclkaaF
import Derived.ChangeKeysEq
set_option linter.unusedSimpArgs false
set_option linter.unusedVariables false
namespace Go.Proofs.Ythchcimialclkaa
open Go.RowKit
theorem Lk.eq_iff (x y : Lk) : x = y ↔ x.a = y.a ∧ x.b = y.b := by cases x; cases y; simp
theorem info3 : (Try.prog.info? 3).map (fun i => (i.zero, i.size, i.bytes)) = some (some (.int .i64 0), 1, 8) := by kernel_rfl
theorem cells3 : Try.prog.cellsOf 3 = 1 := by kernel_rfl
theorem eqA (t : TypeId) (ht : Try.prog.underlying t = some (.array 2 3)) (x y : Lk) (d : Nat) (w : World) : (Op.equalIn (d + 2) t x.v y.v).run Try.prog w = .ok (decide (x = y)) w := by
  obtain ⟨i, hi, _⟩ := info_parts info3
  rw [run_equalIn_array (P := Try.prog) w (d + 1) _ _ ht hi, cells3]
  simp only [show List.range 2 = [0, 1] from rfl, Op.eqItems]
  go_simp
  simp only [Lk.eq_iff]
  repeat' split
  all_goals simp_all
theorem run_eql53 (x y : Lk) (w : World) : (binOp .eql 53 x.v y.v).run Try.prog w = .ok (.bool (decide (x = y))) w := by
  rw [run_eql_struct, eqA 53 Try.underlying53 x y 9998 w]; rfl
theorem run_neq53 (x y : Lk) (w : World) : (binOp .neq 53 x.v y.v).run Try.prog w = .ok (.bool (!decide (x = y))) w := by
  rw [run_neq_struct, eqA 53 Try.underlying53 x y 9998 w]; rfl
theorem run_eql56 (x y : Lk) (w : World) : (binOp .eql 56 x.v y.v).run Try.prog w = .ok (.bool (decide (x = y))) w := by
  rw [run_eql_struct, eqA 56 Try.underlying56 x y 9998 w]; rfl
theorem run_neq56 (x y : Lk) (w : World) : (binOp .neq 56 x.v y.v).run Try.prog w = .ok (.bool (!decide (x = y))) w := by
  rw [run_neq_struct, eqA 56 Try.underlying56 x y 9998 w]; rfl
def sameN (a b : Nt) : Bool := decide (a.q.l.length = b.q.l.length) && decide (a.ap.l.length = b.ap.l.length) && (a.q.l.zip b.q.l).all (fun p => sameP p.1 p.2) && (a.ap.l.zip b.ap.l).all (fun p => decide (p.1 = p.2))
theorem zip_at {α β : Type} {l : List α} {m : List β} {k : Nat} {x : α} {y : β} (h1 : l[k]? = some x) (h2 : m[k]? = some y) : (l.zip m)[k]? = some (x, y) := by
  rw [List.getElem?_zip_eq_some]; exact ⟨h1, h2⟩
theorem sameN_q {a b : Nt} (h : (a.q.l.zip b.q.l).all (fun p => sameP p.1 p.2) = false) : sameN a b = false := by simp [sameN, h]
theorem sameN_ap {a b : Nt} (h : (a.ap.l.zip b.ap.l).all (fun p => decide (p.1 = p.2)) = false) : sameN a b = false := by
  unfold sameN; rw [h, Bool.and_false]
theorem sameN_yes {a b : Nt} (h1 : a.q.l.length = b.q.l.length) (h2 : a.ap.l.length = b.ap.l.length) (h3 : (a.q.l.zip b.q.l).all (fun p => sameP p.1 p.2) = true) (h4 : (a.ap.l.zip b.ap.l).all (fun p => decide (p.1 = p.2)) = true) : sameN a b = true := by
  unfold sameN; rw [h3, h4]; simp [h1, h2]
set_option maxHeartbeats 3200000 in
set_option maxRecDepth 100000 in
theorem same_any (a b : Nt) (w : World) (ha : NOk w a) (hb : NOk w b) : Calls Try.prog 14 #[a.v, b.v] w (RetB w (sameN a b)) := by
  have g1 := ha.ql
  have g2 := ha.al
  have g3 := hb.ql
  have g4 := hb.al
  unfold maxLen at g1 g2 g3 g4
  obtain ⟨r, hr⟩ : ∃ r, sameN a b = r := ⟨_, rfl⟩
  have HR := Lib.hid hr
  rw [hr]
  clear hr
  have HB0 := Lib.hid (ext_alloc (ext_alloc (ext_refl w) (.cells #[.slice a.q.A a.q.l.length a.q.c, .slice a.ap.A a.ap.l.length a.ap.c] 25)) (.cells #[.slice b.q.A b.q.l.length b.q.c, .slice b.ap.A b.ap.l.length b.ap.c] 25))
  have X1 := Lib.hid ((Blk.new w [.slice a.q.A a.q.l.length a.q.c, .slice a.ap.A a.ap.l.length a.ap.c] 25).alloc (.cells #[.slice b.q.A b.q.l.length b.q.c, .slice b.ap.A b.ap.l.length b.ap.c] 25))
  have X2 := Lib.hid (Blk.newH (w.alloc (.cells #[.slice a.q.A a.q.l.length a.q.c, .slice a.ap.A a.ap.l.length a.ap.c] 25)) [.slice b.q.A b.q.l.length b.q.c, .slice b.ap.A b.ap.l.length b.ap.c] 25 (w.heap.size + 1) (by simp))
  by_cases h1 : a.q.l.length = b.q.l.length
  rotate_left
  · have h1' : ((a.q.l.length : Int) != (b.q.l.length : Int)) = true := by simp; omega
    have HZ : Hid (false = r) := by rw [Hid, ← HR.out]; simp [sameN, h1]
    clear h1
    go_enter Try.func14, Try.ntmps14
    go_wp2_with fail
    go_ret
    exact ⟨ret_bool HZ.out, HB0.out⟩
  by_cases h2 : a.ap.l.length = b.ap.l.length
  rotate_left
  · have h1' : ((a.q.l.length : Int) != (b.q.l.length : Int)) = false := by simp; omega
    have h2' : ((a.ap.l.length : Int) != (b.ap.l.length : Int)) = true := by simp; omega
    have HZ : Hid (false = r) := by rw [Hid, ← HR.out]; simp [sameN, h2]
    clear h1 h2
    go_enter Try.func14, Try.ntmps14
    go_wp2_with fail
    go_ret
    exact ⟨ret_bool HZ.out, HB0.out⟩
  have h1' : ((a.q.l.length : Int) != (b.q.l.length : Int)) = false := by simp; omega
  have h2' : ((a.ap.l.length : Int) != (b.ap.l.length : Int)) = false := by simp; omega
  have H1 := Lib.hid h1
  have H2 := Lib.hid h2
  have l1 : a.q.l.length ≤ b.q.l.length := by omega
  have l2 : a.ap.l.length ≤ b.ap.l.length := by omega
  clear h1 h2
  go_enter Try.func14, Try.ntmps14
  go_wp2_with fail
  clear h1' h2'
  go_loopw [5] (fun i wr => ∃ k : Nat, k ≤ a.q.l.length ∧ i = .int .i64 k ∧ Hid (((a.q.l.zip b.q.l).take k).all (fun p => sameP p.1 p.2) = true) ∧ Below w.heap.size w wr ∧ Hid (Blk wr w.heap.size [.slice a.q.A a.q.l.length a.q.c, .slice a.ap.A a.ap.l.length a.ap.c]) ∧ Hid (Blk wr (w.heap.size + 1) [.slice b.q.A b.q.l.length b.q.c, .slice b.ap.A b.ap.l.length b.ap.c])) (fun i _ => a.q.l.length - (intOf i).toNat)
  case atStart => exact ⟨0, Nat.zero_le _, rfl, by simp [Hid], HB0.out, X1, X2⟩
  case round =>
    clear X1 X2
    obtain ⟨k, hk, rfl, HT, hB, X1, X2⟩ := hrel
    have n0 := X1.out.c 0 _ rfl
    have m0 := X2.out.c 0 _ rfl
    by_cases hlt : k < a.q.l.length
    · rename_i K1 a1
      clear a1
      obtain ⟨x, b1, o1, hx, hA, hb1, hc⟩ := (ha.q.ext hB).at_ hlt
      obtain ⟨y, b2, o2, hy, hA2, hb2, hc2⟩ := (hb.q.ext hB).at_ (Nat.lt_of_lt_of_le hlt l1)
      have hlt' : (k : Int) < a.q.l.length := by omega
      have hlt2 : (k : Int) < b.q.l.length := by omega
      have hz : ((k : Int)).toNat = k := by omega
      have k0 : (0 : Int) ≤ k := by omega
      rw [hA] at n0
      rw [hA2] at m0
      have HZX := Lib.hid (zip_at hx hy)
      have HX := Lib.hid (show _ ∧ _ from ⟨(ha.d x (List.mem_of_getElem? hx)).ext hB, (hb.d y (List.mem_of_getElem? hy)).ext hB⟩)
      have c0 := hc 0 _ rfl
      have c1 := hc 1 _ rfl
      have c2 := hc 2 _ rfl
      have d0 := hc2 0 _ rfl
      have d1 := hc2 1 _ rfl
      have d2 := hc2 2 _ rfl
      simp only [Nat.add_zero] at c0 d0
      have SS := Lib.hid (show ∀ w', Below wr.heap.size wr w' → (fun w' => Below wr.heap.size wr w' ∧ w'.cell? ⟨w.heap.size, 0, none⟩ = some (.slice (some ⟨b1, o1, none⟩) a.q.l.length a.q.c) ∧ w'.cell? ⟨w.heap.size + 1, 0, none⟩ = some (.slice (some ⟨b2, o2, none⟩) b.q.l.length b.q.c) ∧ w'.cell? ⟨b1, o1 + k * 3, none⟩ = some (.int .i64 x.f) ∧ w'.cell? ⟨b1, o1 + k * 3 + 1, none⟩ = some (.int .i64 x.t) ∧ w'.cell? ⟨b1, o1 + k * 3 + 2, none⟩ = some (.slice x.d.A x.d.l.length x.d.c) ∧ w'.cell? ⟨b2, o2 + k * 3, none⟩ = some (.int .i64 y.f) ∧ w'.cell? ⟨b2, o2 + k * 3 + 1, none⟩ = some (.int .i64 y.t) ∧ w'.cell? ⟨b2, o2 + k * 3 + 2, none⟩ = some (.slice y.d.A y.d.l.length y.d.c)) w' from fun w' b => ⟨b, (b.cell (p := ⟨w.heap.size, 0, none⟩) X1.out.lt).trans n0, (b.cell (p := ⟨w.heap.size + 1, 0, none⟩) X2.out.lt).trans m0, (b.cell (p := ⟨b1, _, none⟩) hb1).trans c0, (b.cell (p := ⟨b1, _, none⟩) hb1).trans c1, (b.cell (p := ⟨b1, _, none⟩) hb1).trans c2, (b.cell (p := ⟨b2, _, none⟩) hb2).trans d0, (b.cell (p := ⟨b2, _, none⟩) hb2).trans d1, (b.cell (p := ⟨b2, _, none⟩) hb2).trans d2⟩)
      clear hc hc2 hx hy hA hA2 c0 c1 c2 d0 d1 d2
      obtain ⟨s, hs⟩ : ∃ s, sameP x y = s := ⟨_, rfl⟩
      have HS := Lib.hid hs
      clear hs
      cases s
      all_goals
        go_wp2_with fail
        refine rg_begin (S := (fun w' => Below wr.heap.size wr w' ∧ w'.cell? ⟨w.heap.size, 0, none⟩ = some (.slice (some ⟨b1, o1, none⟩) a.q.l.length a.q.c) ∧ w'.cell? ⟨w.heap.size + 1, 0, none⟩ = some (.slice (some ⟨b2, o2, none⟩) b.q.l.length b.q.c) ∧ w'.cell? ⟨b1, o1 + k * 3, none⟩ = some (.int .i64 x.f) ∧ w'.cell? ⟨b1, o1 + k * 3 + 1, none⟩ = some (.int .i64 x.t) ∧ w'.cell? ⟨b1, o1 + k * 3 + 2, none⟩ = some (.slice x.d.A x.d.l.length x.d.c) ∧ w'.cell? ⟨b2, o2 + k * 3, none⟩ = some (.int .i64 y.f) ∧ w'.cell? ⟨b2, o2 + k * 3 + 1, none⟩ = some (.int .i64 y.t) ∧ w'.cell? ⟨b2, o2 + k * 3 + 2, none⟩ = some (.slice y.d.A y.d.l.length y.d.c))) 12 (by kernel_rfl) (by intro d; cases d <;> intro _ _ _ _ h <;> exact h) ?_ (fun Q7 hQ7 hN7 hHeld => ?_)
        · exact SS.out _ (ext_drew (ext_refl wr))
        refine rg_take (i := 0) (some 30) (v := ?_) rfl rfl (by kernel_rfl) (by rfl) hQ7 hHeld ?_ ?_
        rotate_left
        · intro w7 hSw; (try dsimp only at hSw); go_simp; all_goals with_reducible rfl
        try simp only [Act.put, List.setIfInBounds_toArray, List.set_cons_zero, List.set_cons_succ]
        refine rg_take (i := 1) (some 31) (v := ?_) rfl rfl (by kernel_rfl) (by rfl) hQ7 hHeld ?_ ?_
        rotate_left
        · intro w7 hSw; (try dsimp only at hSw); go_simp; all_goals with_reducible rfl
        try simp only [Act.put, List.setIfInBounds_toArray, List.set_cons_zero, List.set_cons_succ]
        refine rg_take (i := 2) (some 32) (v := ?_) rfl rfl (by kernel_rfl) (by rfl) hQ7 hHeld ?_ ?_
        rotate_left
        · intro w7 hSw; (try dsimp only at hSw); go_simp; all_goals with_reducible rfl
        try simp only [Act.put, List.setIfInBounds_toArray, List.set_cons_zero, List.set_cons_succ]
        refine rg_take (i := 3) (some 33) (v := ?_) rfl rfl (by kernel_rfl) (by rfl) hQ7 hHeld ?_ ?_
        rotate_left
        · intro w7 hSw; (try dsimp only at hSw); go_simp; all_goals with_reducible rfl
        try simp only [Act.put, List.setIfInBounds_toArray, List.set_cons_zero, List.set_cons_succ]
        refine rg_take (i := 4) (some 34) (v := ?_) rfl rfl (by kernel_rfl) (by rfl) hQ7 hHeld ?_ ?_
        rotate_left
        · intro w7 hSw; (try dsimp only at hSw); go_simp; all_goals with_reducible rfl
        try simp only [Act.put, List.setIfInBounds_toArray, List.set_cons_zero, List.set_cons_succ]
        refine rg_take (i := 5) (some 35) (v := ?_) rfl rfl (by kernel_rfl) (by rfl) hQ7 hHeld ?_ ?_
        rotate_left
        · intro w7 hSw; (try dsimp only at hSw); go_simp; all_goals with_reducible rfl
        try simp only [Act.put, List.setIfInBounds_toArray, List.set_cons_zero, List.set_cons_succ]
        refine rg_take (i := 6) (some 36) (v := ?_) rfl rfl (by kernel_rfl) (by rfl) hQ7 hHeld ?_ ?_
        rotate_left
        · intro w7 hSw; (try dsimp only at hSw); go_simp; all_goals with_reducible rfl
        try simp only [Act.put, List.setIfInBounds_toArray, List.set_cons_zero, List.set_cons_succ]
        refine rg_take (i := 7) (some 37) (v := ?_) rfl rfl (by kernel_rfl) (by rfl) hQ7 hHeld ?_ ?_
        rotate_left
        · intro w7 hSw; (try dsimp only at hSw); go_simp; all_goals with_reducible rfl
        try simp only [Act.put, List.setIfInBounds_toArray, List.set_cons_zero, List.set_cons_succ]
        refine rg_take (i := 8) (some 38) (v := ?_) rfl rfl (by kernel_rfl) (by rfl) hQ7 hHeld ?_ ?_
        rotate_left
        · intro w7 hSw; (try dsimp only at hSw); go_simp; all_goals with_reducible rfl
        try simp only [Act.put, List.setIfInBounds_toArray, List.set_cons_zero, List.set_cons_succ]
        refine rg_take (i := 9) (some 39) (v := ?_) rfl rfl (by kernel_rfl) (by rfl) hQ7 hHeld ?_ ?_
        rotate_left
        · intro w7 hSw; (try dsimp only at hSw); go_simp; all_goals with_reducible rfl
        try simp only [Act.put, List.setIfInBounds_toArray, List.set_cons_zero, List.set_cons_succ]
        refine rg_one (i := 10) (by kernel_rfl) (rg_step rfl (by rfl) (fun K hK => ?_))
        go_simp
        refine (samep_at (p := x) (q := y) _ HS.out (HX.out.1.ext hHeld.1) (HX.out.2.ext hHeld.1)).mono ?_
        rintro e w3 ⟨rfl, B3⟩
        go_wp2_with fail
        refine hK.out _ _ ?_ (fun hHeld => ?_)
        · exact SS.out _ (ext_trans (ext_drew (ext_refl wr)) B3)
        clear hK K
        try simp only [Act.put, List.setIfInBounds_toArray, List.set_cons_zero, List.set_cons_succ]
        refine rg_take (i := 11) (some 41) (v := ?_) rfl rfl (by kernel_rfl) (by rfl) hQ7 hHeld ?_ ?_
        rotate_left
        · intro w7 hSw; (try dsimp only at hSw); go_simp; all_goals with_reducible rfl
        try simp only [Act.put, List.setIfInBounds_toArray, List.set_cons_zero, List.set_cons_succ]
        refine rg_end (by kernel_rfl) (hN7 _ _ ?_) _
        clear hQ7 hN7 Q7
        replace hB := ext_trans hB (ext_trans (ext_drew (ext_refl wr)) B3)
        clear hHeld
      · have HZ : Hid (false = r) := by rw [← HR.out, sameN_q (all_no HZX.out HS.out)]; rfl
        go_wp2_with fail
        go_ret
        exact ⟨ret_bool HZ.out, hB⟩
      · go_wp2_with fail
        go_roundw
        case rel => exact ⟨k + 1, hlt, by go_num, by unfold Hid; rw [all_take HZX.out, HT.out, HS.out]; rfl, hB, X1.out.ext (ext_trans (ext_drew (ext_refl wr)) B3), X2.out.ext (ext_trans (ext_drew (ext_refl wr)) B3)⟩
        case measure => simp [intOf]; omega
    · have hlt' : ¬ (k : Int) < a.q.l.length := by omega
      have HQ : Hid ((a.q.l.zip b.q.l).all (fun p => sameP p.1 p.2) = true) := by rw [Hid, ← all_end (k := k) (by simp; omega)]; exact HT.out
      obtain ⟨wo, rfl⟩ : ∃ wo, wo = wr := ⟨_, rfl⟩
      go_wp2_with fail
      clear n0 m0 hlt hlt' HT
      go_loopw [6] (fun i wr => ∃ k : Nat, k ≤ a.ap.l.length ∧ i = .int .i64 k ∧ Hid (((a.ap.l.zip b.ap.l).take k).all (fun p => decide (p.1 = p.2)) = true) ∧ Below w.heap.size w wr ∧ Hid (Blk wr w.heap.size [.slice a.q.A a.q.l.length a.q.c, .slice a.ap.A a.ap.l.length a.ap.c]) ∧ Hid (Blk wr (w.heap.size + 1) [.slice b.q.A b.q.l.length b.q.c, .slice b.ap.A b.ap.l.length b.ap.c])) (fun i _ => a.ap.l.length - (intOf i).toNat)
      case atStart => exact ⟨0, Nat.zero_le _, rfl, by simp [Hid], hB, X1, X2⟩
      case round =>
        clear X1 X2 hB
        obtain ⟨j, hj, rfl, HT, hB, X1, X2⟩ := hrel
        have n0 := X1.out.c 1 _ rfl
        have m0 := X2.out.c 1 _ rfl
        by_cases hlt : j < a.ap.l.length
        · obtain ⟨x, b1, o1, hx, hA, hb1, hc⟩ := (ha.ap.ext hB).at_ hlt
          obtain ⟨y, b2, o2, hy, hA2, hb2, hc2⟩ := (hb.ap.ext hB).at_ (Nat.lt_of_lt_of_le hlt l2)
          have hlt' : (j : Int) < a.ap.l.length := by omega
          have hlt2 : (j : Int) < b.ap.l.length := by omega
          rw [hA] at n0
          rw [hA2] at m0
          have HZX := Lib.hid (zip_at hx hy)
          have c0 := hc 0 _ rfl
          have c1 := hc 1 _ rfl
          have d0 := hc2 0 _ rfl
          have d1 := hc2 1 _ rfl
          simp only [Nat.add_zero] at c0 d0
          clear hc hc2 hx hy hA hA2
          have hne := fun w => run_neq53 x y w
          obtain ⟨s, hs⟩ : ∃ s, decide (x = y) = s := ⟨_, rfl⟩
          have HS := Lib.hid hs
          simp only [hs] at hne
          clear hs
          cases s
          · have HZ : Hid (false = r) := by rw [← HR.out, sameN_ap (all_no HZX.out HS.out)]; rfl
            go_wp2_with fail
            go_quiet (fail)
            go_wp2_with fail
            go_ret
            exact ⟨ret_bool HZ.out, ext_drewN hB _⟩
          · go_wp2_with fail
            go_quiet (fail)
            go_wp2_with fail
            go_roundw
            case rel => exact ⟨j + 1, hlt, by go_num, by unfold Hid; rw [all_take HZX.out, HT.out, HS.out]; rfl, ext_drewN hB _, X1.out.ext (ext_drewN (ext_refl _) _), X2.out.ext (ext_drewN (ext_refl _) _)⟩
            case measure => simp [intOf]; omega
        · have hlt' : ¬ (j : Int) < a.ap.l.length := by omega
          have HQ2 : Hid ((a.ap.l.zip b.ap.l).all (fun p => decide (p.1 = p.2)) = true) := by rw [Hid, ← all_end (k := j) (by simp; omega)]; exact HT.out
          have HZ : Hid (true = r) := by rw [← HR.out, sameN_yes H1.out H2.out HQ.out HQ2.out]; rfl
          go_wp2_with fail
          go_ret
          exact ⟨ret_bool HZ.out, hB⟩
theorem same_at {a b : Nt} {w : World} (r : Bool) (hr : sameN a b = r) (ha : NOk w a) (hb : NOk w b) : Calls Try.prog 14 #[.agg #[.slice a.q.A a.q.l.length a.q.c, .slice a.ap.A a.ap.l.length a.ap.c], .agg #[.slice b.q.A b.q.l.length b.q.c, .slice b.ap.A b.ap.l.length b.ap.c]] w (RetB w r) := by
  subst hr; exact same_any a b w ha hb
end Go.Proofs.Ythchcimialclkaa
