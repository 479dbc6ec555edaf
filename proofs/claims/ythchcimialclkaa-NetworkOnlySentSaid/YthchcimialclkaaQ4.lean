/- NetworkAll, walked. -/
import Derived.Test.YthchcimialclkaaQ7
set_option linter.unusedSimpArgs false
set_option linter.unusedVariables false
namespace Go.Proofs.Ythchcimialclkaa
open Go.RowKit
theorem slice_head (A : Option Addr) (len c k : Nat) (i : Int) (hi : i = k) (h2 : k ≤ c) (w : World) : (Instr.sliceAt 22 (.slice A len c) none (some (.int .i64 i)) none).run Try.prog w = .ok (.slice A k c) w := by
  subst hi
  have hs : (sizeOf (Try.prog.elem 22)).run Try.prog w = .ok 3 w := by kernel_rfl
  rw [run_sliceAt_slice w 22 _ _ _ _ Try.underlying22, run_slice_h w 22 A len c Try.underlying22 _ _ (by omega) (by omega)]
  simp only [hs, Result.andThen, sliced]
  have : (fun x : Addr => x.add (0 * 3)) = id := by funext a; simp [Addr.add]
  rw [this]
  simp
/-- What is sent of a list. -/
def sentL (l : List Pk) (k : Nat) : List Pk := (l.take k).filter okP
theorem sent_yes {l : List Pk} {k : Nat} {x : Pk} (hx : l[k]? = some x) (h : okP x = true) : sentL l (k + 1) = sentL l k ++ [x] := by unfold sentL; rw [List.take_add_one, hx]; simp [h]
theorem sent_no {l : List Pk} {k : Nat} {x : Pk} (hx : l[k]? = some x) (h : okP x = false) : sentL l (k + 1) = sentL l k := by unfold sentL; rw [List.take_add_one, hx]; simp [h]
theorem sent_len (l : List Pk) (k : Nat) : (sentL l k).length ≤ k := Nat.le_trans (List.length_filter_le _ _) (List.length_take_le _ _)
theorem sent_ok {l : List Pk} {k : Nat} : ∀ p ∈ sentL l k, okP p = true := fun p hp => (List.mem_filter.1 hp).2
theorem sent_mem {l : List Pk} {k : Nat} {p : Pk} (h : p ∈ sentL l k) : p ∈ l := List.mem_of_mem_take (List.mem_filter.1 h).1
/-- A net in its box, its packets also in a row of the call's own. -/
structure Nb (wr : World) (B : Nat) (R : List Pk) (m : Nt) (v : Value) : Prop where
  blk : Blk wr B [.slice m.q.A m.q.l.length m.q.c, .slice m.ap.A m.ap.l.length m.ap.c]
  ok : NOk wr m
  off : m.off B
  q : m.q.l = R
  ap : m.ap.l = []
  own : Own wr (B + 1) 28 Pk.cells 3 v R
  sep : ∀ b, v.ownBlock = some b → m.off b
theorem Nb.chk {wr : World} {B : Nat} {R : List Pk} {m : Nt} {v : Value} (h : Nb wr B R m v) (h1 : R.length ≤ 4096) (h2 : ∀ p ∈ R, okP p = true) : chkE m = 0 := by
  rw [chk_iff, h.q, h.ap]; exact ⟨h1, h2, rfl⟩
theorem Slc.grownOff {α : Type} {w w' : World} {enc : α → List Value} {sz : Nat} {A : Option Addr} {l : List α} {row : Option Nat} (h : Slc w enc sz A l) (hg : w.grownBy w' row) (ho : ∀ b, row = some b → Go.Proofs.Ythchcimialclkaa.rowOff A l b) : Slc w' enc sz A l := by
  cases l with
  | nil => exact Slc.nil
  | cons x xs => exact h.grown hg (fun b o s e e' => ho b e'.symm (by simp) b o s e rfl)
theorem NOk.grown {w w' : World} {n : Nt} {row : Option Nat} (h : NOk w n) (hg : w.grownBy w' row) (ho : ∀ b, row = some b → n.off b) : NOk w' n :=
  ⟨h.q.grownOff hg (fun b e => (ho b e).1), h.ap.grownOff hg (fun b e => (ho b e).2.1), fun p hp => (h.d p hp).grownOff hg (fun b e => (ho b e).2.2 p hp), h.ql, h.al, h.dl, h.qc, h.qm⟩
theorem delP_nil {m : Nt} {k : Nat} {x : Pk} (hc : chkE m = 0) (ha : m.ap.l = []) (hx : m.q.l[k]? = some x) : m.delP k = x := by
  have hk : k < m.q.l.length := (List.getElem?_eq_some_iff.1 hx).1
  unfold Nt.delP
  rw [ha, atP_ok hc hk]
  rw [if_neg (by simp [hasL])]
  rw [List.getElem?_eq_getElem hk] at hx
  exact Option.some.inj hx
theorem runs_eq {P : Program} {m : Sem Value} {w w' : World} {v : Value} (h : m.run P w = .ok v w') : ∃ v' w'', m.run P w = .ok v' w'' ∧ (v = v' ∧ w' = w'') := ⟨v, w', h, rfl, rfl⟩
theorem below_cell {B : Nat} {w w' : World} (h : Below B w w') {b o : Nat} (hb : b < B) : w'.cell? ⟨b, o, none⟩ = w.cell? ⟨b, o, none⟩ := h.cell (p := ⟨b, o, none⟩) hb
set_option maxHeartbeats 16000000 in
set_option maxRecDepth 100000 in
theorem law4 (A : Option Addr) (c : Nat) (l : List Pk) (A2 : Option Addr) (c2 : Nat) (od : List Int) (w : World) (hl : Slc w Pk.cells 3 A l) (hd : ∀ p ∈ l, Slc w bc 1 p.d.A p.d.l ∧ p.d.l.length ≤ maxLen) (hm : l.length ≤ maxLen) (ho : Slc w bc 1 A2 od) (hom : od.length ≤ maxLen) (how : ∀ x ∈ od, (Lit.int .u8 x).wf = true) :
    Calls Try.prog 4 #[.slice A l.length c, .slice A2 od.length c2] w (Tru w) := by
  unfold maxLen at hm hom
  have HD := Lib.hid hd
  have HOW := Lib.hid how
  clear hd how
  by_cases h12 : l.length ≤ 12
  rotate_left
  · have h1 : (12 : Int) < l.length := by omega
    go_enter Try.func4, Try.ntmps4
    go_wp2_with fail
    refine (sane_any _).mono ?_
    rintro e w1 ⟨rfl, B⟩
    go_wp2_with fail
    go_ret
    exact ⟨rfl, B⟩
  have h1 : ¬ (12 : Int) < l.length := by omega
  go_enter Try.func4, Try.ntmps4
  go_wp2_with fail
  refine (sane_any _).mono ?_
  rintro e w1 ⟨rfl, B1⟩
  go_wp2_with fail
  refine (new_any _).mono ?_
  rintro e w2 ⟨rfl, B2⟩
  have E := Lib.hid (ext_alloc (ext_trans B1 B2) (.cells #[.slice none 0 0, .slice none 0 0] 25))
  have NB0 : Nb (w2.alloc (.cells #[.slice none 0 0, .slice none 0 0] 25)) w2.heap.size [] zeroN (.slice none 0 0) := ⟨Blk.new w2 [.slice none 0 0, .slice none 0 0] 25, NOk.zero _, zeroN_off _, rfl, rfl, Own.nil _ _ _ _ _, fun b h => by cases h⟩
  have NN := Lib.hid NB0
  have hw2 : w.heap.size ≤ w2.heap.size := (ext_trans B1 B2).size
  clear B1 B2 NB0
  go_wp2_with fail
  go_loopw [6, 7] (fun v i wr => ∃ (k : Nat) (m : Nt) (RA : Option Addr) (Rc : Nat), k ≤ l.length ∧ v = .slice RA (sentL l k).length Rc ∧ i = .int .i64 k ∧ Hid (Nb wr w2.heap.size (sentL l k) m (.slice RA (sentL l k).length Rc)) ∧ Hid (Below w.heap.size w wr)) (fun _ i _ => l.length - (intOf i).toNat)
  case atStart => exact ⟨0, zeroN, none, 0, Nat.zero_le _, rfl, rfl, NN, E⟩
  case round =>
    clear NN E
    obtain ⟨k, m, RA, Rc, hk, rfl, rfl, NN, E⟩ := hrel
    by_cases hlt : k < l.length
    · rename_i K1 a1
      clear a1
      obtain ⟨x, b1, o1, hx, hA, hb1, hcx⟩ := (hl.ext E.out).at_ hlt
      have hlt' : (k : Int) < l.length := by omega
      have k0 : (0 : Int) ≤ k := by omega
      have kn : (k : Int).toNat = k := by omega
      have HX := Lib.hid hx
      have HXD := Lib.hid (HD.out x (List.mem_of_getElem? hx))
      have n0 := NN.out.blk.c 0 _ rfl
      have n1 := NN.out.blk.c 1 _ rfl
      have d0 := hcx 0 _ rfl
      have d1 := hcx 1 _ rfl
      have d2 := hcx 2 _ rfl
      simp only [Nat.add_zero] at d0
      subst hA
      have sB := NN.out.blk.lt
      have hsl := sent_len l k
      have HC := Lib.hid (NN.out.chk (by omega) sent_ok)
      have SS := Lib.hid (show ∀ w', Below wr.heap.size wr w' → (fun w' => Below wr.heap.size wr w' ∧ w'.cell? ⟨w2.heap.size, 0, none⟩ = some (.slice m.q.A m.q.l.length m.q.c) ∧ w'.cell? ⟨w2.heap.size, 1, none⟩ = some (.slice m.ap.A m.ap.l.length m.ap.c) ∧ w'.cell? ⟨b1, o1 + k * 3, none⟩ = some (.int .i64 x.f) ∧ w'.cell? ⟨b1, o1 + k * 3 + 1, none⟩ = some (.int .i64 x.t) ∧ w'.cell? ⟨b1, o1 + k * 3 + 2, none⟩ = some (.slice x.d.A x.d.l.length x.d.c)) w' from fun w' h => ⟨h, (h.cell (p := ⟨w2.heap.size, 0, none⟩) sB).trans n0, (h.cell (p := ⟨w2.heap.size, 1, none⟩) sB).trans n1, (h.cell (p := ⟨b1, _, none⟩) hb1).trans d0, (h.cell (p := ⟨b1, _, none⟩) hb1).trans d1, (h.cell (p := ⟨b1, _, none⟩) hb1).trans d2⟩)
      clear hcx hx n0 n1 d0 d1 d2 sB hsl
      obtain ⟨s, hs⟩ : ∃ s, okP x = s := ⟨_, rfl⟩
      have HS := Lib.hid hs
      clear hs
      cases s
      · go_wp2_with fail
        refine rg_begin (S := (fun w' => Below wr.heap.size wr w' ∧ w'.cell? ⟨w2.heap.size, 0, none⟩ = some (.slice m.q.A m.q.l.length m.q.c) ∧ w'.cell? ⟨w2.heap.size, 1, none⟩ = some (.slice m.ap.A m.ap.l.length m.ap.c) ∧ w'.cell? ⟨b1, o1 + k * 3, none⟩ = some (.int .i64 x.f) ∧ w'.cell? ⟨b1, o1 + k * 3 + 1, none⟩ = some (.int .i64 x.t) ∧ w'.cell? ⟨b1, o1 + k * 3 + 2, none⟩ = some (.slice x.d.A x.d.l.length x.d.c))) 10 (by kernel_rfl) (by intro d; cases d <;> intro _ _ _ _ h <;> exact h) ?_ (fun Q7 hQ7 hN7 hHeld => ?_)
        · exact SS.out _ (ext_drew (ext_refl wr))
        refine rg_take (i := 0) (some 28) (v := ?_) rfl rfl (by kernel_rfl) (by rfl) hQ7 hHeld ?_ ?_
        rotate_left
        · intro w7 hSw; (try dsimp only at hSw); go_simp; all_goals with_reducible rfl
        try simp only [Act.put, List.setIfInBounds_toArray, List.set_cons_zero, List.set_cons_succ]
        refine rg_take (i := 1) (some 29) (v := ?_) rfl rfl (by kernel_rfl) (by rfl) hQ7 hHeld ?_ ?_
        rotate_left
        · intro w7 hSw; (try dsimp only at hSw); go_simp; all_goals with_reducible rfl
        try simp only [Act.put, List.setIfInBounds_toArray, List.set_cons_zero, List.set_cons_succ]
        refine rg_take (i := 2) (some 30) (v := ?_) rfl rfl (by kernel_rfl) (by rfl) hQ7 hHeld ?_ ?_
        rotate_left
        · intro w7 hSw; (try dsimp only at hSw); go_simp; all_goals with_reducible rfl
        try simp only [Act.put, List.setIfInBounds_toArray, List.set_cons_zero, List.set_cons_succ]
        refine rg_take (i := 3) (some 31) (v := ?_) rfl rfl (by kernel_rfl) (by rfl) hQ7 hHeld ?_ ?_
        rotate_left
        · intro w7 hSw; (try dsimp only at hSw); go_simp; all_goals with_reducible rfl
        try simp only [Act.put, List.setIfInBounds_toArray, List.set_cons_zero, List.set_cons_succ]
        refine rg_take (i := 4) (some 32) (v := ?_) rfl rfl (by kernel_rfl) (by rfl) hQ7 hHeld ?_ ?_
        rotate_left
        · intro w7 hSw; (try dsimp only at hSw); go_simp; all_goals with_reducible rfl
        try simp only [Act.put, List.setIfInBounds_toArray, List.set_cons_zero, List.set_cons_succ]
        refine rg_two (i := 5) (j := 9) (by kernel_rfl) (rg_step rfl (by rfl) (fun K hK => ?_)) (rg_step rfl (by rfl) (fun K hK => ?_))
        · go_simp
          refine (send_at (n := m) (p := x) [] [] 460 (by unfold Nt.sendQ Nt.sendE; simp [HC.out, HS.out]) (by unfold Nt.sendA Nt.sendE; simp [HC.out, HS.out]) (by unfold Nt.sendE; simp [HC.out, HS.out]) (NN.out.ok.ext hHeld.1) ((HXD.out.1.ext E.out).ext hHeld.1) HXD.out.2).mono ?_
          rintro e x6 ⟨y, rfl, hq, ha, hmm, B6, hoo⟩
          go_wp2_with fail
          refine hK.out _ _ ?_ (fun hHeld2 => ?_)
          · exact SS.out _ (ext_trans hHeld.1 B6)
          clear hHeld
          have hHeld := hHeld2
          clear hHeld2
          clear hK K
          try simp only [Act.put, List.setIfInBounds_toArray, List.set_cons_zero, List.set_cons_succ]
          have BX := hHeld.1
          have HY := Lib.hid (show _ ∧ _ from ⟨hq, ha⟩)
          clear hq ha
          refine rg_take (i := 6) (some 27) (v := ?_) rfl rfl (by kernel_rfl) (by rfl) hQ7 hHeld ?_ ?_
          rotate_left
          · intro w7 hSw; (try dsimp only at hSw); go_simp; all_goals with_reducible rfl
          try simp only [Act.put, List.setIfInBounds_toArray, List.set_cons_zero, List.set_cons_succ]
          refine rg_take (i := 7) (some 34) (v := ?_) rfl rfl (by kernel_rfl) (by rfl) hQ7 hHeld ?_ ?_
          rotate_left
          · intro w7 hSw; (try dsimp only at hSw); go_simp; all_goals with_reducible rfl
          try simp only [Act.put, List.setIfInBounds_toArray, List.set_cons_zero, List.set_cons_succ]
          refine rg_pure (i := 8) (some 35) (v := ?_) rfl rfl (by kernel_rfl) (by rfl) hQ7 (by first | exact .inr hHeld | exact .inl (by kernel_rfl)) ?_ ?_
          rotate_left
          · intro w7; go_simp; all_goals with_reducible rfl
          try simp only [Act.put, List.setIfInBounds_toArray, List.set_cons_zero, List.set_cons_succ]
          refine rg_one (i := 9) (by kernel_rfl) (rg_step rfl (by rfl) (fun K hK => ?_))
          go_simp
          refine hK.out _ _ ?_ (fun hHeld2 => ?_)
          · exact SS.out _ (ext_alloc hHeld.1 _)
          clear hHeld
          have hHeld := hHeld2
          clear hHeld2
          clear hK K
          try simp only [Act.put, List.setIfInBounds_toArray, List.set_cons_zero, List.set_cons_succ]
          have NM := Lib.hid (hmm.alloc (.cells #[.slice none 0 0, .slice none 0 0] 25))
          have XM := Lib.hid (Blk.new x6 [.slice none 0 0, .slice none 0 0] 25)
          obtain ⟨HB, hHB⟩ : ∃ HB, x6.heap.size = HB := ⟨_, rfl⟩
          have hge : wr.heap.size ≤ HB := by rw [← hHB]; exact BX.size
          have hoff := hmm.off (b := HB) (by omega)
          rw [hHB] at XM
          obtain ⟨x7, hx7⟩ : ∃ x7, x6.alloc (.cells #[.slice none 0 0, .slice none 0 0] 25) = x7 := ⟨_, rfl⟩
          rw [hx7] at NM XM
          have B7 : Below wr.heap.size wr x7 := by rw [← hx7]; exact ext_alloc BX _
          have z0 := XM.out.c 0 _ rfl
          have z1 := XM.out.c 1 _ rfl
          have zf := XM.out.f
          refine rg_one (i := 10) (by kernel_rfl) (rg_late rfl (by rfl) (by kernel_rfl) (fun K hK => ?_))
          go_simp
          refine hK.out _ _ ?_
          clear hK K
          try simp only [Act.put, List.setIfInBounds_toArray, List.set_cons_zero, List.set_cons_succ]
          refine rg_one (i := 11) (by kernel_rfl) (rg_late rfl (by rfl) (by kernel_rfl) (fun K hK => ?_))
          go_simp
          refine hK.out _ _ ?_
          clear hK K
          try simp only [Act.put, List.setIfInBounds_toArray, List.set_cons_zero, List.set_cons_succ]
          refine rg_end (by kernel_rfl) (hN7 _ _ ?_) _
          clear hQ7 hN7 Q7
          have hsB := NN.out.blk.lt
          have hye : ∀ b, (Value.slice RA (sentL l k).length Rc).ownBlock = some b → y.off b := fun b e => hoo b (by have := (NN.out.own.lt b e).1; simp; omega) ⟨NN.out.sep b e, HXD.out.1.rowOff (by have := (NN.out.own.lt b e).2; omega)⟩
          have hyo : y.off w2.heap.size := hoo _ (by simp; omega) ⟨NN.out.off, (HXD.out.1).rowOff hw2⟩
          have hB8 : Below wr.heap.size wr (set2 x7 HB (.slice y.q.A y.q.l.length y.q.c) (.slice y.ap.A y.ap.l.length y.ap.c)) := ext_set2 B7 HB _ _ hge
          have N8 := Lib.hid ((NM.out.set (p := ⟨HB, 0, none⟩) (.slice y.q.A y.q.l.length y.q.c) hoff).set (p := ⟨HB, 1, none⟩) (.slice y.ap.A y.ap.l.length y.ap.c) hoff)
          have X15 := Lib.hid (XM.out.put2 (.slice y.q.A y.q.l.length y.q.c) (.slice y.ap.A y.ap.l.length y.ap.c))
          have NN8 := Lib.hid (show Nb _ w2.heap.size (sentL l k) m _ from ⟨NN.out.blk.ext hB8, NN.out.ok.ext hB8, NN.out.off, NN.out.q, NN.out.ap, NN.out.own.ext hB8, NN.out.sep⟩)
          have E8 := Lib.hid (ext_trans E.out hB8)
          have hHB2 : HB ≠ w2.heap.size := by omega
          clear hB8 hoff hge NM XM z0 z1 zf hmm hoo B6 BX B7 hHeld SS hsB
          unfold set2 at *
          obtain ⟨x8, hx8⟩ : ∃ x8, (x7.setCell ⟨HB, 0, none⟩ (.slice y.q.A y.q.l.length y.q.c)).setCell ⟨HB, 1, none⟩ (.slice y.ap.A y.ap.l.length y.ap.c) = x8 := ⟨_, rfl⟩
          rw [hx8] at X15 N8 NN8 E8
          try simp only [hx7, hHB, hx8, sz_drew]
          go_wp2_with fail
          go_roundw
          case rel => exact ⟨k + 1, m, RA, Rc, hlt, by rw [sent_no HX.out HS.out], by go_num, by unfold Hid; rw [sent_no HX.out HS.out]; exact NN8.out, E8⟩
          case measure => simp [intOf]; omega
        · go_simp
          refine hK.out _ _ ?_ (fun hHeld2 => ?_)
          · exact SS.out _ (ext_alloc hHeld.1 _)
          clear hHeld
          have hHeld := hHeld2
          clear hHeld2
          clear hK K
          try simp only [Act.put, List.setIfInBounds_toArray, List.set_cons_zero, List.set_cons_succ]
          refine rg_one (i := 5) (by kernel_rfl) (rg_step rfl (by rfl) (fun K hK => ?_))
          go_simp
          refine (send_at (n := m) (p := x) [] [] 460 (by unfold Nt.sendQ Nt.sendE; simp [HC.out, HS.out]) (by unfold Nt.sendA Nt.sendE; simp [HC.out, HS.out]) (by unfold Nt.sendE; simp [HC.out, HS.out]) (NN.out.ok.ext hHeld.1) ((HXD.out.1.ext E.out).ext hHeld.1) HXD.out.2).mono ?_
          rintro e x6 ⟨y, rfl, hq, ha, hmm, B6, hoo⟩
          go_wp2_with fail
          refine hK.out _ _ ?_ (fun hHeld2 => ?_)
          · exact SS.out _ (ext_trans hHeld.1 B6)
          clear hHeld
          have hHeld := hHeld2
          clear hHeld2
          clear hK K
          try simp only [Act.put, List.setIfInBounds_toArray, List.set_cons_zero, List.set_cons_succ]
          have BX := hHeld.1
          have HY := Lib.hid (show _ ∧ _ from ⟨hq, ha⟩)
          clear hq ha
          refine rg_take (i := 6) (some 27) (v := ?_) rfl rfl (by kernel_rfl) (by rfl) hQ7 hHeld ?_ ?_
          rotate_left
          · intro w7 hSw; (try dsimp only at hSw); go_simp; all_goals with_reducible rfl
          try simp only [Act.put, List.setIfInBounds_toArray, List.set_cons_zero, List.set_cons_succ]
          refine rg_take (i := 7) (some 34) (v := ?_) rfl rfl (by kernel_rfl) (by rfl) hQ7 hHeld ?_ ?_
          rotate_left
          · intro w7 hSw; (try dsimp only at hSw); go_simp; all_goals with_reducible rfl
          try simp only [Act.put, List.setIfInBounds_toArray, List.set_cons_zero, List.set_cons_succ]
          refine rg_pure (i := 8) (some 35) (v := ?_) rfl rfl (by kernel_rfl) (by rfl) hQ7 (by first | exact .inr hHeld | exact .inl (by kernel_rfl)) ?_ ?_
          rotate_left
          · intro w7; go_simp; all_goals with_reducible rfl
          try simp only [Act.put, List.setIfInBounds_toArray, List.set_cons_zero, List.set_cons_succ]
          have NM := Lib.hid hmm
          have XM := Lib.hid (Blk.ext (Blk.new wr.drew [.slice none 0 0, .slice none 0 0] 25) B6)
          obtain ⟨HB, hHB⟩ : ∃ HB, wr.heap.size = HB := ⟨_, rfl⟩
          have hge : wr.heap.size ≤ HB := by omega
          have hltB := (Blk.new wr.drew [.slice none 0 0, .slice none 0 0] 25).lt
          have hoff : y.off HB := hoo HB (by rw [← hHB]; exact hltB) ⟨NN.out.ok.off (by omega), (HXD.out.1.ext E.out).rowOff (by omega)⟩
          rw [show wr.drew.heap.size = HB from hHB] at XM
          obtain ⟨x7, hx7⟩ : ∃ x7, x6 = x7 := ⟨_, rfl⟩
          rw [hx7] at NM XM
          have B7 : Below wr.heap.size wr x7 := by rw [← hx7]; exact BX
          have z0 := XM.out.c 0 _ rfl
          have z1 := XM.out.c 1 _ rfl
          have zf := XM.out.f
          refine rg_one (i := 10) (by kernel_rfl) (rg_late rfl (by rfl) (by kernel_rfl) (fun K hK => ?_))
          go_simp
          refine hK.out _ _ ?_
          clear hK K
          try simp only [Act.put, List.setIfInBounds_toArray, List.set_cons_zero, List.set_cons_succ]
          refine rg_one (i := 11) (by kernel_rfl) (rg_late rfl (by rfl) (by kernel_rfl) (fun K hK => ?_))
          go_simp
          refine hK.out _ _ ?_
          clear hK K
          try simp only [Act.put, List.setIfInBounds_toArray, List.set_cons_zero, List.set_cons_succ]
          refine rg_end (by kernel_rfl) (hN7 _ _ ?_) _
          clear hQ7 hN7 Q7
          have hsB := NN.out.blk.lt
          have hye : ∀ b, (Value.slice RA (sentL l k).length Rc).ownBlock = some b → y.off b := fun b e => hoo b (by have := (NN.out.own.lt b e).1; simp; omega) ⟨NN.out.sep b e, HXD.out.1.rowOff (by have := (NN.out.own.lt b e).2; omega)⟩
          have hyo : y.off w2.heap.size := hoo _ (by simp; omega) ⟨NN.out.off, (HXD.out.1).rowOff hw2⟩
          have hB8 : Below wr.heap.size wr (set2 x7 HB (.slice y.q.A y.q.l.length y.q.c) (.slice y.ap.A y.ap.l.length y.ap.c)) := ext_set2 B7 HB _ _ hge
          have N8 := Lib.hid ((NM.out.set (p := ⟨HB, 0, none⟩) (.slice y.q.A y.q.l.length y.q.c) hoff).set (p := ⟨HB, 1, none⟩) (.slice y.ap.A y.ap.l.length y.ap.c) hoff)
          have X15 := Lib.hid (XM.out.put2 (.slice y.q.A y.q.l.length y.q.c) (.slice y.ap.A y.ap.l.length y.ap.c))
          have NN8 := Lib.hid (show Nb _ w2.heap.size (sentL l k) m _ from ⟨NN.out.blk.ext hB8, NN.out.ok.ext hB8, NN.out.off, NN.out.q, NN.out.ap, NN.out.own.ext hB8, NN.out.sep⟩)
          have E8 := Lib.hid (ext_trans E.out hB8)
          have hHB2 : HB ≠ w2.heap.size := by omega
          clear hB8 hoff hge NM XM z0 z1 zf hmm hoo B6 BX B7 hHeld SS hsB
          unfold set2 at *
          obtain ⟨x8, hx8⟩ : ∃ x8, (x7.setCell ⟨HB, 0, none⟩ (.slice y.q.A y.q.l.length y.q.c)).setCell ⟨HB, 1, none⟩ (.slice y.ap.A y.ap.l.length y.ap.c) = x8 := ⟨_, rfl⟩
          rw [hx8] at X15 N8 NN8 E8
          try simp only [hx7, hHB, hx8, sz_drew]
          go_wp2_with fail
          go_roundw
          case rel => exact ⟨k + 1, m, RA, Rc, hlt, by rw [sent_no HX.out HS.out], by go_num, by unfold Hid; rw [sent_no HX.out HS.out]; exact NN8.out, E8⟩
          case measure => simp [intOf]; omega
      · have HSE := Lib.hid (show m.sendE x = 0 by unfold Nt.sendE; rw [if_neg (by simp [HC.out, HS.out]), if_neg (by rw [NN.out.q]; have := sent_len l k; omega)])
        go_wp2_with fail
        refine rg_begin (S := (fun w' => Below wr.heap.size wr w' ∧ w'.cell? ⟨w2.heap.size, 0, none⟩ = some (.slice m.q.A m.q.l.length m.q.c) ∧ w'.cell? ⟨w2.heap.size, 1, none⟩ = some (.slice m.ap.A m.ap.l.length m.ap.c) ∧ w'.cell? ⟨b1, o1 + k * 3, none⟩ = some (.int .i64 x.f) ∧ w'.cell? ⟨b1, o1 + k * 3 + 1, none⟩ = some (.int .i64 x.t) ∧ w'.cell? ⟨b1, o1 + k * 3 + 2, none⟩ = some (.slice x.d.A x.d.l.length x.d.c))) 10 (by kernel_rfl) (by intro d; cases d <;> intro _ _ _ _ h <;> exact h) ?_ (fun Q7 hQ7 hN7 hHeld => ?_)
        · exact SS.out _ (ext_drew (ext_refl wr))
        refine rg_take (i := 0) (some 28) (v := ?_) rfl rfl (by kernel_rfl) (by rfl) hQ7 hHeld ?_ ?_
        rotate_left
        · intro w7 hSw; (try dsimp only at hSw); go_simp; all_goals with_reducible rfl
        try simp only [Act.put, List.setIfInBounds_toArray, List.set_cons_zero, List.set_cons_succ]
        refine rg_take (i := 1) (some 29) (v := ?_) rfl rfl (by kernel_rfl) (by rfl) hQ7 hHeld ?_ ?_
        rotate_left
        · intro w7 hSw; (try dsimp only at hSw); go_simp; all_goals with_reducible rfl
        try simp only [Act.put, List.setIfInBounds_toArray, List.set_cons_zero, List.set_cons_succ]
        refine rg_take (i := 2) (some 30) (v := ?_) rfl rfl (by kernel_rfl) (by rfl) hQ7 hHeld ?_ ?_
        rotate_left
        · intro w7 hSw; (try dsimp only at hSw); go_simp; all_goals with_reducible rfl
        try simp only [Act.put, List.setIfInBounds_toArray, List.set_cons_zero, List.set_cons_succ]
        refine rg_take (i := 3) (some 31) (v := ?_) rfl rfl (by kernel_rfl) (by rfl) hQ7 hHeld ?_ ?_
        rotate_left
        · intro w7 hSw; (try dsimp only at hSw); go_simp; all_goals with_reducible rfl
        try simp only [Act.put, List.setIfInBounds_toArray, List.set_cons_zero, List.set_cons_succ]
        refine rg_take (i := 4) (some 32) (v := ?_) rfl rfl (by kernel_rfl) (by rfl) hQ7 hHeld ?_ ?_
        rotate_left
        · intro w7 hSw; (try dsimp only at hSw); go_simp; all_goals with_reducible rfl
        try simp only [Act.put, List.setIfInBounds_toArray, List.set_cons_zero, List.set_cons_succ]
        refine rg_two (i := 5) (j := 9) (by kernel_rfl) (rg_step rfl (by rfl) (fun K hK => ?_)) (rg_step rfl (by rfl) (fun K hK => ?_))
        · go_simp
          refine (send_at (n := m) (p := x) (m.q.l ++ [x]) [] 0 (by unfold Nt.sendQ; rw [if_pos HSE.out]) (by unfold Nt.sendA; rw [if_pos HSE.out]; exact NN.out.ap) HSE.out (NN.out.ok.ext hHeld.1) ((HXD.out.1.ext E.out).ext hHeld.1) HXD.out.2).mono ?_
          rintro e x6 ⟨y, rfl, hq, ha, hmm, B6, hoo⟩
          go_wp2_with fail
          refine hK.out _ _ ?_ (fun hHeld2 => ?_)
          · exact SS.out _ (ext_trans hHeld.1 B6)
          clear hHeld
          have hHeld := hHeld2
          clear hHeld2
          clear hK K
          try simp only [Act.put, List.setIfInBounds_toArray, List.set_cons_zero, List.set_cons_succ]
          have BX := hHeld.1
          have HY := Lib.hid (show _ ∧ _ from ⟨hq, ha⟩)
          clear hq ha
          refine rg_take (i := 6) (some 27) (v := ?_) rfl rfl (by kernel_rfl) (by rfl) hQ7 hHeld ?_ ?_
          rotate_left
          · intro w7 hSw; (try dsimp only at hSw); go_simp; all_goals with_reducible rfl
          try simp only [Act.put, List.setIfInBounds_toArray, List.set_cons_zero, List.set_cons_succ]
          refine rg_take (i := 7) (some 34) (v := ?_) rfl rfl (by kernel_rfl) (by rfl) hQ7 hHeld ?_ ?_
          rotate_left
          · intro w7 hSw; (try dsimp only at hSw); go_simp; all_goals with_reducible rfl
          try simp only [Act.put, List.setIfInBounds_toArray, List.set_cons_zero, List.set_cons_succ]
          refine rg_pure (i := 8) (some 35) (v := ?_) rfl rfl (by kernel_rfl) (by rfl) hQ7 (by first | exact .inr hHeld | exact .inl (by kernel_rfl)) ?_ ?_
          rotate_left
          · intro w7; go_simp; all_goals with_reducible rfl
          try simp only [Act.put, List.setIfInBounds_toArray, List.set_cons_zero, List.set_cons_succ]
          refine rg_one (i := 9) (by kernel_rfl) (rg_step rfl (by rfl) (fun K hK => ?_))
          go_simp
          refine hK.out _ _ ?_ (fun hHeld2 => ?_)
          · exact SS.out _ (ext_alloc hHeld.1 _)
          clear hHeld
          have hHeld := hHeld2
          clear hHeld2
          clear hK K
          try simp only [Act.put, List.setIfInBounds_toArray, List.set_cons_zero, List.set_cons_succ]
          have NM := Lib.hid (hmm.alloc (.cells #[.slice none 0 0, .slice none 0 0] 25))
          have XM := Lib.hid (Blk.new x6 [.slice none 0 0, .slice none 0 0] 25)
          obtain ⟨HB, hHB⟩ : ∃ HB, x6.heap.size = HB := ⟨_, rfl⟩
          have hge : wr.heap.size ≤ HB := by rw [← hHB]; exact BX.size
          have hoff := hmm.off (b := HB) (by omega)
          rw [hHB] at XM
          obtain ⟨x7, hx7⟩ : ∃ x7, x6.alloc (.cells #[.slice none 0 0, .slice none 0 0] 25) = x7 := ⟨_, rfl⟩
          rw [hx7] at NM XM
          have B7 : Below wr.heap.size wr x7 := by rw [← hx7]; exact ext_alloc BX _
          have z0 := XM.out.c 0 _ rfl
          have z1 := XM.out.c 1 _ rfl
          have zf := XM.out.f
          refine rg_one (i := 10) (by kernel_rfl) (rg_late rfl (by rfl) (by kernel_rfl) (fun K hK => ?_))
          go_simp
          refine hK.out _ _ ?_
          clear hK K
          try simp only [Act.put, List.setIfInBounds_toArray, List.set_cons_zero, List.set_cons_succ]
          refine rg_one (i := 11) (by kernel_rfl) (rg_late rfl (by rfl) (by kernel_rfl) (fun K hK => ?_))
          go_simp
          refine hK.out _ _ ?_
          clear hK K
          try simp only [Act.put, List.setIfInBounds_toArray, List.set_cons_zero, List.set_cons_succ]
          refine rg_end (by kernel_rfl) (hN7 _ _ ?_) _
          clear hQ7 hN7 Q7
          have hsB := NN.out.blk.lt
          have hye : ∀ b, (Value.slice RA (sentL l k).length Rc).ownBlock = some b → y.off b := fun b e => hoo b (by have := (NN.out.own.lt b e).1; simp; omega) ⟨NN.out.sep b e, HXD.out.1.rowOff (by have := (NN.out.own.lt b e).2; omega)⟩
          have hyo : y.off w2.heap.size := hoo _ (by simp; omega) ⟨NN.out.off, (HXD.out.1).rowOff hw2⟩
          have hB8 : Below wr.heap.size wr (set2 x7 HB (.slice y.q.A y.q.l.length y.q.c) (.slice y.ap.A y.ap.l.length y.ap.c)) := ext_set2 B7 HB _ _ hge
          have N8 := Lib.hid ((NM.out.set (p := ⟨HB, 0, none⟩) (.slice y.q.A y.q.l.length y.q.c) hoff).set (p := ⟨HB, 1, none⟩) (.slice y.ap.A y.ap.l.length y.ap.c) hoff)
          have X15 := Lib.hid (XM.out.put2 (.slice y.q.A y.q.l.length y.q.c) (.slice y.ap.A y.ap.l.length y.ap.c))
          have NN8 := Lib.hid (show Nb _ w2.heap.size (sentL l k) m _ from ⟨NN.out.blk.ext hB8, NN.out.ok.ext hB8, NN.out.off, NN.out.q, NN.out.ap, NN.out.own.ext hB8, NN.out.sep⟩)
          have E8 := Lib.hid (ext_trans E.out hB8)
          have hHB2 : HB ≠ w2.heap.size := by omega
          clear hB8 hoff hge NM XM z0 z1 zf hmm hoo B6 BX B7 hHeld SS hsB
          unfold set2 at *
          obtain ⟨x8, hx8⟩ : ∃ x8, (x7.setCell ⟨HB, 0, none⟩ (.slice y.q.A y.q.l.length y.q.c)).setCell ⟨HB, 1, none⟩ (.slice y.ap.A y.ap.l.length y.ap.c) = x8 := ⟨_, rfl⟩
          rw [hx8] at X15 N8 NN8 E8
          try simp only [hx7, hHB, hx8, sz_drew]
          have y0 := X15.out.c 0 _ rfl
          have y1 := X15.out.c 1 _ rfl
          have b0 := NN8.out.blk.c 0 _ rfl
          have b1' := NN8.out.blk.c 1 _ rfl
          have bf := NN8.out.blk.f
          obtain ⟨x', b1'', o1', hx, hA, hb1', hcx⟩ := (hl.ext E8.out).at_ hlt
          cases hA
          obtain rfl : x = x' := Option.some.inj (HX.out.symm.trans hx)
          have hsB := NN8.out.blk.lt
          have d0 := hcx 0 _ rfl
          have d1 := hcx 1 _ rfl
          have d2 := hcx 2 _ rfl
          simp only [Nat.add_zero] at d0
          have hbne : b1 ≠ w2.heap.size := by
            obtain ⟨x'', b3, o3, _, h3, h4, _⟩ := hl.at_ hlt
            cases h3; omega
          have g := fun (o : Nat) (u v : Value) => (World.cell?_setCell_other (x8.setCell ⟨w2.heap.size, 0, none⟩ u) ⟨w2.heap.size, 1, none⟩ ⟨b1, o, none⟩ v (by intro e; injection e with e; exact hbne e.symm)).trans (World.cell?_setCell_other x8 ⟨w2.heap.size, 0, none⟩ ⟨b1, o, none⟩ u (by intro e; injection e with e; exact hbne e.symm))
          have d0' := (g _ (.slice y.q.A y.q.l.length y.q.c) (.slice y.ap.A y.ap.l.length y.ap.c)).trans d0
          have d1' := (g _ (.slice y.q.A y.q.l.length y.q.c) (.slice y.ap.A y.ap.l.length y.ap.c)).trans d1
          have d2' := (g _ (.slice y.q.A y.q.l.length y.q.c) (.slice y.ap.A y.ap.l.length y.ap.c)).trans d2
          have hB9 := ext_set2 E8.out w2.heap.size (.slice y.q.A y.q.l.length y.q.c) (.slice y.ap.A y.ap.l.length y.ap.c) hw2
          have Z1 : Blk (set2 x8 w2.heap.size (.slice y.q.A y.q.l.length y.q.c) (.slice y.ap.A y.ap.l.length y.ap.c)) w2.heap.size [.slice y.q.A y.q.l.length y.q.c, .slice y.ap.A y.ap.l.length y.ap.c] := NN8.out.blk.put2 _ _
          have Z2 : NOk (set2 x8 w2.heap.size (.slice y.q.A y.q.l.length y.q.c) (.slice y.ap.A y.ap.l.length y.ap.c)) y := (N8.out.set (p := ⟨w2.heap.size, 0, none⟩) _ hyo).set (p := ⟨w2.heap.size, 1, none⟩) _ hyo
          have Z3 : Own (set2 x8 w2.heap.size (.slice y.q.A y.q.l.length y.q.c) (.slice y.ap.A y.ap.l.length y.ap.c)) (w2.heap.size + 1) 28 Pk.cells 3 _ (sentL l k) := NN8.out.own.block (fun kk e => (Below.heap_setCell _ ⟨w2.heap.size, 1, none⟩ _ kk (by have := (NN8.out.own.lt kk e).2; simp; omega)).trans (Below.heap_setCell _ ⟨w2.heap.size, 0, none⟩ _ kk (by have := (NN8.out.own.lt kk e).2; simp; omega)))
          obtain ⟨x9, hx9⟩ : ∃ x9, set2 x8 w2.heap.size (.slice y.q.A y.q.l.length y.q.c) (.slice y.ap.A y.ap.l.length y.ap.c) = x9 := ⟨_, rfl⟩
          rw [hx9] at hB9 Z1 Z2 Z3
          unfold set2 at hx9
          rw [hx9] at d0' d1' d2'
          have hs9 := Z1.lt
          have hS := slc_litH x9 [x] #[.int .i64 x.f, .int .i64 x.t, .slice x.d.A x.d.l.length x.d.c] 28 (enc := Pk.cells) (sz := 3) (fun _ => rfl) rfl x9.heap.size rfl
          have hsl := sent_len l k
          obtain ⟨v', x10, hrun, hO5, hg5, hat⟩ := (Z3.alloc (.cells #[.int .i64 x.f, .int .i64 x.t, .slice x.d.A x.d.l.length x.d.c] 28)).append pkI 22 (ys := [x]) (m := 1) rfl 1 hS (by simp; omega) (by unfold maxLen; simp; omega) (by simp; omega)
          obtain ⟨g5, c5, cur5, hv5, _⟩ := hO5.some_ (by simp)
          subst hv5
          have hrow := fun r e => (Z3.lt r e).2
          have hb10 : x10.heap[w2.heap.size]? = (x9.alloc (.cells #[.int .i64 x.f, .int .i64 x.t, .slice x.d.A x.d.l.length x.d.c] 28)).heap[w2.heap.size]? := hg5.block _ (by simp; omega) (fun e => by have := hrow _ e.symm; omega)
          have E10 := Lib.hid (ext_grown (ext_alloc hB9 (.cells #[.int .i64 x.f, .int .i64 x.t, .slice x.d.A x.d.l.length x.d.c] 28)) hg5 (fun r e => by have := hrow r e; omega))
          have Za : NOk (x9.alloc (.cells #[.int .i64 x.f, .int .i64 x.t, .slice x.d.A x.d.l.length x.d.c] 28)) y := Z2.alloc _
          have N10 : NOk x10 y := Za.grown hg5 hye
          have hs10 : ∀ b, (Value.slice (some ⟨g5, 0, none⟩) (sentL l k ++ [x]).length c5).ownBlock = some b → y.off b := fun b e => by
            rcases hat with h | h
            · exact hye b (by rw [← h]; exact e)
            · rw [h] at e; cases e; exact Za.off (Nat.le_refl _)
          have NN10 := Lib.hid (show Nb x10 w2.heap.size (sentL l (k + 1)) y _ from ⟨(Z1.alloc _).keepB hb10, N10, hyo, (HY.out.1.trans (by rw [NN8.out.q])).trans (sent_yes HX.out HS.out).symm, HY.out.2, by rw [sent_yes HX.out HS.out]; exact hO5, hs10⟩)
          have HRUN := Lib.hid hrun
          clear hrun hg5 hO5 hS hb10 N10 hs10 Za hat hye Z1 Z2 Z3 hB9 hrow hcx d0 d1 d2 g hx
          go_wp2_with (at_builtin; refine wpList_append_run rfl (.tmp 39) (.tmp 44) 22 rfl (.slice RA (sentL l k).length Rc) (.slice (some ⟨x9.heap.size, 0, none⟩) 1 1) rfl rfl HRUN.out ?_)
          go_roundw
          case rel => exact ⟨k + 1, y, some ⟨g5, 0, none⟩, c5, hlt, by rw [sent_yes HX.out HS.out]; simp, by go_num, by unfold Hid; have := NN10.out; rw [← sent_yes HX.out HS.out] at this; exact this, E10⟩
          case measure => simp [intOf]; omega
        · go_simp
          refine hK.out _ _ ?_ (fun hHeld2 => ?_)
          · exact SS.out _ (ext_alloc hHeld.1 _)
          clear hHeld
          have hHeld := hHeld2
          clear hHeld2
          clear hK K
          try simp only [Act.put, List.setIfInBounds_toArray, List.set_cons_zero, List.set_cons_succ]
          refine rg_one (i := 5) (by kernel_rfl) (rg_step rfl (by rfl) (fun K hK => ?_))
          go_simp
          refine (send_at (n := m) (p := x) (m.q.l ++ [x]) [] 0 (by unfold Nt.sendQ; rw [if_pos HSE.out]) (by unfold Nt.sendA; rw [if_pos HSE.out]; exact NN.out.ap) HSE.out (NN.out.ok.ext hHeld.1) ((HXD.out.1.ext E.out).ext hHeld.1) HXD.out.2).mono ?_
          rintro e x6 ⟨y, rfl, hq, ha, hmm, B6, hoo⟩
          go_wp2_with fail
          refine hK.out _ _ ?_ (fun hHeld2 => ?_)
          · exact SS.out _ (ext_trans hHeld.1 B6)
          clear hHeld
          have hHeld := hHeld2
          clear hHeld2
          clear hK K
          try simp only [Act.put, List.setIfInBounds_toArray, List.set_cons_zero, List.set_cons_succ]
          have BX := hHeld.1
          have HY := Lib.hid (show _ ∧ _ from ⟨hq, ha⟩)
          clear hq ha
          refine rg_take (i := 6) (some 27) (v := ?_) rfl rfl (by kernel_rfl) (by rfl) hQ7 hHeld ?_ ?_
          rotate_left
          · intro w7 hSw; (try dsimp only at hSw); go_simp; all_goals with_reducible rfl
          try simp only [Act.put, List.setIfInBounds_toArray, List.set_cons_zero, List.set_cons_succ]
          refine rg_take (i := 7) (some 34) (v := ?_) rfl rfl (by kernel_rfl) (by rfl) hQ7 hHeld ?_ ?_
          rotate_left
          · intro w7 hSw; (try dsimp only at hSw); go_simp; all_goals with_reducible rfl
          try simp only [Act.put, List.setIfInBounds_toArray, List.set_cons_zero, List.set_cons_succ]
          refine rg_pure (i := 8) (some 35) (v := ?_) rfl rfl (by kernel_rfl) (by rfl) hQ7 (by first | exact .inr hHeld | exact .inl (by kernel_rfl)) ?_ ?_
          rotate_left
          · intro w7; go_simp; all_goals with_reducible rfl
          try simp only [Act.put, List.setIfInBounds_toArray, List.set_cons_zero, List.set_cons_succ]
          have NM := Lib.hid hmm
          have XM := Lib.hid (Blk.ext (Blk.new wr.drew [.slice none 0 0, .slice none 0 0] 25) B6)
          obtain ⟨HB, hHB⟩ : ∃ HB, wr.heap.size = HB := ⟨_, rfl⟩
          have hge : wr.heap.size ≤ HB := by omega
          have hltB := (Blk.new wr.drew [.slice none 0 0, .slice none 0 0] 25).lt
          have hoff : y.off HB := hoo HB (by rw [← hHB]; exact hltB) ⟨NN.out.ok.off (by omega), (HXD.out.1.ext E.out).rowOff (by omega)⟩
          rw [show wr.drew.heap.size = HB from hHB] at XM
          obtain ⟨x7, hx7⟩ : ∃ x7, x6 = x7 := ⟨_, rfl⟩
          rw [hx7] at NM XM
          have B7 : Below wr.heap.size wr x7 := by rw [← hx7]; exact BX
          have z0 := XM.out.c 0 _ rfl
          have z1 := XM.out.c 1 _ rfl
          have zf := XM.out.f
          refine rg_one (i := 10) (by kernel_rfl) (rg_late rfl (by rfl) (by kernel_rfl) (fun K hK => ?_))
          go_simp
          refine hK.out _ _ ?_
          clear hK K
          try simp only [Act.put, List.setIfInBounds_toArray, List.set_cons_zero, List.set_cons_succ]
          refine rg_one (i := 11) (by kernel_rfl) (rg_late rfl (by rfl) (by kernel_rfl) (fun K hK => ?_))
          go_simp
          refine hK.out _ _ ?_
          clear hK K
          try simp only [Act.put, List.setIfInBounds_toArray, List.set_cons_zero, List.set_cons_succ]
          refine rg_end (by kernel_rfl) (hN7 _ _ ?_) _
          clear hQ7 hN7 Q7
          have hsB := NN.out.blk.lt
          have hye : ∀ b, (Value.slice RA (sentL l k).length Rc).ownBlock = some b → y.off b := fun b e => hoo b (by have := (NN.out.own.lt b e).1; simp; omega) ⟨NN.out.sep b e, HXD.out.1.rowOff (by have := (NN.out.own.lt b e).2; omega)⟩
          have hyo : y.off w2.heap.size := hoo _ (by simp; omega) ⟨NN.out.off, (HXD.out.1).rowOff hw2⟩
          have hB8 : Below wr.heap.size wr (set2 x7 HB (.slice y.q.A y.q.l.length y.q.c) (.slice y.ap.A y.ap.l.length y.ap.c)) := ext_set2 B7 HB _ _ hge
          have N8 := Lib.hid ((NM.out.set (p := ⟨HB, 0, none⟩) (.slice y.q.A y.q.l.length y.q.c) hoff).set (p := ⟨HB, 1, none⟩) (.slice y.ap.A y.ap.l.length y.ap.c) hoff)
          have X15 := Lib.hid (XM.out.put2 (.slice y.q.A y.q.l.length y.q.c) (.slice y.ap.A y.ap.l.length y.ap.c))
          have NN8 := Lib.hid (show Nb _ w2.heap.size (sentL l k) m _ from ⟨NN.out.blk.ext hB8, NN.out.ok.ext hB8, NN.out.off, NN.out.q, NN.out.ap, NN.out.own.ext hB8, NN.out.sep⟩)
          have E8 := Lib.hid (ext_trans E.out hB8)
          have hHB2 : HB ≠ w2.heap.size := by omega
          clear hB8 hoff hge NM XM z0 z1 zf hmm hoo B6 BX B7 hHeld SS hsB
          unfold set2 at *
          obtain ⟨x8, hx8⟩ : ∃ x8, (x7.setCell ⟨HB, 0, none⟩ (.slice y.q.A y.q.l.length y.q.c)).setCell ⟨HB, 1, none⟩ (.slice y.ap.A y.ap.l.length y.ap.c) = x8 := ⟨_, rfl⟩
          rw [hx8] at X15 N8 NN8 E8
          try simp only [hx7, hHB, hx8, sz_drew]
          have y0 := X15.out.c 0 _ rfl
          have y1 := X15.out.c 1 _ rfl
          have b0 := NN8.out.blk.c 0 _ rfl
          have b1' := NN8.out.blk.c 1 _ rfl
          have bf := NN8.out.blk.f
          obtain ⟨x', b1'', o1', hx, hA, hb1', hcx⟩ := (hl.ext E8.out).at_ hlt
          cases hA
          obtain rfl : x = x' := Option.some.inj (HX.out.symm.trans hx)
          have hsB := NN8.out.blk.lt
          have d0 := hcx 0 _ rfl
          have d1 := hcx 1 _ rfl
          have d2 := hcx 2 _ rfl
          simp only [Nat.add_zero] at d0
          have hbne : b1 ≠ w2.heap.size := by
            obtain ⟨x'', b3, o3, _, h3, h4, _⟩ := hl.at_ hlt
            cases h3; omega
          have g := fun (o : Nat) (u v : Value) => (World.cell?_setCell_other (x8.setCell ⟨w2.heap.size, 0, none⟩ u) ⟨w2.heap.size, 1, none⟩ ⟨b1, o, none⟩ v (by intro e; injection e with e; exact hbne e.symm)).trans (World.cell?_setCell_other x8 ⟨w2.heap.size, 0, none⟩ ⟨b1, o, none⟩ u (by intro e; injection e with e; exact hbne e.symm))
          have d0' := (g _ (.slice y.q.A y.q.l.length y.q.c) (.slice y.ap.A y.ap.l.length y.ap.c)).trans d0
          have d1' := (g _ (.slice y.q.A y.q.l.length y.q.c) (.slice y.ap.A y.ap.l.length y.ap.c)).trans d1
          have d2' := (g _ (.slice y.q.A y.q.l.length y.q.c) (.slice y.ap.A y.ap.l.length y.ap.c)).trans d2
          have hB9 := ext_set2 E8.out w2.heap.size (.slice y.q.A y.q.l.length y.q.c) (.slice y.ap.A y.ap.l.length y.ap.c) hw2
          have Z1 : Blk (set2 x8 w2.heap.size (.slice y.q.A y.q.l.length y.q.c) (.slice y.ap.A y.ap.l.length y.ap.c)) w2.heap.size [.slice y.q.A y.q.l.length y.q.c, .slice y.ap.A y.ap.l.length y.ap.c] := NN8.out.blk.put2 _ _
          have Z2 : NOk (set2 x8 w2.heap.size (.slice y.q.A y.q.l.length y.q.c) (.slice y.ap.A y.ap.l.length y.ap.c)) y := (N8.out.set (p := ⟨w2.heap.size, 0, none⟩) _ hyo).set (p := ⟨w2.heap.size, 1, none⟩) _ hyo
          have Z3 : Own (set2 x8 w2.heap.size (.slice y.q.A y.q.l.length y.q.c) (.slice y.ap.A y.ap.l.length y.ap.c)) (w2.heap.size + 1) 28 Pk.cells 3 _ (sentL l k) := NN8.out.own.block (fun kk e => (Below.heap_setCell _ ⟨w2.heap.size, 1, none⟩ _ kk (by have := (NN8.out.own.lt kk e).2; simp; omega)).trans (Below.heap_setCell _ ⟨w2.heap.size, 0, none⟩ _ kk (by have := (NN8.out.own.lt kk e).2; simp; omega)))
          obtain ⟨x9, hx9⟩ : ∃ x9, set2 x8 w2.heap.size (.slice y.q.A y.q.l.length y.q.c) (.slice y.ap.A y.ap.l.length y.ap.c) = x9 := ⟨_, rfl⟩
          rw [hx9] at hB9 Z1 Z2 Z3
          unfold set2 at hx9
          rw [hx9] at d0' d1' d2'
          have hs9 := Z1.lt
          have hS := slc_litH x9 [x] #[.int .i64 x.f, .int .i64 x.t, .slice x.d.A x.d.l.length x.d.c] 28 (enc := Pk.cells) (sz := 3) (fun _ => rfl) rfl x9.heap.size rfl
          have hsl := sent_len l k
          obtain ⟨v', x10, hrun, hO5, hg5, hat⟩ := (Z3.alloc (.cells #[.int .i64 x.f, .int .i64 x.t, .slice x.d.A x.d.l.length x.d.c] 28)).append pkI 22 (ys := [x]) (m := 1) rfl 1 hS (by simp; omega) (by unfold maxLen; simp; omega) (by simp; omega)
          obtain ⟨g5, c5, cur5, hv5, _⟩ := hO5.some_ (by simp)
          subst hv5
          have hrow := fun r e => (Z3.lt r e).2
          have hb10 : x10.heap[w2.heap.size]? = (x9.alloc (.cells #[.int .i64 x.f, .int .i64 x.t, .slice x.d.A x.d.l.length x.d.c] 28)).heap[w2.heap.size]? := hg5.block _ (by simp; omega) (fun e => by have := hrow _ e.symm; omega)
          have E10 := Lib.hid (ext_grown (ext_alloc hB9 (.cells #[.int .i64 x.f, .int .i64 x.t, .slice x.d.A x.d.l.length x.d.c] 28)) hg5 (fun r e => by have := hrow r e; omega))
          have Za : NOk (x9.alloc (.cells #[.int .i64 x.f, .int .i64 x.t, .slice x.d.A x.d.l.length x.d.c] 28)) y := Z2.alloc _
          have N10 : NOk x10 y := Za.grown hg5 hye
          have hs10 : ∀ b, (Value.slice (some ⟨g5, 0, none⟩) (sentL l k ++ [x]).length c5).ownBlock = some b → y.off b := fun b e => by
            rcases hat with h | h
            · exact hye b (by rw [← h]; exact e)
            · rw [h] at e; cases e; exact Za.off (Nat.le_refl _)
          have NN10 := Lib.hid (show Nb x10 w2.heap.size (sentL l (k + 1)) y _ from ⟨(Z1.alloc _).keepB hb10, N10, hyo, (HY.out.1.trans (by rw [NN8.out.q])).trans (sent_yes HX.out HS.out).symm, HY.out.2, by rw [sent_yes HX.out HS.out]; exact hO5, hs10⟩)
          have HRUN := Lib.hid hrun
          clear hrun hg5 hO5 hS hb10 N10 hs10 Za hat hye Z1 Z2 Z3 hB9 hrow hcx d0 d1 d2 g hx
          go_wp2_with (at_builtin; refine wpList_append_run rfl (.tmp 39) (.tmp 44) 22 rfl (.slice RA (sentL l k).length Rc) (.slice (some ⟨x9.heap.size, 0, none⟩) 1 1) rfl rfl HRUN.out ?_)
          go_roundw
          case rel => exact ⟨k + 1, y, some ⟨g5, 0, none⟩, c5, hlt, by rw [sent_yes HX.out HS.out]; simp, by go_num, by unfold Hid; have := NN10.out; rw [← sent_yes HX.out HS.out] at this; exact this, E10⟩
          case measure => simp [intOf]; omega
    · rename_i K0 a0
      have hge : ¬ (k : Int) < l.length := by omega
      obtain ⟨R0, hR0⟩ : ∃ R, sentL l k = R := ⟨_, rfl⟩
      have HL0 := Lib.hid (show R0.length ≤ 12 by rw [← hR0]; have := sent_len l k; omega)
      have HR0 := Lib.hid (show ∀ p ∈ R0, okP p = true ∧ p ∈ l from fun p hp => by rw [← hR0] at hp; exact ⟨sent_ok p hp, sent_mem hp⟩)
      rw [hR0] at NN
      obtain ⟨L0, hL0⟩ : ∃ n, R0.length = n := ⟨_, rfl⟩
      have hL12 : L0 ≤ 12 := by rw [← hL0]; exact HL0.out
      have HLL := Lib.hid hL0
      clear hL0
      obtain ⟨wo, rfl⟩ : ∃ wo, wo = wr := ⟨_, rfl⟩
      simp only [hR0]
      clear hR0
      go_wp2_with fail
      go_loopw [6, 10] (fun v i wr => ∃ (R : List Pk) (m : Nt) (RA : Option Addr) (Rc q : Nat), Hid (∀ p ∈ R, okP p = true ∧ p ∈ l) ∧ v = .slice RA R.length Rc ∧ i = .int .i64 q ∧ q + R.length = L0 ∧ Hid (Nb wr w2.heap.size R m (.slice RA R.length Rc)) ∧ Hid (Below w.heap.size w wr)) (fun _ i _ => L0 - (intOf i).toNat)
      case atStart => exact ⟨R0, m, RA, Rc, 0, HR0, rfl, rfl, by rw [HLL.out]; omega, NN, E⟩
      case round =>
        clear NN E HR0 HLL
        obtain ⟨R, m, RA, Rc, q, HR, rfl, rfl, hqL, NN, E⟩ := hrel
        have n0 := NN.out.blk.c 0 _ rfl
        have n1 := NN.out.blk.c 1 _ rfl
        by_cases h0 : R.length = 0
        · have hz : ¬ (0 : Int) < R.length := by omega
          rw [NN.out.q, h0] at n0
          clear h0
          go_wp2_with fail
          go_ret
          exact ⟨rfl, E.out⟩
        rename_i K1 a1
        clear a1
        have hz : (0 : Int) < R.length := by omega
        have HC := Lib.hid (NN.out.chk (by omega) (fun p hp => (HR.out p hp).1))
        by_cases hi : q < od.length
        · obtain ⟨y8, b8, o8, hy8, hA8, hb8, hc8⟩ := (ho.ext E.out).at_ hi
          have c8 := hc8 0 _ rfl
          have hy := HOW.out y8 (List.mem_of_getElem? hy8)
          have y0 : 0 ≤ y8 := by simp [Lit.wf, IntKind.min, IntKind.max, IntKind.signed, IntKind.bits] at hy; omega
          have y1 : y8 < 256 := by simp [Lit.wf, IntKind.min, IntKind.max, IntKind.signed, IntKind.bits] at hy; omega
          simp only [Nat.mul_one, Nat.add_zero] at c8
          have hi' : (q : Int) < od.length := by omega
          have hz2 : (R.length : Int) ≠ 0 := by omega
          obtain ⟨k, hk⟩ : ∃ k : Nat, y8 % (R.length : Int) = k := ⟨(y8 % (R.length : Int)).toNat, by have := Int.emod_nonneg y8 hz2; omega⟩
          have hkR : k < R.length := by have := Int.emod_lt_of_pos y8 hz; omega
          have hk2 : y8.tmod (R.length : Int) = k := by rw [Int.tmod_eq_emod_of_nonneg y0]; exact hk
          have hyw : IntKind.i64.wrap y8 = y8 := IntWalk.i64_in _ (by omega)
          subst hA8
          clear hc8 hy8 hy h0
          obtain ⟨x, hx⟩ : ∃ x, R[k]? = some x := ⟨_, List.getElem?_eq_getElem hkR⟩
          have HX := Lib.hid hx
          have HXM := Lib.hid (HR.out x (List.mem_of_getElem? hx))
          clear hx
          go_wp2_with fail
          refine (deliver_at (n := m) (i := (k : Nat)) x (delN R k) [] 0 (delP_nil HC.out NN.out.ap (by rw [NN.out.q]; exact HX.out)) (by rw [loseQ_ok HC.out (by rw [NN.out.q]; exact hkR), NN.out.q]) (by rw [loseA_ok HC.out (by rw [NN.out.q]; exact hkR), NN.out.ap]) (atE_ok HC.out (by rw [NN.out.q]; exact hkR)) NN.out.ok).mono ?_
          rintro e w5 ⟨y, rfl, hq, ha, hmm, B, hoo⟩
          have HY := Lib.hid (show _ ∧ _ from ⟨hq, ha⟩)
          have hyo : y.off w2.heap.size := hoo _ NN.out.blk.lt NN.out.off
          clear hq ha hoo hk hk2 hyw y0 y1 c8 hz2 hi hi' n0 n1
          obtain ⟨w6, hw6⟩ : ∃ w6, (w5.alloc (.cells #[.int .i64 x.f, .int .i64 x.t, .slice x.d.A x.d.l.length x.d.c] 28)).alloc (.cells #[.slice y.q.A y.q.l.length y.q.c, .slice y.ap.A y.ap.l.length y.ap.c] 25) = w6 := ⟨_, rfl⟩
          have B6 : Below wr.heap.size wr w6 := by rw [← hw6]; exact ext_alloc (ext_alloc B _) _
          have X12 := Lib.hid ((Blk.new w5 [.int .i64 x.f, .int .i64 x.t, .slice x.d.A x.d.l.length x.d.c] 28).alloc (.cells #[.slice y.q.A y.q.l.length y.q.c, .slice y.ap.A y.ap.l.length y.ap.c] 25))
          have X13 := Lib.hid (Blk.newH (w5.alloc (.cells #[.int .i64 x.f, .int .i64 x.t, .slice x.d.A x.d.l.length x.d.c] 28)) [.slice y.q.A y.q.l.length y.q.c, .slice y.ap.A y.ap.l.length y.ap.c] 25 (w5.heap.size + 1) (by simp))
          have NY := Lib.hid ((hmm.alloc (.cells #[.int .i64 x.f, .int .i64 x.t, .slice x.d.A x.d.l.length x.d.c] 28)).alloc (.cells #[.slice y.q.A y.q.l.length y.q.c, .slice y.ap.A y.ap.l.length y.ap.c] 25))
          rw [hw6] at X12 X13 NY
          have E6 := Lib.hid (ext_trans E.out B6)
          have hwB := NN.out.blk.lt
          have h56 : wr.heap.size ≤ w5.heap.size := B.size
          have O6 := Lib.hid (NN.out.own.ext B6)
          have X5 := Lib.hid (NN.out.blk.ext B6)
          obtain ⟨_, _, hv6, hRc, -, -⟩ := O6.out.form
          cases hv6
          have SL := Lib.hid (O6.out.slc pkI.hl pkI.hz)
          obtain ⟨x', b1, o1, hx, hA, hb1, hcx⟩ := SL.out.at_ hkR
          obtain rfl : x = x' := Option.some.inj (HX.out.symm.trans hx)
          have d0 := hcx 0 _ rfl
          have d1 := hcx 1 _ rfl
          have d2 := hcx 2 _ rfl
          simp only [Nat.add_zero] at d0
          subst hA
          have hkR' : ((k : Nat) : Int) < R.length := by omega
          have hk0 : (0 : Int) ≤ ((k : Nat) : Int) := by omega
          have SS := Lib.hid (show ∀ w', Below w6.heap.size w6 w' → (fun w' => Below w6.heap.size w6 w' ∧ w'.cell? ⟨w5.heap.size, 0, none⟩ = some (.int .i64 x.f) ∧ w'.cell? ⟨w5.heap.size, 1, none⟩ = some (.int .i64 x.t) ∧ w'.cell? ⟨w5.heap.size, 2, none⟩ = some (.slice x.d.A x.d.l.length x.d.c) ∧ w'.cell? ⟨b1, o1 + k * 3, none⟩ = some (.int .i64 x.f) ∧ w'.cell? ⟨b1, o1 + k * 3 + 1, none⟩ = some (.int .i64 x.t) ∧ w'.cell? ⟨b1, o1 + k * 3 + 2, none⟩ = some (.slice x.d.A x.d.l.length x.d.c)) w' from fun w' h => ⟨h, (X12.out.ext h).c 0 _ rfl, (X12.out.ext h).c 1 _ rfl, (X12.out.ext h).c 2 _ rfl, (h.cell (p := ⟨b1, _, none⟩) hb1).trans d0, (h.cell (p := ⟨b1, _, none⟩) hb1).trans d1, (h.cell (p := ⟨b1, _, none⟩) hb1).trans d2⟩)
          have HXD := Lib.hid (HD.out x HXM.out.2)
          clear hcx hx d0 d1 d2 hmm B
          go_wp2_with fail
          try rw [hw6]
          clear hw6
          refine rg_begin (S := (fun w' => Below w6.heap.size w6 w' ∧ w'.cell? ⟨w5.heap.size, 0, none⟩ = some (.int .i64 x.f) ∧ w'.cell? ⟨w5.heap.size, 1, none⟩ = some (.int .i64 x.t) ∧ w'.cell? ⟨w5.heap.size, 2, none⟩ = some (.slice x.d.A x.d.l.length x.d.c) ∧ w'.cell? ⟨b1, o1 + k * 3, none⟩ = some (.int .i64 x.f) ∧ w'.cell? ⟨b1, o1 + k * 3 + 1, none⟩ = some (.int .i64 x.t) ∧ w'.cell? ⟨b1, o1 + k * 3 + 2, none⟩ = some (.slice x.d.A x.d.l.length x.d.c))) 11 (by kernel_rfl) (by intro d; cases d <;> intro _ _ _ _ h <;> exact h) ?_ (fun Q7 hQ7 hN7 hHeld => ?_)
          · exact SS.out _ (ext_drew (ext_refl w6))
          refine rg_take (i := 0) (some 70) (v := ?_) rfl rfl (by kernel_rfl) (by rfl) hQ7 hHeld ?_ ?_
          rotate_left
          · intro w7 hSw; (try dsimp only at hSw); go_simp; all_goals with_reducible rfl
          try simp only [Act.put, List.setIfInBounds_toArray, List.set_cons_zero, List.set_cons_succ]
          refine rg_take (i := 1) (some 71) (v := ?_) rfl rfl (by kernel_rfl) (by rfl) hQ7 hHeld ?_ ?_
          rotate_left
          · intro w7 hSw; (try dsimp only at hSw); go_simp; all_goals with_reducible rfl
          try simp only [Act.put, List.setIfInBounds_toArray, List.set_cons_zero, List.set_cons_succ]
          refine rg_take (i := 2) (some 72) (v := ?_) rfl rfl (by kernel_rfl) (by rfl) hQ7 hHeld ?_ ?_
          rotate_left
          · intro w7 hSw; (try dsimp only at hSw); go_simp; all_goals with_reducible rfl
          try simp only [Act.put, List.setIfInBounds_toArray, List.set_cons_zero, List.set_cons_succ]
          refine rg_take (i := 3) (some 73) (v := ?_) rfl rfl (by kernel_rfl) (by rfl) hQ7 hHeld ?_ ?_
          rotate_left
          · intro w7 hSw; (try dsimp only at hSw); go_simp; all_goals with_reducible rfl
          try simp only [Act.put, List.setIfInBounds_toArray, List.set_cons_zero, List.set_cons_succ]
          refine rg_take (i := 4) (some 74) (v := ?_) rfl rfl (by kernel_rfl) (by rfl) hQ7 hHeld ?_ ?_
          rotate_left
          · intro w7 hSw; (try dsimp only at hSw); go_simp; all_goals with_reducible rfl
          try simp only [Act.put, List.setIfInBounds_toArray, List.set_cons_zero, List.set_cons_succ]
          refine rg_take (i := 5) (some 75) (v := ?_) rfl rfl (by kernel_rfl) (by rfl) hQ7 hHeld ?_ ?_
          rotate_left
          · intro w7 hSw; (try dsimp only at hSw); go_simp; all_goals with_reducible rfl
          try simp only [Act.put, List.setIfInBounds_toArray, List.set_cons_zero, List.set_cons_succ]
          refine rg_take (i := 6) (some 76) (v := ?_) rfl rfl (by kernel_rfl) (by rfl) hQ7 hHeld ?_ ?_
          rotate_left
          · intro w7 hSw; (try dsimp only at hSw); go_simp; all_goals with_reducible rfl
          try simp only [Act.put, List.setIfInBounds_toArray, List.set_cons_zero, List.set_cons_succ]
          refine rg_take (i := 7) (some 77) (v := ?_) rfl rfl (by kernel_rfl) (by rfl) hQ7 hHeld ?_ ?_
          rotate_left
          · intro w7 hSw; (try dsimp only at hSw); go_simp; all_goals with_reducible rfl
          try simp only [Act.put, List.setIfInBounds_toArray, List.set_cons_zero, List.set_cons_succ]
          refine rg_one (i := 8) (by kernel_rfl) (rg_step rfl (by rfl) (fun K hK => ?_))
          go_simp
          refine (samep_at (p := x) (q := x) true (sameP_self x) (HXD.out.1.ext (ext_trans E6.out hHeld.1)) (HXD.out.1.ext (ext_trans E6.out hHeld.1))).mono ?_
          rintro e w7 ⟨rfl, B⟩
          go_wp2_with fail
          refine hK.out _ _ ?_ (fun hHeld2 => ?_)
          · exact SS.out _ (ext_trans hHeld.1 B)
          clear hHeld
          have hHeld := hHeld2
          clear hHeld2
          clear hK K
          try simp only [Act.put, List.setIfInBounds_toArray, List.set_cons_zero, List.set_cons_succ]
          refine rg_take (i := 9) (some 79) (v := ?_) rfl rfl (by kernel_rfl) (by rfl) hQ7 hHeld ?_ ?_
          rotate_left
          · intro w7 hSw; (try dsimp only at hSw); go_simp; all_goals with_reducible rfl
          try simp only [Act.put, List.setIfInBounds_toArray, List.set_cons_zero, List.set_cons_succ]
          refine rg_take (i := 10) (some 80) (v := ?_) rfl rfl (by kernel_rfl) (by rfl) hQ7 hHeld ?_ ?_
          rotate_left
          · intro w7 hSw; (try dsimp only at hSw); go_simp; all_goals with_reducible rfl
          try simp only [Act.put, List.setIfInBounds_toArray, List.set_cons_zero, List.set_cons_succ]
          refine rg_end (by kernel_rfl) (hN7 _ _ ?_) _
          clear hQ7 hN7 Q7
          have B7 := hHeld.1
          replace X5 := Lib.hid (X5.out.ext B7)
          replace X13 := Lib.hid (X13.out.ext B7)
          replace NY := Lib.hid (NY.out.ext B7)
          replace SL := Lib.hid (SL.out.ext B7)
          replace E6 := Lib.hid (ext_trans E6.out B7)
          have y0 := X13.out.c 0 _ rfl
          have y1 := X13.out.c 1 _ rfl
          have b0 := X5.out.c 0 _ rfl
          have b1' := X5.out.c 1 _ rfl
          have bf := X5.out.f
          have hlt5 := X5.out.lt
          have hb9 := ext_set2 E6.out w2.heap.size (.slice y.q.A y.q.l.length y.q.c) (.slice y.ap.A y.ap.l.length y.ap.c) hw2
          have Z1 : Blk (set2 w7 w2.heap.size (.slice y.q.A y.q.l.length y.q.c) (.slice y.ap.A y.ap.l.length y.ap.c)) w2.heap.size [.slice y.q.A y.q.l.length y.q.c, .slice y.ap.A y.ap.l.length y.ap.c] := X5.out.put2 _ _
          have Z2 : NOk (set2 w7 w2.heap.size (.slice y.q.A y.q.l.length y.q.c) (.slice y.ap.A y.ap.l.length y.ap.c)) y := (NY.out.set (p := ⟨w2.heap.size, 0, none⟩) _ hyo).set (p := ⟨w2.heap.size, 1, none⟩) _ hyo
          have hro : rowOff (some ⟨b1, o1, none⟩) R w2.heap.size := fun _ c o s e => by cases e; have := (O6.out.lt b1 rfl).2; omega
          have Z3 : Slc (set2 w7 w2.heap.size (.slice y.q.A y.q.l.length y.q.c) (.slice y.ap.A y.ap.l.length y.ap.c)) Pk.cells 3 (some ⟨b1, o1, none⟩) R := (SL.out.far (p := ⟨w2.heap.size, 0, none⟩) hro).far (p := ⟨w2.heap.size, 1, none⟩) hro
          obtain ⟨w8, hw8⟩ : ∃ w8, set2 w7 w2.heap.size (.slice y.q.A y.q.l.length y.q.c) (.slice y.ap.A y.ap.l.length y.ap.c) = w8 := ⟨_, rfl⟩
          rw [hw8] at hb9 Z1 Z2 Z3
          unfold set2 at hw8
          have HB9 := Lib.hid hb9
          have HZ := Lib.hid (show _ ∧ _ ∧ _ from ⟨Z1, Z2, Z3⟩)
          clear hb9 Z1 Z2 Z3 B7 hHeld SS hro
          go_wp2_with fail
          try rw [hw8]
          clear hw8 y0 y1 b0 b1' bf
          have hq1 : (Value.slice (some ⟨b1, o1, none⟩) R.length Rc) = .slice (some ⟨b1, o1, none⟩) R.length Rc := rfl
          have hRl : R.length ≤ 12 := by omega
          have s8 := HZ.out.1.lt
          have D1 := ext_alloc (ext_drew (ext_refl w8)) (.cells #[] 28)
          have o0 := Own.madeH (α := Pk) w8.drew w8.heap.size 28 Pk.cells 3 (Nat.le_refl _) w8.heap.size rfl
          obtain ⟨v1, X1, hrun1, A1, c1, rfl, O1, D2, _, _, _⟩ := Own.append_to (w0 := w8) pkI 22 o0 D1 (ys := R.take k) (m := k) (by first | (simp; done) | (simp; omega)) Rc ((HZ.out.2.2.ext D1).take k) (by first | (simp; done) | (simp; omega)) (by unfold maxLen; first | (simp; done) | (simp; omega))
          obtain ⟨v2, X2, hrun2, A3, c3, rfl, O2, D3, _, hc3, hm3⟩ := Own.append_to (w0 := w8) pkI 22 O1 D2 (ys := R.drop (k + 1)) (m := R.length - (k + 1)) (by simp) (Rc - (k + 1)) ((HZ.out.2.2.ext D2).fromA (k + 1) Rc hRc) (by simp; omega) (by unfold maxLen; simp; omega)
          have HR1 := Lib.hid hrun1
          have HR2 := Lib.hid hrun2
          have HO2 := Lib.hid O2
          have HD3 := Lib.hid D3
          clear hrun1 hrun2 O1 O2 D2 D3 o0 hc3 hm3
          refine rg_begin (S := (fun _ => True)) 11 (by kernel_rfl) (by intro d; cases d <;> intro _ _ _ _ h <;> exact h) ?_ (fun Q7 hQ7 hN7 hHeld => ?_)
          · trivial
          refine rg_pure (i := 1) (some 83) (v := ?_) rfl rfl (by kernel_rfl) (by rfl) hQ7 (by first | exact .inr hHeld | exact .inl (by kernel_rfl)) ?_ ?_
          rotate_left
          · intro w7; go_simp; all_goals with_reducible rfl
          try simp only [Act.put, List.setIfInBounds_toArray, List.set_cons_zero, List.set_cons_succ]
          refine rg_pure (i := 2) (some 84) (v := ?_) rfl rfl (by kernel_rfl) (by rfl) hQ7 (by first | exact .inr hHeld | exact .inl (by kernel_rfl)) ?_ ?_
          rotate_left
          · intro w7; go_simp; all_goals with_reducible rfl
          try simp only [Act.put, List.setIfInBounds_toArray, List.set_cons_zero, List.set_cons_succ]
          refine rg_pure (i := 3) (some 85) (v := .slice (some ⟨b1, o1, none⟩) k Rc) rfl rfl (by kernel_rfl) (by rfl) hQ7 (by first | exact .inr hHeld | exact .inl (by kernel_rfl)) (fun w7 => run_v (slice_head _ _ _ k _ (by first | rfl | (simp; done)) (by omega) w7)) ?_
          try simp only [Act.put, List.setIfInBounds_toArray, List.set_cons_zero, List.set_cons_succ]
          refine rg_pure (i := 5) (some 87) (v := ?_) rfl rfl (by kernel_rfl) (by rfl) hQ7 (by first | exact .inr hHeld | exact .inl (by kernel_rfl)) ?_ ?_
          rotate_left
          · intro w7; go_simp; all_goals with_reducible rfl
          try simp only [Act.put, List.setIfInBounds_toArray, List.set_cons_zero, List.set_cons_succ]
          refine rg_pure (i := 6) (some 88) (v := ?_) rfl rfl (by kernel_rfl) (by rfl) hQ7 (by first | exact .inr hHeld | exact .inl (by kernel_rfl)) ?_ ?_
          rotate_left
          · intro w7; go_simp; all_goals with_reducible rfl
          try simp only [Act.put, List.setIfInBounds_toArray, List.set_cons_zero, List.set_cons_succ]
          refine rg_pure (i := 7) (some 89) (v := ?_) rfl rfl (by kernel_rfl) (by rfl) hQ7 (by first | exact .inr hHeld | exact .inl (by kernel_rfl)) ?_ ?_
          rotate_left
          · intro w7; go_simp; all_goals with_reducible rfl
          try simp only [Act.put, List.setIfInBounds_toArray, List.set_cons_zero, List.set_cons_succ]
          refine rg_pure (i := 8) (some 90) (v := .slice (fromA (some ⟨b1, o1, none⟩) Rc (k + 1) 3) (R.length - (k + 1)) (Rc - (k + 1))) rfl rfl (by kernel_rfl) (by rfl) hQ7 (by first | exact .inr hHeld | exact .inl (by kernel_rfl)) (fun w7 => run_v (slice_from _ R.length Rc (k + 1) _ (by first | rfl | (simp; done) | (simp; exact IntWalk.i64_in _ (by omega))) (by omega) hRc w7)) ?_
          try simp only [Act.put, List.setIfInBounds_toArray, List.set_cons_zero, List.set_cons_succ]
          refine rg_one (i := 0) (by kernel_rfl) (rg_step rfl (by rfl) (fun K hK => ?_))
          go_simp
          refine hK.out _ _ ?_ (fun hHeld2 => ?_)
          · trivial
          clear hHeld
          have hHeld := hHeld2
          clear hHeld2
          clear hK K
          try simp only [Act.put, List.setIfInBounds_toArray, List.set_cons_zero, List.set_cons_succ]
          refine rg_one (i := 4) (by kernel_rfl) (rg_step rfl (by rfl) (fun K hK => ?_))
          refine rg_append (some 86) _ _ 22 22 rfl rfl rfl _ _ rfl rfl (runs_eq HR1.out) ?_
          rintro v9 w9 ⟨rfl, rfl⟩
          refine hK.out _ _ ?_ (fun hHeld2 => ?_)
          · trivial
          clear hHeld
          have hHeld := hHeld2
          clear hHeld2
          clear hK K
          try simp only [Act.put, List.setIfInBounds_toArray, List.set_cons_zero, List.set_cons_succ]
          refine rg_one (i := 9) (by kernel_rfl) (rg_step rfl (by rfl) (fun K hK => ?_))
          refine rg_append (some 91) _ _ 22 22 rfl rfl rfl _ _ rfl rfl (runs_eq HR2.out) ?_
          rintro v9 w9 ⟨rfl, rfl⟩
          refine hK.out _ _ ?_ (fun hHeld2 => ?_)
          · trivial
          clear hHeld
          have hHeld := hHeld2
          clear hHeld2
          clear hK K
          try simp only [Act.put, List.setIfInBounds_toArray, List.set_cons_zero, List.set_cons_succ]
          refine rg_pure (i := 10) (some 6) (v := ?_) rfl rfl (by kernel_rfl) (by rfl) hQ7 (by first | exact .inr hHeld | exact .inl (by kernel_rfl)) ?_ ?_
          rotate_left
          · intro w7; go_simp; all_goals with_reducible rfl
          try simp only [Act.put, List.setIfInBounds_toArray, List.set_cons_zero, List.set_cons_succ]
          refine rg_end (by kernel_rfl) (hN7 _ _ ?_) _
          clear hQ7 hN7 Q7
          go_wp2_with fail
          go_roundw
          case rel =>
            refine ⟨delN R k, y, A3, c3, q + 1, fun p hp => HR.out p (mem_del hp), by simp [delN], by go_num, by have := del_len hkR; omega, ?_, Lib.hid (ext_trans HB9.out HD3.out)⟩
            have hn2 : NOk X2 y := HZ.out.2.1.ext HD3.out
            exact ⟨HZ.out.1.ext HD3.out, hn2, hyo, HY.out.1, HY.out.2, HO2.out.low (by omega), fun b e => HZ.out.2.1.off (HO2.out.lt b e).2⟩
          case measure => simp [intOf]; omega
        · have hi' : ¬ (q : Int) < od.length := by omega
          have hkR : 0 < R.length := by omega
          clear h0 hi
          obtain ⟨x, hx⟩ : ∃ x, R[0]? = some x := ⟨_, List.getElem?_eq_getElem hkR⟩
          have HX := Lib.hid hx
          have HXM := Lib.hid (HR.out x (List.mem_of_getElem? hx))
          clear hx
          go_wp2_with fail
          refine (deliver_at (n := m) (i := (0 : Nat)) x (delN R 0) [] 0 (delP_nil HC.out NN.out.ap (by rw [NN.out.q]; exact HX.out)) (by rw [loseQ_ok HC.out (by rw [NN.out.q]; exact hkR), NN.out.q]) (by rw [loseA_ok HC.out (by rw [NN.out.q]; exact hkR), NN.out.ap]) (atE_ok HC.out (by rw [NN.out.q]; exact hkR)) NN.out.ok).mono ?_
          rintro e w5 ⟨y, rfl, hq, ha, hmm, B, hoo⟩
          have HY := Lib.hid (show _ ∧ _ from ⟨hq, ha⟩)
          have hyo : y.off w2.heap.size := hoo _ NN.out.blk.lt NN.out.off
          clear hq ha hoo hi' n0 n1
          obtain ⟨w6, hw6⟩ : ∃ w6, (w5.alloc (.cells #[.int .i64 x.f, .int .i64 x.t, .slice x.d.A x.d.l.length x.d.c] 28)).alloc (.cells #[.slice y.q.A y.q.l.length y.q.c, .slice y.ap.A y.ap.l.length y.ap.c] 25) = w6 := ⟨_, rfl⟩
          have B6 : Below wr.heap.size wr w6 := by rw [← hw6]; exact ext_alloc (ext_alloc B _) _
          have X12 := Lib.hid ((Blk.new w5 [.int .i64 x.f, .int .i64 x.t, .slice x.d.A x.d.l.length x.d.c] 28).alloc (.cells #[.slice y.q.A y.q.l.length y.q.c, .slice y.ap.A y.ap.l.length y.ap.c] 25))
          have X13 := Lib.hid (Blk.newH (w5.alloc (.cells #[.int .i64 x.f, .int .i64 x.t, .slice x.d.A x.d.l.length x.d.c] 28)) [.slice y.q.A y.q.l.length y.q.c, .slice y.ap.A y.ap.l.length y.ap.c] 25 (w5.heap.size + 1) (by simp))
          have NY := Lib.hid ((hmm.alloc (.cells #[.int .i64 x.f, .int .i64 x.t, .slice x.d.A x.d.l.length x.d.c] 28)).alloc (.cells #[.slice y.q.A y.q.l.length y.q.c, .slice y.ap.A y.ap.l.length y.ap.c] 25))
          rw [hw6] at X12 X13 NY
          have E6 := Lib.hid (ext_trans E.out B6)
          have hwB := NN.out.blk.lt
          have h56 : wr.heap.size ≤ w5.heap.size := B.size
          have O6 := Lib.hid (NN.out.own.ext B6)
          have X5 := Lib.hid (NN.out.blk.ext B6)
          obtain ⟨_, _, hv6, hRc, -, -⟩ := O6.out.form
          cases hv6
          have SL := Lib.hid (O6.out.slc pkI.hl pkI.hz)
          obtain ⟨x', b1, o1, hx, hA, hb1, hcx⟩ := SL.out.at_ hkR
          obtain rfl : x = x' := Option.some.inj (HX.out.symm.trans hx)
          have d0 := hcx 0 _ rfl
          have d1 := hcx 1 _ rfl
          have d2 := hcx 2 _ rfl
          simp only [Nat.zero_mul, Nat.add_zero] at d0 d1 d2
          subst hA
          have hkR' : ((0 : Nat) : Int) < R.length := by omega
          have hk0 : (0 : Int) ≤ ((0 : Nat) : Int) := by omega
          have SS := Lib.hid (show ∀ w', Below w6.heap.size w6 w' → (fun w' => Below w6.heap.size w6 w' ∧ w'.cell? ⟨w5.heap.size, 0, none⟩ = some (.int .i64 x.f) ∧ w'.cell? ⟨w5.heap.size, 1, none⟩ = some (.int .i64 x.t) ∧ w'.cell? ⟨w5.heap.size, 2, none⟩ = some (.slice x.d.A x.d.l.length x.d.c) ∧ w'.cell? ⟨b1, o1, none⟩ = some (.int .i64 x.f) ∧ w'.cell? ⟨b1, o1 + 1, none⟩ = some (.int .i64 x.t) ∧ w'.cell? ⟨b1, o1 + 2, none⟩ = some (.slice x.d.A x.d.l.length x.d.c)) w' from fun w' h => ⟨h, (X12.out.ext h).c 0 _ rfl, (X12.out.ext h).c 1 _ rfl, (X12.out.ext h).c 2 _ rfl, (h.cell (p := ⟨b1, _, none⟩) hb1).trans d0, (h.cell (p := ⟨b1, _, none⟩) hb1).trans d1, (h.cell (p := ⟨b1, _, none⟩) hb1).trans d2⟩)
          have HXD := Lib.hid (HD.out x HXM.out.2)
          clear hcx hx d0 d1 d2 hmm B
          go_wp2_with fail
          try rw [hw6]
          clear hw6
          refine rg_begin (S := (fun w' => Below w6.heap.size w6 w' ∧ w'.cell? ⟨w5.heap.size, 0, none⟩ = some (.int .i64 x.f) ∧ w'.cell? ⟨w5.heap.size, 1, none⟩ = some (.int .i64 x.t) ∧ w'.cell? ⟨w5.heap.size, 2, none⟩ = some (.slice x.d.A x.d.l.length x.d.c) ∧ w'.cell? ⟨b1, o1, none⟩ = some (.int .i64 x.f) ∧ w'.cell? ⟨b1, o1 + 1, none⟩ = some (.int .i64 x.t) ∧ w'.cell? ⟨b1, o1 + 2, none⟩ = some (.slice x.d.A x.d.l.length x.d.c))) 11 (by kernel_rfl) (by intro d; cases d <;> intro _ _ _ _ h <;> exact h) ?_ (fun Q7 hQ7 hN7 hHeld => ?_)
          · exact SS.out _ (ext_drew (ext_refl w6))
          refine rg_take (i := 0) (some 70) (v := ?_) rfl rfl (by kernel_rfl) (by rfl) hQ7 hHeld ?_ ?_
          rotate_left
          · intro w7 hSw; (try dsimp only at hSw); go_simp; all_goals with_reducible rfl
          try simp only [Act.put, List.setIfInBounds_toArray, List.set_cons_zero, List.set_cons_succ]
          refine rg_take (i := 1) (some 71) (v := ?_) rfl rfl (by kernel_rfl) (by rfl) hQ7 hHeld ?_ ?_
          rotate_left
          · intro w7 hSw; (try dsimp only at hSw); go_simp; all_goals with_reducible rfl
          try simp only [Act.put, List.setIfInBounds_toArray, List.set_cons_zero, List.set_cons_succ]
          refine rg_take (i := 2) (some 72) (v := ?_) rfl rfl (by kernel_rfl) (by rfl) hQ7 hHeld ?_ ?_
          rotate_left
          · intro w7 hSw; (try dsimp only at hSw); go_simp; all_goals with_reducible rfl
          try simp only [Act.put, List.setIfInBounds_toArray, List.set_cons_zero, List.set_cons_succ]
          refine rg_take (i := 3) (some 73) (v := ?_) rfl rfl (by kernel_rfl) (by rfl) hQ7 hHeld ?_ ?_
          rotate_left
          · intro w7 hSw; (try dsimp only at hSw); go_simp; all_goals with_reducible rfl
          try simp only [Act.put, List.setIfInBounds_toArray, List.set_cons_zero, List.set_cons_succ]
          refine rg_take (i := 4) (some 74) (v := ?_) rfl rfl (by kernel_rfl) (by rfl) hQ7 hHeld ?_ ?_
          rotate_left
          · intro w7 hSw; (try dsimp only at hSw); go_simp; all_goals with_reducible rfl
          try simp only [Act.put, List.setIfInBounds_toArray, List.set_cons_zero, List.set_cons_succ]
          refine rg_take (i := 5) (some 75) (v := ?_) rfl rfl (by kernel_rfl) (by rfl) hQ7 hHeld ?_ ?_
          rotate_left
          · intro w7 hSw; (try dsimp only at hSw); go_simp; all_goals with_reducible rfl
          try simp only [Act.put, List.setIfInBounds_toArray, List.set_cons_zero, List.set_cons_succ]
          refine rg_take (i := 6) (some 76) (v := ?_) rfl rfl (by kernel_rfl) (by rfl) hQ7 hHeld ?_ ?_
          rotate_left
          · intro w7 hSw; (try dsimp only at hSw); go_simp; all_goals with_reducible rfl
          try simp only [Act.put, List.setIfInBounds_toArray, List.set_cons_zero, List.set_cons_succ]
          refine rg_take (i := 7) (some 77) (v := ?_) rfl rfl (by kernel_rfl) (by rfl) hQ7 hHeld ?_ ?_
          rotate_left
          · intro w7 hSw; (try dsimp only at hSw); go_simp; all_goals with_reducible rfl
          try simp only [Act.put, List.setIfInBounds_toArray, List.set_cons_zero, List.set_cons_succ]
          refine rg_one (i := 8) (by kernel_rfl) (rg_step rfl (by rfl) (fun K hK => ?_))
          go_simp
          refine (samep_at (p := x) (q := x) true (sameP_self x) (HXD.out.1.ext (ext_trans E6.out hHeld.1)) (HXD.out.1.ext (ext_trans E6.out hHeld.1))).mono ?_
          rintro e w7 ⟨rfl, B⟩
          go_wp2_with fail
          refine hK.out _ _ ?_ (fun hHeld2 => ?_)
          · exact SS.out _ (ext_trans hHeld.1 B)
          clear hHeld
          have hHeld := hHeld2
          clear hHeld2
          clear hK K
          try simp only [Act.put, List.setIfInBounds_toArray, List.set_cons_zero, List.set_cons_succ]
          refine rg_take (i := 9) (some 79) (v := ?_) rfl rfl (by kernel_rfl) (by rfl) hQ7 hHeld ?_ ?_
          rotate_left
          · intro w7 hSw; (try dsimp only at hSw); go_simp; all_goals with_reducible rfl
          try simp only [Act.put, List.setIfInBounds_toArray, List.set_cons_zero, List.set_cons_succ]
          refine rg_take (i := 10) (some 80) (v := ?_) rfl rfl (by kernel_rfl) (by rfl) hQ7 hHeld ?_ ?_
          rotate_left
          · intro w7 hSw; (try dsimp only at hSw); go_simp; all_goals with_reducible rfl
          try simp only [Act.put, List.setIfInBounds_toArray, List.set_cons_zero, List.set_cons_succ]
          refine rg_end (by kernel_rfl) (hN7 _ _ ?_) _
          clear hQ7 hN7 Q7
          have B7 := hHeld.1
          replace X5 := Lib.hid (X5.out.ext B7)
          replace X13 := Lib.hid (X13.out.ext B7)
          replace NY := Lib.hid (NY.out.ext B7)
          replace SL := Lib.hid (SL.out.ext B7)
          replace E6 := Lib.hid (ext_trans E6.out B7)
          have y0 := X13.out.c 0 _ rfl
          have y1 := X13.out.c 1 _ rfl
          have b0 := X5.out.c 0 _ rfl
          have b1' := X5.out.c 1 _ rfl
          have bf := X5.out.f
          have hlt5 := X5.out.lt
          have hb9 := ext_set2 E6.out w2.heap.size (.slice y.q.A y.q.l.length y.q.c) (.slice y.ap.A y.ap.l.length y.ap.c) hw2
          have Z1 : Blk (set2 w7 w2.heap.size (.slice y.q.A y.q.l.length y.q.c) (.slice y.ap.A y.ap.l.length y.ap.c)) w2.heap.size [.slice y.q.A y.q.l.length y.q.c, .slice y.ap.A y.ap.l.length y.ap.c] := X5.out.put2 _ _
          have Z2 : NOk (set2 w7 w2.heap.size (.slice y.q.A y.q.l.length y.q.c) (.slice y.ap.A y.ap.l.length y.ap.c)) y := (NY.out.set (p := ⟨w2.heap.size, 0, none⟩) _ hyo).set (p := ⟨w2.heap.size, 1, none⟩) _ hyo
          have hro : rowOff (some ⟨b1, o1, none⟩) R w2.heap.size := fun _ c o s e => by cases e; have := (O6.out.lt b1 rfl).2; omega
          have Z3 : Slc (set2 w7 w2.heap.size (.slice y.q.A y.q.l.length y.q.c) (.slice y.ap.A y.ap.l.length y.ap.c)) Pk.cells 3 (some ⟨b1, o1, none⟩) R := (SL.out.far (p := ⟨w2.heap.size, 0, none⟩) hro).far (p := ⟨w2.heap.size, 1, none⟩) hro
          obtain ⟨w8, hw8⟩ : ∃ w8, set2 w7 w2.heap.size (.slice y.q.A y.q.l.length y.q.c) (.slice y.ap.A y.ap.l.length y.ap.c) = w8 := ⟨_, rfl⟩
          rw [hw8] at hb9 Z1 Z2 Z3
          unfold set2 at hw8
          have HB9 := Lib.hid hb9
          have HZ := Lib.hid (show _ ∧ _ ∧ _ from ⟨Z1, Z2, Z3⟩)
          clear hb9 Z1 Z2 Z3 B7 hHeld SS hro
          go_wp2_with fail
          try rw [hw8]
          clear hw8 y0 y1 b0 b1' bf
          have hq1 : (Value.slice (some ⟨b1, o1, none⟩) R.length Rc) = .slice (some ⟨b1, o1, none⟩) R.length Rc := rfl
          have hRl : R.length ≤ 12 := by omega
          have s8 := HZ.out.1.lt
          have D1 := ext_alloc (ext_drew (ext_refl w8)) (.cells #[] 28)
          have o0 := Own.madeH (α := Pk) w8.drew w8.heap.size 28 Pk.cells 3 (Nat.le_refl _) w8.heap.size rfl
          obtain ⟨v1, X1, hrun1, A1, c1, rfl, O1, D2, _, _, _⟩ := Own.append_to (w0 := w8) pkI 22 o0 D1 (ys := R.take 0) (m := 0) (by first | (simp; done) | (simp; omega)) Rc ((HZ.out.2.2.ext D1).take 0) (by first | (simp; done) | (simp; omega)) (by unfold maxLen; first | (simp; done) | (simp; omega))
          obtain ⟨v2, X2, hrun2, A3, c3, rfl, O2, D3, _, hc3, hm3⟩ := Own.append_to (w0 := w8) pkI 22 O1 D2 (ys := R.drop (0 + 1)) (m := R.length - (0 + 1)) (by simp) (Rc - (0 + 1)) ((HZ.out.2.2.ext D2).fromA (0 + 1) Rc hRc) (by simp; omega) (by unfold maxLen; simp; omega)
          have HR1 := Lib.hid hrun1
          have HR2 := Lib.hid hrun2
          have HO2 := Lib.hid O2
          have HD3 := Lib.hid D3
          clear hrun1 hrun2 O1 O2 D2 D3 o0 hc3 hm3
          refine rg_begin (S := (fun _ => True)) 11 (by kernel_rfl) (by intro d; cases d <;> intro _ _ _ _ h <;> exact h) ?_ (fun Q7 hQ7 hN7 hHeld => ?_)
          · trivial
          refine rg_pure (i := 1) (some 83) (v := ?_) rfl rfl (by kernel_rfl) (by rfl) hQ7 (by first | exact .inr hHeld | exact .inl (by kernel_rfl)) ?_ ?_
          rotate_left
          · intro w7; go_simp; all_goals with_reducible rfl
          try simp only [Act.put, List.setIfInBounds_toArray, List.set_cons_zero, List.set_cons_succ]
          refine rg_pure (i := 2) (some 84) (v := ?_) rfl rfl (by kernel_rfl) (by rfl) hQ7 (by first | exact .inr hHeld | exact .inl (by kernel_rfl)) ?_ ?_
          rotate_left
          · intro w7; go_simp; all_goals with_reducible rfl
          try simp only [Act.put, List.setIfInBounds_toArray, List.set_cons_zero, List.set_cons_succ]
          refine rg_pure (i := 3) (some 85) (v := .slice (some ⟨b1, o1, none⟩) 0 Rc) rfl rfl (by kernel_rfl) (by rfl) hQ7 (by first | exact .inr hHeld | exact .inl (by kernel_rfl)) (fun w7 => run_v (slice_head _ _ _ 0 _ (by first | rfl | (simp; done)) (by omega) w7)) ?_
          try simp only [Act.put, List.setIfInBounds_toArray, List.set_cons_zero, List.set_cons_succ]
          refine rg_pure (i := 5) (some 87) (v := ?_) rfl rfl (by kernel_rfl) (by rfl) hQ7 (by first | exact .inr hHeld | exact .inl (by kernel_rfl)) ?_ ?_
          rotate_left
          · intro w7; go_simp; all_goals with_reducible rfl
          try simp only [Act.put, List.setIfInBounds_toArray, List.set_cons_zero, List.set_cons_succ]
          refine rg_pure (i := 6) (some 88) (v := ?_) rfl rfl (by kernel_rfl) (by rfl) hQ7 (by first | exact .inr hHeld | exact .inl (by kernel_rfl)) ?_ ?_
          rotate_left
          · intro w7; go_simp; all_goals with_reducible rfl
          try simp only [Act.put, List.setIfInBounds_toArray, List.set_cons_zero, List.set_cons_succ]
          refine rg_pure (i := 7) (some 89) (v := ?_) rfl rfl (by kernel_rfl) (by rfl) hQ7 (by first | exact .inr hHeld | exact .inl (by kernel_rfl)) ?_ ?_
          rotate_left
          · intro w7; go_simp; all_goals with_reducible rfl
          try simp only [Act.put, List.setIfInBounds_toArray, List.set_cons_zero, List.set_cons_succ]
          refine rg_pure (i := 8) (some 90) (v := .slice (fromA (some ⟨b1, o1, none⟩) Rc (0 + 1) 3) (R.length - (0 + 1)) (Rc - (0 + 1))) rfl rfl (by kernel_rfl) (by rfl) hQ7 (by first | exact .inr hHeld | exact .inl (by kernel_rfl)) (fun w7 => run_v (slice_from _ R.length Rc (0 + 1) _ (by first | rfl | (simp; done) | (simp; exact IntWalk.i64_in _ (by omega))) (by omega) hRc w7)) ?_
          try simp only [Act.put, List.setIfInBounds_toArray, List.set_cons_zero, List.set_cons_succ]
          refine rg_one (i := 0) (by kernel_rfl) (rg_step rfl (by rfl) (fun K hK => ?_))
          go_simp
          refine hK.out _ _ ?_ (fun hHeld2 => ?_)
          · trivial
          clear hHeld
          have hHeld := hHeld2
          clear hHeld2
          clear hK K
          try simp only [Act.put, List.setIfInBounds_toArray, List.set_cons_zero, List.set_cons_succ]
          refine rg_one (i := 4) (by kernel_rfl) (rg_step rfl (by rfl) (fun K hK => ?_))
          refine rg_append (some 86) _ _ 22 22 rfl rfl rfl _ _ rfl rfl (runs_eq HR1.out) ?_
          rintro v9 w9 ⟨rfl, rfl⟩
          refine hK.out _ _ ?_ (fun hHeld2 => ?_)
          · trivial
          clear hHeld
          have hHeld := hHeld2
          clear hHeld2
          clear hK K
          try simp only [Act.put, List.setIfInBounds_toArray, List.set_cons_zero, List.set_cons_succ]
          refine rg_one (i := 9) (by kernel_rfl) (rg_step rfl (by rfl) (fun K hK => ?_))
          refine rg_append (some 91) _ _ 22 22 rfl rfl rfl _ _ rfl rfl (runs_eq HR2.out) ?_
          rintro v9 w9 ⟨rfl, rfl⟩
          refine hK.out _ _ ?_ (fun hHeld2 => ?_)
          · trivial
          clear hHeld
          have hHeld := hHeld2
          clear hHeld2
          clear hK K
          try simp only [Act.put, List.setIfInBounds_toArray, List.set_cons_zero, List.set_cons_succ]
          refine rg_pure (i := 10) (some 6) (v := ?_) rfl rfl (by kernel_rfl) (by rfl) hQ7 (by first | exact .inr hHeld | exact .inl (by kernel_rfl)) ?_ ?_
          rotate_left
          · intro w7; go_simp; all_goals with_reducible rfl
          try simp only [Act.put, List.setIfInBounds_toArray, List.set_cons_zero, List.set_cons_succ]
          refine rg_end (by kernel_rfl) (hN7 _ _ ?_) _
          clear hQ7 hN7 Q7
          go_wp2_with fail
          go_roundw
          case rel =>
            refine ⟨delN R 0, y, A3, c3, q + 1, fun p hp => HR.out p (mem_del hp), by simp [delN], by go_num, by have := del_len hkR; omega, ?_, Lib.hid (ext_trans HB9.out HD3.out)⟩
            have hn2 : NOk X2 y := HZ.out.2.1.ext HD3.out
            exact ⟨HZ.out.1.ext HD3.out, hn2, hyo, HY.out.1, HY.out.2, HO2.out.low (by omega), fun b e => HZ.out.2.1.off (HO2.out.lt b e).2⟩
          case measure => simp [intOf]; omega
end Go.Proofs.Ythchcimialclkaa
