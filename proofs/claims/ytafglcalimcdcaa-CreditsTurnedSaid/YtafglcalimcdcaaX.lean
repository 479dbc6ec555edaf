/- Contracts: what has expired. -/
import Derived.Test.YtafglcalimcdcaaC
import Derived.Test.YtafglcalimcdcaaApp3
set_option linter.unusedSimpArgs false
set_option linter.unusedVariables false
namespace Go.Proofs.Ytafglcalimcdcaa
open Go.RowKit
/-- Two rows of the call's own, apart from each other. -/
structure Pair (w0 w : World) (A : Option Addr) (n c : Nat) (B : Option Addr) (m d : Nat) (X G : List Cr) : Prop where
  ox : Own w w0.heap.size 24 Cr.cells 3 (.slice A n c) X
  og : Own w w0.heap.size 24 Cr.cells 3 (.slice B m d) G
  ap : ∀ g, (Value.slice A n c).ownBlock = some g → (Value.slice B m d).ownBlock ≠ some g
  hn : n = X.length
  hm : m = G.length
section
variable {w0 w w' : World} {A B : Option Addr} {n c m d : Nat} {X G : List Cr} {x : Cr}
theorem Pair.ext (h : Pair w0 w A n c B m d X G) (hb : Below w.heap.size w w') : Pair w0 w' A n c B m d X G := ⟨h.ox.ext hb, h.og.ext hb, h.ap, h.hn, h.hm⟩
theorem Pair.alloc (h : Pair w0 w A n c B m d X G) (o : Obj) : Pair w0 (w.alloc o) A n c B m d X G := h.ext (ext_alloc (ext_refl w) o)
theorem Pair.symm (h : Pair w0 w A n c B m d X G) : Pair w0 w B m d A n c G X := ⟨h.og, h.ox, fun g e1 e2 => h.ap g e2 e1, h.hm, h.hn⟩
theorem Pair.push (h : Pair w0 w A n c B m d X G) (hE : Below w0.heap.size w0 w) {L : Option Addr} (hs : Slc w Cr.cells 3 L [x]) (hx : X.length ≤ 1000) :
    ∃ v' w', (Builtin.append_ #[22, 22] 22 #[.slice A n c, .slice L 1 1]).run Try.prog w = .ok v' w' ∧ ∃ A' c', v' = .slice A' (n + 1) c' ∧ Pair w0 w' A' (n + 1) c' B m d (X ++ [x]) G ∧ Below w0.heap.size w0 w' := by
  obtain ⟨v', w', h1, h2, h3, h4⟩ := h.ox.append crI 22 (ys := [x]) (m := 1) rfl 1 hs (by simp; omega) (by unfold maxLen; simp; omega) hE.size
  obtain ⟨A', c', rfl, k1, k2, _⟩ := h2.cap
  have hk : (X ++ [x]).length = n + 1 := by simp [h.hn]
  rw [hk] at h2 h4
  refine ⟨_, w', h1, A', c', by rw [hk], ⟨h2, h.og.block (fun k e => h3.block k (h.og.lt k e).1 (fun e' => h.ap k e'.symm e)), fun g e1 e2 => ?_, hk.symm, h.hm⟩, ext_grown hE h3 (fun r e => (h.ox.lt r e).2)⟩
  rcases h4 with h4 | h4
  · exact h.ap g (h4.symm.trans e1) e2
  · rw [h4] at e1; injection e1 with e1; have := (h.og.lt g e2).1; omega
end
theorem keep_yes {l : List Cr} {k : Nat} {x : Cr} {now : Int} (hx : l[k]? = some x) (h : now < x.u) : keepC now (l.take (k + 1)) = keepC now (l.take k) ++ [x] ∧ goneC now (l.take (k + 1)) = goneC now (l.take k) := by
  unfold keepC goneC; rw [take_next hx]; simp [h]
theorem keep_no {l : List Cr} {k : Nat} {x : Cr} {now : Int} (hx : l[k]? = some x) (h : ¬ now < x.u) : keepC now (l.take (k + 1)) = keepC now (l.take k) ∧ goneC now (l.take (k + 1)) = goneC now (l.take k) ++ [x] := by
  unfold keepC goneC; rw [take_next hx]; simp [h]
theorem keep_len (l : List Cr) (k : Nat) (now : Int) : (keepC now (l.take k)).length ≤ k ∧ (goneC now (l.take k)).length ≤ k := by
  have : (l.take k).length ≤ k := by simp; omega
  exact ⟨Nat.le_trans (List.length_filter_le _ _) this, Nat.le_trans (List.length_filter_le _ _) this⟩
/-- Two lists. -/
def LlR (w : World) (X G : List Cr) (e : Ending) (w' : World) : Prop := ∃ A c B d, e = .returned (.tuple #[.slice A X.length c, .slice B G.length d]) ∧ Slc w' Cr.cells 3 A X ∧ Slc w' Cr.cells 3 B G ∧ Below w.heap.size w w'
theorem Pair.ret {w0 w : World} {A B : Option Addr} {n c m d : Nat} {X G : List Cr} {e : Ending} (h : Pair w0 w A n c B m d X G) (he : e = .returned (.tuple #[.slice A n c, .slice B m d])) (hb : Below w0.heap.size w0 w) : LlR w0 X G e w := by
  have h1 := h.hn
  have h2 := h.hm
  subst h1 h2
  exact ⟨A, c, B, d, he, h.ox.slc (fun _ => rfl) (by decide), h.og.slc (fun _ => rfl) (by decide), hb⟩
set_option maxHeartbeats 1600000 in
set_option maxRecDepth 100000 in
theorem expire_any (now : Int) (A0 : Option Addr) (c0 : Nat) (l : List Cr) (w : World) (ha : Slc w Cr.cells 3 A0 l) (hn : l.length ≤ 1000) : Calls Try.prog 13 #[.slice A0 l.length c0, .int .i64 now] w (LlR w (keepC now l) (goneC now l)) := by
  have ha0 := Lib.hid ha
  have E := Lib.hid (ext_refl w)
  have SL := Lib.hid (ha)
  clear ha
  go_enter Try.func13, Try.ntmps13
  go_wp2_with fail
  go_loopw [4, 5, 10] (fun p q i wr => ∃ (k : Nat) (A : Option Addr) (n c : Nat) (B : Option Addr) (m d : Nat), k ≤ l.length ∧ i = .int .i64 k ∧ p = .slice A n c ∧ q = .slice B m d ∧ Hid (Pair w wr A n c B m d (keepC now (l.take k)) (goneC now (l.take k))) ∧ Hid (Slc wr Cr.cells 3 A0 l) ∧ Hid (Below w.heap.size w wr)) (fun p q i _ => l.length - (intOf i).toNat)
  case atStart => exact ⟨0, none, 0, 0, none, 0, 0, Nat.zero_le _, rfl, rfl, rfl, (⟨Own.nil _ _ _ _ _, Own.nil _ _ _ _ _, (fun g e1 e2 => by cases e1), rfl, rfl⟩ : Pair w w none 0 0 none 0 0 [] []), SL.out, E.out⟩
  clear E SL
  case round =>
    obtain ⟨k, A, n, c, B, m, d, hk, rfl, rfl, rfl, PR, SL, E⟩ := hrel
    by_cases hlt : k < l.length
    rotate_left
    · have hge : ¬ (k : Int) < l.length := by omega
      have HP := Lib.hid (show Pair w wr A n c B m d (keepC now l) (goneC now l) by have := PR.out; rw [List.take_of_length_le (by omega)] at this; exact this)
      go_wp2_with fail
      refine bodyPost_ret (v := .tuple #[.slice A n c, .slice B m d]) (by simp [results, Try.results13, go_sem, *]) rfl ?_
      exact HP.out.ret rfl E.out
    have hlt1 : (k : Int) < l.length := by omega
    have HKL := Lib.hid (keep_len l k now)
    obtain ⟨x, b1, o1, hxx, rfl, hb1, hd⟩ := (SL.out).at_ (k := k) hlt
    have dd0 := hd 0 _ rfl
    have dd1 := hd 1 _ rfl
    have dd2 := hd 2 _ rfl
    simp only [Nat.add_zero] at dd0
    have HX := Lib.hid hxx
    clear hd hxx
    by_cases hu : now < x.u
    · have HKY := Lib.hid (keep_yes HX.out hu)
      have hkk := HKY.out
      clear hkk
      replace PR := Lib.hid (PR.out.alloc (.cells #[.int .i64 x.a, .int .i64 x.m, .int .i64 x.u] 24))
      replace SL := Lib.hid (SL.out.alloc (.cells #[.int .i64 x.a, .int .i64 x.m, .int .i64 x.u] 24))
      replace E := Lib.hid (ext_alloc E.out (.cells #[.int .i64 x.a, .int .i64 x.m, .int .i64 x.u] 24))
      have XX := Lib.hid (Blk.newH wr [.int .i64 x.a, .int .i64 x.m, .int .i64 x.u] 24 (wr.heap.size) (by first | rfl | simp))
      obtain ⟨_, w3, hrun, A3, c3, rfl, hP3, B3⟩ := (PR.out.alloc (.cells #[.int .i64 x.a, .int .i64 x.m, .int .i64 x.u] 24)).push (ext_alloc E.out _) (x := x) (slc_litH (wr.alloc (.cells #[.int .i64 x.a, .int .i64 x.m, .int .i64 x.u] 24)) [x] _ 24 (enc := Cr.cells) (sz := 3) (fun _ => rfl) rfl (wr.heap.size + 1) (by first | rfl | simp)) (by have := HKL.out; omega)
      have HRUN := Lib.hid hrun
      have HP3 := Lib.hid hP3
      clear hrun hP3
      go_wp2_with (first | (at_builtin; refine wpList_append_run rfl (.tmp 18) (.tmp 20) 22 rfl (.slice A n c) (.slice (some ⟨wr.heap.size + 1, 0, none⟩) 1 1) rfl rfl HRUN.out ?_) | fail)
      replace SL := Lib.hid ((ha0.out.ext B3))
      go_roundw
      case rel => exact ⟨k + 1, A3, n + 1, c3, B, m, d, by omega, by go_num, rfl, rfl, (by rw [HKY.out.1, HKY.out.2]; exact HP3.out), SL.out, B3⟩
      case measure => simp [intOf]; omega
    · have HKY := Lib.hid (keep_no HX.out hu)
      have hkk := HKY.out
      clear hkk
      replace PR := Lib.hid (PR.out.alloc (.cells #[.int .i64 x.a, .int .i64 x.m, .int .i64 x.u] 24))
      replace SL := Lib.hid (SL.out.alloc (.cells #[.int .i64 x.a, .int .i64 x.m, .int .i64 x.u] 24))
      replace E := Lib.hid (ext_alloc E.out (.cells #[.int .i64 x.a, .int .i64 x.m, .int .i64 x.u] 24))
      have XX := Lib.hid (Blk.newH wr [.int .i64 x.a, .int .i64 x.m, .int .i64 x.u] 24 (wr.heap.size) (by first | rfl | simp))
      obtain ⟨_, w3, hrun, A3, c3, rfl, hP3, B3⟩ := (PR.out.symm.alloc (.cells #[.int .i64 x.a, .int .i64 x.m, .int .i64 x.u] 24)).push (ext_alloc E.out _) (x := x) (slc_litH (wr.alloc (.cells #[.int .i64 x.a, .int .i64 x.m, .int .i64 x.u] 24)) [x] _ 24 (enc := Cr.cells) (sz := 3) (fun _ => rfl) rfl (wr.heap.size + 1) (by first | rfl | simp)) (by have := HKL.out; omega)
      have HRUN := Lib.hid hrun
      have HP3 := Lib.hid hP3
      clear hrun hP3
      go_wp2_with (first | (at_builtin; refine wpList_append_run rfl (.tmp 22) (.tmp 24) 22 rfl (.slice B m d) (.slice (some ⟨wr.heap.size + 1, 0, none⟩) 1 1) rfl rfl HRUN.out ?_) | fail)
      replace SL := Lib.hid ((ha0.out.ext B3))
      go_roundw
      case rel => exact ⟨k + 1, A, n, c, A3, m + 1, c3, by omega, by go_num, rfl, rfl, (by rw [HKY.out.1, HKY.out.2]; exact HP3.out.symm), SL.out, B3⟩
      case measure => simp [intOf]; omega
theorem expire_at {now : Int} {A : Option Addr} {c n : Nat} {l : List Cr} {w : World} (X G : List Cr) (hX : keepC now l = X) (hG : goneC now l = G) (hl : n = l.length) (ha : Slc w Cr.cells 3 A l) (hn : l.length ≤ 1000) : Calls Try.prog 13 #[.slice A n c, .int .i64 now] w (LlR w X G) := by
  subst hX hG hl; exact expire_any now A c l w ha hn
set_option maxHeartbeats 1600000 in
set_option maxRecDepth 100000 in
theorem rexpire_any (now : Int) (A0 : Option Addr) (c0 : Nat) (l : List Cr) (w : World) (ha : Slc w Cr.cells 3 A0 l) (hn : l.length ≤ 1000) : Calls Try.prog 14 #[.slice A0 l.length c0, .int .i64 now] w (LlR w (keepC now l) (goneC now l)) := by
  have ha0 := Lib.hid ha
  have E := Lib.hid (ext_refl w)
  have SL := Lib.hid (ha)
  clear ha
  go_enter Try.func14, Try.ntmps14
  go_wp2_with fail
  replace E := Lib.hid (ext_alloc (ext_alloc E.out (.cells #[] 24)) (.cells #[] 24))
  replace SL := Lib.hid ((SL.out.alloc (.cells #[] 24)).alloc (.cells #[] 24))
  go_loopw [6, 7, 8] (fun p q i wr => ∃ (k : Nat) (A : Option Addr) (n c : Nat) (B : Option Addr) (m d : Nat), k ≤ l.length ∧ i = .int .i64 k ∧ p = .slice A n c ∧ q = .slice B m d ∧ Hid (Pair w wr A n c B m d (keepC now (l.take k)) (goneC now (l.take k))) ∧ Hid (Slc wr Cr.cells 3 A0 l) ∧ Hid (Below w.heap.size w wr)) (fun p q i _ => l.length - (intOf i).toNat)
  case atStart => exact ⟨0, some ⟨w.heap.size, 0, none⟩, 0, 0, some ⟨w.heap.size + 1, 0, none⟩, 0, 0, Nat.zero_le _, rfl, rfl, rfl, (⟨(Own.madeH w w.heap.size 24 Cr.cells 3 (Nat.le_refl _) w.heap.size rfl).alloc _, Own.madeH _ w.heap.size 24 Cr.cells 3 (by simp) (w.heap.size + 1) (by simp), (fun g e1 e2 => by simp [Value.ownBlock] at e1 e2; omega), rfl, rfl⟩ : Pair w _ _ 0 0 _ 0 0 [] []), SL.out, E.out⟩
  clear E SL
  case round =>
    obtain ⟨k, A, n, c, B, m, d, hk, rfl, rfl, rfl, PR, SL, E⟩ := hrel
    by_cases hlt : k < l.length
    rotate_left
    · have hge : ¬ (k : Int) < l.length := by omega
      have HP := Lib.hid (show Pair w wr A n c B m d (keepC now l) (goneC now l) by have := PR.out; rw [List.take_of_length_le (by omega)] at this; exact this)
      go_wp2_with fail
      refine bodyPost_ret (v := .tuple #[.slice A n c, .slice B m d]) (by simp [results, Try.results14, go_sem, *]) rfl ?_
      exact HP.out.ret rfl E.out
    have hlt1 : (k : Int) < l.length := by omega
    have HKL := Lib.hid (keep_len l k now)
    obtain ⟨x, b1, o1, hxx, rfl, hb1, hd⟩ := (SL.out).at_ (k := k) hlt
    have dd0 := hd 0 _ rfl
    have dd1 := hd 1 _ rfl
    have dd2 := hd 2 _ rfl
    simp only [Nat.add_zero] at dd0
    have HX := Lib.hid hxx
    clear hd hxx
    by_cases hu : now < x.u
    · have HKY := Lib.hid (keep_yes HX.out hu)
      have hkk := HKY.out
      clear hkk
      obtain ⟨_, w3, hrun, A3, c3, rfl, hP3, B3⟩ := (PR.out.alloc (.cells #[.int .i64 x.a, .int .i64 x.m, .int .i64 x.u] 24)).push (ext_alloc E.out _) (x := x) (slc_litH wr [x] _ 24 (enc := Cr.cells) (sz := 3) (fun _ => rfl) rfl (wr.heap.size) (by first | rfl | simp)) (by have := HKL.out; omega)
      have HRUN := Lib.hid hrun
      have HP3 := Lib.hid hP3
      clear hrun hP3
      go_wp2_with (first | (at_builtin; refine wpList_append_run rfl (.tmp 24) (.tmp 29) 22 rfl (.slice A n c) (.slice (some ⟨wr.heap.size, 0, none⟩) 1 1) rfl rfl HRUN.out ?_) | fail)
      replace SL := Lib.hid ((ha0.out.ext B3))
      go_roundw
      case rel => exact ⟨k + 1, A3, n + 1, c3, B, m, d, by omega, by go_num, rfl, rfl, (by rw [HKY.out.1, HKY.out.2]; exact HP3.out), SL.out, B3⟩
      case measure => simp [intOf]; omega
    · have HKY := Lib.hid (keep_no HX.out hu)
      have hkk := HKY.out
      clear hkk
      obtain ⟨_, w3, hrun, A3, c3, rfl, hP3, B3⟩ := (PR.out.symm.alloc (.cells #[.int .i64 x.a, .int .i64 x.m, .int .i64 x.u] 24)).push (ext_alloc E.out _) (x := x) (slc_litH wr [x] _ 24 (enc := Cr.cells) (sz := 3) (fun _ => rfl) rfl (wr.heap.size) (by first | rfl | simp)) (by have := HKL.out; omega)
      have HRUN := Lib.hid hrun
      have HP3 := Lib.hid hP3
      clear hrun hP3
      go_wp2_with (first | (at_builtin; refine wpList_append_run rfl (.tmp 31) (.tmp 36) 22 rfl (.slice B m d) (.slice (some ⟨wr.heap.size, 0, none⟩) 1 1) rfl rfl HRUN.out ?_) | fail)
      replace SL := Lib.hid ((ha0.out.ext B3))
      go_roundw
      case rel => exact ⟨k + 1, A, n, c, A3, m + 1, c3, by omega, by go_num, rfl, rfl, (by rw [HKY.out.1, HKY.out.2]; exact HP3.out.symm), SL.out, B3⟩
      case measure => simp [intOf]; omega
theorem rexpire_at {now : Int} {A : Option Addr} {c n : Nat} {l : List Cr} {w : World} (X G : List Cr) (hX : keepC now l = X) (hG : goneC now l = G) (hl : n = l.length) (ha : Slc w Cr.cells 3 A l) (hn : l.length ≤ 1000) : Calls Try.prog 14 #[.slice A n c, .int .i64 now] w (LlR w X G) := by
  subst hX hG hl; exact rexpire_any now A c l w ha hn
end Go.Proofs.Ytafglcalimcdcaa
