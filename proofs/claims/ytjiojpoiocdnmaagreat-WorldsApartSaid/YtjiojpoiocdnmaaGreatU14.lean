/- The stays on a valid path: plain. -/
import Derived.Test.YtjiojpoiocdnmaaGreatNE
import Derived.Test.YtjiojpoiocdnmaaGreatU9
import Derived.Test.YtjiojpoiocdnmaaGreatU3
import Derived.Test.YtjiojpoiocdnmaaGreatU7
set_option linter.unusedSimpArgs false
set_option linter.unusedVariables false
namespace Go.Proofs.YtjiojpoiocdnmaaGreat
open Go.RowKit
/-- The i-th time on a path, the volume of a way's i-th leg. -/
def tim (p : Pth) (i : Nat) : Int := (p.ts.l[i]?).getD 0
def lvol (x : Wy) (i : Nat) : Int := ((x.legs.l[i]?).map (·.vol)).getD 0
def legStay (p : Pth) (x : Wy) (i : Nat) : Sty := ⟨false, lvol x i, ⟨tim p i, tim p (i + 1)⟩⟩
def staysN (p : Pth) (x : Wy) (k : Nat) : List Sty := ⟨true, x.f, ⟨tim p 0, tim p 0 + 1⟩⟩ :: (List.range k).map (legStay p x)
def staysX (p : Pth) (x : Wy) : List Sty := staysN p x x.legs.l.length ++ [⟨true, x.t, ⟨tim p x.legs.l.length, tim p x.legs.l.length + 1⟩⟩]
def staysL (t : Tab) (p : Pth) : List Sty := match t.ws.l[p.way.toNat]? with | some x => staysX p x | none => []
theorem staysN_len (p : Pth) (x : Wy) (k : Nat) : (staysN p x k).length = k + 1 := by simp [staysN]
theorem styc_len (x : Sty) : x.cells.length = 4 := rfl
theorem sty_info : (Tryz.prog.info? 113).map (fun i => (i.zero, i.size, i.bytes)) = some (some (.agg #[.bool false, .int .i64 0, .int .i64 0, .int .i64 0]), 4, 32) := by kernel_rfl
theorem styI : EInfo Tryz.prog 95 113 Sty.cells 4 32 := by
  obtain ⟨i, h1, h2, h3, h4⟩ := iparts sty_info
  exact ⟨Tryz.underlying95, ⟨i, _, h1, h2, h3, h4, rfl⟩, by decide, fun _ => rfl, fun x u hu => by simp [Sty.cells] at hu; rcases hu with rfl | rfl | rfl | rfl <;> rfl⟩
theorem risB_rng {n : Int} : ∀ {l : List Int} {last : Int}, risB n last l = true → ∀ v ∈ l, last < v ∧ v < n
  | a :: r, last, h, v, hv => by
    simp only [risB, Bool.and_eq_true, decide_eq_true_eq] at h
    rcases List.mem_cons.1 hv with rfl | hv
    · exact h.1
    · have := risB_rng h.2 v hv
      omega
structure PathOk (t : Tab) (p : Pth) (x : Wy) : Prop where
  w0 : 0 ≤ p.way
  w1 : p.way < (t.ws.l.length : Int)
  at_ : t.ws.l[p.way.toNat]? = some x
  len : p.ts.l.length = x.legs.l.length + 1
  tm : ∀ v ∈ p.ts.l, 0 ≤ v ∧ v ≤ 65535
theorem path_ok {t : Tab} {p : Pth} (h : pathB t p = true) : ∃ x, PathOk t p x := by
  unfold pathB at h
  simp only [Bool.and_eq_true, decide_eq_true_eq] at h
  obtain ⟨⟨⟨h1, h2⟩, h3⟩, h4⟩ := h
  have hx := List.getElem?_eq_getElem (show p.way.toNat < t.ws.l.length by omega)
  rw [hx] at h3
  exact ⟨_, h1, h2, hx, h3, fun v hv => by have := risB_rng h4 v hv; omega⟩
theorem PathOk.tim {t : Tab} {p : Pth} {x : Wy} (h : PathOk t p x) (i : Nat) : 0 ≤ tim p i ∧ tim p i ≤ 65535 := by
  unfold Go.Proofs.YtjiojpoiocdnmaaGreat.tim
  cases hq : p.ts.l[i]? with
  | none => simp
  | some v => exact h.tm v (List.mem_of_getElem? hq)
theorem tim_at {p : Pth} {i : Nat} {v : Int} (h : p.ts.l[i]? = some v) : tim p i = v := by unfold tim; rw [h]; rfl
def StaysR (w : World) (L : List Sty) (e : Ending) (w' : World) : Prop := ∃ A c, e = .returned (.slice A L.length c) ∧ Own w' w.heap.size 113 Sty.cells 4 (.slice A L.length c) L ∧ Below w.heap.size w w'
end Go.Proofs.YtjiojpoiocdnmaaGreat
/- Does a flight fly? The wrong reports of a group. -/
set_option linter.unusedSimpArgs false
set_option linter.unusedVariables false
namespace Go.Proofs.YtjiojpoiocdnmaaGreat
open Go.RowKit
set_option maxHeartbeats 400000 in
theorem indexSty (g : Nat) (cap1 : Value) (cap2 : Value) (p : Sty → Bool) (A : Option Addr) (c : Nat) (l : List (Sty)) (w : World) (ha : Slc w Sty.cells 4 A l) (hn : l.length ≤ maxLen) (hE : Enters Tryz.prog g)
    (hp : ∀ (x : Sty) (W : World), x ∈ l → Below w.heap.size w W → Calls Tryz.prog g #[x.v, cap1, cap2] W fun e W' => e = .returned (.bool (p x)) ∧ Below W.heap.size W W') :
    Calls Tryz.prog 114 #[.slice A l.length c, .func (.func g) #[] #[cap1, cap2]] w fun e w' => e = .returned (.int .i64 (idxGo p 0 l)) ∧ Below w.heap.size w w' := by
  have HP := Lib.hid hp
  have HE := Lib.hid hE
  clear hp hE
  unfold maxLen at hn
  go_enter Tryz.func114, Tryz.ntmps114
  go_wp2
  go_loopw [8] (fun i wr => ∃ k : Nat, k ≤ l.length ∧ i = .int .i64 k ∧ idxGo p 0 l = idxGo p k (l.drop k) ∧ Below w.heap.size w wr) (fun i _ => l.length - (intOf i).toNat)
  case atStart => exact ⟨0, Nat.zero_le _, rfl, rfl, ext_refl _⟩
  case round =>
    obtain ⟨k, hk, rfl, heq, hB⟩ := hrel
    have HQ := Lib.hid heq
    clear heq
    by_cases hlt : k < l.length
    · obtain ⟨x, b1, o1, hx, rfl, hb1, hc⟩ := (ha.ext hB).at_ hlt
      have HX := Lib.hid hx
      clear hx
      have c0 := hc 0 _ rfl
      have c1 := hc 1 _ rfl
      have c2 := hc 2 _ rfl
      have c3 := hc 3 _ rfl
      simp only [Nat.mul_one, Nat.add_zero] at c0 c1 c2 c3
      clear hc
      have hlt' : (k : Int) < l.length := by omega
      have hE2 := HE.out #[x.v, cap1, cap2] wr
      cases hpx : p x
      · go_wp2_with fail
        refine (HP.out x wr (List.mem_of_getElem? HX.out) hB).mono ?_
        rintro e w1 ⟨rfl, hB1⟩
        clear hE2
        go_wp2_with fail
        go_roundw
        case rel => exact ⟨k + 1, hlt, by go_num, idx_step HX.out hpx HQ.out, ext_trans hB hB1⟩
        case measure => simp [intOf]; omega
      · go_wp2_with fail
        refine (HP.out x wr (List.mem_of_getElem? HX.out) hB).mono ?_
        rintro e w1 ⟨rfl, hB1⟩
        clear hE2
        go_wp2_with fail
        go_ret
        exact ⟨ret_int (idx_hit HX.out hpx HQ.out).symm, ext_trans hB hB1⟩
    · go_wp2_with fail
      go_ret
      exact ⟨ret_int (idx_end (by omega) HQ.out).symm, hB⟩
theorem containsSty (g : Nat) (cap1 : Value) (cap2 : Value) (p : Sty → Bool) (A : Option Addr) (c : Nat) (l : List (Sty)) (w : World) (ha : Slc w Sty.cells 4 A l) (hn : l.length ≤ maxLen) (hE : Enters Tryz.prog g)
    (hp : ∀ (x : Sty) (W : World), x ∈ l → Below w.heap.size w W → Calls Tryz.prog g #[x.v, cap1, cap2] W fun e W' => e = .returned (.bool (p x)) ∧ Below W.heap.size W W') :
    Calls Tryz.prog 82 #[.slice A l.length c, .func (.func g) #[] #[cap1, cap2]] w fun e w' => e = .returned (.bool (l.any p)) ∧ Below w.heap.size w w' := by
  have HP := Lib.hid hp
  have HE := Lib.hid hE
  clear hp hE
  go_enter Tryz.func82, Tryz.ntmps82
  go_wp2_with fail
  refine (indexSty g cap1 cap2 p A c l _ ha hn HE.out HP.out).mono ?_
  rintro e w1 ⟨rfl, hB1⟩
  go_wp2_with fail
  go_ret
  exact ⟨ret_bool (idx_any p l), hB1⟩

theorem entersFl : Enters Tryz.prog 83 := fun args w => by kernel_rfl
set_option maxRecDepth 100000 in
theorem fl1_any (x : Sty) (vol mi : Int) (b1 b2 : Nat) (w : World) (h1 : Blk w b1 [.int .i64 vol]) (h2 : Blk w b2 [.int .i64 mi]) :
    Calls Tryz.prog 83 #[x.v, .pointer (some ⟨b1, 0, none⟩), .pointer (some ⟨b2, 0, none⟩)] w fun e w' => e = .returned (.bool (inV x vol mi)) ∧ Below w.heap.size w w' := by
  obtain ⟨R, hR⟩ : ∃ R, inV x vol mi = R := ⟨_, rfl⟩
  rw [hR]
  have HR := Lib.hid (show (!x.air && decide (x.ix = vol) && decide (x.mi.f ≤ mi) && decide (mi < x.mi.t)) = R from hR)
  have g1 := (h1.alloc (.cells #[.bool x.air, .int .i64 x.ix, .int .i64 x.mi.f, .int .i64 x.mi.t] 113)).c 0 _ rfl
  have g2 := (h2.alloc (.cells #[.bool x.air, .int .i64 x.ix, .int .i64 x.mi.f, .int .i64 x.mi.t] 113)).c 0 _ rfl
  have l1 := h1.lt
  have l2 := h2.lt
  clear hR h1 h2
  go_enter Tryz.func83, Tryz.ntmps83
  cases ha : x.air
  rotate_left
  · have HF : Hid (R = false) := by unfold Hid; rw [← HR.out, ha]; rfl
    rw [ha] at g1 g2
    clear HR
    go_wp2_with fail
    all_goals
      go_ret
      rw [HF.out]
      exact ⟨rfl, ext_alloc (ext_refl _) _⟩
  rw [ha] at g1 g2
  have HR' : Hid ((decide (x.ix = vol) && decide (x.mi.f ≤ mi) && decide (mi < x.mi.t)) = R) := by unfold Hid; rw [← HR.out, ha]; rfl
  clear HR
  by_cases e1 : x.ix = vol
  rotate_left
  · have HF : Hid (R = false) := by unfold Hid; rw [← HR'.out, decide_eq_false e1]; rfl
    have d1 : (x.ix == vol) = false := by simpa using e1
    clear HR'
    go_wp2_with fail
    all_goals
      go_ret
      rw [HF.out]
      exact ⟨rfl, ext_alloc (ext_refl _) _⟩
  have HR2 : Hid ((decide (x.mi.f ≤ mi) && decide (mi < x.mi.t)) = R) := by unfold Hid; rw [← HR'.out, decide_eq_true e1]; rfl
  subst e1
  clear HR'
  by_cases e2 : x.mi.f ≤ mi
  rotate_left
  · have HF : Hid (R = false) := by unfold Hid; rw [← HR2.out, decide_eq_false e2]; rfl
    clear HR2
    go_wp2_with fail
    all_goals
      go_ret
      rw [HF.out]
      exact ⟨rfl, ext_alloc (ext_refl _) _⟩
  have HR3 : Hid (decide (mi < x.mi.t) = R) := by unfold Hid; rw [← HR2.out, decide_eq_true e2]; rfl
  clear HR2
  by_cases e3 : mi < x.mi.t
  · have HF : Hid (R = true) := by unfold Hid; rw [← HR3.out, decide_eq_true e3]
    clear HR3
    go_wp2_with fail
    all_goals
      go_ret
      rw [HF.out]
      exact ⟨rfl, ext_alloc (ext_refl _) _⟩
  · have HF : Hid (R = false) := by unfold Hid; rw [← HR3.out, decide_eq_false e3]
    clear HR3
    go_wp2_with fail
    all_goals
      go_ret
      rw [HF.out]
      exact ⟨rfl, ext_alloc (ext_refl _) _⟩
theorem flies_any (A : Option Addr) (c : Nat) (l : List Sty) (vol mi : Int) (w : World) (ha : Slc w Sty.cells 4 A l) (hn : l.length ≤ maxLen) : Calls Tryz.prog 53 #[.slice A l.length c, .int .i64 vol, .int .i64 mi] w (RetB w (fliesB l vol mi)) := by
  have E0 := Lib.hid (ext_alloc (ext_alloc (ext_refl w) (.cells #[.int .i64 vol] 3)) (.cells #[.int .i64 mi] 3))
  have B1 := Lib.hid ((Blk.newH w [.int .i64 vol] 3 w.heap.size rfl).alloc (.cells #[.int .i64 mi] 3))
  have B2 := Lib.hid (Blk.newH (w.alloc (.cells #[.int .i64 vol] 3)) [.int .i64 mi] 3 (w.heap.size + 1) (by simp))
  have HA := Lib.hid ha
  clear ha
  go_enter Tryz.func53, Tryz.ntmps53
  go_wp2_with fail
  refine (containsSty 83 (.pointer (some ⟨w.heap.size, 0, none⟩)) (.pointer (some ⟨w.heap.size + 1, 0, none⟩)) (fun x => inV x vol mi) A c l _ (HA.out.below (Nat.le_refl _) E0.out) hn entersFl (fun x W _ hW => fl1_any x vol mi w.heap.size (w.heap.size + 1) W (B1.out.ext hW) (B2.out.ext hW))).mono ?_
  rintro e w1 ⟨rfl, B⟩
  go_wp2_with fail
  go_ret
  exact ⟨rfl, ext_trans E0.out B⟩
end Go.Proofs.YtjiojpoiocdnmaaGreat
