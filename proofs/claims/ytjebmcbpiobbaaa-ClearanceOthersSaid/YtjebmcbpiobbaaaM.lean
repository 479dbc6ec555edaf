import Derived.Test.YtjebmcbpiobbaaaJ
import Derived.Test.YtjebmcbpiobbaaaK
namespace Go.Proofs.Ytjebmcbpiobbaaa
open Go.RowKit

/-- Is number no that of a clearance in force of a valid list? -/
def inForceNo (l : List Clr) (no : Int) : Bool := chk l && decide (0 ≤ no) && decide (no < l.length) && !((l[no.toNat]?.map Clr.wd).getD true)

theorem inForceNo_eq {l : List Clr} {k : Nat} {x : Clr} (h1 : chk l = true) (hx : l[k]? = some x) : inForceNo l k = !x.wd := by
  obtain ⟨hk, rfl⟩ := List.getElem?_eq_some_iff.1 hx
  simp [inForceNo, h1, hk]
set_option maxHeartbeats 400000 in
theorem rinForceNo_any (A : Option Addr) (c : Nat) (l : List Clr) (no : Int) (w : World) (ha : Slc w Clr.cells 9 A l) (hn : l.length < 1000000) :
    Calls Try.prog 31 #[.slice A l.length c, .int .i64 no] w fun e w' => e = .returned (.bool (inForceNo l no)) ∧ Below w.heap.size w w' := by
  cases h1 : chk l
  · go_enter Try.func31, Try.ntmps31
    go_wp2_with fail
    refine (rcheck_any A c l _ ha (by omega)).mono ?_
    rintro e w1 ⟨rfl, hB1⟩
    have he : chkE l = 340 := by simp [chkE, h1]
    go_wp2_with fail
    go_ret
    exact ⟨ret_bool (by simp [inForceNo, h1]), hB1⟩
  · by_cases ho : no < 0 ∨ (l.length : Int) ≤ no
    · rcases ho with ho | ho
      all_goals
        go_enter Try.func31, Try.ntmps31
        go_wp2_with fail
        refine (rcheck_any A c l _ ha (by omega)).mono ?_
        rintro e w1 ⟨rfl, hB1⟩
        have he : chkE l = 0 := by simp [chkE, h1]
        go_wp2_with fail
        go_ret
        exact ⟨ret_bool (by simp [inForceNo] <;> omega), hB1⟩
    · obtain ⟨k, rfl⟩ : ∃ k : Nat, no = k := ⟨no.toNat, by omega⟩
      have hlt : k < l.length := by omega
      have hlt' : (k : Int) < l.length := by omega
      clear ho
      obtain ⟨x, b1, o1, hx, rfl, hb1, hc⟩ := ha.at_ hlt
      have HC := Lib.hid hc
      have HX := Lib.hid (inForceNo_eq h1 hx)
      clear hx hc
      go_enter Try.func31, Try.ntmps31
      go_wp2_with fail
      refine (rcheck_any _ c l _ ha (by omega)).mono ?_
      rintro e w1 ⟨rfl, hB1⟩
      have he : chkE l = 0 := by simp [chkE, h1]
      have c8 := (hB1.cell (p := ⟨b1, o1 + k * 9 + 8, none⟩) hb1).trans (HC.out 8 _ rfl)
      go_wp2_with fail
      go_ret
      exact ⟨ret_bool HX.out.symm, hB1⟩

theorem read_eq (l : List Clr) (no : Int) : read l no = if inForceNo l no then (l.set no.toNat ((l.getD no.toNat zeroC |> rdG).1), 0) else ([], 340) := by
  unfold read inForceNo
  cases h1 : chk l
  · simp [change_bad h1]
  · by_cases ho : no < 0 ∨ (l.length : Int) ≤ no
    · rw [change_out ho, if_neg]
      simp; omega
    · obtain ⟨k, rfl⟩ : ∃ k : Nat, no = k := ⟨no.toNat, by omega⟩
      have hlt : k < l.length := by omega
      have hx : l[k]? = some l[k] := List.getElem?_eq_getElem hlt
      rw [change_in h1 hx]
      cases hw : l[k].wd <;> simp [hlt, hw, rdG]
theorem withdraw_eq (l : List Clr) (no : Int) : withdraw l no = if inForceNo l no then (if (l.getD no.toNat zeroC).rd then ([], 341) else (l.set no.toNat ({ (l.getD no.toNat zeroC) with wd := true }), 0)) else ([], 340) := by
  unfold withdraw inForceNo
  cases h1 : chk l
  · simp [change_bad h1]
  · by_cases ho : no < 0 ∨ (l.length : Int) ≤ no
    · rw [change_out ho, if_neg]
      simp; omega
    · obtain ⟨k, rfl⟩ : ∃ k : Nat, no = k := ⟨no.toNat, by omega⟩
      have hlt : k < l.length := by omega
      have hx : l[k]? = some l[k] := List.getElem?_eq_getElem hlt
      rw [change_in h1 hx]
      cases hw : l[k].wd <;> cases hr : l[k].rd <;> simp [hlt, hw, hr, wdG]
theorem inForceNo_at {l : List Clr} {no : Int} (h : inForceNo l no = true) : ∃ k : Nat, no = k ∧ k < l.length := by
  simp [inForceNo] at h
  exact ⟨no.toNat, by omega, by omega⟩

theorem read_in {l : List Clr} {k : Nat} {x : Clr} (h1 : inForceNo l k = true) (hx : l[k]? = some x) : read l k = (l.set k { x with rd := true }, 0) := by
  obtain ⟨hk, rfl⟩ := List.getElem?_eq_some_iff.1 hx
  rw [read_eq, h1]; simp [rdG, hx]
theorem withdraw_in {l : List Clr} {k : Nat} {x : Clr} (h1 : inForceNo l k = true) (hx : l[k]? = some x) : withdraw l k = if x.rd then ([], 341) else (l.set k { x with wd := true }, 0) := by
  obtain ⟨hk, rfl⟩ := List.getElem?_eq_some_iff.1 hx
  rw [withdraw_eq, h1]; simp [hx]
theorem own_some {w : World} {base : Nat} {e : TypeId} {size : Nat} {v : Value} {n : Nat} {xs : List Value} (h : w.ownsRow base e size v n xs) (hn : 0 < n) :
    ∃ g cap cur, v = .slice (some ⟨g, 0, none⟩) n cap ∧ n ≤ cap ∧ base ≤ g ∧ w.heap[g]? = some (.cells cur e (0, 0)) := by
  rcases h.2 with ⟨_, h0⟩ | ⟨g, cap, cur, hv, hb, hg, hc, _⟩
  · omega
  · exact ⟨g, cap, cur, hv, hc, hb, hg⟩
theorem own_cell {α : Type} {w : World} {enc : α → List Value} {sz g : Nat} {l : List α} {k : Nat} {x : α} (h : Slc w enc sz (some ⟨g, 0, none⟩) l) (hx : l[k]? = some x) (j : Nat) (v : Value) (hv : (enc x)[j]? = some v) : w.cell? ⟨g, k * sz + j, none⟩ = some v := by
  obtain ⟨b, o, e, _, hc⟩ := h k x hx
  injection e with e; injection e with e1 e2; subst e1 e2
  have := hc j v hv
  rwa [Nat.zero_add] at this
set_option maxHeartbeats 400000 in
theorem rread_any (A : Option Addr) (c : Nat) (l : List Clr) (no : Int) (w : World) (ha : Slc w Clr.cells 9 A l) (hn : l.length < 1000000) :
    Calls Try.prog 20 #[.slice A l.length c, .int .i64 no] w (RetL w (read l no)) := by
  obtain ⟨i0, hi, hz0, hz1, hz2⟩ := info_parts info31
  cases h1 : inForceNo l no
  · go_enter Try.func20, Try.ntmps20
    go_wp2_with fail
    refine (rinForceNo_any A c l no _ ha (by omega)).mono ?_
    rintro e w1 ⟨rfl, hB1⟩
    go_wp2_with fail
    go_ret2
    rw [read_eq, h1]
    exact RetL.nil_ _ _ _ hB1
  · obtain ⟨k, rfl, hlt⟩ := inForceNo_at h1
    have hlt' : (k : Int) < l.length := by omega
    obtain ⟨x, b1, o1, hx, rfl, hb1, hcx⟩ := ha.at_ hlt
    have HCX := Lib.hid hcx
    have HX := Lib.hid hx
    have HR0 := Lib.hid (read_in h1 hx)
    clear hx hcx
    have HR := HR0
    go_enter Try.func20, Try.ntmps20
    go_wp2_with fail
    refine (rinForceNo_any _ c l k _ ha (by omega)).mono ?_
    rintro e w1 ⟨rfl, hB1⟩
    have ha1 := ha.ext hB1
    have c7 := (hB1.cell (p := ⟨b1, o1 + k * 9 + 7, none⟩) hb1).trans (HCX.out 7 _ rfl)
    clear ha
    go_wp2_with (at_builtin; refine wpList_append_own _ rfl _ _ 22 rfl w1.heap.size 31 i0 _ 9 64 Try.underlying22 hi hz0 hz1 hz2 rfl (by decide) _ 0 [] rfl (World.ownsRow_made w1 #[] 0 (Nat.le_refl _) (by decide) rfl) ⟨b1, o1, none⟩ l.length c (l.flatMap Clr.cells) rfl (flat_len clr_len l) ((ha1.alloc _).olds clr_len ⟨b1, o1, none⟩ rfl) (flat_one l) (by unfold maxLen; omega) (by omega) (by simp) ?_; intro v' w2 hown hgrow _; obtain ⟨g, c2, cur, rfl, hcap, hbg, hcur⟩ := own_some hown (by omega); have hfz : ∀ j, w2.frozen? ⟨g, j, none⟩ = false := (by intro j; simp [World.frozen?, hcur]); have hS2 : Slc w2 Clr.cells 9 (some ⟨g, 0, none⟩) l := Slc.of_own (n := 0 + l.length) clr_len (by decide) (by simpa using hown); have hcw := own_cell hS2 HX.out 7 _ rfl)
    go_ret2
    rw [HR.out]
    have hB2 : Below w.heap.size w w2 := (ext_alloc hB1 _).grown hgrow (by have := hB1.size; simp; omega) (fun j e => by cases e; exact hB1.size)
    have hS3 := Slc.set_ clr_len hS2 HX.out (y := { x with rd := true }) (r := 7) (v := .bool true) (by decide) rfl
    simp only [Nat.zero_add] at hS3
    exact ⟨some ⟨g, 0, none⟩, c2, by simp, hS3, by simpa using hcap, hB2.setCell (p := ⟨g, _, none⟩) (Nat.le_trans hB1.size hbg) _⟩
set_option maxHeartbeats 400000 in
theorem rwithdraw_any (A : Option Addr) (c : Nat) (l : List Clr) (no : Int) (w : World) (ha : Slc w Clr.cells 9 A l) (hn : l.length < 1000000) :
    Calls Try.prog 22 #[.slice A l.length c, .int .i64 no] w (RetL w (withdraw l no)) := by
  obtain ⟨i0, hi, hz0, hz1, hz2⟩ := info_parts info31
  cases h1 : inForceNo l no
  · go_enter Try.func22, Try.ntmps22
    go_wp2_with fail
    refine (rinForceNo_any A c l no _ ha (by omega)).mono ?_
    rintro e w1 ⟨rfl, hB1⟩
    go_wp2_with fail
    go_ret2
    rw [withdraw_eq, h1]
    exact RetL.nil_ _ _ _ hB1
  · obtain ⟨k, rfl, hlt⟩ := inForceNo_at h1
    have hlt' : (k : Int) < l.length := by omega
    obtain ⟨x, b1, o1, hx, rfl, hb1, hcx⟩ := ha.at_ hlt
    have HCX := Lib.hid hcx
    have HX := Lib.hid hx
    have HR0 := Lib.hid (withdraw_in h1 hx)
    clear hx hcx
    cases hr : x.rd
    rotate_left
    · go_enter Try.func22, Try.ntmps22
      go_wp2_with fail
      refine (rinForceNo_any _ c l k _ ha (by omega)).mono ?_
      rintro e w1 ⟨rfl, hB1⟩
      have c7 := (hB1.cell (p := ⟨b1, o1 + k * 9 + 7, none⟩) hb1).trans (HCX.out 7 _ rfl)
      go_wp2_with fail
      go_ret2
      rw [HR0.out, hr]
      exact RetL.nil_ _ _ _ hB1
    have HR : Hid (withdraw l k = (l.set k { x with wd := true }, 0)) := by rw [HR0.out, hr]; rfl
    go_enter Try.func22, Try.ntmps22
    go_wp2_with fail
    refine (rinForceNo_any _ c l k _ ha (by omega)).mono ?_
    rintro e w1 ⟨rfl, hB1⟩
    have ha1 := ha.ext hB1
    have c7 := (hB1.cell (p := ⟨b1, o1 + k * 9 + 7, none⟩) hb1).trans (HCX.out 7 _ rfl)
    clear ha
    go_wp2_with (at_builtin; refine wpList_append_own _ rfl _ _ 22 rfl w1.heap.size 31 i0 _ 9 64 Try.underlying22 hi hz0 hz1 hz2 rfl (by decide) _ 0 [] rfl (World.ownsRow_made w1 #[] 0 (Nat.le_refl _) (by decide) rfl) ⟨b1, o1, none⟩ l.length c (l.flatMap Clr.cells) rfl (flat_len clr_len l) ((ha1.alloc _).olds clr_len ⟨b1, o1, none⟩ rfl) (flat_one l) (by unfold maxLen; omega) (by omega) (by simp) ?_; intro v' w2 hown hgrow _; obtain ⟨g, c2, cur, rfl, hcap, hbg, hcur⟩ := own_some hown (by omega); have hfz : ∀ j, w2.frozen? ⟨g, j, none⟩ = false := (by intro j; simp [World.frozen?, hcur]); have hS2 : Slc w2 Clr.cells 9 (some ⟨g, 0, none⟩) l := Slc.of_own (n := 0 + l.length) clr_len (by decide) (by simpa using hown); have hcw := own_cell hS2 HX.out 8 _ rfl)
    go_ret2
    rw [HR.out]
    have hB2 : Below w.heap.size w w2 := (ext_alloc hB1 _).grown hgrow (by have := hB1.size; simp; omega) (fun j e => by cases e; exact hB1.size)
    have hS3 := Slc.set_ clr_len hS2 HX.out (y := { x with wd := true }) (r := 8) (v := .bool true) (by decide) rfl
    simp only [Nat.zero_add] at hS3
    exact ⟨some ⟨g, 0, none⟩, c2, by simp, hS3, by simpa using hcap, hB2.setCell (p := ⟨g, _, none⟩) (Nat.le_trans hB1.size hbg) _⟩
end Go.Proofs.Ytjebmcbpiobbaaa
