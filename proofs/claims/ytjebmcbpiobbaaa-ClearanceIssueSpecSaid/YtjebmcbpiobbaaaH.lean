import Derived.Test.YtjebmcbpiobbaaaG
namespace Go.Proofs.Ytjebmcbpiobbaaa
open Go.RowKit

theorem change_bad {l : List Clr} {no : Int} {g : Clr → Clr × Int} (h : chk l = false) : change l no g = ([], 340) := by simp [change, h]
theorem change_out {l : List Clr} {no : Int} {g : Clr → Clr × Int} (h : no < 0 ∨ (l.length : Int) ≤ no) : change l no g = ([], 340) := by
  unfold change
  have : (if 0 ≤ no then l[no.toNat]? else none) = none := by
    split
    · exact List.getElem?_eq_none (by omega)
    · rfl
  simp [this]
theorem change_in {l : List Clr} {k : Nat} {x : Clr} {g : Clr → Clr × Int} (h : chk l = true) (hx : l[k]? = some x) :
    change l k g = if x.wd then ([], 340) else if (g x).2 = 0 then (l.set k (g x).1, 0) else ([], (g x).2) := by
  unfold change
  simp [h, hx]

/-- A call of function g enters it. -/
def Enters (P : Program) (g : Nat) : Prop := ∀ (args : Array Value) (w : World), (callFunc g args).run P w = .ok (.enter g args) w
theorem enters30 : Enters Try.prog 30 := fun args w => by kernel_rfl
theorem enters32 : Enters Try.prog 32 := fun args w => by kernel_rfl

set_option maxHeartbeats 800000 in
theorem change_any (g : Nat) (G : Clr → Clr × Int) (hG : Acts g G) (hE : Enters Try.prog g) (A : Option Addr) (c : Nat) (l : List Clr) (no : Int) (w : World) (ha : Slc w Clr.cells 9 A l) (hn : l.length < 1000000) :
    Calls Try.prog 29 #[.slice A l.length c, .int .i64 no, .func (.func g) #[] #[]] w (RetL w (change l no G)) := by
  have HG := Lib.hid hG
  have HE := Lib.hid hE
  clear hG hE
  cases h1 : chk l
  · go_enter Try.func29, Try.ntmps29
    go_wp2_with (go_at_call 17; refine (check_any A c l _ ha (by omega)).mono ?_; rintro e w1 ⟨rfl, hb1⟩; have he : chkE l = 340 := by simp [chkE, h1])
    go_ret2
    rw [change_bad h1]
    exact RetL.nil_ _ _ _ hb1
  · by_cases ho : no < 0 ∨ (l.length : Int) ≤ no
    · rcases ho with ho | ho
      all_goals
        go_enter Try.func29, Try.ntmps29
        go_wp2_with (go_at_call 17; refine (check_any A c l _ ha (by omega)).mono ?_; rintro e w1 ⟨rfl, hb1⟩; have he : chkE l = 0 := by simp [chkE, h1])
        go_ret2
        rw [change_out (by omega)]
        exact RetL.nil_ _ _ _ hb1
    · obtain ⟨k, rfl⟩ : ∃ k : Nat, no = k := ⟨no.toNat, by omega⟩
      have hlt : k < l.length := by omega
      have hlt' : (k : Int) < l.length := by omega
      clear ho
      obtain ⟨x, b1, o1, hx, rfl, hb1, hc⟩ := ha.at_ hlt
      have hch := change_in (g := G) h1 hx
      have HX := Lib.hid hx
      have HC := Lib.hid hch
      have HCC := Lib.hid hc
      clear hx hch hc
      cases hw : x.wd
      · go_enter Try.func29, Try.ntmps29
        go_wp2_with fail
        refine (check_any _ c l _ ha (by omega)).mono ?_
        rintro e w1 ⟨rfl, hB1⟩
        have he : chkE l = 0 := by simp [chkE, h1]
        have c8 := (hB1.cell (p := ⟨b1, o1 + k * 9 + 8, none⟩) hb1).trans (HCC.out 8 _ rfl)
        go_wp2_with fail
        refine (clone_any _ c l _ (ha.ext hB1) (by omega)).mono ?_
        rintro e w2 ⟨A2, c2, rfl, hS2, hc2, hnew, hB2⟩
        obtain ⟨x2, b2, o2, hx2, rfl, hb2, hcc2⟩ := hS2.at_ hlt
        obtain rfl : x = x2 := Option.some.inj (HX.out.symm.trans hx2)
        obtain ⟨hnb, rfl, cur, hcur⟩ := hnew b2 o2 none rfl
        have hfz : ∀ j, w2.frozen? ⟨b2, 0 + k * 9 + j, none⟩ = false := by
          intro j
          simp [World.frozen?, hcur]
        have HA := HG.out b2 (0 + k * 9) x w2 hcc2 hfz
        have hHA := Lib.hid HA
        clear HA hfz hcur hcc2 hx2 hnew
        have hE2 := HE.out #[.pointer (some ⟨b2, k * 9, none⟩)] w2
        go_wp2_with fail
        rw [show (⟨b2, k * 9, none⟩ : Addr) = ⟨b2, 0 + k * 9, none⟩ by simp]
        refine hHA.out.mono ?_
        rintro e w3 ⟨rfl, h30, h31⟩
        have H30 := Lib.hid h30
        have H31 := Lib.hid h31
        clear h30 h31 hE2
        have hBB : Below w.heap.size w w2 := ext_trans hB1 hB2
        by_cases hz : (G x).2 = 0
        · have hz' : ((G x).2 != 0) = false := by simp [hz]
          have HZ := Lib.hid hz
          clear hz
          obtain ⟨r, v, hr, rfl, hcells⟩ := H31.out HZ.out
          go_wp2_with fail
          go_ret2
          rw [HC.out, hw, if_neg (by simp), if_pos HZ.out]
          have hS3 := Slc.set_ clr_len hS2 HX.out hr hcells
          simp only [Nat.zero_add] at hS3
          exact ⟨some ⟨b2, 0, none⟩, c2, by simp, hS3, by simpa using hc2, hBB.setCell (p := ⟨b2, _, none⟩) (Nat.le_trans hB1.size hnb) _⟩
        · have hz' : ((G x).2 != 0) = true := by simp [hz]
          have HZ := Lib.hid hz
          clear hz
          obtain rfl := H30.out HZ.out
          go_wp2_with fail
          go_ret2
          rw [HC.out, hw, if_neg (by simp), if_neg HZ.out]
          exact RetL.nil_ _ _ _ hBB
      · go_enter Try.func29, Try.ntmps29
        go_wp2_with fail
        refine (check_any _ c l _ ha (by omega)).mono ?_
        rintro e w1 ⟨rfl, hB1⟩
        have he : chkE l = 0 := by simp [chkE, h1]
        have c8 := (hB1.cell (p := ⟨b1, o1 + k * 9 + 8, none⟩) hb1).trans (HCC.out 8 _ rfl)
        go_wp2_with fail
        go_ret2
        rw [HC.out]
        simp only [hw, if_true]
        exact RetL.nil_ _ _ _ hB1
end Go.Proofs.Ytjebmcbpiobbaaa
