/- hours.Check and speed.Check. -/
import Derived.Test.YtilocjliplmmpaaGreatA
import Derived.Test.YtilocjliplmmpaaGreatPA
set_option linter.unusedSimpArgs false
set_option linter.unusedVariables false
namespace Go.Proofs.YtilocjliplmmpaaGreat
open Go.RowKit
set_option maxHeartbeats 400000 in
theorem indexSp (g : Nat) (p : Sp → Bool) (A : Option Addr) (c : Nat) (l : List (Sp)) (w : World) (ha : Slc w Sp.cells 2 A l) (hn : l.length ≤ maxLen) (hE : Enters Tryz.prog g)
    (hp : ∀ (x : Sp) (W : World), x ∈ l → Below w.heap.size w W → Calls Tryz.prog g #[x.v] W fun e W' => e = .returned (.bool (p x)) ∧ Below W.heap.size W W') :
    Calls Tryz.prog 106 #[.slice A l.length c, .func (.func g) #[] #[]] w fun e w' => e = .returned (.int .i64 (idxGo p 0 l)) ∧ Below w.heap.size w w' := by
  have HP := Lib.hid hp
  have HE := Lib.hid hE
  clear hp hE
  unfold maxLen at hn
  go_enter Tryz.func106, Tryz.ntmps106
  go_wp2
  go_loopw [8] (fun i wr => ∃ k : Nat, k ≤ l.length ∧ i = .int .i64 k ∧ idxGo p 0 l = idxGo p k (l.drop k) ∧ Below w.heap.size w wr) (fun i _ => l.length - (intOf i).toNat)
  case atStart => exact ⟨0, Nat.zero_le _, rfl, rfl, ext_refl _⟩
  case round =>
    obtain ⟨k, hk, rfl, heq, hB⟩ := hrel
    have HQ := Lib.hid heq
    clear heq
    by_cases hlt : k < l.length
    · obtain ⟨x, b1, o1, hx, rfl, hb1, hc⟩ := (ha.ext hB).at_ hlt
      have HX := Lib.hid hx
      clear hx
      have c0 := hc 0 _ rfl
      have c1 := hc 1 _ rfl
      simp only [Nat.mul_one, Nat.add_zero] at c0 c1
      clear hc
      have hlt' : (k : Int) < l.length := by omega
      have hE2 := HE.out #[x.v] wr
      cases hpx : p x
      · go_wp2_with fail
        refine (HP.out x wr (List.mem_of_getElem? HX.out) hB).mono ?_
        rintro e w1 ⟨rfl, hB1⟩
        clear hE2
        go_wp2_with fail
        go_roundw
        case rel => exact ⟨k + 1, hlt, by go_num, idx_step HX.out hpx HQ.out, ext_trans hB hB1⟩
        case measure => simp [intOf]; omega
      · go_wp2_with fail
        refine (HP.out x wr (List.mem_of_getElem? HX.out) hB).mono ?_
        rintro e w1 ⟨rfl, hB1⟩
        clear hE2
        go_wp2_with fail
        go_ret
        exact ⟨ret_int (idx_hit HX.out hpx HQ.out).symm, ext_trans hB hB1⟩
    · go_wp2_with fail
      go_ret
      exact ⟨ret_int (idx_end (by omega) HQ.out).symm, hB⟩
theorem containsSp (g : Nat) (p : Sp → Bool) (A : Option Addr) (c : Nat) (l : List (Sp)) (w : World) (ha : Slc w Sp.cells 2 A l) (hn : l.length ≤ maxLen) (hE : Enters Tryz.prog g)
    (hp : ∀ (x : Sp) (W : World), x ∈ l → Below w.heap.size w W → Calls Tryz.prog g #[x.v] W fun e W' => e = .returned (.bool (p x)) ∧ Below W.heap.size W W') :
    Calls Tryz.prog 80 #[.slice A l.length c, .func (.func g) #[] #[]] w fun e w' => e = .returned (.bool (l.any p)) ∧ Below w.heap.size w w' := by
  have HP := Lib.hid hp
  have HE := Lib.hid hE
  clear hp hE
  go_enter Tryz.func80, Tryz.ntmps80
  go_wp2_with fail
  refine (indexSp g p A c l _ ha hn HE.out HP.out).mono ?_
  rintro e w1 ⟨rfl, hB1⟩
  go_wp2_with fail
  go_ret
  exact ⟨ret_bool (idx_any p l), hB1⟩

set_option maxHeartbeats 400000 in
theorem indexCu (g : Nat) (p : SliceOf Sp → Bool) (A : Option Addr) (c : Nat) (l : List (SliceOf Sp)) (w : World) (ha : Slc w SliceOf.enc 1 A l) (hn : l.length ≤ maxLen) (hE : Enters Tryz.prog g)
    (hp : ∀ (x : SliceOf Sp) (W : World), x ∈ l → Below w.heap.size w W → Calls Tryz.prog g #[(.slice x.A x.l.length x.c)] W fun e W' => e = .returned (.bool (p x)) ∧ Below W.heap.size W W') :
    Calls Tryz.prog 121 #[.slice A l.length c, .func (.func g) #[] #[]] w fun e w' => e = .returned (.int .i64 (idxGo p 0 l)) ∧ Below w.heap.size w w' := by
  have HP := Lib.hid hp
  have HE := Lib.hid hE
  clear hp hE
  unfold maxLen at hn
  go_enter Tryz.func121, Tryz.ntmps121
  go_wp2
  go_loopw [8] (fun i wr => ∃ k : Nat, k ≤ l.length ∧ i = .int .i64 k ∧ idxGo p 0 l = idxGo p k (l.drop k) ∧ Below w.heap.size w wr) (fun i _ => l.length - (intOf i).toNat)
  case atStart => exact ⟨0, Nat.zero_le _, rfl, rfl, ext_refl _⟩
  case round =>
    obtain ⟨k, hk, rfl, heq, hB⟩ := hrel
    have HQ := Lib.hid heq
    clear heq
    by_cases hlt : k < l.length
    · obtain ⟨x, b1, o1, hx, rfl, hb1, hc⟩ := (ha.ext hB).at_ hlt
      have HX := Lib.hid hx
      clear hx
      have c0 := hc 0 _ rfl
      simp only [Nat.mul_one, Nat.add_zero] at c0
      clear hc
      have hlt' : (k : Int) < l.length := by omega
      have hE2 := HE.out #[(.slice x.A x.l.length x.c)] wr
      cases hpx : p x
      · go_wp2_with fail
        refine (HP.out x wr (List.mem_of_getElem? HX.out) hB).mono ?_
        rintro e w1 ⟨rfl, hB1⟩
        clear hE2
        go_wp2_with fail
        go_roundw
        case rel => exact ⟨k + 1, hlt, by go_num, idx_step HX.out hpx HQ.out, ext_trans hB hB1⟩
        case measure => simp [intOf]; omega
      · go_wp2_with fail
        refine (HP.out x wr (List.mem_of_getElem? HX.out) hB).mono ?_
        rintro e w1 ⟨rfl, hB1⟩
        clear hE2
        go_wp2_with fail
        go_ret
        exact ⟨ret_int (idx_hit HX.out hpx HQ.out).symm, ext_trans hB hB1⟩
    · go_wp2_with fail
      go_ret
      exact ⟨ret_int (idx_end (by omega) HQ.out).symm, hB⟩
theorem containsCu (g : Nat) (p : SliceOf Sp → Bool) (A : Option Addr) (c : Nat) (l : List (SliceOf Sp)) (w : World) (ha : Slc w SliceOf.enc 1 A l) (hn : l.length ≤ maxLen) (hE : Enters Tryz.prog g)
    (hp : ∀ (x : SliceOf Sp) (W : World), x ∈ l → Below w.heap.size w W → Calls Tryz.prog g #[(.slice x.A x.l.length x.c)] W fun e W' => e = .returned (.bool (p x)) ∧ Below W.heap.size W W') :
    Calls Tryz.prog 109 #[.slice A l.length c, .func (.func g) #[] #[]] w fun e w' => e = .returned (.bool (l.any p)) ∧ Below w.heap.size w w' := by
  have HP := Lib.hid hp
  have HE := Lib.hid hE
  clear hp hE
  go_enter Tryz.func109, Tryz.ntmps109
  go_wp2_with fail
  refine (indexCu g p A c l _ ha hn HE.out HP.out).mono ?_
  rintro e w1 ⟨rfl, hB1⟩
  go_wp2_with fail
  go_ret
  exact ⟨ret_bool (idx_any p l), hB1⟩

theorem drop3 {l : List Int} {k : Nat} {a b c : Int} (ha : l[k]? = some a) (hb : l[k + 1]? = some b) (hc : l[k + 2]? = some c) : l.drop k = a :: b :: c :: l.drop (k + 3) := by
  obtain ⟨h0, rfl⟩ := List.getElem?_eq_some_iff.1 ha
  obtain ⟨h1, rfl⟩ := List.getElem?_eq_some_iff.1 hb
  obtain ⟨h2, rfl⟩ := List.getElem?_eq_some_iff.1 hc
  rw [List.drop_eq_getElem_cons h0, List.drop_eq_getElem_cons h1, List.drop_eq_getElem_cons h2]
theorem wit_short {l : List Int} (h : l.length ≤ 2) : wit l = true := by
  match l, h with
  | [], _ => rfl
  | [_], _ => rfl
  | [_, _], _ => rfl
set_option maxHeartbeats 800000 in
theorem within_any (A : Option Addr) (c : Nat) (l : List Int) (w : World) (ha : Slc w ic 1 A l) (hn : l.length < 1000000) :
    Calls Tryz.prog 108 #[.slice A l.length c] w fun e w' => e = .returned (.bool (wit l)) ∧ Below w.heap.size w w' := by
  go_enter Tryz.func108, Tryz.ntmps108
  go_wp2
  go_loopw [3] (fun i wr => ∃ k : Nat, k ≤ l.length ∧ i = .int .i64 k ∧ Hid (wit l = wit (l.drop k)) ∧ Below w.heap.size w wr) (fun i _ => l.length - (intOf i).toNat)
  case atStart => exact ⟨0, Nat.zero_le _, rfl, rfl, ext_refl _⟩
  case round =>
    obtain ⟨k, hk, rfl, HW, hbe⟩ := hrel
    by_cases hlt : k + 2 < l.length
    · obtain ⟨a, b1, o1, h1, rfl, hb1, hc1⟩ := (ha.ext hbe).at_ (show k < l.length by omega)
      obtain ⟨b, b2, o2, h2, e2, hb2, hc2⟩ := (ha.ext hbe).at_ (show k + 1 < l.length by omega)
      cases e2
      obtain ⟨d, b3, o3, h3, e3, hb3, hc3⟩ := (ha.ext hbe).at_ hlt
      cases e3
      have c1 := hc1 0 _ rfl
      have c2 := hc2 0 _ rfl
      have c3 := hc3 0 _ rfl
      simp only [Nat.mul_one, Nat.add_zero] at c1 c2 c3
      have HD := Lib.hid (drop3 h1 h2 h3)
      clear hc1 hc2 hc3 h1 h2 h3
      have i0 : (k : Int) < l.length := by omega
      have i1 : (k : Int) + 1 < l.length := by omega
      have i2 : (k : Int) + 2 < l.length := by omega
      have t1 : ((k : Int) + 1).toNat = k + 1 := by omega
      have t2 : ((k : Int) + 2).toNat = k + 2 := by omega
      have u1 : IntKind.i64.wrap ((k : Int) + 1) = (k : Int) + 1 := IntWalk.i64_in _ (by omega)
      have u2 : IntKind.i64.wrap ((k : Int) + 2) = (k : Int) + 2 := IntWalk.i64_in _ (by omega)
      by_cases hab : a < b
      · have hd : decide (a < b) = true := by simpa using hab
        go_wp2_with fail
        go_quiet (fail)
        go_wp2_with fail
        go_ret
        exact ⟨ret_bool (by rw [HW.out, HD.out]; simp [wit]; omega), ext_drewN hbe _⟩
      · have hd : decide (a < b) = false := by simpa using hab
        by_cases had : d < a
        · have hd2 : decide (d < a) = true := by simpa using had
          go_wp2_with fail
          go_quiet (fail)
          go_wp2_with fail
          go_ret
          exact ⟨ret_bool (by rw [HW.out, HD.out]; simp [wit]; omega), ext_drewN hbe _⟩
        · have hd2 : decide (d < a) = false := by simpa using had
          go_wp2_with fail
          go_quiet (fail)
          clear t1 t2 u1 u2
          go_wp2_with fail
          go_roundw
          case rel => exact ⟨k + 3, by omega, by go_num, by rw [HW.out, HD.out]; simp only [wit]; rw [decide_eq_true (by omega), decide_eq_true (by omega)]; rfl, ext_drewN hbe _⟩
          case measure => simp [intOf]; omega
    · go_wp2_with fail
      go_ret
      exact ⟨ret_bool (by rw [HW.out, wit_short (by simp; omega)]), hbe⟩

theorem enters98 : Enters Tryz.prog 110 := fun args w => by kernel_rfl
theorem enters76 : Enters Tryz.prog 81 := fun args w => by kernel_rfl
theorem ic_lenB (n : Int) : (ic n).length = 1 := rfl
theorem within_lit {w : World} {H n : Nat} {cs : Array Value} (l : List Int) (hH : w.heap.size = H) (hn : n = l.length) (hl : l.length < 1000000) (hcs : cs = (l.flatMap ic).toArray) :
    Calls Tryz.prog 108 #[.slice (some ⟨H, 0, none⟩) n n] (w.alloc (.cells cs 3)) fun e w' => e = .returned (.bool (wit l)) ∧ Below w.heap.size w w' := by
  subst hn
  exact (within_any _ _ l _ (slc_litH w l cs 3 ic_lenB hcs H hH) hl).mono fun _ _ ⟨h1, h2⟩ => ⟨h1, ext_trans (ext_alloc (ext_refl _) _) h2⟩
theorem check1_any (x : Sp) (w : World) : Calls Tryz.prog 81 #[x.v] w fun e w' => e = .returned (.bool (badS x)) ∧ Below w.heap.size w w' := by
  go_enter Tryz.func81, Tryz.ntmps81
  go_wp2
  all_goals
    go_ret
    exact ⟨ret_bool (by simp [badS, *] <;> omega), ext_alloc (ext_refl _) _⟩
theorem hcheck_any (A : Option Addr) (c : Nat) (l : List Sp) (w : World) (ha : Slc w Sp.cells 2 A l) (hn : l.length ≤ maxLen) :
    Calls Tryz.prog 47 #[.slice A l.length c] w fun e w' => e = .returned (.int .i64 (chkHE l)) ∧ Below w.heap.size w w' := by
  go_enter Tryz.func47, Tryz.ntmps47
  go_wp2_with fail
  refine (containsSp 81 badS A c l _ ha hn enters76 (fun x W _ _ => check1_any x W)).mono ?_
  rintro e w1 ⟨rfl, hB1⟩
  cases h : l.any badS
  all_goals
    go_wp2_with fail
    go_ret
    exact ⟨ret_int (by simp [chkHE, h]), hB1⟩
theorem valid1_any (x : SliceOf Sp) (w : World) (ha : Slc w Sp.cells 2 x.A x.l) (hn : x.l.length ≤ maxLen) :
    Calls Tryz.prog 110 #[.slice x.A x.l.length x.c] w fun e w' => e = .returned (.bool (badCu x)) ∧ Below w.heap.size w w' := by
  go_enter Tryz.func110, Tryz.ntmps110
  go_wp2_with fail
  refine (hcheck_any x.A x.c x.l _ ha hn).mono ?_
  rintro e w1 ⟨rfl, hB1⟩
  go_wp2_with fail
  go_ret
  exact ⟨ret_bool rfl, hB1⟩
/-- The six cells of a kind that lies in a block of its own. -/
def KdAt (w : World) (b : Nat) (k : Kd) : Prop := ∀ j v, k.cells[j]? = some v → w.cell? ⟨b, j, none⟩ = some v
theorem KdAt.all {w : World} {b : Nat} {k : Kd} (h : KdAt w b k) : w.cell? ⟨b, 0, none⟩ = some (.int .i64 k.slow) ∧ w.cell? ⟨b, 1, none⟩ = some (.int .i64 k.fast) ∧ w.cell? ⟨b, 2, none⟩ = some (.int .i64 k.places) ∧ w.cell? ⟨b, 3, none⟩ = some (.int .i64 k.weight) ∧ w.cell? ⟨b, 4, none⟩ = some (.int .i64 k.longest) ∧ w.cell? ⟨b, 5, none⟩ = some (.slice k.cur.A k.cur.l.length k.cur.c) :=
  ⟨h 0 _ rfl, h 1 _ rfl, h 2 _ rfl, h 3 _ rfl, h 4 _ rfl, h 5 _ rfl⟩
theorem KdAt.new (w : World) (k : Kd) (t : TypeId) : KdAt (w.alloc (.cells #[.int .i64 k.slow, .int .i64 k.fast, .int .i64 k.places, .int .i64 k.weight, .int .i64 k.longest, .slice k.cur.A k.cur.l.length k.cur.c] t)) w.heap.size k := by
  intro j v hv
  have := cells_new w k.cells t j v hv
  rwa [show (⟨w.heap.size, 0, none⟩ : Addr).add j = ⟨w.heap.size, j, none⟩ by unfold Addr.add; split <;> simp_all] at this
theorem KdAt.ext {w w' : World} {b : Nat} {k : Kd} (h : KdAt w b k) (hlt : b < w.heap.size) (hb : Below w.heap.size w w') : KdAt w' b k := fun j v hv => (hb.cell (p := ⟨b, j, none⟩) hlt).trans (h j v hv)

set_option maxHeartbeats 800000 in
theorem valid_any (k : Kd) (w : World) (hk : k.ok w) : Calls Tryz.prog 84 #[k.v] w fun e w' => e = .returned (.bool (vldK k)) ∧ Below w.heap.size w w' := by
  go_enter Tryz.func84, Tryz.ntmps84
  go_wp2_with fail
  refine (within_lit [k.slow, 1, 64, k.fast, k.slow, 64, k.places, 1, 8, k.weight, 1, 8, k.longest, 0, 60, k.cur.l.length, 0, 16] (by simp) rfl (by simp) rfl).mono ?_
  rintro e w1 ⟨rfl, hB1⟩
  have N1 := (KdAt.new w k 140).ext (by simp) hB1
  have hb1 : Below w.heap.size w w1 := ext_trans (ext_alloc (ext_refl w) _) hB1
  obtain ⟨n0, n1, n2, n3, n4, n5⟩ := N1.all
  have HV : Hid (vldK k = (rngB k && k.longest % 10 == 0 && !k.cur.l.any badCu)) := rfl
  have hk1 := hk.ext hb1
  have s1 : w.heap.size < w1.heap.size := by have := hB1.size; simp at this; omega
  rw [show wit [k.slow, 1, 64, k.fast, k.slow, 64, k.places, 1, 8, k.weight, 1, 8, k.longest, 0, 60, k.cur.l.length, 0, 16] = rngB k from rfl]
  clear N1 hB1
  cases hr : rngB k
  · go_wp2_with fail
    go_ret
    exact ⟨ret_bool (by rw [HV.out, hr]; rfl), hb1⟩
  have R := (rngB_iff k).1 hr
  have l0 := R.l0
  have l1 := R.l1
  clear R
  by_cases hm : k.longest % 10 = 0
  · have hm' : (k.longest % 10 != 0) = false := by simp [hm]
    have HM := Lib.hid hm
    clear hm
    go_wp2_with fail
    refine (containsCu 110 badCu k.cur.A k.cur.c k.cur.l _ hk1.slc hk1.len enters98 (fun x W hx hW => valid1_any x W ((hk1.all hx).slc.ext hW) (hk1.all hx).len)).mono ?_
    rintro e w2 ⟨rfl, hB2⟩
    go_wp2_with fail
    go_ret
    exact ⟨ret_bool (by rw [HV.out, hr, HM.out]; simp), ext_trans hb1 hB2⟩
  · have hm' : (k.longest % 10 != 0) = true := by simp [hm]
    have HM := Lib.hid hm
    clear hm
    go_wp2_with fail
    go_ret
    exact ⟨ret_bool (by rw [HV.out]; simp [HM.out]), hb1⟩
theorem scheck_any (k : Kd) (w : World) (hk : k.ok w) : Calls Tryz.prog 52 #[k.v] w fun e w' => e = .returned (.int .i64 (chkK k)) ∧ Below w.heap.size w w' := by
  go_enter Tryz.func52, Tryz.ntmps52
  go_wp2_with fail
  refine (valid_any k _ (hk.ext (ext_alloc (ext_refl w) _))).mono ?_
  rintro e w1 ⟨rfl, hB1⟩
  cases h : vldK k
  all_goals
    go_wp2_with fail
    go_ret
    exact ⟨ret_int (by simp [chkK, h]), ext_trans (ext_alloc (ext_refl w) _) hB1⟩
end Go.Proofs.YtilocjliplmmpaaGreat

