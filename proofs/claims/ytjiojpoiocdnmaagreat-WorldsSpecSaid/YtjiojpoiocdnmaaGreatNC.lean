/- Reports and stations. -/
import Derived.Test.YtjiojpoiocdnmaaGreatU8
import Derived.Test.YtjiojpoiocdnmaaGreatZA
set_option linter.unusedSimpArgs false
set_option linter.unusedVariables false
namespace Go.Proofs.YtjiojpoiocdnmaaGreat
open Go.RowKit
structure Lim where
 n : Int
 a : Int
 b : Int
def Lim.cells (x : Lim) : List Value := [.int .i64 x.n, .int .i64 x.a, .int .i64 x.b]
abbrev Lim.v (x : Lim) : Value := .agg #[.int .i64 x.n, .int .i64 x.a, .int .i64 x.b]
def badLim (x : Lim) : Bool := !inn x.n x.a x.b
theorem limc_len (x : Lim) : x.cells.length = 3 := rfl
set_option maxHeartbeats 400000 in
theorem indexLim (g : Nat) (p : Lim → Bool) (A : Option Addr) (c : Nat) (l : List (Lim)) (w : World) (ha : Slc w Lim.cells 3 A l) (hn : l.length ≤ maxLen) (hE : Enters Tryz.prog g)
  (hp : ∀ (x : Lim) (W : World), x ∈ l → Below w.heap.size w W → Calls Tryz.prog g #[x.v] W fun e W' => e = .returned (.bool (p x)) ∧ Below W.heap.size W W') :
  Calls Tryz.prog 136 #[.slice A l.length c, .func (.func g) #[] #[]] w fun e w' => e = .returned (.int .i64 (idxGo p 0 l)) ∧ Below w.heap.size w w' := by
 have HP := Lib.hid hp
 have HE := Lib.hid hE
 clear hp hE
 unfold maxLen at hn
 go_enter Tryz.func136, Tryz.ntmps136
 go_wp2
 go_loopw [8] (fun i wr => ∃ k : Nat, k ≤ l.length ∧ i = .int .i64 k ∧ idxGo p 0 l = idxGo p k (l.drop k) ∧ Below w.heap.size w wr) (fun i _ => l.length - (intOf i).toNat)
 case atStart => exact ⟨0, Nat.zero_le _, rfl, rfl, ext_refl _⟩
 case round =>
  obtain ⟨k, hk, rfl, heq, hB⟩ := hrel
  have HQ := Lib.hid heq
  clear heq
  by_cases hlt : k < l.length
  ·obtain ⟨x, b1, o1, hx, rfl, hb1, hc⟩ := (ha.ext hB).at_ hlt
   have HX := Lib.hid hx
   clear hx
   have c0 := hc 0 _ rfl
   have c1 := hc 1 _ rfl
   have c2 := hc 2 _ rfl
   simp only [Nat.mul_one, Nat.add_zero] at c0 c1 c2
   clear hc
   have hlt' : (k : Int) < l.length := by omega
   have hE2 := HE.out #[x.v] wr
   cases hpx : p x
   ·go_wp2_with fail
    refine (HP.out x wr (List.mem_of_getElem? HX.out) hB).mono ?_
    rintro e w1 ⟨rfl, hB1⟩
    clear hE2
    go_wp2_with fail
    go_roundw
    case rel => exact ⟨k + 1, hlt, by go_num, idx_step HX.out hpx HQ.out, ext_trans hB hB1⟩
    case measure => simp [intOf]; omega
   ·go_wp2_with fail
    refine (HP.out x wr (List.mem_of_getElem? HX.out) hB).mono ?_
    rintro e w1 ⟨rfl, hB1⟩
    clear hE2
    go_wp2_with fail
    go_ret
    exact ⟨ret_int (idx_hit HX.out hpx HQ.out).symm, ext_trans hB hB1⟩
  ·go_wp2_with fail
   go_ret
   exact ⟨ret_int (idx_end (by omega) HQ.out).symm, hB⟩
theorem containsLim (g : Nat) (p : Lim → Bool) (A : Option Addr) (c : Nat) (l : List (Lim)) (w : World) (ha : Slc w Lim.cells 3 A l) (hn : l.length ≤ maxLen) (hE : Enters Tryz.prog g)
  (hp : ∀ (x : Lim) (W : World), x ∈ l → Below w.heap.size w W → Calls Tryz.prog g #[x.v] W fun e W' => e = .returned (.bool (p x)) ∧ Below W.heap.size W W') :
  Calls Tryz.prog 112 #[.slice A l.length c, .func (.func g) #[] #[]] w fun e w' => e = .returned (.bool (l.any p)) ∧ Below w.heap.size w w' := by
 have HP := Lib.hid hp
 have HE := Lib.hid hE
 clear hp hE
 go_enter Tryz.func112, Tryz.ntmps112
 go_wp2_with fail
 refine (indexLim g p A c l _ ha hn HE.out HP.out).mono ?_
 rintro e w1 ⟨rfl, hB1⟩
 go_wp2_with fail
 go_ret
 exact ⟨ret_bool (idx_any p l), hB1⟩

theorem enters113 : Enters Tryz.prog 113 := fun args w => by kernel_rfl
theorem lim_any (x : Lim) (w : World) : Calls Tryz.prog 113 #[x.v] w fun e w' => e = .returned (.bool (badLim x)) ∧ Below w.heap.size w w' := by
 go_enter Tryz.func113, Tryz.ntmps113
 by_cases h1 : x.n < x.a
 ·have e1 : decide (x.n < x.a) = true := decide_eq_true h1
  go_wp2_with fail
  go_ret
  exact ⟨ret_bool (by simp [badLim, inn]; omega), ext_alloc (ext_refl _) _⟩
 have e1 : decide (x.n < x.a) = false := decide_eq_false h1
 by_cases h2 : x.b < x.n
 ·have e2 : decide (x.n > x.b) = true := decide_eq_true h2
  go_wp2_with fail
  go_ret
  exact ⟨ret_bool (by simp [badLim, inn]; omega), ext_alloc (ext_refl _) _⟩
 ·have e2 : decide (x.n > x.b) = false := decide_eq_false h2
  go_wp2_with fail
  go_ret
  exact ⟨ret_bool (by simp [badLim, inn]; omega), ext_alloc (ext_refl _) _⟩
def limsB (l : List Lim) : Bool := l.all (fun x => inn x.n x.a x.b)
theorem wl_any (A : Option Addr) (c : Nat) (l : List Lim) (w : World) (ha : Slc w Lim.cells 3 A l) (hn : l.length ≤ maxLen) : Calls Tryz.prog 76 #[.slice A l.length c] w (RetB w (limsB l)) := by
 go_enter Tryz.func76, Tryz.ntmps76
 go_wp2_with fail
 refine (containsLim 113 badLim A c l _ ha hn enters113 (fun x W _ _ => lim_any x W)).mono ?_
 rintro e w1 ⟨rfl, hB1⟩
 go_wp2_with fail
 go_ret
 exact ⟨ret_bool (by unfold limsB badLim; exact all_any _ l), hB1⟩
theorem wl_lit {w : World} {H n : Nat} {cs : Array Value} (l : List Lim) (r : Bool) (hr : limsB l = r) (hH : w.heap.size = H) (hn : n = l.length) (hl : l.length < 1000000) (hcs : cs = (l.flatMap Lim.cells).toArray) :
  Calls Tryz.prog 76 #[.slice (some ⟨H, 0, none⟩) n n] (w.alloc (.cells cs 168)) (RetB w r) := by
 subst hn hr
 exact (wl_any _ _ l _ (slc_litH w l cs 168 limc_len hcs H hH) (by unfold maxLen; omega)).mono fun _ _ ⟨h1, h2⟩ => ⟨h1, ext_trans (ext_alloc (ext_refl _) _) h2⟩
def repB (many : Int) (r : Rep) : Bool := inn many 0 4 && inn r.st 0 (many - 1) && inn r.no 1 1048576 && inn r.mi 0 1439 && inn r.ar 0 1439 && inn r.vol 0 63 && nameB r.call
def repE (many : Int) (r : Rep) : Int := if repB many r then 0 else 220
/-- Numbers that rise, below a bound. -/
def risB (n : Int) : Int → List Int → Bool
 | _, [] => true
 | last, v :: r => decide (last < v) && decide (v < n) && risB n v r
def stnB (n : Int) (s : Stn) : Bool := inn n 1 64 && inn s.sh 0 3 && inn s.fa 0 3 && decide (0 < s.vs.l.length) && risB n (-1) s.vs.l
def stnE (n : Int) (s : Stn) : Int := if stnB n s then 0 else 220
def lims1 (many : Int) (r : Rep) : List Lim := [⟨many, 0, 4⟩, ⟨r.st, 0, many - 1⟩, ⟨r.no, 1, 1048576⟩, ⟨r.mi, 0, 1439⟩, ⟨r.ar, 0, 1439⟩, ⟨r.vol, 0, 63⟩]
theorem repB_lims (many : Int) (r : Rep) : repB many r = (limsB (lims1 many r) && nameB r.call) := by
 simp [repB, limsB, lims1, Bool.and_assoc]
theorem repE_of {many : Int} {r : Rep} {b : Bool} (h : repB many r = b) : repE many r = if b then 0 else 220 := by unfold repE; rw [h]
theorem stnE_of {n : Int} {s : Stn} {b : Bool} (h : stnB n s = b) : stnE n s = if b then 0 else 220 := by unfold stnE; rw [h]
set_option maxRecDepth 100000 in
set_option maxHeartbeats 8000000 in
theorem rep_any (many : Int) (r : Rep) (w : World) (h0 : -1000000 ≤ many) (h1 : many ≤ 140737488355328) : Calls Tryz.prog 50 #[.int .i64 many, r.v] w (RetE w (repE many r)) := by
 obtain ⟨E, hE⟩ : ∃ q, repE many r = q := ⟨_, rfl⟩
 rw [hE]
 have HE := Lib.hid hE
 clear hE
 have HL := Lib.hid (repB_lims many r)
 have HB : Hid (Blk (w.alloc (.cells #[.int .i64 r.st, .int .i64 r.no, .int .i64 r.mi, .int .i64 r.ar, .string r.call, .int .i64 r.vol] 55)) w.heap.size r.cells) := Blk.newH w r.cells 55 w.heap.size rfl
 have hw : IntKind.i64.wrap (many - 1) = many - 1 := IntWalk.i64_in _ (by omega)
 go_enter Tryz.func50, Tryz.ntmps50
 go_wp2_with fail
 cases hl : limsB (lims1 many r)
 ·refine (wl_lit (lims1 many r) false hl (by simp) rfl (by simp [lims1]) rfl).mono ?_
  rintro e w1 ⟨rfl, B⟩
  have HR : Hid (E = 220) := by rw [← HE.out, repE_of (b := false) (by rw [HL.out, hl]; rfl)]; rfl
  clear hl
  go_wp2_with fail
  go_ret
  rw [HR.out]
  exact ⟨rfl, ext_trans (ext_alloc (ext_refl _) _) B⟩
 refine (wl_lit (lims1 many r) true hl (by simp) rfl (by simp [lims1]) rfl).mono ?_
 rintro e w1 ⟨rfl, B⟩
 have HB1 := Lib.hid (HB.out.ext B)
 have HW := Lib.hid (ext_trans (ext_alloc (ext_refl w) (.cells #[.int .i64 r.st, .int .i64 r.no, .int .i64 r.mi, .int .i64 r.ar, .string r.call, .int .i64 r.vol] 55)) B)
 have c4 := HB1.out.c 4 _ rfl
 have bl := HB1.out.lt
 clear B
 go_wp2_with fail
 refine (name_any r.call _).mono ?_
 rintro e w2 ⟨rfl, rfl⟩
 cases hn : nameB r.call
 ·have HR : Hid (E = 220) := by rw [← HE.out, repE_of (b := false) (by rw [HL.out, hl, hn]; rfl)]; rfl
  clear hl hn
  go_wp2_with fail
  go_ret
  rw [HR.out]
  exact ⟨rfl, HW.out⟩
 ·have HR : Hid (E = 0) := by rw [← HE.out, repE_of (b := true) (by rw [HL.out, hl, hn]; rfl)]; rfl
  clear hl hn
  go_wp2_with fail
  go_ret
  rw [HR.out]
  exact ⟨rfl, HW.out⟩
theorem rep_at {many : Int} {r : Rep} {w : World} (e : Int) (he : repE many r = e) (h0 : -1000000 ≤ many) (h1 : many ≤ 140737488355328) : Calls Tryz.prog 50 #[.int .i64 many, r.v] w (RetE w e) := by
 subst he; exact rep_any many r w h0 h1
theorem inq_any (n a b : Int) (w : World) : Calls Tryz.prog 106 #[.int .i64 n, .int .i64 a, .int .i64 b] w fun e w' => e = .returned (.bool (inn n a b)) ∧ w = w' := by
 go_enter Tryz.func106, Tryz.ntmps106
 by_cases h1 : a ≤ n
 ·have e1 : decide (n ≥ a) = true := by simpa using h1
  by_cases h2 : n ≤ b
  ·have e2 : decide (n ≤ b) = true := by simpa using h2
   go_wp2
   all_goals go_ret
   all_goals exact ⟨ret_bool (by simp [inn]; omega), rfl⟩
  ·have e2 : decide (n ≤ b) = false := by simpa using h2
   go_wp2
   all_goals go_ret
   all_goals exact ⟨ret_bool (by simp [inn]; omega), rfl⟩
 ·have e1 : decide (n ≥ a) = false := by simpa using h1
  go_wp2
  all_goals go_ret
  all_goals exact ⟨ret_bool (by simp [inn]; omega), rfl⟩
theorem inq_at {n a b : Int} {w : World} (r : Bool) (hr : inn n a b = r) : Calls Tryz.prog 106 #[.int .i64 n, .int .i64 a, .int .i64 b] w fun e w' => e = .returned (.bool r) ∧ w = w' := by
 subst hr; exact inq_any n a b w
theorem inqB {n a b : Int} {w : World} (r : Bool) (hr : inn n a b = r) : Calls Tryz.prog 106 #[.int .i64 n, .int .i64 a, .int .i64 b] w (RetB w r) :=
 (inq_at r hr).mono fun _ _ ⟨h1, h2⟩ => ⟨h1, by rw [← h2]; exact ext_refl _⟩
theorem rname_at {s : ByteArray} {w : World} (r : Bool) (hr : nameB s = r) : Calls Tryz.prog 39 #[.string s] w fun e w' => e = .returned (.bool r) ∧ w = w' := by
 subst hr; exact rname_any s w
set_option maxRecDepth 100000 in
set_option maxHeartbeats 8000000 in
theorem rrep_any (many : Int) (r : Rep) (w : World) (h0 : -1000000 ≤ many) (h1 : many ≤ 140737488355328) : Calls Tryz.prog 62 #[.int .i64 many, r.v] w (RetE w (repE many r)) := by
 obtain ⟨E, hE⟩ : ∃ q, repE many r = q := ⟨_, rfl⟩
 rw [hE]
 have HE := Lib.hid hE
 clear hE
 have HD : Hid (repB many r = (inn many 0 4 && inn r.st 0 (many - 1) && inn r.no 1 1048576 && inn r.mi 0 1439 && inn r.ar 0 1439 && inn r.vol 0 63 && nameB r.call)) := rfl
 obtain ⟨W, hW⟩ : ∃ W, w.alloc (.cells #[.int .i64 r.st, .int .i64 r.no, .int .i64 r.mi, .int .i64 r.ar, .string r.call, .int .i64 r.vol] 55) = W := ⟨_, rfl⟩
 have HB : Hid (Blk W w.heap.size r.cells) := by rw [← hW]; exact Blk.newH w r.cells 55 w.heap.size rfl
 have HW : Hid (Below w.heap.size w W) := by rw [← hW]; exact ext_alloc (ext_refl w) _
 have hw : IntKind.i64.wrap (many - 1) = many - 1 := IntWalk.i64_in _ (by omega)
 have c0 := HB.out.c 0 _ rfl
 have c1 := HB.out.c 1 _ rfl
 have c2 := HB.out.c 2 _ rfl
 have c3 := HB.out.c 3 _ rfl
 have c4 := HB.out.c 4 _ rfl
 have c5 := HB.out.c 5 _ rfl
 have bl := HB.out.lt
 go_enter Tryz.func62, Tryz.ntmps62
 go_wp2_with fail
 clear hW
 cases k1 : inn many 0 4
 ·refine (inq_at false k1).mono ?_
  rintro e w1 ⟨rfl, rfl⟩
  have HR : Hid (E = 220) := by rw [← HE.out, repE_of (b := false) (by rw [HD.out, k1]; simp)]; rfl
  clear k1
  go_wp2_with fail
  go_ret
  rw [HR.out]
  exact ⟨rfl, HW.out⟩
 refine (inq_at true k1).mono ?_
 rintro e w1 ⟨rfl, rfl⟩
 have Hk1 := Lib.hid k1
 clear k1
 go_wp2_with fail
 cases k2 : inn r.st 0 (many - 1)
 ·refine (inq_at false k2).mono ?_
  rintro e w1 ⟨rfl, rfl⟩
  have HR : Hid (E = 220) := by rw [← HE.out, repE_of (b := false) (by rw [HD.out, k2]; simp)]; rfl
  clear k2
  go_wp2_with fail
  go_ret
  rw [HR.out]
  exact ⟨rfl, HW.out⟩
 refine (inq_at true k2).mono ?_
 rintro e w1 ⟨rfl, rfl⟩
 have Hk2 := Lib.hid k2
 clear k2
 go_wp2_with fail
 cases k3 : inn r.no 1 1048576
 ·refine (inq_at false k3).mono ?_
  rintro e w1 ⟨rfl, rfl⟩
  have HR : Hid (E = 220) := by rw [← HE.out, repE_of (b := false) (by rw [HD.out, k3]; simp)]; rfl
  clear k3
  go_wp2_with fail
  go_ret
  rw [HR.out]
  exact ⟨rfl, HW.out⟩
 refine (inq_at true k3).mono ?_
 rintro e w1 ⟨rfl, rfl⟩
 have Hk3 := Lib.hid k3
 clear k3
 go_wp2_with fail
 cases k4 : inn r.mi 0 1439
 ·refine (inq_at false k4).mono ?_
  rintro e w1 ⟨rfl, rfl⟩
  have HR : Hid (E = 220) := by rw [← HE.out, repE_of (b := false) (by rw [HD.out, k4]; simp)]; rfl
  clear k4
  go_wp2_with fail
  go_ret
  rw [HR.out]
  exact ⟨rfl, HW.out⟩
 refine (inq_at true k4).mono ?_
 rintro e w1 ⟨rfl, rfl⟩
 have Hk4 := Lib.hid k4
 clear k4
 go_wp2_with fail
 cases k5 : inn r.ar 0 1439
 ·refine (inq_at false k5).mono ?_
  rintro e w1 ⟨rfl, rfl⟩
  have HR : Hid (E = 220) := by rw [← HE.out, repE_of (b := false) (by rw [HD.out, k5]; simp)]; rfl
  clear k5
  go_wp2_with fail
  go_ret
  rw [HR.out]
  exact ⟨rfl, HW.out⟩
 refine (inq_at true k5).mono ?_
 rintro e w1 ⟨rfl, rfl⟩
 have Hk5 := Lib.hid k5
 clear k5
 go_wp2_with fail
 cases k6 : nameB r.call
 ·refine (rname_at false k6).mono ?_
  rintro e w1 ⟨rfl, rfl⟩
  have HR : Hid (E = 220) := by rw [← HE.out, repE_of (b := false) (by rw [HD.out, k6]; simp)]; rfl
  clear k6
  go_wp2_with fail
  go_ret
  rw [HR.out]
  exact ⟨rfl, HW.out⟩
 refine (rname_at true k6).mono ?_
 rintro e w1 ⟨rfl, rfl⟩
 have Hk6 := Lib.hid k6
 clear k6
 go_wp2_with fail
 cases k7 : inn r.vol 0 63
 ·refine (inq_at false k7).mono ?_
  rintro e w1 ⟨rfl, rfl⟩
  have HR : Hid (E = 220) := by rw [← HE.out, repE_of (b := false) (by rw [HD.out, k7]; simp)]; rfl
  clear k7
  go_wp2_with fail
  go_ret
  rw [HR.out]
  exact ⟨rfl, HW.out⟩
 refine (inq_at true k7).mono ?_
 rintro e w1 ⟨rfl, rfl⟩
 have Hk7 := Lib.hid k7
 clear k7
 have HR : Hid (E = 0) := by rw [← HE.out, repE_of (b := true) (by rw [HD.out, Hk1.out, Hk2.out, Hk3.out, Hk4.out, Hk5.out, Hk6.out, Hk7.out]; rfl)]; rfl
 go_wp2_with fail
 go_ret
 rw [HR.out]
 exact ⟨rfl, HW.out⟩
theorem rrep_at {many : Int} {r : Rep} {w : World} (e : Int) (he : repE many r = e) (h0 : -1000000 ≤ many) (h1 : many ≤ 140737488355328) : Calls Tryz.prog 62 #[.int .i64 many, r.v] w (RetE w e) := by
 subst he; exact rrep_any many r w h0 h1
theorem risB_step {n last : Int} {l : List Int} {k : Nat} {v : Int} (hv : l[k]? = some v) (h : (decide (last < v) && decide (v < n)) = true) : risB n last (l.drop k) = risB n v (l.drop (k + 1)) := by
 obtain ⟨hk, rfl⟩ := List.getElem?_eq_some_iff.1 hv
 rw [List.drop_eq_getElem_cons hk, risB, h, Bool.true_and]
theorem risB_no {n last : Int} {l : List Int} {k : Nat} {v : Int} (hv : l[k]? = some v) (h : (decide (last < v) && decide (v < n)) = false) : risB n last (l.drop k) = false := by
 obtain ⟨hk, rfl⟩ := List.getElem?_eq_some_iff.1 hv
 rw [List.drop_eq_getElem_cons hk, risB, h, Bool.false_and]
def lims2 (n : Int) (s : Stn) : List Lim := [⟨n, 1, 64⟩, ⟨s.sh, 0, 3⟩, ⟨s.fa, 0, 3⟩]
theorem stnB_lims (n : Int) (s : Stn) : stnB n s = (limsB (lims2 n s) && decide (0 < s.vs.l.length) && risB n (-1) s.vs.l) := by
 simp [stnB, limsB, lims2, Bool.and_assoc]
set_option maxRecDepth 100000 in
set_option maxHeartbeats 8000000 in
theorem stn_any (n : Int) (s : Stn) (w : World) (hs : Stn.ok w s) : Calls Tryz.prog 47 #[.int .i64 n, s.v] w (RetE w (stnE n s)) := by
 obtain ⟨E, hE⟩ : ∃ q, stnE n s = q := ⟨_, rfl⟩
 rw [hE]
 have HE := Lib.hid hE
 clear hE
 have HL := Lib.hid (stnB_lims n s)
 have HB : Hid (Blk (w.alloc (.cells #[.slice s.vs.A s.vs.l.length s.vs.c, .int .i64 s.sh, .int .i64 s.fa] 41)) w.heap.size s.cells) := Blk.newH w s.cells 41 w.heap.size rfl
 have HS0 := Lib.hid hs
 have hsl := SliceOf.ok.len hs
 unfold maxLen at hsl
 clear hs
 go_enter Tryz.func47, Tryz.ntmps47
 go_wp2_with fail
 cases hl : limsB (lims2 n s)
 ·refine (wl_lit (lims2 n s) false hl (by simp) rfl (by simp [lims2]) rfl).mono ?_
  rintro e w1 ⟨rfl, B⟩
  have HR : Hid (E = 220) := by rw [← HE.out, stnE_of (b := false) (by rw [HL.out, hl]; rfl)]; rfl
  clear hl
  go_wp2_with fail
  go_ret
  rw [HR.out]
  exact ⟨rfl, ext_trans (ext_alloc (ext_refl _) _) B⟩
 refine (wl_lit (lims2 n s) true hl (by simp) rfl (by simp [lims2]) rfl).mono ?_
 rintro e w1 ⟨rfl, B⟩
 have HB1 := Lib.hid (HB.out.ext B)
 have HW := Lib.hid (ext_trans (ext_alloc (ext_refl w) (.cells #[.slice s.vs.A s.vs.l.length s.vs.c, .int .i64 s.sh, .int .i64 s.fa] 41)) B)
 have HLL := Lib.hid hl
 have HSO : Hid (SliceOf.ok ic 1 (fun _ n => (Lit.int .i64 n).wf = true) w1 s.vs) := ints.ext (show SliceOf.ok ic 1 (fun _ n => (Lit.int .i64 n).wf = true) w s.vs from HS0.out) HW.out
 have c0 := HB1.out.c 0 _ rfl
 have bl := HB1.out.lt
 clear B hl
 by_cases h1 : s.vs.l.length = 0
 ·have e1 : ((s.vs.l.length : Int) == 0) = true := beq_iff_eq.2 (by omega)
  have HR : Hid (E = 220) := by rw [← HE.out, stnE_of (b := false) (by rw [HL.out, h1]; simp)]; rfl
  clear h1
  go_wp2_with fail
  go_ret
  rw [HR.out]
  exact ⟨rfl, HW.out⟩
 have e1 : ((s.vs.l.length : Int) == 0) = false := beq_eq_false_iff_ne.2 (by omega)
 have HZ : Hid (stnB n s = risB n (-1) s.vs.l) := by rw [HL.out, HLL.out, decide_eq_true (show 0 < s.vs.l.length by omega)]; rfl
 clear h1 HL HLL
 go_wp2_with fail
 clear c0 e1
 go_loopw [5, 28] (fun a i wr => ∃ (k : Nat) (last : Int), k ≤ s.vs.l.length ∧ a = .int .i64 last ∧ i = .int .i64 k ∧ Hid (stnB n s = risB n last (s.vs.l.drop k)) ∧ wr = w1) (fun _ i _ => s.vs.l.length - (intOf i).toNat)
 case atStart => exact ⟨0, -1, Nat.zero_le _, rfl, rfl, HZ.out, rfl⟩
 case round =>
  obtain ⟨k, last, hk, rfl, rfl, HQ, hw⟩ := hrel
  obtain rfl : w1 = wr := hw.symm
  by_cases hlt : k < s.vs.l.length
  ·have hlt' : (k : Int) < s.vs.l.length := by omega
   obtain ⟨v, q1, o1, hv, hA, hb1, hc⟩ := HSO.out.slc.at_ hlt
   have HV := Lib.hid hv
   have d0 := hc 0 _ rfl
   simp only [Nat.mul_one, Nat.add_zero] at d0
   rw [hA]
   clear hc hv
   by_cases g1 : v ≤ last
   ·have e1 : decide (v ≤ last) = true := decide_eq_true g1
    have HR : Hid (E = 220) := by rw [← HE.out, stnE_of (b := false) (HQ.out.trans (risB_no HV.out (by simp; omega)))]; rfl
    go_wp2_with fail
    go_ret
    rw [HR.out]
    exact ⟨rfl, HW.out⟩
   have e1 : decide (v ≤ last) = false := decide_eq_false g1
   by_cases g2 : n ≤ v
   ·have e2 : decide (v ≥ n) = true := decide_eq_true g2
    have HR : Hid (E = 220) := by rw [← HE.out, stnE_of (b := false) (HQ.out.trans (risB_no HV.out (by simp; omega)))]; rfl
    go_wp2_with fail
    go_ret
    rw [HR.out]
    exact ⟨rfl, HW.out⟩
   ·have e2 : decide (v ≥ n) = false := decide_eq_false g2
    have HN := Lib.hid (HQ.out.trans (risB_step HV.out (by simp; omega)))
    go_wp2_with fail
    try rw [← hA]
    first | exact ⟨⟨k + 1, v, by omega, rfl, by go_num, HN.out, by first | rfl | trivial⟩, by simp [intOf] <;> omega⟩ | (go_roundw; all_goals first | exact ⟨k + 1, v, by omega, rfl, by go_num, HN.out, by first | rfl | trivial⟩ | (simp [intOf] <;> omega))
  ·have hlt' : decide ((k : Int) < s.vs.l.length) = false := decide_eq_false (by omega)
   have hd : s.vs.l.drop k = [] := List.drop_eq_nil_of_le (by omega)
   rw [hd] at HQ
   have HR : Hid (E = 0) := by rw [← HE.out, stnE_of (b := true) HQ.out]; rfl
   clear hd
   go_wp2_with fail
   go_ret
   rw [HR.out]
   exact ⟨rfl, HW.out⟩
theorem stn_at {n : Int} {s : Stn} {w : World} (e : Int) (he : stnE n s = e) (hs : Stn.ok w s) : Calls Tryz.prog 47 #[.int .i64 n, s.v] w (RetE w e) := by
 subst he; exact stn_any n s w hs
end Go.Proofs.YtjiojpoiocdnmaaGreat
