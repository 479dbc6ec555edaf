/- Reports and stations. -/
import Derived.Test.YtjiojpoiocdnmaaGreatU7
import Derived.Test.YtjiojpoiocdnmaaGreatU5
set_option linter.unusedSimpArgs false
set_option linter.unusedVariables false
namespace Go.Proofs.YtjiojpoiocdnmaaGreat
open Go.RowKit
structure Lim where
  n : Int
  a : Int
  b : Int
def Lim.cells (x : Lim) : List Value := [.int .i64 x.n, .int .i64 x.a, .int .i64 x.b]
abbrev Lim.v (x : Lim) : Value := .agg #[.int .i64 x.n, .int .i64 x.a, .int .i64 x.b]
def badLim (x : Lim) : Bool := !inn x.n x.a x.b
theorem limc_len (x : Lim) : x.cells.length = 3 := rfl
set_option maxHeartbeats 400000 in
theorem indexLim (g : Nat) (p : Lim → Bool) (A : Option Addr) (c : Nat) (l : List (Lim)) (w : World) (ha : Slc w Lim.cells 3 A l) (hn : l.length ≤ maxLen) (hE : Enters Tryz.prog g)
    (hp : ∀ (x : Lim) (W : World), x ∈ l → Below w.heap.size w W → Calls Tryz.prog g #[x.v] W fun e W' => e = .returned (.bool (p x)) ∧ Below W.heap.size W W') :
    Calls Tryz.prog 136 #[.slice A l.length c, .func (.func g) #[] #[]] w fun e w' => e = .returned (.int .i64 (idxGo p 0 l)) ∧ Below w.heap.size w w' := by
  have HP := Lib.hid hp
  have HE := Lib.hid hE
  clear hp hE
  unfold maxLen at hn
  go_enter Tryz.func136, Tryz.ntmps136
  go_wp2
  go_loopw [8] (fun i wr => ∃ k : Nat, k ≤ l.length ∧ i = .int .i64 k ∧ idxGo p 0 l = idxGo p k (l.drop k) ∧ Below w.heap.size w wr) (fun i _ => l.length - (intOf i).toNat)
  case atStart => exact ⟨0, Nat.zero_le _, rfl, rfl, ext_refl _⟩
  case round =>
    obtain ⟨k, hk, rfl, heq, hB⟩ := hrel
    have HQ := Lib.hid heq
    clear heq
    by_cases hlt : k < l.length
    · obtain ⟨x, b1, o1, hx, rfl, hb1, hc⟩ := (ha.ext hB).at_ hlt
      have HX := Lib.hid hx
      clear hx
      have c0 := hc 0 _ rfl
      have c1 := hc 1 _ rfl
      have c2 := hc 2 _ rfl
      simp only [Nat.mul_one, Nat.add_zero] at c0 c1 c2
      clear hc
      have hlt' : (k : Int) < l.length := by omega
      have hE2 := HE.out #[x.v] wr
      cases hpx : p x
      · go_wp2_with fail
        refine (HP.out x wr (List.mem_of_getElem? HX.out) hB).mono ?_
        rintro e w1 ⟨rfl, hB1⟩
        clear hE2
        go_wp2_with fail
        go_roundw
        case rel => exact ⟨k + 1, hlt, by go_num, idx_step HX.out hpx HQ.out, ext_trans hB hB1⟩
        case measure => simp [intOf]; omega
      · go_wp2_with fail
        refine (HP.out x wr (List.mem_of_getElem? HX.out) hB).mono ?_
        rintro e w1 ⟨rfl, hB1⟩
        clear hE2
        go_wp2_with fail
        go_ret
        exact ⟨ret_int (idx_hit HX.out hpx HQ.out).symm, ext_trans hB hB1⟩
    · go_wp2_with fail
      go_ret
      exact ⟨ret_int (idx_end (by omega) HQ.out).symm, hB⟩
theorem containsLim (g : Nat) (p : Lim → Bool) (A : Option Addr) (c : Nat) (l : List (Lim)) (w : World) (ha : Slc w Lim.cells 3 A l) (hn : l.length ≤ maxLen) (hE : Enters Tryz.prog g)
    (hp : ∀ (x : Lim) (W : World), x ∈ l → Below w.heap.size w W → Calls Tryz.prog g #[x.v] W fun e W' => e = .returned (.bool (p x)) ∧ Below W.heap.size W W') :
    Calls Tryz.prog 112 #[.slice A l.length c, .func (.func g) #[] #[]] w fun e w' => e = .returned (.bool (l.any p)) ∧ Below w.heap.size w w' := by
  have HP := Lib.hid hp
  have HE := Lib.hid hE
  clear hp hE
  go_enter Tryz.func112, Tryz.ntmps112
  go_wp2_with fail
  refine (indexLim g p A c l _ ha hn HE.out HP.out).mono ?_
  rintro e w1 ⟨rfl, hB1⟩
  go_wp2_with fail
  go_ret
  exact ⟨ret_bool (idx_any p l), hB1⟩

theorem enters113 : Enters Tryz.prog 113 := fun args w => by kernel_rfl
theorem lim_any (x : Lim) (w : World) : Calls Tryz.prog 113 #[x.v] w fun e w' => e = .returned (.bool (badLim x)) ∧ Below w.heap.size w w' := by
  go_enter Tryz.func113, Tryz.ntmps113
  by_cases h1 : x.n < x.a
  · have e1 : decide (x.n < x.a) = true := decide_eq_true h1
    go_wp2_with fail
    go_ret
    exact ⟨ret_bool (by simp [badLim, inn]; omega), ext_alloc (ext_refl _) _⟩
  have e1 : decide (x.n < x.a) = false := decide_eq_false h1
  by_cases h2 : x.b < x.n
  · have e2 : decide (x.n > x.b) = true := decide_eq_true h2
    go_wp2_with fail
    go_ret
    exact ⟨ret_bool (by simp [badLim, inn]; omega), ext_alloc (ext_refl _) _⟩
  · have e2 : decide (x.n > x.b) = false := decide_eq_false h2
    go_wp2_with fail
    go_ret
    exact ⟨ret_bool (by simp [badLim, inn]; omega), ext_alloc (ext_refl _) _⟩
def limsB (l : List Lim) : Bool := l.all (fun x => inn x.n x.a x.b)
theorem wl_any (A : Option Addr) (c : Nat) (l : List Lim) (w : World) (ha : Slc w Lim.cells 3 A l) (hn : l.length ≤ maxLen) : Calls Tryz.prog 76 #[.slice A l.length c] w (RetB w (limsB l)) := by
  go_enter Tryz.func76, Tryz.ntmps76
  go_wp2_with fail
  refine (containsLim 113 badLim A c l _ ha hn enters113 (fun x W _ _ => lim_any x W)).mono ?_
  rintro e w1 ⟨rfl, hB1⟩
  go_wp2_with fail
  go_ret
  exact ⟨ret_bool (by unfold limsB badLim; exact all_any _ l), hB1⟩
theorem wl_lit {w : World} {H n : Nat} {cs : Array Value} (l : List Lim) (r : Bool) (hr : limsB l = r) (hH : w.heap.size = H) (hn : n = l.length) (hl : l.length < 1000000) (hcs : cs = (l.flatMap Lim.cells).toArray) :
    Calls Tryz.prog 76 #[.slice (some ⟨H, 0, none⟩) n n] (w.alloc (.cells cs 168)) (RetB w r) := by
  subst hn hr
  exact (wl_any _ _ l _ (slc_litH w l cs 168 limc_len hcs H hH) (by unfold maxLen; omega)).mono fun _ _ ⟨h1, h2⟩ => ⟨h1, ext_trans (ext_alloc (ext_refl _) _) h2⟩
def repB (many : Int) (r : Rep) : Bool := inn many 0 4 && inn r.st 0 (many - 1) && inn r.no 1 1048576 && inn r.mi 0 1439 && inn r.ar 0 1439 && inn r.vol 0 63 && nameB r.call
def repE (many : Int) (r : Rep) : Int := if repB many r then 0 else 220
/-- Numbers that rise, below a bound. -/
def risB (n : Int) : Int → List Int → Bool
  | _, [] => true
  | last, v :: r => decide (last < v) && decide (v < n) && risB n v r
def stnB (n : Int) (s : Stn) : Bool := inn n 1 64 && inn s.sh 0 3 && inn s.fa 0 3 && decide (0 < s.vs.l.length) && risB n (-1) s.vs.l
def stnE (n : Int) (s : Stn) : Int := if stnB n s then 0 else 220
def lims1 (many : Int) (r : Rep) : List Lim := [⟨many, 0, 4⟩, ⟨r.st, 0, many - 1⟩, ⟨r.no, 1, 1048576⟩, ⟨r.mi, 0, 1439⟩, ⟨r.ar, 0, 1439⟩, ⟨r.vol, 0, 63⟩]
theorem repB_lims (many : Int) (r : Rep) : repB many r = (limsB (lims1 many r) && nameB r.call) := by
  simp [repB, limsB, lims1, Bool.and_assoc]
theorem repE_of {many : Int} {r : Rep} {b : Bool} (h : repB many r = b) : repE many r = if b then 0 else 220 := by unfold repE; rw [h]
theorem stnE_of {n : Int} {s : Stn} {b : Bool} (h : stnB n s = b) : stnE n s = if b then 0 else 220 := by unfold stnE; rw [h]
set_option maxRecDepth 100000 in
set_option maxHeartbeats 8000000 in
theorem rep_any (many : Int) (r : Rep) (w : World) (h0 : -1000000 ≤ many) (h1 : many ≤ 140737488355328) : Calls Tryz.prog 50 #[.int .i64 many, r.v] w (RetE w (repE many r)) := by
  obtain ⟨E, hE⟩ : ∃ q, repE many r = q := ⟨_, rfl⟩
  rw [hE]
  have HE := Lib.hid hE
  clear hE
  have HL := Lib.hid (repB_lims many r)
  have HB : Hid (Blk (w.alloc (.cells #[.int .i64 r.st, .int .i64 r.no, .int .i64 r.mi, .int .i64 r.ar, .string r.call, .int .i64 r.vol] 55)) w.heap.size r.cells) := Blk.newH w r.cells 55 w.heap.size rfl
  have hw : IntKind.i64.wrap (many - 1) = many - 1 := IntWalk.i64_in _ (by omega)
  go_enter Tryz.func50, Tryz.ntmps50
  go_wp2_with fail
  cases hl : limsB (lims1 many r)
  · refine (wl_lit (lims1 many r) false hl (by simp) rfl (by simp [lims1]) rfl).mono ?_
    rintro e w1 ⟨rfl, B⟩
    have HR : Hid (E = 220) := by rw [← HE.out, repE_of (b := false) (by rw [HL.out, hl]; rfl)]; rfl
    clear hl
    go_wp2_with fail
    go_ret
    rw [HR.out]
    exact ⟨rfl, ext_trans (ext_alloc (ext_refl _) _) B⟩
  refine (wl_lit (lims1 many r) true hl (by simp) rfl (by simp [lims1]) rfl).mono ?_
  rintro e w1 ⟨rfl, B⟩
  have HB1 := Lib.hid (HB.out.ext B)
  have HW := Lib.hid (ext_trans (ext_alloc (ext_refl w) (.cells #[.int .i64 r.st, .int .i64 r.no, .int .i64 r.mi, .int .i64 r.ar, .string r.call, .int .i64 r.vol] 55)) B)
  have c4 := HB1.out.c 4 _ rfl
  have bl := HB1.out.lt
  clear B
  go_wp2_with fail
  refine (name_any r.call _).mono ?_
  rintro e w2 ⟨rfl, rfl⟩
  cases hn : nameB r.call
  · have HR : Hid (E = 220) := by rw [← HE.out, repE_of (b := false) (by rw [HL.out, hl, hn]; rfl)]; rfl
    clear hl hn
    go_wp2_with fail
    go_ret
    rw [HR.out]
    exact ⟨rfl, HW.out⟩
  · have HR : Hid (E = 0) := by rw [← HE.out, repE_of (b := true) (by rw [HL.out, hl, hn]; rfl)]; rfl
    clear hl hn
    go_wp2_with fail
    go_ret
    rw [HR.out]
    exact ⟨rfl, HW.out⟩
theorem rep_at {many : Int} {r : Rep} {w : World} (e : Int) (he : repE many r = e) (h0 : -1000000 ≤ many) (h1 : many ≤ 140737488355328) : Calls Tryz.prog 50 #[.int .i64 many, r.v] w (RetE w e) := by
  subst he; exact rep_any many r w h0 h1
theorem risB_step {n last : Int} {l : List Int} {k : Nat} {v : Int} (hv : l[k]? = some v) (h : (decide (last < v) && decide (v < n)) = true) : risB n last (l.drop k) = risB n v (l.drop (k + 1)) := by
  obtain ⟨hk, rfl⟩ := List.getElem?_eq_some_iff.1 hv
  rw [List.drop_eq_getElem_cons hk, risB, h, Bool.true_and]
theorem risB_no {n last : Int} {l : List Int} {k : Nat} {v : Int} (hv : l[k]? = some v) (h : (decide (last < v) && decide (v < n)) = false) : risB n last (l.drop k) = false := by
  obtain ⟨hk, rfl⟩ := List.getElem?_eq_some_iff.1 hv
  rw [List.drop_eq_getElem_cons hk, risB, h, Bool.false_and]
def lims2 (n : Int) (s : Stn) : List Lim := [⟨n, 1, 64⟩, ⟨s.sh, 0, 3⟩, ⟨s.fa, 0, 3⟩]
theorem stnB_lims (n : Int) (s : Stn) : stnB n s = (limsB (lims2 n s) && decide (0 < s.vs.l.length) && risB n (-1) s.vs.l) := by
  simp [stnB, limsB, lims2, Bool.and_assoc]
set_option maxRecDepth 100000 in
set_option maxHeartbeats 8000000 in
theorem stn_any (n : Int) (s : Stn) (w : World) (hs : Stn.ok w s) : Calls Tryz.prog 47 #[.int .i64 n, s.v] w (RetE w (stnE n s)) := by
  obtain ⟨E, hE⟩ : ∃ q, stnE n s = q := ⟨_, rfl⟩
  rw [hE]
  have HE := Lib.hid hE
  clear hE
  have HL := Lib.hid (stnB_lims n s)
  have HB : Hid (Blk (w.alloc (.cells #[.slice s.vs.A s.vs.l.length s.vs.c, .int .i64 s.sh, .int .i64 s.fa] 41)) w.heap.size s.cells) := Blk.newH w s.cells 41 w.heap.size rfl
  have HS0 := Lib.hid hs
  have hsl := SliceOf.ok.len hs
  unfold maxLen at hsl
  clear hs
  go_enter Tryz.func47, Tryz.ntmps47
  go_wp2_with fail
  cases hl : limsB (lims2 n s)
  · refine (wl_lit (lims2 n s) false hl (by simp) rfl (by simp [lims2]) rfl).mono ?_
    rintro e w1 ⟨rfl, B⟩
    have HR : Hid (E = 220) := by rw [← HE.out, stnE_of (b := false) (by rw [HL.out, hl]; rfl)]; rfl
    clear hl
    go_wp2_with fail
    go_ret
    rw [HR.out]
    exact ⟨rfl, ext_trans (ext_alloc (ext_refl _) _) B⟩
  refine (wl_lit (lims2 n s) true hl (by simp) rfl (by simp [lims2]) rfl).mono ?_
  rintro e w1 ⟨rfl, B⟩
  have HB1 := Lib.hid (HB.out.ext B)
  have HW := Lib.hid (ext_trans (ext_alloc (ext_refl w) (.cells #[.slice s.vs.A s.vs.l.length s.vs.c, .int .i64 s.sh, .int .i64 s.fa] 41)) B)
  have HLL := Lib.hid hl
  have HSO : Hid (SliceOf.ok ic 1 (fun _ n => (Lit.int .i64 n).wf = true) w1 s.vs) := ints.ext (show SliceOf.ok ic 1 (fun _ n => (Lit.int .i64 n).wf = true) w s.vs from HS0.out) HW.out
  have c0 := HB1.out.c 0 _ rfl
  have bl := HB1.out.lt
  clear B hl
  by_cases h1 : s.vs.l.length = 0
  · have e1 : ((s.vs.l.length : Int) == 0) = true := beq_iff_eq.2 (by omega)
    have HR : Hid (E = 220) := by rw [← HE.out, stnE_of (b := false) (by rw [HL.out, h1]; simp)]; rfl
    clear h1
    go_wp2_with fail
    go_ret
    rw [HR.out]
    exact ⟨rfl, HW.out⟩
  have e1 : ((s.vs.l.length : Int) == 0) = false := beq_eq_false_iff_ne.2 (by omega)
  have HZ : Hid (stnB n s = risB n (-1) s.vs.l) := by rw [HL.out, HLL.out, decide_eq_true (show 0 < s.vs.l.length by omega)]; rfl
  clear h1 HL HLL
  go_wp2_with fail
  clear c0 e1
  go_loopw [5, 28] (fun a i wr => ∃ (k : Nat) (last : Int), k ≤ s.vs.l.length ∧ a = .int .i64 last ∧ i = .int .i64 k ∧ Hid (stnB n s = risB n last (s.vs.l.drop k)) ∧ wr = w1) (fun _ i _ => s.vs.l.length - (intOf i).toNat)
  case atStart => exact ⟨0, -1, Nat.zero_le _, rfl, rfl, HZ.out, rfl⟩
  case round =>
    obtain ⟨k, last, hk, rfl, rfl, HQ, hw⟩ := hrel
    obtain rfl : w1 = wr := hw.symm
    by_cases hlt : k < s.vs.l.length
    · have hlt' : (k : Int) < s.vs.l.length := by omega
      obtain ⟨v, q1, o1, hv, hA, hb1, hc⟩ := HSO.out.slc.at_ hlt
      have HV := Lib.hid hv
      have d0 := hc 0 _ rfl
      simp only [Nat.mul_one, Nat.add_zero] at d0
      rw [hA]
      clear hc hv
      by_cases g1 : v ≤ last
      · have e1 : decide (v ≤ last) = true := decide_eq_true g1
        have HR : Hid (E = 220) := by rw [← HE.out, stnE_of (b := false) (HQ.out.trans (risB_no HV.out (by simp; omega)))]; rfl
        go_wp2_with fail
        go_ret
        rw [HR.out]
        exact ⟨rfl, HW.out⟩
      have e1 : decide (v ≤ last) = false := decide_eq_false g1
      by_cases g2 : n ≤ v
      · have e2 : decide (v ≥ n) = true := decide_eq_true g2
        have HR : Hid (E = 220) := by rw [← HE.out, stnE_of (b := false) (HQ.out.trans (risB_no HV.out (by simp; omega)))]; rfl
        go_wp2_with fail
        go_ret
        rw [HR.out]
        exact ⟨rfl, HW.out⟩
      · have e2 : decide (v ≥ n) = false := decide_eq_false g2
        have HN := Lib.hid (HQ.out.trans (risB_step HV.out (by simp; omega)))
        go_wp2_with fail
        try rw [← hA]
        first | exact ⟨⟨k + 1, v, by omega, rfl, by go_num, HN.out, by first | rfl | trivial⟩, by simp [intOf] <;> omega⟩ | (go_roundw; all_goals first | exact ⟨k + 1, v, by omega, rfl, by go_num, HN.out, by first | rfl | trivial⟩ | (simp [intOf] <;> omega))
    · have hlt' : decide ((k : Int) < s.vs.l.length) = false := decide_eq_false (by omega)
      have hd : s.vs.l.drop k = [] := List.drop_eq_nil_of_le (by omega)
      rw [hd] at HQ
      have HR : Hid (E = 0) := by rw [← HE.out, stnE_of (b := true) HQ.out]; rfl
      clear hd
      go_wp2_with fail
      go_ret
      rw [HR.out]
      exact ⟨rfl, HW.out⟩
theorem stn_at {n : Int} {s : Stn} {w : World} (e : Int) (he : stnE n s = e) (hs : Stn.ok w s) : Calls Tryz.prog 47 #[.int .i64 n, s.v] w (RetE w e) := by
  subst he; exact stn_any n s w hs
end Go.Proofs.YtjiojpoiocdnmaaGreat
/- Stations: the reference's. -/
set_option linter.unusedSimpArgs false
set_option linter.unusedVariables false
namespace Go.Proofs.YtjiojpoiocdnmaaGreat
open Go.RowKit
structure Prv (l : List Int) (k : Nat) (last : Int) : Prop where
  lo : -1 ≤ last
  zero : k = 0 → last = -1
  prev : ∀ j, k = j + 1 → l[j]? = some last
theorem Prv.next {l : List Int} {k : Nat} {v : Int} (h0 : 0 ≤ v) (hv : l[k]? = some v) : Prv l (k + 1) v :=
  ⟨by omega, fun h => by omega, fun j h => by
    have e : j = k := by omega
    rw [e]; exact hv⟩
end Go.Proofs.YtjiojpoiocdnmaaGreat
/- The reference's divisions: divided, divides. -/
set_option linter.unusedSimpArgs false
set_option linter.unusedVariables false
namespace Go.Proofs.YtjiojpoiocdnmaaGreat
open Go.RowKit
end Go.Proofs.YtjiojpoiocdnmaaGreat
/- The reference's check of configurations; a way. -/
set_option linter.unusedSimpArgs false
set_option linter.unusedVariables false
namespace Go.Proofs.YtjiojpoiocdnmaaGreat
open Go.RowKit
end Go.Proofs.YtjiojpoiocdnmaaGreat
/- The reference's check of tables. -/
set_option linter.unusedSimpArgs false
set_option linter.unusedVariables false
namespace Go.Proofs.YtjiojpoiocdnmaaGreat
open Go.RowKit
end Go.Proofs.YtjiojpoiocdnmaaGreat
/- Paths: is one valid for tables? The program's check and the reference's. -/
set_option linter.unusedSimpArgs false
set_option linter.unusedVariables false
namespace Go.Proofs.YtjiojpoiocdnmaaGreat
open Go.RowKit
/-- A path that is valid for tables. -/
def pathB (t : Tab) (p : Pth) : Bool := decide (0 ≤ p.way) && decide (p.way < t.ws.l.length) && decide (p.ts.l.length = ((t.ws.l[p.way.toNat]?).map (fun x => x.legs.l.length + 1)).getD 0) && risB 65536 (-1) p.ts.l
def pathE (t : Tab) (p : Pth) : Int := if pathB t p then 0 else 160
theorem pathE_of {t : Tab} {p : Pth} {b : Bool} (h : pathB t p = b) : pathE t p = if b then 0 else 160 := by unfold pathE; rw [h]
set_option maxRecDepth 100000 in
set_option maxHeartbeats 16000000 in
theorem path_any (t : Tab) (p : Pth) (w : World) (ht : Tab.ok w t) (hp : Pth.ok w p) (hleg : ∀ x ∈ t.ws.l, x.legs.l.length ≤ 8) : Calls Tryz.prog 55 #[t.v, p.v] w (RetE w (pathE t p)) := by
  obtain ⟨E, hE⟩ : ∃ q, pathB t p = q := ⟨_, rfl⟩
  have HD : Hid (pathB t p = (decide (0 ≤ p.way) && decide (p.way < t.ws.l.length) && decide (p.ts.l.length = ((t.ws.l[p.way.toNat]?).map (fun x => x.legs.l.length + 1)).getD 0) && risB 65536 (-1) p.ts.l)) := rfl
  rw [pathE_of hE]
  obtain ⟨F, hF⟩ : ∃ q : Int, (if E then (0 : Int) else 160) = q := ⟨_, rfl⟩
  rw [hF]
  have HF := Lib.hid hF
  clear hF
  have HE := Lib.hid hE
  clear hE
  obtain ⟨W, hW⟩ : ∃ W, (w.alloc (.cells #[.int .i64 t.n, .slice t.ss.A t.ss.l.length t.ss.c, .slice t.cs.A t.cs.l.length t.cs.c, .slice t.ws.A t.ws.l.length t.ws.c, .slice t.ms.A t.ms.l.length t.ms.c, .slice t.ks.A t.ks.l.length t.ks.c] 28)).alloc (.cells #[.int .i64 p.way, .slice p.ts.A p.ts.l.length p.ts.c] 71) = W := ⟨_, rfl⟩
  have HB : Hid (Blk W w.heap.size t.cells) := by rw [← hW]; exact (Blk.newH w t.cells 28 w.heap.size rfl).alloc _
  have HPB : Hid (Blk W (w.heap.size + 1) p.cells) := by rw [← hW]; exact Blk.newH (w.alloc _) p.cells 71 (w.heap.size + 1) (by simp)
  have HW : Hid (Below w.heap.size w W) := by rw [← hW]; exact ext_alloc (ext_alloc (ext_refl w) _) _
  have HT := Lib.hid (ht.ext HW.out)
  have HPO : Hid (SliceOf.ok ic 1 (fun _ n => (Lit.int .i64 n).wf = true) W p.ts) := ints.ext (show SliceOf.ok ic 1 (fun _ n => (Lit.int .i64 n).wf = true) w p.ts from hp) HW.out
  have hpl := HPO.out.len
  have hwl := HT.out.2.2.1.len
  have HLEG := Lib.hid hleg
  unfold maxLen at hpl hwl
  have b0 := HB.out.c 0 _ rfl
  have bt := HB.out.lt
  have bl := HPB.out.lt
  clear ht hp hleg b0
  go_enter Tryz.func55, Tryz.ntmps55
  go_wp2_with fail
  clear hW
  by_cases h1 : p.way < 0
  · have e1 : decide (p.way < 0) = true := decide_eq_true h1
    have HX : Hid (E = false) := by rw [← HE.out, HD.out, decide_eq_false (show ¬ 0 ≤ p.way by omega)]; rfl
    clear h1
    have SS := Lib.hid (show ∀ w', Below W.heap.size W w' → (fun w' => Below W.heap.size W w' ∧ w'.cell? ⟨w.heap.size + 1, 0, none⟩ = some (.int .i64 p.way)) w' from fun w' h => ⟨h, (HPB.out.ext h).c 0 _ rfl⟩)
    refine rgB 26 SS (ext_drew (ext_refl _)) (fun Q7 hQ7 hN7 hHeld => ?_)
    refine rgT 0 (some 7) hQ7 hHeld ?_; refine rgT 1 (some 8) hQ7 hHeld ?_; refine rgT 2 (some 9) hQ7 hHeld ?_; refine rgT 3 (some 10) hQ7 hHeld ?_; refine rgS 4 (some 11) hQ7 hHeld ?_; refine rgS 5 (some 12) hQ7 hHeld ?_; refine rgS 6 (some 13) hQ7 hHeld ?_; refine rgS 7 (some 14) hQ7 hHeld ?_; refine rgS 8 (some 15) hQ7 hHeld ?_; refine rgS 9 (some 16) hQ7 hHeld ?_; refine rgT 10 (some 17) hQ7 hHeld ?_
    refine rgT 11 (some 18) hQ7 hHeld ?_; refine rgS 12 (some 19) hQ7 hHeld ?_; refine rgS 13 (some 20) hQ7 hHeld ?_; refine rgS 14 (some 21) hQ7 hHeld ?_; refine rgS 15 (some 22) hQ7 hHeld ?_; refine rgS 16 (some 23) hQ7 hHeld ?_; refine rgS 17 (some 24) hQ7 hHeld ?_; refine rgS 18 (some 25) hQ7 hHeld ?_; refine rgS 19 (some 26) hQ7 hHeld ?_; refine rgS 20 (some 27) hQ7 hHeld ?_; refine rgS 21 (some 28) hQ7 hHeld ?_
    refine rgS 22 (some 29) hQ7 hHeld ?_; refine rgS 23 (some 30) hQ7 hHeld ?_; refine rgS 24 (some 31) hQ7 hHeld ?_; refine rgT 25 (some 32) hQ7 hHeld ?_
    refine rg_end (by kernel_rfl) (hN7 _ _ ?_) _
    clear hQ7 hN7 Q7
    have BX := hHeld.1
    clear SS
    go_wp2_with fail
    go_ret
    have hF := HF.out
    rw [HX.out] at hF
    rw [← hF]
    exact ⟨rfl, ext_trans HW.out BX⟩
  have e1 : decide (p.way < 0) = false := decide_eq_false h1
  by_cases h2 : (t.ws.l.length : Int) ≤ p.way
  · have e2 : decide (p.way ≥ (t.ws.l.length : Int)) = true := decide_eq_true h2
    have HX : Hid (E = false) := by rw [← HE.out, HD.out, decide_eq_false (show ¬ p.way < (t.ws.l.length : Int) by omega), Bool.and_false]; rfl
    clear h1
    have SS := Lib.hid (show ∀ w', Below W.heap.size W w' → (fun w' => Below W.heap.size W w' ∧ w'.cell? ⟨w.heap.size, 3, none⟩ = some (.slice t.ws.A t.ws.l.length t.ws.c) ∧ w'.cell? ⟨w.heap.size + 1, 0, none⟩ = some (.int .i64 p.way)) w' from fun w' h => ⟨h, (HB.out.ext h).c 3 _ rfl, (HPB.out.ext h).c 0 _ rfl⟩)
    refine rgB 26 SS (ext_drew (ext_refl _)) (fun Q7 hQ7 hN7 hHeld => ?_)
    refine rgT 0 (some 7) hQ7 hHeld ?_; refine rgT 1 (some 8) hQ7 hHeld ?_; refine rgT 2 (some 9) hQ7 hHeld ?_; refine rgT 3 (some 10) hQ7 hHeld ?_; refine rgT 4 (some 11) hQ7 hHeld ?_; refine rgT 5 (some 12) hQ7 hHeld ?_; refine rgT 6 (some 13) hQ7 hHeld ?_; refine rgT 7 (some 14) hQ7 hHeld ?_; refine rgT 8 (some 15) hQ7 hHeld ?_; refine rgT 9 (some 16) hQ7 hHeld ?_; refine rgT 10 (some 17) hQ7 hHeld ?_
    refine rgT 11 (some 18) hQ7 hHeld ?_; refine rgS 12 (some 19) hQ7 hHeld ?_; refine rgS 13 (some 20) hQ7 hHeld ?_; refine rgS 14 (some 21) hQ7 hHeld ?_; refine rgS 15 (some 22) hQ7 hHeld ?_; refine rgS 16 (some 23) hQ7 hHeld ?_; refine rgS 17 (some 24) hQ7 hHeld ?_; refine rgS 18 (some 25) hQ7 hHeld ?_; refine rgS 19 (some 26) hQ7 hHeld ?_; refine rgS 20 (some 27) hQ7 hHeld ?_; refine rgS 21 (some 28) hQ7 hHeld ?_
    refine rgS 22 (some 29) hQ7 hHeld ?_; refine rgS 23 (some 30) hQ7 hHeld ?_; refine rgS 24 (some 31) hQ7 hHeld ?_; refine rgT 25 (some 32) hQ7 hHeld ?_
    refine rg_end (by kernel_rfl) (hN7 _ _ ?_) _
    clear hQ7 hN7 Q7
    have BX := hHeld.1
    clear SS
    go_wp2_with fail
    go_ret
    have hF := HF.out
    rw [HX.out] at hF
    rw [← hF]
    exact ⟨rfl, ext_trans HW.out BX⟩
  have e2 : decide (p.way ≥ (t.ws.l.length : Int)) = false := decide_eq_false h2
  have hw0 : 0 ≤ p.way := by omega
  have hw1 : p.way < (t.ws.l.length : Int) := by omega
  obtain ⟨x, q1, o1, hx, hA, hb1, hc⟩ := HT.out.2.2.1.slc.at_ (k := p.way.toNat) (by omega)
  have hx8 := HLEG.out x (List.mem_of_getElem? hx)
  have d2 := hc 2 _ rfl
  have HA := Lib.hid hA
  have HL : Hid (((t.ws.l[p.way.toNat]?).map (fun x => x.legs.l.length + 1)).getD 0 = x.legs.l.length + 1) := by rw [Hid, hx]; rfl
  clear hc hx hA h1 h2
  have hwx : IntKind.i64.wrap ((x.legs.l.length : Int) + 1) = (x.legs.l.length : Int) + 1 := IntWalk.i64_in _ (by omega)
  by_cases h3 : p.ts.l.length = x.legs.l.length + 1
  rotate_left
  · have e3 : ((p.ts.l.length : Int) != (x.legs.l.length : Int) + 1) = true := bne_iff_ne.2 (by omega)
    have HX : Hid (E = false) := by rw [← HE.out, HD.out, HL.out, decide_eq_false h3, Bool.and_false]; rfl
    clear h3
    have SS := Lib.hid (show ∀ w', Below W.heap.size W w' → (fun w' => Below W.heap.size W w' ∧ w'.cell? ⟨w.heap.size, 3, none⟩ = some (.slice (some ⟨q1, o1, none⟩) t.ws.l.length t.ws.c) ∧ w'.cell? ⟨w.heap.size + 1, 0, none⟩ = some (.int .i64 p.way) ∧ w'.cell? ⟨w.heap.size + 1, 1, none⟩ = some (.slice p.ts.A p.ts.l.length p.ts.c) ∧ w'.cell? ⟨q1, o1 + p.way.toNat * 3 + 2, none⟩ = some (.slice x.legs.A x.legs.l.length x.legs.c)) w' from fun w' h => ⟨h, (by have q := (HB.out.ext h).c 3 _ rfl; rw [HA.out] at q; exact q), (HPB.out.ext h).c 0 _ rfl, (HPB.out.ext h).c 1 _ rfl, (h.cell (p := ⟨q1, o1 + p.way.toNat * 3 + 2, none⟩) hb1).trans d2⟩)
    refine rgB 26 SS (ext_drew (ext_refl _)) (fun Q7 hQ7 hN7 hHeld => ?_)
    refine rgT 0 (some 7) hQ7 hHeld ?_; refine rgT 1 (some 8) hQ7 hHeld ?_; refine rgT 2 (some 9) hQ7 hHeld ?_; refine rgT 3 (some 10) hQ7 hHeld ?_; refine rgT 4 (some 11) hQ7 hHeld ?_; refine rgT 5 (some 12) hQ7 hHeld ?_; refine rgT 6 (some 13) hQ7 hHeld ?_; refine rgT 7 (some 14) hQ7 hHeld ?_; refine rgT 8 (some 15) hQ7 hHeld ?_; refine rgT 9 (some 16) hQ7 hHeld ?_; refine rgT 10 (some 17) hQ7 hHeld ?_
    refine rgT 11 (some 18) hQ7 hHeld ?_; refine rgT 12 (some 19) hQ7 hHeld ?_; refine rgT 13 (some 20) hQ7 hHeld ?_; refine rgT 14 (some 21) hQ7 hHeld ?_; refine rgT 15 (some 22) hQ7 hHeld ?_; refine rgT 16 (some 23) hQ7 hHeld ?_; refine rgT 17 (some 24) hQ7 hHeld ?_; refine rgT 18 (some 25) hQ7 hHeld ?_; refine rgT 19 (some 26) hQ7 hHeld ?_; refine rgT 20 (some 27) hQ7 hHeld ?_; refine rgT 21 (some 28) hQ7 hHeld ?_
    refine rgT 22 (some 29) hQ7 hHeld ?_; refine rgT 23 (some 30) hQ7 hHeld ?_; refine rgT 24 (some 31) hQ7 hHeld ?_; refine rgT 25 (some 32) hQ7 hHeld ?_
    refine rg_end (by kernel_rfl) (hN7 _ _ ?_) _
    clear hQ7 hN7 Q7
    have BX := hHeld.1
    clear SS
    go_wp2_with fail
    go_ret
    have hF := HF.out
    rw [HX.out] at hF
    rw [← hF]
    exact ⟨rfl, ext_trans HW.out BX⟩
  have e3 : ((p.ts.l.length : Int) != (x.legs.l.length : Int) + 1) = false := bne_eq_false_iff_eq.2 (by omega)
  have HZ : Hid (E = risB 65536 (-1) p.ts.l) := by rw [← HE.out, HD.out, HL.out, decide_eq_true hw0, decide_eq_true hw1, decide_eq_true h3]; rfl
  have h3l : p.ts.l.length ≤ 9 := by omega
  clear h3 HD HL
  have SS := Lib.hid (show ∀ w', Below W.heap.size W w' → (fun w' => Below W.heap.size W w' ∧ w'.cell? ⟨w.heap.size, 3, none⟩ = some (.slice (some ⟨q1, o1, none⟩) t.ws.l.length t.ws.c) ∧ w'.cell? ⟨w.heap.size + 1, 0, none⟩ = some (.int .i64 p.way) ∧ w'.cell? ⟨w.heap.size + 1, 1, none⟩ = some (.slice p.ts.A p.ts.l.length p.ts.c) ∧ w'.cell? ⟨q1, o1 + p.way.toNat * 3 + 2, none⟩ = some (.slice x.legs.A x.legs.l.length x.legs.c)) w' from fun w' h => ⟨h, (by have q := (HB.out.ext h).c 3 _ rfl; rw [HA.out] at q; exact q), (HPB.out.ext h).c 0 _ rfl, (HPB.out.ext h).c 1 _ rfl, (h.cell (p := ⟨q1, o1 + p.way.toNat * 3 + 2, none⟩) hb1).trans d2⟩)
  refine rgB 26 SS (ext_drew (ext_refl _)) (fun Q7 hQ7 hN7 hHeld => ?_)
  refine rgT 0 (some 7) hQ7 hHeld ?_; refine rgT 1 (some 8) hQ7 hHeld ?_; refine rgT 2 (some 9) hQ7 hHeld ?_; refine rgT 3 (some 10) hQ7 hHeld ?_; refine rgT 4 (some 11) hQ7 hHeld ?_; refine rgT 5 (some 12) hQ7 hHeld ?_; refine rgT 6 (some 13) hQ7 hHeld ?_; refine rgT 7 (some 14) hQ7 hHeld ?_; refine rgT 8 (some 15) hQ7 hHeld ?_; refine rgT 9 (some 16) hQ7 hHeld ?_; refine rgT 10 (some 17) hQ7 hHeld ?_
  refine rgT 11 (some 18) hQ7 hHeld ?_; refine rgT 12 (some 19) hQ7 hHeld ?_; refine rgT 13 (some 20) hQ7 hHeld ?_; refine rgT 14 (some 21) hQ7 hHeld ?_; refine rgT 15 (some 22) hQ7 hHeld ?_; refine rgT 16 (some 23) hQ7 hHeld ?_; refine rgT 17 (some 24) hQ7 hHeld ?_; refine rgT 18 (some 25) hQ7 hHeld ?_; refine rgT 19 (some 26) hQ7 hHeld ?_; refine rgT 20 (some 27) hQ7 hHeld ?_; refine rgT 21 (some 28) hQ7 hHeld ?_
  refine rgT 22 (some 29) hQ7 hHeld ?_; refine rgT 23 (some 30) hQ7 hHeld ?_; refine rgT 24 (some 31) hQ7 hHeld ?_; refine rgT 25 (some 32) hQ7 hHeld ?_
  refine rg_end (by kernel_rfl) (hN7 _ _ ?_) _
  clear hQ7 hN7 Q7
  have BX := hHeld.1
  clear SS
  obtain ⟨u, hu⟩ : ∃ z, z = W.drew := ⟨_, rfl⟩
  rw [← hu] at BX ⊢
  clear hu
  have HU := Lib.hid BX
  have c1 := (HPB.out.ext HU.out).c 1 _ rfl
  have cl := (HPB.out.ext HU.out).lt
  clear BX d2 bt bl
  go_wp2_with fail
  clear c1 cl e1 e2 e3
  go_loopw [36] (fun i wr => ∃ (k : Nat) (last : Int), k ≤ p.ts.l.length ∧ i = .int .i64 k ∧ Hid (Prv p.ts.l k last) ∧ Hid (E = risB 65536 last (p.ts.l.drop k)) ∧ Hid (Below W.heap.size W wr)) (fun i _ => p.ts.l.length - (intOf i).toNat)
  case atStart => exact ⟨0, -1, Nat.zero_le _, rfl, ⟨by omega, fun _ => rfl, fun j h => by omega⟩, HZ.out, HU.out⟩
  case round =>
    obtain ⟨k, last, hk, rfl, HP, HQ, HR⟩ := hrel
    have c1 := (HPB.out.ext HR.out).c 1 _ rfl
    have cl := (HPB.out.ext HR.out).lt
    by_cases hlt : k < p.ts.l.length
    · have hlt' : (k : Int) < p.ts.l.length := by omega
      obtain ⟨v, q2, o2, hv, hA2, hb2, hc2⟩ := (HPO.out.slc.ext HR.out).at_ hlt
      have HV := Lib.hid hv
      have f0 := hc2 0 _ rfl
      simp only [Nat.mul_one, Nat.add_zero] at f0
      rw [hA2]
      rw [hA2] at c1
      have HA2 := Lib.hid hA2
      have hlo := HP.out.lo
      clear hc2 hv hA2
      by_cases g1 : v < 0
      · have e4 : decide (v < 0) = true := decide_eq_true g1
        have HX : Hid (E = false) := HQ.out.trans (risB_no HV.out (by simp; omega))
        clear g1
        go_wp2_with fail
        go_ret
        have hF := HF.out
        rw [HX.out] at hF
        rw [← hF]
        exact ⟨rfl, ext_trans HW.out HR.out⟩
      have e4 : decide (v < 0) = false := decide_eq_false g1
      by_cases g2 : 65535 < v
      · have e5 : decide (v > 65535) = true := decide_eq_true g2
        have HX : Hid (E = false) := HQ.out.trans (risB_no HV.out (by simp; omega))
        clear g2
        go_wp2_with fail
        go_ret
        have hF := HF.out
        rw [HX.out] at hF
        rw [← hF]
        exact ⟨rfl, ext_trans HW.out HR.out⟩
      have e5 : decide (v > 65535) = false := decide_eq_false g2
      have v0 : 0 ≤ v := by omega
      by_cases hk0 : k = 0
      · have hl0 := HP.out.zero hk0
        have HN := Lib.hid (HQ.out.trans (risB_step HV.out (by rw [hl0]; simp; omega)))
        have HP2 : Hid (Prv p.ts.l (k + 1) v) := Prv.next v0 HV.out
        subst hk0
        simp only [Nat.zero_add, Nat.add_zero] at f0
        clear hl0
        go_wp2_with fail
        try rw [← HA2.out]
        first | exact ⟨⟨0 + 1, v, by omega, by go_num, HP2.out, HN.out, HR.out⟩, by simp [intOf] <;> omega⟩ | (go_roundw; all_goals first | exact ⟨0 + 1, v, by omega, by go_num, HP2.out, HN.out, HR.out⟩ | (simp [intOf] <;> omega))
      · have hk2 : 0 < k := by omega
        obtain ⟨j, hj⟩ : ∃ j, k = j + 1 := ⟨k - 1, by omega⟩
        have HPV := Lib.hid (HP.out.prev j hj)
        obtain ⟨y, q3, o3, hy, hA3, hb3, hc3⟩ := (HPO.out.slc.ext HR.out).at_ (k := j) (by omega)
        have hyl : y = last := Option.some.inj (hy.symm.trans HPV.out)
        subst hyl
        rw [HA2.out] at hA3
        cases hA3
        have g0 := hc3 0 _ rfl
        simp only [Nat.mul_one, Nat.add_zero] at g0
        have hw2 : IntKind.i64.wrap ((k : Int) - 1) = (j : Int) := by rw [IntWalk.i64_in _ (by omega)]; omega
        have hj1 : (j : Int) < p.ts.l.length := by omega
        clear hy hc3 hj hk0
        by_cases hg : y ≥ v
        · have e6 : decide (v ≤ y) = true := decide_eq_true hg
          have HX : Hid (E = false) := HQ.out.trans (risB_no HV.out (by simp; omega))
          clear hg
          go_wp2_with fail
          go_ret
          have hF := HF.out
          rw [HX.out] at hF
          rw [← hF]
          exact ⟨rfl, ext_trans HW.out HR.out⟩
        · have e6 : decide (v ≤ y) = false := decide_eq_false hg
          have HN := Lib.hid (HQ.out.trans (risB_step HV.out (by simp; omega)))
          have HP2 : Hid (Prv p.ts.l (k + 1) v) := Prv.next v0 HV.out
          clear hg
          go_wp2_with fail
          try rw [← HA2.out]
          first | exact ⟨⟨k + 1, v, by omega, by go_num, HP2.out, HN.out, HR.out⟩, by simp [intOf] <;> omega⟩ | (go_roundw; all_goals first | exact ⟨k + 1, v, by omega, by go_num, HP2.out, HN.out, HR.out⟩ | (simp [intOf] <;> omega))
    · have hlt' : decide ((k : Int) < p.ts.l.length) = false := decide_eq_false (by omega)
      have hd : p.ts.l.drop k = [] := List.drop_eq_nil_of_le (by omega)
      rw [hd] at HQ
      have HX : Hid (E = true) := HQ.out
      clear hd
      go_wp2_with fail
      go_ret
      have hF := HF.out
      rw [HX.out] at hF
      rw [← hF]
      exact ⟨rfl, ext_trans HW.out HR.out⟩
theorem path_at {t : Tab} {p : Pth} {w : World} (r : Int) (hr : pathE t p = r) (ht : Tab.ok w t) (hp : Pth.ok w p) (hleg : ∀ x ∈ t.ws.l, x.legs.l.length ≤ 8) : Calls Tryz.prog 55 #[t.v, p.v] w (RetE w r) := by
  subst hr; exact path_any t p w ht hp hleg
end Go.Proofs.YtjiojpoiocdnmaaGreat
