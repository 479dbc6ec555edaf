/- Leaves; the way as an iterator. -/
import Derived.Test.YtemdebheinbolaaG
import Derived.Test.YtemdebheinbolaaRf
import Derived.BigFrameIn
import Derived.BigRegionIn
namespace Go.Proofs.Ytemdebheinbolaa
open Go.RowKit Go.Shelf
attribute [local go_sem] Oper.semAt_some
theorem check_at {A : Option Addr} {n c : Nat} {l : List Nd} {w : World} (r : Int) (hr : chkE l = r) (hn : n = l.length) (ha : TOk w A l) : Calls Try.prog 16 #[.slice A n c] w (RetE w r) := by
  subst hr hn; exact check_any A c l w ha
theorem rcheck_at {A : Option Addr} {n c : Nat} {l : List Nd} {w : World} (r : Int) (hr : chkE l = r) (hn : n = l.length) (ha : TOk w A l) : Calls Try.prog 17 #[.slice A n c] w (RetE w r) := by
  subst hr hn; exact rcheck_any A c l w ha
def leavesR (l : List Nd) : List Int × Int := if vld l then (leaves l, 0) else ([], 180)
/-- What hands back a list of numbers and an error. -/
def RetP (w : World) (r : List Int × Int) (e : Ending) (w' : World) : Prop := ∃ A c, e = .returned (.tuple #[.slice A r.1.length c, .int .i64 r.2]) ∧ Slc w' ic 1 A r.1 ∧ Below w.heap.size w w'
theorem chk_yes {l : List Nd} (h : vld l = true) : chkE l = 0 := by simp [chkE, h]
theorem chk_no {l : List Nd} (h : vld l = false) : chkE l = 180 := by simp [chkE, h]
theorem leaves_any (A : Option Addr) (c : Nat) (l : List Nd) (w : World) (ha : TOk w A l) : Calls Try.prog 13 #[.slice A l.length c] w (RetP w (leavesR l)) := by
  cases hv : vld l
  · have HR : Hid (leavesR l = ([], 180)) := by simp [Hid, leavesR, hv]
    have HV := Lib.hid hv
    clear hv
    go_enter Try.func13, Try.ntmps13
    go_wp2_with fail
    refine (check_at 180 (chk_no HV.out) rfl ha).mono ?_
    rintro e w1 ⟨rfl, B1⟩
    go_wp2_with fail
    go_ret2
    rw [HR.out]
    exact ⟨none, 0, rfl, Slc.nil, B1⟩
  · have HR : Hid (leavesR l = (leaves l, 0)) := by simp [Hid, leavesR, hv]
    have HV := Lib.hid hv
    have hT := tree_of hv
    have h32 := hT.hi
    clear hv hT
    go_enter Try.func13, Try.ntmps13
    go_wp2_with fail
    refine (check_at 0 (chk_yes HV.out) rfl ha).mono ?_
    rintro e w1 ⟨rfl, B1⟩
    go_wp2_with fail
    refine (leavesF0 27 (fun _ => true) A c l w1 (ha.ext B1).nd (by omega) enters27 (fun x W _ _ => leaves1_any x W)).mono ?_
    rintro e w2 ⟨A2, c2, rfl, hS, B2⟩
    go_wp2_with fail
    go_ret2
    rw [HR.out]
    exact ⟨A2, c2, rfl, hS, ext_trans B1 B2⟩
theorem rleaves_any (A : Option Addr) (c : Nat) (l : List Nd) (w : World) (ha : TOk w A l) : Calls Try.prog 14 #[.slice A l.length c] w (RetP w (leavesR l)) := by
  cases hv : vld l
  · have HR : Hid (leavesR l = ([], 180)) := by simp [Hid, leavesR, hv]
    have HV := Lib.hid hv
    clear hv
    go_enter Try.func14, Try.ntmps14
    go_wp2_with fail
    refine (rcheck_at 180 (chk_no HV.out) rfl ha).mono ?_
    rintro e w1 ⟨rfl, B1⟩
    go_wp2_with fail
    go_ret2
    rw [HR.out]
    exact ⟨none, 0, rfl, Slc.nil, B1⟩
  · have HR : Hid (leavesR l = (leaves l, 0)) := by simp [Hid, leavesR, hv]
    have HV := Lib.hid hv
    have hT := tree_of hv
    have h32 := hT.hi
    clear hv hT
    go_enter Try.func14, Try.ntmps14
    go_wp2_with fail
    refine (rcheck_at 0 (chk_yes HV.out) rfl ha).mono ?_
    rintro e w1 ⟨rfl, B1⟩
    have HA := ha.ext B1
    clear ha
    go_wp2_with fail
    go_loopw [4, 5] (fun v i wr => ∃ k : Nat, k ≤ l.length ∧ i = .int .i64 k ∧ Own wr w1.heap.size 3 ic 1 v (lvs l (fun _ => true) k) ∧ Below w1.heap.size w1 wr) (fun _ i _ => l.length - (intOf i).toNat)
    case atStart => exact ⟨0, Nat.zero_le _, rfl, Own.made w1 _ 3 ic 1 (Nat.le_refl _), ext_alloc (ext_refl w1) _⟩
    case round =>
      obtain ⟨k, hk, rfl, hO, hB⟩ := hrel
      obtain ⟨A2, c2, rfl, hc2, _, _⟩ := hO.form
      by_cases hlt : k < l.length
      · have hlt' : (k : Int) < l.length := by omega
        obtain ⟨r1, hr1⟩ : ∃ r, leafB l k = r := ⟨_, rfl⟩
        have H1 := Lib.hid hr1
        have HS := Lib.hid (lvs_step l (fun _ => true) k)
        have hlen := lvs_len l (fun _ => true) k
        rw [hr1, Bool.and_true] at HS
        clear hr1
        cases r1
        · go_wp2_with fail
          refine (risleaf_any A c l k _ (HA.ext hB).nd (by omega)).mono ?_
          rintro e w2 ⟨rfl, rfl⟩
          rw [H1.out]
          go_wp2_with fail
          go_roundw
          case rel => exact ⟨k + 1, hlt, by go_num, by rw [HS.out]; exact hO, hB⟩
          case measure => simp [intOf]; omega
        · have hS := slc_litH wr [(k : Int)] #[.int .i64 k] 3 (enc := ic) (sz := 1) (fun _ => rfl) rfl wr.heap.size rfl
          obtain ⟨v', w5, hrun, hO5, hg5, hat5⟩ := (hO.alloc (.cells #[.int .i64 k] 3)).append I25 25 (ys := [(k : Int)]) (m := 1) rfl 1 hS (by simp only [List.length_cons, List.length_nil]; omega) (by unfold maxLen; simp only [List.length_cons, List.length_nil]; omega) (by have := hB.size; simp; omega)
          have hB5 : Below w1.heap.size w1 w5 := (ext_alloc hB _).grown hg5 (by have := hB.size; simp; omega) (fun r e => (hO.lt r e).2)
          have HRUN := Lib.hid hrun
          have HO5 := Lib.hid hO5
          clear hrun hO5 hg5 hat5 hS hO
          go_wp2_with fail
          refine (risleaf_any A c l k _ (HA.ext hB).nd (by omega)).mono ?_
          rintro e w2 ⟨rfl, rfl⟩
          rw [H1.out]
          go_wp2_with (at_builtin; refine wpList_append_run rfl (.tmp 19) (.tmp 21) 25 rfl (.slice A2 (lvs l (fun _ => true) k).length c2) (.slice (some ⟨wr.heap.size, 0, none⟩) 1 1) rfl rfl HRUN.out ?_)
          go_roundw
          case rel => exact ⟨k + 1, hlt, by go_num, by rw [HS.out]; exact HO5.out, hB5⟩
          case measure => simp [intOf]; omega
      · have hlt' : ¬ (k : Int) < l.length := by omega
        obtain rfl : k = l.length := by omega
        go_wp2_with fail
        go_ret2
        rw [HR.out]
        exact ⟨A2, c2, rfl, hO.slc (fun _ => rfl) (by decide), ext_trans B1 hB⟩
/-- What the iterator reads: its captured boxes, the nodes. -/
structure WCap (W : World) (B : Nat) (ex : Nat → Prop) (bn bl : Nat) (A : Option Addr) (c : Nat) (l : List Nd) (node : Int) : Prop where
  nB : bn < B
  lB : bl < B
  nx : ¬ ex bn
  lx : ¬ ex bl
  n : W.cell? ⟨bn, 0, none⟩ = some (.int .i64 node)
  lc : W.cell? ⟨bl, 0, none⟩ = some (.slice A l.length c)
  ls : Slc W Nd.cells 3 A l
  lsB : ∀ b o s, A = some ⟨b, o, s⟩ → b < B ∧ ¬ ex b
theorem Kx.cell {B : Nat} {ex : Nat → Prop} {W W' : World} (h : Kx B ex W W') {b o : Nat} (hb : b < B) (hx : ¬ ex b) : W'.cell? ⟨b, o, none⟩ = W.cell? ⟨b, o, none⟩ := World.cell?_of_block (w := W) (a := ⟨b, o, none⟩) (h b hb hx)
theorem Kx.slc {α : Type} {B : Nat} {ex : Nat → Prop} {W W' : World} (h : Kx B ex W W') (hs : W.heap.size ≤ W'.heap.size) {enc : α → List Value} {sz : Nat} {A : Option Addr} {l : List α} (hl : Slc W enc sz A l) (hA : ∀ b o s, A = some ⟨b, o, s⟩ → b < B ∧ ¬ ex b) : Slc W' enc sz A l := fun i x hx => by
  obtain ⟨b, o, e, hlt, hc⟩ := hl i x hx
  obtain ⟨h1, h2⟩ := hA b o none e
  exact ⟨b, o, e, Nat.lt_of_lt_of_le hlt hs, fun j v hj => (h.cell h1 h2).trans (hc j v hj)⟩
theorem WCap.keep {W W' : World} {B : Nat} {ex : Nat → Prop} {bn bl : Nat} {A : Option Addr} {c : Nat} {l : List Nd} {node : Int} (h : WCap W B ex bn bl A c l node) (hk : Kx B ex W W') (hs : W.heap.size ≤ W'.heap.size) : WCap W' B ex bn bl A c l node :=
  ⟨h.nB, h.lB, h.nx, h.lx, (hk.cell h.nB h.nx).trans h.n, (hk.cell h.lB h.lx).trans h.lc, hk.slc hs h.ls h.lsB, h.lsB⟩
def encI (x : Int) : Array Value := #[.int .i64 x]
set_option maxRecDepth 100000 in
set_option maxHeartbeats 800000 in
theorem way1_in (n : Nat) (hn : 1 ≤ n) (y : Nat) (B : Nat) (ex : Nat → Prop) (bn bl : Nat) (A : Option Addr) (c : Nat) (l : List Nd) (node : Int) (hT : Tree l) (hnd : -1 ≤ node ∧ node < l.length)
    (J Jx : List Int → World → Prop) (W : World) (hJ : AbidesFrom W.heap.size J)
    (hY : ∀ (pre : List Int) (x : Int) (W1 : World), J pre W1 → (0 ≤ x ∧ x < l.length) → pre.length < (way l node).length → YieldAt Fence.wide (n - 1) Try.prog y (encI x) W1 fun e W' =>
      (e = .returned (.bool true) ∧ J (pre ++ [x]) W' ∧ (Kx B ex W1 W' ∧ W1.heap.size ≤ W'.heap.size)) ∨ (e = .returned (.bool false) ∧ Jx (pre ++ [x]) W'))
    (hC : WCap W B ex bn bl A c l node) (hJ0 : J [] W) :
    CallsIn Fence.wide n Try.prog 44 #[.func (.yield y) #[] #[], .pointer (some ⟨bn, 0, none⟩), .pointer (some ⟨bl, 0, none⟩)] W fun e W' => (∃ v, e = .returned v) ∧
      ((∃ ys, ys = way l node ∧ J ys W') ∨ (∃ pre, pre <+: way l node ∧ Jx pre W')) := by
  have HY := Lib.hid hY
  have HJ := Lib.hid hJ
  have HC := Lib.hid hC
  have HT := Lib.hid hT
  have cn := hC.n
  have h32 := hT.hi
  obtain ⟨nd0, nd1⟩ := hnd
  clear hY hJ hC hT
  refine callsIn_of_wp Try.func44 rfl trivial ?_ rfl
  simp only [Try.ntmps44, List.size_toArray, List.length_cons, List.length_nil, Nat.reduceAdd, Nat.reduceSub, Array.replicate_succ, Array.replicate_zero, List.push_toArray, List.append_toArray, List.nil_append, List.cons_append]
  gi_wp2
  gi_loopw [4] (fun i wr => ∃ (x : Int) (pre : List Int), -1 ≤ x ∧ x < l.length ∧ i = .int .i64 x ∧ Hid (way l node = pre ++ way l x) ∧ J pre wr ∧ Hid (Kx B ex W wr) ∧ W.heap.size ≤ wr.heap.size) (fun i _ => (intOf i + 1).toNat)
  case atStart => exact ⟨node, [], nd0, nd1, rfl, rfl, hJ0, Kx.refl _, Nat.le_refl _⟩
  case round =>
    obtain ⟨x, pre, hx0, hx1, rfl, HW, hJs, HK, hsz⟩ := hrel
    clear cn
    by_cases hx : 0 ≤ x
    · have HWC : Hid (way l x = x :: way l (par l x.toNat)) := HT.out.way_cons hx hx1
      obtain ⟨fn, tmps, assign, body, hy, hR⟩ := HY.out pre x wr hJs ⟨hx, hx1⟩ (by rw [HW.out, HWC.out]; simp)
      simp only [encI] at hy
      gi_wp2_with fail
      refine hR.mono ?_
      rintro e W3 (⟨rfl, hJ3, hk3, hs3⟩ | ⟨rfl, hJx3⟩)
      · clear hy hR
        have hc := HC.out.keep (HK.out.t hk3) (Nat.le_trans hsz hs3)
        have cl := hc.lc
        obtain ⟨nd, b1, o1, hnx, hA, hb1, hcx⟩ := hc.ls.at_ (k := x.toNat) (by omega)
        have d0 := hcx 0 _ rfl
        simp only [Nat.add_zero] at d0
        rw [hA] at cl
        have hp := par_at hnx
        have hpl := HT.out.par_lt (i := x.toNat) (by omega)
        rw [hp] at hpl
        have hxl : x < l.length := hx1
        have HP := Lib.hid hp
        clear hp hcx hnx hc
        gi_wp2_with fail
        go_roundw
        case rel => exact ⟨nd.p, pre ++ [x], by omega, by omega, rfl, by rw [HW.out, HWC.out, HP.out]; simp [Hid], hJ3, HK.out.t hk3, by omega⟩
        case measure => simp [intOf]; omega
      · clear hy hR
        gi_wp2_with fail
        go_end0
        exact ⟨⟨_, rfl⟩, .inr ⟨_, ⟨way l (par l x.toNat), by rw [HW.out, HWC.out]; simp⟩, hJx3⟩⟩
    · have hneg : way l x = [] := way_neg (by omega)
      rw [hneg, List.append_nil] at HW
      clear hneg
      have hx2 : x < 0 := by omega
      have hx3 : decide (0 ≤ x) = false := by simpa using hx
      gi_wp2_with fail
      refine ⟨(fun f h => by cases h), ?_⟩
      gi_wp2_with fail
      go_end0
      exact ⟨⟨_, rfl⟩, .inl ⟨_, rfl, by rw [HW.out]; exact hJs⟩⟩
end Go.Proofs.Ytemdebheinbolaa
