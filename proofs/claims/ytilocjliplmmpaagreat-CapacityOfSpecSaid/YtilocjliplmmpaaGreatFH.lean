/- Leaves; the way as an iterator. -/
import Derived.Test.YtilocjliplmmpaaGreatFG
import Derived.Test.YtilocjliplmmpaaGreatRf
import Derived.BigFrameIn
import Derived.BigRegionIn
set_option linter.unusedSimpArgs false
set_option linter.unusedVariables false
namespace Go.Proofs.YtilocjliplmmpaaGreat
open Go.RowKit Go.Shelf
attribute [local go_sem] Oper.semAt_some
theorem check_at {A : Option Addr} {n c : Nat} {l : List Nd} {w : World} (r : Int) (hr : chkE l = r) (hn : n = l.length) (ha : TOk w A l) : Calls Tryz.prog 68 #[.slice A n c] w (RetE w r) := by
  subst hr hn; exact check_any A c l w ha
theorem rcheck_at {A : Option Addr} {n c : Nat} {l : List Nd} {w : World} (r : Int) (hr : chkE l = r) (hn : n = l.length) (ha : TOk w A l) : Calls Tryz.prog 75 #[.slice A n c] w (RetE w r) := by
  subst hr hn; exact rcheck_any A c l w ha
def leavesR (l : List Nd) : List Int × Int := if vld l then (leaves l, 0) else ([], 180)
/-- What hands back a list of numbers and an error. -/
def RetP (w : World) (r : List Int × Int) (e : Ending) (w' : World) : Prop := ∃ A c, e = .returned (.tuple #[.slice A r.1.length c, .int .i64 r.2]) ∧ Slc w' ic 1 A r.1 ∧ Below w.heap.size w w'
theorem chk_yes {l : List Nd} (h : vld l = true) : chkE l = 0 := by simp [chkE, h]
theorem chk_no {l : List Nd} (h : vld l = false) : chkE l = 180 := by simp [chkE, h]
theorem leaves_any (A : Option Addr) (c : Nat) (l : List Nd) (w : World) (ha : TOk w A l) : Calls Tryz.prog 32 #[.slice A l.length c] w (RetP w (leavesR l)) := by
  cases hv : vld l
  · have HR : Hid (leavesR l = ([], 180)) := by simp [Hid, leavesR, hv]
    have HV := Lib.hid hv
    clear hv
    go_enter Tryz.func32, Tryz.ntmps32
    go_wp2_with fail
    refine (check_at 180 (chk_no HV.out) rfl ha).mono ?_
    rintro e w1 ⟨rfl, B1⟩
    go_wp2_with fail
    go_ret2
    rw [HR.out]
    exact ⟨none, 0, rfl, Slc.nil, B1⟩
  · have HR : Hid (leavesR l = (leaves l, 0)) := by simp [Hid, leavesR, hv]
    have HV := Lib.hid hv
    have hT := tree_of hv
    have h32 := hT.hi
    clear hv hT
    go_enter Tryz.func32, Tryz.ntmps32
    go_wp2_with fail
    refine (check_at 0 (chk_yes HV.out) rfl ha).mono ?_
    rintro e w1 ⟨rfl, B1⟩
    go_wp2_with fail
    refine (leavesF0 70 (fun _ => true) A c l w1 (ha.ext B1).nd (by omega) enters27 (fun x W _ _ => leaves1_any x W)).mono ?_
    rintro e w2 ⟨A2, c2, rfl, hS, B2⟩
    go_wp2_with fail
    go_ret2
    rw [HR.out]
    exact ⟨A2, c2, rfl, hS, ext_trans B1 B2⟩
theorem rleaves_any (A : Option Addr) (c : Nat) (l : List Nd) (w : World) (ha : TOk w A l) : Calls Tryz.prog 36 #[.slice A l.length c] w (RetP w (leavesR l)) := by
  cases hv : vld l
  · have HR : Hid (leavesR l = ([], 180)) := by simp [Hid, leavesR, hv]
    have HV := Lib.hid hv
    clear hv
    go_enter Tryz.func36, Tryz.ntmps36
    go_wp2_with fail
    refine (rcheck_at 180 (chk_no HV.out) rfl ha).mono ?_
    rintro e w1 ⟨rfl, B1⟩
    go_wp2_with fail
    go_ret2
    rw [HR.out]
    exact ⟨none, 0, rfl, Slc.nil, B1⟩
  · have HR : Hid (leavesR l = (leaves l, 0)) := by simp [Hid, leavesR, hv]
    have HV := Lib.hid hv
    have hT := tree_of hv
    have h32 := hT.hi
    clear hv hT
    go_enter Tryz.func36, Tryz.ntmps36
    go_wp2_with fail
    refine (rcheck_at 0 (chk_yes HV.out) rfl ha).mono ?_
    rintro e w1 ⟨rfl, B1⟩
    have HA := ha.ext B1
    clear ha
    go_wp2_with fail
    go_loopw [4, 5] (fun v i wr => ∃ k : Nat, k ≤ l.length ∧ i = .int .i64 k ∧ Own wr w1.heap.size 3 ic 1 v (lvs l (fun _ => true) k) ∧ Below w1.heap.size w1 wr) (fun _ i _ => l.length - (intOf i).toNat)
    case atStart => exact ⟨0, Nat.zero_le _, rfl, Own.made w1 _ 3 ic 1 (Nat.le_refl _), ext_alloc (ext_refl w1) _⟩
    case round =>
      obtain ⟨k, hk, rfl, hO, hB⟩ := hrel
      obtain ⟨A2, c2, rfl, hc2, _, _⟩ := hO.form
      by_cases hlt : k < l.length
      · have hlt' : (k : Int) < l.length := by omega
        obtain ⟨r1, hr1⟩ : ∃ r, leafB l k = r := ⟨_, rfl⟩
        have H1 := Lib.hid hr1
        have HS := Lib.hid (lvs_step l (fun _ => true) k)
        have hlen := lvs_len l (fun _ => true) k
        rw [hr1, Bool.and_true] at HS
        clear hr1
        cases r1
        · go_wp2_with fail
          refine (risleaf_any A c l k _ (HA.ext hB).nd (by omega)).mono ?_
          rintro e w2 ⟨rfl, rfl⟩
          rw [H1.out]
          go_wp2_with fail
          go_roundw
          case rel => exact ⟨k + 1, hlt, by go_num, by rw [HS.out]; exact hO, hB⟩
          case measure => simp [intOf]; omega
        · have hS := slc_litH wr [(k : Int)] #[.int .i64 k] 3 (enc := ic) (sz := 1) (fun _ => rfl) rfl wr.heap.size rfl
          obtain ⟨v', w5, hrun, hO5, hg5, hat5⟩ := (hO.alloc (.cells #[.int .i64 k] 3)).append I25 32 (ys := [(k : Int)]) (m := 1) rfl 1 hS (by simp only [List.length_cons, List.length_nil]; omega) (by unfold maxLen; simp only [List.length_cons, List.length_nil]; omega) (by have := hB.size; simp; omega)
          have hB5 : Below w1.heap.size w1 w5 := (ext_alloc hB _).grown hg5 (by have := hB.size; simp; omega) (fun r e => (hO.lt r e).2)
          have HRUN := Lib.hid hrun
          have HO5 := Lib.hid hO5
          clear hrun hO5 hg5 hat5 hS hO
          go_wp2_with fail
          refine (risleaf_any A c l k _ (HA.ext hB).nd (by omega)).mono ?_
          rintro e w2 ⟨rfl, rfl⟩
          rw [H1.out]
          go_wp2_with (at_builtin; refine wpList_append_run rfl (.tmp 19) (.tmp 21) 32 rfl (.slice A2 (lvs l (fun _ => true) k).length c2) (.slice (some ⟨wr.heap.size, 0, none⟩) 1 1) rfl rfl HRUN.out ?_)
          go_roundw
          case rel => exact ⟨k + 1, hlt, by go_num, by rw [HS.out]; exact HO5.out, hB5⟩
          case measure => simp [intOf]; omega
      · have hlt' : ¬ (k : Int) < l.length := by omega
        obtain rfl : k = l.length := by omega
        go_wp2_with fail
        go_ret2
        rw [HR.out]
        exact ⟨A2, c2, rfl, hO.slc (fun _ => rfl) (by decide), ext_trans B1 hB⟩
/-- What the iterator reads: its captured boxes, the nodes. -/
structure WCap (W : World) (B : Nat) (ex : Nat → Prop) (bn bl : Nat) (A : Option Addr) (c : Nat) (l : List Nd) (node : Int) : Prop where
  nB : bn < B
  lB : bl < B
  nx : ¬ ex bn
  lx : ¬ ex bl
  n : W.cell? ⟨bn, 0, none⟩ = some (.int .i64 node)
  lc : W.cell? ⟨bl, 0, none⟩ = some (.slice A l.length c)
  ls : Slc W Nd.cells 3 A l
  lsB : ∀ b o s, A = some ⟨b, o, s⟩ → b < B ∧ ¬ ex b
theorem Kx.cell {B : Nat} {ex : Nat → Prop} {W W' : World} (h : Kx B ex W W') {b o : Nat} (hb : b < B) (hx : ¬ ex b) : W'.cell? ⟨b, o, none⟩ = W.cell? ⟨b, o, none⟩ := World.cell?_of_block (w := W) (a := ⟨b, o, none⟩) (h b hb hx)
theorem Kx.slc {α : Type} {B : Nat} {ex : Nat → Prop} {W W' : World} (h : Kx B ex W W') (hs : W.heap.size ≤ W'.heap.size) {enc : α → List Value} {sz : Nat} {A : Option Addr} {l : List α} (hl : Slc W enc sz A l) (hA : ∀ b o s, A = some ⟨b, o, s⟩ → b < B ∧ ¬ ex b) : Slc W' enc sz A l := fun i x hx => by
  obtain ⟨b, o, e, hlt, hc⟩ := hl i x hx
  obtain ⟨h1, h2⟩ := hA b o none e
  exact ⟨b, o, e, Nat.lt_of_lt_of_le hlt hs, fun j v hj => (h.cell h1 h2).trans (hc j v hj)⟩
theorem WCap.keep {W W' : World} {B : Nat} {ex : Nat → Prop} {bn bl : Nat} {A : Option Addr} {c : Nat} {l : List Nd} {node : Int} (h : WCap W B ex bn bl A c l node) (hk : Kx B ex W W') (hs : W.heap.size ≤ W'.heap.size) : WCap W' B ex bn bl A c l node :=
  ⟨h.nB, h.lB, h.nx, h.lx, (hk.cell h.nB h.nx).trans h.n, (hk.cell h.lB h.lx).trans h.lc, hk.slc hs h.ls h.lsB, h.lsB⟩
def encI (x : Int) : Array Value := #[.int .i64 x]
set_option maxRecDepth 100000 in
set_option maxHeartbeats 800000 in
theorem way1_in (n : Nat) (hn : 1 ≤ n) (y : Nat) (B : Nat) (ex : Nat → Prop) (bn bl : Nat) (A : Option Addr) (c : Nat) (l : List Nd) (node : Int) (hT : Tree l) (hnd : -1 ≤ node ∧ node < l.length)
    (J Jx : List Int → World → Prop) (W : World) (hJ : AbidesFrom W.heap.size J)
    (hY : ∀ (pre : List Int) (x : Int) (W1 : World), J pre W1 → (0 ≤ x ∧ x < l.length) → pre.length < (way l node).length → YieldAt Fence.wide (n - 1) Tryz.prog y (encI x) W1 fun e W' =>
      (e = .returned (.bool true) ∧ J (pre ++ [x]) W' ∧ (Kx B ex W1 W' ∧ W1.heap.size ≤ W'.heap.size)) ∨ (e = .returned (.bool false) ∧ Jx (pre ++ [x]) W'))
    (hC : WCap W B ex bn bl A c l node) (hJ0 : J [] W) :
    CallsIn Fence.wide n Tryz.prog 103 #[.func (.yield y) #[] #[], .pointer (some ⟨bn, 0, none⟩), .pointer (some ⟨bl, 0, none⟩)] W fun e W' => (∃ v, e = .returned v) ∧
      ((∃ ys, ys = way l node ∧ J ys W') ∨ (∃ pre, pre <+: way l node ∧ Jx pre W')) := by
  have HY := Lib.hid hY
  have HJ := Lib.hid hJ
  have HC := Lib.hid hC
  have HT := Lib.hid hT
  have cn := hC.n
  have h32 := hT.hi
  obtain ⟨nd0, nd1⟩ := hnd
  clear hY hJ hC hT
  refine callsIn_of_wp Tryz.func103 rfl trivial ?_ rfl
  simp only [Tryz.ntmps103, List.size_toArray, List.length_cons, List.length_nil, Nat.reduceAdd, Nat.reduceSub, Array.replicate_succ, Array.replicate_zero, List.push_toArray, List.append_toArray, List.nil_append, List.cons_append]
  gi_wp2
  gi_loopw [4] (fun i wr => ∃ (x : Int) (pre : List Int), -1 ≤ x ∧ x < l.length ∧ i = .int .i64 x ∧ Hid (way l node = pre ++ way l x) ∧ J pre wr ∧ Hid (Kx B ex W wr) ∧ W.heap.size ≤ wr.heap.size) (fun i _ => (intOf i + 1).toNat)
  case atStart => exact ⟨node, [], nd0, nd1, rfl, rfl, hJ0, Kx.refl _, Nat.le_refl _⟩
  case round =>
    obtain ⟨x, pre, hx0, hx1, rfl, HW, hJs, HK, hsz⟩ := hrel
    clear cn
    by_cases hx : 0 ≤ x
    · have HWC : Hid (way l x = x :: way l (par l x.toNat)) := HT.out.way_cons hx hx1
      obtain ⟨fn, tmps, assign, body, hy, hR⟩ := HY.out pre x wr hJs ⟨hx, hx1⟩ (by rw [HW.out, HWC.out]; simp)
      simp only [encI] at hy
      gi_wp2_with fail
      refine hR.mono ?_
      rintro e W3 (⟨rfl, hJ3, hk3, hs3⟩ | ⟨rfl, hJx3⟩)
      · clear hy hR
        have hc := HC.out.keep (HK.out.t hk3) (Nat.le_trans hsz hs3)
        have cl := hc.lc
        obtain ⟨nd, b1, o1, hnx, hA, hb1, hcx⟩ := hc.ls.at_ (k := x.toNat) (by omega)
        have d0 := hcx 0 _ rfl
        simp only [Nat.add_zero] at d0
        rw [hA] at cl
        have hp := par_at hnx
        have hpl := HT.out.par_lt (i := x.toNat) (by omega)
        rw [hp] at hpl
        have hxl : x < l.length := hx1
        have HP := Lib.hid hp
        clear hp hcx hnx hc
        gi_wp2_with fail
        go_roundw
        case rel => exact ⟨nd.p, pre ++ [x], by omega, by omega, rfl, by rw [HW.out, HWC.out, HP.out]; simp [Hid], hJ3, HK.out.t hk3, by omega⟩
        case measure => simp [intOf]; omega
      · clear hy hR
        gi_wp2_with fail
        go_end0
        exact ⟨⟨_, rfl⟩, .inr ⟨_, ⟨way l (par l x.toNat), by rw [HW.out, HWC.out]; simp⟩, hJx3⟩⟩
    · have hneg : way l x = [] := way_neg (by omega)
      rw [hneg, List.append_nil] at HW
      clear hneg
      have hx2 : x < 0 := by omega
      have hx3 : decide (0 ≤ x) = false := by simpa using hx
      gi_wp2_with fail
      refine ⟨(fun f h => by cases h), ?_⟩
      gi_wp2_with fail
      go_end0
      exact ⟨⟨_, rfl⟩, .inl ⟨_, rfl, by rw [HW.out]; exact hJs⟩⟩
end Go.Proofs.YtilocjliplmmpaaGreat
/- At. -/
set_option linter.unusedSimpArgs false
set_option linter.unusedVariables false
namespace Go.Proofs.YtilocjliplmmpaaGreat
open Go.RowKit Go.Shelf
attribute [local go_sem] Oper.semAt_some
theorem way_any (A : Option Addr) (c n : Nat) (node : Int) (w : World) : Calls Tryz.prog 73 #[.slice A n c, .int .i64 node] w fun e w' => e = .returned (.func (.func 103) #[] #[.pointer (some ⟨w.heap.size + 1, 0, none⟩), .pointer (some ⟨w.heap.size, 0, none⟩)]) ∧ (w.alloc (.cells #[.slice A n c] 44)).alloc (.cells #[.int .i64 node] 3) = w' := by
  go_enter Tryz.func73, Tryz.ntmps73
  go_wp2
  go_ret
  exact ⟨rfl, rfl⟩
def KpE (B : Nat) (ex : Nat → Prop) (W W' : World) : Prop := Kx B ex W W' ∧ W.heap.size ≤ W'.heap.size
theorem KpE.t {B : Nat} {ex : Nat → Prop} {X Y Z : World} (h : KpE B ex X Y) (k : KpE B ex Y Z) : KpE B ex X Z := ⟨h.1.t k.1, Nat.le_trans h.2 k.2⟩
theorem KpE.b {B : Nat} {ex : Nat → Prop} {w : World} (hB : B ≤ w.heap.size) (W : World) (l : Nat) (o o' : Obj) (hl : w.heap.size ≤ l) (h : W.heap[l]? = some o) (h1 : o.isCells = false) (h2 : o.isWalk = false) : KpE B ex W (W.putObj l o') :=
  ⟨Kx.b hB W l o o' hl h h1 h2, (grownBy_putObj' W l o').size⟩
/-- A node's number. -/
abbrev NI (l : List Nd) := { y : Int // 0 ≤ y ∧ y < l.length }
def rawN {l : List Nd} (p : List (NI l)) : List Int := p.map (fun y => y.1)
theorem rawN_snoc {l : List Nd} (p : List (NI l)) (y : NI l) : rawN (p ++ [y]) = rawN p ++ [y.1] := by simp [rawN]
theorem rawN_len {l : List Nd} (p : List (NI l)) : (rawN p).length = p.length := by simp [rawN]
def encN {l : List Nd} (y : NI l) : Array Value := #[.int .i64 y.1]
theorem way_stops (n : Nat) (hn : 1 ≤ n) (B : Nat) (ex : Nat → Prop) (bn bl : Nat) (A : Option Addr) (c : Nat) (l : List Nd) (node : Int) (hT : Tree l) (hnd : -1 ≤ node ∧ node < l.length) (w : World) (hB : B ≤ w.heap.size) (hC : WCap w B ex bn bl A c l node) :
    SeqStopsK Fence.wide n Tryz.prog 103 #[.pointer (some ⟨bn, 0, none⟩), .pointer (some ⟨bl, 0, none⟩)] (encN (l := l)) (KpE B ex) (fun ys => rawN ys = way l node) (fun pre => rawN pre <+: way l node) (way l node).length w :=
  fun y J Jx W hW hJ _ hY hJ0 => (way1_in n hn y B ex bn bl A c l node hT hnd (fun pre W => ∃ p, rawN p = pre ∧ J p W) (fun pre W => ∃ p, rawN p = pre ∧ Jx p W) W
    (fun s X Y row ⟨p, e, hj⟩ hg hr => ⟨p, e, hJ p X Y row hj hg hr⟩)
    (fun pre x W1 ⟨p, e, hj⟩ hx hlen => (hY p ⟨x, hx⟩ W1 hj (by rw [← rawN_len, e]; exact hlen)).mono fun e' W' h => by
      rcases h with ⟨h1, h2, h3⟩ | ⟨h1, h2⟩
      · exact .inl ⟨h1, ⟨_, by rw [rawN_snoc, e], h2⟩, h3⟩
      · exact .inr ⟨h1, _, by rw [rawN_snoc, e], h2⟩)
    (hC.keep (Kx.below hW hB) hW.size) ⟨[], rfl, hJ0⟩).mono fun e W' ⟨h1, h2⟩ => ⟨h1, by
      rcases h2 with ⟨ys, e1, p, e2, hj⟩ | ⟨pre, e1, p, e2, hj⟩
      · exact .inl ⟨p, e2.trans e1, hj⟩
      · exact .inr ⟨p, by show rawN p <+: _; rw [e2]; exact e1, hj⟩⟩
/-- The captured boxes as 'way' lays them. -/
theorem WCap.new (w : World) (A : Option Addr) (c : Nat) (l : List Nd) (node : Int) (ex : Nat → Prop) (ha : Slc w Nd.cells 3 A l) (hex : ∀ k, ex k → w.heap.size + 2 ≤ k) (hne : 0 < l.length) :
    WCap ((w.alloc (.cells #[.slice A l.length c] 44)).alloc (.cells #[.int .i64 node] 3)) (w.heap.size + 2) ex (w.heap.size + 1) w.heap.size A c l node := by
  refine ⟨by omega, by omega, fun h => by have := hex _ h; omega, fun h => by have := hex _ h; omega, ?_, ?_, (ha.alloc _).alloc _, ?_⟩
  · have := (Boxed.new (w.alloc (.cells #[.slice A l.length c] 44)) 3 (.int .i64 node)).cell
    rwa [World.size_alloc] at this
  · have := ((Boxed.new w 44 (.slice A l.length c)).alloc (.cells #[.int .i64 node] 3)).cell
    exact this
  · rintro b o s rfl
    obtain ⟨x, b', o', _, e, hlt, _⟩ := ha.at_ hne
    cases e
    exact ⟨by omega, fun h => by have := hex _ h; omega⟩
def RetI (w : World) (r : Int × Int) (e : Ending) (w' : World) : Prop := e = .returned (.tuple #[.int .i64 r.1, .int .i64 r.2]) ∧ Below w.heap.size w w'
theorem isleaf_at {A : Option Addr} {n c : Nat} {l : List Nd} {x : Int} {w : World} (r : Bool) (hr : leafB l x = r) (hn : n = l.length) (ha : Slc w Nd.cells 3 A l) (h : l.length ≤ 1000) : Calls Tryz.prog 72 #[.slice A n c, .int .i64 x] w (RetB w r) := by
  subst hr hn; exact isleaf_any A c l x w ha h
theorem cell_turn {w w' : World} {row : Option Nat} {b o : Nat} {v : Value} (h : w.cell? ⟨b, o, none⟩ = some v) (hg : w.grownBy w' row) (hr : ∀ r, row = some r → ∃ ob : Obj, w.heap[r]? = some ob ∧ ob.isCells = false) : w'.cell? ⟨b, o, none⟩ = some v ∧ w'.frozen? ⟨b, o, none⟩ = w.frozen? ⟨b, o, none⟩ := by
  have hlt : b < w.heap.size := by
    simp only [World.cell?] at h
    split at h
    · rename_i hh; exact (Array.getElem?_eq_some_iff.1 hh).1
    · cases h
  have hne : some b ≠ row := by
    intro e'
    obtain ⟨ob, h1, h2⟩ := hr b e'.symm
    simp only [World.cell?, h1] at h
    cases ob <;> simp_all [Obj.isCells]
  have hb := hg.block b hlt hne
  exact ⟨(World.cell?_of_block (w := w) (a := ⟨b, o, none⟩) hb).trans h, World.frozen?_of_block (w := w) (a := ⟨b, o, none⟩) hb⟩
/-- The boxes of At. -/
structure AtB (w : World) (b : Nat) (A : Option Addr) (n c : Nat) (m r e : Int) : Prop where
  lt : b + 1 + 1 + 1 < w.heap.size
  l : w.cell? ⟨b, 0, none⟩ = some (.slice A n c)
  m : w.cell? ⟨b + 1, 0, none⟩ = some (.int .i64 m)
  r : w.cell? ⟨b + 1 + 1, 0, none⟩ = some (.int .i64 r)
  rf : w.frozen? ⟨b + 1 + 1, 0, none⟩ = false
  e : w.cell? ⟨b + 1 + 1 + 1, 0, none⟩ = some (.int .i64 e)
  ef : w.frozen? ⟨b + 1 + 1 + 1, 0, none⟩ = false
theorem AtB.ext {w w' : World} {b : Nat} {A : Option Addr} {n c : Nat} {m r e : Int} (h : AtB w b A n c m r e) (hb : Below w.heap.size w w') : AtB w' b A n c m r e := by
  have := h.lt
  obtain ⟨hc, hf⟩ := bcell hb
  exact ⟨Nat.lt_of_lt_of_le h.lt hb.size, (hc b 0 (by omega)).trans h.l, (hc (b + 1) 0 (by omega)).trans h.m, (hc (b + 1 + 1) 0 (by omega)).trans h.r, (hf (b + 1 + 1) 0 (by omega)).trans h.rf, (hc (b + 1 + 1 + 1) 0 (by omega)).trans h.e, (hf (b + 1 + 1 + 1) 0 (by omega)).trans h.ef⟩
theorem AtB.new (w : World) (A : Option Addr) (n c : Nat) (m : Int) : AtB ((((w.alloc (.cells #[.slice A n c] 44)).alloc (.cells #[.int .i64 m] 3)).alloc (.cells #[.int .i64 0] 3)).alloc (.cells #[.int .i64 0] 38)) w.heap.size A n c m 0 0 :=
  ⟨by simp, (((Boxed.new w 44 (.slice A n c)).alloc _).alloc _).alloc _ |>.cell,
    by have := (((Boxed.new (w.alloc (.cells #[.slice A n c] 44)) 3 (.int .i64 m)).alloc (.cells #[.int .i64 0] 3)).alloc (.cells #[.int .i64 0] 38)).cell; rwa [World.size_alloc] at this,
    by have := ((Boxed.new ((w.alloc (.cells #[.slice A n c] 44)).alloc (.cells #[.int .i64 m] 3)) 3 (.int .i64 0)).alloc (.cells #[.int .i64 0] 38)).cell; rwa [World.size_alloc, World.size_alloc] at this,
    by have := ((Boxed.new ((w.alloc (.cells #[.slice A n c] 44)).alloc (.cells #[.int .i64 m] 3)) 3 (.int .i64 0)).alloc (.cells #[.int .i64 0] 38)).frozen; rwa [World.size_alloc, World.size_alloc] at this,
    by have := (Boxed.new (((w.alloc (.cells #[.slice A n c] 44)).alloc (.cells #[.int .i64 m] 3)).alloc (.cells #[.int .i64 0] 3)) 38 (.int .i64 0)).cell; rwa [World.size_alloc, World.size_alloc, World.size_alloc] at this,
    by have := (Boxed.new (((w.alloc (.cells #[.slice A n c] 44)).alloc (.cells #[.int .i64 m] 3)).alloc (.cells #[.int .i64 0] 3)) 38 (.int .i64 0)).frozen; rwa [World.size_alloc, World.size_alloc, World.size_alloc] at this⟩
theorem AtB.set {w : World} {b : Nat} {A : Option Addr} {n c : Nat} {m r e : Int} (h : AtB w b A n c m r e) (r' e' : Int) : AtB ((w.setCell ⟨b + 1 + 1, 0, none⟩ (.int .i64 r')).setCell ⟨b + 1 + 1 + 1, 0, none⟩ (.int .i64 e')) b A n c m r' e' := by
  have o := fun (W : World) (k j : Nat) (x : Value) (hk : k ≠ j) => World.cell?_setCell_other W ⟨j, 0, none⟩ ⟨k, 0, none⟩ x (by intro e; injection e with e _; omega)
  refine ⟨by simpa using h.lt, ?_, ?_, ?_, by simpa using h.rf, ?_, by simpa using h.ef⟩
  · rw [o _ b (b + 1 + 1 + 1) _ (by omega), o _ b (b + 1 + 1) _ (by omega)]; exact h.l
  · rw [o _ (b + 1) (b + 1 + 1 + 1) _ (by omega), o _ (b + 1) (b + 1 + 1) _ (by omega)]; exact h.m
  · rw [o _ (b + 1 + 1) (b + 1 + 1 + 1) _ (by omega)]; exact World.cell?_setCell_same' _ _ _ (by rw [h.r]; rfl)
  · exact World.cell?_setCell_same' _ _ _ (by rw [o _ (b + 1 + 1 + 1) (b + 1 + 1) _ (by omega), h.e]; rfl)
theorem AtB.turn {w w' : World} {b : Nat} {A : Option Addr} {n c : Nat} {m r e : Int} {row : Option Nat} (h : AtB w b A n c m r e) (hg : w.grownBy w' row) (hr : ∀ r, row = some r → ∃ o : Obj, w.heap[r]? = some o ∧ o.isCells = false) : AtB w' b A n c m r e := by
  have key : ∀ {k : Nat} {v : Value}, w.cell? ⟨k, 0, none⟩ = some v → w'.cell? ⟨k, 0, none⟩ = some v ∧ w'.frozen? ⟨k, 0, none⟩ = w.frozen? ⟨k, 0, none⟩ := fun h => cell_turn h hg hr
  exact ⟨Nat.lt_of_lt_of_le h.lt hg.size, (key h.l).1, (key h.m).1, (key h.r).1, (key h.r).2.trans h.rf, (key h.e).1, (key h.e).2.trans h.ef⟩
theorem find_first (p : Int → Bool) : ∀ {pre : List Int} {y : Int} {L : List Int}, pre ++ [y] <+: L → (∀ z ∈ pre, p z = false) → p y = true → L.find? p = some y
  | [], y, L, ⟨r, hr⟩, _, hy => by rw [← hr]; simp [List.find?_cons, hy]
  | a :: pre, y, L, ⟨r, hr⟩, h, hy => by
    rw [← hr]
    have ih := find_first p (pre := pre) (y := y) (L := pre ++ [y] ++ r) ⟨r, rfl⟩ (fun z hz => h z (by simp [hz])) hy
    simp only [List.cons_append, List.find?_cons, h a (by simp)]
    simpa using ih
theorem set2_below {w W : World} (h : Below w.heap.size w W) (x y : Value) {i j : Nat} (hi : w.heap.size ≤ i) (hj : w.heap.size ≤ j) : Below w.heap.size w ((W.setCell ⟨i, 0, none⟩ x).setCell ⟨j, 0, none⟩ y) :=
  (h.setCell (p := ⟨i, 0, none⟩) hi x).setCell (p := ⟨j, 0, none⟩) hj y
theorem risleaf_at {A : Option Addr} {n c : Nat} {l : List Nd} {x : Int} {w : World} (r : Bool) (hr : leafB l x = r) (hn : n = l.length) (ha : Slc w Nd.cells 3 A l) (h : l.length ≤ 1000) : Calls Tryz.prog 76 #[.slice A n c, .int .i64 x] w fun e w' => e = .returned (.bool r) ∧ w = w' := by
  subst hr hn; exact risleaf_any A c l x w ha h
end Go.Proofs.YtilocjliplmmpaaGreat
/- The reference's Less. -/
set_option linter.unusedSimpArgs false
set_option linter.unusedVariables false
namespace Go.Proofs.YtilocjliplmmpaaGreat
open Go.RowKit
/-- A cut in a block of its own. -/
theorem cutSum_take {a : Bool} {ix m : Int} {cs : List Cut} {k : Nat} {c : Cut} (h : cs[k]? = some c) : cutSum a ix m (cs.take (k + 1)) = cutSum a ix m (cs.take k) + (if mat a ix m c then c.less else 0) := by
  rw [List.take_add_one, h, Option.toList_some, cutSum_app]; simp [cutSum]
theorem cutsAt_of {l : List Nd} {x : Int} {n : Nd} (h : l[x.toNat]? = some n) : cutsAt l x = n.cuts.l := by simp [cutsAt, h]
theorem less_bd {l : List Nd} (T : Tree l) {leaf : Int} {p q : List Int} (h : way l leaf = p ++ q) (a : Bool) (ix m : Int) : 0 ≤ waySum l a ix m p ∧ waySum l a ix m p ≤ 4096 * 33 := by
  have h1 := way_len l leaf
  have h2 := T.waySum_le a ix m p
  rw [h, List.length_append] at h1
  omega
set_option maxHeartbeats 3200000 in
set_option maxRecDepth 100000 in
theorem rless_any (A : Option Addr) (c : Nat) (l : List Nd) (leaf : Int) (a : Bool) (ix m : Int) (w : World) (ha : TOk w A l) : Calls Tryz.prog 39 #[.slice A l.length c, .int .i64 leaf, .bool a, .int .i64 ix, .int .i64 m] w (RetI w (lessR l leaf a ix m)) := by
  cases hv : vld l
  · have HV := Lib.hid hv
    have HR : Hid (lessR l leaf a ix m = (0, 180)) := by simp [Hid, lessR, hv]
    clear hv
    go_enter Tryz.func39, Tryz.ntmps39
    go_wp2_with fail
    refine (rcheck_at 180 (chk_no HV.out) rfl ha).mono ?_
    rintro e w1 ⟨rfl, B1⟩
    go_wp2_with fail
    go_ret2
    rw [HR.out]; exact ⟨rfl, B1⟩
  have T := tree_of hv
  have h32 := T.hi
  have HV := Lib.hid hv
  cases hlf : leafB l leaf
  · have HLF := Lib.hid hlf
    have HR : Hid (lessR l leaf a ix m = (0, 180)) := by simp [Hid, lessR, hlf]
    clear hv T hlf
    go_enter Tryz.func39, Tryz.ntmps39
    go_wp2_with fail
    refine (rcheck_at 0 (chk_yes HV.out) rfl ha).mono ?_
    rintro e w1 ⟨rfl, B1⟩
    go_wp2_with fail
    refine (risleaf_at false HLF.out rfl (ha.ext B1).nd (by omega)).mono ?_
    rintro e w2 ⟨rfl, rfl⟩
    go_wp2_with fail
    go_ret2
    rw [HR.out]; exact ⟨rfl, B1⟩
  have HLF := Lib.hid hlf
  obtain ⟨lf0, lf1, _⟩ := (leafB_iff l leaf).1 hlf
  have HR : Hid (lessR l leaf a ix m = (waySum l a ix m (way l leaf), 0)) := by simp [Hid, lessR, lessN, hv, hlf]
  have HT := Lib.hid T
  obtain ⟨nd0, bb, oo, _, rfl, _, _⟩ := ha.nd.at_ (k := 0) (by have := T.lo; omega)
  clear hv T hlf
  go_enter Tryz.func39, Tryz.ntmps39
  go_wp2_with fail
  refine (rcheck_at 0 (chk_yes HV.out) rfl ha).mono ?_
  rintro e w1 ⟨rfl, B1⟩
  go_wp2_with fail
  refine (risleaf_at true HLF.out rfl (ha.ext B1).nd (by omega)).mono ?_
  rintro e w2 ⟨rfl, rfl⟩
  have HA := ha.ext B1
  clear ha
  go_wp2_with fail
  go_loopw [12, 13] (fun s i wr => ∃ (x : Int) (pre : List Int) (q : Int), -1 ≤ x ∧ x < l.length ∧ i = .int .i64 x ∧ s = .int .i64 q ∧ Hid (q = waySum l a ix m pre) ∧ Hid (way l leaf = pre ++ way l x) ∧ Below w1.heap.size w1 wr) (fun _ i _ => (intOf i + 1).toNat)
  case atStart => exact ⟨leaf, [], 0, by omega, lf1, rfl, rfl, rfl, rfl, ext_refl _⟩
  case round =>
    obtain ⟨x, pre, q, x0, x1, rfl, rfl, HQ, HX, hB⟩ := hrel
    by_cases hx0 : 0 ≤ x
    rotate_left
    · have hn := way_neg (l := l) (n := x) (by omega)
      rw [hn, List.append_nil] at HX
      clear hn
      go_wp2_with fail
      go_ret2
      rw [HR.out, HX.out, ← HQ.out]; exact ⟨rfl, ext_trans B1 hB⟩
    obtain ⟨nd, b1, o1, hx, hA, hbb, hc⟩ := (HA.ext hB).nd.at_ (k := x.toNat) (by omega)
    cases hA
    have hp := par_at hx
    have hpl := HT.out.par_lt (i := x.toNat) (by omega)
    rw [hp] at hpl
    have hcu := cutsAt_of hx
    have HC := Lib.hid ((HA.ext hB).ct nd (List.mem_of_getElem? hx))
    have hcl := (HT.out.nd _ _ hx).many
    have HP := Lib.hid hp
    have HCU := Lib.hid hcu
    have HCS := Lib.hid (fun k => HT.out.cutSum_le (y := x) a ix m k)
    have hbd := less_bd HT.out HX.out a ix m
    rw [← HQ.out] at hbd
    have HND := Lib.hid hx
    have g1 : x < l.length := x1
    clear hx hp hcu hc
    obtain ⟨wo, rfl⟩ : ∃ wo, wo = wr := ⟨_, rfl⟩
    go_wp2_with fail
    go_loopw [12, 14] (fun s i wr => ∃ (k : Nat) (z : Int), k ≤ nd.cuts.l.length ∧ i = .int .i64 k ∧ s = .int .i64 z ∧ Hid (z = q + cutSum a ix m (nd.cuts.l.take k)) ∧ Below wo.heap.size wo wr) (fun _ i _ => nd.cuts.l.length - (intOf i).toNat)
    case atStart => exact ⟨0, q, Nat.zero_le _, rfl, rfl, by simp [Hid, cutSum], ext_refl _⟩
    case round =>
      obtain ⟨k, z, hk, rfl, rfl, HZ, hBo⟩ := hrel
      obtain ⟨nd', b2, o2, hx', hA', hb2, hc'⟩ := ((HA.ext hB).ext hBo).nd.at_ (k := x.toNat) (by omega)
      obtain rfl : nd = nd' := Option.some.inj (HND.out.symm.trans hx')
      have d0 := hc' 0 _ rfl
      have d2 := hc' 2 _ rfl
      simp only [Nat.add_zero] at d0
      cases hA'
      clear hx' hc' hb2
      have hzb := HCS.out k
      rw [HCU.out] at hzb
      have hz := HZ.out
      by_cases hlt : k < nd.cuts.l.length
      rotate_left
      · have HQ2 : Hid (z = waySum l a ix m (pre ++ [x])) := by
          rw [List.take_of_length_le (by omega)] at hz
          rw [Hid, hz, HQ.out, waySum_app]; simp [waySum, HCU.out]
        have HX2 : Hid (way l leaf = (pre ++ [x]) ++ way l nd.p) := by
          rw [Hid, HX.out, HT.out.way_cons hx0 x1, HP.out]; simp
        clear hz hzb
        go_wp2_with fail
        go_roundw
        case rel => exact ⟨nd.p, pre ++ [x], z, by omega, by omega, rfl, rfl, HQ2, HX2, ext_trans hB hBo⟩
        case measure => simp [intOf]; omega
      obtain ⟨cu, b4, o4, hcu, hA4, hb4, hcc⟩ := (HC.out.ext hBo).at_ hlt
      have u0 := hcc 0 _ rfl
      have u1 := hcc 1 _ rfl
      have u2 := hcc 2 _ rfl
      have u3 := hcc 3 _ rfl
      have u4 := hcc 4 _ rfl
      simp only [Nat.add_zero] at u0
      have HST := Lib.hid (cutSum_take (a := a) (ix := ix) (m := m) hcu)
      have hle := badC_no ((HT.out.nd _ _ HND.out).cut cu (List.mem_of_getElem? hcu))
      obtain ⟨_, _, _, l0, l1⟩ := hle
      have hlt' : (k : Int) < nd.cuts.l.length := by omega
      have hz2 : 0 ≤ z ∧ z ≤ 1000000 := by omega
      obtain ⟨z0, z1⟩ := hz2
      rw [hA4] at d2
      clear hcu hcc hz hzb
      obtain ⟨t1, ht1⟩ : ∃ t, (cu.air == a) = t := ⟨_, rfl⟩
      cases t1
      · have HM : Hid (mat a ix m cu = false) := by simp [Hid, mat, ht1]
        go_wp2_with fail
        go_roundw
        case rel => exact ⟨k + 1, z, hlt, by go_num, rfl, by unfold Hid; rw [HST.out, HM.out, HZ.out]; simp, ext_alloc hBo _⟩
        case measure => simp [intOf]; omega
      by_cases ht2 : cu.ix = ix
      rotate_left
      · have HM : Hid (mat a ix m cu = false) := by simp [Hid, mat, ht2]
        have e2 : (cu.ix == ix) = false := by simpa using ht2
        clear ht2
        go_wp2_with fail
        go_roundw
        case rel => exact ⟨k + 1, z, hlt, by go_num, rfl, by unfold Hid; rw [HST.out, HM.out, HZ.out]; simp, ext_alloc hBo _⟩
        case measure => simp [intOf]; omega
      have e2 : (cu.ix == ix) = true := by simpa using ht2
      by_cases ht3 : cu.f ≤ m
      rotate_left
      · have HM : Hid (mat a ix m cu = false) := by simp [Hid, mat, ht3]
        clear ht2
        go_wp2_with fail
        go_roundw
        case rel => exact ⟨k + 1, z, hlt, by go_num, rfl, by unfold Hid; rw [HST.out, HM.out, HZ.out]; simp, ext_alloc hBo _⟩
        case measure => simp [intOf]; omega
      by_cases ht4 : m < cu.t
      rotate_left
      · have HM : Hid (mat a ix m cu = false) := by simp [Hid, mat, ht4]
        clear ht2
        go_wp2_with fail
        go_roundw
        case rel => exact ⟨k + 1, z, hlt, by go_num, rfl, by unfold Hid; rw [HST.out, HM.out, HZ.out]; simp, ext_alloc hBo _⟩
        case measure => simp [intOf]; omega
      have HM : Hid (mat a ix m cu = true) := by simp [Hid, mat, ht1, ht2, ht3, ht4]
      clear ht2
      go_wp2_with fail
      go_roundw
      case rel => exact ⟨k + 1, z + cu.less, hlt, by go_num, rfl, by unfold Hid; rw [HST.out, HM.out, HZ.out]; simp [Int.add_assoc], ext_alloc hBo _⟩
      case measure => simp [intOf]; omega
end Go.Proofs.YtilocjliplmmpaaGreat
