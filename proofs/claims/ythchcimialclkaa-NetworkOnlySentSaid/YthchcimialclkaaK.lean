/- The links that are cut, as an iterator. -/
import Derived.Test.YthchcimialclkaaJ
import Derived.Test.YthchcimialclkaaRf
import Derived.BigFrameIn
import Derived.BigRegionIn
import Derived.BigGuardIn
set_option linter.unusedSimpArgs false
set_option linter.unusedVariables false
namespace Go.Proofs.Ythchcimialclkaa
open Go.RowKit Go.Shelf
attribute [local go_sem] Oper.semAt_some
def KpE (B : Nat) (ex : Nat → Prop) (W W' : World) : Prop := Kx B ex W W' ∧ W.heap.size ≤ W'.heap.size
theorem KpE.t {B : Nat} {ex : Nat → Prop} {X Y Z : World} (h : KpE B ex X Y) (k : KpE B ex Y Z) : KpE B ex X Z := ⟨h.1.t k.1, Nat.le_trans h.2 k.2⟩
theorem KpE.b {B : Nat} {ex : Nat → Prop} {w : World} (hB : B ≤ w.heap.size) (W : World) (l : Nat) (o o' : Obj) (hl : w.heap.size ≤ l) (h : W.heap[l]? = some o) (h1 : o.isCells = false) (h2 : o.isWalk = false) : KpE B ex W (W.putObj l o') :=
  ⟨Kx.b hB W l o o' hl h h1 h2, (grownBy_putObj' W l o').size⟩
theorem Kx.cell {B : Nat} {ex : Nat → Prop} {W W' : World} (h : Kx B ex W W') {b o : Nat} (hb : b < B) (hx : ¬ ex b) : W'.cell? ⟨b, o, none⟩ = W.cell? ⟨b, o, none⟩ := World.cell?_of_block (w := W) (a := ⟨b, o, none⟩) (h b hb hx)
theorem Kx.slc {α : Type} {B : Nat} {ex : Nat → Prop} {W W' : World} (h : Kx B ex W W') (hs : W.heap.size ≤ W'.heap.size) {enc : α → List Value} {sz : Nat} {A : Option Addr} {l : List α} (hl : Slc W enc sz A l) (hA : l ≠ [] → ∀ b o s, A = some ⟨b, o, s⟩ → b < B ∧ ¬ ex b) : Slc W' enc sz A l := fun i x hx => by
  obtain ⟨b, o, e, hlt, hc⟩ := hl i x hx
  obtain ⟨h1, h2⟩ := hA (by intro h0; rw [h0] at hx; simp at hx) b o none e
  exact ⟨b, o, e, Nat.lt_of_lt_of_le hlt hs, fun j v hj => (h.cell h1 h2).trans (hc j v hj)⟩
/-- What the iterator captured. -/
structure CCap (W : World) (B : Nat) (ex : Nat → Prop) (bc bo bl : Nat) (A : Option Addr) (c : Nat) (l : List Lk) (ch : Lk) (on : Bool) : Prop where
  cB : bc < B
  oB : bo < B
  lB : bl < B
  cx : ¬ ex bc
  ox : ¬ ex bo
  lx : ¬ ex bl
  c0 : W.cell? ⟨bc, 0, none⟩ = some (.int .i64 ch.a)
  c1 : W.cell? ⟨bc, 1, none⟩ = some (.int .i64 ch.b)
  o : W.cell? ⟨bo, 0, none⟩ = some (.bool on)
  sl : W.cell? ⟨bl, 0, none⟩ = some (.slice A l.length c)
  ls : Slc W Lk.cells 2 A l
  lsB : l ≠ [] → ∀ b o s, A = some ⟨b, o, s⟩ → b < B ∧ ¬ ex b
theorem CCap.keep {W W' : World} {B : Nat} {ex : Nat → Prop} {bc bo bl : Nat} {A : Option Addr} {c : Nat} {l : List Lk} {ch : Lk} {on : Bool} (h : CCap W B ex bc bo bl A c l ch on) (hk : Kx B ex W W') (hs : W.heap.size ≤ W'.heap.size) : CCap W' B ex bc bo bl A c l ch on :=
  ⟨h.cB, h.oB, h.lB, h.cx, h.ox, h.lx, (hk.cell h.cB h.cx).trans h.c0, (hk.cell h.cB h.cx).trans h.c1, (hk.cell h.oB h.ox).trans h.o, (hk.cell h.lB h.lx).trans h.sl, hk.slc hs h.ls h.lsB, h.lsB⟩
/-- All links, in order. -/
def allL : List Lk := [⟨0, 1⟩, ⟨0, 2⟩, ⟨0, 3⟩, ⟨1, 2⟩, ⟨1, 3⟩, ⟨2, 3⟩]
def keepL (l : List Lk) (ch : Lk) (on : Bool) (x : Lk) : Bool := if x = ch then on else hasL l x
def cutsL (l : List Lk) (ch : Lk) (on : Bool) : List Lk := allL.filter (keepL l ch on)
/-- Those ahead of (a, b). -/
def upto (a b : Nat) : List Lk := allL.filter (fun x => decide (x.a < a ∨ x.a = a ∧ x.b < b))
def preL (l : List Lk) (ch : Lk) (on : Bool) (a b : Nat) : List Lk := (upto a b).filter (keepL l ch on)
theorem upto_step : ∀ a, a < 4 → ∀ b, a < b → b < 4 → upto a (b + 1) = upto a b ++ [⟨a, b⟩] := by
  have : ∀ a : Fin 4, ∀ b : Fin 4, a < b → upto a (b + 1) = upto a b ++ [⟨(a : Nat), (b : Nat)⟩] := by decide +kernel
  intro a ha b h hb
  exact this ⟨a, ha⟩ ⟨b, hb⟩ h
theorem upto_next : ∀ a, a < 4 → ∀ b, 4 ≤ b → b ≤ 5 → upto a b = upto (a + 1) (a + 2) := by
  have : ∀ a : Fin 4, upto a 4 = upto (a + 1) (a + 2) ∧ upto a 5 = upto (a + 1) (a + 2) := by decide +kernel
  intro a ha b h hb
  rcases (by omega : b = 4 ∨ b = 5) with rfl | rfl
  · exact (this ⟨a, ha⟩).1
  · exact (this ⟨a, ha⟩).2
theorem upto_end : upto 4 5 = allL := by decide +kernel
theorem upto_start : upto 0 1 = [] := by decide +kernel
theorem upto_pre (a b : Nat) (ha : a < 4) (hab : a < b) (hb : b < 4) : ∃ r, allL = upto a b ++ [⟨a, b⟩] ++ r := by
  have : ∀ a : Fin 4, ∀ b : Fin 4, a < b → upto a b ++ [⟨(a : Nat), (b : Nat)⟩] <+: allL := by decide +kernel
  obtain ⟨r, hr⟩ := this ⟨a, ha⟩ ⟨b, hb⟩ hab
  exact ⟨r, hr.symm⟩
theorem pre_yes {l : List Lk} {ch : Lk} {on : Bool} {a b : Nat} (ha : a < 4) (hab : a < b) (hb : b < 4) (h : keepL l ch on ⟨a, b⟩ = true) : preL l ch on a (b + 1) = preL l ch on a b ++ [⟨a, b⟩] := by
  unfold preL; rw [upto_step a ha b hab hb, List.filter_append]; simp [h]
theorem pre_no {l : List Lk} {ch : Lk} {on : Bool} {a b : Nat} (ha : a < 4) (hab : a < b) (hb : b < 4) (h : keepL l ch on ⟨a, b⟩ = false) : preL l ch on a (b + 1) = preL l ch on a b := by
  unfold preL; rw [upto_step a ha b hab hb, List.filter_append]; simp [h]
theorem pre_pre {l : List Lk} {ch : Lk} {on : Bool} {a b : Nat} (ha : a < 4) (hab : a < b) (hb : b < 4) (h : keepL l ch on ⟨a, b⟩ = true) : preL l ch on a b ++ [⟨a, b⟩] <+: cutsL l ch on := by
  obtain ⟨r, hr⟩ := upto_pre a b ha hab hb
  unfold preL cutsL
  rw [hr, List.filter_append, List.filter_append]
  refine ⟨r.filter (keepL l ch on), ?_⟩
  simp [List.filter_cons, h]
def encL (x : Lk) : Array Value := #[x.v]
set_option maxRecDepth 100000 in
set_option maxHeartbeats 3200000 in
theorem cuts1_in (n : Nat) (hn : 1 ≤ n) (y : Nat) (B : Nat) (ex : Nat → Prop) (bc bo bl : Nat) (A : Option Addr) (c : Nat) (l : List Lk) (ch : Lk) (on : Bool) (hll : l.length ≤ maxLen)
    (J Jx : List Lk → World → Prop) (W : World) (hBW : B ≤ W.heap.size) (hJ : AbidesFrom W.heap.size J)
    (hY : ∀ pre x W1, J pre W1 → pre.length < (cutsL l ch on).length → YieldAt Fence.wide (n - 1) Try.prog y (encL x) W1 fun e W' =>
      (e = .returned (.bool true) ∧ J (pre ++ [x]) W' ∧ (Kx B ex W1 W' ∧ W1.heap.size ≤ W'.heap.size)) ∨ (e = .returned (.bool false) ∧ Jx (pre ++ [x]) W'))
    (hC : CCap W B ex bc bo bl A c l ch on) (hJ0 : J [] W) :
    CallsIn Fence.wide n Try.prog 38 #[.func (.yield y) #[] #[], .pointer (some ⟨bc, 0, none⟩), .pointer (some ⟨bo, 0, none⟩), .pointer (some ⟨bl, 0, none⟩)] W fun e W' => (∃ v, e = .returned v) ∧
      ((∃ ys, ys = cutsL l ch on ∧ J ys W') ∨ (∃ pre, pre <+: cutsL l ch on ∧ Jx pre W')) := by
  have HY := Lib.hid hY
  have HJ := Lib.hid hJ
  have HC := Lib.hid hC
  clear hY hJ hC
  refine callsIn_of_wp Try.func38 rfl trivial ?_ rfl
  simp only [Try.ntmps38, List.size_toArray, List.length_cons, List.length_nil, Nat.reduceAdd, Nat.reduceSub, Array.replicate_succ, Array.replicate_zero, List.push_toArray, List.append_toArray, List.nil_append, List.cons_append]
  gi_wp2_with fail
  gi_loopw [8] (fun i wr => ∃ a : Nat, a ≤ 4 ∧ i = .int .i64 a ∧ J (preL l ch on a (a + 1)) wr ∧ Hid (Kx B ex W wr) ∧ W.heap.size ≤ wr.heap.size) (fun i _ => 4 - (intOf i).toNat)
  case atStart => exact ⟨0, by decide, rfl, by unfold preL; rw [upto_start]; exact hJ0, Kx.refl _, Nat.le_refl _⟩
  case round =>
    obtain ⟨a, ha, rfl, hJs, HK, hsz⟩ := hrel
    by_cases hlt : a < 4
    · have hlt' : (a : Int) < 4 := by omega
      have HJs := Lib.hid hJs
      clear hJs
      obtain ⟨wo, rfl⟩ : ∃ wo, wo = wr := ⟨_, rfl⟩
      gi_wp2_with fail
      gi_loopw [6] (fun i wr => ∃ b : Nat, a < b ∧ b ≤ 4 + 0 ∧ i = .int .i64 b ∧ J (preL l ch on a b) wr ∧ Hid (Kx B ex W wr) ∧ W.heap.size ≤ wr.heap.size) (fun i _ => 4 - (intOf i).toNat)
      case atStart => exact ⟨a + 1, by omega, by omega, by go_num, HJs.out, HK, hsz⟩
      case round =>
        clear HJs HK hsz
        obtain ⟨b, hab, hb4, rfl, hJb, HK, hsz⟩ := hrel
        by_cases hb : b < 4
        · have hb' : (b : Int) < 4 := by omega
          have ha' := hlt
          have hC := HC.out.keep HK.out hsz
          have c0 := hC.c0
          have c1 := hC.c1
          have co := hC.o
          have cl := hC.sl
          have sc : bc < wr.heap.size := by have := hC.cB; omega
          have so : bo < wr.heap.size := by have := hC.oB; omega
          have sl : bl < wr.heap.size := by have := hC.lB; omega
          have HCC := Lib.hid hC
          clear hC
          have hJ2 := HJ.out _ _ (wr.alloc (.cells #[.int .i64 a, .int .i64 b] 56)) none hJb (grown_below (ext_alloc (ext_refl wr) _)) (by simp)
          have hne1 := fun w => run_eql56 ⟨a, b⟩ ch w
          have hne2 := fun w => run_neq56 ⟨a, b⟩ ch w
          obtain ⟨s, hs⟩ : ∃ s, decide ((⟨a, b⟩ : Lk) = ch) = s := ⟨_, rfl⟩
          have HS := Lib.hid hs
          simp only [hs] at hne1 hne2
          clear hs hJb
          cases s
          · obtain ⟨r, hr⟩ : ∃ r, hasL l ⟨a, b⟩ = r := ⟨_, rfl⟩
            have HR := Lib.hid hr
            have HKR := Lib.hid (show keepL l ch on ⟨a, b⟩ = r by unfold keepL; rw [if_neg (of_decide_eq_false HS.out)]; exact hr)
            clear hr
            gi_wp2_with fail
            refine ⟨trivial, (callsIn_wide.2 (contains_at (x := ⟨a, b⟩) r HR.out (HCC.out.ls.alloc _) hll)).mono ?_⟩
            rintro e w1 ⟨rfl, B1⟩
            have hJ1 := HJ.out _ _ w1 none hJ2 (grown_below B1) (by simp)
            clear hJ2
            have hJ2 := hJ1
            clear hJ1
            have x0 : w1.cell? ⟨wr.heap.size, 0, none⟩ = some (.int .i64 a) := (B1.cell (p := ⟨wr.heap.size, 0, none⟩) (by simp)).trans (by simp)
            have x1 : w1.cell? ⟨wr.heap.size, 1, none⟩ = some (.int .i64 b) := (B1.cell (p := ⟨wr.heap.size, 1, none⟩) (by simp)).trans (by simp)
            have sz1 : wr.heap.size < w1.heap.size := by have := B1.size; simp at this; omega
            clear c0 c1 co cl sc so sl hne1 hne2
            cases r
            · have HKN := Lib.hid HKR.out
              gi_wp2_with fail
              go_roundw
              case rel => exact ⟨b + 1, by omega, by omega, by go_num, by rw [pre_no ha' hab hb HKN.out]; exact hJ2, (HK.out.t (Kx.below (ext_trans (ext_alloc (ext_refl wr) _) B1) (by omega))), by have := sz1; simp at *; omega⟩
              case measure => simp [intOf]; omega
            · have HKY := Lib.hid HKR.out
              gi_wp2_with fail
              obtain ⟨fn, tmps, assign, body, hy, hR⟩ := HY.out (preL l ch on a b) ⟨a, b⟩ w1 hJ2 (by have := (pre_pre ha' hab hb HKY.out).length_le; simp at this; omega)
              simp only [encL, Lk.v] at hy
              gi_wp2_with fail
              try rw [hy]
              gi_wp2_with fail
              refine hR.mono ?_
              rintro e W3 (⟨rfl, hJ3, hk3, hs3⟩ | ⟨rfl, hJx3⟩)
              · clear hy hR
                gi_wp2_with fail
                go_roundw
                case rel => exact ⟨b + 1, by omega, by omega, by go_num, by rw [pre_yes ha' hab hb HKY.out]; exact hJ3, (HK.out.t (Kx.below (ext_trans (ext_alloc (ext_refl wr) _) B1) (by omega))).t hk3, by have := hs3; have := sz1; simp at *; omega⟩
                case measure => simp [intOf]; omega
              · clear hy hR
                gi_wp2_with fail
                refine bodyPost_ret (results_none rfl _ _ _) rfl ?_
                exact ⟨⟨_, rfl⟩, .inr ⟨preL l ch on a b ++ [⟨a, b⟩], pre_pre ha' hab hb HKY.out, hJx3⟩⟩
          · cases on
            · have HKN := Lib.hid (show keepL l ch false ⟨a, b⟩ = false by unfold keepL; rw [if_pos (of_decide_eq_true HS.out)])
              gi_wp2_with fail
              all_goals first | (exfalso; rename_i hu _; exact absurd hu (by simp [undef])) | skip
              all_goals first | (refine ⟨trivial, ?_⟩; gi_wp2_with fail) | skip
              go_roundw
              case rel => exact ⟨b + 1, by omega, by omega, by go_num, by rw [pre_no ha' hab hb HKN.out]; exact hJ2, (HK.out.t (Kx.below (ext_alloc (ext_refl wr) _) (by omega))), by have := hsz; simp at *; omega⟩
              case measure => simp [intOf]; omega
            · have HKY := Lib.hid (show keepL l ch true ⟨a, b⟩ = true by unfold keepL; rw [if_pos (of_decide_eq_true HS.out)])
              gi_wp2_with fail
              all_goals first | (exfalso; rename_i hu _; exact absurd hu (by simp [undef])) | skip
              all_goals first | (refine ⟨trivial, ?_⟩; gi_wp2_with fail) | skip
              obtain ⟨fn, tmps, assign, body, hy, hR⟩ := HY.out (preL l ch true a b) ⟨a, b⟩ (wr.alloc (.cells #[.int .i64 a, .int .i64 b] 56)) hJ2 (by have := (pre_pre ha' hab hb HKY.out).length_le; simp at this; omega)
              simp only [encL, Lk.v] at hy
              gi_wp2_with fail
              try rw [hy]
              gi_wp2_with fail
              refine hR.mono ?_
              rintro e W3 (⟨rfl, hJ3, hk3, hs3⟩ | ⟨rfl, hJx3⟩)
              · clear hy hR
                gi_wp2_with fail
                go_roundw
                case rel => exact ⟨b + 1, by omega, by omega, by go_num, by rw [pre_yes ha' hab hb HKY.out]; exact hJ3, (HK.out.t (Kx.below (ext_alloc (ext_refl wr) _) (by omega))).t hk3, by have := hs3; have := hsz; simp at *; omega⟩
                case measure => simp [intOf]; omega
              · clear hy hR
                gi_wp2_with fail
                refine bodyPost_ret (results_none rfl _ _ _) rfl ?_
                exact ⟨⟨_, rfl⟩, .inr ⟨preL l ch true a b ++ [⟨a, b⟩], pre_pre ha' hab hb HKY.out, hJx3⟩⟩
        · have hb' : ¬ (b : Int) < 4 := by omega
          gi_wp2_with fail
          go_roundw
          case rel => exact ⟨a + 1, by omega, by go_num, by rw [preL, ← upto_next a hlt b (by omega) (by omega)]; exact hJb, HK, hsz⟩
          case measure => simp [intOf]; omega
    · obtain rfl : a = 4 := by omega
      gi_wp2_with fail
      go_end0
      exact ⟨⟨_, rfl⟩, .inl ⟨_, by unfold preL cutsL; rw [upto_end], hJs⟩⟩
end Go.Proofs.Ythchcimialclkaa
