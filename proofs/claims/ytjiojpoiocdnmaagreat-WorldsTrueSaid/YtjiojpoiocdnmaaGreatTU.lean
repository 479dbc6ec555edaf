/- Law 8: what really happens remains possible. -/
import Derived.Test.YtjiojpoiocdnmaaGreatTT
set_option linter.unusedSimpArgs false
set_option linter.unusedVariables false
namespace Go.Proofs.YtjiojpoiocdnmaaGreat
open Go.RowKit Go.Shelf Go.ChangeMaps
theorem own_snd (w : World) (o : Obj) (n : Nat) (hn : n ≤ 1000000) : Own ((w.alloc o).alloc (.cells (Array.replicate n (.int .i64 0)) 3)).drew w.heap.size 3 ic 1 (.slice (some ⟨w.heap.size + 1, 0, none⟩) n n) (nums (List.replicate n 0)) := by
 have q := own_z0 n (w.alloc o) hn
 simp only [World.size_alloc] at q
 exact (own_raise q (by omega)).drew_
theorem own_getI {W : World} {base B n c : Nat} {x : List Int} (h : Own W base 3 ic 1 (.slice (some ⟨B, 0, none⟩) n c) x) {j : Nat} {d : Int} (hd : x[j]? = some d) : W.cell? ⟨B, j, none⟩ = some (.int .i64 d) ∧ B < W.heap.size := by
 have hlt := (List.getElem?_eq_some_iff.1 hd).1
 obtain ⟨y, b, o, hy, hA, hb, hc⟩ := ((show Slc W ic 1 (some ⟨B, 0, none⟩) x from h.slc (fun _ => rfl) (by decide))).at_ (k := j) hlt
 injection hA with hA
 injection hA with e1 e2
 subst e1 e2
 have : y = d := Option.some.inj (hy.symm.trans hd)
 subst this
 have := hc 0 _ rfl
 exact ⟨by simpa using this, hb⟩
theorem own_setI {W : World} {base B n c : Nat} {x : List Int} (h : Own W base 3 ic 1 (.slice (some ⟨B, 0, none⟩) n c) x) {j : Nat} {d : Int} (e : Int) (hd : x[j]? = some d) : Own (W.setCell ⟨B, j, none⟩ (.int .i64 e)) base 3 ic 1 (.slice (some ⟨B, 0, none⟩) n c) (x.set j e) := by
 have := Own.set_ (sz := 1) (enc := ic) (fun _ => rfl) h (k := j) (r := 0) (x := d) (y := e) (v := .int .i64 e) hd (by decide) rfl
 simpa using this
theorem own_get6 {W : World} {base g n c k : Nat} {l : List Rep} {x : Rep} (h : Own W base 55 Rep.cells 6 (.slice (some ⟨g, 0, none⟩) n c) l) (hx : l[k]? = some x) :
  W.cell? ⟨g, k * 6, none⟩ = some (.int .i64 x.st) ∧ W.cell? ⟨g, k * 6 + 1, none⟩ = some (.int .i64 x.no) ∧ W.cell? ⟨g, k * 6 + 2, none⟩ = some (.int .i64 x.mi) ∧ W.cell? ⟨g, k * 6 + 3, none⟩ = some (.int .i64 x.ar) ∧ W.cell? ⟨g, k * 6 + 4, none⟩ = some (.string x.call) ∧ W.cell? ⟨g, k * 6 + 5, none⟩ = some (.int .i64 x.vol) ∧ g < W.heap.size := by
 have hlt := (List.getElem?_eq_some_iff.1 hx).1
 obtain ⟨y, b, o, hy, hA, hb, hc⟩ := ((show Slc W Rep.cells 6 (some ⟨g, 0, none⟩) l from h.slc (fun _ => rfl) (show 0 < 6 by decide))).at_ (k := k) hlt
 injection hA with hA
 injection hA with e1 e2
 subst e1 e2
 have : y = x := Option.some.inj (hy.symm.trans hx)
 subst this
 have c0 := hc 0 _ rfl
 have c1 := hc 1 _ rfl
 have c2 := hc 2 _ rfl
 have c3 := hc 3 _ rfl
 have c4 := hc 4 _ rfl
 have c5 := hc 5 _ rfl
 simp only [Nat.zero_add, Nat.add_zero] at c0 c1 c2 c3 c4 c5
 exact ⟨c0, c1, c2, c3, c4, c5, hb⟩
theorem own_set6 {W : World} {base g n c i : Nat} {l : List Rep} {x z : Rep} (h : Own W base 55 Rep.cells 6 (.slice (some ⟨g, 0, none⟩) n c) l) (hx : l[i]? = some x) :
  Own ((((((W.setCell ⟨g, i * 6, none⟩ (.int .i64 z.st)).setCell ⟨g, i * 6 + 1, none⟩ (.int .i64 z.no)).setCell ⟨g, i * 6 + 2, none⟩ (.int .i64 z.mi)).setCell ⟨g, i * 6 + 3, none⟩ (.int .i64 z.ar)).setCell ⟨g, i * 6 + 4, none⟩ (.string z.call)).setCell ⟨g, i * 6 + 5, none⟩ (.int .i64 z.vol)) base 55 Rep.cells 6 (.slice (some ⟨g, 0, none⟩) n c) (l.set i z) := by
 have hil := (List.getElem?_eq_some_iff.1 hx).1
 have h0 := Own.set_ (sz := 6) (enc := Rep.cells) (fun _ => rfl) h (k := i) (r := 0) (x := x) (y := { x with st := z.st }) (v := .int .i64 z.st) hx (by decide) rfl
 have h1 := Own.set_ (sz := 6) (enc := Rep.cells) (fun _ => rfl) h0 (k := i) (r := 1) (x := { x with st := z.st }) (y := { x with st := z.st, no := z.no }) (v := .int .i64 z.no) (by rw [List.getElem?_set_self hil]) (by decide) rfl
 have h2 := Own.set_ (sz := 6) (enc := Rep.cells) (fun _ => rfl) h1 (k := i) (r := 2) (x := { x with st := z.st, no := z.no }) (y := { x with st := z.st, no := z.no, mi := z.mi }) (v := .int .i64 z.mi) (by rw [List.getElem?_set_self (by simpa using hil)]) (by decide) rfl
 have h3 := Own.set_ (sz := 6) (enc := Rep.cells) (fun _ => rfl) h2 (k := i) (r := 3) (x := { x with st := z.st, no := z.no, mi := z.mi }) (y := { x with st := z.st, no := z.no, mi := z.mi, ar := z.ar }) (v := .int .i64 z.ar) (by rw [List.getElem?_set_self (by simpa using hil)]) (by decide) rfl
 have h4 := Own.set_ (sz := 6) (enc := Rep.cells) (fun _ => rfl) h3 (k := i) (r := 4) (x := { x with st := z.st, no := z.no, mi := z.mi, ar := z.ar }) (y := { z with vol := x.vol }) (v := .string z.call) (by rw [List.getElem?_set_self (by simpa using hil)]) (by decide) rfl
 have h5 := Own.set_ (sz := 6) (enc := Rep.cells) (fun _ => rfl) h4 (k := i) (r := 5) (x := { z with vol := x.vol }) (y := z) (v := .int .i64 z.vol) (by rw [List.getElem?_set_self (by simpa using hil)]) (by decide) rfl
 simp only [List.set_set, Nat.add_zero] at h5
 exact h5
/-- The picks and shifts on the way. -/
structure PS (w4 W : World) (a b ln sn : Nat) (pk : List Nat) (shs : List Int) : Prop where
 p : Own W w4.heap.size 3 ic 1 (.slice (some ⟨a, 0, none⟩) ln ln) (nums pk)
 q : Own W w4.heap.size 3 ic 1 (.slice (some ⟨b, 0, none⟩) sn sn) shs
 e : Below w4.heap.size w4 W
theorem PS.ext {w4 W W' : World} {a b ln sn : Nat} {pk : List Nat} {shs : List Int} (h : PS w4 W a b ln sn pk shs) (hb : Below W.heap.size W W') : PS w4 W' a b ln sn pk shs := ⟨h.p.ext hb, h.q.ext hb, ext_trans h.e hb⟩
theorem PS.setP {w4 W : World} {a b ln sn : Nat} {pk : List Nat} {shs : List Int} (h : PS w4 W a b ln sn pk shs) (hab : a ≠ b) {i d : Nat} (hd : pk[i]? = some d) (e : Nat) : PS w4 (W.setCell ⟨a, i, none⟩ (.int .i64 (e : Int))) a b ln sn (pk.set i e) shs :=
 ⟨own_setC h.p e hd, Own.far h.q (grown_set _ _ _ _) (fun k e1 e2 => by
  have h1 : b = k := Option.some.inj e1
  have h2 : a = k := Option.some.inj e2
  omega), below_set h.e _ _ (h.p.lt a rfl).2⟩
theorem PS.setQ {w4 W : World} {a b ln sn : Nat} {pk : List Nat} {shs : List Int} (h : PS w4 W a b ln sn pk shs) (hab : a ≠ b) {i : Nat} {d : Int} (hd : shs[i]? = some d) (e : Int) : PS w4 (W.setCell ⟨b, i, none⟩ (.int .i64 e)) a b ln sn pk (shs.set i e) :=
 ⟨Own.far h.p (grown_set _ _ _ _) (fun k e1 e2 => by
  have h1 : a = k := Option.some.inj e1
  have h2 : b = k := Option.some.inj e2
  omega), own_setI h.q e hd, below_set h.e _ _ (h.q.lt b rfl).2⟩
theorem choice_set {ms pk : List Nat} (h : Choice ms pk) {i e m : Nat} (hm : ms[i]? = some m) (he : e < m) : Choice ms (pk.set i e) := by
 refine ⟨by rw [List.length_set]; exact h.1, fun j m' k h1 h2 => ?_⟩
 by_cases c : j = i
 ·subst c
  rw [hm] at h1
  cases h1
  have hl : j < pk.length := by rw [h.1]; exact (List.getElem?_eq_some_iff.1 hm).1
  rw [List.getElem?_set_self hl] at h2
  cases h2; exact he
 ·rw [List.getElem?_set_ne (Ne.symm c)] at h2
  exact h.2 j m' k h1 h2
theorem choice_zero {ms : List Nat} (h : ∀ m ∈ ms, 0 < m) : Choice ms (List.replicate ms.length 0) := by
 refine ⟨by simp, fun j m k h1 h2 => ?_⟩
 rw [List.getElem?_replicate] at h2
 split at h2
 ·cases h2; exact h m (List.mem_of_getElem? h1)
 ·cases h2
/-- The first i shifts are those of their stations, the others 0. -/
def ShK (s : List Stn) (shs : List Int) (i : Nat) : Prop := shs.length = s.length ∧ ∀ (q : Nat) (x : Stn) (h : Int), s[q]? = some x → shs[q]? = some h → (q < i → 0 ≤ x.sh ∧ x.sh ≤ 3 ∧ -x.sh ≤ h ∧ h ≤ x.sh) ∧ (i ≤ q → h = 0)
theorem ShK.step {s : List Stn} {shs : List Int} {i : Nat} (h : ShK s shs i) {x : Stn} (hx : s[i]? = some x) (h0 : 0 ≤ x.sh) (h3 : x.sh ≤ 3) : ShK s shs (i + 1) := by
 refine ⟨h.1, fun q y g h1 h2 => ⟨fun hq => ?_, fun hq => (h.2 q y g h1 h2).2 (by omega)⟩⟩
 by_cases c : q = i
 ·subst c
  rw [hx] at h1
  cases h1
  have := (h.2 q x g hx h2).2 (Nat.le_refl _)
  omega
 ·exact (h.2 q y g h1 h2).1 (by omega)
theorem ShK.set {s : List Stn} {shs : List Int} {i : Nat} (h : ShK s shs i) {x : Stn} (hx : s[i]? = some x) (h0 : 0 ≤ x.sh) (h3 : x.sh ≤ 3) {e : Int} (e0 : -x.sh ≤ e) (e1 : e ≤ x.sh) : ShK s (shs.set i e) (i + 1) := by
 refine ⟨by rw [List.length_set]; exact h.1, fun q y g h1 h2 => ?_⟩
 by_cases c : q = i
 ·subst c
  rw [hx] at h1
  cases h1
  have hl : q < shs.length := by rw [h.1]; exact (List.getElem?_eq_some_iff.1 hx).1
  rw [List.getElem?_set_self hl] at h2
  cases h2
  exact ⟨fun _ => ⟨h0, h3, e0, e1⟩, fun hq => by omega⟩
 ·rw [List.getElem?_set_ne (Ne.symm c)] at h2
  exact ⟨fun hq => (h.2 q y g h1 h2).1 (by omega), fun hq => (h.2 q y g h1 h2).2 (by omega)⟩
theorem ShK.all {s : List Stn} {shs : List Int} (h : ShK s shs s.length) : shs ∈ shiftsL s ∧ ∀ g ∈ shs, -3 ≤ g ∧ g ≤ 3 := by
 refine ⟨mem_shifts.2 (within_of (by rw [List.length_map]; exact h.1) (fun i m n h1 h2 => ?_)), fun g hg => ?_⟩
 ·rw [List.getElem?_map] at h1
  obtain ⟨x, hx, rfl⟩ := Option.map_eq_some_iff.1 h1
  have := (h.2 i x n hx h2).1 (List.getElem?_eq_some_iff.1 hx).1
  omega
 ·obtain ⟨i, hi⟩ := List.mem_iff_getElem?.1 hg
  have hl : i < s.length := by rw [← h.1]; exact (List.getElem?_eq_some_iff.1 hi).1
  have := (h.2 i _ g (List.getElem?_eq_getElem hl) hi).1 hl
  omega
/-- The reports in another order. -/
structure Cur (W : World) (base : Nat) (A : Option Addr) (n c : Nat) (cur Rl : List Rep) : Prop where
 o : Own W base 55 Rep.cells 6 (.slice A n c) cur
 k : ∀ p : Rep → Bool, cur.countP p = Rl.countP p
theorem Cur.made {W : World} {base : Nat} {A : Option Addr} {n c : Nat} {cur Rl : List Rep} (h : Cur W base A n c cur Rl) {p : Rep → Bool} {O : List Nat} {i : Nat} (hm : MadeOk p Rl O i) : MadeOk p cur O i := fun k => ⟨by have := (hm k).1; unfold wrK at *; rw [h.k]; exact this, (hm k).2⟩
theorem Cur.ext {W W' : World} {base : Nat} {A : Option Addr} {n c : Nat} {cur Rl : List Rep} (h : Cur W base A n c cur Rl) (hb : Below W.heap.size W W') : Cur W' base A n c cur Rl := ⟨h.o.ext hb, h.k⟩
theorem own_rlen {W : World} {base n c : Nat} {A : Option Addr} {x : List Rep} (h : Own W base 55 Rep.cells 6 (.slice A n c) x) : x.length = n := by
 obtain ⟨A', c', e, _⟩ := h.form
 cases e; rfl
theorem own_raddr {W : World} {base n c : Nat} {A : Option Addr} {x : List Rep} (h : Own W base 55 Rep.cells 6 (.slice A n c) x) (hn : 0 < n) : ∃ g, A = some ⟨g, 0, none⟩ ∧ base ≤ g := by
 rcases h.2 with ⟨hv, _⟩ | ⟨g, cap, cur, hv, hb, _⟩
 ·injection hv with _ e _; omega
 ·injection hv with e _ _
  exact ⟨g, e, hb⟩
set_option maxRecDepth 100000 in
set_option maxHeartbeats 64000000 in
theorem law8 (t : Tab) (SA : Option Addr) (sc : Nat) (s : List Stn) (LA : Option Addr) (lc : Nat) (l : List Trk) (UA : Option Addr) (uc : Nat) (us : List Int) (CA : Option Addr) (cc : Nat) (cs : List Int) (XA : Option Addr) (xc : Nat) (xs : List Plt) (turn : Bool) (w : World) (ht : Tab.ok w t) (hs : StnS w SA sc s) (hl : TrkS w LA lc l) (hu : SliceOf.ok bcs 1 (fun _ n => isB n) w ⟨UA, uc, us⟩) (hc : SliceOf.ok bcs 1 (fun _ n => isB n) w ⟨CA, cc, cs⟩) (hx : SliceOf.ok Plt.cells 10 Plt.ok w ⟨XA, xc, xs⟩) :
  Calls Tryz.prog 8 #[t.v, .slice SA s.length sc, .slice LA l.length lc, .slice UA us.length uc, .slice CA cs.length cc, .slice XA xs.length xc, .bool turn] w (Tru w) := by
 obtain ⟨sn, hsn⟩ : ∃ sn, s.length = sn := ⟨_, rfl⟩
 obtain ⟨ln, hln⟩ : ∃ ln, l.length = ln := ⟨_, rfl⟩
 obtain ⟨un, hun⟩ : ∃ un, us.length = un := ⟨_, rfl⟩
 obtain ⟨cn, hcn⟩ : ∃ cn, cs.length = cn := ⟨_, rfl⟩
 obtain ⟨xn, hxn⟩ : ∃ xn, xs.length = xn := ⟨_, rfl⟩
 have HSN := Lib.hid hsn
 have HLN := Lib.hid hln
 have HUN := Lib.hid hun
 have HCN := Lib.hid hcn
 have HXN := Lib.hid hxn
 have hsm0 : sn ≤ 2 ^ 63 - 1 := by rw [← hsn]; exact hs.len
 have hlm0 : ln ≤ 2 ^ 63 - 1 := by rw [← hln]; exact hl.len
 have hum0 : un ≤ 2 ^ 63 - 1 := by rw [← hun]; exact hu.len
 have hcm0 : cn ≤ 2 ^ 63 - 1 := by rw [← hcn]; exact hc.len
 have hxm0 : xn ≤ 2 ^ 63 - 1 := by rw [← hxn]; exact hx.len
 rw [hsn, hln, hun, hcn, hxn]
 clear hsn hln hun hcn hxn
 have HT := Lib.hid ht
 have HS := Lib.hid hs
 have HL := Lib.hid hl
 have HU := Lib.hid hu
 have HC := Lib.hid hc
 have HX := Lib.hid hx
 obtain ⟨W0, hW0⟩ : ∃ W0, w.alloc (.cells #[.int .i64 t.n, .slice t.ss.A t.ss.l.length t.ss.c, .slice t.cs.A t.cs.l.length t.cs.c, .slice t.ws.A t.ws.l.length t.ws.c, .slice t.ms.A t.ms.l.length t.ms.c, .slice t.ks.A t.ks.l.length t.ks.c] 28) = W0 := ⟨_, rfl⟩
 have E0 : Hid (Below w.heap.size w W0) := by rw [← hW0]; exact ext_alloc (ext_refl w) _
 have T0 : Hid (Blk W0 w.heap.size t.cells) := by rw [← hW0]; exact Blk.newH w t.cells 28 w.heap.size rfl
 clear ht hs hl hu hc hx
 go_enter Tryz.func8, Tryz.ntmps8
 go_wp2_with fail
 refine (sane_any W0).mono ?_
 rintro e w1 ⟨rfl, B⟩
 have E1 := Lib.hid (ext_trans E0.out B)
 have T1 := Lib.hid (T0.out.ext B)
 clear hW0 B E0 T0
 by_cases hx8 : 8 < xn
 ·have hx8' : (8 : Int) < (xn : Int) := by omega
  go_wp2_with fail
  all_goals
   go_ret
   exact ⟨rfl, E1.out⟩
 have hx8' : ¬ (8 : Int) < (xn : Int) := by omega
 by_cases hs0 : sn = 0
 ·have hs0' : ((sn : Int) == 0) = true := by rw [hs0]; rfl
  clear hs0
  go_wp2_with fail
  all_goals
   go_ret
   exact ⟨rfl, E1.out⟩
 have hs0' : ((sn : Int) == 0) = false := by rw [beq_eq_false_iff_ne]; omega
 by_cases hl0 : ln = 0
 ·have hl0' : ((ln : Int) == 0) = true := by rw [hl0]; rfl
  clear hl0
  go_wp2_with fail
  all_goals
   go_ret
   exact ⟨rfl, E1.out⟩
 have hl0' : ((ln : Int) == 0) = false := by rw [beq_eq_false_iff_ne]; omega
 have b0 := T1.out.c 0 _ rfl
 have b1 := T1.out.c 1 _ rfl
 have b2 := T1.out.c 2 _ rfl
 have b3 := T1.out.c 3 _ rfl
 have b4 := T1.out.c 4 _ rfl
 have b5 := T1.out.c 5 _ rfl
 have b6 := T1.out.lt
 go_wp2_with fail
 clear b0 b1 b2 b3 b4 b5 b6
 refine (light_at (s := s) (R := []) (l := l) 400 400 rfl (by decide) (by decide) HSN.out.symm rfl HLN.out.symm (by unfold maxLen; simp) (HT.out.ext E1.out) (HS.out.ext E1.out) (HL.out.ext E1.out)).mono ?_
 rintro e w2 ⟨r, rfl, hLP, B⟩
 have E2 := Lib.hid (ext_trans E1.out B)
 have T2 := Lib.hid (T1.out.ext B)
 clear B E1 T1
 cases r
 ·go_wp2_with fail
  all_goals
   go_ret
   exact ⟨rfl, E2.out⟩
 have HLP := Lib.hid (hLP rfl)
 clear hLP
 have hsn : sn ≤ 6 := by rw [← HSN.out]; exact HLP.out.hs
 have hln : ln ≤ 5 := by rw [← HLN.out]; exact HLP.out.hl
 have HMF := Lib.hid (few_many (Nat.le_trans HLP.out.hp (by decide)))
 obtain ⟨V, hV⟩ : ∃ V, wchkE t l = V := ⟨_, rfl⟩
 have HV := Lib.hid hV
 clear hV
 have b0 := T2.out.c 0 _ rfl
 have b1 := T2.out.c 1 _ rfl
 have b2 := T2.out.c 2 _ rfl
 have b3 := T2.out.c 3 _ rfl
 have b4 := T2.out.c 4 _ rfl
 have b5 := T2.out.c 5 _ rfl
 have b6 := T2.out.lt
 go_wp2_with fail
 clear b0 b1 b2 b3 b4 b5 b6
 refine (wchk_at V HV.out HLN.out.symm (HT.out.ext E2.out) (HL.out.ext E2.out)).mono ?_
 rintro e w4 ⟨rfl, B⟩
 have E4 := Lib.hid (ext_trans E2.out B)
 have T4 := Lib.hid (T2.out.ext B)
 clear B E2 T2
 by_cases hv : V = 0
 rotate_left
 ·have hv0 : ((V : Int) == 0) = false := by rw [beq_eq_false_iff_ne]; exact hv
  have hv1 : ((V : Int) != 0) = true := by rw [bne, hv0]; rfl
  clear hv
  go_wp2_with fail
  all_goals
   go_ret
   exact ⟨rfl, E4.out⟩
 subst hv
 have HCK := Lib.hid (wchk_ok HV.out)
 have HPS : Hid (∀ y ∈ l, 1 ≤ y.ps.l.length ∧ y.ps.l.length ≤ 4096) := fun y hy => by
  have h := HCK.out.2.2 y hy
  simp only [trkB, Bool.and_eq_true, decide_eq_true_eq] at h
  exact ⟨h.1.1.2, h.1.2⟩
 have HPOS : Hid (∀ m ∈ msT l, 0 < m) := fun m hm => by
  obtain ⟨y, hy, rfl⟩ := List.mem_map.1 hm
  exact (HPS.out y hy).1
 have hm1 := fun w : World => mk39 ln (by omega) w
 have hm2 := fun w : World => mk39 sn (by omega) w
 go_wp2_with fail
 go_cut [15, 16] from 30 (fun p q wc => ∃ a b : Nat, p = .slice (some ⟨a, 0, none⟩) ln ln ∧ q = .slice (some ⟨b, 0, none⟩) sn sn ∧ Hid (a ≠ b) ∧ Hid (Own wc w4.heap.size 3 ic 1 (.slice (some ⟨a, 0, none⟩) ln ln) (nums (List.replicate ln 0))) ∧ Hid (Own wc w4.heap.size 3 ic 1 (.slice (some ⟨b, 0, none⟩) sn sn) (nums (List.replicate sn 0))) ∧ Hid (Below w4.heap.size w4 wc))
 case first =>
  have SS := Lib.hid (show ∀ w', Below w4.heap.size w4 w' → (fun w' => Below w4.heap.size w4 w') w' from fun w' h => h)
  refine rgB 8 SS (ext_drew (ext_refl _)) (fun Q7 hQ7 hN7 hHeld => ?_)
  refine rgT 0 (some 58) hQ7 hHeld ?_; refine rgT 1 (some 59) hQ7 hHeld ?_; refine rgT 3 (some 61) hQ7 hHeld ?_; refine rgT 4 (some 62) hQ7 hHeld ?_
  refine rg_two (i := 2) (j := 5) (by kernel_rfl) (rg_step rfl (by rfl) (fun K hK => ?_)) (rg_step rfl (by rfl) (fun K hK => ?_))
  ·go_simp
   refine hK.out _ _ ?_ (fun hHeld2 => ?_)
   ·exact SS.out _ (ext_alloc hHeld _)
   clear hHeld
   have hHeld := hHeld2
   clear hHeld2
   clear hK K
   try simp only [Act.put, List.setIfInBounds_toArray, List.set_cons_zero, List.set_cons_succ]
   refine rgT 6 (some 15) hQ7 hHeld ?_
   refine rg_one (i := 5) (by kernel_rfl) (rg_step rfl (by rfl) (fun K hK => ?_))
   go_simp
   refine hK.out _ _ ?_ (fun hHeld2 => ?_)
   ·exact SS.out _ (ext_alloc hHeld _)
   clear hHeld
   have hHeld := hHeld2
   clear hHeld2
   clear hK K
   try simp only [Act.put, List.setIfInBounds_toArray, List.set_cons_zero, List.set_cons_succ]
   refine rgT 7 (some 16) hQ7 hHeld ?_
   refine rg_end (by kernel_rfl) (hN7 _ _ ?_) _
   clear hQ7 hN7 Q7
   have BX := hHeld
   clear SS
   go_wp2_with fail
   go_meet
   exact ⟨w4.heap.size, w4.heap.size + 1, rfl, rfl, (by unfold Hid; omega), ((own_raise (own_z0 ln w4 (by omega)) (Nat.le_refl _)).alloc _).drew_, own_snd w4 _ sn (by omega), BX⟩
  ·go_simp
   refine hK.out _ _ ?_ (fun hHeld2 => ?_)
   ·exact SS.out _ (ext_alloc hHeld _)
   clear hHeld
   have hHeld := hHeld2
   clear hHeld2
   clear hK K
   try simp only [Act.put, List.setIfInBounds_toArray, List.set_cons_zero, List.set_cons_succ]
   refine rg_one (i := 2) (by kernel_rfl) (rg_step rfl (by rfl) (fun K hK => ?_))
   go_simp
   refine hK.out _ _ ?_ (fun hHeld2 => ?_)
   ·exact SS.out _ (ext_alloc hHeld _)
   clear hHeld
   have hHeld := hHeld2
   clear hHeld2
   clear hK K
   try simp only [Act.put, List.setIfInBounds_toArray, List.set_cons_zero, List.set_cons_succ]
   refine rgT 6 (some 15) hQ7 hHeld ?_; refine rgT 7 (some 16) hQ7 hHeld ?_
   refine rg_end (by kernel_rfl) (hN7 _ _ ?_) _
   clear hQ7 hN7 Q7
   have BX := hHeld
   clear SS
   go_wp2_with fail
   go_meet
   exact ⟨w4.heap.size + 1, w4.heap.size, rfl, rfl, (by unfold Hid; omega), own_snd w4 _ ln (by omega), ((own_raise (own_z0 sn w4 (by omega)) (Nat.le_refl _)).alloc _).drew_, BX⟩
 case rest =>
  obtain ⟨a, b, rfl, rfl, HAB, HPA, HQA, EB⟩ := hcut
  have hab := HAB.out
  have HPS0 : Hid (PS w4 wc a b ln sn (List.replicate ln 0) (nums (List.replicate sn 0))) := ⟨HPA.out, HQA.out, EB.out⟩
  have HCH0 : Hid (Choice (msT l) (List.replicate ln 0)) := by
   have h := choice_zero HPOS.out
   rw [show (msT l).length = ln by rw [← HLN.out]; simp [msT]] at h
   exact h
  clear hm1 hm2 HPA HQA
  go_wp2_with fail
  go_loopw [17] (fun i wr => ∃ (i' : Nat) (pk : List Nat), i' ≤ ln ∧ i = .int .i64 i' ∧ Hid (PS w4 wr a b ln sn pk (nums (List.replicate sn 0))) ∧ Hid (Choice (msT l) pk)) (fun i _ => ln - (intOf i).toNat)
  case atStart => exact ⟨0, _, Nat.zero_le _, rfl, HPS0.out, HCH0.out⟩
  case round =>
   clear HPS0 HCH0 EB
   obtain ⟨i, pk, hi, rfl, HM, HCH⟩ := hrel
   obtain ⟨wo, rfl⟩ : ∃ wo, wo = wr := ⟨_, rfl⟩
   by_cases hil : i < ln
   rotate_left
   ·obtain rfl : ln = i := by omega
    have hin : ¬ (ln : Int) < (ln : Int) := by omega
    have HSK0 : Hid (ShK s (nums (List.replicate sn 0)) 0) := by
     refine ⟨by simp [nums, HSN.out], fun q x h h1 h2 => ⟨fun hq => by omega, fun _ => ?_⟩⟩
     unfold nums at h2
     rw [List.getElem?_map, List.getElem?_replicate] at h2
     split at h2
     ·simp at h2; exact h2.symm
     ·cases h2
    go_wp2_with fail
    go_loopw [18] (fun i wr => ∃ (i' : Nat) (shs : List Int), i' ≤ sn ∧ i = .int .i64 i' ∧ Hid (PS w4 wr a b ln sn pk shs) ∧ Hid (ShK s shs i')) (fun i _ => sn - (intOf i).toNat)
    case atStart => exact ⟨0, _, Nat.zero_le _, rfl, HM.out, HSK0.out⟩
    case round =>
     clear HSK0 HM
     obtain ⟨i, shs, hi2, rfl, HM, HSK⟩ := hrel
     obtain ⟨wo, rfl⟩ : ∃ wo, wo = wr := ⟨_, rfl⟩
     by_cases his : i < sn
     rotate_left
     ·obtain rfl : sn = i := by omega
      have hin2 : ¬ (sn : Int) < (sn : Int) := by omega
      have HSK9 : Hid (ShK s shs s.length) := by unfold Hid; rw [HSN.out]; exact HSK.out
      have HSA := Lib.hid HSK9.out.all
      have EW := Lib.hid (ext_trans E4.out HM.out.e)
      obtain ⟨u5, rfl⟩ : ∃ u5, u5 = wo := ⟨_, rfl⟩
      have b0 := (T4.out.ext HM.out.e).c 0 _ rfl
      have b1 := (T4.out.ext HM.out.e).c 1 _ rfl
      have b2 := (T4.out.ext HM.out.e).c 2 _ rfl
      have b3 := (T4.out.ext HM.out.e).c 3 _ rfl
      have b4 := (T4.out.ext HM.out.e).c 4 _ rfl
      have b5 := (T4.out.ext HM.out.e).c 5 _ rfl
      have b6 := (T4.out.ext HM.out.e).lt
      go_wp2_with fail
      clear b0 b1 b2 b3 b4 b5 b6
      refine (made_at (shs := shs) HLN.out.symm HXN.out.symm HV.out HCH.out (HSK.out.1.trans HSN.out) HSA.out.2 (by omega) (by omega) (by omega) hsn (HT.out.ext EW.out) (HL.out.ext EW.out) (own_ints HM.out.p) (own_ints HM.out.q) (SliceOf.ok.ext HX.out EW.out (fun _ h => h))).mono ?_
      rintro e u6 ⟨A, n, c, Rl, O, rfl, hn, hM, hO, hMD⟩
      have M6 := Lib.hid hM
      have HOL := Lib.hid hO
      have HMD := Lib.hid hMD
      have HRL := Lib.hid (own_rlen hM.r)
      clear hM hO hMD
      go_wp2_with fail
      go_loopw [22] (fun i wr => ∃ i' : Nat, i' ≤ sn ∧ i = .int .i64 i' ∧ Hid (∀ (q : Nat) (x : Stn), q < i' → s[q]? = some x → ((O.getD q 0 : Nat) : Int) ≤ x.fa) ∧ Hid (Below u6.heap.size u6 wr)) (fun i _ => sn - (intOf i).toNat)
      case atStart => exact ⟨0, Nat.zero_le _, rfl, (fun q x h => by omega), ext_refl _⟩
      case round =>
       obtain ⟨i, hi3, rfl, HF, EO⟩ := hrel
       obtain ⟨wo, rfl⟩ : ∃ wo, wo = wr := ⟨_, rfl⟩
       have E6 := Lib.hid (ext_trans M6.out.e EO.out)
       by_cases his : i < sn
       rotate_left
       ·obtain rfl : sn = i := by omega
        have hin3 : ¬ (sn : Int) < (sn : Int) := by omega
        have HFA : Hid (∀ (k : Nat) (x : Stn), s[k]? = some x → ((O.getD k 0 : Nat) : Int) ≤ x.fa) := fun k x hx => HF.out k x (by rw [← HSN.out]; exact (List.getElem?_eq_some_iff.1 hx).1) hx
        have HC0 : Hid (Cur wo (u5.heap.size + 1 + 1) A n c Rl Rl) := ⟨M6.out.r.ext EO.out, fun _ => rfl⟩
        clear HF
        cases turn with
        | false =>
         have ET := Lib.hid (ext_trans EW.out E6.out)
         have TX := Lib.hid ((T4.out.ext HM.out.e).ext E6.out)
         have PX := Lib.hid (HM.out.ext E6.out)
         have HPK := Lib.hid (choice_ok HCH.out)
         have HPL := Lib.hid (own_num PX.out.p)
         have HRN := Lib.hid (own_rlen HC0.out.o)
         have HRS : Hid (Slc wo Rep.cells 6 A Rl) := HC0.out.o.slc (fun _ => rfl) (show 0 < 6 by decide)
         have hn8 : n ≤ 8 := by omega
         obtain ⟨QA, hqa⟩ : ∃ E, askE t s Rl l = E := ⟨_, rfl⟩
         obtain ⟨wv, hwv⟩ : ∃ b, worldV t s Rl l (nums pk) = b := ⟨_, rfl⟩
         have HQA := Lib.hid hqa
         have HWV := Lib.hid hwv
         have HMC := Lib.hid (HC0.out.made HMD.out)
         clear hqa hwv
         have b0 := TX.out.c 0 _ rfl
         have b1 := TX.out.c 1 _ rfl
         have b2 := TX.out.c 2 _ rfl
         have b3 := TX.out.c 3 _ rfl
         have b4 := TX.out.c 4 _ rfl
         have b5 := TX.out.c 5 _ rfl
         have b6 := TX.out.lt
         go_wp2_with fail
         clear b0 b1 b2 b3 b4 b5 b6
         refine (world_lit QA wv ((wErr_ok HPK.out).trans HQA.out) HWV.out HSN.out.symm HRN.out.symm HLN.out.symm (by rw [nums, List.length_map, HPL.out]) (HT.out.ext ET.out) (HS.out.ext ET.out) HRS.out (HL.out.ext ET.out) (own_ints PX.out.p) (by rw [nums, List.length_map, HPL.out]; unfold maxLen; omega) (by rw [HSN.out]; omega) (by rw [HRN.out]; omega) (by rw [HLN.out]; omega)).mono ?_
         rintro e w7 ⟨rfl, B7⟩
         have ET7 := Lib.hid (ext_trans ET.out B7)
         have TX7 := Lib.hid (TX.out.ext B7)
         have HRS7 := Lib.hid (HRS.out.ext B7)
         have PX7 := Lib.hid (PX.out.ext B7)
         clear B7
         by_cases hq : QA = 0
         rotate_left
         ·have hq0 : ((QA : Int) == 0) = false := by rw [beq_eq_false_iff_ne]; exact hq
          have hq1 : ((QA : Int) != 0) = true := by rw [bne, hq0]; rfl
          clear hq
          go_wp2_with fail
          go_ret
          exact ⟨rfl, ET7.out⟩
         subst hq
         have HWP := Lib.hid (world_true HQA.out HSA.out.1 HMC.out HFA.out)
         obtain rfl : wv = true := HWV.out.symm.trans ((wVal_ok HPK.out HQA.out).trans HWP.out)
         have HE0 : Hid (possErr t s Rl l = 0) := by unfold Hid; rw [perr_fnd HQA.out HMF.out, foundB_iff.2 ⟨pk, HCH.out, HWP.out⟩]; rfl
         obtain ⟨L, hL⟩ : ∃ L, possV t s Rl l = L := ⟨_, rfl⟩
         have HLL := Lib.hid hL
         have HN1 : Hid (L.length = ln) := ((possV_len HE0.out hL rfl).1 rfl).trans HLN.out
         clear hL
         have b0 := TX7.out.c 0 _ rfl
         have b1 := TX7.out.c 1 _ rfl
         have b2 := TX7.out.c 2 _ rfl
         have b3 := TX7.out.c 3 _ rfl
         have b4 := TX7.out.c 4 _ rfl
         have b5 := TX7.out.c 5 _ rfl
         have b6 := TX7.out.lt
         go_wp2_with fail
         clear b0 b1 b2 b3 b4 b5 b6
         refine (poss_lit 0 ln L HE0.out HLL.out HN1.out HSN.out.symm HRN.out.symm HLN.out.symm (HT.out.ext ET7.out) (HS.out.ext ET7.out) HRS7.out (HL.out.ext ET7.out) (by rw [HSN.out]; omega) (by rw [HRN.out]; omega) (by rw [HLN.out]; omega)).mono ?_
         rintro e w8 ⟨A1, c1, rfl, hP1, B8⟩
         have ET8 := Lib.hid (ext_trans ET7.out B8)
         have PX8 := Lib.hid (PX7.out.ext B8)
         obtain ⟨rows, hrs, hrok, hrm, hrl⟩ := hP1.ra
         have HRR := Lib.hid hrs
         have HROK := Lib.hid hrok
         have HRM := Lib.hid hrm
         have HRL := Lib.hid hrl
         have HLV : Hid (possL t s Rl l = L) := by unfold Hid; rw [← HLL.out, possV0 HE0.out]
         clear B8 hrs hrok hrm hrl hP1
         go_wp2_with fail
         go_loopw [29] (fun i wr => ∃ i' : Nat, i' ≤ ln ∧ i = .int .i64 i' ∧ Hid (Below w8.heap.size w8 wr)) (fun i _ => ln - (intOf i).toNat)
         case atStart => exact ⟨0, Nat.zero_le _, rfl, ext_refl _⟩
         case round =>
          obtain ⟨i, hi5, rfl, EI⟩ := hrel
          obtain ⟨wp, rfl⟩ : ∃ wp, wp = wr := ⟨_, rfl⟩
          have ED := Lib.hid (ext_trans ET8.out EI.out)
          by_cases hil : i < ln
          rotate_left
          ·obtain rfl : ln = i := by omega
           have hin9 : ¬ (ln : Int) < (ln : Int) := by omega
           go_wp2_with fail
           go_ret
           exact ⟨rfl, ED.out⟩
          have hii : (i : Int) < (ln : Int) := by omega
          obtain ⟨r, qb, qo, hr, hqA, hqb, hqc⟩ := (HRR.out.below (Nat.le_refl _) EI.out).at_ (k := i) (by rw [← HRL.out]; exact hil)
          have hLi : (possL t s Rl l)[i]? = some r.l := by rw [HLV.out, ← HRM.out, List.getElem?_map, hr]; rfl
          obtain ⟨hlen, hval⟩ := possL_at hLi
          obtain ⟨d, hd⟩ : ∃ d, pk[i]? = some d := ⟨_, List.getElem?_eq_getElem (by rw [HPL.out]; exact hil)⟩
          obtain ⟨m, hm⟩ : ∃ m, r.l.length = m := ⟨_, rfl⟩
          obtain ⟨y, hy⟩ : ∃ y, l[i]? = some y := ⟨_, List.getElem?_eq_getElem (by rw [HLN.out]; exact hil)⟩
          have hmy : (msT l)[i]? = some y.ps.l.length := by unfold msT; rw [List.getElem?_map, hy]; rfl
          have hdm : d < m := by rw [← hm, hlen, msT_at hy]; exact HCH.out.2 i _ d hmy hd
          obtain ⟨bb, hbb⟩ : ∃ bb, r.l[d]? = some bb := ⟨_, List.getElem?_eq_getElem (by rw [hm]; exact hdm)⟩
          obtain rfl : bb = true := (hval d bb hbb).trans (possB_iff.2 ⟨pk, HCH.out, hd, HWP.out⟩)
          obtain ⟨rb, hrb⟩ : ∃ rb, r.b = rb := ⟨_, rfl⟩
          have q8 : wp.cell? ⟨qb, qo + i, none⟩ = some (.slice (some ⟨rb, 0, none⟩) m m) := by
           have := hqc 0 _ rfl
           rw [BR.v, hm, hrb] at this
           simpa using this
          have hrk : BR.ok wp r := Below.cellsB EI.out (HROK.out r (List.mem_of_getElem? hr))
          have r8 : wp.cell? ⟨rb, d, none⟩ = some (.bool true) := by rw [← hrb]; exact BR.cell hrk hbb
          have rl : rb < wp.heap.size := by rw [← hrb]; exact BR.lt hrk
          have hpi := PX8.out.p.ext EI.out
          have a8 := (own_getC hpi hd).1
          have al := (own_getC hpi hd).2
          have hdi : (d : Int) < (m : Int) := by omega
          have ql := hqb
          subst hqA
          clear hr hqb hqc hLi hlen hval hd hm hy hmy hbb hrb hrk hpi
          go_wp2_with fail
          have SS := Lib.hid (show ∀ w', Below wp.heap.size wp w' → (fun w' => Below wp.heap.size wp w' ∧ w'.cell? ⟨qb, qo + i, none⟩ = some (.slice (some ⟨rb, 0, none⟩) m m) ∧ w'.cell? ⟨a, i, none⟩ = some (.int .i64 (d : Int)) ∧ w'.cell? ⟨rb, d, none⟩ = some (.bool true)) w' from fun w' h => ⟨h, (h.cell (p := ⟨qb, qo + i, none⟩) ql).trans q8, (h.cell (p := ⟨a, i, none⟩) al).trans a8, (h.cell (p := ⟨rb, d, none⟩) rl).trans r8⟩)
          refine rgB 11 SS (ext_drew (ext_refl _)) (fun Q7 hQ7 hN7 hHeld => ?_)
          refine rgT 0 (some 228) hQ7 hHeld ?_; refine rgT 1 (some 229) hQ7 hHeld ?_; refine rgT 2 (some 230) hQ7 hHeld ?_; refine rgT 3 (some 231) hQ7 hHeld ?_; refine rgT 4 (some 232) hQ7 hHeld ?_; refine rgT 5 (some 233) hQ7 hHeld ?_; refine rgT 6 (some 234) hQ7 hHeld ?_; refine rgT 7 (some 235) hQ7 hHeld ?_; refine rgT 8 (some 236) hQ7 hHeld ?_; refine rgT 9 (some 237) hQ7 hHeld ?_; refine rgT 10 (some 238) hQ7 hHeld ?_
          refine rg_end (by kernel_rfl) (hN7 _ _ ?_) _
          clear hQ7 hN7 Q7
          have BX := hHeld.1
          clear SS
          have E9 := Lib.hid (ext_trans EI.out BX)
          clear BX q8 ql r8 rl a8 al
          go_wp2_with fail
          go_roundw
          case rel => exact ⟨i + 1, hil, by go_num, E9⟩
          case measure => simp [intOf]; (try omega)
        | true =>
         have hwn : IntKind.i64.wrap ((n : Int) - 1) = (n : Int) - 1 := IntWalk.i64_in _ (by omega)
         go_wp2_with fail
         clear hwn
         go_loopw [23, 24] (fun p q wr => ∃ (i' : Nat) (cur : List Rep), i' ≤ n ∧ p = .int .i64 i' ∧ q = .int .i64 ((n : Int) - 1 - (i' : Int)) ∧ Hid (Cur wr (u5.heap.size + 1 + 1) A n c cur Rl) ∧ Hid (Below u5.heap.size u5 wr)) (fun p _ _ => n - (intOf p).toNat)
         case atStart => exact ⟨0, Rl, Nat.zero_le _, rfl, by congr 1; omega, HC0.out, E6.out⟩
         case round =>
          clear HC0 E6 EO
          obtain ⟨i, cur, hi4, rfl, rfl, HCU, E7⟩ := hrel
          obtain ⟨wo, rfl⟩ : ∃ wo, wo = wr := ⟨_, rfl⟩
          by_cases hik : (i : Int) < (n : Int) - 1 - (i : Int)
          rotate_left
          ·skip
           have ET := Lib.hid (ext_trans EW.out E7.out)
           have TX := Lib.hid ((T4.out.ext HM.out.e).ext E7.out)
           have PX := Lib.hid (HM.out.ext E7.out)
           have HPK := Lib.hid (choice_ok HCH.out)
           have HPL := Lib.hid (own_num PX.out.p)
           have HRN := Lib.hid (own_rlen HCU.out.o)
           have HRS : Hid (Slc wo Rep.cells 6 A cur) := HCU.out.o.slc (fun _ => rfl) (show 0 < 6 by decide)
           have hn8 : n ≤ 8 := by omega
           obtain ⟨QA, hqa⟩ : ∃ E, askE t s cur l = E := ⟨_, rfl⟩
           obtain ⟨wv, hwv⟩ : ∃ b, worldV t s cur l (nums pk) = b := ⟨_, rfl⟩
           have HQA := Lib.hid hqa
           have HWV := Lib.hid hwv
           have HMC := Lib.hid (HCU.out.made HMD.out)
           clear hqa hwv
           have b0 := TX.out.c 0 _ rfl
           have b1 := TX.out.c 1 _ rfl
           have b2 := TX.out.c 2 _ rfl
           have b3 := TX.out.c 3 _ rfl
           have b4 := TX.out.c 4 _ rfl
           have b5 := TX.out.c 5 _ rfl
           have b6 := TX.out.lt
           go_wp2_with fail
           clear b0 b1 b2 b3 b4 b5 b6
           refine (world_lit QA wv ((wErr_ok HPK.out).trans HQA.out) HWV.out HSN.out.symm HRN.out.symm HLN.out.symm (by rw [nums, List.length_map, HPL.out]) (HT.out.ext ET.out) (HS.out.ext ET.out) HRS.out (HL.out.ext ET.out) (own_ints PX.out.p) (by rw [nums, List.length_map, HPL.out]; unfold maxLen; omega) (by rw [HSN.out]; omega) (by rw [HRN.out]; omega) (by rw [HLN.out]; omega)).mono ?_
           rintro e w7 ⟨rfl, B7⟩
           have ET7 := Lib.hid (ext_trans ET.out B7)
           have TX7 := Lib.hid (TX.out.ext B7)
           have HRS7 := Lib.hid (HRS.out.ext B7)
           have PX7 := Lib.hid (PX.out.ext B7)
           clear B7
           by_cases hq : QA = 0
           rotate_left
           ·have hq0 : ((QA : Int) == 0) = false := by rw [beq_eq_false_iff_ne]; exact hq
            have hq1 : ((QA : Int) != 0) = true := by rw [bne, hq0]; rfl
            clear hq
            go_wp2_with fail
            go_ret
            exact ⟨rfl, ET7.out⟩
           subst hq
           have HWP := Lib.hid (world_true HQA.out HSA.out.1 HMC.out HFA.out)
           obtain rfl : wv = true := HWV.out.symm.trans ((wVal_ok HPK.out HQA.out).trans HWP.out)
           have HE0 : Hid (possErr t s cur l = 0) := by unfold Hid; rw [perr_fnd HQA.out HMF.out, foundB_iff.2 ⟨pk, HCH.out, HWP.out⟩]; rfl
           obtain ⟨L, hL⟩ : ∃ L, possV t s cur l = L := ⟨_, rfl⟩
           have HLL := Lib.hid hL
           have HN1 : Hid (L.length = ln) := ((possV_len HE0.out hL rfl).1 rfl).trans HLN.out
           clear hL
           have b0 := TX7.out.c 0 _ rfl
           have b1 := TX7.out.c 1 _ rfl
           have b2 := TX7.out.c 2 _ rfl
           have b3 := TX7.out.c 3 _ rfl
           have b4 := TX7.out.c 4 _ rfl
           have b5 := TX7.out.c 5 _ rfl
           have b6 := TX7.out.lt
           go_wp2_with fail
           clear b0 b1 b2 b3 b4 b5 b6
           refine (poss_lit 0 ln L HE0.out HLL.out HN1.out HSN.out.symm HRN.out.symm HLN.out.symm (HT.out.ext ET7.out) (HS.out.ext ET7.out) HRS7.out (HL.out.ext ET7.out) (by rw [HSN.out]; omega) (by rw [HRN.out]; omega) (by rw [HLN.out]; omega)).mono ?_
           rintro e w8 ⟨A1, c1, rfl, hP1, B8⟩
           have ET8 := Lib.hid (ext_trans ET7.out B8)
           have PX8 := Lib.hid (PX7.out.ext B8)
           obtain ⟨rows, hrs, hrok, hrm, hrl⟩ := hP1.ra
           have HRR := Lib.hid hrs
           have HROK := Lib.hid hrok
           have HRM := Lib.hid hrm
           have HRL := Lib.hid hrl
           have HLV : Hid (possL t s cur l = L) := by unfold Hid; rw [← HLL.out, possV0 HE0.out]
           clear B8 hrs hrok hrm hrl hP1
           go_wp2_with fail
           go_loopw [29] (fun i wr => ∃ i' : Nat, i' ≤ ln ∧ i = .int .i64 i' ∧ Hid (Below w8.heap.size w8 wr)) (fun i _ => ln - (intOf i).toNat)
           case atStart => exact ⟨0, Nat.zero_le _, rfl, ext_refl _⟩
           case round =>
            obtain ⟨i, hi5, rfl, EI⟩ := hrel
            obtain ⟨wp, rfl⟩ : ∃ wp, wp = wr := ⟨_, rfl⟩
            have ED := Lib.hid (ext_trans ET8.out EI.out)
            by_cases hil : i < ln
            rotate_left
            ·obtain rfl : ln = i := by omega
             have hin9 : ¬ (ln : Int) < (ln : Int) := by omega
             go_wp2_with fail
             go_ret
             exact ⟨rfl, ED.out⟩
            have hii : (i : Int) < (ln : Int) := by omega
            obtain ⟨r, qb, qo, hr, hqA, hqb, hqc⟩ := (HRR.out.below (Nat.le_refl _) EI.out).at_ (k := i) (by rw [← HRL.out]; exact hil)
            have hLi : (possL t s cur l)[i]? = some r.l := by rw [HLV.out, ← HRM.out, List.getElem?_map, hr]; rfl
            obtain ⟨hlen, hval⟩ := possL_at hLi
            obtain ⟨d, hd⟩ : ∃ d, pk[i]? = some d := ⟨_, List.getElem?_eq_getElem (by rw [HPL.out]; exact hil)⟩
            obtain ⟨m, hm⟩ : ∃ m, r.l.length = m := ⟨_, rfl⟩
            obtain ⟨y, hy⟩ : ∃ y, l[i]? = some y := ⟨_, List.getElem?_eq_getElem (by rw [HLN.out]; exact hil)⟩
            have hmy : (msT l)[i]? = some y.ps.l.length := by unfold msT; rw [List.getElem?_map, hy]; rfl
            have hdm : d < m := by rw [← hm, hlen, msT_at hy]; exact HCH.out.2 i _ d hmy hd
            obtain ⟨bb, hbb⟩ : ∃ bb, r.l[d]? = some bb := ⟨_, List.getElem?_eq_getElem (by rw [hm]; exact hdm)⟩
            obtain rfl : bb = true := (hval d bb hbb).trans (possB_iff.2 ⟨pk, HCH.out, hd, HWP.out⟩)
            obtain ⟨rb, hrb⟩ : ∃ rb, r.b = rb := ⟨_, rfl⟩
            have q8 : wp.cell? ⟨qb, qo + i, none⟩ = some (.slice (some ⟨rb, 0, none⟩) m m) := by
             have := hqc 0 _ rfl
             rw [BR.v, hm, hrb] at this
             simpa using this
            have hrk : BR.ok wp r := Below.cellsB EI.out (HROK.out r (List.mem_of_getElem? hr))
            have r8 : wp.cell? ⟨rb, d, none⟩ = some (.bool true) := by rw [← hrb]; exact BR.cell hrk hbb
            have rl : rb < wp.heap.size := by rw [← hrb]; exact BR.lt hrk
            have hpi := PX8.out.p.ext EI.out
            have a8 := (own_getC hpi hd).1
            have al := (own_getC hpi hd).2
            have hdi : (d : Int) < (m : Int) := by omega
            have ql := hqb
            subst hqA
            clear hr hqb hqc hLi hlen hval hd hm hy hmy hbb hrb hrk hpi
            go_wp2_with fail
            have SS := Lib.hid (show ∀ w', Below wp.heap.size wp w' → (fun w' => Below wp.heap.size wp w' ∧ w'.cell? ⟨qb, qo + i, none⟩ = some (.slice (some ⟨rb, 0, none⟩) m m) ∧ w'.cell? ⟨a, i, none⟩ = some (.int .i64 (d : Int)) ∧ w'.cell? ⟨rb, d, none⟩ = some (.bool true)) w' from fun w' h => ⟨h, (h.cell (p := ⟨qb, qo + i, none⟩) ql).trans q8, (h.cell (p := ⟨a, i, none⟩) al).trans a8, (h.cell (p := ⟨rb, d, none⟩) rl).trans r8⟩)
            refine rgB 11 SS (ext_drew (ext_refl _)) (fun Q7 hQ7 hN7 hHeld => ?_)
            refine rgT 0 (some 228) hQ7 hHeld ?_; refine rgT 1 (some 229) hQ7 hHeld ?_; refine rgT 2 (some 230) hQ7 hHeld ?_; refine rgT 3 (some 231) hQ7 hHeld ?_; refine rgT 4 (some 232) hQ7 hHeld ?_; refine rgT 5 (some 233) hQ7 hHeld ?_; refine rgT 6 (some 234) hQ7 hHeld ?_; refine rgT 7 (some 235) hQ7 hHeld ?_; refine rgT 8 (some 236) hQ7 hHeld ?_; refine rgT 9 (some 237) hQ7 hHeld ?_
            refine rgT 10 (some 238) hQ7 hHeld ?_
            refine rg_end (by kernel_rfl) (hN7 _ _ ?_) _
            clear hQ7 hN7 Q7
            have BX := hHeld.1
            clear SS
            have E9 := Lib.hid (ext_trans EI.out BX)
            clear BX q8 ql r8 rl a8 al
            go_wp2_with fail
            go_roundw
            case rel => exact ⟨i + 1, hil, by go_num, E9⟩
            case measure => simp [intOf]; (try omega)
          obtain ⟨k, hk⟩ : ∃ k : Nat, (n : Int) - 1 - (i : Int) = (k : Int) := ⟨((n : Int) - 1 - (i : Int)).toNat, by omega⟩
          rw [hk] at hik ⊢
          have hin9 : (i : Int) < (n : Int) := by omega
          have hkn9 : (k : Int) < (n : Int) := by omega
          have hcl := own_rlen HCU.out.o
          obtain ⟨g, rfl, hgb⟩ := own_raddr HCU.out.o (by omega)
          obtain ⟨za, hza⟩ : ∃ za, cur[i]? = some za := ⟨_, List.getElem?_eq_getElem (by rw [hcl]; omega)⟩
          obtain ⟨zb, hzb⟩ : ∃ zb, cur[k]? = some zb := ⟨_, List.getElem?_eq_getElem (by rw [hcl]; omega)⟩
          have HOC := Lib.hid HCU.out.o
          have ca := own_get6 HOC.out hza
          have cb := own_get6 HOC.out hzb
          have ic0 := ca.1
          have ic1 := ca.2.1
          have ic2 := ca.2.2.1
          have ic3 := ca.2.2.2.1
          have ic4 := ca.2.2.2.2.1
          have ic5 := ca.2.2.2.2.2.1
          have kc0 := cb.1
          have kc1 := cb.2.1
          have kc2 := cb.2.2.1
          have kc3 := cb.2.2.2.1
          have kc4 := cb.2.2.2.2.1
          have kc5 := cb.2.2.2.2.2.1
          have gl := cb.2.2.2.2.2.2
          have da := own_get6 HOC.out.drew_ hza
          have sz0 := da.1
          have sz1 := da.2.1
          have sz2 := da.2.2.1
          have sz3 := da.2.2.2.1
          have sz4 := da.2.2.2.2.1
          have sz5 := da.2.2.2.2.2.1
          have szl := da.2.2.2.2.2.2
          have szf0 := Own.frozen HOC.out.drew_ (i * 6)
          have swf0 := Own.frozen HOC.out (i * 6)
          have szf1 := Own.frozen HOC.out.drew_ (i * 6 + 1)
          have swf1 := Own.frozen HOC.out (i * 6 + 1)
          have szf2 := Own.frozen HOC.out.drew_ (i * 6 + 2)
          have swf2 := Own.frozen HOC.out (i * 6 + 2)
          have szf3 := Own.frozen HOC.out.drew_ (i * 6 + 3)
          have swf3 := Own.frozen HOC.out (i * 6 + 3)
          have szf4 := Own.frozen HOC.out.drew_ (i * 6 + 4)
          have swf4 := Own.frozen HOC.out (i * 6 + 4)
          have szf5 := Own.frozen HOC.out.drew_ (i * 6 + 5)
          have swf5 := Own.frozen HOC.out (i * 6 + 5)
          have hik' : i < k := by omega
          have HZA := Lib.hid hza
          have HZB := Lib.hid hzb
          have HKK := Lib.hid hk
          clear ca cb da hcl hk
          go_wp2_with fail
          have SS := Lib.hid (show ∀ w', Below wo.heap.size wo w' → (fun w' => Below wo.heap.size wo w' ∧ w'.cell? ⟨g, k * 6, none⟩ = some (.int .i64 zb.st) ∧ w'.cell? ⟨g, k * 6 + 1, none⟩ = some (.int .i64 zb.no) ∧ w'.cell? ⟨g, k * 6 + 2, none⟩ = some (.int .i64 zb.mi) ∧ w'.cell? ⟨g, k * 6 + 3, none⟩ = some (.int .i64 zb.ar) ∧ w'.cell? ⟨g, k * 6 + 4, none⟩ = some (.string zb.call) ∧ w'.cell? ⟨g, k * 6 + 5, none⟩ = some (.int .i64 zb.vol) ∧ w'.cell? ⟨g, i * 6, none⟩ = some (.int .i64 za.st) ∧ w'.cell? ⟨g, i * 6 + 1, none⟩ = some (.int .i64 za.no) ∧ w'.cell? ⟨g, i * 6 + 2, none⟩ = some (.int .i64 za.mi) ∧ w'.cell? ⟨g, i * 6 + 3, none⟩ = some (.int .i64 za.ar) ∧ w'.cell? ⟨g, i * 6 + 4, none⟩ = some (.string za.call) ∧ w'.cell? ⟨g, i * 6 + 5, none⟩ = some (.int .i64 za.vol)) w' from fun w' h => ⟨h, (h.cell (p := ⟨g, k * 6, none⟩) gl).trans kc0, (h.cell (p := ⟨g, k * 6 + 1, none⟩) gl).trans kc1, (h.cell (p := ⟨g, k * 6 + 2, none⟩) gl).trans kc2, (h.cell (p := ⟨g, k * 6 + 3, none⟩) gl).trans kc3, (h.cell (p := ⟨g, k * 6 + 4, none⟩) gl).trans kc4, (h.cell (p := ⟨g, k * 6 + 5, none⟩) gl).trans kc5, (h.cell (p := ⟨g, i * 6, none⟩) gl).trans ic0, (h.cell (p := ⟨g, i * 6 + 1, none⟩) gl).trans ic1, (h.cell (p := ⟨g, i * 6 + 2, none⟩) gl).trans ic2, (h.cell (p := ⟨g, i * 6 + 3, none⟩) gl).trans ic3, (h.cell (p := ⟨g, i * 6 + 4, none⟩) gl).trans ic4, (h.cell (p := ⟨g, i * 6 + 5, none⟩) gl).trans ic5⟩)
          refine rgB 13 SS (ext_drew (ext_refl _)) (fun Q7 hQ7 hN7 hHeld => ?_)
          refine rgT 0 (some 175) hQ7 hHeld ?_; refine rgT 1 (some 176) hQ7 hHeld ?_
          refine rg_pure (i := 2) (some 177) (v := ?_) rfl rfl (by kernel_rfl) (by rfl) hQ7 (by first | exact .inr hHeld | exact .inl (by kernel_rfl)) ?_ ?_
          rotate_left
          ·intro w7; go_simp; all_goals with_reducible rfl
          try simp only [Act.put, List.setIfInBounds_toArray, List.set_cons_zero, List.set_cons_succ]
          refine rg_pure (i := 3) (some 178) (v := ?_) rfl rfl (by kernel_rfl) (by rfl) hQ7 (by first | exact .inr hHeld | exact .inl (by kernel_rfl)) ?_ ?_
          rotate_left
          ·intro w7; go_simp; all_goals with_reducible rfl
          try simp only [Act.put, List.setIfInBounds_toArray, List.set_cons_zero, List.set_cons_succ]
          refine rgT 4 (some 179) hQ7 hHeld ?_; refine rgT 5 (some 180) hQ7 hHeld ?_; refine rgT 6 (some 181) hQ7 hHeld ?_; refine rgT 7 (some 182) hQ7 hHeld ?_; refine rgT 8 (some 183) hQ7 hHeld ?_; refine rgT 9 (some 184) hQ7 hHeld ?_; refine rgT 10 (some 185) hQ7 hHeld ?_; refine rgT 11 (some 186) hQ7 hHeld ?_; refine rgT 12 (some 187) hQ7 hHeld ?_
          refine rg_one (i := 13) (by kernel_rfl) (rg_late rfl (by rfl) (by kernel_rfl) (fun K hK => ?_))
          go_simp
          refine hK.out _ _ ?_
          clear hK K
          try simp only [Act.put, List.setIfInBounds_toArray, List.set_cons_zero, List.set_cons_succ]
          obtain ⟨U1, hU1⟩ : ∃ U1, ((((((wo.setCell ⟨g, i * 6, none⟩ (.int .i64 zb.st)).setCell ⟨g, i * 6 + 1, none⟩ (.int .i64 zb.no)).setCell ⟨g, i * 6 + 2, none⟩ (.int .i64 zb.mi)).setCell ⟨g, i * 6 + 3, none⟩ (.int .i64 zb.ar)).setCell ⟨g, i * 6 + 4, none⟩ (.string zb.call)).setCell ⟨g, i * 6 + 5, none⟩ (.int .i64 zb.vol)).drew = U1 := ⟨_, rfl⟩
          rw [hU1]
          have HU1 := Lib.hid (own_set6 (z := zb) HOC.out hza).drew_
          rw [hU1] at HU1
          have kz := own_get6 HU1.out (k := k) (x := zb) (by rw [List.getElem?_set_ne (by omega)]; exact hzb)
          have kz0 := kz.1
          have kz1 := kz.2.1
          have kz2 := kz.2.2.1
          have kz3 := kz.2.2.2.1
          have kz4 := kz.2.2.2.2.1
          have kz5 := kz.2.2.2.2.2.1
          have kzl := kz.2.2.2.2.2.2
          have kzf0 := Own.frozen HU1.out (k * 6)
          have kzf1 := Own.frozen HU1.out (k * 6 + 1)
          have kzf2 := Own.frozen HU1.out (k * 6 + 2)
          have kzf3 := Own.frozen HU1.out (k * 6 + 3)
          have kzf4 := Own.frozen HU1.out (k * 6 + 4)
          have kzf5 := Own.frozen HU1.out (k * 6 + 5)
          clear kz
          refine rg_pure (i := 14) (some 188) (v := ?_) rfl rfl (by kernel_rfl) (by rfl) hQ7 (.inl (by kernel_rfl)) ?_ ?_
          rotate_left
          ·intro w7; go_simp; all_goals with_reducible rfl
          try simp only [Act.put, List.setIfInBounds_toArray, List.set_cons_zero, List.set_cons_succ]
          refine rg_one (i := 15) (by kernel_rfl) (rg_late rfl (by rfl) (by kernel_rfl) (fun K hK => ?_))
          go_simp
          refine hK.out _ _ ?_
          clear hK K
          try simp only [Act.put, List.setIfInBounds_toArray, List.set_cons_zero, List.set_cons_succ]
          refine rg_end (by kernel_rfl) (hN7 _ _ ?_) _
          clear hQ7 hN7 Q7
          have BX := hHeld.1
          clear SS
          have hg2 : u5.heap.size ≤ g := by omega
          have EU1 : Below u5.heap.size u5 U1 := by
           rw [← hU1]
           exact ext_drew (below_set (below_set (below_set (below_set (below_set (below_set E7.out _ _ hg2) _ _ hg2) _ _ hg2) _ _ hg2) _ _ hg2) _ _ hg2)
          have EU2 := Lib.hid (below_set (below_set (below_set (below_set (below_set (below_set EU1 ⟨g, k * 6, none⟩ (.int .i64 za.st) hg2) ⟨g, k * 6 + 1, none⟩ (.int .i64 za.no) hg2) ⟨g, k * 6 + 2, none⟩ (.int .i64 za.mi) hg2) ⟨g, k * 6 + 3, none⟩ (.int .i64 za.ar) hg2) ⟨g, k * 6 + 4, none⟩ (.string za.call) hg2) ⟨g, k * 6 + 5, none⟩ (.int .i64 za.vol) hg2)
          have HO2 := own_set6 (z := za) HU1.out (i := k) (x := zb) (by rw [List.getElem?_set_ne (by omega)]; exact HZB.out)
          have HC2 : Hid (Cur ((((((U1.setCell ⟨g, k * 6, none⟩ (.int .i64 za.st)).setCell ⟨g, k * 6 + 1, none⟩ (.int .i64 za.no)).setCell ⟨g, k * 6 + 2, none⟩ (.int .i64 za.mi)).setCell ⟨g, k * 6 + 3, none⟩ (.int .i64 za.ar)).setCell ⟨g, k * 6 + 4, none⟩ (.string za.call)).setCell ⟨g, k * 6 + 5, none⟩ (.int .i64 za.vol)) (u5.heap.size + 1 + 1) (some ⟨g, 0, none⟩) n c ((cur.set i zb).set k za) Rl) := ⟨HO2, fun p => (swap_count p hik' HZA.out HZB.out).trans (HCU.out.k p)⟩
          obtain ⟨U2, hU2⟩ : ∃ U2, ((((((U1.setCell ⟨g, k * 6, none⟩ (.int .i64 za.st)).setCell ⟨g, k * 6 + 1, none⟩ (.int .i64 za.no)).setCell ⟨g, k * 6 + 2, none⟩ (.int .i64 za.mi)).setCell ⟨g, k * 6 + 3, none⟩ (.int .i64 za.ar)).setCell ⟨g, k * 6 + 4, none⟩ (.string za.call)).setCell ⟨g, k * 6 + 5, none⟩ (.int .i64 za.vol)) = U2 := ⟨_, rfl⟩
          rw [hU2] at EU2 HC2 ⊢
          have hwk : IntKind.i64.wrap ((k : Int) - 1) = (k : Int) - 1 := IntWalk.i64_in _ (by omega)
          clear BX hU2 EU1 HO2 hU1 kz0 kz1 kz2 kz3 kz4 kz5 kzl kzf0 kzf1 kzf2 kzf3 kzf4 kzf5 ic0 ic1 ic2 ic3 ic4 ic5 kc0 kc1 kc2 kc3 kc4 kc5 gl sz0 sz1 sz2 sz3 sz4 sz5 szl szf0 szf1 szf2 szf3 szf4 szf5 swf0 swf1 swf2 swf3 swf4 swf5
          go_wp2_with fail
          go_roundw
          case rel => exact ⟨i + 1, _, by omega, by go_num, by congr 1; have := HKK.out; omega, HC2, EU2⟩
          case measure => simp [intOf]; (try omega)
       have hisi : (i : Int) < (sn : Int) := by omega
       have EW6 := Lib.hid (ext_trans EW.out E6.out)
       obtain ⟨x, xb, xo, hx, hxA, hxb, hxc⟩ := (HS.out.slc.below (Nat.le_refl _) EW6.out).at_ (k := i) (by rw [HSN.out]; exact his)
       have x2 := hxc 2 _ rfl
       obtain ⟨d, hd⟩ : ∃ d, O[i]? = some d := ⟨_, List.getElem?_eq_getElem (by rw [HOL.out]; exact his)⟩
       have hoo := M6.out.o.ext EO.out
       have d8 := (own_getC hoo hd).1
       have dl := (own_getC hoo hd).2
       have xl := hxb
       have HXX := Lib.hid hx
       have HDD := Lib.hid hd
       subst hxA
       clear hx hxb hxc hd hoo
       by_cases hfa : x.fa < (d : Int)
       ·go_wp2_with fail
        have SS := Lib.hid (show ∀ w', Below wo.heap.size wo w' → (fun w' => Below wo.heap.size wo w' ∧ w'.cell? ⟨u5.heap.size + 1, i, none⟩ = some (.int .i64 (d : Int)) ∧ w'.cell? ⟨xb, xo + i * 3 + 2, none⟩ = some (.int .i64 x.fa)) w' from fun w' h => ⟨h, (h.cell (p := ⟨u5.heap.size + 1, i, none⟩) dl).trans d8, (h.cell (p := ⟨xb, xo + i * 3 + 2, none⟩) xl).trans x2⟩)
        refine rgB 10 SS (ext_drew (ext_refl _)) (fun Q7 hQ7 hN7 hHeld => ?_)
        refine rgT 0 (some 154) hQ7 hHeld ?_; refine rgT 1 (some 155) hQ7 hHeld ?_; refine rgT 2 (some 156) hQ7 hHeld ?_; refine rgT 3 (some 157) hQ7 hHeld ?_; refine rgT 4 (some 158) hQ7 hHeld ?_; refine rgT 5 (some 159) hQ7 hHeld ?_; refine rgT 6 (some 160) hQ7 hHeld ?_; refine rgT 7 (some 161) hQ7 hHeld ?_; refine rgT 8 (some 162) hQ7 hHeld ?_; refine rgT 9 (some 163) hQ7 hHeld ?_
        refine rg_end (by kernel_rfl) (hN7 _ _ ?_) _
        clear hQ7 hN7 Q7
        have BX := hHeld.1
        clear SS
        have E9 := Lib.hid (ext_trans EW6.out BX)
        clear BX
        go_wp2_with fail
        go_ret
        exact ⟨rfl, E9.out⟩
       have HF2 : Hid (∀ (q : Nat) (x : Stn), q < i + 1 → s[q]? = some x → ((O.getD q 0 : Nat) : Int) ≤ x.fa) := fun q y hq hy => by
        by_cases e : q = i
        ·subst e
         rw [HXX.out] at hy
         cases hy
         rw [List.getD_eq_getElem?_getD, HDD.out, Option.getD_some]
         omega
        ·exact HF.out q y (by omega) hy
       go_wp2_with fail
       have SS := Lib.hid (show ∀ w', Below wo.heap.size wo w' → (fun w' => Below wo.heap.size wo w' ∧ w'.cell? ⟨u5.heap.size + 1, i, none⟩ = some (.int .i64 (d : Int)) ∧ w'.cell? ⟨xb, xo + i * 3 + 2, none⟩ = some (.int .i64 x.fa)) w' from fun w' h => ⟨h, (h.cell (p := ⟨u5.heap.size + 1, i, none⟩) dl).trans d8, (h.cell (p := ⟨xb, xo + i * 3 + 2, none⟩) xl).trans x2⟩)
       refine rgB 10 SS (ext_drew (ext_refl _)) (fun Q7 hQ7 hN7 hHeld => ?_)
       refine rgT 0 (some 154) hQ7 hHeld ?_; refine rgT 1 (some 155) hQ7 hHeld ?_; refine rgT 2 (some 156) hQ7 hHeld ?_; refine rgT 3 (some 157) hQ7 hHeld ?_; refine rgT 4 (some 158) hQ7 hHeld ?_; refine rgT 5 (some 159) hQ7 hHeld ?_; refine rgT 6 (some 160) hQ7 hHeld ?_; refine rgT 7 (some 161) hQ7 hHeld ?_; refine rgT 8 (some 162) hQ7 hHeld ?_; refine rgT 9 (some 163) hQ7 hHeld ?_
       refine rg_end (by kernel_rfl) (hN7 _ _ ?_) _
       clear hQ7 hN7 Q7
       have BX := hHeld.1
       clear SS
       have E9 := Lib.hid (ext_trans EO.out BX)
       clear BX d8 dl x2 xl
       go_wp2_with fail
       go_roundw
       case rel => exact ⟨i + 1, his, by go_num, HF2, E9⟩
       case measure => simp [intOf]; (try omega)
     have hisi : (i : Int) < (sn : Int) := by omega
     have EW := Lib.hid (ext_trans E4.out HM.out.e)
     obtain ⟨x, xb, xo, hx, hxA, hxb, hxc⟩ := (HS.out.slc.below (Nat.le_refl _) EW.out).at_ (k := i) (by rw [HSN.out]; exact his)
     have x1 := hxc 1 _ rfl
     have HXX := Lib.hid hx
     obtain ⟨m, hm⟩ : ∃ m, x.sh = m := ⟨_, rfl⟩
     have HMM := Lib.hid hm
     rw [hm] at x1
     have xl := hxb
     subst hxA
     clear hx hxc hm hxb
     by_cases g0 : m < 0
     ·go_wp2_with fail
      all_goals
       go_ret
       exact ⟨rfl, EW.out⟩
     by_cases g3 : 3 < m
     ·go_wp2_with fail
      all_goals
       go_ret
       exact ⟨rfl, EW.out⟩
     by_cases hic : i < cn
     rotate_left
     ·have hic' : ¬ (i : Int) < (cn : Int) := by omega
      have HSK2 := Lib.hid (HSK.out.step HXX.out (by rw [HMM.out]; omega) (by rw [HMM.out]; omega))
      go_wp2_with fail
      go_roundw
      case rel => exact ⟨i + 1, shs, his, by go_num, HM, HSK2⟩
      case measure => simp [intOf]; (try omega)
     have hic' : (i : Int) < (cn : Int) := by omega
     obtain ⟨v, ub, uo, hv, huA, hub, huc⟩ := (HC.out.slc.below (Nat.le_refl _) EW.out).at_ (k := i) (by rw [HCN.out]; exact hic)
     have hvb : isB v := HC.out.all (List.mem_of_getElem? hv)
     have u8 : wo.cell? ⟨ub, uo + i, none⟩ = some (.int .u8 v) := by have := huc 0 _ rfl; simpa using this
     have ul := hub
     have hw1 : IntKind.i64.wrap v = v := IntWalk.i64_in _ (by unfold isB at hvb; omega)
     obtain ⟨D, hD⟩ : ∃ D, 2 * m + 1 = D := ⟨_, rfl⟩
     have hw2 : IntKind.i64.wrap (2 * m) = 2 * m := IntWalk.i64_in _ (by omega)
     have hw3 : IntKind.i64.wrap (2 * m + 1) = D := by rw [hD]; exact IntWalk.i64_in _ (by omega)
     have hD0 : ¬ D = 0 := by omega
     obtain ⟨r0, hr0⟩ : ∃ r0, v.tmod D = r0 := ⟨_, rfl⟩
     have hr1 : 0 ≤ r0 := by rw [← hr0]; exact Int.tmod_nonneg _ hvb.1
     have hr2 : r0 < D := by rw [← hr0]; exact Int.tmod_lt_of_pos _ (by omega)
     obtain ⟨e, he⟩ : ∃ e, r0 - m = e := ⟨_, rfl⟩
     have hw4 : IntKind.i64.wrap (r0 - m) = e := by rw [he]; exact IntWalk.i64_in _ (by omega)
     obtain ⟨d, hd⟩ : ∃ d, shs[i]? = some d := ⟨_, List.getElem?_eq_getElem (by rw [HSK.out.1, HSN.out]; exact his)⟩
     have s8d := HM.out.q.drew_
     have s8 := (own_getI s8d hd).1
     have s8l := (own_getI s8d hd).2
     have s8f := Own.frozen s8d i
     have HM2 := Lib.hid ((HM.out.setQ HAB.out hd e).ext (ext_drew (ext_refl _)))
     have HSK2 := Lib.hid (HSK.out.set HXX.out (by rw [HMM.out]; omega) (by rw [HMM.out]; omega) (e := e) (by rw [HMM.out]; omega) (by rw [HMM.out]; omega))
     subst huA
     clear hv hub huc hvb hD hr1 hr2 he hd s8d
     go_wp2_with fail
     have SS := Lib.hid (show ∀ w', Below wo.heap.size wo w' → (fun w' => Below wo.heap.size wo w' ∧ w'.cell? ⟨ub, uo + i, none⟩ = some (.int .u8 v) ∧ w'.cell? ⟨xb, xo + i * 3 + 1, none⟩ = some (.int .i64 m)) w' from fun w' h => ⟨h, (h.cell (p := ⟨ub, uo + i, none⟩) ul).trans u8, (h.cell (p := ⟨xb, xo + i * 3 + 1, none⟩) xl).trans x1⟩)
     refine rgB 22 SS (ext_drew (ext_refl _)) (fun Q7 hQ7 hN7 hHeld => ?_)
     refine rgT 0 (some 113) hQ7 hHeld ?_; refine rgT 1 (some 114) hQ7 hHeld ?_; refine rgT 2 (some 115) hQ7 hHeld ?_; refine rgT 3 (some 116) hQ7 hHeld ?_; refine rgT 4 (some 117) hQ7 hHeld ?_; refine rgT 5 (some 118) hQ7 hHeld ?_; refine rgT 6 (some 119) hQ7 hHeld ?_; refine rgT 7 (some 120) hQ7 hHeld ?_; refine rgT 8 (some 121) hQ7 hHeld ?_; refine rgT 9 (some 122) hQ7 hHeld ?_; refine rgT 10 (some 123) hQ7 hHeld ?_
     refine rgT 11 (some 124) hQ7 hHeld ?_; refine rgT 12 (some 125) hQ7 hHeld ?_; refine rgT 13 (some 126) hQ7 hHeld ?_; refine rgT 14 (some 127) hQ7 hHeld ?_; refine rgT 15 (some 128) hQ7 hHeld ?_; refine rgT 16 (some 129) hQ7 hHeld ?_; refine rgT 17 (some 130) hQ7 hHeld ?_; refine rgT 18 (some 131) hQ7 hHeld ?_; refine rgT 19 (some 132) hQ7 hHeld ?_; refine rgT 20 (some 133) hQ7 hHeld ?_; refine rgT 21 (some 134) hQ7 hHeld ?_
     refine rg_one (i := 22) (by kernel_rfl) (rg_late rfl (by rfl) (by kernel_rfl) (fun K hK => ?_))
     go_simp
     refine hK.out _ _ ?_
     clear hK K
     try simp only [Act.put, List.setIfInBounds_toArray, List.set_cons_zero, List.set_cons_succ]
     refine rg_end (by kernel_rfl) (hN7 _ _ ?_) _
     clear hQ7 hN7 Q7
     have BX := hHeld.1
     clear SS
     clear BX u8 x1 s8 s8l s8f ul xl hw1 hw2 hw3 hw4 hr0 hD0
     go_wp2_with fail
     go_roundw
     case rel => exact ⟨i + 1, _, his, by go_num, HM2, HSK2⟩
     case measure => simp [intOf]; (try omega)
   have hii : (i : Int) < (ln : Int) := by omega
   by_cases hiu : i < un
   rotate_left
   ·have hiu' : ¬ (i : Int) < (un : Int) := by omega
    go_wp2_with fail
    go_roundw
    case rel => exact ⟨i + 1, pk, hil, by go_num, HM, HCH⟩
    case measure => simp [intOf]; (try omega)
   have hiu' : (i : Int) < (un : Int) := by omega
   have EW := Lib.hid (ext_trans E4.out HM.out.e)
   obtain ⟨v, ub, uo, hv, huA, hub, huc⟩ := (HU.out.slc.below (Nat.le_refl _) EW.out).at_ (k := i) (by rw [HUN.out]; exact hiu)
   obtain ⟨x, xb, xo, hx, hxA, hxb, hxc⟩ := (HL.out.slc.below (Nat.le_refl _) EW.out).at_ (k := i) (by rw [HLN.out]; exact hil)
   have hvb : isB v := HU.out.all (List.mem_of_getElem? hv)
   have u8 : wo.cell? ⟨ub, uo + i, none⟩ = some (.int .u8 v) := by have := huc 0 _ rfl; simpa using this
   have x12 := hxc 12 _ rfl
   have hmi : (msT l)[i]? = some x.ps.l.length := by unfold msT; rw [List.getElem?_map, hx]; rfl
   have hmx := HPS.out x (List.mem_of_getElem? hx)
   obtain ⟨m, hm⟩ : ∃ m, x.ps.l.length = m := ⟨_, rfl⟩
   rw [hm] at x12 hmi hmx
   obtain ⟨d2, hd2⟩ : ∃ d2 : Nat, v.tmod (m : Int) = (d2 : Int) := ⟨(v.tmod (m : Int)).toNat, by rw [Int.toNat_of_nonneg (Int.tmod_nonneg _ hvb.1)]⟩
   have hd2m : d2 < m := by
    have := Int.tmod_lt_of_pos v (show (0 : Int) < (m : Int) by omega)
    omega
   have hw1 : IntKind.i64.wrap v = v := IntWalk.i64_in _ (by unfold isB at hvb; omega)
   have hm0 : ¬ m = 0 := by omega
   obtain ⟨d, hd⟩ : ∃ d, pk[i]? = some d := ⟨_, List.getElem?_eq_getElem (by rw [HCH.out.1]; exact (List.getElem?_eq_some_iff.1 hmi).1)⟩
   have s8d := HM.out.p.drew_
   have s8 := (own_getC s8d hd).1
   have s8l := (own_getC s8d hd).2
   have s8f := Own.frozen s8d i
   have HM2 := Lib.hid ((HM.out.setP HAB.out hd d2).ext (ext_drew (ext_refl _)))
   have HCH2 := Lib.hid (choice_set HCH.out hmi hd2m)
   have ul := hub
   have xl := hxb
   subst huA hxA
   clear hv hub huc hx hxb hxc hvb hmi hmx hm hd2m hd s8d
   go_wp2_with fail
   have SS := Lib.hid (show ∀ w', Below wo.heap.size wo w' → (fun w' => Below wo.heap.size wo w' ∧ w'.cell? ⟨ub, uo + i, none⟩ = some (.int .u8 v) ∧ w'.cell? ⟨xb, xo + i * 14 + 12, none⟩ = some (.slice x.ps.A m x.ps.c)) w' from fun w' h => ⟨h, (h.cell (p := ⟨ub, uo + i, none⟩) ul).trans u8, (h.cell (p := ⟨xb, xo + i * 14 + 12, none⟩) xl).trans x12⟩)
   refine rgB 15 SS (ext_drew (ext_refl _)) (fun Q7 hQ7 hN7 hHeld => ?_)
   refine rgT 0 (some 74) hQ7 hHeld ?_; refine rgT 1 (some 75) hQ7 hHeld ?_; refine rgT 2 (some 76) hQ7 hHeld ?_; refine rgT 3 (some 77) hQ7 hHeld ?_; refine rgT 4 (some 78) hQ7 hHeld ?_; refine rgT 5 (some 79) hQ7 hHeld ?_; refine rgT 6 (some 80) hQ7 hHeld ?_; refine rgT 7 (some 81) hQ7 hHeld ?_; refine rgT 8 (some 82) hQ7 hHeld ?_; refine rgT 9 (some 83) hQ7 hHeld ?_; refine rgT 10 (some 84) hQ7 hHeld ?_
   refine rgT 11 (some 85) hQ7 hHeld ?_; refine rgT 12 (some 86) hQ7 hHeld ?_; refine rgT 13 (some 87) hQ7 hHeld ?_; refine rgT 14 (some 88) hQ7 hHeld ?_
   refine rg_one (i := 15) (by kernel_rfl) (rg_late rfl (by rfl) (by kernel_rfl) (fun K hK => ?_))
   go_simp
   refine hK.out _ _ ?_
   clear hK K
   try simp only [Act.put, List.setIfInBounds_toArray, List.set_cons_zero, List.set_cons_succ]
   refine rg_end (by kernel_rfl) (hN7 _ _ ?_) _
   clear hQ7 hN7 Q7
   have BX := hHeld.1
   clear SS
   clear BX u8 x12 s8 s8l s8f ul xl
   go_wp2_with fail
   go_roundw
   case rel => exact ⟨i + 1, _, hil, by go_num, HM2, HCH2⟩
   case measure => simp [intOf]; (try omega)
end Go.Proofs.YtjiojpoiocdnmaaGreat
