/- What airspace.Check says of tables, and the scheme's words, in plain Lean. No program in sight. -/
import Derived.Test.YtjiojpoiocdnmaaGreatU0
import Derived.Test.YtjiojpoiocdnmaaGreatA
set_option linter.unusedSimpArgs false
set_option linter.unusedVariables false
namespace Go.Proofs.YtjiojpoiocdnmaaGreat
open Go.RowKit
/-- A span that is no span of a day. -/
def badS (s : Sp) : Bool := decide (s.f < 0) || decide (s.t ≤ s.f) || decide (1440 < s.t)
def chkHE (l : List Sp) : Int := if l.any badS then 50 else 0
/-- The threes of 'within'. -/
def wit : List Int → Bool
  | a :: b :: c :: r => decide (b ≤ a) && decide (a ≤ c) && wit r
  | _ => true
def badCu (s : SliceOf Sp) : Bool := chkHE s.l != 0
structure Rng (k : Kd) : Prop where
  s0 : 1 ≤ k.slow
  s1 : k.slow ≤ 64
  f0 : k.slow ≤ k.fast
  f1 : k.fast ≤ 64
  p0 : 1 ≤ k.places
  p1 : k.places ≤ 8
  w0 : 1 ≤ k.weight
  w1 : k.weight ≤ 8
  l0 : 0 ≤ k.longest
  l1 : k.longest ≤ 60
  c1 : k.cur.l.length ≤ 16
def rngB (k : Kd) : Bool := wit [k.slow, 1, 64, k.fast, k.slow, 64, k.places, 1, 8, k.weight, 1, 8, k.longest, 0, 60, k.cur.l.length, 0, 16]
theorem rngB_iff (k : Kd) : rngB k = true ↔ Rng k := by
  simp only [rngB, wit, Bool.and_eq_true, decide_eq_true_eq, and_true]
  constructor
  · rintro ⟨⟨a, b⟩, ⟨c, d⟩, ⟨e, f⟩, ⟨g, h⟩, ⟨i, j⟩, ⟨m, n⟩⟩
    exact ⟨a, b, c, d, e, f, g, h, i, j, by omega⟩
  · rintro ⟨a, b, c, d, e, f, g, h, i, j, m⟩
    exact ⟨⟨a, b⟩, ⟨c, d⟩, ⟨e, f⟩, ⟨g, h⟩, ⟨i, j⟩, ⟨by omega, by omega⟩⟩
def vldK (k : Kd) : Bool := rngB k && k.longest % 10 == 0 && !k.cur.l.any badCu
def chkK (k : Kd) : Int := if vldK k then 0 else 120
def inn (n a b : Int) : Bool := decide (a ≤ n) && decide (n ≤ b)
def secB (s : Sec) : Bool := inn s.rad 0 64 && inn s.pro 0 s.rad
def plcB (n : Int) : Bool := inn n 0 64
def modeB (l : SliceOf Int) : Bool := inn l.l.length 1 16 && l.l.all plcB
def legB (n : Int) (x : Lg) : Bool := inn x.seg 0 127 && inn x.vol 0 (n - 1) && inn x.len 1 4096 && decide (0 < x.mi.l.length) && chkHE x.mi.l == 0
def apB (m n : Int) : Bool := inn n 0 (m - 1)
def wayB (n m : Int) (w : Wy) : Bool := apB m w.f && apB m w.t && inn w.legs.l.length 1 8 && w.legs.l.all (legB n)
def kindB (m : Nat) (k : Kd) : Bool := chkK k == 0 && k.cur.l.length == m
/-- The set of a sector's volumes, a bit for each; none: one is no volume, or listed twice. -/
def setGo (n : Nat) : Nat → List Int → Option Nat
  | x, [] => if x = 0 then none else some x
  | x, v :: r => if v < 0 ∨ (n : Int) ≤ v ∨ x &&& 2 ^ v.toNat ≠ 0 then none else setGo n (x ||| 2 ^ v.toNat) r
def setsGo (n : Nat) : List Sec → Option (List Nat)
  | [] => some []
  | s :: r => match setGo n 0 s.vs.l with
    | none => none
    | some x => (setsGo n r).map (x :: ·)
/-- The volumes of a row of sectors that do not meet. -/
def divGo (S : List Nat) : Nat → List Int → Option Nat
  | met, [] => some met
  | met, s :: r => if s < 0 ∨ (S.length : Int) ≤ s ∨ met &&& S.getD s.toNat 0 ≠ 0 then none else divGo S (met ||| S.getD s.toNat 0) r
def cfgB (n : Nat) (S : List Nat) (c : Cfg) : Bool := divGo S 0 c.ss.l == some (2 ^ n - 1)
def divT (n : Nat) (ss : List Sec) (cs : List Cfg) : Bool :=
  decide (1 ≤ n) && decide (n ≤ 64) && decide (ss.length ≤ 64) && decide (1 ≤ cs.length) && decide (cs.length ≤ 32) &&
    match setsGo n ss with
    | none => false
    | some S => cs.all (cfgB n S)
def chkT (t : Tab) : Int :=
  if inn t.n 1 64 && divT t.n.toNat t.ss.l t.cs.l && t.ss.l.all secB && decide (t.ms.l.length ≤ 16) && t.ms.l.all modeB && decide (t.ws.l.length ≤ 64) &&
    t.ws.l.all (wayB t.n t.ms.l.length) && decide (t.ks.l.length ≤ 8) && t.ks.l.all (kindB t.ms.l.length) then 0 else 140
/-- The volumes of sector s. -/
def volsAt (ss : List Sec) (s : Int) : List Int := match ss[s.toNat]? with | some x => x.vs.l | none => []
/-- The sector of a volume among a configuration's. -/
def secOf (ss : List Sec) (v : Int) : List Int → Option Int
  | [] => none
  | s :: r => if 0 ≤ s ∧ s < ss.length ∧ (volsAt ss s).any (· == v) = true then some s else secOf ss v r
end Go.Proofs.YtjiojpoiocdnmaaGreat
/- What lies in memory keeps lying there. No program in sight. -/
set_option linter.unusedSimpArgs false
set_option linter.unusedVariables false
namespace Go.Proofs.YtjiojpoiocdnmaaGreat
open Go.RowKit
theorem SliceOf.ok.ext {α : Type} {enc : α → List Value} {sz : Nat} {ok : World → α → Prop} {w w' : World} {s : SliceOf α} (h : SliceOf.ok enc sz ok w s) (hb : Below w.heap.size w w') (hx : ∀ x, ok w x → ok w' x) : SliceOf.ok enc sz ok w' s :=
  ⟨h.1.ext hb, h.2.1, h.2.2.1, h.2.2.2.1, fun x hm => hx x (h.2.2.2.2 x hm)⟩
theorem SliceOf.ok.len {α : Type} {enc : α → List Value} {sz : Nat} {ok : World → α → Prop} {w : World} {s : SliceOf α} (h : SliceOf.ok enc sz ok w s) : s.l.length ≤ maxLen := Nat.le_trans h.2.1 h.2.2.1
theorem SliceOf.ok.slc {α : Type} {enc : α → List Value} {sz : Nat} {ok : World → α → Prop} {w : World} {s : SliceOf α} (h : SliceOf.ok enc sz ok w s) : Slc w enc sz s.A s.l := h.1
theorem SliceOf.ok.all {α : Type} {enc : α → List Value} {sz : Nat} {ok : World → α → Prop} {w : World} {s : SliceOf α} (h : SliceOf.ok enc sz ok w s) {x : α} (hx : x ∈ s.l) : ok w x := h.2.2.2.2 x hx
variable {w w' : World}
theorem Lg.ok.ext {x : Lg} (h : Lg.ok w x) (hb : Below w.heap.size w w') : Lg.ok w' x := SliceOf.ok.ext h hb (fun _ k => k)
theorem Wy.ok.ext {x : Wy} (h : Wy.ok w x) (hb : Below w.heap.size w w') : Wy.ok w' x := SliceOf.ok.ext h hb (fun _ k => k.ext hb)
theorem Kd.ok.ext {x : Kd} (h : Kd.ok w x) (hb : Below w.heap.size w w') : Kd.ok w' x := SliceOf.ok.ext h hb (fun _ k => SliceOf.ok.ext k hb (fun _ q => q))
theorem ints.ext {x : SliceOf Int} (h : SliceOf.ok ic 1 (fun _ n => (Lit.int .i64 n).wf = true) w x) (hb : Below w.heap.size w w') : SliceOf.ok ic 1 (fun _ n => (Lit.int .i64 n).wf = true) w' x := SliceOf.ok.ext h hb (fun _ k => k)
theorem Sec.ok.ext {x : Sec} (h : Sec.ok w x) (hb : Below w.heap.size w w') : Sec.ok w' x := ⟨h.1, h.2.1, ints.ext h.2.2 hb⟩
theorem Cfg.ok.ext {x : Cfg} (h : Cfg.ok w x) (hb : Below w.heap.size w w') : Cfg.ok w' x := ⟨h.1, h.2.1, ints.ext h.2.2 hb⟩
theorem Chg.ok.ext {x : Chg} (h : Chg.ok w x) (hb : Below w.heap.size w w') : Chg.ok w' x := ints.ext h hb
theorem Sch.ok.ext {x : Sch} (h : Sch.ok w x) (hb : Below w.heap.size w w') : Sch.ok w' x := SliceOf.ok.ext h hb (fun _ k => k.ext hb)
theorem Nd.ok.ext {x : Nd} (h : Nd.ok w x) (hb : Below w.heap.size w w') : Nd.ok w' x := SliceOf.ok.ext h hb (fun _ k => k)
theorem secs.ext {x : SliceOf Sec} (h : SliceOf.ok Sec.cells 5 Sec.ok w x) (hb : Below w.heap.size w w') : SliceOf.ok Sec.cells 5 Sec.ok w' x := SliceOf.ok.ext h hb (fun _ k => k.ext hb)
theorem cfgs.ext {x : SliceOf Cfg} (h : SliceOf.ok Cfg.cells 3 Cfg.ok w x) (hb : Below w.heap.size w w') : SliceOf.ok Cfg.cells 3 Cfg.ok w' x := SliceOf.ok.ext h hb (fun _ k => k.ext hb)
theorem wys.ext {x : SliceOf Wy} (h : SliceOf.ok Wy.cells 3 Wy.ok w x) (hb : Below w.heap.size w w') : SliceOf.ok Wy.cells 3 Wy.ok w' x := SliceOf.ok.ext h hb (fun _ k => k.ext hb)
theorem mds.ext {x : SliceOf (SliceOf Int)} (h : SliceOf.ok SliceOf.enc 1 (SliceOf.ok ic 1 (fun _ n => (Lit.int .i64 n).wf = true)) w x) (hb : Below w.heap.size w w') : SliceOf.ok SliceOf.enc 1 (SliceOf.ok ic 1 (fun _ n => (Lit.int .i64 n).wf = true)) w' x := SliceOf.ok.ext h hb (fun _ k => ints.ext k hb)
theorem kds.ext {x : SliceOf Kd} (h : SliceOf.ok Kd.cells 6 Kd.ok w x) (hb : Below w.heap.size w w') : SliceOf.ok Kd.cells 6 Kd.ok w' x := SliceOf.ok.ext h hb (fun _ k => k.ext hb)
theorem Tab.ok.ext {x : Tab} (h : Tab.ok w x) (hb : Below w.heap.size w w') : Tab.ok w' x :=
  ⟨secs.ext h.1 hb, cfgs.ext h.2.1 hb, wys.ext h.2.2.1 hb, mds.ext h.2.2.2.1 hb, kds.ext h.2.2.2.2 hb⟩
end Go.Proofs.YtjiojpoiocdnmaaGreat
/- hours.Check and speed.Check. -/
set_option linter.unusedSimpArgs false
set_option linter.unusedVariables false
namespace Go.Proofs.YtjiojpoiocdnmaaGreat
open Go.RowKit
set_option maxHeartbeats 400000 in
theorem indexSp (g : Nat) (p : Sp → Bool) (A : Option Addr) (c : Nat) (l : List (Sp)) (w : World) (ha : Slc w Sp.cells 2 A l) (hn : l.length ≤ maxLen) (hE : Enters Tryz.prog g)
    (hp : ∀ (x : Sp) (W : World), x ∈ l → Below w.heap.size w W → Calls Tryz.prog g #[x.v] W fun e W' => e = .returned (.bool (p x)) ∧ Below W.heap.size W W') :
    Calls Tryz.prog 138 #[.slice A l.length c, .func (.func g) #[] #[]] w fun e w' => e = .returned (.int .i64 (idxGo p 0 l)) ∧ Below w.heap.size w w' := by
  have HP := Lib.hid hp
  have HE := Lib.hid hE
  clear hp hE
  unfold maxLen at hn
  go_enter Tryz.func138, Tryz.ntmps138
  go_wp2
  go_loopw [8] (fun i wr => ∃ k : Nat, k ≤ l.length ∧ i = .int .i64 k ∧ idxGo p 0 l = idxGo p k (l.drop k) ∧ Below w.heap.size w wr) (fun i _ => l.length - (intOf i).toNat)
  case atStart => exact ⟨0, Nat.zero_le _, rfl, rfl, ext_refl _⟩
  case round =>
    obtain ⟨k, hk, rfl, heq, hB⟩ := hrel
    have HQ := Lib.hid heq
    clear heq
    by_cases hlt : k < l.length
    · obtain ⟨x, b1, o1, hx, rfl, hb1, hc⟩ := (ha.ext hB).at_ hlt
      have HX := Lib.hid hx
      clear hx
      have c0 := hc 0 _ rfl
      have c1 := hc 1 _ rfl
      simp only [Nat.mul_one, Nat.add_zero] at c0 c1
      clear hc
      have hlt' : (k : Int) < l.length := by omega
      have hE2 := HE.out #[x.v] wr
      cases hpx : p x
      · go_wp2_with fail
        refine (HP.out x wr (List.mem_of_getElem? HX.out) hB).mono ?_
        rintro e w1 ⟨rfl, hB1⟩
        clear hE2
        go_wp2_with fail
        go_roundw
        case rel => exact ⟨k + 1, hlt, by go_num, idx_step HX.out hpx HQ.out, ext_trans hB hB1⟩
        case measure => simp [intOf]; omega
      · go_wp2_with fail
        refine (HP.out x wr (List.mem_of_getElem? HX.out) hB).mono ?_
        rintro e w1 ⟨rfl, hB1⟩
        clear hE2
        go_wp2_with fail
        go_ret
        exact ⟨ret_int (idx_hit HX.out hpx HQ.out).symm, ext_trans hB hB1⟩
    · go_wp2_with fail
      go_ret
      exact ⟨ret_int (idx_end (by omega) HQ.out).symm, hB⟩
theorem containsSp (g : Nat) (p : Sp → Bool) (A : Option Addr) (c : Nat) (l : List (Sp)) (w : World) (ha : Slc w Sp.cells 2 A l) (hn : l.length ≤ maxLen) (hE : Enters Tryz.prog g)
    (hp : ∀ (x : Sp) (W : World), x ∈ l → Below w.heap.size w W → Calls Tryz.prog g #[x.v] W fun e W' => e = .returned (.bool (p x)) ∧ Below W.heap.size W W') :
    Calls Tryz.prog 117 #[.slice A l.length c, .func (.func g) #[] #[]] w fun e w' => e = .returned (.bool (l.any p)) ∧ Below w.heap.size w w' := by
  have HP := Lib.hid hp
  have HE := Lib.hid hE
  clear hp hE
  go_enter Tryz.func117, Tryz.ntmps117
  go_wp2_with fail
  refine (indexSp g p A c l _ ha hn HE.out HP.out).mono ?_
  rintro e w1 ⟨rfl, hB1⟩
  go_wp2_with fail
  go_ret
  exact ⟨ret_bool (idx_any p l), hB1⟩

set_option maxHeartbeats 400000 in
theorem indexCu (g : Nat) (p : SliceOf Sp → Bool) (A : Option Addr) (c : Nat) (l : List (SliceOf Sp)) (w : World) (ha : Slc w SliceOf.enc 1 A l) (hn : l.length ≤ maxLen) (hE : Enters Tryz.prog g)
    (hp : ∀ (x : SliceOf Sp) (W : World), x ∈ l → Below w.heap.size w W → Calls Tryz.prog g #[(.slice x.A x.l.length x.c)] W fun e W' => e = .returned (.bool (p x)) ∧ Below W.heap.size W W') :
    Calls Tryz.prog 152 #[.slice A l.length c, .func (.func g) #[] #[]] w fun e w' => e = .returned (.int .i64 (idxGo p 0 l)) ∧ Below w.heap.size w w' := by
  have HP := Lib.hid hp
  have HE := Lib.hid hE
  clear hp hE
  unfold maxLen at hn
  go_enter Tryz.func152, Tryz.ntmps152
  go_wp2
  go_loopw [8] (fun i wr => ∃ k : Nat, k ≤ l.length ∧ i = .int .i64 k ∧ idxGo p 0 l = idxGo p k (l.drop k) ∧ Below w.heap.size w wr) (fun i _ => l.length - (intOf i).toNat)
  case atStart => exact ⟨0, Nat.zero_le _, rfl, rfl, ext_refl _⟩
  case round =>
    obtain ⟨k, hk, rfl, heq, hB⟩ := hrel
    have HQ := Lib.hid heq
    clear heq
    by_cases hlt : k < l.length
    · obtain ⟨x, b1, o1, hx, rfl, hb1, hc⟩ := (ha.ext hB).at_ hlt
      have HX := Lib.hid hx
      clear hx
      have c0 := hc 0 _ rfl
      simp only [Nat.mul_one, Nat.add_zero] at c0
      clear hc
      have hlt' : (k : Int) < l.length := by omega
      have hE2 := HE.out #[(.slice x.A x.l.length x.c)] wr
      cases hpx : p x
      · go_wp2_with fail
        refine (HP.out x wr (List.mem_of_getElem? HX.out) hB).mono ?_
        rintro e w1 ⟨rfl, hB1⟩
        clear hE2
        go_wp2_with fail
        go_roundw
        case rel => exact ⟨k + 1, hlt, by go_num, idx_step HX.out hpx HQ.out, ext_trans hB hB1⟩
        case measure => simp [intOf]; omega
      · go_wp2_with fail
        refine (HP.out x wr (List.mem_of_getElem? HX.out) hB).mono ?_
        rintro e w1 ⟨rfl, hB1⟩
        clear hE2
        go_wp2_with fail
        go_ret
        exact ⟨ret_int (idx_hit HX.out hpx HQ.out).symm, ext_trans hB hB1⟩
    · go_wp2_with fail
      go_ret
      exact ⟨ret_int (idx_end (by omega) HQ.out).symm, hB⟩
theorem containsCu (g : Nat) (p : SliceOf Sp → Bool) (A : Option Addr) (c : Nat) (l : List (SliceOf Sp)) (w : World) (ha : Slc w SliceOf.enc 1 A l) (hn : l.length ≤ maxLen) (hE : Enters Tryz.prog g)
    (hp : ∀ (x : SliceOf Sp) (W : World), x ∈ l → Below w.heap.size w W → Calls Tryz.prog g #[(.slice x.A x.l.length x.c)] W fun e W' => e = .returned (.bool (p x)) ∧ Below W.heap.size W W') :
    Calls Tryz.prog 141 #[.slice A l.length c, .func (.func g) #[] #[]] w fun e w' => e = .returned (.bool (l.any p)) ∧ Below w.heap.size w w' := by
  have HP := Lib.hid hp
  have HE := Lib.hid hE
  clear hp hE
  go_enter Tryz.func141, Tryz.ntmps141
  go_wp2_with fail
  refine (indexCu g p A c l _ ha hn HE.out HP.out).mono ?_
  rintro e w1 ⟨rfl, hB1⟩
  go_wp2_with fail
  go_ret
  exact ⟨ret_bool (idx_any p l), hB1⟩

theorem drop3 {l : List Int} {k : Nat} {a b c : Int} (ha : l[k]? = some a) (hb : l[k + 1]? = some b) (hc : l[k + 2]? = some c) : l.drop k = a :: b :: c :: l.drop (k + 3) := by
  obtain ⟨h0, rfl⟩ := List.getElem?_eq_some_iff.1 ha
  obtain ⟨h1, rfl⟩ := List.getElem?_eq_some_iff.1 hb
  obtain ⟨h2, rfl⟩ := List.getElem?_eq_some_iff.1 hc
  rw [List.drop_eq_getElem_cons h0, List.drop_eq_getElem_cons h1, List.drop_eq_getElem_cons h2]
theorem wit_short {l : List Int} (h : l.length ≤ 2) : wit l = true := by
  match l, h with
  | [], _ => rfl
  | [_], _ => rfl
  | [_, _], _ => rfl
set_option maxHeartbeats 800000 in
theorem within_any (A : Option Addr) (c : Nat) (l : List Int) (w : World) (ha : Slc w ic 1 A l) (hn : l.length < 1000000) :
    Calls Tryz.prog 140 #[.slice A l.length c] w fun e w' => e = .returned (.bool (wit l)) ∧ Below w.heap.size w w' := by
  go_enter Tryz.func140, Tryz.ntmps140
  go_wp2
  go_loopw [3] (fun i wr => ∃ k : Nat, k ≤ l.length ∧ i = .int .i64 k ∧ Hid (wit l = wit (l.drop k)) ∧ Below w.heap.size w wr) (fun i _ => l.length - (intOf i).toNat)
  case atStart => exact ⟨0, Nat.zero_le _, rfl, rfl, ext_refl _⟩
  case round =>
    obtain ⟨k, hk, rfl, HW, hbe⟩ := hrel
    by_cases hlt : k + 2 < l.length
    · obtain ⟨a, b1, o1, h1, rfl, hb1, hc1⟩ := (ha.ext hbe).at_ (show k < l.length by omega)
      obtain ⟨b, b2, o2, h2, e2, hb2, hc2⟩ := (ha.ext hbe).at_ (show k + 1 < l.length by omega)
      cases e2
      obtain ⟨d, b3, o3, h3, e3, hb3, hc3⟩ := (ha.ext hbe).at_ hlt
      cases e3
      have c1 := hc1 0 _ rfl
      have c2 := hc2 0 _ rfl
      have c3 := hc3 0 _ rfl
      simp only [Nat.mul_one, Nat.add_zero] at c1 c2 c3
      have HD := Lib.hid (drop3 h1 h2 h3)
      clear hc1 hc2 hc3 h1 h2 h3
      have i0 : (k : Int) < l.length := by omega
      have i1 : (k : Int) + 1 < l.length := by omega
      have i2 : (k : Int) + 2 < l.length := by omega
      have t1 : ((k : Int) + 1).toNat = k + 1 := by omega
      have t2 : ((k : Int) + 2).toNat = k + 2 := by omega
      have u1 : IntKind.i64.wrap ((k : Int) + 1) = (k : Int) + 1 := IntWalk.i64_in _ (by omega)
      have u2 : IntKind.i64.wrap ((k : Int) + 2) = (k : Int) + 2 := IntWalk.i64_in _ (by omega)
      by_cases hab : a < b
      · have hd : decide (a < b) = true := by simpa using hab
        go_wp2_with fail
        go_quiet (fail)
        go_wp2_with fail
        go_ret
        exact ⟨ret_bool (by rw [HW.out, HD.out]; simp [wit]; omega), ext_drewN hbe _⟩
      · have hd : decide (a < b) = false := by simpa using hab
        by_cases had : d < a
        · have hd2 : decide (d < a) = true := by simpa using had
          go_wp2_with fail
          go_quiet (fail)
          go_wp2_with fail
          go_ret
          exact ⟨ret_bool (by rw [HW.out, HD.out]; simp [wit]; omega), ext_drewN hbe _⟩
        · have hd2 : decide (d < a) = false := by simpa using had
          go_wp2_with fail
          go_quiet (fail)
          clear t1 t2 u1 u2
          go_wp2_with fail
          go_roundw
          case rel => exact ⟨k + 3, by omega, by go_num, by rw [HW.out, HD.out]; simp only [wit]; rw [decide_eq_true (by omega), decide_eq_true (by omega)]; rfl, ext_drewN hbe _⟩
          case measure => simp [intOf]; omega
    · go_wp2_with fail
      go_ret
      exact ⟨ret_bool (by rw [HW.out, wit_short (by simp; omega)]), hbe⟩

theorem enters98 : Enters Tryz.prog 142 := fun args w => by kernel_rfl
theorem enters76 : Enters Tryz.prog 118 := fun args w => by kernel_rfl
theorem ic_lenB (n : Int) : (ic n).length = 1 := rfl
theorem within_lit {w : World} {H n : Nat} {cs : Array Value} (l : List Int) (hH : w.heap.size = H) (hn : n = l.length) (hl : l.length < 1000000) (hcs : cs = (l.flatMap ic).toArray) :
    Calls Tryz.prog 140 #[.slice (some ⟨H, 0, none⟩) n n] (w.alloc (.cells cs 3)) fun e w' => e = .returned (.bool (wit l)) ∧ Below w.heap.size w w' := by
  subst hn
  exact (within_any _ _ l _ (slc_litH w l cs 3 ic_lenB hcs H hH) hl).mono fun _ _ ⟨h1, h2⟩ => ⟨h1, ext_trans (ext_alloc (ext_refl _) _) h2⟩
theorem check1_any (x : Sp) (w : World) : Calls Tryz.prog 118 #[x.v] w fun e w' => e = .returned (.bool (badS x)) ∧ Below w.heap.size w w' := by
  go_enter Tryz.func118, Tryz.ntmps118
  go_wp2
  all_goals
    go_ret
    exact ⟨ret_bool (by simp [badS, *] <;> omega), ext_alloc (ext_refl _) _⟩
theorem hcheck_any (A : Option Addr) (c : Nat) (l : List Sp) (w : World) (ha : Slc w Sp.cells 2 A l) (hn : l.length ≤ maxLen) :
    Calls Tryz.prog 90 #[.slice A l.length c] w fun e w' => e = .returned (.int .i64 (chkHE l)) ∧ Below w.heap.size w w' := by
  go_enter Tryz.func90, Tryz.ntmps90
  go_wp2_with fail
  refine (containsSp 118 badS A c l _ ha hn enters76 (fun x W _ _ => check1_any x W)).mono ?_
  rintro e w1 ⟨rfl, hB1⟩
  cases h : l.any badS
  all_goals
    go_wp2_with fail
    go_ret
    exact ⟨ret_int (by simp [chkHE, h]), hB1⟩
theorem valid1_any (x : SliceOf Sp) (w : World) (ha : Slc w Sp.cells 2 x.A x.l) (hn : x.l.length ≤ maxLen) :
    Calls Tryz.prog 142 #[.slice x.A x.l.length x.c] w fun e w' => e = .returned (.bool (badCu x)) ∧ Below w.heap.size w w' := by
  go_enter Tryz.func142, Tryz.ntmps142
  go_wp2_with fail
  refine (hcheck_any x.A x.c x.l _ ha hn).mono ?_
  rintro e w1 ⟨rfl, hB1⟩
  go_wp2_with fail
  go_ret
  exact ⟨ret_bool rfl, hB1⟩
/-- The six cells of a kind that lies in a block of its own. -/
def KdAt (w : World) (b : Nat) (k : Kd) : Prop := ∀ j v, k.cells[j]? = some v → w.cell? ⟨b, j, none⟩ = some v
theorem KdAt.all {w : World} {b : Nat} {k : Kd} (h : KdAt w b k) : w.cell? ⟨b, 0, none⟩ = some (.int .i64 k.slow) ∧ w.cell? ⟨b, 1, none⟩ = some (.int .i64 k.fast) ∧ w.cell? ⟨b, 2, none⟩ = some (.int .i64 k.places) ∧ w.cell? ⟨b, 3, none⟩ = some (.int .i64 k.weight) ∧ w.cell? ⟨b, 4, none⟩ = some (.int .i64 k.longest) ∧ w.cell? ⟨b, 5, none⟩ = some (.slice k.cur.A k.cur.l.length k.cur.c) :=
  ⟨h 0 _ rfl, h 1 _ rfl, h 2 _ rfl, h 3 _ rfl, h 4 _ rfl, h 5 _ rfl⟩
theorem KdAt.new (w : World) (k : Kd) (t : TypeId) : KdAt (w.alloc (.cells #[.int .i64 k.slow, .int .i64 k.fast, .int .i64 k.places, .int .i64 k.weight, .int .i64 k.longest, .slice k.cur.A k.cur.l.length k.cur.c] t)) w.heap.size k := by
  intro j v hv
  have := cells_new w k.cells t j v hv
  rwa [show (⟨w.heap.size, 0, none⟩ : Addr).add j = ⟨w.heap.size, j, none⟩ by unfold Addr.add; split <;> simp_all] at this
theorem KdAt.ext {w w' : World} {b : Nat} {k : Kd} (h : KdAt w b k) (hlt : b < w.heap.size) (hb : Below w.heap.size w w') : KdAt w' b k := fun j v hv => (hb.cell (p := ⟨b, j, none⟩) hlt).trans (h j v hv)

set_option maxHeartbeats 800000 in
theorem valid_any (k : Kd) (w : World) (hk : k.ok w) : Calls Tryz.prog 121 #[k.v] w fun e w' => e = .returned (.bool (vldK k)) ∧ Below w.heap.size w w' := by
  go_enter Tryz.func121, Tryz.ntmps121
  go_wp2_with fail
  refine (within_lit [k.slow, 1, 64, k.fast, k.slow, 64, k.places, 1, 8, k.weight, 1, 8, k.longest, 0, 60, k.cur.l.length, 0, 16] (by simp) rfl (by simp) rfl).mono ?_
  rintro e w1 ⟨rfl, hB1⟩
  have N1 := (KdAt.new w k 202).ext (by simp) hB1
  have hb1 : Below w.heap.size w w1 := ext_trans (ext_alloc (ext_refl w) _) hB1
  obtain ⟨n0, n1, n2, n3, n4, n5⟩ := N1.all
  have HV : Hid (vldK k = (rngB k && k.longest % 10 == 0 && !k.cur.l.any badCu)) := rfl
  have hk1 := hk.ext hb1
  have s1 : w.heap.size < w1.heap.size := by have := hB1.size; simp at this; omega
  rw [show wit [k.slow, 1, 64, k.fast, k.slow, 64, k.places, 1, 8, k.weight, 1, 8, k.longest, 0, 60, k.cur.l.length, 0, 16] = rngB k from rfl]
  clear N1 hB1
  cases hr : rngB k
  · go_wp2_with fail
    go_ret
    exact ⟨ret_bool (by rw [HV.out, hr]; rfl), hb1⟩
  have R := (rngB_iff k).1 hr
  have l0 := R.l0
  have l1 := R.l1
  clear R
  by_cases hm : k.longest % 10 = 0
  · have hm' : (k.longest % 10 != 0) = false := by simp [hm]
    have HM := Lib.hid hm
    clear hm
    go_wp2_with fail
    refine (containsCu 142 badCu k.cur.A k.cur.c k.cur.l _ hk1.slc hk1.len enters98 (fun x W hx hW => valid1_any x W ((hk1.all hx).slc.ext hW) (hk1.all hx).len)).mono ?_
    rintro e w2 ⟨rfl, hB2⟩
    go_wp2_with fail
    go_ret
    exact ⟨ret_bool (by rw [HV.out, hr, HM.out]; simp), ext_trans hb1 hB2⟩
  · have hm' : (k.longest % 10 != 0) = true := by simp [hm]
    have HM := Lib.hid hm
    clear hm
    go_wp2_with fail
    go_ret
    exact ⟨ret_bool (by rw [HV.out]; simp [HM.out]), hb1⟩
theorem scheck_any (k : Kd) (w : World) (hk : k.ok w) : Calls Tryz.prog 95 #[k.v] w fun e w' => e = .returned (.int .i64 (chkK k)) ∧ Below w.heap.size w w' := by
  go_enter Tryz.func95, Tryz.ntmps95
  go_wp2_with fail
  refine (valid_any k _ (hk.ext (ext_alloc (ext_refl w) _))).mono ?_
  rintro e w1 ⟨rfl, hB1⟩
  cases h : vldK k
  all_goals
    go_wp2_with fail
    go_ret
    exact ⟨ret_int (by simp [chkK, h]), ext_trans (ext_alloc (ext_refl w) _) hB1⟩
end Go.Proofs.YtjiojpoiocdnmaaGreat

/- The closures of airspace.Check. -/
set_option linter.unusedSimpArgs false
set_option linter.unusedVariables false
namespace Go.Proofs.YtjiojpoiocdnmaaGreat
open Go.RowKit
theorem inn_any (n a b : Int) (w : World) : Calls Tryz.prog 85 #[.int .i64 n, .int .i64 a, .int .i64 b] w fun e w' => e = .returned (.bool (inn n a b)) ∧ w = w' := by
  go_enter Tryz.func85, Tryz.ntmps85
  by_cases h1 : a ≤ n
  · by_cases h2 : n ≤ b
    · have e1 : decide (n ≥ a) = true := by simpa using h1
      have e2 : decide (n ≤ b) = true := by simpa using h2
      go_wp2
      all_goals go_ret
      all_goals exact ⟨ret_bool (by simp [inn]; omega), rfl⟩
    · have e1 : decide (n ≥ a) = true := by simpa using h1
      have e2 : decide (n ≤ b) = false := by simpa using h2
      go_wp2
      all_goals go_ret
      all_goals exact ⟨ret_bool (by simp [inn]; omega), rfl⟩
  · have e1 : decide (n ≥ a) = false := by simpa using h1
    go_wp2
    all_goals go_ret
    all_goals exact ⟨ret_bool (by simp [inn]; omega), rfl⟩
theorem inn_at {n a b : Int} {w : World} (r : Bool) (hr : inn n a b = r) : Calls Tryz.prog 85 #[.int .i64 n, .int .i64 a, .int .i64 b] w fun e w' => e = .returned (.bool r) ∧ w = w' := by
  subst hr; exact inn_any n a b w
theorem secB_any (x : Sec) (w : World) : Calls Tryz.prog 84 #[x.v] w (RetB w (secB x)) := by
  go_enter Tryz.func84, Tryz.ntmps84
  cases h1 : inn x.rad 0 64
  · go_wp2_with fail
    refine (inn_at false h1).mono ?_
    rintro e w1 ⟨rfl, rfl⟩
    go_wp2_with fail
    go_ret
    exact ⟨ret_bool (by simp [secB, h1]), ext_alloc (ext_refl _) _⟩
  · go_wp2_with fail
    refine (inn_at true h1).mono ?_
    rintro e w1 ⟨rfl, rfl⟩
    go_wp2_with fail
    refine (inn_any _ _ _ _).mono ?_
    rintro e w1 ⟨rfl, rfl⟩
    go_wp2_with fail
    go_ret
    exact ⟨ret_bool (by simp [secB, h1]), ext_alloc (ext_refl _) _⟩
theorem enters44 : Enters Tryz.prog 88 := fun args w => by kernel_rfl
theorem enters40 : Enters Tryz.prog 84 := fun args w => by kernel_rfl
theorem enters42 : Enters Tryz.prog 86 := fun args w => by kernel_rfl
theorem enters45 : Enters Tryz.prog 89 := fun args w => by kernel_rfl
theorem enters48 : Enters Tryz.prog 92 := fun args w => by kernel_rfl
theorem enters50 : Enters Tryz.prog 94 := fun args w => by kernel_rfl
theorem plcB_any (n : Int) (w : World) : Calls Tryz.prog 88 #[.int .i64 n] w (RetB w (plcB n)) := by
  go_enter Tryz.func88, Tryz.ntmps88
  go_wp2_with fail
  refine (inn_any _ _ _ _).mono ?_
  rintro e w1 ⟨rfl, rfl⟩
  go_wp2_with fail
  go_ret
  exact ⟨ret_bool rfl, ext_refl _⟩
theorem modeB_any (x : SliceOf Int) (w : World) (ha : Slc w ic 1 x.A x.l) (hn : x.l.length ≤ maxLen) : Calls Tryz.prog 86 #[.slice x.A x.l.length x.c] w (RetB w (modeB x)) := by
  have HL := Lib.hid (allI 88 plcB x.A x.c x.l w ha hn enters44 (fun n W _ _ => plcB_any n W))
  clear ha hn
  go_enter Tryz.func86, Tryz.ntmps86
  cases h1 : inn x.l.length 1 16
  · go_wp2_with fail
    refine (inn_at false h1).mono ?_
    rintro e w1 ⟨rfl, rfl⟩
    go_wp2_with fail
    go_ret
    exact ⟨ret_bool (by simp [modeB, h1]), ext_refl _⟩
  · go_wp2_with fail
    refine (inn_at true h1).mono ?_
    rintro e w1 ⟨rfl, rfl⟩
    go_wp2_with fail
    refine HL.out.mono ?_
    rintro e w1 ⟨rfl, B⟩
    go_wp2_with fail
    go_ret
    exact ⟨ret_bool (by simp [modeB, h1]), B⟩
end Go.Proofs.YtjiojpoiocdnmaaGreat
