/- The closures of airspace.Check that read the tables. -/
import Derived.Test.YtjiojpoiocdnmaaGreatU4
import Derived.Laws.Bits64b
import Derived.Maps.Own
import Derived.Maps.OwnOps
import Derived.Maps.OwnSet
import Derived.WalkKit
set_option linter.unusedSimpArgs false
set_option linter.unusedVariables false
namespace Go.Proofs.YtjiojpoiocdnmaaGreat
open Go.RowKit
abbrev ptr (b : Nat) : Value := .pointer (some ⟨b, 0, none⟩)
theorem hcheck_at {A : Option Addr} {n c : Nat} {l : List Sp} {w : World} (r : Int) (hr : chkHE l = r) (hn' : n = l.length) (ha : Slc w Sp.cells 2 A l) (hn : l.length ≤ maxLen) :
    Calls Tryz.prog 90 #[.slice A n c] w (RetE w r) := by
  subst hr hn'; exact hcheck_any A c l w ha hn
theorem chkHE_01 (l : List Sp) : chkHE l = 0 ∨ chkHE l = 50 := by unfold chkHE; split <;> simp
set_option maxHeartbeats 2000000 in
theorem legB_any (t : Tab) (b : Nat) (x : Lg) (w : World) (hx : Lg.ok w x) (hb : Blk w b t.cells) (h1 : 1 ≤ t.n) (h64 : t.n ≤ 64) : Calls Tryz.prog 89 #[x.v, ptr b] w (RetB w (legB t.n x)) := by
  have q0 := hb.c 0 _ rfl
  have bl := hb.lt
  have HX := Lib.hid hx
  have HD : Hid (legB t.n x = (inn x.seg 0 127 && inn x.vol 0 (t.n - 1) && inn x.len 1 4096 && decide (0 < x.mi.l.length) && chkHE x.mi.l == 0)) := rfl
  clear hb hx
  go_enter Tryz.func89, Tryz.ntmps89
  cases h1 : inn x.seg 0 127
  · go_wp2_with fail
    refine (inn_at false h1).mono ?_
    rintro e w1 ⟨rfl, rfl⟩
    go_wp2_with fail
    go_ret
    exact ⟨ret_bool (by rw [HD.out]; simp [h1]), ext_alloc (ext_refl _) _⟩
  have hw : IntKind.i64.wrap (t.n - 1) = t.n - 1 := IntWalk.i64_in _ (by omega)
  cases h2 : inn x.vol 0 (t.n - 1)
  · go_wp2_with fail
    refine (inn_at true h1).mono ?_
    rintro e w1 ⟨rfl, rfl⟩
    go_wp2_with fail
    refine (inn_at false h2).mono ?_
    rintro e w1 ⟨rfl, rfl⟩
    go_wp2_with fail
    go_ret
    exact ⟨ret_bool (by rw [HD.out]; simp [h1, h2]), ext_alloc (ext_refl _) _⟩
  cases h3 : inn x.len 1 4096
  · go_wp2_with fail
    refine (inn_at true h1).mono ?_
    rintro e w1 ⟨rfl, rfl⟩
    go_wp2_with fail
    refine (inn_at true h2).mono ?_
    rintro e w1 ⟨rfl, rfl⟩
    go_wp2_with fail
    refine (inn_at false h3).mono ?_
    rintro e w1 ⟨rfl, rfl⟩
    go_wp2_with fail
    go_ret
    exact ⟨ret_bool (by rw [HD.out]; simp [h1, h2, h3]), ext_alloc (ext_refl _) _⟩
  by_cases h4 : 0 < x.mi.l.length
  · have h4' : decide ((0 : Int) < x.mi.l.length) = true := decide_eq_true (by omega)
    go_wp2_with fail
    refine (inn_at true h1).mono ?_
    rintro e w1 ⟨rfl, rfl⟩
    go_wp2_with fail
    refine (inn_at true h2).mono ?_
    rintro e w1 ⟨rfl, rfl⟩
    go_wp2_with fail
    refine (inn_at true h3).mono ?_
    rintro e w1 ⟨rfl, rfl⟩
    go_wp2_with fail
    rcases chkHE_01 x.mi.l with h5 | h5
    · refine (hcheck_at 0 h5 rfl (HX.out.slc.alloc _) HX.out.len).mono ?_
      rintro e w1 ⟨rfl, B⟩
      go_wp2_with fail
      go_ret
      exact ⟨ret_bool (by rw [HD.out]; simp [h1, h2, h3, h4, h5]), ext_trans (ext_alloc (ext_refl _) _) B⟩
    · refine (hcheck_at 50 h5 rfl (HX.out.slc.alloc _) HX.out.len).mono ?_
      rintro e w1 ⟨rfl, B⟩
      go_wp2_with fail
      go_ret
      exact ⟨ret_bool (by rw [HD.out]; simp [h1, h2, h3, h4, h5]), ext_trans (ext_alloc (ext_refl _) _) B⟩
  · have h4' : decide ((0 : Int) < x.mi.l.length) = false := decide_eq_false (by omega)
    go_wp2_with fail
    refine (inn_at true h1).mono ?_
    rintro e w1 ⟨rfl, rfl⟩
    go_wp2_with fail
    refine (inn_at true h2).mono ?_
    rintro e w1 ⟨rfl, rfl⟩
    go_wp2_with fail
    refine (inn_at true h3).mono ?_
    rintro e w1 ⟨rfl, rfl⟩
    go_wp2_with fail
    go_ret
    exact ⟨ret_bool (by rw [HD.out]; simp [h4]), ext_alloc (ext_refl _) _⟩
theorem apB_at {t : Tab} {b : Nat} {n : Int} {w : World} (r : Bool) (hr : apB t.ms.l.length n = r) (hb : Blk w b t.cells) (hm : t.ms.l.length ≤ maxLen) : Calls Tryz.prog 91 #[.int .i64 n, ptr b] w fun e w' => e = .returned (.bool r) ∧ w = w' := by
  subst hr
  have q4 := hb.c 4 _ rfl
  have bl := hb.lt
  clear hb
  unfold maxLen at hm
  have hw : IntKind.i64.wrap ((t.ms.l.length : Int) - 1) = (t.ms.l.length : Int) - 1 := IntWalk.i64_in _ (by omega)
  go_enter Tryz.func91, Tryz.ntmps91
  go_wp2_with fail
  refine (inn_any _ _ _ _).mono ?_
  rintro e w1 ⟨rfl, rfl⟩
  go_wp2_with fail
  go_ret
  exact ⟨ret_bool rfl, rfl⟩
set_option maxHeartbeats 2000000 in
theorem wayB_any (t : Tab) (b ba bg : Nat) (x : Wy) (w : World) (hx : Wy.ok w x) (hb : Blk w b t.cells) (h1 : 1 ≤ t.n) (h64 : t.n ≤ 64) (hm : t.ms.l.length ≤ maxLen) (hba : Blk w ba [.func (.func 91) #[] #[ptr b]]) (hbg : Blk w bg [.func (.func 89) #[] #[ptr b]]) :
    Calls Tryz.prog 92 #[x.v, ptr ba, ptr bg] w (RetB w (wayB t.n t.ms.l.length x)) := by
  have qa := hba.c 0 _ rfl
  have qg := hbg.c 0 _ rfl
  have la := hba.lt
  have lg := hbg.lt
  have HB := Lib.hid hb
  have HX := Lib.hid hx
  have HD : Hid (wayB t.n t.ms.l.length x = (apB t.ms.l.length x.f && apB t.ms.l.length x.t && inn x.legs.l.length 1 8 && x.legs.l.all (legB t.n))) := rfl
  have HL := Lib.hid (allLg 89 (ptr b) (legB t.n) x.legs.A x.legs.c x.legs.l (w.alloc (.cells #[.int .i64 x.f, .int .i64 x.t, .slice x.legs.A x.legs.l.length x.legs.c] 124)) (hx.slc.alloc _) hx.len enters45
    (fun y W hy hW => legB_any t b y W (((hx.all hy).ext (ext_alloc (ext_refl w) _)).ext hW) ((hb.alloc _).ext hW) h1 h64))
  clear hb hx hba hbg h1 h64
  go_enter Tryz.func92, Tryz.ntmps92
  cases h1 : apB t.ms.l.length x.f
  · go_wp2_with fail
    refine (apB_at false h1 (HB.out.alloc _) hm).mono ?_
    rintro e w1 ⟨rfl, rfl⟩
    go_wp2_with fail
    go_ret
    exact ⟨ret_bool (by rw [HD.out]; simp [h1]), ext_alloc (ext_refl _) _⟩
  cases h2 : apB t.ms.l.length x.t
  · go_wp2_with fail
    refine (apB_at true h1 (HB.out.alloc _) hm).mono ?_
    rintro e w1 ⟨rfl, rfl⟩
    go_wp2_with fail
    refine (apB_at false h2 (HB.out.alloc _) hm).mono ?_
    rintro e w1 ⟨rfl, rfl⟩
    go_wp2_with fail
    go_ret
    exact ⟨ret_bool (by rw [HD.out]; simp [h1, h2]), ext_alloc (ext_refl _) _⟩
  cases h3 : inn x.legs.l.length 1 8
  · go_wp2_with fail
    refine (apB_at true h1 (HB.out.alloc _) hm).mono ?_
    rintro e w1 ⟨rfl, rfl⟩
    go_wp2_with fail
    refine (apB_at true h2 (HB.out.alloc _) hm).mono ?_
    rintro e w1 ⟨rfl, rfl⟩
    go_wp2_with fail
    refine (inn_at false h3).mono ?_
    rintro e w1 ⟨rfl, rfl⟩
    go_wp2_with fail
    go_ret
    exact ⟨ret_bool (by rw [HD.out]; simp [h1, h2, h3]), ext_alloc (ext_refl _) _⟩
  · go_wp2_with fail
    refine (apB_at true h1 (HB.out.alloc _) hm).mono ?_
    rintro e w1 ⟨rfl, rfl⟩
    go_wp2_with fail
    refine (apB_at true h2 (HB.out.alloc _) hm).mono ?_
    rintro e w1 ⟨rfl, rfl⟩
    go_wp2_with fail
    refine (inn_at true h3).mono ?_
    rintro e w1 ⟨rfl, rfl⟩
    go_wp2_with fail
    refine HL.out.mono ?_
    rintro e w1 ⟨rfl, B⟩
    go_wp2_with fail
    go_ret
    exact ⟨ret_bool (by rw [HD.out]; simp [h1, h2, h3]), ext_trans (ext_alloc (ext_refl _) _) B⟩
theorem scheck_at {k : Kd} {w : World} (r : Int) (hr : chkK k = r) (hk : Kd.ok w k) : Calls Tryz.prog 95 #[k.v] w (RetE w r) := by
  subst hr; exact scheck_any k w hk
theorem chkK_01 (k : Kd) : chkK k = 0 ∨ chkK k = 120 := by unfold chkK; split <;> simp
set_option maxHeartbeats 2000000 in
theorem kindB_any (t : Tab) (b : Nat) (x : Kd) (w : World) (hx : Kd.ok w x) (hb : Blk w b t.cells) : Calls Tryz.prog 94 #[x.v, ptr b] w (RetB w (kindB t.ms.l.length x)) := by
  have HB := Lib.hid hb
  have HX := Lib.hid hx
  have HN := Lib.hid (Blk.newH w x.cells 127 w.heap.size rfl)
  clear hb hx
  go_enter Tryz.func94, Tryz.ntmps94
  rcases chkK_01 x with h1 | h1
  · go_wp2_with fail
    refine (scheck_at 0 h1 (HX.out.ext (ext_alloc (ext_refl _) _))).mono ?_
    rintro e w1 ⟨rfl, B⟩
    have q4 := ((HB.out.alloc _).ext B).c 4 _ rfl
    have l4 := ((HB.out.alloc _).ext B).lt
    have n5 := (HN.out.ext B).c 5 _ rfl
    have nl := (HN.out.ext B).lt
    by_cases h2 : x.cur.l.length = t.ms.l.length
    · have h2' : ((x.cur.l.length : Int) == t.ms.l.length) = true := by simp; omega
      go_wp2_with fail
      go_ret
      exact ⟨ret_bool (by simp [kindB, h1, h2]), ext_trans (ext_alloc (ext_refl _) _) B⟩
    · have h2' : ((x.cur.l.length : Int) == t.ms.l.length) = false := by simp; omega
      go_wp2_with fail
      go_ret
      exact ⟨ret_bool (by simp [kindB, h1, h2]), ext_trans (ext_alloc (ext_refl _) _) B⟩
  · go_wp2_with fail
    refine (scheck_at 120 h1 (HX.out.ext (ext_alloc (ext_refl _) _))).mono ?_
    rintro e w1 ⟨rfl, B⟩
    go_wp2_with fail
    go_ret
    exact ⟨ret_bool (by simp [kindB, h1]), ext_trans (ext_alloc (ext_refl _) _) B⟩
end Go.Proofs.YtjiojpoiocdnmaaGreat
/- configs.sets: the sets of the sectors' volumes. -/
set_option linter.unusedSimpArgs false
set_option linter.unusedVariables false
namespace Go.Proofs.YtjiojpoiocdnmaaGreat
open Go.RowKit
def uc (n : Nat) : List Value := [.int .u64 n]
abbrev aspV (A : Option Addr) (n c : Nat) (sA : Option Addr) (sn sc : Nat) (cA : Option Addr) (cn cc : Nat) : Value :=
  .agg #[.slice A n c, .slice sA sn sc, .slice cA cn cc, .slice none 0 0, .slice none 0 0, .slice none 0 0, .slice none 0 0, .slice none 0 0]
theorem info161 : (Tryz.prog.info? 220).map (fun i => (i.zero, i.size, i.bytes)) = some (some (.int .u64 0), 1, 8) := by kernel_rfl
theorem iparts {P : Program} {e : TypeId} {z : Value} {sz b : Nat} (h : (P.info? e).map (fun i => (i.zero, i.size, i.bytes)) = some (some z, sz, b)) : ∃ i, P.info? e = some i ∧ i.zero = some z ∧ i.size = sz ∧ i.bytes = b := by
  cases hi : P.info? e with
  | none => rw [hi] at h; cases h
  | some i =>
    rw [hi] at h
    simp only [Option.map_some, Option.some.injEq, Prod.mk.injEq] at h
    exact ⟨i, rfl, h.1, h.2.1, h.2.2⟩
theorem I157 : EInfo Tryz.prog 216 220 uc 1 8 := by
  obtain ⟨i0, hi, hz0, hz1, hz2⟩ := iparts info161
  exact ⟨Tryz.underlying216, ⟨i0, _, hi, hz0, hz1, hz2, rfl⟩, by decide, fun _ => rfl, fun x => by simp [uc, Value.oneCell']⟩
theorem setGo_step {n x : Nat} {vs : List Int} {j : Nat} {v : Int} (hv : vs[j]? = some v) (h0 : 0 ≤ v) (h1 : v < n) (hb : x &&& 2 ^ v.toNat = 0) : setGo n x (vs.drop j) = setGo n (x ||| 2 ^ v.toNat) (vs.drop (j + 1)) := by
  obtain ⟨hj, rfl⟩ := List.getElem?_eq_some_iff.1 hv
  rw [List.drop_eq_getElem_cons hj]
  simp only [setGo]
  rw [if_neg]
  simp only [not_or, Int.not_lt, Int.not_le, ne_eq, Decidable.not_not]
  exact ⟨h0, h1, hb⟩
theorem setGo_bad {n x : Nat} {vs : List Int} {j : Nat} {v : Int} (hv : vs[j]? = some v) (hb : v < 0 ∨ (n : Int) ≤ v ∨ x &&& 2 ^ v.toNat ≠ 0) : setGo n x (vs.drop j) = none := by
  obtain ⟨hj, rfl⟩ := List.getElem?_eq_some_iff.1 hv
  rw [List.drop_eq_getElem_cons hj]
  simp only [setGo]
  rw [if_pos hb]
theorem setsGo_none {n : Nat} {ss : List Sec} {S : List Nat} {k : Nat} {s : Sec} (hs : ss[k]? = some s) (h : setGo n 0 s.vs.l = none) : (setsGo n (ss.drop k)).map (S ++ ·) = none := by
  obtain ⟨hj, rfl⟩ := List.getElem?_eq_some_iff.1 hs
  rw [List.drop_eq_getElem_cons hj]
  simp [setsGo, h]
theorem setsGo_step {n : Nat} {ss : List Sec} {S : List Nat} {k x : Nat} {s : Sec} (hs : ss[k]? = some s) (h : setGo n 0 s.vs.l = some x) : (setsGo n (ss.drop k)).map (S ++ ·) = (setsGo n (ss.drop (k + 1))).map ((S ++ [x]) ++ ·) := by
  obtain ⟨hj, rfl⟩ := List.getElem?_eq_some_iff.1 hs
  rw [List.drop_eq_getElem_cons hj]
  simp only [setsGo, h, Option.map_map]
  congr 1
  funext z
  simp
theorem shl_one {v : Int} (h0 : 0 ≤ v) (h1 : v < 64) : IntKind.u64.wrap (2 ^ v.toNat) = ((2 ^ v.toNat : Nat) : Int) := by
  have h3 : 2 ^ v.toNat < 2 ^ 64 := Nat.pow_lt_pow_right (by decide) (by omega)
  rw [IntKind.wrap_u64]
  have : ((2 : Int) ^ v.toNat) = ((2 ^ v.toNat : Nat) : Int) := by simp
  rw [this]
  generalize 2 ^ v.toNat = z at h3
  omega
theorem Blk.grown {w w' : World} {b : Nat} {cs : List Value} {row : Option Nat} (h : Blk w b cs) (hg : w.grownBy w' row) (hne : ∀ r, row = some r → b < r) : Blk w' b cs := by
  have hn : some b ≠ row := fun e => by have := hne b e.symm; omega
  have hh := hg.block b h.lt hn
  exact ⟨Nat.lt_of_lt_of_le h.lt hg.size, fun j v hv => far hg b h.lt hn j _ (h.c j v hv), fun j => (World.frozen?_of_block (w := w) (a := ⟨b, j, none⟩) hh).trans (h.f j)⟩
def SetsR (w : World) (r : Option (List Nat)) (e : Ending) (w' : World) : Prop :=
  match r with
  | none => e = .returned (.tuple #[.slice none 0 0, .bool false]) ∧ Below w.heap.size w w'
  | some S => ∃ A c, e = .returned (.tuple #[.slice A S.length c, .bool true]) ∧ Own w' w.heap.size 220 uc 1 (.slice A S.length c) S ∧ Below w.heap.size w w'
set_option maxRecDepth 100000 in
set_option maxHeartbeats 4000000 in
theorem sets_any (A : Option Addr) (n c : Nat) (sA : Option Addr) (sc : Nat) (l : List Sec) (cA : Option Addr) (cn cc : Nat) (w : World) (h64 : n ≤ 64) (hs : Slc w Sec.cells 5 sA l) (hk : ∀ x ∈ l, Sec.ok w x) (hl : l.length ≤ 64) :
    Calls Tryz.prog 143 #[aspV A n c sA l.length sc cA cn cc] w (SetsR w (setsGo n l)) := by
  have HS := Lib.hid hs
  have HK := Lib.hid hk
  have HB0 := Lib.hid (Blk.newH w [.slice A n c, .slice sA l.length sc, .slice cA cn cc, .slice none 0 0, .slice none 0 0, .slice none 0 0, .slice none 0 0, .slice none 0 0] 156 w.heap.size rfl)
  have HE0 := Lib.hid (ext_alloc (ext_refl w) (.cells #[.slice A n c, .slice sA l.length sc, .slice cA cn cc, .slice none 0 0, .slice none 0 0, .slice none 0 0, .slice none 0 0, .slice none 0 0] 156))
  clear hs hk
  go_enter Tryz.func143, Tryz.ntmps143
  go_wp2_with fail
  go_loopw [2, 12] (fun v i wr => ∃ (k : Nat) (S : List Nat), k ≤ l.length ∧ i = .int .i64 k ∧ S.length = k ∧ Hid (setsGo n l = (setsGo n (l.drop k)).map (S ++ ·)) ∧ Hid (Own wr (w.heap.size + 1) 220 uc 1 v S) ∧ Hid (Below w.heap.size w wr) ∧ Hid (Blk wr w.heap.size [.slice A n c, .slice sA l.length sc, .slice cA cn cc, .slice none 0 0, .slice none 0 0, .slice none 0 0, .slice none 0 0, .slice none 0 0])) (fun _ i _ => l.length - (intOf i).toNat)
  case atStart => exact ⟨0, [], Nat.zero_le _, rfl, rfl, by simp [Hid], Own.nil _ _ _ _ _, HE0.out, HB0.out⟩
  clear HB0 HE0
  case round =>
    obtain ⟨k, S, hk, rfl, hSl, HQ, HO, HE, HB⟩ := hrel
    subst hSl
    obtain ⟨vA, vc, rfl, hvc, _, _⟩ := HO.out.form
    have bA := HB.out.c 0 _ rfl
    have bS := HB.out.c 1 _ rfl
    have bl := HB.out.lt
    by_cases hlt : S.length < l.length
    · have hlt' : (S.length : Int) < l.length := by omega
      obtain ⟨s, b1, o1, hx, rfl, hb1, hc⟩ := (HS.out.ext HE.out).at_ hlt
      have HX := Lib.hid hx
      have c0 := hc 0 _ rfl
      have c1 := hc 1 _ rfl
      have c2 := hc 2 _ rfl
      have c3 := hc 3 _ rfl
      have c4 := hc 4 _ rfl
      simp only [Nat.add_zero] at c0
      have HSO := Lib.hid ((HK.out s (List.mem_of_getElem? hx)).ext HE.out)
      clear hc hx
      obtain ⟨W0, hW0⟩ : ∃ W0, wr.alloc (.cells #[.string s.nm, .slice s.ns.A s.ns.n s.ns.c, .slice s.vs.A s.vs.l.length s.vs.c, .int .i64 s.rad, .int .i64 s.pro] 117) = W0 := ⟨_, rfl⟩
      have hz0 : W0.heap.size = wr.heap.size + 1 := by rw [← hW0]; simp
      have HN := Lib.hid (show Blk W0 wr.heap.size s.cells by rw [← hW0]; exact Blk.newH wr s.cells 117 wr.heap.size rfl)
      have HRW := Lib.hid (show Below wr.heap.size wr W0 by rw [← hW0]; exact ext_alloc (ext_refl wr) _)
      have n2 := HN.out.c 2 _ rfl
      have hsl := HSO.out.2.2.len
      unfold maxLen at hsl
      go_wp2_with fail
      clear hW0 bA bS c0 c1 c2 c3 c4 n2
      go_loopw [2, 6, 19] (fun z x i wi => ∃ (j X : Nat), z = .slice vA S.length vc ∧ j ≤ s.vs.l.length ∧ i = .int .i64 j ∧ x = .int .u64 X ∧ X < 18446744073709551616 ∧ Hid (setGo n 0 s.vs.l = setGo n X (s.vs.l.drop j)) ∧ Hid (Below wr.heap.size wr wi) ∧ Hid (Blk wi wr.heap.size s.cells)) (fun _ _ i _ => s.vs.l.length - (intOf i).toNat)
      case atStart => exact ⟨0, 0, rfl, Nat.zero_le _, rfl, rfl, by decide, rfl, HRW.out, HN.out⟩
      clear HRW HN
      case round =>
        obtain ⟨j, X, rfl, hj, rfl, rfl, hX64, HG, HI, HNi⟩ := hrel
        have iA := (HB.out.ext HI.out).c 0 _ rfl
        have il := (HB.out.ext HI.out).lt
        have hwi := HI.out.size
        by_cases hjl : j < s.vs.l.length
        · have hjl' : (j : Int) < s.vs.l.length := by omega
          obtain ⟨v, b2, o2, hv, hA2, hb2, hc2⟩ := (HSO.out.2.2.slc.ext HI.out).at_ hjl
          have HV := Lib.hid hv
          have d0 := hc2 0 _ rfl
          simp only [Nat.mul_one, Nat.add_zero] at d0
          clear hc2 hv
          by_cases g0 : v < 0
          · have HR := Lib.hid (setGo_bad (n := n) (x := X) HV.out (.inl g0))
            have g0' : decide (v < 0) = true := decide_eq_true g0
            go_wp2_with fail
            go_ret2
            rw [HQ.out, setsGo_none HX.out (HG.out.trans HR.out)]
            exact ⟨rfl, ext_trans HE.out HI.out⟩
          have g0' : decide (v < 0) = false := decide_eq_false g0
          by_cases g1 : (n : Int) ≤ v
          · have HR := Lib.hid (setGo_bad (n := n) (x := X) HV.out (.inr (.inl g1)))
            have g1' : decide (v ≥ (n : Int)) = true := decide_eq_true g1
            go_wp2_with fail
            go_ret2
            rw [HQ.out, setsGo_none HX.out (HG.out.trans HR.out)]
            exact ⟨rfl, ext_trans HE.out HI.out⟩
          have g1' : decide (v ≥ (n : Int)) = false := decide_eq_false g1
          have hsh := shl_one (v := v) (by omega) (by omega)
          have hP : 2 ^ v.toNat < 18446744073709551616 := Nat.lt_of_lt_of_le (Nat.pow_lt_pow_right (by decide) (show v.toNat < 64 by omega)) (by decide)
          have hand := bits_and_u64_nat X (2 ^ v.toNat) hX64 hP
          have hor := bits_or_u64_nat X (2 ^ v.toNat) hX64 hP
          have hv0 : ¬ v < 0 := g0
          by_cases g2 : X &&& 2 ^ v.toNat = 0
          · have HR := Lib.hid (setGo_step (n := n) (x := X) HV.out (by omega) (by omega) g2)
            have hand0 : bits .and .u64 (X : Int) ((2 ^ v.toNat : Nat) : Int) = 0 := by rw [hand, g2]; rfl
            have HX2 := Lib.hid (show X ||| 2 ^ v.toNat < 18446744073709551616 from Nat.or_lt_two_pow (n := 64) hX64 hP)
            clear hP hX64 hand g2
            generalize 2 ^ v.toNat = Y at *
            go_wp2_with fail
            first
              | exact ⟨⟨j + 1, X ||| Y, rfl, by omega, by go_num, rfl, HX2.out, HG.out.trans HR.out, HI.out, HNi.out⟩, by simp [intOf] <;> omega⟩
              | (go_roundw
                 case rel => exact ⟨j + 1, X ||| Y, rfl, by omega, by go_num, rfl, HX2.out, HG.out.trans HR.out, HI.out, HNi.out⟩
                 case measure => simp [intOf] <;> omega)
          · have HR := Lib.hid (setGo_bad (n := n) (x := X) HV.out (.inr (.inr g2)))
            have hand0 : (bits .and .u64 (X : Int) ((2 ^ v.toNat : Nat) : Int) != 0) = true := by rw [hand]; simp; omega
            clear hP hX64 hand g2 hor
            generalize 2 ^ v.toNat = Y at *
            go_wp2_with fail
            go_ret2
            rw [HQ.out, setsGo_none HX.out (HG.out.trans HR.out)]
            exact ⟨rfl, ext_trans HE.out HI.out⟩
        · have hjl' : ¬ (j : Int) < s.vs.l.length := by omega
          have hjl2 : decide ((j : Int) < s.vs.l.length) = false := decide_eq_false hjl'
          have hd : s.vs.l.drop j = [] := List.drop_eq_nil_of_le (by omega)
          rw [hd] at HG
          simp only [setGo] at HG
          by_cases g3 : X = 0
          · have HG0 := Lib.hid (HG.out.trans (if_pos g3))
            clear HG hd
            subst g3
            go_wp2_with fail
            go_ret2
            rw [HQ.out, setsGo_none HX.out HG0.out]
            exact ⟨rfl, ext_trans HE.out HI.out⟩
          · have HG0 := Lib.hid (HG.out.trans (if_neg g3))
            clear HG hd
            have g3' : ((X : Int) == 0) = false := by simp; omega
            have hO2 := HO.out.ext HI.out
            have hB2 := ext_trans HE.out HI.out
            have hS := slc_litH wr [X] #[.int .u64 X] 220 (enc := uc) (sz := 1) (fun _ => rfl) rfl wr.heap.size rfl
            obtain ⟨v', w5, hrun, hO5, hg5, hat5⟩ := (hO2.alloc (.cells #[.int .u64 X] 220)).append I157 216 (ys := [X]) (m := 1) rfl 1 hS (by simp only [List.length_cons, List.length_nil]; omega) (by unfold maxLen; simp only [List.length_cons, List.length_nil]; omega) (by have := hB2.size; simp; omega)
            have hB5 : Below w.heap.size w w5 := (ext_alloc hB2 _).grown hg5 (by have := hB2.size; simp; omega) (fun r e => by have := (hO2.lt r e).2; omega)
            have HRUN := Lib.hid hrun
            have HO5 := Lib.hid hO5
            have HB5 := Lib.hid (((HB.out.ext HI.out).alloc (.cells #[.int .u64 X] 220)).grown hg5 (fun r e => (hO2.lt r e).2))
            clear hrun hO5 hg5 hat5 hS hO2
            go_wp2_with (at_builtin; refine wpList_append_run rfl (.tmp 46) (.tmp 48) 216 rfl (.slice vA S.length vc) (.slice (some ⟨wr.heap.size, 0, none⟩) 1 1) rfl rfl HRUN.out ?_)
            have HSS := Lib.hid (setsGo_step (S := S) HX.out HG0.out)
            first
              | exact ⟨⟨S.length + 1, S ++ [X], by omega, by go_num, by simp, HQ.out.trans HSS.out, HO5.out, hB5, HB5.out⟩, by simp [intOf] <;> omega⟩
              | (go_roundw
                 case rel => exact ⟨S.length + 1, S ++ [X], by omega, by go_num, by simp, HQ.out.trans HSS.out, HO5.out, hB5, HB5.out⟩
                 case measure => simp [intOf] <;> omega)
    · have hlt' : decide ((S.length : Int) < l.length) = false := decide_eq_false (by omega)
      have hd : l.drop S.length = [] := List.drop_eq_nil_of_le (by omega)
      rw [hd] at HQ
      simp only [setsGo, Option.map_some, List.append_nil] at HQ
      go_wp2_with fail
      go_ret2
      rw [HQ.out]
      exact ⟨vA, vc, rfl, HO.out.low (by omega), HE.out⟩
end Go.Proofs.YtjiojpoiocdnmaaGreat
/- What a division says: each volume is in one sector. No program in sight. -/
set_option linter.unusedSimpArgs false
set_option linter.unusedVariables false
namespace Go.Proofs.YtjiojpoiocdnmaaGreat
theorem and_two_zero {x k : Nat} : x &&& 2 ^ k = 0 ↔ x.testBit k = false := by
  constructor
  · intro h
    have := congrArg (fun z => z.testBit k) h
    simpa [Nat.testBit_and, Nat.testBit_two_pow] using this
  · intro h
    refine Nat.eq_of_testBit_eq fun i => ?_
    rw [Nat.testBit_and, Nat.testBit_two_pow, Nat.zero_testBit]
    by_cases e : k = i
    · subst e; simp [h]
    · simp [e]
theorem setGo_some {n : Nat} : ∀ {vs : List Int} {x y : Nat}, setGo n x vs = some y →
    y ≠ 0 ∧ (∀ v ∈ vs, 0 ≤ v ∧ v < n ∧ x.testBit v.toNat = false) ∧ vs.Nodup ∧ ∀ i : Nat, y.testBit i = (x.testBit i || decide ((i : Int) ∈ vs))
  | [], x, y, h => by
    simp only [setGo] at h
    split at h
    · cases h
    · cases h; exact ⟨by assumption, by simp, List.nodup_nil, by simp⟩
  | v :: r, x, y, h => by
    simp only [setGo] at h
    split at h
    · cases h
    · rename_i hc
      simp only [not_or, Int.not_lt, Int.not_le, Decidable.not_not] at hc
      obtain ⟨h0, h1, h2⟩ := hc
      have hx : x.testBit v.toNat = false := and_two_zero.1 h2
      obtain ⟨e0, e1, e2, e3⟩ := setGo_some h
      have hor : ∀ i, (x ||| 2 ^ v.toNat).testBit i = (x.testBit i || decide (v.toNat = i)) := fun i => by rw [Nat.testBit_or, Nat.testBit_two_pow]
      refine ⟨e0, ?_, ?_, ?_⟩
      · intro u hu
        rcases List.mem_cons.1 hu with rfl | hu
        · exact ⟨h0, h1, hx⟩
        · obtain ⟨a, b, c⟩ := e1 u hu
          rw [hor, Bool.or_eq_false_iff] at c
          exact ⟨a, b, c.1⟩
      · refine List.nodup_cons.2 ⟨fun hm => ?_, e2⟩
        have := (e1 v hm).2.2
        rw [hor, Bool.or_eq_false_iff] at this
        simp at this
      · intro i
        rw [e3, hor, Bool.or_assoc]
        congr 1
        rw [Bool.eq_iff_iff]
        simp only [Bool.or_eq_true, decide_eq_true_eq, List.mem_cons]
        constructor
        · rintro (h | h)
          · left; omega
          · exact .inr h
        · rintro (h | h)
          · left; omega
          · exact .inr h
theorem setsGo_some {n : Nat} : ∀ {ss : List Sec} {S : List Nat}, setsGo n ss = some S → S.length = ss.length ∧ ∀ (k : Nat) (s : Sec), ss[k]? = some s → ∃ y, S[k]? = some y ∧ setGo n 0 s.vs.l = some y
  | [], S, h => by
    simp only [setsGo, Option.some.injEq] at h
    subst h
    exact ⟨rfl, fun k s hk => by simp at hk⟩
  | s :: r, S, h => by
    simp only [setsGo] at h
    split at h
    · cases h
    · rename_i x hx
      rw [Option.map_eq_some_iff] at h
      obtain ⟨S', h', rfl⟩ := h
      obtain ⟨e1, e2⟩ := setsGo_some h'
      refine ⟨by simp [e1], fun k u hk => ?_⟩
      cases k with
      | zero => simp at hk; subst hk; exact ⟨x, rfl, hx⟩
      | succ k => simpa using e2 k u (by simpa using hk)
theorem count_nodup {l : List Int} (h : l.Nodup) (v : Int) : l.count v = if v ∈ l then 1 else 0 := by
  induction l with
  | nil => simp
  | cons x r ih =>
    obtain ⟨h1, h2⟩ := List.nodup_cons.1 h
    rw [List.count_cons, ih h2]
    by_cases e : x = v
    · subst e; simp [h1]
    · have e' : ¬ v = x := fun q => e q.symm
      simp [e, e']
structure Div (n : Nat) (ss : List Sec) (c : Cfg) : Prop where
  inx : ∀ s ∈ c.ss.l, 0 ≤ s ∧ s < ss.length
  nod : ∀ s ∈ c.ss.l, (volsAt ss s).Nodup
  vol : ∀ s ∈ c.ss.l, ∀ v ∈ volsAt ss s, 0 ≤ v ∧ v < n
  one : ∀ v : Int, 0 ≤ v → v < n → c.ss.l.countP (fun s => decide (v ∈ volsAt ss s)) = 1
theorem secOf_some {ss : List Sec} {v : Int} : ∀ {l : List Int} {x : Int}, x ∈ l → 0 ≤ x → x < ss.length → v ∈ volsAt ss x → ∃ s, secOf ss v l = some s
  | y :: r, x, hx, h0, h1, hv => by
    simp only [secOf]
    split
    · exact ⟨_, rfl⟩
    · rename_i hn
      rcases List.mem_cons.1 hx with rfl | hx
      · exact absurd ⟨h0, h1, by simpa using hv⟩ hn
      · exact secOf_some hx h0 h1 hv
/-- Each volume has its sector. -/
theorem Div.sec {n : Nat} {ss : List Sec} {c : Cfg} (h : Div n ss c) {v : Int} (h0 : 0 ≤ v) (h1 : v < n) : ∃ s, secOf ss v c.ss.l = some s := by
  have := h.one v h0 h1
  obtain ⟨x, hx, hv⟩ := List.countP_pos_iff.1 (by omega : 0 < c.ss.l.countP (fun s => decide (v ∈ volsAt ss s)))
  obtain ⟨a, b⟩ := h.inx x hx
  exact secOf_some hx a b (by simpa using hv)
/-- The number of places at which a volume is listed. -/
def manyS (ss : List Sec) (v : Int) (l : List Int) : Nat := (l.map (fun s => (volsAt ss s).count v)).sum
theorem manyS_count {ss : List Sec} {v : Int} : ∀ {l : List Int}, (∀ s ∈ l, (volsAt ss s).Nodup) → manyS ss v l = l.countP (fun s => decide (v ∈ volsAt ss s))
  | [], _ => rfl
  | x :: r, h => by
    have ih := manyS_count (ss := ss) (v := v) (l := r) (fun s hs => h s (List.mem_cons_of_mem _ hs))
    unfold manyS at ih ⊢
    rw [List.map_cons, List.sum_cons, ih, count_nodup (h x List.mem_cons_self), List.countP_cons]
    by_cases e : v ∈ volsAt ss x <;> simp [e]; omega
theorem Div.many {n : Nat} {ss : List Sec} {c : Cfg} (h : Div n ss c) {v : Int} (h0 : 0 ≤ v) (h1 : v < n) : manyS ss v c.ss.l = 1 := (manyS_count h.nod).trans (h.one v h0 h1)
end Go.Proofs.YtjiojpoiocdnmaaGreat
/- Words for a map that the call itself makes, keyed by int, its elements bools or ints, read as a function. No program in sight. -/
set_option linter.unusedSimpArgs false
set_option linter.unusedVariables false
namespace Go.Proofs.YtjiojpoiocdnmaaGreat
open Go.RowKit Go.Maps

/-- Block b is a map of at most n entries; at every key that fits it reads as f says (false where there is none). -/
def BMap (P : Program) (k e : TypeId) (w : World) (b n : Nat) (f : Int → Bool) : Prop :=
  ∃ D : DataW Unit, w.ownsMap P k (plainElem P e) b n D ∧ IsMap D ∧ ∀ i, (Lit.int .i64 i).wf = true → D.atKey (.int .i64 i) (.lit (.bool false)) = .lit (.bool (f i))
/-- The same, its elements ints. -/
def NMap (P : Program) (k e : TypeId) (w : World) (b n : Nat) (f : Int → Int) : Prop :=
  ∃ D : DataW Unit, w.ownsMap P k (plainElem P e) b n D ∧ IsMap D ∧ ∀ i, (Lit.int .i64 i).wf = true → D.atKey (.int .i64 i) (.lit (.int .i64 0)) = .lit (.int .i64 (f i))

theorem plainElem_bool_inv {H : Type} {P : Program} {e : TypeId} (he : P.underlying e = some .bool) {v : Value} {z : DataW H × List MemPlace} (h : plainElem P e v = some z) : ∃ a, v = .bool a ∧ z = (.lit (.bool a), []) := by
  unfold plainElem at h
  rw [he] at h
  cases v <;> simp at h
  exact ⟨_, rfl, h.symm⟩

section
variable {P : Program} {k e t : TypeId} {w w' : World} {b n : Nat}
theorem BMap.made (w : World) : BMap P k e (w.alloc (.map #[] 0)) w.heap.size 0 (fun _ => false) :=
  ⟨.map [], World.ownsMap_made _ _ _ _, isMap_empty, fun _ _ => rfl⟩
theorem NMap.made (w : World) : NMap P k e (w.alloc (.map #[] 0)) w.heap.size 0 (fun _ => 0) :=
  ⟨.map [], World.ownsMap_made _ _ _ _, isMap_empty, fun _ _ => rfl⟩
theorem ownsMap_block {H : Type} {R : Value → Option (DataW H × List MemPlace)} {D : DataW H} (h : w.ownsMap P k R b n D) (hh : w'.heap[b]? = w.heap[b]?) : w'.ownsMap P k R b n D := by
  obtain ⟨es, cl, hb, r⟩ := h
  exact ⟨es, cl, hh.trans hb, r⟩
theorem ownsMap_lt {H : Type} {R : Value → Option (DataW H × List MemPlace)} {D : DataW H} (h : w.ownsMap P k R b n D) : b < w.heap.size := by
  obtain ⟨es, cl, hb, r⟩ := h
  exact (Array.getElem?_eq_some_iff.1 hb).1
theorem BMap.lt {f : Int → Bool} (h : BMap P k e w b n f) : b < w.heap.size := let ⟨_, h, _⟩ := h; ownsMap_lt h
theorem NMap.lt {f : Int → Int} (h : NMap P k e w b n f) : b < w.heap.size := let ⟨_, h, _⟩ := h; ownsMap_lt h
theorem BMap.block {f : Int → Bool} (h : BMap P k e w b n f) (hh : w'.heap[b]? = w.heap[b]?) : BMap P k e w' b n f :=
  let ⟨D, h, r⟩ := h; ⟨D, ownsMap_block h hh, r⟩
theorem NMap.block {f : Int → Int} (h : NMap P k e w b n f) (hh : w'.heap[b]? = w.heap[b]?) : NMap P k e w' b n f :=
  let ⟨D, h, r⟩ := h; ⟨D, ownsMap_block h hh, r⟩
theorem BMap.ext {f : Int → Bool} (h : BMap P k e w b n f) (hb : Below w.heap.size w w') : BMap P k e w' b n f := h.block (hb.block b h.lt)
theorem NMap.ext {f : Int → Int} (h : NMap P k e w b n f) (hb : Below w.heap.size w w') : NMap P k e w' b n f := h.block (hb.block b h.lt)

theorem BMap.look {f : Int → Bool} (h : BMap P k e w b n f) (hk : P.underlying k = some (.int .i64)) (ht : P.underlying t = some (.map k e)) (he : P.underlying e = some .bool) (hz : (zeroValue e).run P w = .ok (.bool false) w)
    (i : Int) (hi : (Lit.int .i64 i).wf = true) : (Instr.lookup t (.map (some b)) (.int .i64 i) false).run P w = .ok (.bool (f i)) w := by
  obtain ⟨D, h, hm, hf⟩ := h
  obtain ⟨v, ps, hrun, hv⟩ := h.lookup (int_keyed hk) ht hz (plainElem_bool he false) (keyOf_int_mk hk hi)
  obtain ⟨c, rfl, hc⟩ := plainElem_bool_inv he hv
  rw [hf i hi] at hc
  simp only [Prod.mk.injEq, DataW.lit.injEq, Lit.bool.injEq] at hc
  rw [hrun, hc.1]
theorem NMap.look {f : Int → Int} (h : NMap P k e w b n f) (hk : P.underlying k = some (.int .i64)) (ht : P.underlying t = some (.map k e)) (he : P.underlying e = some (.int .i64)) (hz : (zeroValue e).run P w = .ok (.int .i64 0) w)
    (i : Int) (hi : (Lit.int .i64 i).wf = true) : (Instr.lookup t (.map (some b)) (.int .i64 i) false).run P w = .ok (.int .i64 (f i)) w := by
  obtain ⟨D, h, hm, hf⟩ := h
  obtain ⟨c, hrun, hc, _⟩ := h.lookup_int (int_keyed hk) ht he hz (keyOf_int_mk hk hi)
  rw [hf i hi] at hc
  simp only [DataW.lit.injEq, Lit.int.injEq, true_and] at hc
  rw [hrun, hc]
theorem BMap.put {f : Int → Bool} (h : BMap P k e w b n f) (hk : P.underlying k = some (.int .i64)) (ht : P.underlying t = some (.map k e)) (he : P.underlying e = some .bool) (hn : n < maxLen)
    (i : Int) (x : Bool) (hi : (Lit.int .i64 i).wf = true) : ∃ w', (Instr.mapUpdate t (.map (some b)) (.int .i64 i) (.bool x)).run P w = .ok () w' ∧ BMap P k e w' b (n + 1) (fun j => if j = i then x else f j) ∧ w.grownBy w' (some b) := by
  obtain ⟨D, h, hm, hf⟩ := h
  obtain ⟨w', hrun, ho, hg⟩ := h.update (int_keyed hk) ht hn (keyOf_int_mk hk hi) (plainElem_bool he x)
  refine ⟨w', hrun, ⟨_, ho, hm.put _ _, fun j hj => ?_⟩, hg⟩
  by_cases e : j = i
  · subst e; rw [atKey_put_same hm ((int_keyed hk).key (keyOf_int_mk hk hi))]; simp
  · rw [atKey_put_other (by simpa using e), hf j hj]; simp [e]
theorem NMap.put {f : Int → Int} (h : NMap P k e w b n f) (hk : P.underlying k = some (.int .i64)) (ht : P.underlying t = some (.map k e)) (he : P.underlying e = some (.int .i64)) (hn : n < maxLen)
    (i : Int) (x : Int) (hi : (Lit.int .i64 i).wf = true) (hx : (Lit.int .i64 x).wf = true) : ∃ w', (Instr.mapUpdate t (.map (some b)) (.int .i64 i) (.int .i64 x)).run P w = .ok () w' ∧ NMap P k e w' b (n + 1) (fun j => if j = i then x else f j) ∧ w.grownBy w' (some b) := by
  obtain ⟨D, h, hm, hf⟩ := h
  obtain ⟨w', hrun, ho, hg⟩ := h.update (int_keyed hk) ht hn (keyOf_int_mk hk hi) (plainElem_int he hx)
  refine ⟨w', hrun, ⟨_, ho, hm.put _ _, fun j hj => ?_⟩, hg⟩
  by_cases e : j = i
  · subst e; rw [atKey_put_same hm ((int_keyed hk).key (keyOf_int_mk hk hi))]; simp
  · rw [atKey_put_other (by simpa using e), hf j hj]; simp [e]
end
end Go.Proofs.YtjiojpoiocdnmaaGreat
