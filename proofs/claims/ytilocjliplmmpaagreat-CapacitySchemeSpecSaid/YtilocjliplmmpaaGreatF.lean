/- configs.sets: the sets of the sectors' volumes. -/
import Derived.Test.YtilocjliplmmpaaGreatDE
import Derived.Laws.Bits64b
set_option linter.unusedSimpArgs false
set_option linter.unusedVariables false
namespace Go.Proofs.YtilocjliplmmpaaGreat
open Go.RowKit
def uc (n : Nat) : List Value := [.int .u64 n]
abbrev aspV (A : Option Addr) (n c : Nat) (sA : Option Addr) (sn sc : Nat) (cA : Option Addr) (cn cc : Nat) : Value :=
  .agg #[.slice A n c, .slice sA sn sc, .slice cA cn cc, .slice none 0 0, .slice none 0 0, .slice none 0 0, .slice none 0 0, .slice none 0 0]
theorem info161 : (Tryz.prog.info? 160).map (fun i => (i.zero, i.size, i.bytes)) = some (some (.int .u64 0), 1, 8) := by kernel_rfl
theorem iparts {P : Program} {e : TypeId} {z : Value} {sz b : Nat} (h : (P.info? e).map (fun i => (i.zero, i.size, i.bytes)) = some (some z, sz, b)) : ∃ i, P.info? e = some i ∧ i.zero = some z ∧ i.size = sz ∧ i.bytes = b := by
  cases hi : P.info? e with
  | none => rw [hi] at h; cases h
  | some i =>
    rw [hi] at h
    simp only [Option.map_some, Option.some.injEq, Prod.mk.injEq] at h
    exact ⟨i, rfl, h.1, h.2.1, h.2.2⟩
theorem I157 : EInfo Tryz.prog 156 160 uc 1 8 := by
  obtain ⟨i0, hi, hz0, hz1, hz2⟩ := iparts info161
  exact ⟨Tryz.underlying156, ⟨i0, _, hi, hz0, hz1, hz2, rfl⟩, by decide, fun _ => rfl, fun x => by simp [uc, Value.oneCell']⟩
theorem setGo_step {n x : Nat} {vs : List Int} {j : Nat} {v : Int} (hv : vs[j]? = some v) (h0 : 0 ≤ v) (h1 : v < n) (hb : x &&& 2 ^ v.toNat = 0) : setGo n x (vs.drop j) = setGo n (x ||| 2 ^ v.toNat) (vs.drop (j + 1)) := by
  obtain ⟨hj, rfl⟩ := List.getElem?_eq_some_iff.1 hv
  rw [List.drop_eq_getElem_cons hj]
  simp only [setGo]
  rw [if_neg]
  simp only [not_or, Int.not_lt, Int.not_le, ne_eq, Decidable.not_not]
  exact ⟨h0, h1, hb⟩
theorem setGo_bad {n x : Nat} {vs : List Int} {j : Nat} {v : Int} (hv : vs[j]? = some v) (hb : v < 0 ∨ (n : Int) ≤ v ∨ x &&& 2 ^ v.toNat ≠ 0) : setGo n x (vs.drop j) = none := by
  obtain ⟨hj, rfl⟩ := List.getElem?_eq_some_iff.1 hv
  rw [List.drop_eq_getElem_cons hj]
  simp only [setGo]
  rw [if_pos hb]
theorem setsGo_none {n : Nat} {ss : List Sec} {S : List Nat} {k : Nat} {s : Sec} (hs : ss[k]? = some s) (h : setGo n 0 s.vs.l = none) : (setsGo n (ss.drop k)).map (S ++ ·) = none := by
  obtain ⟨hj, rfl⟩ := List.getElem?_eq_some_iff.1 hs
  rw [List.drop_eq_getElem_cons hj]
  simp [setsGo, h]
theorem setsGo_step {n : Nat} {ss : List Sec} {S : List Nat} {k x : Nat} {s : Sec} (hs : ss[k]? = some s) (h : setGo n 0 s.vs.l = some x) : (setsGo n (ss.drop k)).map (S ++ ·) = (setsGo n (ss.drop (k + 1))).map ((S ++ [x]) ++ ·) := by
  obtain ⟨hj, rfl⟩ := List.getElem?_eq_some_iff.1 hs
  rw [List.drop_eq_getElem_cons hj]
  simp only [setsGo, h, Option.map_map]
  congr 1
  funext z
  simp
theorem shl_one {v : Int} (h0 : 0 ≤ v) (h1 : v < 64) : IntKind.u64.wrap (2 ^ v.toNat) = ((2 ^ v.toNat : Nat) : Int) := by
  have h3 : 2 ^ v.toNat < 2 ^ 64 := Nat.pow_lt_pow_right (by decide) (by omega)
  rw [IntKind.wrap_u64]
  have : ((2 : Int) ^ v.toNat) = ((2 ^ v.toNat : Nat) : Int) := by simp
  rw [this]
  generalize 2 ^ v.toNat = z at h3
  omega
theorem Blk.grown {w w' : World} {b : Nat} {cs : List Value} {row : Option Nat} (h : Blk w b cs) (hg : w.grownBy w' row) (hne : ∀ r, row = some r → b < r) : Blk w' b cs := by
  have hn : some b ≠ row := fun e => by have := hne b e.symm; omega
  have hh := hg.block b h.lt hn
  exact ⟨Nat.lt_of_lt_of_le h.lt hg.size, fun j v hv => far hg b h.lt hn j _ (h.c j v hv), fun j => (World.frozen?_of_block (w := w) (a := ⟨b, j, none⟩) hh).trans (h.f j)⟩
def SetsR (w : World) (r : Option (List Nat)) (e : Ending) (w' : World) : Prop :=
  match r with
  | none => e = .returned (.tuple #[.slice none 0 0, .bool false]) ∧ Below w.heap.size w w'
  | some S => ∃ A c, e = .returned (.tuple #[.slice A S.length c, .bool true]) ∧ Own w' w.heap.size 160 uc 1 (.slice A S.length c) S ∧ Below w.heap.size w w'
set_option maxRecDepth 100000 in
set_option maxHeartbeats 4000000 in
theorem sets_any (A : Option Addr) (n c : Nat) (sA : Option Addr) (sc : Nat) (l : List Sec) (cA : Option Addr) (cn cc : Nat) (w : World) (h64 : n ≤ 64) (hs : Slc w Sec.cells 5 sA l) (hk : ∀ x ∈ l, Sec.ok w x) (hl : l.length ≤ 64) :
    Calls Tryz.prog 111 #[aspV A n c sA l.length sc cA cn cc] w (SetsR w (setsGo n l)) := by
  have HS := Lib.hid hs
  have HK := Lib.hid hk
  have HB0 := Lib.hid (Blk.newH w [.slice A n c, .slice sA l.length sc, .slice cA cn cc, .slice none 0 0, .slice none 0 0, .slice none 0 0, .slice none 0 0, .slice none 0 0] 83 w.heap.size rfl)
  have HE0 := Lib.hid (ext_alloc (ext_refl w) (.cells #[.slice A n c, .slice sA l.length sc, .slice cA cn cc, .slice none 0 0, .slice none 0 0, .slice none 0 0, .slice none 0 0, .slice none 0 0] 83))
  clear hs hk
  go_enter Tryz.func111, Tryz.ntmps111
  go_wp2_with fail
  go_loopw [2, 12] (fun v i wr => ∃ (k : Nat) (S : List Nat), k ≤ l.length ∧ i = .int .i64 k ∧ S.length = k ∧ Hid (setsGo n l = (setsGo n (l.drop k)).map (S ++ ·)) ∧ Hid (Own wr (w.heap.size + 1) 160 uc 1 v S) ∧ Hid (Below w.heap.size w wr) ∧ Hid (Blk wr w.heap.size [.slice A n c, .slice sA l.length sc, .slice cA cn cc, .slice none 0 0, .slice none 0 0, .slice none 0 0, .slice none 0 0, .slice none 0 0])) (fun _ i _ => l.length - (intOf i).toNat)
  case atStart => exact ⟨0, [], Nat.zero_le _, rfl, rfl, by simp [Hid], Own.nil _ _ _ _ _, HE0.out, HB0.out⟩
  clear HB0 HE0
  case round =>
    obtain ⟨k, S, hk, rfl, hSl, HQ, HO, HE, HB⟩ := hrel
    subst hSl
    obtain ⟨vA, vc, rfl, hvc, _, _⟩ := HO.out.form
    have bA := HB.out.c 0 _ rfl
    have bS := HB.out.c 1 _ rfl
    have bl := HB.out.lt
    by_cases hlt : S.length < l.length
    · have hlt' : (S.length : Int) < l.length := by omega
      obtain ⟨s, b1, o1, hx, rfl, hb1, hc⟩ := (HS.out.ext HE.out).at_ hlt
      have HX := Lib.hid hx
      have c0 := hc 0 _ rfl
      have c1 := hc 1 _ rfl
      have c2 := hc 2 _ rfl
      have c3 := hc 3 _ rfl
      have c4 := hc 4 _ rfl
      simp only [Nat.add_zero] at c0
      have HSO := Lib.hid ((HK.out s (List.mem_of_getElem? hx)).ext HE.out)
      clear hc hx
      obtain ⟨W0, hW0⟩ : ∃ W0, wr.alloc (.cells #[.string s.nm, .slice s.ns.A s.ns.n s.ns.c, .slice s.vs.A s.vs.l.length s.vs.c, .int .i64 s.rad, .int .i64 s.pro] 100) = W0 := ⟨_, rfl⟩
      have hz0 : W0.heap.size = wr.heap.size + 1 := by rw [← hW0]; simp
      have HN := Lib.hid (show Blk W0 wr.heap.size s.cells by rw [← hW0]; exact Blk.newH wr s.cells 100 wr.heap.size rfl)
      have HRW := Lib.hid (show Below wr.heap.size wr W0 by rw [← hW0]; exact ext_alloc (ext_refl wr) _)
      have n2 := HN.out.c 2 _ rfl
      have hsl := HSO.out.2.2.len
      unfold maxLen at hsl
      go_wp2_with fail
      clear hW0 bA bS c0 c1 c2 c3 c4 n2
      go_loopw [2, 6, 19] (fun z x i wi => ∃ (j X : Nat), z = .slice vA S.length vc ∧ j ≤ s.vs.l.length ∧ i = .int .i64 j ∧ x = .int .u64 X ∧ X < 18446744073709551616 ∧ Hid (setGo n 0 s.vs.l = setGo n X (s.vs.l.drop j)) ∧ Hid (Below wr.heap.size wr wi) ∧ Hid (Blk wi wr.heap.size s.cells)) (fun _ _ i _ => s.vs.l.length - (intOf i).toNat)
      case atStart => exact ⟨0, 0, rfl, Nat.zero_le _, rfl, rfl, by decide, rfl, HRW.out, HN.out⟩
      clear HRW HN
      case round =>
        obtain ⟨j, X, rfl, hj, rfl, rfl, hX64, HG, HI, HNi⟩ := hrel
        have iA := (HB.out.ext HI.out).c 0 _ rfl
        have il := (HB.out.ext HI.out).lt
        have hwi := HI.out.size
        by_cases hjl : j < s.vs.l.length
        · have hjl' : (j : Int) < s.vs.l.length := by omega
          obtain ⟨v, b2, o2, hv, hA2, hb2, hc2⟩ := (HSO.out.2.2.slc.ext HI.out).at_ hjl
          have HV := Lib.hid hv
          have d0 := hc2 0 _ rfl
          simp only [Nat.mul_one, Nat.add_zero] at d0
          clear hc2 hv
          by_cases g0 : v < 0
          · have HR := Lib.hid (setGo_bad (n := n) (x := X) HV.out (.inl g0))
            have g0' : decide (v < 0) = true := decide_eq_true g0
            go_wp2_with fail
            go_ret2
            rw [HQ.out, setsGo_none HX.out (HG.out.trans HR.out)]
            exact ⟨rfl, ext_trans HE.out HI.out⟩
          have g0' : decide (v < 0) = false := decide_eq_false g0
          by_cases g1 : (n : Int) ≤ v
          · have HR := Lib.hid (setGo_bad (n := n) (x := X) HV.out (.inr (.inl g1)))
            have g1' : decide (v ≥ (n : Int)) = true := decide_eq_true g1
            go_wp2_with fail
            go_ret2
            rw [HQ.out, setsGo_none HX.out (HG.out.trans HR.out)]
            exact ⟨rfl, ext_trans HE.out HI.out⟩
          have g1' : decide (v ≥ (n : Int)) = false := decide_eq_false g1
          have hsh := shl_one (v := v) (by omega) (by omega)
          have hP : 2 ^ v.toNat < 18446744073709551616 := Nat.lt_of_lt_of_le (Nat.pow_lt_pow_right (by decide) (show v.toNat < 64 by omega)) (by decide)
          have hand := bits_and_u64_nat X (2 ^ v.toNat) hX64 hP
          have hor := bits_or_u64_nat X (2 ^ v.toNat) hX64 hP
          have hv0 : ¬ v < 0 := g0
          by_cases g2 : X &&& 2 ^ v.toNat = 0
          · have HR := Lib.hid (setGo_step (n := n) (x := X) HV.out (by omega) (by omega) g2)
            have hand0 : bits .and .u64 (X : Int) ((2 ^ v.toNat : Nat) : Int) = 0 := by rw [hand, g2]; rfl
            have HX2 := Lib.hid (show X ||| 2 ^ v.toNat < 18446744073709551616 from Nat.or_lt_two_pow (n := 64) hX64 hP)
            clear hP hX64 hand g2
            generalize 2 ^ v.toNat = Y at *
            go_wp2_with fail
            first
              | exact ⟨⟨j + 1, X ||| Y, rfl, by omega, by go_num, rfl, HX2.out, HG.out.trans HR.out, HI.out, HNi.out⟩, by simp [intOf] <;> omega⟩
              | (go_roundw
                 case rel => exact ⟨j + 1, X ||| Y, rfl, by omega, by go_num, rfl, HX2.out, HG.out.trans HR.out, HI.out, HNi.out⟩
                 case measure => simp [intOf] <;> omega)
          · have HR := Lib.hid (setGo_bad (n := n) (x := X) HV.out (.inr (.inr g2)))
            have hand0 : (bits .and .u64 (X : Int) ((2 ^ v.toNat : Nat) : Int) != 0) = true := by rw [hand]; simp; omega
            clear hP hX64 hand g2 hor
            generalize 2 ^ v.toNat = Y at *
            go_wp2_with fail
            go_ret2
            rw [HQ.out, setsGo_none HX.out (HG.out.trans HR.out)]
            exact ⟨rfl, ext_trans HE.out HI.out⟩
        · have hjl' : ¬ (j : Int) < s.vs.l.length := by omega
          have hjl2 : decide ((j : Int) < s.vs.l.length) = false := decide_eq_false hjl'
          have hd : s.vs.l.drop j = [] := List.drop_eq_nil_of_le (by omega)
          rw [hd] at HG
          simp only [setGo] at HG
          by_cases g3 : X = 0
          · have HG0 := Lib.hid (HG.out.trans (if_pos g3))
            clear HG hd
            subst g3
            go_wp2_with fail
            go_ret2
            rw [HQ.out, setsGo_none HX.out HG0.out]
            exact ⟨rfl, ext_trans HE.out HI.out⟩
          · have HG0 := Lib.hid (HG.out.trans (if_neg g3))
            clear HG hd
            have g3' : ((X : Int) == 0) = false := by simp; omega
            have hO2 := HO.out.ext HI.out
            have hB2 := ext_trans HE.out HI.out
            have hS := slc_litH wr [X] #[.int .u64 X] 160 (enc := uc) (sz := 1) (fun _ => rfl) rfl wr.heap.size rfl
            obtain ⟨v', w5, hrun, hO5, hg5, hat5⟩ := (hO2.alloc (.cells #[.int .u64 X] 160)).append I157 156 (ys := [X]) (m := 1) rfl 1 hS (by simp only [List.length_cons, List.length_nil]; omega) (by unfold maxLen; simp only [List.length_cons, List.length_nil]; omega) (by have := hB2.size; simp; omega)
            have hB5 : Below w.heap.size w w5 := (ext_alloc hB2 _).grown hg5 (by have := hB2.size; simp; omega) (fun r e => by have := (hO2.lt r e).2; omega)
            have HRUN := Lib.hid hrun
            have HO5 := Lib.hid hO5
            have HB5 := Lib.hid (((HB.out.ext HI.out).alloc (.cells #[.int .u64 X] 160)).grown hg5 (fun r e => (hO2.lt r e).2))
            clear hrun hO5 hg5 hat5 hS hO2
            go_wp2_with (at_builtin; refine wpList_append_run rfl (.tmp 46) (.tmp 48) 156 rfl (.slice vA S.length vc) (.slice (some ⟨wr.heap.size, 0, none⟩) 1 1) rfl rfl HRUN.out ?_)
            have HSS := Lib.hid (setsGo_step (S := S) HX.out HG0.out)
            first
              | exact ⟨⟨S.length + 1, S ++ [X], by omega, by go_num, by simp, HQ.out.trans HSS.out, HO5.out, hB5, HB5.out⟩, by simp [intOf] <;> omega⟩
              | (go_roundw
                 case rel => exact ⟨S.length + 1, S ++ [X], by omega, by go_num, by simp, HQ.out.trans HSS.out, HO5.out, hB5, HB5.out⟩
                 case measure => simp [intOf] <;> omega)
    · have hlt' : decide ((S.length : Int) < l.length) = false := decide_eq_false (by omega)
      have hd : l.drop S.length = [] := List.drop_eq_nil_of_le (by omega)
      rw [hd] at HQ
      simp only [setsGo, Option.map_some, List.append_nil] at HQ
      go_wp2_with fail
      go_ret2
      rw [HQ.out]
      exact ⟨vA, vc, rfl, HO.out.low (by omega), HE.out⟩
end Go.Proofs.YtilocjliplmmpaaGreat
