/- configs.divisions and configs.Check. -/
import Derived.Test.YtjiojpoiocdnmaaGreatU5
import Derived.Test.YtjiojpoiocdnmaaGreatU4
set_option linter.unusedSimpArgs false
set_option linter.unusedVariables false
namespace Go.Proofs.YtjiojpoiocdnmaaGreat
open Go.RowKit Go.Maps
/-- A map that the call makes, whatever it holds. -/
def AMap (P : Program) (k e : TypeId) (w : World) (b n : Nat) : Prop := ∃ D : DataW Unit, w.ownsMap P k (plainElem P e) b n D
section
variable {P : Program} {k e t : TypeId} {w w' : World} {b n : Nat}
theorem AMap.made (w : World) : AMap P k e (w.alloc (.map #[] 0)) w.heap.size 0 := ⟨.map [], World.ownsMap_made _ _ _ _⟩
theorem AMap.lt (h : AMap P k e w b n) : b < w.heap.size := let ⟨_, h⟩ := h; ownsMap_lt h
theorem AMap.ext (h : AMap P k e w b n) (hb : Below w.heap.size w w') : AMap P k e w' b n := let ⟨D, q⟩ := h; ⟨D, ownsMap_block q (hb.block b h.lt)⟩
theorem AMap.put (h : AMap P k e w b n) (hk : P.underlying k = some (.int .u64)) (ht : P.underlying t = some (.map k e)) (he : P.underlying e = some .bool) (hn : n < maxLen)
    (i : Int) (x : Bool) (hi : (Lit.int .u64 i).wf = true) : ∃ w', (Instr.mapUpdate t (.map (some b)) (.int .u64 i) (.bool x)).run P w = .ok () w' ∧ AMap P k e w' b (n + 1) ∧ w.grownBy w' (some b) := by
  obtain ⟨D, h⟩ := h
  obtain ⟨w', hrun, ho, hg⟩ := h.update (int_keyed hk) ht hn (keyOf_int_mk hk hi) (plainElem_bool he x)
  exact ⟨w', hrun, ⟨_, ho⟩, hg⟩
end
def mc (m : Nat) : List Value := [.map (some m)]
theorem info162 : (Tryz.prog.info? 221).map (fun i => (i.zero, i.size, i.bytes)) = some (some (.map none), 1, 8) := by kernel_rfl
theorem I146 : EInfo Tryz.prog 203 221 mc 1 8 := by
  obtain ⟨i0, hi, hz0, hz1, hz2⟩ := iparts info162
  exact ⟨Tryz.underlying203, ⟨i0, _, hi, hz0, hz1, hz2, rfl⟩, by decide, fun _ => rfl, fun x => by simp [mc, Value.oneCell']⟩
theorem mk162 (w : World) : (Instr.makeMap 221 none).run Tryz.prog w = .ok (.map (some w.heap.size)) (w.alloc (.map #[] 0)) := by kernel_rfl
theorem all_ones : ∀ n : Nat, n < 65 → (18446744073709551615 : Int) / 2 ^ (64 - n) = ((2 ^ n - 1 : Nat) : Int) := by decide +kernel
theorem divGo_step {S : List Nat} {ss : List Int} {X j y : Nat} {s : Int} (hs : ss[j]? = some s) (h0 : 0 ≤ s) (hy : S[s.toNat]? = some y) (hb : X &&& y = 0) : divGo S X (ss.drop j) = divGo S (X ||| y) (ss.drop (j + 1)) := by
  obtain ⟨hj, rfl⟩ := List.getElem?_eq_some_iff.1 hs
  obtain ⟨hy1, _⟩ := List.getElem?_eq_some_iff.1 hy
  have hg : S.getD (ss[j]).toNat 0 = y := by simp [List.getD, hy]
  rw [List.drop_eq_getElem_cons hj]
  simp only [divGo, hg]
  rw [if_neg]
  simp only [not_or, Int.not_lt, Int.not_le, ne_eq, Decidable.not_not]
  exact ⟨h0, by omega, hb⟩
theorem divGo_bad {S : List Nat} {ss : List Int} {X j : Nat} {s : Int} (hs : ss[j]? = some s) (hb : s < 0 ∨ (S.length : Int) ≤ s ∨ X &&& S.getD s.toNat 0 ≠ 0) : divGo S X (ss.drop j) = none := by
  obtain ⟨hj, rfl⟩ := List.getElem?_eq_some_iff.1 hs
  rw [List.drop_eq_getElem_cons hj]
  simp only [divGo]
  rw [if_pos hb]
theorem setGo_lt {n y : Nat} {vs : List Int} (h : setGo n 0 vs = some y) : y < 2 ^ n := by
  obtain ⟨_, h1, _, h2⟩ := setGo_some h
  refine Nat.lt_pow_two_of_testBit _ fun i hi => ?_
  rw [h2, Nat.zero_testBit, Bool.false_or, decide_eq_false_iff_not]
  intro hm
  have := h1 _ hm
  omega
theorem setsGo_lt {n : Nat} {ss : List Sec} {S : List Nat} (h : setsGo n ss = some S) (h64 : n ≤ 64) : ∀ y ∈ S, y < 18446744073709551616 := by
  intro y hy
  obtain ⟨e1, e2⟩ := setsGo_some h
  obtain ⟨k, hk⟩ := List.mem_iff_getElem?.1 hy
  obtain ⟨hlt, _⟩ := List.getElem?_eq_some_iff.1 hk
  obtain ⟨z, hz1, hz2⟩ := e2 k _ (List.getElem?_eq_getElem (by omega : k < ss.length))
  cases hk.symm.trans hz1
  exact Nat.lt_of_lt_of_le (setGo_lt hz2) (Nat.pow_le_pow_right (by decide) h64)
theorem all_no {α : Type} {p : α → Bool} {l : List α} {k : Nat} {x : α} (hx : l[k]? = some x) (hp : p x = false) : l.all p = false := List.all_eq_false.2 ⟨x, List.mem_of_getElem? hx, by simp [hp]⟩
theorem all_yes {α : Type} {p : α → Bool} {l : List α} {k : Nat} {x : α} (hx : l[k]? = some x) (hp : p x = true) : (l.drop k).all p = (l.drop (k + 1)).all p := by
  obtain ⟨hk, rfl⟩ := List.getElem?_eq_some_iff.1 hx
  rw [List.drop_eq_getElem_cons hk, List.all_cons, hp, Bool.true_and]
def DivR (w : World) (r : Bool) (e : Ending) (w' : World) : Prop := ∃ v, e = .returned (.tuple #[v, .bool r]) ∧ Below w.heap.size w w'
set_option maxRecDepth 100000 in
set_option maxHeartbeats 8000000 in
theorem div_any (A : Option Addr) (n c : Nat) (sA : Option Addr) (sc : Nat) (l : List Sec) (cA : Option Addr) (cc : Nat) (cs : List Cfg) (w : World) (hs : Slc w Sec.cells 5 sA l) (hk : ∀ x ∈ l, Sec.ok w x) (hc : Slc w Cfg.cells 3 cA cs) (hck : ∀ x ∈ cs, Cfg.ok w x) :
    Calls Tryz.prog 122 #[aspV A n c sA l.length sc cA cs.length cc] w (DivR w (divT n l cs)) := by
  have HS := Lib.hid hs
  have HK := Lib.hid hk
  have HC := Lib.hid hc
  have HCK := Lib.hid hck
  have HB0 := Lib.hid (Blk.newH w [.slice A n c, .slice sA l.length sc, .slice cA cs.length cc, .slice none 0 0, .slice none 0 0, .slice none 0 0, .slice none 0 0, .slice none 0 0] 156 w.heap.size rfl)
  have HE0 := Lib.hid (ext_alloc (ext_refl w) (.cells #[.slice A n c, .slice sA l.length sc, .slice cA cs.length cc, .slice none 0 0, .slice none 0 0, .slice none 0 0, .slice none 0 0, .slice none 0 0] 156))
  clear hs hk hc hck
  go_enter Tryz.func122, Tryz.ntmps122
  by_cases h1 : n < 1
  · have e1 : decide ((n : Int) < 1) = true := decide_eq_true (by omega)
    have HD : Hid (divT n l cs = false) := by simp [Hid, divT]; omega
    go_wp2_with fail
    go_ret2
    rw [HD.out]
    exact ⟨_, rfl, HE0.out⟩
  have e1 : decide ((n : Int) < 1) = false := decide_eq_false (by omega)
  by_cases h2 : 64 < n
  · have e2 : decide ((n : Int) > 64) = true := decide_eq_true (by omega)
    have HD : Hid (divT n l cs = false) := by simp [Hid, divT]; omega
    go_wp2_with fail
    go_ret2
    rw [HD.out]
    exact ⟨_, rfl, HE0.out⟩
  have e2 : decide ((n : Int) > 64) = false := decide_eq_false (by omega)
  by_cases h3 : 64 < l.length
  · have e3 : decide ((l.length : Int) > 64) = true := decide_eq_true (by omega)
    have HD : Hid (divT n l cs = false) := by simp [Hid, divT]; omega
    go_wp2_with fail
    go_ret2
    rw [HD.out]
    exact ⟨_, rfl, HE0.out⟩
  have e3 : decide ((l.length : Int) > 64) = false := decide_eq_false (by omega)
  by_cases h4 : cs.length < 1
  · have e4 : decide ((cs.length : Int) < 1) = true := decide_eq_true (by omega)
    have HD : Hid (divT n l cs = false) := by simp [Hid, divT]; omega
    go_wp2_with fail
    go_ret2
    rw [HD.out]
    exact ⟨_, rfl, HE0.out⟩
  have e4 : decide ((cs.length : Int) < 1) = false := decide_eq_false (by omega)
  by_cases h5 : 32 < cs.length
  · have e5 : decide ((cs.length : Int) > 32) = true := decide_eq_true (by omega)
    have HD : Hid (divT n l cs = false) := by simp [Hid, divT]; omega
    go_wp2_with fail
    go_ret2
    rw [HD.out]
    exact ⟨_, rfl, HE0.out⟩
  have e5 : decide ((cs.length : Int) > 32) = false := decide_eq_false (by omega)
  have hD : divT n l cs = (match setsGo n l with | none => false | some S => cs.all (cfgB n S)) := by
    unfold divT
    rw [decide_eq_true (show 1 ≤ n by omega), decide_eq_true (show n ≤ 64 by omega), decide_eq_true (show l.length ≤ 64 by omega), decide_eq_true (show 1 ≤ cs.length by omega), decide_eq_true (show cs.length ≤ 32 by omega)]
    rfl
  have HSX := Lib.hid (sets_any A n c sA sc l cA cs.length cc _ (by omega) (HS.out.ext HE0.out) (fun x hx => (HK.out x hx).ext HE0.out) (by omega))
  cases hS : setsGo n l with
  | none =>
    rw [hS] at hD HSX
    have HD := Lib.hid hD
    clear hD hS
    go_wp2_with fail
    refine HSX.out.mono ?_
    rintro e w1 ⟨rfl, B1⟩
    go_wp2_with fail
    go_ret2
    rw [HD.out]
    exact ⟨_, rfl, ext_trans HE0.out B1⟩
  | some S =>
    have HLT := Lib.hid (setsGo_lt hS (by omega))
    rw [hS] at hD HSX
    have HD := Lib.hid hD
    clear hD hS
    go_wp2_with fail
    refine HSX.out.mono ?_
    rintro e w1 ⟨qA, qc, rfl, hO, B1⟩
    have HB1 := Lib.hid (HB0.out.ext B1)
    have HE1 := Lib.hid (ext_trans HE0.out B1)
    have HSL := Lib.hid (hO.slc (sz := 1) (fun _ => rfl) (by decide))
    have bA := HB1.out.c 0 _ rfl
    have bC := HB1.out.c 2 _ rfl
    have bl := HB1.out.lt
    have hall := all_ones n (by omega)
    have HCF : Hid (∀ c : Cfg, cfgB n S c = (divGo S 0 c.ss.l == some (2 ^ n - 1))) := fun _ => rfl
    generalize 2 ^ n - 1 = M at hall HCF
    have HW1 := Lib.hid (HC.out.ext HE1.out)
    have HW2 := Lib.hid (fun x hx => (HCK.out x hx).ext HE1.out)
    clear hO B1 HB0 HE0 HSX
    go_wp2_with fail
    clear hall bA
    go_loopw [2, 55] (fun v i wr => ∃ (k : Nat) (L : List Nat), k ≤ cs.length ∧ i = .int .i64 k ∧ L.length = k ∧ Hid (cs.all (cfgB n S) = (cs.drop k).all (cfgB n S)) ∧ Hid (Own wr w1.heap.size 221 mc 1 v L) ∧ Hid (Below w1.heap.size w1 wr)) (fun _ i _ => cs.length - (intOf i).toNat)
    case atStart => exact ⟨0, [], Nat.zero_le _, rfl, rfl, by simp [Hid], Own.nil _ _ _ _ _, ext_refl _⟩
    case round =>
      obtain ⟨k, L, hk, rfl, hLl, HQ, HO, HE⟩ := hrel
      subst hLl
      obtain ⟨vA, vc, rfl, hvc, _, _⟩ := HO.out.form
      have hws := HE.out.size
      by_cases hlt : L.length < cs.length
      · have hlt' : (L.length : Int) < cs.length := by omega
        obtain ⟨g, b1, o1, hx, rfl, hb1, hc⟩ := (HW1.out.ext HE.out).at_ hlt
        have HX := Lib.hid hx
        have c0 := hc 0 _ rfl
        have c1 := hc 1 _ rfl
        have c2 := hc 2 _ rfl
        simp only [Nat.add_zero] at c0
        have HSO := Lib.hid ((HW2.out g (List.mem_of_getElem? hx)).ext HE.out)
        clear hc hx
        obtain ⟨W0, hW0⟩ : ∃ W0, wr.alloc (.cells #[.string g.nm, .slice g.ns.A g.ns.n g.ns.c, .slice g.ss.A g.ss.l.length g.ss.c] 119) = W0 := ⟨_, rfl⟩
        have hz0 : W0.heap.size = wr.heap.size + 1 := by rw [← hW0]; simp
        have HN := Lib.hid (show Blk W0 wr.heap.size g.cells by rw [← hW0]; exact Blk.newH wr g.cells 119 wr.heap.size rfl)
        have HRW := Lib.hid (show Below wr.heap.size wr W0 by rw [← hW0]; exact ext_alloc (ext_refl wr) _)
        have n2 := (HN.out.alloc (.map #[] 0)).c 2 _ rfl
        have hmk := mk162 W0
        have hsl := HSO.out.2.2.len
        unfold maxLen at hsl
        go_wp2_with fail
        clear hW0 c0 c1 c2 n2 hmk
        obtain ⟨B0, hB0⟩ : ∃ z, wr.heap.size + 1 = z := ⟨_, rfl⟩
        rw [hB0]
        go_loopw [2, 8, 63] (fun z x i wi => ∃ (j X : Nat), z = .slice vA L.length vc ∧ j ≤ g.ss.l.length ∧ i = .int .i64 j ∧ x = .int .u64 X ∧ X < 18446744073709551616 ∧ Hid (divGo S 0 g.ss.l = divGo S X (g.ss.l.drop j)) ∧ Hid (Below wr.heap.size wr wi) ∧ Hid (AMap Tryz.prog 220 4 wi B0 j)) (fun _ _ i _ => g.ss.l.length - (intOf i).toNat)
        case atStart => exact ⟨0, 0, rfl, Nat.zero_le _, rfl, rfl, by decide, rfl, ext_alloc HRW.out _, by rw [← hB0, ← hz0]; exact AMap.made W0⟩
        clear HRW HN
        case round =>
          obtain ⟨j, X, rfl, hj, rfl, rfl, hX64, HG, HI, HM⟩ := hrel
          have hwi := HI.out.size
          have HEI := Lib.hid (ext_trans HE.out HI.out)
          by_cases hjl : j < g.ss.l.length
          · have hjl' : (j : Int) < g.ss.l.length := by omega
            obtain ⟨v, b2, o2, hv, hA2, hb2, hc2⟩ := (HSO.out.2.2.slc.ext HI.out).at_ hjl
            have HV := Lib.hid hv
            have d0 := hc2 0 _ rfl
            simp only [Nat.mul_one, Nat.add_zero] at d0
            clear hc2 hv
            by_cases g0 : v < 0
            · have HR := Lib.hid (divGo_bad (S := S) (X := X) HV.out (.inl g0))
              have g0' : decide (v < 0) = true := decide_eq_true g0
              go_wp2_with fail
              go_ret2
              rw [HD.out, all_no HX.out (by rw [HCF.out, HG.out, HR.out]; rfl)]
              exact ⟨_, rfl, ext_trans HE1.out HEI.out⟩
            have g0' : decide (v < 0) = false := decide_eq_false g0
            by_cases g1 : (S.length : Int) ≤ v
            · have HR := Lib.hid (divGo_bad (S := S) (X := X) HV.out (.inr (.inl g1)))
              have g1' : decide (v ≥ (S.length : Int)) = true := decide_eq_true g1
              go_wp2_with fail
              go_ret2
              rw [HD.out, all_no HX.out (by rw [HCF.out, HG.out, HR.out]; rfl)]
              exact ⟨_, rfl, ext_trans HE1.out HEI.out⟩
            have g1' : decide (v ≥ (S.length : Int)) = false := decide_eq_false g1
            have hv1 : v.toNat < S.length := by omega
            have hv2 : v < (S.length : Int) := by omega
            have hv3 : 0 ≤ v := by omega
            obtain ⟨y, b3, o3, hy, hA3, hb3, hc3⟩ := (HSL.out.ext HEI.out).at_ hv1
            have f0 := hc3 0 _ rfl
            simp only [Nat.mul_one, Nat.add_zero] at f0
            have hy64 := HLT.out y (List.mem_of_getElem? hy)
            have hand := bits_and_u64_nat X y hX64 hy64
            have hor := bits_or_u64_nat X y hX64 hy64
            subst hA3
            by_cases g2 : X &&& y = 0
            · have HR := Lib.hid (divGo_step HV.out hv3 hy g2)
              have hand0 : bits .and .u64 (X : Int) (y : Int) = 0 := by rw [hand, g2]; rfl
              have HX2 := Lib.hid (show X ||| y < 18446744073709551616 from Nat.or_lt_two_pow (n := 64) hX64 hy64)
              obtain ⟨w3, hput, hM3, hg3⟩ := HM.out.put (t := 221) Tryz.underlying220 Tryz.underlying221 Tryz.underlying4 (by unfold maxLen; omega) y true (by simp [Lit.wf, IntKind.min, IntKind.max, IntKind.signed, IntKind.bits]; omega)
              have HB3 := Lib.hid (HI.out.grown hg3 hwi (fun r e => by cases e; omega))
              have HM3 := Lib.hid hM3
              clear hX64 hand g2 hy hc3 hM3 hg3 hy64
              go_wp2_with fail
              first
                | exact ⟨⟨j + 1, X ||| y, rfl, by omega, by go_num, rfl, HX2.out, HG.out.trans HR.out, HB3.out, HM3.out⟩, by simp [intOf] <;> omega⟩
                | (go_roundw
                   case rel => exact ⟨j + 1, X ||| y, rfl, by omega, by go_num, rfl, HX2.out, HG.out.trans HR.out, HB3.out, HM3.out⟩
                   case measure => simp [intOf] <;> omega)
            · have HR := Lib.hid (divGo_bad (S := S) (X := X) HV.out (.inr (.inr (by rw [List.getD, hy]; exact g2))))
              have hand0 : (bits .and .u64 (X : Int) (y : Int) != 0) = true := by rw [hand]; simp; omega
              clear hX64 hand g2 hor hy hc3 hy64
              go_wp2_with fail
              go_ret2
              rw [HD.out, all_no HX.out (by rw [HCF.out, HG.out, HR.out]; rfl)]
              exact ⟨_, rfl, ext_trans HE1.out HEI.out⟩
          · have hjl2 : decide ((j : Int) < g.ss.l.length) = false := decide_eq_false (by omega)
            have hd : g.ss.l.drop j = [] := List.drop_eq_nil_of_le (by omega)
            rw [hd] at HG
            simp only [divGo] at HG
            by_cases g3 : X = M
            · have HC0 := Lib.hid (show cfgB n S g = true by rw [HCF.out, HG.out, g3]; simp)
              clear HG hd
              subst g3
              have hO2 := HO.out.ext HI.out
              have hB2 := HEI.out
              have hS := slc_litH wr [B0] #[.map (some B0)] 221 (enc := mc) (sz := 1) (fun _ => rfl) rfl wr.heap.size rfl
              obtain ⟨v', w5, hrun, hO5, hg5, hat5⟩ := (hO2.alloc (.cells #[.map (some B0)] 221)).append I146 203 (ys := [B0]) (m := 1) rfl 1 hS (by simp only [List.length_cons, List.length_nil]; omega) (by unfold maxLen; simp only [List.length_cons, List.length_nil]; omega) (by have := hB2.size; simp; omega)
              have hB5 : Below w1.heap.size w1 w5 := (ext_alloc hB2 _).grown hg5 (by have := hB2.size; simp; omega) (fun r e => by have := (hO2.lt r e).2; omega)
              have HRUN := Lib.hid hrun
              have HO5 := Lib.hid hO5
              clear hrun hO5 hg5 hat5 hS hO2
              go_wp2_with (at_builtin; refine wpList_append_run rfl (.tmp 99) (.tmp 101) 203 rfl (.slice vA L.length vc) (.slice (some ⟨wr.heap.size, 0, none⟩) 1 1) rfl rfl HRUN.out ?_)
              have HSS := Lib.hid (all_yes HX.out HC0.out)
              first
                | exact ⟨⟨L.length + 1, L ++ [B0], by omega, by go_num, by simp, HQ.out.trans HSS.out, HO5.out, hB5⟩, by simp [intOf] <;> omega⟩
                | (go_roundw
                   case rel => exact ⟨L.length + 1, L ++ [B0], by omega, by go_num, by simp, HQ.out.trans HSS.out, HO5.out, hB5⟩
                   case measure => simp [intOf] <;> omega)
            · have HC0 := Lib.hid (show cfgB n S g = false by rw [HCF.out, HG.out]; simp; omega)
              clear HG hd
              have g3' : ((X : Int) != M) = true := by simp; omega
              go_wp2_with fail
              go_ret2
              rw [HD.out, all_no HX.out HC0.out]
              exact ⟨_, rfl, ext_trans HE1.out HEI.out⟩
      · have hlt' : decide ((L.length : Int) < cs.length) = false := decide_eq_false (by omega)
        have hd : cs.drop L.length = [] := List.drop_eq_nil_of_le (by omega)
        rw [hd] at HQ
        simp only [List.all_nil] at HQ
        go_wp2_with fail
        go_ret2
        rw [HD.out, HQ.out]
        exact ⟨_, rfl, ext_trans HE1.out HE.out⟩
theorem ccheck_any (A : Option Addr) (n c : Nat) (sA : Option Addr) (sc : Nat) (l : List Sec) (cA : Option Addr) (cc : Nat) (cs : List Cfg) (w : World) (hs : Slc w Sec.cells 5 sA l) (hk : ∀ x ∈ l, Sec.ok w x) (hc : Slc w Cfg.cells 3 cA cs) (hck : ∀ x ∈ cs, Cfg.ok w x) :
    Calls Tryz.prog 96 #[aspV A n c sA l.length sc cA cs.length cc] w (RetE w (if divT n l cs then 0 else 100)) := by
  have E0 := ext_alloc (ext_refl w) (.cells #[.slice A n c, .slice sA l.length sc, .slice cA cs.length cc, .slice none 0 0, .slice none 0 0, .slice none 0 0, .slice none 0 0, .slice none 0 0] 156)
  have HD := Lib.hid (div_any A n c sA sc l cA cc cs _ (hs.ext E0) (fun x hx => (hk x hx).ext E0) (hc.ext E0) (fun x hx => (hck x hx).ext E0))
  have HE := Lib.hid E0
  clear hs hk hc hck E0
  go_enter Tryz.func96, Tryz.ntmps96
  cases hd : divT n l cs
  · rw [hd] at HD
    go_wp2_with fail
    refine HD.out.mono ?_
    rintro e w1 ⟨v, rfl, B⟩
    go_wp2_with fail
    go_ret
    exact ⟨rfl, ext_trans HE.out B⟩
  · rw [hd] at HD
    go_wp2_with fail
    refine HD.out.mono ?_
    rintro e w1 ⟨v, rfl, B⟩
    go_wp2_with fail
    go_ret
    exact ⟨rfl, ext_trans HE.out B⟩
end Go.Proofs.YtjiojpoiocdnmaaGreat
/- divided: the airspace of tables. -/
set_option linter.unusedSimpArgs false
set_option linter.unusedVariables false
namespace Go.Proofs.YtjiojpoiocdnmaaGreat
open Go.RowKit
theorem info85 : ∃ i, Tryz.prog.info? 253 = some i ∧ ∃ z, i.zero = some z ∧ i.bytes ≤ 1000 := by
  have h : (Tryz.prog.info? 253).map (fun i => (i.zero.isSome, decide (i.bytes ≤ 1000))) = some (true, true) := by kernel_rfl
  obtain ⟨i, hi, hx⟩ := Option.map_eq_some_iff.1 h
  simp only [Prod.mk.injEq, decide_eq_true_eq, Option.isSome_iff_exists] at hx
  obtain ⟨⟨z, hz⟩, hb⟩ := hx
  exact ⟨i, hi, z, hz, hb⟩
theorem mk86 (n : Int) (h0 : 0 ≤ n) (h1 : n ≤ 64) : ∃ f : World → Obj, ∀ w, (Instr.makeSlice 149 (.int .i64 n) (.int .i64 n)).run Tryz.prog w = .ok (.slice (some ⟨w.heap.size, 0, none⟩) n.toNat n.toNat) (w.alloc (f w)) := by
  obtain ⟨i, hi, z, hz, hb⟩ := info85
  exact ⟨_, fun w => run_make w 149 253 i z Tryz.underlying149 hi hz .i64 .i64 n n h0 (Int.le_refl _) (by
    have : (i.bytes : Int) * n ≤ 1000 * 64 := Int.mul_le_mul (by omega) h1 h0 (by decide)
    omega) (by omega)⟩
def set8 (w : World) (b : Nat) (a0 a1 a2 a3 a4 a5 a6 a7 : Value) : World :=
  (((((((w.setCell ⟨b, 0, none⟩ a0).setCell ⟨b, 1, none⟩ a1).setCell ⟨b, 2, none⟩ a2).setCell ⟨b, 3, none⟩ a3).setCell ⟨b, 4, none⟩ a4).setCell ⟨b, 5, none⟩ a5).setCell ⟨b, 6, none⟩ a6).setCell ⟨b, 7, none⟩ a7
theorem Blk.put8 {w : World} {b : Nat} {c0 c1 c2 c3 c4 c5 c6 c7 : Value} (h : Blk w b [c0, c1, c2, c3, c4, c5, c6, c7]) (a0 a1 a2 a3 a4 a5 a6 a7 : Value) : Blk (set8 w b a0 a1 a2 a3 a4 a5 a6 a7) b [a0, a1, a2, a3, a4, a5, a6, a7] :=
  (((((((h.set (j := 0) (by simp) a0).set (j := 1) (by simp) a1).set (j := 2) (by simp) a2).set (j := 3) (by simp) a3).set (j := 4) (by simp) a4).set (j := 5) (by simp) a5).set (j := 6) (by simp) a6).set (j := 7) (by simp) a7
theorem ext_set8 {a b : World} (h : Below a.heap.size a b) (c : Nat) (a0 a1 a2 a3 a4 a5 a6 a7 : Value) (hc : a.heap.size ≤ c) : Below a.heap.size a (set8 b c a0 a1 a2 a3 a4 a5 a6 a7) :=
  below_set (below_set (below_set (below_set (below_set (below_set (below_set (below_set h ⟨c, 0, none⟩ a0 hc) ⟨c, 1, none⟩ a1 hc) ⟨c, 2, none⟩ a2 hc) ⟨c, 3, none⟩ a3 hc) ⟨c, 4, none⟩ a4 hc) ⟨c, 5, none⟩ a5 hc) ⟨c, 6, none⟩ a6 hc) ⟨c, 7, none⟩ a7 hc
set_option maxRecDepth 100000 in
set_option maxHeartbeats 4000000 in
theorem divided_any (t : Tab) (w : World) (h0 : 1 ≤ t.n) (h1 : t.n ≤ 64) : Calls Tryz.prog 97 #[t.v] w fun e w' => ∃ b, e = .returned (aspV (some ⟨b, 0, none⟩) t.n.toNat t.n.toNat t.ss.A t.ss.l.length t.ss.c t.cs.A t.cs.l.length t.cs.c) ∧ Below w.heap.size w w' := by
  obtain ⟨f, hmk⟩ := mk86 t.n (by omega) h1
  have HX := Lib.hid ((Blk.newH w t.cells 28 w.heap.size rfl).alloc (.cells #[.slice none 0 0, .slice none 0 0, .slice none 0 0, .slice none 0 0, .slice none 0 0, .slice none 0 0, .slice none 0 0, .slice none 0 0] 156))
  have HE := Lib.hid (ext_alloc (ext_alloc (ext_refl w) (.cells #[.int .i64 t.n, .slice t.ss.A t.ss.l.length t.ss.c, .slice t.cs.A t.cs.l.length t.cs.c, .slice t.ws.A t.ws.l.length t.ws.c, .slice t.ms.A t.ms.l.length t.ms.c, .slice t.ks.A t.ks.l.length t.ks.c] 28)) (.cells #[.slice none 0 0, .slice none 0 0, .slice none 0 0, .slice none 0 0, .slice none 0 0, .slice none 0 0, .slice none 0 0, .slice none 0 0] 156))
  have HY := Lib.hid (Blk.newH (w.alloc (.cells #[.int .i64 t.n, .slice t.ss.A t.ss.l.length t.ss.c, .slice t.cs.A t.cs.l.length t.cs.c, .slice t.ws.A t.ws.l.length t.ws.c, .slice t.ms.A t.ms.l.length t.ms.c, .slice t.ks.A t.ks.l.length t.ks.c] 28)) [.slice none 0 0, .slice none 0 0, .slice none 0 0, .slice none 0 0, .slice none 0 0, .slice none 0 0, .slice none 0 0, .slice none 0 0] 156 (w.heap.size + 1) (by simp))
  obtain ⟨W, hW⟩ : ∃ W, (w.alloc (.cells #[.int .i64 t.n, .slice t.ss.A t.ss.l.length t.ss.c, .slice t.cs.A t.cs.l.length t.cs.c, .slice t.ws.A t.ws.l.length t.ws.c, .slice t.ms.A t.ms.l.length t.ms.c, .slice t.ks.A t.ks.l.length t.ks.c] 28)).alloc (.cells #[.slice none 0 0, .slice none 0 0, .slice none 0 0, .slice none 0 0, .slice none 0 0, .slice none 0 0, .slice none 0 0, .slice none 0 0] 156) = W := ⟨_, rfl⟩
  have hz : W.heap.size = w.heap.size + 2 := by rw [← hW]; simp
  go_enter Tryz.func97, Tryz.ntmps97
  go_wp2_with fail
  rw [show (w.alloc (.cells t.cells.toArray 28)) = (w.alloc (.cells #[.int .i64 t.n, .slice t.ss.A t.ss.l.length t.ss.c, .slice t.cs.A t.cs.l.length t.cs.c, .slice t.ws.A t.ws.l.length t.ws.c, .slice t.ms.A t.ms.l.length t.ms.c, .slice t.ks.A t.ks.l.length t.ks.c] 28)) from rfl] at HX
  rw [hW] at HX HE HY
  clear hW
  have SS := Lib.hid (show ∀ w', Below W.heap.size W w' → (fun w' => Below W.heap.size W w' ∧ w'.cell? ⟨w.heap.size, 0, none⟩ = some (.int .i64 t.n) ∧ w'.cell? ⟨w.heap.size, 1, none⟩ = some (.slice t.ss.A t.ss.l.length t.ss.c) ∧ w'.cell? ⟨w.heap.size, 2, none⟩ = some (.slice t.cs.A t.cs.l.length t.cs.c)) w' from fun w' h => ⟨h, (HX.out.ext h).c 0 _ rfl, (HX.out.ext h).c 1 _ rfl, (HX.out.ext h).c 2 _ rfl⟩)
  refine rgB 8 SS (ext_drew (ext_refl _)) (fun Q7 hQ7 hN7 hHeld => ?_)
  refine rgT 0 (some 3) hQ7 hHeld ?_; refine rgT 1 (some 4) hQ7 hHeld ?_; refine rgT 3 (some 6) hQ7 hHeld ?_; refine rgT 4 (some 7) hQ7 hHeld ?_; refine rgT 5 (some 8) hQ7 hHeld ?_; refine rgT 6 (some 9) hQ7 hHeld ?_
  refine rg_one (i := 2) (by kernel_rfl) (rg_step rfl (by rfl) (fun K hK => ?_))
  go_simp
  refine hK.out _ _ ?_ (fun hHeld2 => ?_)
  · exact SS.out _ (ext_alloc hHeld.1 _)
  clear hHeld
  have hHeld := hHeld2
  clear hHeld2
  clear hK K
  try simp only [Act.put, List.setIfInBounds_toArray, List.set_cons_zero, List.set_cons_succ]
  refine rgT 7 (some 10) hQ7 hHeld ?_
  have y9 := HY.out
  have y0 := y9.c 0 _ rfl
  have y1 := y9.c 1 _ rfl
  have y2 := y9.c 2 _ rfl
  have y3 := y9.c 3 _ rfl
  have y4 := y9.c 4 _ rfl
  have y5 := y9.c 5 _ rfl
  have y6 := y9.c 6 _ rfl
  have y7 := y9.c 7 _ rfl
  have yf := y9.f
  have yl := y9.lt
  clear y9
  refine rg_one (i := 8) (by kernel_rfl) (rg_late rfl (by rfl) (by kernel_rfl) (fun K hK => ?_))
  go_simp
  refine hK.out _ _ ?_
  clear hK K
  try simp only [Act.put, List.setIfInBounds_toArray, List.set_cons_zero, List.set_cons_succ]
  refine rg_end (by kernel_rfl) (hN7 _ _ ?_) _
  clear hQ7 hN7 Q7
  have BX := hHeld.1
  clear SS
  have BP := HY.out.put8 (.slice (some ⟨w.heap.size + 2, 0, none⟩) t.n.toNat t.n.toNat) (.slice t.ss.A t.ss.l.length t.ss.c) (.slice t.cs.A t.cs.l.length t.cs.c) (.slice none 0 0) (.slice none 0 0) (.slice none 0 0) (.slice none 0 0) (.slice none 0 0)
  have BE := ext_set8 HE.out (w.heap.size + 1) (.slice (some ⟨w.heap.size + 2, 0, none⟩) t.n.toNat t.n.toNat) (.slice t.ss.A t.ss.l.length t.ss.c) (.slice t.cs.A t.cs.l.length t.cs.c) (.slice none 0 0) (.slice none 0 0) (.slice none 0 0) (.slice none 0 0) (.slice none 0 0) (by omega)
  replace BP := (BP.alloc (f W.drew)).drew
  replace BE := ext_drew (ext_alloc BE (f W.drew))
  unfold set8 at BP BE
  have p0 := BP.c 0 _ rfl
  have p1 := BP.c 1 _ rfl
  have p2 := BP.c 2 _ rfl
  have p3 := BP.c 3 _ rfl
  have p4 := BP.c 4 _ rfl
  have p5 := BP.c 5 _ rfl
  have p6 := BP.c 6 _ rfl
  have p7 := BP.c 7 _ rfl
  have HBE := Lib.hid BE
  clear BP BE hmk y0 y1 y2 y3 y4 y5 y6 y7 yf yl BX hHeld
  go_wp2_with fail
  refine bodyPost_ret (v := aspV (some ⟨w.heap.size + 2, 0, none⟩) t.n.toNat t.n.toNat t.ss.A t.ss.l.length t.ss.c t.cs.A t.cs.l.length t.cs.c) (by simp [results, Tryz.results97, go_sem, p0, p1, p2, p3, p4, p5, p6, p7]) rfl ⟨_, rfl, HBE.out⟩
end Go.Proofs.YtjiojpoiocdnmaaGreat
/- What valid tables say. No program in sight. -/
set_option linter.unusedSimpArgs false
set_option linter.unusedVariables false
namespace Go.Proofs.YtjiojpoiocdnmaaGreat
/-- What valid tables say. -/
structure TabOk (t : Tab) : Prop where
  n0 : 1 ≤ t.n
  n1 : t.n ≤ 64
  div : divT t.n.toNat t.ss.l t.cs.l = true
  sec : ∀ s ∈ t.ss.l, 0 ≤ s.rad ∧ s.rad ≤ 64 ∧ 0 ≤ s.pro ∧ s.pro ≤ s.rad
  mod : ∀ l ∈ t.ms.l, ∀ n ∈ l.l, 0 ≤ n ∧ n ≤ 64
theorem inn_iff {n a b : Int} : inn n a b = true ↔ a ≤ n ∧ n ≤ b := by simp [inn]
theorem tab_ok {t : Tab} (h : chkT t = 0) : TabOk t := by
  unfold chkT at h
  split at h
  · rename_i q
    simp only [Bool.and_eq_true, decide_eq_true_eq, List.all_eq_true] at q
    obtain ⟨⟨⟨⟨⟨⟨⟨⟨q1, q2⟩, q3⟩, q4⟩, q5⟩, q6⟩, q7⟩, q8⟩, q9⟩ := q
    rw [inn_iff] at q1
    refine ⟨q1.1, q1.2, q2, fun s hs => ?_, fun l hl n hn => ?_⟩
    · have := q3 s hs
      simp only [secB, Bool.and_eq_true, inn_iff] at this
      exact ⟨this.1.1, this.1.2, this.2.1, this.2.2⟩
    · have := q5 l hl
      simp only [modeB, Bool.and_eq_true, List.all_eq_true, plcB, inn_iff] at this
      exact this.2 n hn
  · cases h
end Go.Proofs.YtjiojpoiocdnmaaGreat
