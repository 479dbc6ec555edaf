/- The law of the cut. -/
import Derived.Test.YtemdebheinbolaaPk4
namespace Go.Proofs.Ytemdebheinbolaa
open Go.RowKit
set_option maxHeartbeats 8000000 in
set_option maxRecDepth 100000 in
theorem law10 (A : Option Addr) (c : Nat) (l : List Nd) (node : Int) (cu : Cut) (leaf : Int) (a : Bool) (ix m : Int) (w : World) (hl : TOk w A l) : Calls Try.prog 10 #[.slice A l.length c, .int .i64 node, cu.v, .int .i64 leaf, .bool a, .int .i64 ix, .int .i64 m] w (Tru w) := by
  cases hv : vld l
  · have HV := Lib.hid (chk_no hv)
    clear hv
    go_enter Try.func10, Try.ntmps10
    go_wp2_with fail
    refine (sane_any _).mono ?_
    rintro e w1 ⟨rfl, B⟩
    have BX := (BoxC.new w cu).ext B
    have X : Below w.heap.size w w1 := by first | exact B | exact ext_trans (ext_alloc (ext_refl _) _) B | exact ext_trans (ext_alloc (ext_alloc (ext_refl _) _) _) B | exact ext_trans (ext_alloc (ext_alloc (ext_alloc (ext_refl _) _) _) _) B | exact ext_trans (ext_alloc (ext_alloc (ext_alloc (ext_alloc (ext_refl _) _) _) _) _) B
    have Ew1 := ext_trans (ext_refl w) X
    clear X B
    replace hl := hl.ext Ew1
    go_wp2_with fail
    refine (few_b rfl (by first | exact hl | exact (hl).alloc _ | exact ((hl).alloc _).alloc _ | exact (((hl).alloc _).alloc _).alloc _)).mono ?_
    rintro e w2 ⟨⟨rf, rfl⟩, B⟩
    have X : Below w1.heap.size w1 w2 := by first | exact B | exact ext_trans (ext_alloc (ext_refl _) _) B | exact ext_trans (ext_alloc (ext_alloc (ext_refl _) _) _) B | exact ext_trans (ext_alloc (ext_alloc (ext_alloc (ext_refl _) _) _) _) B | exact ext_trans (ext_alloc (ext_alloc (ext_alloc (ext_alloc (ext_refl _) _) _) _) _) B
    have Ew2 := ext_trans Ew1 X
    replace BX := BX.ext X
    replace hl := hl.ext X
    clear X B Ew1
    cases rf
    · go_wp2_with fail
      go_ret
      exact ⟨rfl, Ew2⟩
    go_wp2_with fail
    refine (check_at (l := l) 180 HV.out rfl (by first | exact hl | exact (hl).alloc _ | exact ((hl).alloc _).alloc _ | exact (((hl).alloc _).alloc _).alloc _)).mono ?_
    rintro e w3 ⟨rfl, B⟩
    have X : Below w2.heap.size w2 w3 := by first | exact B | exact ext_trans (ext_alloc (ext_refl _) _) B | exact ext_trans (ext_alloc (ext_alloc (ext_refl _) _) _) B | exact ext_trans (ext_alloc (ext_alloc (ext_alloc (ext_refl _) _) _) _) B | exact ext_trans (ext_alloc (ext_alloc (ext_alloc (ext_alloc (ext_refl _) _) _) _) _) B
    have Ew3 := ext_trans Ew2 X
    replace BX := BX.ext X
    replace hl := hl.ext X
    clear X B Ew2
    go_wp2_with fail
    go_ret
    exact ⟨rfl, Ew3⟩
  have HC := Lib.hid (chk_yes hv)
  have HV := Lib.hid hv
  by_cases h0 : 0 ≤ node
  rotate_left
  · clear hv
    go_enter Try.func10, Try.ntmps10
    go_wp2_with fail
    refine (sane_any _).mono ?_
    rintro e w1 ⟨rfl, B⟩
    have BX := (BoxC.new w cu).ext B
    have X : Below w.heap.size w w1 := by first | exact B | exact ext_trans (ext_alloc (ext_refl _) _) B | exact ext_trans (ext_alloc (ext_alloc (ext_refl _) _) _) B | exact ext_trans (ext_alloc (ext_alloc (ext_alloc (ext_refl _) _) _) _) B | exact ext_trans (ext_alloc (ext_alloc (ext_alloc (ext_alloc (ext_refl _) _) _) _) _) B
    have Ew1 := ext_trans (ext_refl w) X
    clear X B
    replace hl := hl.ext Ew1
    go_wp2_with fail
    refine (few_b rfl (by first | exact hl | exact (hl).alloc _ | exact ((hl).alloc _).alloc _ | exact (((hl).alloc _).alloc _).alloc _)).mono ?_
    rintro e w2 ⟨⟨rf, rfl⟩, B⟩
    have X : Below w1.heap.size w1 w2 := by first | exact B | exact ext_trans (ext_alloc (ext_refl _) _) B | exact ext_trans (ext_alloc (ext_alloc (ext_refl _) _) _) B | exact ext_trans (ext_alloc (ext_alloc (ext_alloc (ext_refl _) _) _) _) B | exact ext_trans (ext_alloc (ext_alloc (ext_alloc (ext_alloc (ext_refl _) _) _) _) _) B
    have Ew2 := ext_trans Ew1 X
    replace BX := BX.ext X
    replace hl := hl.ext X
    clear X B Ew1
    cases rf
    · go_wp2_with fail
      go_ret
      exact ⟨rfl, Ew2⟩
    go_wp2_with fail
    refine (check_at (l := l) 0 HC.out rfl (by first | exact hl | exact (hl).alloc _ | exact ((hl).alloc _).alloc _ | exact (((hl).alloc _).alloc _).alloc _)).mono ?_
    rintro e w3 ⟨rfl, B⟩
    have X : Below w2.heap.size w2 w3 := by first | exact B | exact ext_trans (ext_alloc (ext_refl _) _) B | exact ext_trans (ext_alloc (ext_alloc (ext_refl _) _) _) B | exact ext_trans (ext_alloc (ext_alloc (ext_alloc (ext_refl _) _) _) _) B | exact ext_trans (ext_alloc (ext_alloc (ext_alloc (ext_alloc (ext_refl _) _) _) _) _) B
    have Ew3 := ext_trans Ew2 X
    replace BX := BX.ext X
    replace hl := hl.ext X
    clear X B Ew2
    go_wp2_with fail
    go_ret
    exact ⟨rfl, Ew3⟩
  by_cases h1 : node < l.length
  rotate_left
  · clear hv
    go_enter Try.func10, Try.ntmps10
    go_wp2_with fail
    refine (sane_any _).mono ?_
    rintro e w1 ⟨rfl, B⟩
    have BX := (BoxC.new w cu).ext B
    have X : Below w.heap.size w w1 := by first | exact B | exact ext_trans (ext_alloc (ext_refl _) _) B | exact ext_trans (ext_alloc (ext_alloc (ext_refl _) _) _) B | exact ext_trans (ext_alloc (ext_alloc (ext_alloc (ext_refl _) _) _) _) B | exact ext_trans (ext_alloc (ext_alloc (ext_alloc (ext_alloc (ext_refl _) _) _) _) _) B
    have Ew1 := ext_trans (ext_refl w) X
    clear X B
    replace hl := hl.ext Ew1
    go_wp2_with fail
    refine (few_b rfl (by first | exact hl | exact (hl).alloc _ | exact ((hl).alloc _).alloc _ | exact (((hl).alloc _).alloc _).alloc _)).mono ?_
    rintro e w2 ⟨⟨rf, rfl⟩, B⟩
    have X : Below w1.heap.size w1 w2 := by first | exact B | exact ext_trans (ext_alloc (ext_refl _) _) B | exact ext_trans (ext_alloc (ext_alloc (ext_refl _) _) _) B | exact ext_trans (ext_alloc (ext_alloc (ext_alloc (ext_refl _) _) _) _) B | exact ext_trans (ext_alloc (ext_alloc (ext_alloc (ext_alloc (ext_refl _) _) _) _) _) B
    have Ew2 := ext_trans Ew1 X
    replace BX := BX.ext X
    replace hl := hl.ext X
    clear X B Ew1
    cases rf
    · go_wp2_with fail
      go_ret
      exact ⟨rfl, Ew2⟩
    go_wp2_with fail
    refine (check_at (l := l) 0 HC.out rfl (by first | exact hl | exact (hl).alloc _ | exact ((hl).alloc _).alloc _ | exact (((hl).alloc _).alloc _).alloc _)).mono ?_
    rintro e w3 ⟨rfl, B⟩
    have X : Below w2.heap.size w2 w3 := by first | exact B | exact ext_trans (ext_alloc (ext_refl _) _) B | exact ext_trans (ext_alloc (ext_alloc (ext_refl _) _) _) B | exact ext_trans (ext_alloc (ext_alloc (ext_alloc (ext_refl _) _) _) _) B | exact ext_trans (ext_alloc (ext_alloc (ext_alloc (ext_alloc (ext_refl _) _) _) _) _) B
    have Ew3 := ext_trans Ew2 X
    replace BX := BX.ext X
    replace hl := hl.ext X
    clear X B Ew2
    go_wp2_with fail
    go_ret
    exact ⟨rfl, Ew3⟩
  have T := tree_of hv
  have h32 := T.hi
  have HT := Lib.hid T
  obtain ⟨i, rfl⟩ : ∃ i : Nat, node = i := ⟨node.toNat, by omega⟩
  have hi : i < l.length := by omega
  obtain ⟨nd0, bA, oA, _, hAA, _, _⟩ := hl.nd.at_ hi
  subst hAA
  clear hv T
  go_enter Try.func10, Try.ntmps10
  go_wp2_with fail
  refine (sane_any _).mono ?_
  rintro e w1 ⟨rfl, B⟩
  have BX := (BoxC.new w cu).ext B
  have X : Below w.heap.size w w1 := by first | exact B | exact ext_trans (ext_alloc (ext_refl _) _) B | exact ext_trans (ext_alloc (ext_alloc (ext_refl _) _) _) B | exact ext_trans (ext_alloc (ext_alloc (ext_alloc (ext_refl _) _) _) _) B | exact ext_trans (ext_alloc (ext_alloc (ext_alloc (ext_alloc (ext_refl _) _) _) _) _) B
  have Ew1 := ext_trans (ext_refl w) X
  clear X B
  replace hl := hl.ext Ew1
  go_wp2_with fail
  refine (few_b rfl (by first | exact hl | exact (hl).alloc _ | exact ((hl).alloc _).alloc _ | exact (((hl).alloc _).alloc _).alloc _)).mono ?_
  rintro e w2 ⟨⟨rf, rfl⟩, B⟩
  have X : Below w1.heap.size w1 w2 := by first | exact B | exact ext_trans (ext_alloc (ext_refl _) _) B | exact ext_trans (ext_alloc (ext_alloc (ext_refl _) _) _) B | exact ext_trans (ext_alloc (ext_alloc (ext_alloc (ext_refl _) _) _) _) B | exact ext_trans (ext_alloc (ext_alloc (ext_alloc (ext_alloc (ext_refl _) _) _) _) _) B
  have Ew2 := ext_trans Ew1 X
  replace BX := BX.ext X
  replace hl := hl.ext X
  clear X B Ew1
  cases rf
  · go_wp2_with fail
    go_ret
    exact ⟨rfl, Ew2⟩
  go_wp2_with fail
  refine (check_at (l := l) 0 HC.out rfl (by first | exact hl | exact (hl).alloc _ | exact ((hl).alloc _).alloc _ | exact (((hl).alloc _).alloc _).alloc _)).mono ?_
  rintro e w3 ⟨rfl, B⟩
  have X : Below w2.heap.size w2 w3 := by first | exact B | exact ext_trans (ext_alloc (ext_refl _) _) B | exact ext_trans (ext_alloc (ext_alloc (ext_refl _) _) _) B | exact ext_trans (ext_alloc (ext_alloc (ext_alloc (ext_refl _) _) _) _) B | exact ext_trans (ext_alloc (ext_alloc (ext_alloc (ext_alloc (ext_refl _) _) _) _) _) B
  have Ew3 := ext_trans Ew2 X
  replace BX := BX.ext X
  replace hl := hl.ext X
  clear X B Ew2
  obtain ⟨nd, b1, o1, hnd, e1, hb1, hc⟩ := hl.nd.at_ hi
  cases e1
  have c2 := hc 2 _ rfl
  have HND := Lib.hid hnd
  have h64 := (HT.out.nd _ _ hnd).many
  have HCT := Lib.hid (hl.ct nd (List.mem_of_getElem? hnd))
  have hOm := Own.made w3 w3.heap.size 40 Nd.cells 3 (Nat.le_refl _)
  obtain ⟨vx, wx, hrunx, hOx, hgx, hatx⟩ := hOm.append I22 22 (ys := l) (m := l.length) rfl c (hl.nd.alloc (.cells #[] 40)) (by simp; omega) (by unfold maxLen; simp; omega) (by simp)
  rw [List.nil_append] at hOx
  obtain ⟨g, cx, curx, hvx, hcx, hgb, hgl, hgh⟩ := hOx.some_ (by omega)
  subst hvx
  have hBx : Below w3.heap.size w3 wx := (ext_alloc (ext_refl _) _).grown hgx (by simp) (fun r e => by cases e; exact Nat.le_refl _)
  have HRX := Lib.hid hrunx
  have HOX := Lib.hid hOx
  have hff := hOx.frozen (i * 3 + 2)
  have HFF := Lib.hid hff
  have HXC : Hid (wx.cell? ⟨g, i * 3 + 2, none⟩ = some (.slice nd.cuts.A nd.cuts.l.length nd.cuts.c)) := by
    obtain ⟨b9, o9, e9, _, hc9⟩ := (hOx.slc (enc := Nd.cells) (sz := 3) (fun _ => rfl) (by decide)) i nd HND.out
    cases e9
    have := hc9 2 _ rfl
    show wx.cell? _ = _
    simpa only [Nat.zero_add] using this
  have BX2 := BX.ext hBx
  obtain ⟨n0, n1, n2, n3, n4, n5⟩ := BX2
  have d2 := (hBx.cell (p := ⟨bA, _, none⟩) hb1).trans c2
  have hi' : (i : Int) < l.length := by omega
  clear hOm hrunx hOx hgx hatx hc hnd hff hgh
  go_wp2_with (at_builtin; refine wpList_append_run rfl (.tmp 43) (.tmp 44) 22 rfl (.slice (some ⟨w3.heap.size, 0, none⟩) 0 0) (.slice (some ⟨bA, oA, none⟩) l.length c) rfl rfl HRX.out ?_)
  rename_i K1 a1
  have HA1 := Lib.hid a1
  have SS : ∀ w', Below w3.heap.size w3 w' → w'.cell? ⟨bA, oA + i * 3 + 2, none⟩ = some (.slice nd.cuts.A nd.cuts.l.length nd.cuts.c) ∧ w'.cell? ⟨w.heap.size, 0, none⟩ = some (.bool cu.air) ∧ w'.cell? ⟨w.heap.size, 1, none⟩ = some (.int .i64 cu.ix) ∧ w'.cell? ⟨w.heap.size, 2, none⟩ = some (.int .i64 cu.f) ∧ w'.cell? ⟨w.heap.size, 3, none⟩ = some (.int .i64 cu.t) ∧ w'.cell? ⟨w.heap.size, 4, none⟩ = some (.int .i64 cu.less) := fun w' bw =>
    ⟨(bw.cell (p := ⟨bA, _, none⟩) hb1).trans c2, (BX.ext bw).a, (BX.ext bw).i, (BX.ext bw).f, (BX.ext bw).t, (BX.ext bw).l⟩
  have HSS := Lib.hid SS
  have HBX := Lib.hid hBx
  have hzx : w3.heap.size ≤ wx.heap.size := hBx.size
  have hnl := Lib.hid h64
  have hap1 := fun (W' : World) (v : Value) (hO : Own W' wx.heap.size 47 Cut.cells 5 v []) (hb : Below w3.heap.size w3 W') (hz : wx.heap.size ≤ W'.heap.size) => hO.append I38 38 (ys := nd.cuts.l) (m := nd.cuts.l.length) rfl nd.cuts.c (HCT.out.ext hb) (by simp; omega) (by unfold maxLen; simp; omega) hz
  have hap2 := fun (W' : World) (v : Value) (B : Option Addr) (hO : Own W' wx.heap.size 47 Cut.cells 5 v nd.cuts.l) (hS : Slc W' Cut.cells 5 B [cu]) (hz : wx.heap.size ≤ W'.heap.size) => hO.append I38 38 (ys := [cu]) (m := 1) rfl 1 hS (by simp; omega) (by unfold maxLen; simp; omega) hz
  have HAP1 := Lib.hid hap1
  have HAP2 := Lib.hid hap2
  clear SS hBx hap1 hap2 a1 h64
  go_region_held3 (fun w' => w'.cell? ⟨bA, oA + i * 3 + 2, none⟩ = some (.slice nd.cuts.A nd.cuts.l.length nd.cuts.c) ∧ w'.cell? ⟨w.heap.size, 0, none⟩ = some (.bool cu.air) ∧ w'.cell? ⟨w.heap.size, 1, none⟩ = some (.int .i64 cu.ix) ∧ w'.cell? ⟨w.heap.size, 2, none⟩ = some (.int .i64 cu.f) ∧ w'.cell? ⟨w.heap.size, 3, none⟩ = some (.int .i64 cu.t) ∧ w'.cell? ⟨w.heap.size, 4, none⟩ = some (.int .i64 cu.less))
    (first | exact ⟨d2, n1, n2, n3, n4, n5⟩ | exact HSS.out _ (BW3.setCell (p := ⟨g, _, none⟩) hgb _) | exact HSS.out _ BW3 | exact HSS.out _ (ext_alloc BW2 _) | exact HSS.out _ BW2 | exact HSS.out _ (ext_alloc (ext_alloc (ext_drew HBX.out) _) _) | exact HSS.out _ (ext_drew (ext_alloc (ext_alloc HBX.out _) _)) | exact HSS.out _ (ext_alloc (ext_drew HBX.out) _) | exact HSS.out _ (ext_drew (ext_alloc HBX.out _)))
    ((first
      | (refine step_append_of rfl (.tmp 48) (.tmp 53) 38 rfl (.slice (some ⟨_, 0, none⟩) 0 0) (.slice nd.cuts.A nd.cuts.l.length nd.cuts.c) (by rfl) (by rfl) (HAP1.out _ _ ?_ ?_ ?_) ?_
         · first | exact (Own.madeH wx _ _ _ _ (Nat.le_refl _) wx.heap.size rfl).drew_ | exact ((Own.madeH wx _ _ _ _ (Nat.le_refl _) wx.heap.size rfl).alloc _).drew_ | exact (Own.madeH (wx.alloc _) _ _ _ _ (by simp) (wx.heap.size + 1) (by simp)).drew_
         · first | exact ext_drew (ext_alloc HBX.out _) | exact ext_drew (ext_alloc (ext_alloc HBX.out _) _)
         · simp <;> omega
         rintro v2 y2 ⟨hO2, hg2, hat2⟩
         have BX2 : Below wx.heap.size wx y2 := by first | exact (ext_drew (ext_alloc (ext_refl wx) _)).grown hg2 (by simp <;> omega) (by simp [Value.ownBlock] <;> omega) | exact (ext_drew (ext_alloc (ext_alloc (ext_refl wx) _) _)).grown hg2 (by simp <;> omega) (by simp [Value.ownBlock] <;> omega)
         have BW2 := ext_trans HBX.out BX2)
      | (refine step_append_of rfl (.tmp 54) (.tmp 56) 38 rfl v2 (.slice (some ⟨_, 0, none⟩) 1 1) (by rfl) (by rfl) (HAP2.out _ _ _ ?_ ?_ ?_) ?_
         · first | exact hO2 | exact hO2.alloc _
         · first | exact slc_litH y2 [cu] #[.bool cu.air, .int .i64 cu.ix, .int .i64 cu.f, .int .i64 cu.t, .int .i64 cu.less] 47 (enc := Cut.cells) (sz := 5) (fun _ => rfl) rfl y2.heap.size rfl | exact Slc.grown (slc_litH (wx.alloc _) [cu] #[.bool cu.air, .int .i64 cu.ix, .int .i64 cu.f, .int .i64 cu.t, .int .i64 cu.less] 47 (enc := Cut.cells) (sz := 5) (fun _ => rfl) rfl (wx.heap.size + 1) (by simp)).drew_ hg2 (fun b o s h => by cases h; simp [Value.ownBlock]) | exact Slc.grown ((slc_litH wx [cu] #[.bool cu.air, .int .i64 cu.ix, .int .i64 cu.f, .int .i64 cu.t, .int .i64 cu.less] 47 (enc := Cut.cells) (sz := 5) (fun _ => rfl) rfl wx.heap.size rfl).alloc _).drew_ hg2 (fun b o s h => by cases h; simp [Value.ownBlock])
         · first | exact BX2.size | exact Nat.le_trans BX2.size (le1 _ _)
         rintro v3 y3 ⟨hO3, hg3, hat3⟩
         obtain ⟨g3, c3, cur3, hv3, -, hgb3, -, -⟩ := hO3.some_ (by simp)
         rw [show (nd.cuts.l ++ [cu]).length = nd.cuts.l.length + 1 by simp] at hv3
         subst hv3
         have BX3 : Below wx.heap.size wx y3 := by first | exact BX2.grown hg3 BX2.size (fun r e => (hO2.lt r e).2) | exact (ext_alloc BX2 _).grown hg3 (by have := BX2.size; simp; omega) (fun r e => (hO2.lt r e).2)
         have BW3 := ext_trans HBX.out BX3
         have hxc := (BX3.cell (p := ⟨g, i * 3 + 2, none⟩) hgl).trans HXC.out
         have hfz := (BX3.frozen (p := ⟨g, i * 3 + 2, none⟩) hgl).trans HFF.out)))
  all_goals
    have hTX := added_ok (A9 := some ⟨g3, 0, none⟩) (c9 := c3) hl HND.out BW3 (HOX.out.ext BX3) hgb (hO3.slc (enc := Cut.cells) (sz := 5) (fun _ => rfl) (by decide)) (fun b o s e => by cases e; omega) hnl.out
    have hE4 := ext_trans Ew3 (BW3.setCell (p := ⟨g, i * 3 + 2, none⟩) hgb (.slice (some ⟨g3, 0, none⟩) (nd.cuts.l.length + 1) c3))
    have hBW := BW3.setCell (p := ⟨g, i * 3 + 2, none⟩) hgb (.slice (some ⟨g3, 0, none⟩) (nd.cuts.l.length + 1) c3)
    have hl4 := hl.ext hBW
    have BX4 := BX.ext hBW
    clear hO2 hg2 hat2 hO3 hg3 hat3 BX2 BX3 BW2 BW3 hxc hfz hBW HAP1 HAP2 HBX HOX HRX HFF HXC n0 n1 n2 n3 n4 n5 d2 c2 HSS
    refine HA1.out _ _ ?_
    clear HA1
    generalize (y3.setCell ⟨g, i * 3 + 2, none⟩ (.slice (some ⟨g3, 0, none⟩) (nd.cuts.l.length + 1) c3)) = W4 at *
    obtain ⟨L2, hL2⟩ : ∃ L2, addCut l i (some ⟨g3, 0, none⟩) c3 cu = L2 := ⟨_, rfl⟩
    rw [hL2] at hTX
    have hlen : l.length = L2.length := by rw [← hL2, add_len]
    have HLEN := Lib.hid hlen
    have HL2 := Lib.hid hL2
    clear hlen hL2
    cases hv2 : vld L2
    · have HV2 := Lib.hid (chk_no hv2)
      clear hv2
      replace hTX := hTX
      go_wp2_with fail
      refine (check_at (l := L2) 180 HV2.out HLEN.out (by first | exact hTX | exact (hTX).alloc _ | exact ((hTX).alloc _).alloc _ | exact (((hTX).alloc _).alloc _).alloc _)).mono ?_
      rintro e z1 ⟨rfl, B⟩
      have X : Below W4.heap.size W4 z1 := by first | exact B | exact ext_trans (ext_alloc (ext_refl _) _) B | exact ext_trans (ext_alloc (ext_alloc (ext_refl _) _) _) B | exact ext_trans (ext_alloc (ext_alloc (ext_alloc (ext_refl _) _) _) _) B | exact ext_trans (ext_alloc (ext_alloc (ext_alloc (ext_alloc (ext_refl _) _) _) _) _) B
      have Ez1 := ext_trans hE4 X
      replace hTX := hTX.ext X
      replace hl4 := hl4.ext X
      replace BX4 := BX4.ext X
      clear X B hE4
      go_wp2_with fail
      go_ret
      exact ⟨rfl, Ez1⟩
    have T2 := tree_of hv2
    have HC2 := Lib.hid (chk_yes hv2)
    have hcb : 0 ≤ cu.less ∧ cu.less ≤ 64 := by
      have hx2 : L2[i]? = some ⟨nd.p, nd.f, ⟨some ⟨g3, 0, none⟩, c3, nd.cuts.l ++ [cu]⟩⟩ := by rw [← HL2.out, addCut_set HND.out]; simp [hi]
      have := badC_no ((T2.nd _ _ hx2).cut cu (by simp))
      omega
    have hlR := lessR_e (leaf := leaf) (a := a) (ix := ix) (m := m) HV.out
    have hlR2 := lessR_e (leaf := leaf) (a := a) (ix := ix) (m := m) hv2
    have hlf2 : leafB L2 leaf = leafB l leaf := by rw [← HL2.out]; exact add_leaf hi leaf
    rw [hlf2] at hlR2
    have haR := aliveR_one HV.out h0 h1
    obtain ⟨al, hal⟩ : ∃ al, aliveL l [(i : Int)] = al := ⟨_, rfl⟩
    have hall : al.length ≤ 32 := by rw [← hal]; exact Nat.le_trans (leaves_le l _) h32
    rw [hal] at haR
    have HAR := Lib.hid haR
    have HAL := Lib.hid hal
    cases hlf : leafB l leaf
    · rw [hlf, if_neg (by decide)] at hlR hlR2
      have H1 := Lib.hid hlR
      have H2 := Lib.hid hlR2
      clear hv2 T2 hlR hlR2 hlf hlf2 haR hal
      replace hTX := hTX
      go_wp2_with fail
      refine (check_at (l := L2) 0 HC2.out HLEN.out (by first | exact hTX | exact (hTX).alloc _ | exact ((hTX).alloc _).alloc _ | exact (((hTX).alloc _).alloc _).alloc _)).mono ?_
      rintro e z1 ⟨rfl, B⟩
      have X : Below W4.heap.size W4 z1 := by first | exact B | exact ext_trans (ext_alloc (ext_refl _) _) B | exact ext_trans (ext_alloc (ext_alloc (ext_refl _) _) _) B | exact ext_trans (ext_alloc (ext_alloc (ext_alloc (ext_refl _) _) _) _) B | exact ext_trans (ext_alloc (ext_alloc (ext_alloc (ext_alloc (ext_refl _) _) _) _) _) B
      have Ez1 := ext_trans hE4 X
      replace hTX := hTX.ext X
      replace hl4 := hl4.ext X
      replace BX4 := BX4.ext X
      clear X B hE4
      go_wp2_with fail
      refine (less_at (l := l) _ H1.out rfl (by first | exact hl4 | exact (hl4).alloc _ | exact ((hl4).alloc _).alloc _ | exact (((hl4).alloc _).alloc _).alloc _)).mono ?_
      rintro e z2 ⟨rfl, B⟩
      have X : Below z1.heap.size z1 z2 := by first | exact B | exact ext_trans (ext_alloc (ext_refl _) _) B | exact ext_trans (ext_alloc (ext_alloc (ext_refl _) _) _) B | exact ext_trans (ext_alloc (ext_alloc (ext_alloc (ext_refl _) _) _) _) B | exact ext_trans (ext_alloc (ext_alloc (ext_alloc (ext_alloc (ext_refl _) _) _) _) _) B
      have Ez2 := ext_trans Ez1 X
      replace hTX := hTX.ext X
      replace hl4 := hl4.ext X
      replace BX4 := BX4.ext X
      clear X B Ez1
      go_wp2_with fail
      refine (less_at (l := L2) _ H2.out HLEN.out (by first | exact hTX | exact (hTX).alloc _ | exact ((hTX).alloc _).alloc _ | exact (((hTX).alloc _).alloc _).alloc _)).mono ?_
      rintro e z3 ⟨rfl, B⟩
      have X : Below z2.heap.size z2 z3 := by first | exact B | exact ext_trans (ext_alloc (ext_refl _) _) B | exact ext_trans (ext_alloc (ext_alloc (ext_refl _) _) _) B | exact ext_trans (ext_alloc (ext_alloc (ext_alloc (ext_refl _) _) _) _) B | exact ext_trans (ext_alloc (ext_alloc (ext_alloc (ext_alloc (ext_refl _) _) _) _) _) B
      have Ez3 := ext_trans Ez2 X
      replace hTX := hTX.ext X
      replace hl4 := hl4.ext X
      replace BX4 := BX4.ext X
      clear X B Ez2
      go_wp2_with fail
      refine (alive_at (k := al.length) (l := l) (seen := [(i : Int)]) _ HAR.out rfl rfl (by first | exact hl4 | exact (hl4).alloc _ | exact ((hl4).alloc _).alloc _ | exact (((hl4).alloc _).alloc _).alloc _) (by first | exact slc_litH _ [(i : Int)] _ 3 (enc := ic) (sz := 1) (fun _ => rfl) rfl _ (by first | rfl | simp) | exact (slc_litH _ [(i : Int)] _ 3 (enc := ic) (sz := 1) (fun _ => rfl) rfl _ (by first | rfl | simp)).alloc _ | exact ((slc_litH _ [(i : Int)] _ 3 (enc := ic) (sz := 1) (fun _ => rfl) rfl _ (by first | rfl | simp)).alloc _).alloc _ | exact (((slc_litH _ [(i : Int)] _ 3 (enc := ic) (sz := 1) (fun _ => rfl) rfl _ (by first | rfl | simp)).alloc _).alloc _).alloc _) (by simp [maxLen]) rfl).mono ?_
      rintro e z4 ⟨A9, c9, rfl, S9, B⟩
      have X : Below z3.heap.size z3 z4 := by first | exact B | exact ext_trans (ext_alloc (ext_refl _) _) B | exact ext_trans (ext_alloc (ext_alloc (ext_refl _) _) _) B | exact ext_trans (ext_alloc (ext_alloc (ext_alloc (ext_refl _) _) _) _) B | exact ext_trans (ext_alloc (ext_alloc (ext_alloc (ext_alloc (ext_refl _) _) _) _) _) B
      have Ez4 := ext_trans Ez3 X
      replace hTX := hTX.ext X
      replace hl4 := hl4.ext X
      replace BX4 := BX4.ext X
      clear X B Ez3
      clear S9
      go_wp2_with fail
      go_ret
      exact ⟨rfl, Ez4⟩
    rw [hlf, if_pos rfl] at hlR hlR2
    obtain ⟨f0, f1, _⟩ := (leafB_iff l leaf).1 hlf
    have hadd := HT.out.add_less (A := some ⟨g3, 0, none⟩) (c := c3) (x := cu) hi f0 f1 a ix m
    rw [HL2.out] at hadd
    rw [hadd] at hlR2
    obtain ⟨N, hN⟩ : ∃ N, lessN l leaf a ix m = N := ⟨_, rfl⟩
    have hNb := HT.out.waySum_le a ix m (way l leaf)
    have hwl := way_len l leaf
    have hN2 : 0 ≤ N ∧ N ≤ 200000 := by rw [← hN]; unfold lessN; omega
    obtain ⟨N0, N1⟩ := hN2
    rw [hN] at hlR hlR2
    have hmem : decide (leaf ∈ al) = below l leaf i := by
      rw [← hal, mem_alive (mem_leaves.2 hlf)]; simp
    obtain ⟨r, hr⟩ : ∃ r, below l leaf i = r := ⟨_, rfl⟩
    rw [hr] at hmem hlR2
    have HM := Lib.hid hmem
    have H1 := Lib.hid hlR
    obtain ⟨cb0, cb1⟩ := hcb
    clear hv2 T2 hlR hlf hlf2 haR hal hadd hNb hwl hN hmem hr
    cases r
    · rw [Bool.false_and, if_neg (by decide), Int.add_zero] at hlR2
      have H2 := Lib.hid hlR2
      clear hlR2
      replace hTX := hTX
      go_wp2_with fail
      refine (check_at (l := L2) 0 HC2.out HLEN.out (by first | exact hTX | exact (hTX).alloc _ | exact ((hTX).alloc _).alloc _ | exact (((hTX).alloc _).alloc _).alloc _)).mono ?_
      rintro e z1 ⟨rfl, B⟩
      have X : Below W4.heap.size W4 z1 := by first | exact B | exact ext_trans (ext_alloc (ext_refl _) _) B | exact ext_trans (ext_alloc (ext_alloc (ext_refl _) _) _) B | exact ext_trans (ext_alloc (ext_alloc (ext_alloc (ext_refl _) _) _) _) B | exact ext_trans (ext_alloc (ext_alloc (ext_alloc (ext_alloc (ext_refl _) _) _) _) _) B
      have Ez1 := ext_trans hE4 X
      replace hTX := hTX.ext X
      replace hl4 := hl4.ext X
      replace BX4 := BX4.ext X
      clear X B hE4
      go_wp2_with fail
      refine (less_at (l := l) _ H1.out rfl (by first | exact hl4 | exact (hl4).alloc _ | exact ((hl4).alloc _).alloc _ | exact (((hl4).alloc _).alloc _).alloc _)).mono ?_
      rintro e z2 ⟨rfl, B⟩
      have X : Below z1.heap.size z1 z2 := by first | exact B | exact ext_trans (ext_alloc (ext_refl _) _) B | exact ext_trans (ext_alloc (ext_alloc (ext_refl _) _) _) B | exact ext_trans (ext_alloc (ext_alloc (ext_alloc (ext_refl _) _) _) _) B | exact ext_trans (ext_alloc (ext_alloc (ext_alloc (ext_alloc (ext_refl _) _) _) _) _) B
      have Ez2 := ext_trans Ez1 X
      replace hTX := hTX.ext X
      replace hl4 := hl4.ext X
      replace BX4 := BX4.ext X
      clear X B Ez1
      go_wp2_with fail
      refine (less_at (l := L2) _ H2.out HLEN.out (by first | exact hTX | exact (hTX).alloc _ | exact ((hTX).alloc _).alloc _ | exact (((hTX).alloc _).alloc _).alloc _)).mono ?_
      rintro e z3 ⟨rfl, B⟩
      have X : Below z2.heap.size z2 z3 := by first | exact B | exact ext_trans (ext_alloc (ext_refl _) _) B | exact ext_trans (ext_alloc (ext_alloc (ext_refl _) _) _) B | exact ext_trans (ext_alloc (ext_alloc (ext_alloc (ext_refl _) _) _) _) B | exact ext_trans (ext_alloc (ext_alloc (ext_alloc (ext_alloc (ext_refl _) _) _) _) _) B
      have Ez3 := ext_trans Ez2 X
      replace hTX := hTX.ext X
      replace hl4 := hl4.ext X
      replace BX4 := BX4.ext X
      clear X B Ez2
      go_wp2_with fail
      refine (alive_at (k := al.length) (l := l) (seen := [(i : Int)]) _ HAR.out rfl rfl (by first | exact hl4 | exact (hl4).alloc _ | exact ((hl4).alloc _).alloc _ | exact (((hl4).alloc _).alloc _).alloc _) (by first | exact slc_litH _ [(i : Int)] _ 3 (enc := ic) (sz := 1) (fun _ => rfl) rfl _ (by first | rfl | simp) | exact (slc_litH _ [(i : Int)] _ 3 (enc := ic) (sz := 1) (fun _ => rfl) rfl _ (by first | rfl | simp)).alloc _ | exact ((slc_litH _ [(i : Int)] _ 3 (enc := ic) (sz := 1) (fun _ => rfl) rfl _ (by first | rfl | simp)).alloc _).alloc _ | exact (((slc_litH _ [(i : Int)] _ 3 (enc := ic) (sz := 1) (fun _ => rfl) rfl _ (by first | rfl | simp)).alloc _).alloc _).alloc _) (by simp [maxLen]) rfl).mono ?_
      rintro e z4 ⟨A9, c9, rfl, S9, B⟩
      have X : Below z3.heap.size z3 z4 := by first | exact B | exact ext_trans (ext_alloc (ext_refl _) _) B | exact ext_trans (ext_alloc (ext_alloc (ext_refl _) _) _) B | exact ext_trans (ext_alloc (ext_alloc (ext_alloc (ext_refl _) _) _) _) B | exact ext_trans (ext_alloc (ext_alloc (ext_alloc (ext_alloc (ext_refl _) _) _) _) _) B
      have Ez4 := ext_trans Ez3 X
      replace hTX := hTX.ext X
      replace hl4 := hl4.ext X
      replace BX4 := BX4.ext X
      clear X B Ez3
      go_wp2_with fail
      refine (has_at (a := al) _ HM.out rfl (by first | exact S9 | exact (S9).alloc _ | exact ((S9).alloc _).alloc _ | exact (((S9).alloc _).alloc _).alloc _) (by unfold maxLen; omega)).mono ?_
      rintro e z5 ⟨rfl, B⟩
      have X : Below z4.heap.size z4 z5 := by first | exact B | exact ext_trans (ext_alloc (ext_refl _) _) B | exact ext_trans (ext_alloc (ext_alloc (ext_refl _) _) _) B | exact ext_trans (ext_alloc (ext_alloc (ext_alloc (ext_refl _) _) _) _) B | exact ext_trans (ext_alloc (ext_alloc (ext_alloc (ext_alloc (ext_refl _) _) _) _) _) B
      have Ez5 := ext_trans Ez4 X
      replace hTX := hTX.ext X
      replace hl4 := hl4.ext X
      replace BX4 := BX4.ext X
      clear X B Ez4 S9
      go_wp2_with fail
      go_ret
      exact ⟨rfl, Ez5⟩
    · rw [Bool.true_and] at hlR2
      have H2 := Lib.hid hlR2
      clear hlR2
      obtain ⟨t1, ht1⟩ : ∃ t, (cu.air == a) = t := ⟨_, rfl⟩
      cases t1
      · have HMM : Hid (mat a ix m cu = false) := by simp [Hid, mat, ht1]
        have mm := HMM.out
        have h2 := H2.out
        rw [mm, if_neg (by decide), Int.add_zero] at h2
        have H3 := Lib.hid h2
        clear h2 mm
        replace hTX := hTX
        replace hTX := hTX
        go_wp2_with fail
        refine (check_at (l := L2) 0 HC2.out HLEN.out (by first | exact hTX | exact (hTX).alloc _ | exact ((hTX).alloc _).alloc _ | exact (((hTX).alloc _).alloc _).alloc _)).mono ?_
        rintro e z1 ⟨rfl, B⟩
        have X : Below W4.heap.size W4 z1 := by first | exact B | exact ext_trans (ext_alloc (ext_refl _) _) B | exact ext_trans (ext_alloc (ext_alloc (ext_refl _) _) _) B | exact ext_trans (ext_alloc (ext_alloc (ext_alloc (ext_refl _) _) _) _) B | exact ext_trans (ext_alloc (ext_alloc (ext_alloc (ext_alloc (ext_refl _) _) _) _) _) B
        have Ez1 := ext_trans hE4 X
        replace hTX := hTX.ext X
        replace hl4 := hl4.ext X
        replace BX4 := BX4.ext X
        clear X B hE4
        go_wp2_with fail
        refine (less_at (l := l) _ H1.out rfl (by first | exact hl4 | exact (hl4).alloc _ | exact ((hl4).alloc _).alloc _ | exact (((hl4).alloc _).alloc _).alloc _)).mono ?_
        rintro e z2 ⟨rfl, B⟩
        have X : Below z1.heap.size z1 z2 := by first | exact B | exact ext_trans (ext_alloc (ext_refl _) _) B | exact ext_trans (ext_alloc (ext_alloc (ext_refl _) _) _) B | exact ext_trans (ext_alloc (ext_alloc (ext_alloc (ext_refl _) _) _) _) B | exact ext_trans (ext_alloc (ext_alloc (ext_alloc (ext_alloc (ext_refl _) _) _) _) _) B
        have Ez2 := ext_trans Ez1 X
        replace hTX := hTX.ext X
        replace hl4 := hl4.ext X
        replace BX4 := BX4.ext X
        clear X B Ez1
        go_wp2_with fail
        refine (less_at (l := L2) _ H3.out HLEN.out (by first | exact hTX | exact (hTX).alloc _ | exact ((hTX).alloc _).alloc _ | exact (((hTX).alloc _).alloc _).alloc _)).mono ?_
        rintro e z3 ⟨rfl, B⟩
        have X : Below z2.heap.size z2 z3 := by first | exact B | exact ext_trans (ext_alloc (ext_refl _) _) B | exact ext_trans (ext_alloc (ext_alloc (ext_refl _) _) _) B | exact ext_trans (ext_alloc (ext_alloc (ext_alloc (ext_refl _) _) _) _) B | exact ext_trans (ext_alloc (ext_alloc (ext_alloc (ext_alloc (ext_refl _) _) _) _) _) B
        have Ez3 := ext_trans Ez2 X
        replace hTX := hTX.ext X
        replace hl4 := hl4.ext X
        replace BX4 := BX4.ext X
        clear X B Ez2
        go_wp2_with fail
        refine (alive_at (k := al.length) (l := l) (seen := [(i : Int)]) _ HAR.out rfl rfl (by first | exact hl4 | exact (hl4).alloc _ | exact ((hl4).alloc _).alloc _ | exact (((hl4).alloc _).alloc _).alloc _) (by first | exact slc_litH _ [(i : Int)] _ 3 (enc := ic) (sz := 1) (fun _ => rfl) rfl _ (by first | rfl | simp) | exact (slc_litH _ [(i : Int)] _ 3 (enc := ic) (sz := 1) (fun _ => rfl) rfl _ (by first | rfl | simp)).alloc _ | exact ((slc_litH _ [(i : Int)] _ 3 (enc := ic) (sz := 1) (fun _ => rfl) rfl _ (by first | rfl | simp)).alloc _).alloc _ | exact (((slc_litH _ [(i : Int)] _ 3 (enc := ic) (sz := 1) (fun _ => rfl) rfl _ (by first | rfl | simp)).alloc _).alloc _).alloc _) (by simp [maxLen]) rfl).mono ?_
        rintro e z4 ⟨A9, c9, rfl, S9, B⟩
        have X : Below z3.heap.size z3 z4 := by first | exact B | exact ext_trans (ext_alloc (ext_refl _) _) B | exact ext_trans (ext_alloc (ext_alloc (ext_refl _) _) _) B | exact ext_trans (ext_alloc (ext_alloc (ext_alloc (ext_refl _) _) _) _) B | exact ext_trans (ext_alloc (ext_alloc (ext_alloc (ext_alloc (ext_refl _) _) _) _) _) B
        have Ez4 := ext_trans Ez3 X
        replace hTX := hTX.ext X
        replace hl4 := hl4.ext X
        replace BX4 := BX4.ext X
        clear X B Ez3
        go_wp2_with fail
        refine (has_at (a := al) _ HM.out rfl (by first | exact S9 | exact (S9).alloc _ | exact ((S9).alloc _).alloc _ | exact (((S9).alloc _).alloc _).alloc _) (by unfold maxLen; omega)).mono ?_
        rintro e z5 ⟨rfl, B⟩
        have X : Below z4.heap.size z4 z5 := by first | exact B | exact ext_trans (ext_alloc (ext_refl _) _) B | exact ext_trans (ext_alloc (ext_alloc (ext_refl _) _) _) B | exact ext_trans (ext_alloc (ext_alloc (ext_alloc (ext_refl _) _) _) _) B | exact ext_trans (ext_alloc (ext_alloc (ext_alloc (ext_alloc (ext_refl _) _) _) _) _) B
        have Ez5 := ext_trans Ez4 X
        replace hTX := hTX.ext X
        replace hl4 := hl4.ext X
        replace BX4 := BX4.ext X
        clear X B Ez4 S9
        obtain ⟨_, n0, n1, n2, n3, n4⟩ := BX4
        go_wp2_with fail
        go_ret
        exact ⟨rfl, Ez5⟩
      by_cases ht2 : cu.ix = ix
      rotate_left
      · have HMM : Hid (mat a ix m cu = false) := by simp [Hid, mat, ht2]
        have e2 : (cu.ix == ix) = false := by simpa using ht2
        clear ht2
        have mm := HMM.out
        have h2 := H2.out
        rw [mm, if_neg (by decide), Int.add_zero] at h2
        have H3 := Lib.hid h2
        clear h2 mm
        replace hTX := hTX
        replace hTX := hTX
        go_wp2_with fail
        refine (check_at (l := L2) 0 HC2.out HLEN.out (by first | exact hTX | exact (hTX).alloc _ | exact ((hTX).alloc _).alloc _ | exact (((hTX).alloc _).alloc _).alloc _)).mono ?_
        rintro e z1 ⟨rfl, B⟩
        have X : Below W4.heap.size W4 z1 := by first | exact B | exact ext_trans (ext_alloc (ext_refl _) _) B | exact ext_trans (ext_alloc (ext_alloc (ext_refl _) _) _) B | exact ext_trans (ext_alloc (ext_alloc (ext_alloc (ext_refl _) _) _) _) B | exact ext_trans (ext_alloc (ext_alloc (ext_alloc (ext_alloc (ext_refl _) _) _) _) _) B
        have Ez1 := ext_trans hE4 X
        replace hTX := hTX.ext X
        replace hl4 := hl4.ext X
        replace BX4 := BX4.ext X
        clear X B hE4
        go_wp2_with fail
        refine (less_at (l := l) _ H1.out rfl (by first | exact hl4 | exact (hl4).alloc _ | exact ((hl4).alloc _).alloc _ | exact (((hl4).alloc _).alloc _).alloc _)).mono ?_
        rintro e z2 ⟨rfl, B⟩
        have X : Below z1.heap.size z1 z2 := by first | exact B | exact ext_trans (ext_alloc (ext_refl _) _) B | exact ext_trans (ext_alloc (ext_alloc (ext_refl _) _) _) B | exact ext_trans (ext_alloc (ext_alloc (ext_alloc (ext_refl _) _) _) _) B | exact ext_trans (ext_alloc (ext_alloc (ext_alloc (ext_alloc (ext_refl _) _) _) _) _) B
        have Ez2 := ext_trans Ez1 X
        replace hTX := hTX.ext X
        replace hl4 := hl4.ext X
        replace BX4 := BX4.ext X
        clear X B Ez1
        go_wp2_with fail
        refine (less_at (l := L2) _ H3.out HLEN.out (by first | exact hTX | exact (hTX).alloc _ | exact ((hTX).alloc _).alloc _ | exact (((hTX).alloc _).alloc _).alloc _)).mono ?_
        rintro e z3 ⟨rfl, B⟩
        have X : Below z2.heap.size z2 z3 := by first | exact B | exact ext_trans (ext_alloc (ext_refl _) _) B | exact ext_trans (ext_alloc (ext_alloc (ext_refl _) _) _) B | exact ext_trans (ext_alloc (ext_alloc (ext_alloc (ext_refl _) _) _) _) B | exact ext_trans (ext_alloc (ext_alloc (ext_alloc (ext_alloc (ext_refl _) _) _) _) _) B
        have Ez3 := ext_trans Ez2 X
        replace hTX := hTX.ext X
        replace hl4 := hl4.ext X
        replace BX4 := BX4.ext X
        clear X B Ez2
        go_wp2_with fail
        refine (alive_at (k := al.length) (l := l) (seen := [(i : Int)]) _ HAR.out rfl rfl (by first | exact hl4 | exact (hl4).alloc _ | exact ((hl4).alloc _).alloc _ | exact (((hl4).alloc _).alloc _).alloc _) (by first | exact slc_litH _ [(i : Int)] _ 3 (enc := ic) (sz := 1) (fun _ => rfl) rfl _ (by first | rfl | simp) | exact (slc_litH _ [(i : Int)] _ 3 (enc := ic) (sz := 1) (fun _ => rfl) rfl _ (by first | rfl | simp)).alloc _ | exact ((slc_litH _ [(i : Int)] _ 3 (enc := ic) (sz := 1) (fun _ => rfl) rfl _ (by first | rfl | simp)).alloc _).alloc _ | exact (((slc_litH _ [(i : Int)] _ 3 (enc := ic) (sz := 1) (fun _ => rfl) rfl _ (by first | rfl | simp)).alloc _).alloc _).alloc _) (by simp [maxLen]) rfl).mono ?_
        rintro e z4 ⟨A9, c9, rfl, S9, B⟩
        have X : Below z3.heap.size z3 z4 := by first | exact B | exact ext_trans (ext_alloc (ext_refl _) _) B | exact ext_trans (ext_alloc (ext_alloc (ext_refl _) _) _) B | exact ext_trans (ext_alloc (ext_alloc (ext_alloc (ext_refl _) _) _) _) B | exact ext_trans (ext_alloc (ext_alloc (ext_alloc (ext_alloc (ext_refl _) _) _) _) _) B
        have Ez4 := ext_trans Ez3 X
        replace hTX := hTX.ext X
        replace hl4 := hl4.ext X
        replace BX4 := BX4.ext X
        clear X B Ez3
        go_wp2_with fail
        refine (has_at (a := al) _ HM.out rfl (by first | exact S9 | exact (S9).alloc _ | exact ((S9).alloc _).alloc _ | exact (((S9).alloc _).alloc _).alloc _) (by unfold maxLen; omega)).mono ?_
        rintro e z5 ⟨rfl, B⟩
        have X : Below z4.heap.size z4 z5 := by first | exact B | exact ext_trans (ext_alloc (ext_refl _) _) B | exact ext_trans (ext_alloc (ext_alloc (ext_refl _) _) _) B | exact ext_trans (ext_alloc (ext_alloc (ext_alloc (ext_refl _) _) _) _) B | exact ext_trans (ext_alloc (ext_alloc (ext_alloc (ext_alloc (ext_refl _) _) _) _) _) B
        have Ez5 := ext_trans Ez4 X
        replace hTX := hTX.ext X
        replace hl4 := hl4.ext X
        replace BX4 := BX4.ext X
        clear X B Ez4 S9
        obtain ⟨_, n0, n1, n2, n3, n4⟩ := BX4
        go_wp2_with fail
        go_ret
        exact ⟨rfl, Ez5⟩
      have e2 : (cu.ix == ix) = true := by simpa using ht2
      by_cases ht3 : cu.f ≤ m
      rotate_left
      · have HMM : Hid (mat a ix m cu = false) := by simp [Hid, mat, ht3]
        clear ht2
        have mm := HMM.out
        have h2 := H2.out
        rw [mm, if_neg (by decide), Int.add_zero] at h2
        have H3 := Lib.hid h2
        clear h2 mm
        replace hTX := hTX
        replace hTX := hTX
        go_wp2_with fail
        refine (check_at (l := L2) 0 HC2.out HLEN.out (by first | exact hTX | exact (hTX).alloc _ | exact ((hTX).alloc _).alloc _ | exact (((hTX).alloc _).alloc _).alloc _)).mono ?_
        rintro e z1 ⟨rfl, B⟩
        have X : Below W4.heap.size W4 z1 := by first | exact B | exact ext_trans (ext_alloc (ext_refl _) _) B | exact ext_trans (ext_alloc (ext_alloc (ext_refl _) _) _) B | exact ext_trans (ext_alloc (ext_alloc (ext_alloc (ext_refl _) _) _) _) B | exact ext_trans (ext_alloc (ext_alloc (ext_alloc (ext_alloc (ext_refl _) _) _) _) _) B
        have Ez1 := ext_trans hE4 X
        replace hTX := hTX.ext X
        replace hl4 := hl4.ext X
        replace BX4 := BX4.ext X
        clear X B hE4
        go_wp2_with fail
        refine (less_at (l := l) _ H1.out rfl (by first | exact hl4 | exact (hl4).alloc _ | exact ((hl4).alloc _).alloc _ | exact (((hl4).alloc _).alloc _).alloc _)).mono ?_
        rintro e z2 ⟨rfl, B⟩
        have X : Below z1.heap.size z1 z2 := by first | exact B | exact ext_trans (ext_alloc (ext_refl _) _) B | exact ext_trans (ext_alloc (ext_alloc (ext_refl _) _) _) B | exact ext_trans (ext_alloc (ext_alloc (ext_alloc (ext_refl _) _) _) _) B | exact ext_trans (ext_alloc (ext_alloc (ext_alloc (ext_alloc (ext_refl _) _) _) _) _) B
        have Ez2 := ext_trans Ez1 X
        replace hTX := hTX.ext X
        replace hl4 := hl4.ext X
        replace BX4 := BX4.ext X
        clear X B Ez1
        go_wp2_with fail
        refine (less_at (l := L2) _ H3.out HLEN.out (by first | exact hTX | exact (hTX).alloc _ | exact ((hTX).alloc _).alloc _ | exact (((hTX).alloc _).alloc _).alloc _)).mono ?_
        rintro e z3 ⟨rfl, B⟩
        have X : Below z2.heap.size z2 z3 := by first | exact B | exact ext_trans (ext_alloc (ext_refl _) _) B | exact ext_trans (ext_alloc (ext_alloc (ext_refl _) _) _) B | exact ext_trans (ext_alloc (ext_alloc (ext_alloc (ext_refl _) _) _) _) B | exact ext_trans (ext_alloc (ext_alloc (ext_alloc (ext_alloc (ext_refl _) _) _) _) _) B
        have Ez3 := ext_trans Ez2 X
        replace hTX := hTX.ext X
        replace hl4 := hl4.ext X
        replace BX4 := BX4.ext X
        clear X B Ez2
        go_wp2_with fail
        refine (alive_at (k := al.length) (l := l) (seen := [(i : Int)]) _ HAR.out rfl rfl (by first | exact hl4 | exact (hl4).alloc _ | exact ((hl4).alloc _).alloc _ | exact (((hl4).alloc _).alloc _).alloc _) (by first | exact slc_litH _ [(i : Int)] _ 3 (enc := ic) (sz := 1) (fun _ => rfl) rfl _ (by first | rfl | simp) | exact (slc_litH _ [(i : Int)] _ 3 (enc := ic) (sz := 1) (fun _ => rfl) rfl _ (by first | rfl | simp)).alloc _ | exact ((slc_litH _ [(i : Int)] _ 3 (enc := ic) (sz := 1) (fun _ => rfl) rfl _ (by first | rfl | simp)).alloc _).alloc _ | exact (((slc_litH _ [(i : Int)] _ 3 (enc := ic) (sz := 1) (fun _ => rfl) rfl _ (by first | rfl | simp)).alloc _).alloc _).alloc _) (by simp [maxLen]) rfl).mono ?_
        rintro e z4 ⟨A9, c9, rfl, S9, B⟩
        have X : Below z3.heap.size z3 z4 := by first | exact B | exact ext_trans (ext_alloc (ext_refl _) _) B | exact ext_trans (ext_alloc (ext_alloc (ext_refl _) _) _) B | exact ext_trans (ext_alloc (ext_alloc (ext_alloc (ext_refl _) _) _) _) B | exact ext_trans (ext_alloc (ext_alloc (ext_alloc (ext_alloc (ext_refl _) _) _) _) _) B
        have Ez4 := ext_trans Ez3 X
        replace hTX := hTX.ext X
        replace hl4 := hl4.ext X
        replace BX4 := BX4.ext X
        clear X B Ez3
        go_wp2_with fail
        refine (has_at (a := al) _ HM.out rfl (by first | exact S9 | exact (S9).alloc _ | exact ((S9).alloc _).alloc _ | exact (((S9).alloc _).alloc _).alloc _) (by unfold maxLen; omega)).mono ?_
        rintro e z5 ⟨rfl, B⟩
        have X : Below z4.heap.size z4 z5 := by first | exact B | exact ext_trans (ext_alloc (ext_refl _) _) B | exact ext_trans (ext_alloc (ext_alloc (ext_refl _) _) _) B | exact ext_trans (ext_alloc (ext_alloc (ext_alloc (ext_refl _) _) _) _) B | exact ext_trans (ext_alloc (ext_alloc (ext_alloc (ext_alloc (ext_refl _) _) _) _) _) B
        have Ez5 := ext_trans Ez4 X
        replace hTX := hTX.ext X
        replace hl4 := hl4.ext X
        replace BX4 := BX4.ext X
        clear X B Ez4 S9
        obtain ⟨_, n0, n1, n2, n3, n4⟩ := BX4
        go_wp2_with fail
        go_ret
        exact ⟨rfl, Ez5⟩
      by_cases ht4 : m < cu.t
      rotate_left
      · have HMM : Hid (mat a ix m cu = false) := by simp [Hid, mat, ht4]
        clear ht2
        have mm := HMM.out
        have h2 := H2.out
        rw [mm, if_neg (by decide), Int.add_zero] at h2
        have H3 := Lib.hid h2
        clear h2 mm
        replace hTX := hTX
        replace hTX := hTX
        go_wp2_with fail
        refine (check_at (l := L2) 0 HC2.out HLEN.out (by first | exact hTX | exact (hTX).alloc _ | exact ((hTX).alloc _).alloc _ | exact (((hTX).alloc _).alloc _).alloc _)).mono ?_
        rintro e z1 ⟨rfl, B⟩
        have X : Below W4.heap.size W4 z1 := by first | exact B | exact ext_trans (ext_alloc (ext_refl _) _) B | exact ext_trans (ext_alloc (ext_alloc (ext_refl _) _) _) B | exact ext_trans (ext_alloc (ext_alloc (ext_alloc (ext_refl _) _) _) _) B | exact ext_trans (ext_alloc (ext_alloc (ext_alloc (ext_alloc (ext_refl _) _) _) _) _) B
        have Ez1 := ext_trans hE4 X
        replace hTX := hTX.ext X
        replace hl4 := hl4.ext X
        replace BX4 := BX4.ext X
        clear X B hE4
        go_wp2_with fail
        refine (less_at (l := l) _ H1.out rfl (by first | exact hl4 | exact (hl4).alloc _ | exact ((hl4).alloc _).alloc _ | exact (((hl4).alloc _).alloc _).alloc _)).mono ?_
        rintro e z2 ⟨rfl, B⟩
        have X : Below z1.heap.size z1 z2 := by first | exact B | exact ext_trans (ext_alloc (ext_refl _) _) B | exact ext_trans (ext_alloc (ext_alloc (ext_refl _) _) _) B | exact ext_trans (ext_alloc (ext_alloc (ext_alloc (ext_refl _) _) _) _) B | exact ext_trans (ext_alloc (ext_alloc (ext_alloc (ext_alloc (ext_refl _) _) _) _) _) B
        have Ez2 := ext_trans Ez1 X
        replace hTX := hTX.ext X
        replace hl4 := hl4.ext X
        replace BX4 := BX4.ext X
        clear X B Ez1
        go_wp2_with fail
        refine (less_at (l := L2) _ H3.out HLEN.out (by first | exact hTX | exact (hTX).alloc _ | exact ((hTX).alloc _).alloc _ | exact (((hTX).alloc _).alloc _).alloc _)).mono ?_
        rintro e z3 ⟨rfl, B⟩
        have X : Below z2.heap.size z2 z3 := by first | exact B | exact ext_trans (ext_alloc (ext_refl _) _) B | exact ext_trans (ext_alloc (ext_alloc (ext_refl _) _) _) B | exact ext_trans (ext_alloc (ext_alloc (ext_alloc (ext_refl _) _) _) _) B | exact ext_trans (ext_alloc (ext_alloc (ext_alloc (ext_alloc (ext_refl _) _) _) _) _) B
        have Ez3 := ext_trans Ez2 X
        replace hTX := hTX.ext X
        replace hl4 := hl4.ext X
        replace BX4 := BX4.ext X
        clear X B Ez2
        go_wp2_with fail
        refine (alive_at (k := al.length) (l := l) (seen := [(i : Int)]) _ HAR.out rfl rfl (by first | exact hl4 | exact (hl4).alloc _ | exact ((hl4).alloc _).alloc _ | exact (((hl4).alloc _).alloc _).alloc _) (by first | exact slc_litH _ [(i : Int)] _ 3 (enc := ic) (sz := 1) (fun _ => rfl) rfl _ (by first | rfl | simp) | exact (slc_litH _ [(i : Int)] _ 3 (enc := ic) (sz := 1) (fun _ => rfl) rfl _ (by first | rfl | simp)).alloc _ | exact ((slc_litH _ [(i : Int)] _ 3 (enc := ic) (sz := 1) (fun _ => rfl) rfl _ (by first | rfl | simp)).alloc _).alloc _ | exact (((slc_litH _ [(i : Int)] _ 3 (enc := ic) (sz := 1) (fun _ => rfl) rfl _ (by first | rfl | simp)).alloc _).alloc _).alloc _) (by simp [maxLen]) rfl).mono ?_
        rintro e z4 ⟨A9, c9, rfl, S9, B⟩
        have X : Below z3.heap.size z3 z4 := by first | exact B | exact ext_trans (ext_alloc (ext_refl _) _) B | exact ext_trans (ext_alloc (ext_alloc (ext_refl _) _) _) B | exact ext_trans (ext_alloc (ext_alloc (ext_alloc (ext_refl _) _) _) _) B | exact ext_trans (ext_alloc (ext_alloc (ext_alloc (ext_alloc (ext_refl _) _) _) _) _) B
        have Ez4 := ext_trans Ez3 X
        replace hTX := hTX.ext X
        replace hl4 := hl4.ext X
        replace BX4 := BX4.ext X
        clear X B Ez3
        go_wp2_with fail
        refine (has_at (a := al) _ HM.out rfl (by first | exact S9 | exact (S9).alloc _ | exact ((S9).alloc _).alloc _ | exact (((S9).alloc _).alloc _).alloc _) (by unfold maxLen; omega)).mono ?_
        rintro e z5 ⟨rfl, B⟩
        have X : Below z4.heap.size z4 z5 := by first | exact B | exact ext_trans (ext_alloc (ext_refl _) _) B | exact ext_trans (ext_alloc (ext_alloc (ext_refl _) _) _) B | exact ext_trans (ext_alloc (ext_alloc (ext_alloc (ext_refl _) _) _) _) B | exact ext_trans (ext_alloc (ext_alloc (ext_alloc (ext_alloc (ext_refl _) _) _) _) _) B
        have Ez5 := ext_trans Ez4 X
        replace hTX := hTX.ext X
        replace hl4 := hl4.ext X
        replace BX4 := BX4.ext X
        clear X B Ez4 S9
        obtain ⟨_, n0, n1, n2, n3, n4⟩ := BX4
        go_wp2_with fail
        go_ret
        exact ⟨rfl, Ez5⟩
      have HMM : Hid (mat a ix m cu = true) := by simp [Hid, mat, ht1, ht2, ht3, ht4]
      clear ht2
      have mm := HMM.out
      have h2 := H2.out
      rw [mm, if_pos rfl] at h2
      have H3 := Lib.hid h2
      clear h2 mm
      replace hTX := hTX
      replace hTX := hTX
      go_wp2_with fail
      refine (check_at (l := L2) 0 HC2.out HLEN.out (by first | exact hTX | exact (hTX).alloc _ | exact ((hTX).alloc _).alloc _ | exact (((hTX).alloc _).alloc _).alloc _)).mono ?_
      rintro e z1 ⟨rfl, B⟩
      have X : Below W4.heap.size W4 z1 := by first | exact B | exact ext_trans (ext_alloc (ext_refl _) _) B | exact ext_trans (ext_alloc (ext_alloc (ext_refl _) _) _) B | exact ext_trans (ext_alloc (ext_alloc (ext_alloc (ext_refl _) _) _) _) B | exact ext_trans (ext_alloc (ext_alloc (ext_alloc (ext_alloc (ext_refl _) _) _) _) _) B
      have Ez1 := ext_trans hE4 X
      replace hTX := hTX.ext X
      replace hl4 := hl4.ext X
      replace BX4 := BX4.ext X
      clear X B hE4
      go_wp2_with fail
      refine (less_at (l := l) _ H1.out rfl (by first | exact hl4 | exact (hl4).alloc _ | exact ((hl4).alloc _).alloc _ | exact (((hl4).alloc _).alloc _).alloc _)).mono ?_
      rintro e z2 ⟨rfl, B⟩
      have X : Below z1.heap.size z1 z2 := by first | exact B | exact ext_trans (ext_alloc (ext_refl _) _) B | exact ext_trans (ext_alloc (ext_alloc (ext_refl _) _) _) B | exact ext_trans (ext_alloc (ext_alloc (ext_alloc (ext_refl _) _) _) _) B | exact ext_trans (ext_alloc (ext_alloc (ext_alloc (ext_alloc (ext_refl _) _) _) _) _) B
      have Ez2 := ext_trans Ez1 X
      replace hTX := hTX.ext X
      replace hl4 := hl4.ext X
      replace BX4 := BX4.ext X
      clear X B Ez1
      go_wp2_with fail
      refine (less_at (l := L2) _ H3.out HLEN.out (by first | exact hTX | exact (hTX).alloc _ | exact ((hTX).alloc _).alloc _ | exact (((hTX).alloc _).alloc _).alloc _)).mono ?_
      rintro e z3 ⟨rfl, B⟩
      have X : Below z2.heap.size z2 z3 := by first | exact B | exact ext_trans (ext_alloc (ext_refl _) _) B | exact ext_trans (ext_alloc (ext_alloc (ext_refl _) _) _) B | exact ext_trans (ext_alloc (ext_alloc (ext_alloc (ext_refl _) _) _) _) B | exact ext_trans (ext_alloc (ext_alloc (ext_alloc (ext_alloc (ext_refl _) _) _) _) _) B
      have Ez3 := ext_trans Ez2 X
      replace hTX := hTX.ext X
      replace hl4 := hl4.ext X
      replace BX4 := BX4.ext X
      clear X B Ez2
      go_wp2_with fail
      refine (alive_at (k := al.length) (l := l) (seen := [(i : Int)]) _ HAR.out rfl rfl (by first | exact hl4 | exact (hl4).alloc _ | exact ((hl4).alloc _).alloc _ | exact (((hl4).alloc _).alloc _).alloc _) (by first | exact slc_litH _ [(i : Int)] _ 3 (enc := ic) (sz := 1) (fun _ => rfl) rfl _ (by first | rfl | simp) | exact (slc_litH _ [(i : Int)] _ 3 (enc := ic) (sz := 1) (fun _ => rfl) rfl _ (by first | rfl | simp)).alloc _ | exact ((slc_litH _ [(i : Int)] _ 3 (enc := ic) (sz := 1) (fun _ => rfl) rfl _ (by first | rfl | simp)).alloc _).alloc _ | exact (((slc_litH _ [(i : Int)] _ 3 (enc := ic) (sz := 1) (fun _ => rfl) rfl _ (by first | rfl | simp)).alloc _).alloc _).alloc _) (by simp [maxLen]) rfl).mono ?_
      rintro e z4 ⟨A9, c9, rfl, S9, B⟩
      have X : Below z3.heap.size z3 z4 := by first | exact B | exact ext_trans (ext_alloc (ext_refl _) _) B | exact ext_trans (ext_alloc (ext_alloc (ext_refl _) _) _) B | exact ext_trans (ext_alloc (ext_alloc (ext_alloc (ext_refl _) _) _) _) B | exact ext_trans (ext_alloc (ext_alloc (ext_alloc (ext_alloc (ext_refl _) _) _) _) _) B
      have Ez4 := ext_trans Ez3 X
      replace hTX := hTX.ext X
      replace hl4 := hl4.ext X
      replace BX4 := BX4.ext X
      clear X B Ez3
      go_wp2_with fail
      refine (has_at (a := al) _ HM.out rfl (by first | exact S9 | exact (S9).alloc _ | exact ((S9).alloc _).alloc _ | exact (((S9).alloc _).alloc _).alloc _) (by unfold maxLen; omega)).mono ?_
      rintro e z5 ⟨rfl, B⟩
      have X : Below z4.heap.size z4 z5 := by first | exact B | exact ext_trans (ext_alloc (ext_refl _) _) B | exact ext_trans (ext_alloc (ext_alloc (ext_refl _) _) _) B | exact ext_trans (ext_alloc (ext_alloc (ext_alloc (ext_refl _) _) _) _) B | exact ext_trans (ext_alloc (ext_alloc (ext_alloc (ext_alloc (ext_refl _) _) _) _) _) B
      have Ez5 := ext_trans Ez4 X
      replace hTX := hTX.ext X
      replace hl4 := hl4.ext X
      replace BX4 := BX4.ext X
      clear X B Ez4 S9
      obtain ⟨_, n0, n1, n2, n3, n4⟩ := BX4
      go_wp2_with fail
      go_ret
      exact ⟨rfl, Ez5⟩
end Go.Proofs.Ytemdebheinbolaa
