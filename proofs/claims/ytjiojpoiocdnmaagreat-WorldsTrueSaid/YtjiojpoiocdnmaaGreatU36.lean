/- Small tables, light inputs: some Bool, and what it says. -/
import Derived.Test.YtjiojpoiocdnmaaGreatU35
import Derived.Test.YtjiojpoiocdnmaaGreatU7
import Derived.WalkKit
set_option linter.unusedSimpArgs false
set_option linter.unusedVariables false
namespace Go.Proofs.YtjiojpoiocdnmaaGreat
open Go.RowKit Go.Shelf
theorem few44 (A : Option Addr) (n c : Nat) (w : World) (hn : n ≤ maxLen) : Calls Tryz.prog 44 #[.slice A n c] w (FewR w True) := by
  unfold maxLen at hn
  go_enter Tryz.func44, Tryz.ntmps44
  go_wp2_with fail
  refine bodyPost_ret (v := .bool (decide (n ≤ 40))) (by simp [results, Tryz.results44, go_sem, *]; omega) rfl ?_
  exact ⟨_, rfl, fun _ => trivial, ext_refl _⟩
theorem FewR.ext {w w1 w' : World} {P : Prop} {e : Ending} (h : FewR w1 P e w') (hb : Below w.heap.size w w1) : FewR w P e w' := by
  obtain ⟨r, h1, h2, h3⟩ := h
  exact ⟨r, h1, h2, ext_trans hb h3⟩
set_option maxRecDepth 100000 in
set_option maxHeartbeats 8000000 in
theorem few22 (t : Tab) (w : World) (ht : Tab.ok w t) : Calls Tryz.prog 22 #[t.v] w (FewR w True) := by
  obtain ⟨tn, ⟨sA, sc, sl⟩, ⟨cA, cc, cl⟩, ⟨wA, wc, wl⟩, ⟨mA, mc, ml⟩, ⟨kA, kc, kl⟩⟩ := t
  have HW := Lib.hid ht.2.2.1
  have HK := Lib.hid ht.2.2.2.2
  have hwl : wl.length ≤ 2 ^ 63 - 1 := HW.out.len
  have hkl : kl.length ≤ 2 ^ 63 - 1 := HK.out.len
  have hsl : sl.length ≤ 2 ^ 63 - 1 := ht.1.len
  have hcl : cl.length ≤ 2 ^ 63 - 1 := ht.2.1.len
  have hml : ml.length ≤ 2 ^ 63 - 1 := ht.2.2.2.1.len
  clear ht
  obtain ⟨W, hW⟩ : ∃ W, w.alloc (.cells #[.int .i64 tn, .slice sA sl.length sc, .slice cA cl.length cc, .slice wA wl.length wc, .slice mA ml.length mc, .slice kA kl.length kc] 28) = W := ⟨_, rfl⟩
  have HE : Hid (Below w.heap.size w W) := by rw [← hW]; exact ext_alloc (ext_refl w) _
  have HB : Hid (Blk W w.heap.size [.int .i64 tn, .slice sA sl.length sc, .slice cA cl.length cc, .slice wA wl.length wc, .slice mA ml.length mc, .slice kA kl.length kc]) := by rw [← hW]; exact Blk.newH w [.int .i64 tn, .slice sA sl.length sc, .slice cA cl.length cc, .slice wA wl.length wc, .slice mA ml.length mc, .slice kA kl.length kc] 28 w.heap.size rfl
  have b1 := HB.out.c 1 _ rfl
  have b2 := HB.out.c 2 _ rfl
  have b3 := HB.out.c 3 _ rfl
  have b4 := HB.out.c 4 _ rfl
  have b5 := HB.out.c 5 _ rfl
  by_cases h1 : 12 < sl.length
  · go_enter Tryz.func22, Tryz.ntmps22
    go_wp2_with fail
    go_ret
    exact ⟨_, rfl, fun _ => trivial, HE.out⟩
  by_cases h2 : 8 < cl.length
  · go_enter Tryz.func22, Tryz.ntmps22
    go_wp2_with fail
    go_ret
    exact ⟨_, rfl, fun _ => trivial, HE.out⟩
  by_cases h3 : 8 < wl.length
  · go_enter Tryz.func22, Tryz.ntmps22
    go_wp2_with fail
    go_ret
    exact ⟨_, rfl, fun _ => trivial, HE.out⟩
  by_cases h4 : 8 < ml.length
  · go_enter Tryz.func22, Tryz.ntmps22
    go_wp2_with fail
    go_ret
    exact ⟨_, rfl, fun _ => trivial, HE.out⟩
  by_cases h5 : 6 < kl.length
  · go_enter Tryz.func22, Tryz.ntmps22
    go_wp2_with fail
    go_ret
    exact ⟨_, rfl, fun _ => trivial, HE.out⟩
  have BB : Hid (Below w.heap.size w W) := HE
  go_enter Tryz.func22, Tryz.ntmps22
  go_wp2_with fail
  clear hW b1 b2 b3 b4 b5
  go_loopw [3] (fun i wr => ∃ k : Nat, k ≤ wl.length ∧ i = .int .i64 k ∧ Hid (Below W.heap.size W wr)) (fun i _ => wl.length - (intOf i).toNat)
  case atStart => exact ⟨0, by omega, rfl, ext_refl _⟩
  case round =>
    obtain ⟨k, hk, rfl, EE⟩ := hrel
    obtain ⟨wo, rfl⟩ : ∃ wo, wo = wr := ⟨_, rfl⟩
    have BW := HB.out.ext EE.out
    by_cases hlt : k < wl.length
    rotate_left
    · obtain rfl : k = wl.length := by omega
      have hkn : ¬ ((wl.length : Nat) : Int) < wl.length := by omega
      have b3 := BW.c 3 _ rfl
      clear BW
      go_wp2_with fail
      clear b3
      obtain ⟨wz, rfl⟩ : ∃ wz, wz = wo := ⟨_, rfl⟩
      go_loopw [5] (fun i wr => ∃ k : Nat, k ≤ kl.length ∧ i = .int .i64 k ∧ Hid (Below W.heap.size W wr)) (fun i _ => kl.length - (intOf i).toNat)
      case atStart => exact ⟨0, by omega, rfl, EE⟩
      case round =>
        obtain ⟨k, hk, rfl, EE⟩ := hrel
        obtain ⟨wo, rfl⟩ : ∃ wo, wo = wr := ⟨_, rfl⟩
        have BW := HB.out.ext EE.out
        have b5 := BW.c 5 _ rfl
        by_cases hlt : k < kl.length
        rotate_left
        · obtain rfl : k = kl.length := by omega
          have hkn : ¬ ((kl.length : Nat) : Int) < kl.length := by omega
          clear BW
          go_wp2_with fail
          go_ret
          exact ⟨_, rfl, fun _ => trivial, ext_trans HE.out EE.out⟩
        · have hki : (k : Int) < (kl.length : Int) := by omega
          obtain ⟨x, xb, xo, hx, hA, hxb, hxc⟩ := (HK.out.slc.below (Nat.le_refl _) (ext_trans HE.out EE.out)).at_ hlt
          have hxk : Kd.ok wo x := (HK.out.all (List.mem_of_getElem? hx)).ext (ext_trans HE.out EE.out)
          obtain ⟨x0, x1, x2, x3, x4, ⟨uA, uc, ul⟩⟩ := x
          have d5 := hxc 5 _ rfl
          dsimp only at d5 hxk hA
          have HU := Lib.hid (show SliceOf.ok SliceOf.enc 1 (SliceOf.ok Sp.cells 2 Sp.ok) wo ⟨uA, uc, ul⟩ from hxk)
          have hul : ul.length ≤ 2 ^ 63 - 1 := HU.out.len
          subst hA
          clear hxc hx BW hxk
          by_cases h20 : 20 < ul.length
          · go_wp2_with fail
            go_ret
            exact ⟨_, rfl, fun _ => trivial, ext_trans HE.out EE.out⟩
          · go_wp2_with fail
            have D5 := Lib.hid d5
            have HXB := Lib.hid hxb
            clear d5 b5 hxb
            go_loopw [6] (fun i wr => ∃ j : Nat, j ≤ ul.length ∧ i = .int .i64 j ∧ Hid (Below wo.heap.size wo wr)) (fun i _ => ul.length - (intOf i).toNat)
            case atStart => exact ⟨0, by omega, rfl, ext_refl _⟩
            case round =>
              obtain ⟨j, hj, rfl, FF⟩ := hrel
              obtain ⟨wi, rfl⟩ : ∃ wi, wi = wr := ⟨_, rfl⟩
              have E9 := Lib.hid (EE.out.trans (FF.out.mono EE.out.size))
              have b5 := (HB.out.ext E9.out).c 5 _ rfl
              have d5 := (FF.out.cell (p := ⟨xb, xo + k * 6 + 5, none⟩) HXB.out).trans D5.out
              by_cases hjl : j < ul.length
              rotate_left
              · obtain rfl : j = ul.length := by omega
                have hjn : ¬ ((ul.length : Nat) : Int) < ul.length := by omega
                go_wp2_with fail
                go_roundw
                case rel => exact ⟨k + 1, by omega, by go_num, E9⟩
                case measure => simp [intOf]; (try omega)
              · have hji : (j : Int) < (ul.length : Int) := by omega
                obtain ⟨y, yb, yo, hy, hA, hyb, hyc⟩ := (HU.out.slc.below (Nat.le_refl _) FF.out).at_ hjl
                have d6 : wi.cell? ⟨yb, yo + j, none⟩ = some (.slice y.A y.l.length y.c) := by have := hyc 0 _ rfl; simpa using this
                have hyl : y.l.length ≤ maxLen := (HU.out.all (List.mem_of_getElem? hy)).len
                have HF := Lib.hid (fun u => few44 y.A y.l.length y.c u hyl)
                subst hA
                clear hyc hy hyl
                go_wp2_with fail
                refine (HF.out _).mono ?_
                rintro e w3 ⟨r, rfl, -, B3⟩
                have E10 := Lib.hid (E9.out.trans (B3.mono (by have := E9.out.size; omega)))
                have F10 := Lib.hid (FF.out.trans (B3.mono (by have := FF.out.size; omega)))
                clear d5 d6 b5 B3 hyb
                cases r
                · go_wp2_with fail
                  go_ret
                  exact ⟨_, rfl, fun _ => trivial, ext_trans HE.out E10.out⟩
                · go_wp2_with fail
                  go_roundw
                  case rel => exact ⟨j + 1, hjl, by go_num, F10⟩
                  case measure => simp [intOf]; (try omega)
    · have hki : (k : Int) < (wl.length : Int) := by omega
      have b3 := BW.c 3 _ rfl
      obtain ⟨x, xb, xo, hx, hA, hxb, hxc⟩ := (HW.out.slc.below (Nat.le_refl _) (ext_trans HE.out EE.out)).at_ hlt
      have hxk : Wy.ok wo x := (HW.out.all (List.mem_of_getElem? hx)).ext (ext_trans HE.out EE.out)
      obtain ⟨x0, x1, ⟨uA, uc, ul⟩⟩ := x
      have d2 := hxc 2 _ rfl
      dsimp only at d2 hxk hA
      have HU := Lib.hid (show SliceOf.ok Lg.cells 4 Lg.ok wo ⟨uA, uc, ul⟩ from hxk)
      have hul : ul.length ≤ 2 ^ 63 - 1 := HU.out.len
      subst hA
      clear hxc hx BW hxk
      by_cases h20 : 10 < ul.length
      · go_wp2_with fail
        go_ret
        exact ⟨_, rfl, fun _ => trivial, ext_trans HE.out EE.out⟩
      · go_wp2_with fail
        have D5 := Lib.hid d2
        have HXB := Lib.hid hxb
        clear d2 b3 hxb
        go_loopw [4] (fun i wr => ∃ j : Nat, j ≤ ul.length ∧ i = .int .i64 j ∧ Hid (Below wo.heap.size wo wr)) (fun i _ => ul.length - (intOf i).toNat)
        case atStart => exact ⟨0, by omega, rfl, ext_refl _⟩
        case round =>
          obtain ⟨j, hj, rfl, FF⟩ := hrel
          obtain ⟨wi, rfl⟩ : ∃ wi, wi = wr := ⟨_, rfl⟩
          have E9 := Lib.hid (EE.out.trans (FF.out.mono EE.out.size))
          have b3 := (HB.out.ext E9.out).c 3 _ rfl
          have d2 := (FF.out.cell (p := ⟨xb, xo + k * 3 + 2, none⟩) HXB.out).trans D5.out
          by_cases hjl : j < ul.length
          rotate_left
          · obtain rfl : j = ul.length := by omega
            have hjn : ¬ ((ul.length : Nat) : Int) < ul.length := by omega
            go_wp2_with fail
            go_roundw
            case rel => exact ⟨k + 1, by omega, by go_num, E9⟩
            case measure => simp [intOf]; (try omega)
          · have hji : (j : Int) < (ul.length : Int) := by omega
            obtain ⟨y, yb, yo, hy, hA, hyb, hyc⟩ := (HU.out.slc.below (Nat.le_refl _) FF.out).at_ hjl
            have d6 := hyc 3 _ rfl
            have hyl : y.mi.l.length ≤ maxLen := (show SliceOf.ok Sp.cells 2 Sp.ok wo y.mi from HU.out.all (List.mem_of_getElem? hy)).len
            have HF := Lib.hid (fun u => few44 y.mi.A y.mi.l.length y.mi.c u hyl)
            subst hA
            clear hyc hy hyl
            go_wp2_with fail
            refine (HF.out _).mono ?_
            rintro e w3 ⟨r, rfl, -, B3⟩
            have E10 := Lib.hid (E9.out.trans (B3.mono (by have := E9.out.size; omega)))
            have F10 := Lib.hid (FF.out.trans (B3.mono (by have := FF.out.size; omega)))
            clear d2 d6 b3 B3 hyb
            cases r
            · go_wp2_with fail
              go_ret
              exact ⟨_, rfl, fun _ => trivial, ext_trans HE.out E10.out⟩
            · go_wp2_with fail
              go_roundw
              case rel => exact ⟨j + 1, hjl, by go_num, F10⟩
              case measure => simp [intOf]; (try omega)
end Go.Proofs.YtjiojpoiocdnmaaGreat
/- Light inputs. -/
set_option linter.unusedSimpArgs false
set_option linter.unusedVariables false
namespace Go.Proofs.YtjiojpoiocdnmaaGreat
open Go.RowKit Go.Shelf
def mxT (l : List Trk) : List Nat := l.map (fun y => max y.ps.l.length 1)
structure LightP (most : Nat) (s : List Stn) (R : List Rep) (l : List Trk) : Prop where
  hs : s.length ≤ 6
  hr : R.length ≤ 10
  hl : l.length ≤ 5
  hp : cnt (mxT l) ≤ most
  hps : ∀ y ∈ l, y.ps.l.length ≤ 20
theorem cnt_snoc2 {l : List Trk} {k : Nat} {y : Trk} (h : l[k]? = some y) : cnt (mxT (l.take (k + 1))) = cnt (mxT (l.take k)) * max y.ps.l.length 1 := by
  unfold mxT
  rw [take_snoc2 h, List.map_append, List.map_cons, List.map_nil, cnt_snoc]
set_option maxRecDepth 100000 in
set_option maxHeartbeats 8000000 in
theorem light10 (most : Nat) (hm1 : 1 ≤ most) (hmost : most ≤ 1000) (t : Tab) (SA : Option Addr) (sc : Nat) (sl : List Stn) (RA : Option Addr) (rn rc : Nat) (LA : Option Addr) (lc : Nat) (ll : List Trk) (R : List Rep) (w : World) (hrn : rn = R.length) (hrm : rn ≤ maxLen) (ht : Tab.ok w t) (hs : SliceOf.ok Stn.cells 3 Stn.ok w ⟨SA, sc, sl⟩) (hl : SliceOf.ok Trk.cells 14 Trk.ok w ⟨LA, lc, ll⟩) :
    Calls Tryz.prog 10 #[t.v, .slice SA sl.length sc, .slice RA rn rc, .slice LA ll.length lc, .int .i64 most] w (FewR w (LightP most sl R ll)) := by
  have HS := Lib.hid hs
  have HL := Lib.hid hl
  have HRN := Lib.hid hrn
  have hsl : sl.length ≤ 2 ^ 63 - 1 := hs.len
  have hll : ll.length ≤ 2 ^ 63 - 1 := hl.len
  unfold maxLen at hrm
  obtain ⟨W, hW⟩ : ∃ W, w.alloc (.cells #[.int .i64 t.n, .slice t.ss.A t.ss.l.length t.ss.c, .slice t.cs.A t.cs.l.length t.cs.c, .slice t.ws.A t.ws.l.length t.ws.c, .slice t.ms.A t.ms.l.length t.ms.c, .slice t.ks.A t.ks.l.length t.ks.c] 28) = W := ⟨_, rfl⟩
  have HE : Hid (Below w.heap.size w W) := by rw [← hW]; exact ext_alloc (ext_refl w) _
  have HB : Hid (Blk W w.heap.size t.cells) := by rw [← hW]; exact Blk.newH w t.cells 28 w.heap.size rfl
  have HT := Lib.hid (ht.ext HE.out)
  have b0 := HB.out.c 0 _ rfl
  have b1 := HB.out.c 1 _ rfl
  have b2 := HB.out.c 2 _ rfl
  have b3 := HB.out.c 3 _ rfl
  have b4 := HB.out.c 4 _ rfl
  have b5 := HB.out.c 5 _ rfl
  clear hs hl ht hrn
  go_enter Tryz.func10, Tryz.ntmps10
  go_wp2_with fail
  refine (few22 t W HT.out).mono ?_
  rintro e w1 ⟨r, rfl, -, B1⟩
  have E1 := Lib.hid (ext_trans HE.out B1)
  clear hW b0 b1 b2 b3 b4 b5 B1
  cases r
  · go_wp2_with fail
    go_ret
    exact ⟨_, rfl, (fun h => by cases h), E1.out⟩
  by_cases h1 : 6 < sl.length
  · go_wp2_with fail
    go_ret
    exact ⟨_, rfl, (fun h => by cases h), E1.out⟩
  by_cases h2 : 10 < rn
  · go_wp2_with fail
    go_ret
    exact ⟨_, rfl, (fun h => by cases h), E1.out⟩
  by_cases h3 : 5 < ll.length
  · go_wp2_with fail
    go_ret
    exact ⟨_, rfl, (fun h => by cases h), E1.out⟩
  have HH : Hid (sl.length ≤ 6 ∧ R.length ≤ 10 ∧ ll.length ≤ 5) := ⟨by omega, by rw [← HRN.out]; omega, by omega⟩
  go_wp2_with fail
  go_loopw [11, 12] (fun n i wr => ∃ (k c : Nat), k ≤ ll.length ∧ i = .int .i64 k ∧ n = .int .i64 c ∧ Hid (cnt (mxT (ll.take k)) = c) ∧ c ≤ most ∧ Hid (∀ y ∈ ll.take k, y.ps.l.length ≤ 20) ∧ Hid (Below w.heap.size w wr)) (fun _ i _ => ll.length - (intOf i).toNat)
  case atStart => exact ⟨0, 1, by omega, rfl, rfl, by simp [Hid, mxT, cnt], hm1, by simp [Hid], E1⟩
  case round =>
    obtain ⟨k, c, hk, rfl, rfl, HC, hcm, HPS, EE⟩ := hrel
    obtain ⟨wo, rfl⟩ : ∃ wo, wo = wr := ⟨_, rfl⟩
    by_cases hlt : k < ll.length
    rotate_left
    · obtain rfl : k = ll.length := by omega
      have hkn : ¬ ((ll.length : Nat) : Int) < ll.length := by omega
      have HLP : Hid (LightP most sl R ll) := by
        have h1 := HC.out
        have h2 := HPS.out
        rw [List.take_length] at h1 h2
        exact ⟨HH.out.1, HH.out.2.1, HH.out.2.2, by rw [h1]; exact hcm, h2⟩
      clear HC HPS
      go_wp2_with fail
      go_loopw [11, 14] (fun n i wr => ∃ (k : Nat) (v : Int), k ≤ sl.length ∧ i = .int .i64 k ∧ n = .int .i64 v ∧ Hid (Below w.heap.size w wr)) (fun _ i _ => sl.length - (intOf i).toNat)
      case atStart => exact ⟨0, _, by omega, rfl, rfl, EE⟩
      case round =>
        obtain ⟨k, v, hk, rfl, rfl, EE⟩ := hrel
        obtain ⟨wo, rfl⟩ : ∃ wo, wo = wr := ⟨_, rfl⟩
        by_cases hlt : k < sl.length
        rotate_left
        · obtain rfl : k = sl.length := by omega
          have hkn : ¬ ((sl.length : Nat) : Int) < sl.length := by omega
          go_wp2_with fail
          go_ret
          exact ⟨_, rfl, fun _ => HLP.out, EE.out⟩
        · have hki : (k : Int) < (sl.length : Int) := by omega
          obtain ⟨x, xb, xo, hx, hA, hxb, hxc⟩ := (HS.out.slc.below (Nat.le_refl _) EE.out).at_ hlt
          have hxl : x.vs.l.length ≤ 2 ^ 63 - 1 := (show SliceOf.ok ic 1 (fun _ n => (Lit.int .i64 n).wf = true) w x.vs from HS.out.all (List.mem_of_getElem? hx)).len
          have d0 := hxc 0 _ rfl
          have d1 := hxc 1 _ rfl
          simp only [Nat.add_zero] at d0
          subst hA
          clear hxc hx
          by_cases h20 : 20 < x.vs.l.length
          · go_wp2_with fail
            go_ret
            exact ⟨_, rfl, (fun h => by cases h), EE.out⟩
          by_cases g1 : 0 ≤ x.sh
          rotate_left
          · go_wp2_with fail
            all_goals first | (go_ret; exact ⟨_, rfl, (fun h => by cases h), EE.out⟩) | exact ⟨⟨k + 1, _, by omega, by go_num, rfl, EE⟩, by simp [intOf]; omega⟩
          by_cases g2 : x.sh ≤ 3
          rotate_left
          · go_wp2_with fail
            all_goals first | (go_ret; exact ⟨_, rfl, (fun h => by cases h), EE.out⟩) | exact ⟨⟨k + 1, _, by omega, by go_num, rfl, EE⟩, by simp [intOf]; omega⟩
          go_wp2_with fail
          all_goals first | (go_ret; exact ⟨_, rfl, (fun h => by cases h), EE.out⟩) | exact ⟨⟨k + 1, _, by omega, by go_num, rfl, EE⟩, by simp [intOf]; omega⟩
    · have hki : (k : Int) < (ll.length : Int) := by omega
      obtain ⟨x, xb, xo, hx, hA, hxb, hxc⟩ := (HL.out.slc.below (Nat.le_refl _) EE.out).at_ hlt
      have hxk : SliceOf.ok Pth.cells 2 Pth.ok wo x.ps := (Trk.ok.ext (HL.out.all (List.mem_of_getElem? hx)) EE.out).2.2.1
      have d3 := hxc 3 _ rfl
      have d12 := hxc 12 _ rfl
      have hxl : x.ps.l.length ≤ 2 ^ 63 - 1 := hxk.len
      have HX := Lib.hid hx
      have HXK := Lib.hid hxk
      subst hA
      clear hxc hx hxk
      by_cases h20 : 20 < x.ps.l.length
      · go_wp2_with fail
        go_ret
        exact ⟨_, rfl, (fun h => by cases h), EE.out⟩
      by_cases h60 : 60 < x.fl.call.size
      · go_wp2_with fail
        go_ret
        exact ⟨_, rfl, (fun h => by cases h), EE.out⟩
      go_wp2_with fail
      obtain ⟨pA, hpA⟩ : ∃ pA, x.ps.A = pA := ⟨_, rfl⟩
      obtain ⟨pl, hpl⟩ : ∃ pl, x.ps.l = pl := ⟨_, rfl⟩
      obtain ⟨pc, hpc⟩ : ∃ pc, x.ps.c = pc := ⟨_, rfl⟩
      have HPL := Lib.hid hpl
      have HU : Hid (SliceOf.ok Pth.cells 2 Pth.ok wo ⟨pA, pc, pl⟩) := by have := HXK.out; rw [← hpA, ← hpc, ← hpl]; exact this
      rw [hpA, hpl, hpc] at d12
      rw [hpl] at hxl h20
      have D12 := Lib.hid d12
      have HXB := Lib.hid hxb
      clear d3 d12 hpA hpl hpc HXK hxb
      try rw [hpA, hpl, hpc]
      go_loopw [13] (fun i wr => ∃ j : Nat, j ≤ pl.length ∧ i = .int .i64 j ∧ Hid (Below wo.heap.size wo wr)) (fun i _ => pl.length - (intOf i).toNat)
      case atStart => exact ⟨0, by omega, rfl, ext_refl _⟩
      case round =>
        obtain ⟨j, hj, rfl, FF⟩ := hrel
        obtain ⟨wi, rfl⟩ : ∃ wi, wi = wr := ⟨_, rfl⟩
        have d12 := (FF.out.cell (p := ⟨xb, xo + k * 14 + 12, none⟩) HXB.out).trans D12.out
        have E9 := Lib.hid (EE.out.trans (FF.out.mono EE.out.size))
        by_cases hjl : j < pl.length
        rotate_left
        · obtain rfl : j = pl.length := by omega
          have hjn : ¬ ((pl.length : Nat) : Int) < pl.length := by omega
          have hc0 : IntKind.i64.wrap (c : Int) = (c : Int) := IntWalk.i64_in _ (by omega)
          have hpc : c * pl.length ≤ 1000 * 20 := Nat.mul_le_mul (by omega) (by omega)
          have hcp : IntKind.i64.wrap ((c : Int) * (pl.length : Int)) = ((c * pl.length : Nat) : Int) := by rw [← Int.natCast_mul]; exact IntWalk.i64_in _ (by omega)
          obtain ⟨p, hp⟩ : ∃ p, c * max pl.length 1 = p := ⟨_, rfl⟩
          have HP1 : Hid (cnt (mxT (ll.take (k + 1))) = p) := by
            unfold Hid
            rw [cnt_snoc2 HX.out, HC.out, HPL.out]; exact hp
          have HPS1 : Hid (∀ y ∈ ll.take (k + 1), y.ps.l.length ≤ 20) := fun y hy => by
            rw [take_snoc2 HX.out] at hy
            rcases List.mem_append.1 hy with h | h
            · exact HPS.out y h
            · rw [List.mem_singleton] at h
              subst h
              rw [HPL.out]; omega
          by_cases hp0 : pl.length < 1
          · have hp0' : (pl.length : Int) < 1 := by omega
            obtain rfl : p = c := by
              have : max pl.length 1 = 1 := by omega
              rw [this, Nat.mul_one] at hp; exact hp.symm
            have hnm : ¬ (most : Int) < (p : Int) := by omega
            clear hp hcp hpc
            go_wp2_with fail
            go_roundw
            case rel => exact ⟨k + 1, p, by omega, by go_num, rfl, HP1, hcm, HPS1, E9⟩
            case measure => simp [intOf]; (try omega)
          · have hp0' : ¬ (pl.length : Int) < 1 := by omega
            have : max pl.length 1 = pl.length := by omega
            rw [this] at hp
            rw [hp] at hcp hpc
            clear this hp hc0
            by_cases hnm : most < p
            · have hnm' : (most : Int) < (p : Int) := by omega
              go_wp2_with fail
              go_ret
              exact ⟨_, rfl, (fun h => by cases h), E9.out⟩
            · have hnm' : ¬ (most : Int) < (p : Int) := by omega
              go_wp2_with fail
              go_roundw
              case rel => exact ⟨k + 1, p, by omega, by go_num, by go_num, HP1, by omega, HPS1, E9⟩
              case measure => simp [intOf]; (try omega)
        · have hji : (j : Int) < (pl.length : Int) := by omega
          obtain ⟨y, yb, yo, hy, hA, hyb, hyc⟩ := (HU.out.slc.below (Nat.le_refl _) FF.out).at_ hjl
          have d1 := hyc 1 _ rfl
          have hyl : y.ts.l.length ≤ 2 ^ 63 - 1 := (show SliceOf.ok ic 1 (fun _ n => (Lit.int .i64 n).wf = true) wo y.ts from HU.out.all (List.mem_of_getElem? hy)).len
          subst hA
          clear hyc hy
          by_cases h12 : 12 < y.ts.l.length
          · go_wp2_with fail
            go_ret
            exact ⟨_, rfl, (fun h => by cases h), E9.out⟩
          · go_wp2_with fail
            go_roundw
            case rel => exact ⟨j + 1, hjl, by go_num, FF⟩
            case measure => simp [intOf]; (try omega)
end Go.Proofs.YtjiojpoiocdnmaaGreat
/- The examples of the chapter. No program in sight. -/
set_option linter.unusedSimpArgs false
set_option linter.unusedVariables false
namespace Go.Proofs.YtjiojpoiocdnmaaGreat
def exT (a : Nat → Option Addr) : Tab :=
  { n := 2
    ss := ⟨a 0, 1, [⟨⟨#[115]⟩, ⟨a 1, 2, 2⟩, ⟨a 2, 2, [0, 1]⟩, 4, 2⟩]⟩
    cs := ⟨a 3, 1, [⟨⟨#[99]⟩, ⟨a 4, 1, 1⟩, ⟨a 5, 1, [0]⟩⟩]⟩
    ws := ⟨a 6, 1, [⟨0, 1, ⟨a 7, 1, [⟨0, 0, 50, ⟨a 8, 1, [⟨0, 1440⟩]⟩⟩]⟩⟩]⟩
    ms := ⟨a 9, 2, [⟨a 10, 1, [4]⟩, ⟨a 11, 1, [4]⟩]⟩
    ks := ⟨a 12, 1, [⟨6, 8, 1, 1, 60, ⟨a 13, 2, [⟨none, 0, []⟩, ⟨none, 0, []⟩]⟩⟩]⟩ }
def exTrk (c : ByteArray) (ps : SliceOf Pth) : Trk := ⟨⟨0, 0, 0, c, ⟨none, 0, 0⟩, ⟨0, 0⟩, false⟩, ⟨0, 0, 0, false⟩, ps, ⟨none, 0, 0⟩⟩
def exL (A B C : Option Addr) : List Trk := [exTrk ⟨#[102]⟩ ⟨A, 2, [⟨0, ⟨B, 2, [60, 67]⟩⟩, ⟨0, ⟨C, 2, [62, 70]⟩⟩]⟩]
def exL0 : List Trk := [exTrk ⟨#[102]⟩ ⟨none, 0, []⟩]
def exS (A : Option Addr) (sh : Int) : List Stn := [⟨⟨A, 1, [0]⟩, sh, 0⟩]
def exR1 : Rep := ⟨0, 1, 61, 0, ⟨#[102]⟩, 0⟩
def exR2 : Rep := ⟨0, 2, 61, 0, ⟨#[103]⟩, 0⟩
variable (a : Nat → Option Addr) (A B C D : Option Addr)
theorem ex1 : possErr (exT a) [] [] [] = 0 := by kernel_rfl
theorem ex2 : possV (exT a) [] [] [] = [] := by kernel_rfl
theorem ex3 : possErr (exT a) (exS D 0) [] (exL A B C) = 0 := by kernel_rfl
theorem ex4 : possV (exT a) (exS D 0) [] (exL A B C) = [[true, true]] := by kernel_rfl
theorem ex5 : possErr (exT a) (exS D 0) [exR1] (exL A B C) = 0 := by kernel_rfl
theorem ex6 : possV (exT a) (exS D 0) [exR1] (exL A B C) = [[true, false]] := by kernel_rfl
theorem ex7 : possErr (exT a) (exS D 0) [exR2] (exL A B C) = 240 := by kernel_rfl
theorem ex8 : possV (exT a) (exS D 0) [exR2] (exL A B C) = [] := by kernel_rfl
theorem ex9 : worldErr (exT a) (exS D 0) [] (exL A B C) [] = 240 := by kernel_rfl
theorem ex10 : worldV (exT a) (exS D 0) [] (exL A B C) [] = false := by kernel_rfl
theorem ex11 : worldErr (exT a) (exS D 0) [exR1] (exL A B C) [0] = 0 := by kernel_rfl
theorem ex12 : worldV (exT a) (exS D 0) [exR1] (exL A B C) [0] = true := by kernel_rfl
theorem ex13 : worldErr (exT a) (exS D 0) [exR1] (exL A B C) [1] = 0 := by kernel_rfl
theorem ex14 : worldV (exT a) (exS D 0) [exR1] (exL A B C) [1] = false := by kernel_rfl
theorem ex15 : possErr (exT a) (exS D 1) [exR1] (exL A B C) = 0 := by kernel_rfl
theorem ex16 : possV (exT a) (exS D 1) [exR1] (exL A B C) = [[true, true]] := by kernel_rfl
theorem ex17 : wchkE (exT a) exL0 = 240 := by kernel_rfl
end Go.Proofs.YtjiojpoiocdnmaaGreat
