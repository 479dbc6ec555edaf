/- Sector. -/
import Derived.Test.YtilocjliplmmpaaGreatKL
set_option linter.unusedSimpArgs false
set_option linter.unusedVariables false
namespace Go.Proofs.YtilocjliplmmpaaGreat
open Go.RowKit
def SecR (w : World) (r : Option Int) (e : Ending) (w' : World) : Prop := e = .returned (.tuple #[.int .i64 (r.getD 0), .bool r.isSome]) ∧ Below w.heap.size w w'
def secAtC (l : List Sec) (cs : List Cfg) (k v : Int) : Option Int := if 0 ≤ k ∧ k < cs.length then (match cs[k.toNat]? with | some c => secOf l v c.ss.l | none => none) else none
theorem secOf_step {l : List Sec} {v : Int} {L : List Int} {j : Nat} {s : Int} (hs : L[j]? = some s) (hn : ¬ (0 ≤ s ∧ s < l.length ∧ (volsAt l s).any (· == v) = true)) : secOf l v (L.drop j) = secOf l v (L.drop (j + 1)) := by
  obtain ⟨hj, rfl⟩ := List.getElem?_eq_some_iff.1 hs
  rw [List.drop_eq_getElem_cons hj]
  simp only [secOf]
  rw [if_neg hn]
theorem secOf_hit {l : List Sec} {v : Int} {L : List Int} {j : Nat} {s : Int} (hs : L[j]? = some s) (hn : 0 ≤ s ∧ s < l.length ∧ (volsAt l s).any (· == v) = true) : secOf l v (L.drop j) = some s := by
  obtain ⟨hj, rfl⟩ := List.getElem?_eq_some_iff.1 hs
  rw [List.drop_eq_getElem_cons hj]
  simp only [secOf]
  rw [if_pos hn]
theorem volsAt_of {l : List Sec} {s : Int} {x : Sec} (h : l[s.toNat]? = some x) : volsAt l s = x.vs.l := by simp [volsAt, h]
set_option maxRecDepth 100000 in
set_option maxHeartbeats 8000000 in
theorem csec_any (A : Option Addr) (n c : Nat) (sA : Option Addr) (sc : Nat) (l : List Sec) (cA : Option Addr) (cc : Nat) (cs : List Cfg) (q v : Int) (w : World) (hs : Slc w Sec.cells 5 sA l) (hsl : l.length ≤ maxLen) (hk : ∀ x ∈ l, Sec.ok w x) (hc : Slc w Cfg.cells 3 cA cs) (hcl : cs.length ≤ maxLen) (hck : ∀ x ∈ cs, Cfg.ok w x) :
    Calls Tryz.prog 77 #[aspV A n c sA l.length sc cA cs.length cc, .int .i64 q, .int .i64 v] w (SecR w (secAtC l cs q v)) := by
  obtain ⟨W, hW⟩ : ∃ W, w.alloc (.cells #[.slice A n c, .slice sA l.length sc, .slice cA cs.length cc, .slice none 0 0, .slice none 0 0, .slice none 0 0, .slice none 0 0, .slice none 0 0] 83) = W := ⟨_, rfl⟩
  have HB : Hid (Blk W w.heap.size [.slice A n c, .slice sA l.length sc, .slice cA cs.length cc, .slice none 0 0, .slice none 0 0, .slice none 0 0, .slice none 0 0, .slice none 0 0]) := by rw [← hW]; exact Blk.newH w [.slice A n c, .slice sA l.length sc, .slice cA cs.length cc, .slice none 0 0, .slice none 0 0, .slice none 0 0, .slice none 0 0, .slice none 0 0] 83 w.heap.size rfl
  have HE : Hid (Below w.heap.size w W) := by rw [← hW]; exact ext_alloc (ext_refl w) _
  have HS := Lib.hid (hs.ext HE.out)
  have HC := Lib.hid (hc.ext HE.out)
  have HSO : Hid (∀ x ∈ l, Sec.ok W x) := fun x hx => (hk x hx).ext HE.out
  have HCO : Hid (∀ x ∈ cs, Cfg.ok W x) := fun x hx => (hck x hx).ext HE.out
  have b1 := HB.out.c 1 _ rfl
  have b2 := HB.out.c 2 _ rfl
  have bl := HB.out.lt
  clear hs hc hk hck
  unfold maxLen at hsl hcl
  go_enter Tryz.func77, Tryz.ntmps77
  by_cases h1 : q < 0
  · have e1 : decide (q < 0) = true := decide_eq_true h1
    have HR : Hid (secAtC l cs q v = none) := if_neg (by omega)
    go_wp2_with fail
    go_ret2
    rw [HR.out]
    exact ⟨rfl, HE.out⟩
  have e1 : decide (q < 0) = false := decide_eq_false h1
  by_cases h2 : (cs.length : Int) ≤ q
  · have e2 : decide (q ≥ (cs.length : Int)) = true := decide_eq_true h2
    have HR : Hid (secAtC l cs q v = none) := if_neg (by omega)
    go_wp2_with fail
    go_ret2
    rw [HR.out]
    exact ⟨rfl, HE.out⟩
  have e2 : decide (q ≥ (cs.length : Int)) = false := decide_eq_false h2
  have hq1 : q < (cs.length : Int) := by omega
  have hq2 : q.toNat < cs.length := by omega
  obtain ⟨g, g1, o1, hg, hA, hgb, hcg⟩ := HC.out.at_ hq2
  have g2 := hcg 2 _ rfl
  have HGO := Lib.hid (HCO.out g (List.mem_of_getElem? hg))
  have HD : Hid (secAtC l cs q v = secOf l v g.ss.l) := by simp only [Hid, secAtC]; rw [if_pos (by omega), hg]
  have hgl := HGO.out.2.2.len
  unfold maxLen at hgl
  subst hA
  clear hcg hg
  go_wp2_with fail
  clear hW b2 g2 e1 e2
  go_loopw [26] (fun i wr => ∃ j : Nat, j ≤ g.ss.l.length ∧ i = .int .i64 j ∧ Hid (secAtC l cs q v = secOf l v (g.ss.l.drop j)) ∧ Hid (Below W.heap.size W wr)) (fun i _ => g.ss.l.length - (intOf i).toNat)
  case atStart => exact ⟨0, Nat.zero_le _, rfl, HD.out, ext_refl _⟩
  clear b1 bl HD
  case round =>
    obtain ⟨j, hj, rfl, HQ, HR⟩ := hrel
    have b1 := (HB.out.ext HR.out).c 1 _ rfl
    have bl := (HB.out.ext HR.out).lt
    by_cases hlt : j < g.ss.l.length
    · have hlt' : (j : Int) < g.ss.l.length := by omega
      obtain ⟨s, p1, o2, hx, hA2, hp1, hcx⟩ := (HGO.out.2.2.slc.ext HR.out).at_ hlt
      have HX := Lib.hid hx
      have d0 := hcx 0 _ rfl
      simp only [Nat.mul_one, Nat.add_zero] at d0
      clear hcx hx
      by_cases k0 : 0 ≤ s
      rotate_left
      · have f0 : decide (s ≥ 0) = false := decide_eq_false k0
        have HN := Lib.hid (secOf_step (l := l) (v := v) HX.out (fun z => k0 z.1))
        go_wp2_with fail
        first | exact ⟨⟨j + 1, by omega, by go_num, HQ.out.trans HN.out, HR.out⟩, by simp [intOf] <;> omega⟩ | (go_roundw; all_goals first | exact ⟨j + 1, by omega, by go_num, HQ.out.trans HN.out, HR.out⟩ | (simp [intOf] <;> omega))
      have f0 : decide (s ≥ 0) = true := decide_eq_true k0
      by_cases k1 : s < (l.length : Int)
      rotate_left
      · have f1 : decide (s < (l.length : Int)) = false := decide_eq_false k1
        have HN := Lib.hid (secOf_step (l := l) (v := v) HX.out (fun z => k1 z.2.1))
        go_wp2_with fail
        first | exact ⟨⟨j + 1, by omega, by go_num, HQ.out.trans HN.out, HR.out⟩, by simp [intOf] <;> omega⟩ | (go_roundw; all_goals first | exact ⟨j + 1, by omega, by go_num, HQ.out.trans HN.out, HR.out⟩ | (simp [intOf] <;> omega))
      have f1 : decide (s < (l.length : Int)) = true := decide_eq_true k1
      obtain ⟨x, x1, o3, hx, hA3, hxb, hcx⟩ := (HS.out.ext HR.out).at_ (k := s.toNat) (by omega)
      have x2 := hcx 2 _ rfl
      have HXO := Lib.hid ((HSO.out x (List.mem_of_getElem? hx)).ext HR.out)
      have HV := Lib.hid (volsAt_of hx)
      subst hA3
      clear hcx hx
      go_wp2_with fail
      cases hr : x.vs.l.any (· == v)
      · have HN := Lib.hid (secOf_step (l := l) (v := v) HX.out (fun z => by have := z.2.2; rw [HV.out, hr] at this; cases this))
        refine (contains_at false hr rfl HXO.out.2.2.slc HXO.out.2.2.len).mono ?_
        rintro e w1 ⟨rfl, B⟩
        have HR1 := Lib.hid (ext_trans HR.out B)
        clear b1 bl d0 x2 hr
        try rw [← hA2]
        clear hA2
        go_wp2_with fail
        first | exact ⟨⟨j + 1, by omega, by go_num, HQ.out.trans HN.out, HR1.out⟩, by simp [intOf] <;> omega⟩ | (go_roundw; all_goals first | exact ⟨j + 1, by omega, by go_num, HQ.out.trans HN.out, HR1.out⟩ | (simp [intOf] <;> omega))
      · have HN := Lib.hid (secOf_hit (l := l) (v := v) HX.out ⟨k0, k1, by rw [HV.out]; exact hr⟩)
        refine (contains_at true hr rfl HXO.out.2.2.slc HXO.out.2.2.len).mono ?_
        rintro e w1 ⟨rfl, B⟩
        have HR1 := Lib.hid (ext_trans HR.out B)
        clear b1 bl d0 x2 hr
        go_wp2_with fail
        go_ret2
        rw [HQ.out, HN.out]
        exact ⟨rfl, ext_trans HE.out HR1.out⟩
    · have hlt' : decide ((j : Int) < g.ss.l.length) = false := decide_eq_false (by omega)
      have hd : g.ss.l.drop j = [] := List.drop_eq_nil_of_le (by omega)
      rw [hd] at HQ
      clear hd
      go_wp2_with fail
      go_ret2
      rw [HQ.out]
      exact ⟨rfl, ext_trans HE.out HR.out⟩
theorem secIn_eq (t : Tab) (k v : Int) : secIn t k v = secAtC t.ss.l t.cs.l k v := rfl
set_option maxHeartbeats 1000000 in
theorem asec_any (t : Tab) (q v : Int) (w : World) (ht : Tab.ok w t) : Calls Tryz.prog 40 #[t.v, .int .i64 q, .int .i64 v] w (SecR w (secIn t q v)) := by
  have E := ext_alloc (ext_refl w) (.cells #[.int .i64 t.n, .slice t.ss.A t.ss.l.length t.ss.c, .slice t.cs.A t.cs.l.length t.cs.c, .slice t.ws.A t.ws.l.length t.ws.c, .slice t.ms.A t.ms.l.length t.ms.c, .slice t.ks.A t.ks.l.length t.ks.c] 28)
  have HT := Lib.hid (ht.ext E)
  have HE := Lib.hid E
  clear ht E
  go_enter Tryz.func40, Tryz.ntmps40
  go_wp2_with fail
  refine (csec_any none 0 0 t.ss.A t.ss.c t.ss.l t.cs.A t.cs.c t.cs.l q v _ HT.out.1.slc HT.out.1.len (fun x hx => HT.out.1.all hx) HT.out.2.1.slc HT.out.2.1.len (fun x hx => HT.out.2.1.all hx)).mono ?_
  rintro e w1 ⟨rfl, B⟩
  go_wp2_with fail
  go_ret2
  exact ⟨rfl, ext_trans HE.out B⟩
end Go.Proofs.YtilocjliplmmpaaGreat
