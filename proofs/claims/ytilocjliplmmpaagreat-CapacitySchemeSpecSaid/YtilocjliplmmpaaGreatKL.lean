/- Small contracts: is a number in a list; Few. -/
import Derived.Test.YtilocjliplmmpaaGreatHJ
set_option linter.unusedSimpArgs false
set_option linter.unusedVariables false
namespace Go.Proofs.YtilocjliplmmpaaGreat
open Go.RowKit
theorem take_step {α : Type} {p : α → Prop} {l : List α} {k : Nat} {x : α} (h : ∀ y ∈ l.take k, p y) (hx : l[k]? = some x) (hp : p x) : ∀ y ∈ l.take (k + 1), p y := by
  rw [List.take_add_one, hx]
  intro y hy
  rcases List.mem_append.1 hy with hy | hy
  · exact h y hy
  · simp at hy; subst hy; exact hp
theorem take_end {α : Type} {p : α → Prop} {l : List α} {k : Nat} (h : ∀ y ∈ l.take k, p y) (hk : l.length ≤ k) : ∀ y ∈ l, p y := by rwa [List.take_of_length_le hk] at h
theorem any_step {α : Type} {p : α → Bool} {l : List α} {k : Nat} {x : α} (hx : l[k]? = some x) (hp : p x = false) : (l.drop k).any p = (l.drop (k + 1)).any p := by
  obtain ⟨hk, rfl⟩ := List.getElem?_eq_some_iff.1 hx
  rw [List.drop_eq_getElem_cons hk, List.any_cons, hp, Bool.false_or]
theorem any_hitD {α : Type} {p : α → Bool} {l : List α} {k : Nat} {x : α} (hx : l[k]? = some x) (hp : p x = true) : (l.drop k).any p = true := by
  obtain ⟨hk, rfl⟩ := List.getElem?_eq_some_iff.1 hx
  rw [List.drop_eq_getElem_cons hk, List.any_cons, hp, Bool.true_or]
set_option maxHeartbeats 2000000 in
theorem index_int (v : Int) (A : Option Addr) (c : Nat) (l : List Int) (w : World) (ha : Slc w ic 1 A l) (hn : l.length ≤ maxLen) :
    Calls Tryz.prog 71 #[.slice A l.length c, .int .i64 v] w fun e w' => (∃ r : Int, e = .returned (.int .i64 r) ∧ (decide (r ≥ 0) = l.any (· == v))) ∧ Below w.heap.size w w' := by
  have HA := Lib.hid ha
  clear ha
  unfold maxLen at hn
  go_enter Tryz.func71, Tryz.ntmps71
  go_wp2_with fail
  go_loopw [8] (fun i wr => ∃ k : Nat, k ≤ l.length ∧ i = .int .i64 k ∧ Hid (l.any (· == v) = (l.drop k).any (· == v)) ∧ Hid (Below w.heap.size w wr)) (fun i _ => l.length - (intOf i).toNat)
  case atStart => exact ⟨0, Nat.zero_le _, rfl, rfl, ext_refl _⟩
  case round =>
    obtain ⟨k, hk, rfl, HQ, HB⟩ := hrel
    by_cases hlt : k < l.length
    · obtain ⟨x, b1, o1, hx, rfl, hb1, hc⟩ := (HA.out.ext HB.out).at_ hlt
      have HX := Lib.hid hx
      have c0 := hc 0 _ rfl
      simp only [Nat.mul_one, Nat.add_zero] at c0
      have hlt' : (k : Int) < l.length := by omega
      clear hc hx
      by_cases h : x = v
      · have e1 : (v == x) = true := by simp [h]
        have HR : Hid ((l.drop k).any (· == v) = true) := any_hitD HX.out (by simp [h])
        go_wp2_with fail
        go_ret
        exact ⟨⟨_, rfl, by rw [HQ.out, HR.out]; simp⟩, HB.out⟩
      · have e1 : (v == x) = false := by simp; exact fun q => h q.symm
        have HR : Hid ((l.drop k).any (· == v) = (l.drop (k + 1)).any (· == v)) := any_step HX.out (by simp [h])
        go_wp2_with fail
        first
          | exact ⟨⟨k + 1, by omega, by go_num, HQ.out.trans HR.out, HB.out⟩, by simp [intOf] <;> omega⟩
          | (go_roundw
             case rel => exact ⟨k + 1, by omega, by go_num, HQ.out.trans HR.out, HB.out⟩
             case measure => simp [intOf] <;> omega)
    · have hlt' : decide ((k : Int) < l.length) = false := decide_eq_false (by omega)
      have hd : l.drop k = [] := List.drop_eq_nil_of_le (by omega)
      rw [hd] at HQ
      go_wp2_with fail
      go_ret
      exact ⟨⟨_, rfl, by rw [HQ.out]; simp⟩, HB.out⟩
theorem contains_int (v : Int) (A : Option Addr) (c : Nat) (l : List Int) (w : World) (ha : Slc w ic 1 A l) (hn : l.length ≤ maxLen) : Calls Tryz.prog 33 #[.slice A l.length c, .int .i64 v] w (RetB w (l.any (· == v))) := by
  have HI := Lib.hid (index_int v A c l w ha hn)
  clear ha hn
  go_enter Tryz.func33, Tryz.ntmps33
  go_wp2_with fail
  refine HI.out.mono ?_
  rintro e w1 ⟨⟨r, rfl, hr⟩, B⟩
  have HR := Lib.hid hr
  clear HI hr
  go_wp2_with fail
  go_ret
  exact ⟨ret_bool HR.out, B⟩
theorem contains_at {v : Int} {A : Option Addr} {c n : Nat} {l : List Int} {w : World} (r : Bool) (hr : l.any (· == v) = r) (hn' : n = l.length) (ha : Slc w ic 1 A l) (hn : l.length ≤ maxLen) : Calls Tryz.prog 33 #[.slice A n c, .int .i64 v] w (RetB w r) := by
  subst hr hn'; exact contains_int v A c l w ha hn
set_option maxHeartbeats 2000000 in
theorem has_int (v : Int) (A : Option Addr) (c : Nat) (l : List Int) (w : World) (ha : Slc w ic 1 A l) (hn : l.length ≤ maxLen) : Calls Tryz.prog 117 #[.slice A l.length c, .int .i64 v] w (RetB w (l.any (· == v))) := by
  have HA := Lib.hid ha
  clear ha
  unfold maxLen at hn
  go_enter Tryz.func117, Tryz.ntmps117
  go_wp2_with fail
  go_loopw [5] (fun i wr => ∃ k : Nat, k ≤ l.length ∧ i = .int .i64 k ∧ Hid (l.any (· == v) = (l.drop k).any (· == v)) ∧ Hid (Below w.heap.size w wr)) (fun i _ => l.length - (intOf i).toNat)
  case atStart => exact ⟨0, Nat.zero_le _, rfl, rfl, ext_refl _⟩
  case round =>
    obtain ⟨k, hk, rfl, HQ, HB⟩ := hrel
    by_cases hlt : k < l.length
    · obtain ⟨x, b1, o1, hx, rfl, hb1, hc⟩ := (HA.out.ext HB.out).at_ hlt
      have HX := Lib.hid hx
      have c0 := hc 0 _ rfl
      simp only [Nat.mul_one, Nat.add_zero] at c0
      have hlt' : (k : Int) < l.length := by omega
      clear hc hx
      by_cases h : x = v
      · have e1 : (x == v) = true := by simp [h]
        have HR : Hid ((l.drop k).any (· == v) = true) := any_hitD HX.out (by simp [h])
        go_wp2_with fail
        go_ret
        exact ⟨ret_bool (by rw [HQ.out, HR.out]), HB.out⟩
      · have e1 : (x == v) = false := by simp [h]
        have HR : Hid ((l.drop k).any (· == v) = (l.drop (k + 1)).any (· == v)) := any_step HX.out (by simp [h])
        go_wp2_with fail
        first
          | exact ⟨⟨k + 1, by omega, by go_num, HQ.out.trans HR.out, HB.out⟩, by simp [intOf] <;> omega⟩
          | (go_roundw
             case rel => exact ⟨k + 1, by omega, by go_num, HQ.out.trans HR.out, HB.out⟩
             case measure => simp [intOf] <;> omega)
    · have hlt' : decide ((k : Int) < l.length) = false := decide_eq_false (by omega)
      have hd : l.drop k = [] := List.drop_eq_nil_of_le (by omega)
      rw [hd] at HQ
      go_wp2_with fail
      go_ret
      exact ⟨ret_bool (by rw [HQ.out]; rfl), HB.out⟩
theorem has_at {v : Int} {A : Option Addr} {c n : Nat} {l : List Int} {w : World} (r : Bool) (hr : l.any (· == v) = r) (hn' : n = l.length) (ha : Slc w ic 1 A l) (hn : l.length ≤ maxLen) : Calls Tryz.prog 117 #[.slice A n c, .int .i64 v] w (RetB w r) := by
  subst hr hn'; exact has_int v A c l w ha hn
/-- Small tables. -/
structure FewT (l : List Sec) (cs : List Cfg) : Prop where
  s : ∀ x ∈ l, x.vs.l.length ≤ 10
  c : ∀ x ∈ cs, x.ss.l.length ≤ 10
def FewR (w : World) (P : Prop) (e : Ending) (w' : World) : Prop := ∃ r : Bool, e = .returned (.bool r) ∧ (r = true → P) ∧ Below w.heap.size w w'
set_option maxRecDepth 100000 in
set_option maxHeartbeats 4000000 in
theorem few10_any (A : Option Addr) (n c : Nat) (sA : Option Addr) (sc : Nat) (l : List Sec) (cA : Option Addr) (cc : Nat) (cs : List Cfg) (w : World) (hs : Slc w Sec.cells 5 sA l) (hsl : l.length ≤ maxLen) (hc : Slc w Cfg.cells 3 cA cs) (hcl : cs.length ≤ maxLen) :
    Calls Tryz.prog 21 #[aspV A n c sA l.length sc cA cs.length cc] w (FewR w (FewT l cs)) := by
  obtain ⟨W, hW⟩ : ∃ W, w.alloc (.cells #[.slice A n c, .slice sA l.length sc, .slice cA cs.length cc, .slice none 0 0, .slice none 0 0, .slice none 0 0, .slice none 0 0, .slice none 0 0] 83) = W := ⟨_, rfl⟩
  have HB : Hid (Blk W w.heap.size [.slice A n c, .slice sA l.length sc, .slice cA cs.length cc, .slice none 0 0, .slice none 0 0, .slice none 0 0, .slice none 0 0, .slice none 0 0]) := by rw [← hW]; exact Blk.newH w [.slice A n c, .slice sA l.length sc, .slice cA cs.length cc, .slice none 0 0, .slice none 0 0, .slice none 0 0, .slice none 0 0, .slice none 0 0] 83 w.heap.size rfl
  have HE : Hid (Below w.heap.size w W) := by rw [← hW]; exact ext_alloc (ext_refl w) _
  have HS := Lib.hid (hs.ext HE.out)
  have HC := Lib.hid (hc.ext HE.out)
  have b0 := HB.out.c 0 _ rfl
  have b1 := HB.out.c 1 _ rfl
  have b2 := HB.out.c 2 _ rfl
  have bl := HB.out.lt
  clear hs hc
  unfold maxLen at hsl hcl
  go_enter Tryz.func21, Tryz.ntmps21
  go_wp2_with fail
  clear hW
  go_loopw [3] (fun i wr => ∃ k : Nat, k ≤ l.length ∧ i = .int .i64 k ∧ Hid (∀ x ∈ l.take k, x.vs.l.length ≤ 10) ∧ wr = W) (fun i _ => l.length - (intOf i).toNat)
  case atStart => exact ⟨0, Nat.zero_le _, rfl, (by simp [Hid]), rfl⟩
  case round =>
    obtain ⟨k, hk, rfl, HQ, rfl⟩ := hrel
    by_cases hlt : k < l.length
    · obtain ⟨x, q1, o1, hx, hA, hb1, hcx⟩ := HS.out.at_ hlt
      subst hA
      have HX := Lib.hid hx
      have c2 := hcx 2 _ rfl
      have hlt' : (k : Int) < l.length := by omega
      clear hcx hx
      by_cases h : x.vs.l.length ≤ 10
      · have e1 : decide ((x.vs.l.length : Int) > 10) = false := decide_eq_false (by omega)
        have HR : Hid (∀ y ∈ l.take (k + 1), y.vs.l.length ≤ 10) := take_step HQ.out HX.out h
        go_wp2_with fail
        first
          | exact ⟨⟨k + 1, by omega, by go_num, HR.out, by first | rfl | trivial⟩, by simp [intOf] <;> omega⟩
          | (go_roundw
             case rel => exact ⟨k + 1, by omega, by go_num, HR.out, by first | rfl | trivial⟩
             case measure => simp [intOf] <;> omega)
      · have e1 : decide ((x.vs.l.length : Int) > 10) = true := decide_eq_true (by omega)
        go_wp2_with fail
        go_ret
        exact ⟨false, rfl, by simp, HE.out⟩
    · have hlt' : decide ((k : Int) < l.length) = false := decide_eq_false (by omega)
      have HQ1 : Hid (∀ y ∈ l, y.vs.l.length ≤ 10) := take_end HQ.out (by omega)
      clear HQ hk
      go_wp2_with fail
      clear hlt' hlt
      go_loopw [4] (fun i wr2 => ∃ k : Nat, k ≤ cs.length ∧ i = .int .i64 k ∧ Hid (∀ x ∈ cs.take k, x.ss.l.length ≤ 10) ∧ wr2 = wr) (fun i _ => cs.length - (intOf i).toNat)
      case atStart => exact ⟨0, Nat.zero_le _, rfl, (by simp [Hid]), rfl⟩
      case round =>
        obtain ⟨k, hk, rfl, HQ, rfl⟩ := hrel
        by_cases hlt : k < cs.length
        · obtain ⟨x, q1, o1, hx, hA, hb1, hcx⟩ := HC.out.at_ hlt
          subst hA
          have HX := Lib.hid hx
          have c2 := hcx 2 _ rfl
          have hlt' : (k : Int) < cs.length := by omega
          clear hcx hx
          by_cases h : x.ss.l.length ≤ 10
          · have e1 : decide ((x.ss.l.length : Int) > 10) = false := decide_eq_false (by omega)
            have HR : Hid (∀ y ∈ cs.take (k + 1), y.ss.l.length ≤ 10) := take_step HQ.out HX.out h
            go_wp2_with fail
            first
              | exact ⟨⟨k + 1, by omega, by go_num, HR.out, by first | rfl | trivial⟩, by simp [intOf] <;> omega⟩
              | (go_roundw
                 case rel => exact ⟨k + 1, by omega, by go_num, HR.out, by first | rfl | trivial⟩
                 case measure => simp [intOf] <;> omega)
          · have e1 : decide ((x.ss.l.length : Int) > 10) = true := decide_eq_true (by omega)
            go_wp2_with fail
            go_ret
            exact ⟨false, rfl, by simp, HE.out⟩
        · have hlt' : decide ((k : Int) < cs.length) = false := decide_eq_false (by omega)
          have HQ2 : Hid (∀ y ∈ cs, y.ss.l.length ≤ 10) := take_end HQ.out (by omega)
          clear HQ hk
          go_wp2_with fail
          all_goals go_ret
          all_goals exact ⟨_, rfl, fun _ => ⟨HQ1.out, HQ2.out⟩, HE.out⟩
end Go.Proofs.YtilocjliplmmpaaGreat
/- Few14, Few19, SameChange, Same. -/
set_option linter.unusedSimpArgs false
set_option linter.unusedVariables false
namespace Go.Proofs.YtilocjliplmmpaaGreat
open Go.RowKit
theorem all_stepD {α : Type} {p : α → Bool} {l : List α} {k : Nat} {x : α} (hx : l[k]? = some x) (hp : p x = true) : (l.drop k).all p = (l.drop (k + 1)).all p := all_yes hx hp
theorem all_noD {α : Type} {p : α → Bool} {l : List α} {k : Nat} {x : α} (hx : l[k]? = some x) (hp : p x = false) : (l.drop k).all p = false := by
  obtain ⟨hk, rfl⟩ := List.getElem?_eq_some_iff.1 hx
  rw [List.drop_eq_getElem_cons hk, List.all_cons, hp, Bool.false_and]
set_option maxRecDepth 100000 in
set_option maxHeartbeats 4000000 in
theorem few19_any (A : Option Addr) (c : Nat) (l : List Chg) (w : World) (hs : Slc w Chg.cells 3 A l) (hsl : l.length ≤ maxLen) : Calls Tryz.prog 7 #[.agg #[.slice A l.length c]] w (FewR w (l.length ≤ 10 ∧ ∀ x ∈ l, x.ms.l.length ≤ 10)) := by
  obtain ⟨W, hW⟩ : ∃ W, w.alloc (.cells #[.slice A l.length c] 31) = W := ⟨_, rfl⟩
  have HB : Hid (Blk W w.heap.size [.slice A l.length c]) := by rw [← hW]; exact Blk.newH w _ 31 w.heap.size rfl
  have HE : Hid (Below w.heap.size w W) := by rw [← hW]; exact ext_alloc (ext_refl w) _
  have HS := Lib.hid (hs.ext HE.out)
  have b0 := HB.out.c 0 _ rfl
  have bl := HB.out.lt
  clear hs
  unfold maxLen at hsl
  go_enter Tryz.func7, Tryz.ntmps7
  go_wp2_with fail
  clear hW
  go_loopw [3] (fun i wr => ∃ k : Nat, k ≤ l.length ∧ i = .int .i64 k ∧ Hid (∀ x ∈ l.take k, x.ms.l.length ≤ 10) ∧ wr = W) (fun i _ => l.length - (intOf i).toNat)
  case atStart => exact ⟨0, Nat.zero_le _, rfl, (by simp [Hid]), rfl⟩
  case round =>
    obtain ⟨k, hk, rfl, HQ, rfl⟩ := hrel
    by_cases hlt : k < l.length
    · obtain ⟨x, q1, o1, hx, rfl, hb1, hcx⟩ := HS.out.at_ hlt
      have HX := Lib.hid hx
      have c2 := hcx 2 _ rfl
      have hlt' : (k : Int) < l.length := by omega
      clear hcx hx
      by_cases h : x.ms.l.length ≤ 10
      · have e1 : decide ((x.ms.l.length : Int) > 10) = false := decide_eq_false (by omega)
        have HR : Hid (∀ y ∈ l.take (k + 1), y.ms.l.length ≤ 10) := take_step HQ.out HX.out h
        go_wp2_with fail
        first | exact ⟨⟨k + 1, by omega, by go_num, HR.out, by first | rfl | trivial⟩, by simp [intOf] <;> omega⟩ | (go_roundw; all_goals first | exact ⟨k + 1, by omega, by go_num, HR.out, by first | rfl | trivial⟩ | (simp [intOf] <;> omega))
      · have e1 : decide ((x.ms.l.length : Int) > 10) = true := decide_eq_true (by omega)
        go_wp2_with fail
        go_ret
        exact ⟨false, rfl, by simp, HE.out⟩
    · have hlt' : decide ((k : Int) < l.length) = false := decide_eq_false (by omega)
      have HQ1 : Hid (∀ y ∈ l, y.ms.l.length ≤ 10) := take_end HQ.out (by omega)
      clear HQ hk
      go_wp2_with fail
      all_goals go_ret
      all_goals exact ⟨_, rfl, fun q => ⟨by simp at q; omega, HQ1.out⟩, HE.out⟩
def SameB (a b : List Int) : Bool := (List.zip a b).all (fun p => p.1 == p.2)
set_option maxRecDepth 100000 in
set_option maxHeartbeats 4000000 in
theorem sameC_any (a b : Chg) (w : World) (ha : Chg.ok w a) (hb : Chg.ok w b) : Calls Tryz.prog 20 #[a.v, b.v] w (RetB w (sameC a b)) := by
  obtain ⟨W, hW⟩ : ∃ W, (w.alloc (.cells #[.int .i64 a.f, .int .i64 a.cfg, .slice a.ms.A a.ms.l.length a.ms.c] 34)).alloc (.cells #[.int .i64 b.f, .int .i64 b.cfg, .slice b.ms.A b.ms.l.length b.ms.c] 34) = W := ⟨_, rfl⟩
  have HB1 : Hid (Blk W w.heap.size a.cells) := by rw [← hW]; exact (Blk.newH w a.cells 34 w.heap.size rfl).alloc _
  have HB2 : Hid (Blk W (w.heap.size + 1) b.cells) := by rw [← hW]; exact Blk.newH (w.alloc _) b.cells 34 (w.heap.size + 1) (by simp)
  have HE : Hid (Below w.heap.size w W) := by rw [← hW]; exact ext_alloc (ext_alloc (ext_refl w) _) _
  have HA := Lib.hid (ha.ext HE.out).slc
  have HB := Lib.hid (hb.ext HE.out).slc
  have hla := (ha.ext HE.out).len
  have hlb := (hb.ext HE.out).len
  unfold maxLen at hla hlb
  have a0 := HB1.out.c 0 _ rfl
  have a1 := HB1.out.c 1 _ rfl
  have a2 := HB1.out.c 2 _ rfl
  have b0 := HB2.out.c 0 _ rfl
  have b1 := HB2.out.c 1 _ rfl
  have b2 := HB2.out.c 2 _ rfl
  have bl := HB2.out.lt
  have HD : Hid (sameC a b = (a.f == b.f && a.cfg == b.cfg && (decide (a.ms.l.length = b.ms.l.length) && (List.zip a.ms.l b.ms.l).all (fun p => p.1 == p.2)))) := rfl
  clear ha hb
  go_enter Tryz.func20, Tryz.ntmps20
  by_cases h1 : a.f = b.f
  rotate_left
  · have e1 : (a.f != b.f) = true := by simpa using h1
    have HR : Hid (sameC a b = false) := by rw [HD.out]; simp [Hid, h1]
    clear h1
    go_wp2_with fail
    go_ret
    rw [HR.out]
    exact ⟨rfl, HE.out⟩
  have e1 : (a.f != b.f) = false := by simpa using h1
  have H1 : Hid ((a.f == b.f) = true) := by simpa [Hid] using h1
  clear h1
  by_cases h2 : a.cfg = b.cfg
  rotate_left
  · have e2 : (a.cfg != b.cfg) = true := by simpa using h2
    have HR : Hid (sameC a b = false) := by rw [HD.out]; simp [Hid, h2]
    clear h2
    go_wp2_with fail
    go_ret
    rw [HR.out]
    exact ⟨rfl, HE.out⟩
  have e2 : (a.cfg != b.cfg) = false := by simpa using h2
  have H2 : Hid ((a.cfg == b.cfg) = true) := by simpa [Hid] using h2
  clear h2
  by_cases h3 : a.ms.l.length = b.ms.l.length
  rotate_left
  · have e3 : ((a.ms.l.length : Int) != b.ms.l.length) = true := by simp; omega
    have HR : Hid (sameC a b = false) := by rw [HD.out]; simp [Hid, h3]
    clear h3
    go_wp2_with fail
    go_ret
    rw [HR.out]
    exact ⟨rfl, HE.out⟩
  have e3 : ((a.ms.l.length : Int) != b.ms.l.length) = false := by simp; omega
  have HL := Lib.hid h3
  have HZ : Hid (sameC a b = (List.zip a.ms.l b.ms.l).all (fun p => p.1 == p.2)) := by rw [HD.out, H1.out, H2.out]; simp [Hid, h3]
  clear h3
  go_wp2_with fail
  clear hW
  go_loopw [5] (fun i wr => ∃ k : Nat, k ≤ a.ms.l.length ∧ i = .int .i64 k ∧ Hid (sameC a b = ((List.zip a.ms.l b.ms.l).drop k).all (fun p => p.1 == p.2)) ∧ ∃ n, wr = W.drewN n) (fun i _ => a.ms.l.length - (intOf i).toNat)
  case atStart => exact ⟨0, Nat.zero_le _, rfl, HZ.out, 0, rfl⟩
  case round =>
    obtain ⟨k, hk, rfl, HQ, n, rfl⟩ := hrel
    by_cases hlt : k < a.ms.l.length
    · obtain ⟨x, q1, o1, hx, hA, hb1, hcx⟩ := HA.out.at_ hlt
      obtain ⟨y, q2, o2, hy, hB, hb2, hcy⟩ := HB.out.at_ (k := k) (by have := HL.out; omega)
      have HX : Hid ((List.zip a.ms.l b.ms.l)[k]? = some (x, y)) := by
        simp only [Hid, List.getElem?_zip_eq_some]; exact ⟨hx, hy⟩
      have c0 := hcx 0 _ rfl
      have d0 := hcy 0 _ rfl
      simp only [Nat.mul_one, Nat.add_zero] at c0 d0
      have hlt' : (k : Int) < a.ms.l.length := by omega
      have hlt2 : (k : Int) < b.ms.l.length := by have := HL.out; omega
      rw [hA] at a2
      rw [hB] at b2
      clear hcx hcy hx hy
      by_cases h : x = y
      · have e4 : (x != y) = false := by simpa using h
        have HR := Lib.hid (all_stepD (p := fun p : Int × Int => p.1 == p.2) HX.out (by simpa using h))
        clear h
        go_wp2_with fail
        go_quiet (fail)
        go_wp2_with fail
        first | exact ⟨⟨k + 1, by omega, by go_num, HQ.out.trans HR.out, _, rfl⟩, by simp [intOf] <;> omega⟩ | (go_roundw; all_goals first | exact ⟨k + 1, by omega, by go_num, HQ.out.trans HR.out, _, rfl⟩ | (simp [intOf] <;> omega))
      · have e4 : (x != y) = true := by simpa using h
        have HR := Lib.hid (all_noD (p := fun p : Int × Int => p.1 == p.2) HX.out (by simpa using h))
        clear h
        go_wp2_with fail
        go_quiet (fail)
        go_wp2_with fail
        go_ret
        exact ⟨ret_bool (HQ.out.trans HR.out).symm, ext_drewN (ext_drewN HE.out _) _⟩
    · have hlt' : decide ((k : Int) < a.ms.l.length) = false := decide_eq_false (by omega)
      have hd : (List.zip a.ms.l b.ms.l).drop k = [] := List.drop_eq_nil_of_le (by rw [List.length_zip]; omega)
      rw [hd] at HQ
      clear hd
      go_wp2_with fail
      go_ret
      exact ⟨ret_bool HQ.out.symm, ext_drewN HE.out _⟩
theorem sameC_at {a b : Chg} {w : World} (r : Bool) (hr : sameC a b = r) (ha : Chg.ok w a) (hb : Chg.ok w b) : Calls Tryz.prog 20 #[a.v, b.v] w (RetB w r) := by
  subst hr; exact sameC_any a b w ha hb
end Go.Proofs.YtilocjliplmmpaaGreat
/- Same. -/
set_option linter.unusedSimpArgs false
set_option linter.unusedVariables false
namespace Go.Proofs.YtilocjliplmmpaaGreat
open Go.RowKit
set_option maxRecDepth 100000 in
set_option maxHeartbeats 8000000 in
theorem sameS_any (A B : Option Addr) (c d : Nat) (l m : List Chg) (w : World) (ha : Slc w Chg.cells 3 A l) (hal : l.length ≤ maxLen) (hao : ∀ x ∈ l, Chg.ok w x) (hb : Slc w Chg.cells 3 B m) (hbl : m.length ≤ maxLen) (hbo : ∀ x ∈ m, Chg.ok w x) :
    Calls Tryz.prog 12 #[.agg #[.slice A l.length c], .agg #[.slice B m.length d]] w (RetB w (sameS l m)) := by
  obtain ⟨W, hW⟩ : ∃ W, (w.alloc (.cells #[.slice A l.length c] 31)).alloc (.cells #[.slice B m.length d] 31) = W := ⟨_, rfl⟩
  have HB1 : Hid (Blk W w.heap.size [.slice A l.length c]) := by rw [← hW]; exact (Blk.newH w [.slice A l.length c] 31 w.heap.size rfl).alloc _
  have HB2 : Hid (Blk W (w.heap.size + 1) [.slice B m.length d]) := by rw [← hW]; exact Blk.newH (w.alloc _) [.slice B m.length d] 31 (w.heap.size + 1) (by simp)
  have HE : Hid (Below w.heap.size w W) := by rw [← hW]; exact ext_alloc (ext_alloc (ext_refl w) _) _
  have HA := Lib.hid (ha.ext HE.out)
  have HB := Lib.hid (hb.ext HE.out)
  have HAO : Hid (∀ x ∈ l, Chg.ok W x) := fun x hx => (hao x hx).ext HE.out
  have HBO : Hid (∀ x ∈ m, Chg.ok W x) := fun x hx => (hbo x hx).ext HE.out
  unfold maxLen at hal hbl
  have a0 := HB1.out.c 0 _ rfl
  have b0 := HB2.out.c 0 _ rfl
  have bl := HB2.out.lt
  clear ha hb hao hbo
  go_enter Tryz.func12, Tryz.ntmps12
  by_cases h3 : l.length = m.length
  rotate_left
  · have e3 : ((l.length : Int) != m.length) = true := by simp; omega
    have HR : Hid (sameS l m = false) := by simp [Hid, sameS, h3]
    clear h3
    go_wp2_with fail
    go_ret
    rw [HR.out]
    exact ⟨rfl, HE.out⟩
  have e3 : ((l.length : Int) != m.length) = false := by simp; omega
  have HL := Lib.hid h3
  have HZ : Hid (sameS l m = (List.zip l m).all (fun p => sameC p.1 p.2)) := by simp [Hid, sameS, h3]
  clear h3
  go_wp2_with fail
  clear hW
  go_loopw [5] (fun i wr => ∃ k : Nat, k ≤ l.length ∧ i = .int .i64 k ∧ Hid (sameS l m = ((List.zip l m).drop k).all (fun p => sameC p.1 p.2)) ∧ Hid (Below W.heap.size W wr)) (fun i _ => l.length - (intOf i).toNat)
  case atStart => exact ⟨0, Nat.zero_le _, rfl, HZ.out, ext_refl _⟩
  clear a0 b0 bl
  case round =>
    obtain ⟨k, hk, rfl, HQ, HR⟩ := hrel
    have a0 := (HB1.out.ext HR.out).c 0 _ rfl
    have b0 := (HB2.out.ext HR.out).c 0 _ rfl
    have bl := (HB2.out.ext HR.out).lt
    by_cases hlt : k < l.length
    · obtain ⟨x, q1, o1, hx, rfl, hb1, hcx⟩ := (HA.out.ext HR.out).at_ hlt
      obtain ⟨y, q2, o2, hy, rfl, hb2, hcy⟩ := (HB.out.ext HR.out).at_ (k := k) (by have := HL.out; omega)
      have HX : Hid ((List.zip l m)[k]? = some (x, y)) := by
        simp only [Hid, List.getElem?_zip_eq_some]; exact ⟨hx, hy⟩
      have HXO := Lib.hid ((HAO.out x (List.mem_of_getElem? hx)).ext HR.out)
      have HYO := Lib.hid ((HBO.out y (List.mem_of_getElem? hy)).ext HR.out)
      have c0 := hcx 0 _ rfl
      have c1 := hcx 1 _ rfl
      have c2 := hcx 2 _ rfl
      have d0 := hcy 0 _ rfl
      have d1 := hcy 1 _ rfl
      have d2 := hcy 2 _ rfl
      simp only [Nat.add_zero] at c0 d0
      have hlt' : (k : Int) < l.length := by omega
      have hlt2 : (k : Int) < m.length := by have := HL.out; omega
      clear hcx hcy hx hy
      obtain ⟨r, hr⟩ : ∃ r, sameC x y = r := ⟨_, rfl⟩
      have HC := Lib.hid hr
      clear hr
      go_wp2_with fail
      have SS := Lib.hid (show ∀ w', Below wr.heap.size wr w' → (fun w' => Below wr.heap.size wr w' ∧ w'.cell? ⟨w.heap.size, 0, none⟩ = some (.slice (some ⟨q1, o1, none⟩) l.length c) ∧ w'.cell? ⟨w.heap.size + 1, 0, none⟩ = some (.slice (some ⟨q2, o2, none⟩) m.length d) ∧ w'.cell? ⟨q1, o1 + k * 3, none⟩ = some (.int .i64 x.f) ∧ w'.cell? ⟨q1, o1 + k * 3 + 1, none⟩ = some (.int .i64 x.cfg) ∧ w'.cell? ⟨q1, o1 + k * 3 + 2, none⟩ = some (.slice x.ms.A x.ms.l.length x.ms.c) ∧ w'.cell? ⟨q2, o2 + k * 3, none⟩ = some (.int .i64 y.f) ∧ w'.cell? ⟨q2, o2 + k * 3 + 1, none⟩ = some (.int .i64 y.cfg) ∧ w'.cell? ⟨q2, o2 + k * 3 + 2, none⟩ = some (.slice y.ms.A y.ms.l.length y.ms.c)) w' from fun w' h => ⟨h, ((HB1.out.ext HR.out).ext h).c 0 _ rfl, ((HB2.out.ext HR.out).ext h).c 0 _ rfl, (h.cell (p := ⟨q1, o1 + k * 3, none⟩) hb1).trans c0, (h.cell (p := ⟨q1, o1 + k * 3 + 1, none⟩) hb1).trans c1, (h.cell (p := ⟨q1, o1 + k * 3 + 2, none⟩) hb1).trans c2, (h.cell (p := ⟨q2, o2 + k * 3, none⟩) hb2).trans d0, (h.cell (p := ⟨q2, o2 + k * 3 + 1, none⟩) hb2).trans d1, (h.cell (p := ⟨q2, o2 + k * 3 + 2, none⟩) hb2).trans d2⟩)
      refine rg_begin (S := (fun w' => Below wr.heap.size wr w' ∧ w'.cell? ⟨w.heap.size, 0, none⟩ = some (.slice (some ⟨q1, o1, none⟩) l.length c) ∧ w'.cell? ⟨w.heap.size + 1, 0, none⟩ = some (.slice (some ⟨q2, o2, none⟩) m.length d) ∧ w'.cell? ⟨q1, o1 + k * 3, none⟩ = some (.int .i64 x.f) ∧ w'.cell? ⟨q1, o1 + k * 3 + 1, none⟩ = some (.int .i64 x.cfg) ∧ w'.cell? ⟨q1, o1 + k * 3 + 2, none⟩ = some (.slice x.ms.A x.ms.l.length x.ms.c) ∧ w'.cell? ⟨q2, o2 + k * 3, none⟩ = some (.int .i64 y.f) ∧ w'.cell? ⟨q2, o2 + k * 3 + 1, none⟩ = some (.int .i64 y.cfg) ∧ w'.cell? ⟨q2, o2 + k * 3 + 2, none⟩ = some (.slice y.ms.A y.ms.l.length y.ms.c))) 12 (by kernel_rfl) (by intro d; cases d <;> intro _ _ _ _ h <;> exact h) ?_ (fun Q7 hQ7 hN7 hHeld => ?_)
      · exact SS.out _ (ext_drew (ext_refl _))
      refine rg_take (i := 0) (some 20) (v := ?_) rfl rfl (by kernel_rfl) (by rfl) hQ7 hHeld ?_ ?_
      rotate_left
      · intro w7 hSw; (try dsimp only at hSw); go_simp; all_goals with_reducible rfl
      try simp only [Act.put, List.setIfInBounds_toArray, List.set_cons_zero, List.set_cons_succ]
      refine rg_take (i := 1) (some 21) (v := ?_) rfl rfl (by kernel_rfl) (by rfl) hQ7 hHeld ?_ ?_
      rotate_left
      · intro w7 hSw; (try dsimp only at hSw); go_simp; all_goals with_reducible rfl
      try simp only [Act.put, List.setIfInBounds_toArray, List.set_cons_zero, List.set_cons_succ]
      refine rg_take (i := 2) (some 22) (v := ?_) rfl rfl (by kernel_rfl) (by rfl) hQ7 hHeld ?_ ?_
      rotate_left
      · intro w7 hSw; (try dsimp only at hSw); go_simp; all_goals with_reducible rfl
      try simp only [Act.put, List.setIfInBounds_toArray, List.set_cons_zero, List.set_cons_succ]
      refine rg_take (i := 3) (some 23) (v := ?_) rfl rfl (by kernel_rfl) (by rfl) hQ7 hHeld ?_ ?_
      rotate_left
      · intro w7 hSw; (try dsimp only at hSw); go_simp; all_goals with_reducible rfl
      try simp only [Act.put, List.setIfInBounds_toArray, List.set_cons_zero, List.set_cons_succ]
      refine rg_take (i := 4) (some 24) (v := ?_) rfl rfl (by kernel_rfl) (by rfl) hQ7 hHeld ?_ ?_
      rotate_left
      · intro w7 hSw; (try dsimp only at hSw); go_simp; all_goals with_reducible rfl
      try simp only [Act.put, List.setIfInBounds_toArray, List.set_cons_zero, List.set_cons_succ]
      refine rg_take (i := 5) (some 25) (v := ?_) rfl rfl (by kernel_rfl) (by rfl) hQ7 hHeld ?_ ?_
      rotate_left
      · intro w7 hSw; (try dsimp only at hSw); go_simp; all_goals with_reducible rfl
      try simp only [Act.put, List.setIfInBounds_toArray, List.set_cons_zero, List.set_cons_succ]
      refine rg_take (i := 6) (some 26) (v := ?_) rfl rfl (by kernel_rfl) (by rfl) hQ7 hHeld ?_ ?_
      rotate_left
      · intro w7 hSw; (try dsimp only at hSw); go_simp; all_goals with_reducible rfl
      try simp only [Act.put, List.setIfInBounds_toArray, List.set_cons_zero, List.set_cons_succ]
      refine rg_take (i := 7) (some 27) (v := ?_) rfl rfl (by kernel_rfl) (by rfl) hQ7 hHeld ?_ ?_
      rotate_left
      · intro w7 hSw; (try dsimp only at hSw); go_simp; all_goals with_reducible rfl
      try simp only [Act.put, List.setIfInBounds_toArray, List.set_cons_zero, List.set_cons_succ]
      refine rg_take (i := 8) (some 28) (v := ?_) rfl rfl (by kernel_rfl) (by rfl) hQ7 hHeld ?_ ?_
      rotate_left
      · intro w7 hSw; (try dsimp only at hSw); go_simp; all_goals with_reducible rfl
      try simp only [Act.put, List.setIfInBounds_toArray, List.set_cons_zero, List.set_cons_succ]
      refine rg_take (i := 9) (some 29) (v := ?_) rfl rfl (by kernel_rfl) (by rfl) hQ7 hHeld ?_ ?_
      rotate_left
      · intro w7 hSw; (try dsimp only at hSw); go_simp; all_goals with_reducible rfl
      try simp only [Act.put, List.setIfInBounds_toArray, List.set_cons_zero, List.set_cons_succ]
      refine rg_one (i := 10) (by kernel_rfl) (rg_step rfl (by rfl) (fun K hK => ?_))
      go_simp
      refine (sameC_at r HC.out (HXO.out.ext hHeld.1) (HYO.out.ext hHeld.1)).mono ?_
      rintro e u1 ⟨rfl, B1⟩
      go_wp2_with fail
      refine hK.out _ _ ?_ (fun hHeld2 => ?_)
      · exact SS.out _ (ext_trans hHeld.1 B1)
      clear hHeld
      have hHeld := hHeld2
      clear hHeld2
      clear hK K
      try simp only [Act.put, List.setIfInBounds_toArray, List.set_cons_zero, List.set_cons_succ]
      refine rg_take (i := 11) (some 31) (v := ?_) rfl rfl (by kernel_rfl) (by rfl) hQ7 hHeld ?_ ?_
      rotate_left
      · intro w7 hSw; (try dsimp only at hSw); go_simp; all_goals with_reducible rfl
      try simp only [Act.put, List.setIfInBounds_toArray, List.set_cons_zero, List.set_cons_succ]
      refine rg_end (by kernel_rfl) (hN7 _ _ ?_) _
      clear hQ7 hN7 Q7
      have BX := hHeld.1
      clear SS
      have HBX := Lib.hid (ext_trans HR.out BX)
      clear a0 b0 c0 c1 c2 d0 d1 d2 BX
      cases r
      · have HN := Lib.hid (all_noD (p := fun p : Chg × Chg => sameC p.1 p.2) HX.out HC.out)
        go_wp2_with fail
        go_ret
        exact ⟨ret_bool (HQ.out.trans HN.out).symm, ext_trans HE.out HBX.out⟩
      · have HN := Lib.hid (all_stepD (p := fun p : Chg × Chg => sameC p.1 p.2) HX.out HC.out)
        go_wp2_with fail
        first | exact ⟨⟨k + 1, by omega, by go_num, HQ.out.trans HN.out, HBX.out⟩, by simp [intOf] <;> omega⟩ | (go_roundw; all_goals first | exact ⟨k + 1, by omega, by go_num, HQ.out.trans HN.out, HBX.out⟩ | (simp [intOf] <;> omega))
    · have hlt' : decide ((k : Int) < l.length) = false := decide_eq_false (by omega)
      have hd : (List.zip l m).drop k = [] := List.drop_eq_nil_of_le (by rw [List.length_zip]; omega)
      rw [hd] at HQ
      clear hd
      go_wp2_with fail
      go_ret
      exact ⟨ret_bool HQ.out.symm, ext_trans HE.out HR.out⟩
theorem sameS_at {A B : Option Addr} {n q c d : Nat} {l m : List Chg} {w : World} (r : Bool) (hr : sameS l m = r) (hn : n = l.length) (hq : q = m.length) (ha : Slc w Chg.cells 3 A l) (hal : l.length ≤ maxLen) (hao : ∀ x ∈ l, Chg.ok w x) (hb : Slc w Chg.cells 3 B m) (hbl : m.length ≤ maxLen) (hbo : ∀ x ∈ m, Chg.ok w x) :
    Calls Tryz.prog 12 #[.agg #[.slice A n c], .agg #[.slice B q d]] w (RetB w r) := by
  subst hr hn hq; exact sameS_any A B c d l m w ha hal hao hb hbl hbo
end Go.Proofs.YtilocjliplmmpaaGreat

