/- Contracts: finding a number in a list. -/
import Derived.Test.YtmnbeikhjbjpiaaD1
set_option linter.unusedSimpArgs false
set_option linter.unusedVariables false
namespace Go.Proofs.Ytmnbeikhjbjpiaa
open Go.RowKit
/-- An agreement and whether there is one. -/
def FindR (w : World) (o : Option Ag) (e : Ending) (w' : World) : Prop := ∃ x : Ag, e = .returned (.tuple #[x.v, .bool o.isSome]) ∧ x = o.getD zeroA ∧ Below w.heap.size w w'
theorem find_idx {p : Ag → Bool} {l : List Ag} {k : Int} (h : idxGo p 0 l = k) : (k < 0 ∧ l.find? p = none) ∨ ∃ (i : Nat) (x : Ag), k = i ∧ l[i]? = some x ∧ l.find? p = some x := by
  rcases idxGo_cases p 0 l with ⟨h1, h2⟩ | ⟨i, x, h1, h2, h3, h4⟩
  · left
    refine ⟨by omega, List.find?_eq_none.2 (fun x hx => by simp [h2 x hx])⟩
  · right
    refine ⟨i, x, by omega, h2, ?_⟩
    rw [List.find?_eq_some_iff_getElem]
    obtain ⟨hi, hx⟩ := List.getElem?_eq_some_iff.1 h2
    refine ⟨h3, i, hi, hx, fun j hj => ?_⟩
    have := h4 j hj l[j] (List.getElem?_eq_getElem (by omega))
    simp [this]
set_option maxHeartbeats 600000 in
theorem find_any (g : Nat) (cap1 : Value) (p : Ag → Bool) (A : Option Addr) (c : Nat) (l : List (Ag)) (w : World) (ha : Slc w Ag.cells 5 A l) (hn : l.length ≤ maxLen) (hE : Enters Try.prog g)
    (hp : ∀ (x : Ag) (W : World), x ∈ l → Below w.heap.size w W → Calls Try.prog g #[x.v, cap1] W fun e W' => e = .returned (.bool (p x)) ∧ Below W.heap.size W W') :
    Calls Try.prog 51 #[.slice A l.length c, .func (.func g) #[] #[cap1]] w (FindR w (l.find? p)) := by
  have HP := Lib.hid hp
  obtain ⟨k, hk⟩ : ∃ k, idxGo p 0 l = k := ⟨_, rfl⟩
  obtain ⟨o, ho⟩ : ∃ o, l.find? p = o := ⟨_, rfl⟩
  have HC := Lib.hid (find_idx hk)
  have HK := Lib.hid hk
  have hlo := idx_lo p l
  rw [ho]
  rw [hk] at hlo
  rw [ho] at HC
  unfold maxLen at hn
  have X := Lib.hid (Blk.new w [.int .i64 0, .int .i64 0, .int .i64 0, .int .i64 0, .int .i64 0] 26)
  have E := Lib.hid (ext_alloc (ext_refl w) (.cells #[.int .i64 0, .int .i64 0, .int .i64 0, .int .i64 0, .int .i64 0] 26))
  clear hp hk ho
  go_enter Try.func51, Try.ntmps51
  go_wp2_with fail
  refine (indexAg g cap1 p A c l _ (ha.alloc _) (by unfold maxLen; omega) hE (fun x W hx hW => HP.out x W hx (ext_trans E.out hW))).mono ?_
  rintro e w1 ⟨rfl, B⟩
  rw [HK.out]
  replace X := Lib.hid (X.out.ext B)
  replace E := Lib.hid (ext_trans E.out B)
  have S1 := Lib.hid (ha.ext E.out)
  clear B
  have c0 := X.out.c 0 _ rfl
  have c1 := X.out.c 1 _ rfl
  have c2 := X.out.c 2 _ rfl
  have c3 := X.out.c 3 _ rfl
  have c4 := X.out.c 4 _ rfl
  have cf := X.out.f
  have hb := X.out.lt
  have E5 := fun (v0 v1 v2 v3 v4 : Value) => Lib.hid (below_set (below_set (below_set (below_set (below_set E.out ⟨w.heap.size, 0, none⟩ v0 (Nat.le_refl _)) ⟨w.heap.size, 1, none⟩ v1 (Nat.le_refl _)) ⟨w.heap.size, 2, none⟩ v2 (Nat.le_refl _)) ⟨w.heap.size, 3, none⟩ v3 (Nat.le_refl _)) ⟨w.heap.size, 4, none⟩ v4 (Nat.le_refl _))
  rcases HC.out with ⟨hneg, hno⟩ | ⟨i, x, hki, hx, hfx⟩
  · have hk1 : ¬ 0 ≤ k := by omega
    have HNO := Lib.hid hno
    have EE := E5 (.int .i64 0) (.int .i64 0) (.int .i64 0) (.int .i64 0) (.int .i64 0)
    clear hno E5
    go_wp2_with fail
    refine bodyPost_ret (v := .tuple #[.agg #[.int .i64 0, .int .i64 0, .int .i64 0, .int .i64 0, .int .i64 0], .bool false]) (by simp [results, Try.results51, go_sem, *]) rfl ?_
    exact ⟨zeroA, by rw [HNO.out]; rfl, by rw [HNO.out]; rfl, EE.out⟩
  · obtain ⟨y, b1, o1, hy, rfl, hb1, hc⟩ := S1.out.at_ (k := i) (List.getElem?_eq_some_iff.1 hx).1
    obtain rfl : x = y := by rw [hx] at hy; cases hy; rfl
    have d0 := hc 0 _ rfl
    have d1 := hc 1 _ rfl
    have d2 := hc 2 _ rfl
    have d3 := hc 3 _ rfl
    have d4 := hc 4 _ rfl
    simp only [Nat.add_zero] at d0
    have HFX := Lib.hid hfx
    have hil := (List.getElem?_eq_some_iff.1 hx).1
    subst hki
    have hk1 : 0 ≤ (i : Int) := by omega
    have hk2 : (i : Int) < l.length := by omega
    have EE := E5 (.int .i64 x.no) (.int .i64 x.f) (.int .i64 x.t) (.int .i64 x.m) (.int .i64 x.r)
    clear hfx hx hy hc E5
    go_wp2_with fail
    refine bodyPost_ret (v := .tuple #[x.v, .bool true]) (by simp [results, Try.results51, go_sem, *]) rfl ?_
    exact ⟨x, by rw [HFX.out]; rfl, by rw [HFX.out]; rfl, EE.out⟩
set_option maxHeartbeats 600000 in
theorem numd_any (A : Option Addr) (c : Nat) (l : List Ag) (no : Int) (w : World) (ha : Slc w Ag.cells 5 A l) (hn : l.length ≤ maxLen) :
    Calls Try.prog 41 #[.slice A l.length c, .int .i64 no] w (FindR w (numd l no)) := by
  have E := Lib.hid (ext_alloc (ext_alloc (ext_refl w) (.cells #[.int .i64 no] 3)) (.cells #[.int .i64 0, .int .i64 0, .int .i64 0, .int .i64 0, .int .i64 0] 26))
  have N := Lib.hid ((Blk.new w [.int .i64 no] 3).alloc (.cells #[.int .i64 0, .int .i64 0, .int .i64 0, .int .i64 0, .int .i64 0] 26))
  have X := Lib.hid (Blk.newH (w.alloc (.cells #[.int .i64 no] 3)) [.int .i64 0, .int .i64 0, .int .i64 0, .int .i64 0, .int .i64 0] 26 (w.heap.size + 1) (by simp))
  go_enter Try.func41, Try.ntmps41
  go_wp2_with fail
  refine (find_any 59 (.pointer (some ⟨w.heap.size, 0, none⟩)) (fun x => x.no == no) A c l _ (ha.ext E.out) hn enters59 (fun x W hx hW => num1_any x no w.heap.size 0 W ((N.out.ext hW).c 0 _ rfl) (N.out.ext hW).lt)).mono ?_
  rintro e w1 ⟨x, rfl, hx, B⟩
  have HX := Lib.hid hx
  replace X := Lib.hid (X.out.ext B)
  replace E := Lib.hid (ext_trans E.out B)
  clear B N hx
  have c0 := X.out.c 0 _ rfl
  have c1 := X.out.c 1 _ rfl
  have c2 := X.out.c 2 _ rfl
  have c3 := X.out.c 3 _ rfl
  have c4 := X.out.c 4 _ rfl
  have cf := X.out.f
  have hb := X.out.lt
  have EE := Lib.hid (below_set (below_set (below_set (below_set (below_set E.out ⟨w.heap.size + 1, 0, none⟩ (.int .i64 x.no) (Nat.le_succ _)) ⟨w.heap.size + 1, 1, none⟩ (.int .i64 x.f) (Nat.le_succ _)) ⟨w.heap.size + 1, 2, none⟩ (.int .i64 x.t) (Nat.le_succ _)) ⟨w.heap.size + 1, 3, none⟩ (.int .i64 x.m) (Nat.le_succ _)) ⟨w.heap.size + 1, 4, none⟩ (.int .i64 x.r) (Nat.le_succ _))
  obtain ⟨s, hs⟩ : ∃ s, (l.find? (fun x => x.no == no)).isSome = s := ⟨_, rfl⟩
  have HS := Lib.hid hs
  rw [hs]
  clear hs
  go_wp2_with fail
  refine bodyPost_ret (v := .tuple #[x.v, .bool s]) (by simp [results, Try.results41, go_sem, *]) rfl ?_
  exact ⟨x, by rw [← HS.out]; rfl, HX.out, EE.out⟩
theorem numd_at {A : Option Addr} {c n : Nat} {l : List Ag} {no : Int} {w : World} (o : Option Ag) (ho : numd l no = o) (hl : n = l.length) (ha : Slc w Ag.cells 5 A l) (hn : l.length ≤ maxLen) :
    Calls Try.prog 41 #[.slice A n c, .int .i64 no] w (FindR w o) := by
  subst ho hl; exact numd_any A c l no w ha hn
theorem numd_step {l : List Ag} {no : Int} {k : Nat} {x : Ag} (hx : l[k]? = some x) (h : (x.no == no) = false) (hq : numd l no = numd (l.drop k) no) : numd l no = numd (l.drop (k + 1)) no := by
  rw [hq, drop_at hx]; simp [numd, List.find?_cons, h]
theorem numd_hit {l : List Ag} {no : Int} {k : Nat} {x : Ag} (hx : l[k]? = some x) (h : (x.no == no) = true) (hq : numd l no = numd (l.drop k) no) : numd l no = some x := by
  rw [hq, drop_at hx]; simp [numd, List.find?_cons, h]
theorem numd_end {l : List Ag} {no : Int} {k : Nat} (hk : l.length ≤ k) (hq : numd l no = numd (l.drop k) no) : numd l no = none := by
  rw [hq, List.drop_eq_nil_of_le hk]; rfl
set_option maxHeartbeats 600000 in
theorem rfind_any (A : Option Addr) (c : Nat) (l : List Ag) (no : Int) (w : World) (ha : Slc w Ag.cells 5 A l) (hn : l.length ≤ maxLen) :
    Calls Try.prog 42 #[.slice A l.length c, .int .i64 no] w (FindR w (numd l no)) := by
  unfold maxLen at hn
  obtain ⟨r, hr⟩ : ∃ r, numd l no = r := ⟨_, rfl⟩
  have HR := Lib.hid hr
  rw [hr]
  clear hr
  have E := Lib.hid (ext_alloc (ext_refl w) (.cells #[.int .i64 0, .int .i64 0, .int .i64 0, .int .i64 0, .int .i64 0] 26))
  have X := Lib.hid (Blk.new w [.int .i64 0, .int .i64 0, .int .i64 0, .int .i64 0, .int .i64 0] 26)
  have S1 := Lib.hid (ha.ext E.out)
  have hb := X.out.lt
  obtain ⟨W0, hW0⟩ : ∃ W0, W0 = w.alloc (.cells #[.int .i64 0, .int .i64 0, .int .i64 0, .int .i64 0, .int .i64 0] 26) := ⟨_, rfl⟩
  have E5 := fun (v0 v1 v2 v3 v4 : Value) => Lib.hid (below_set (below_set (below_set (below_set (below_set E.out ⟨w.heap.size, 0, none⟩ v0 (Nat.le_refl _)) ⟨w.heap.size, 1, none⟩ v1 (Nat.le_refl _)) ⟨w.heap.size, 2, none⟩ v2 (Nat.le_refl _)) ⟨w.heap.size, 3, none⟩ v3 (Nat.le_refl _)) ⟨w.heap.size, 4, none⟩ v4 (Nat.le_refl _))
  go_enter Try.func42, Try.ntmps42
  go_wp2_with fail
  rw [← hW0] at E X S1 E5 hb ⊢
  clear hW0
  have c0 := X.out.c 0 _ rfl
  have c1 := X.out.c 1 _ rfl
  have c2 := X.out.c 2 _ rfl
  have c3 := X.out.c 3 _ rfl
  have c4 := X.out.c 4 _ rfl
  have cf := X.out.f
  go_loop [6] (fun i => ∃ k : Nat, k ≤ l.length ∧ i = .int .i64 k ∧ Hid (numd l no = numd (l.drop k) no)) (fun i => l.length - (intOf i).toNat)
  case atStart => exact ⟨0, Nat.zero_le _, rfl, rfl⟩
  case round =>
    obtain ⟨k, hk, rfl, HQ⟩ := hrel
    by_cases hlt : k < l.length
    · obtain ⟨x, b1, o1, hx, rfl, hb1, hc⟩ := S1.out.at_ hlt
      have d0 := hc 0 _ rfl
      have d1 := hc 1 _ rfl
      have d2 := hc 2 _ rfl
      have d3 := hc 3 _ rfl
      have d4 := hc 4 _ rfl
      simp only [Nat.add_zero] at d0
      have HX := Lib.hid hx
      clear hc hx
      have hlt' : (k : Int) < l.length := by omega
      by_cases q : x.no = no
      · have hq : (x.no == no) = true := by simpa using q
        have HZ := Lib.hid (show r = some x by rw [← HR.out]; exact numd_hit HX.out hq HQ.out)
        have EE := E5 (.int .i64 x.no) (.int .i64 x.f) (.int .i64 x.t) (.int .i64 x.m) (.int .i64 x.r)
        clear q E5
        go_wp2_with fail
        refine bodyPost_ret (v := .tuple #[x.v, .bool true]) (by simp [results, Try.results42, go_sem, *]) rfl ?_
        exact ⟨x, by rw [HZ.out]; rfl, by rw [HZ.out]; rfl, EE.out⟩
      · have hq : (x.no == no) = false := by simpa using q
        have HZ := Lib.hid (numd_step HX.out hq HQ.out)
        clear q E5
        go_wp2_with fail
        go_round
        case rel => exact ⟨k + 1, by omega, by go_num, HZ⟩
        case measure => simp [intOf]; omega
    · have hge : ¬ (k : Int) < l.length := by omega
      have HZ := Lib.hid (show r = none by rw [← HR.out]; exact numd_end (by omega) HQ.out)
      have EE := E5 (.int .i64 0) (.int .i64 0) (.int .i64 0) (.int .i64 0) (.int .i64 0)
      clear E5
      go_wp2_with fail
      refine bodyPost_ret (v := .tuple #[.agg #[.int .i64 0, .int .i64 0, .int .i64 0, .int .i64 0, .int .i64 0], .bool false]) (by simp [results, Try.results42, go_sem, *]) rfl ?_
      exact ⟨zeroA, by rw [HZ.out]; rfl, by rw [HZ.out]; rfl, EE.out⟩
theorem rfind_at {A : Option Addr} {c n : Nat} {l : List Ag} {no : Int} {w : World} (o : Option Ag) (ho : numd l no = o) (hl : n = l.length) (ha : Slc w Ag.cells 5 A l) (hn : l.length ≤ maxLen) :
    Calls Try.prog 42 #[.slice A n c, .int .i64 no] w (FindR w o) := by
  subst ho hl; exact rfind_any A c l no w ha hn
end Go.Proofs.Ytmnbeikhjbjpiaa
