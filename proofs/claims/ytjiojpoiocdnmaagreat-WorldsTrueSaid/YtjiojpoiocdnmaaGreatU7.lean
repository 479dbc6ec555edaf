/- airspace.Check. -/
import Derived.Test.YtjiojpoiocdnmaaGreatU6
import Derived.Test.YtjiojpoiocdnmaaGreatU4
import Derived.Lib.Bytealg
import Derived.Test.YtjiojpoiocdnmaaGreatU0
import Derived.Test.YtjiojpoiocdnmaaGreatU5
set_option linter.unusedSimpArgs false
set_option linter.unusedVariables false
namespace Go.Proofs.YtjiojpoiocdnmaaGreat
open Go.RowKit
theorem chkT_no {t : Tab} (h : inn t.n 1 64 = false ∨ divT t.n.toNat t.ss.l t.cs.l = false ∨ t.ss.l.all secB = false ∨ 16 < t.ms.l.length ∨ t.ms.l.all modeB = false ∨ 64 < t.ws.l.length ∨
    t.ws.l.all (wayB t.n t.ms.l.length) = false ∨ 8 < t.ks.l.length ∨ t.ks.l.all (kindB t.ms.l.length) = false) : chkT t = 140 := by
  unfold chkT
  rw [if_neg]
  intro q
  simp only [Bool.and_eq_true, decide_eq_true_eq] at q
  obtain ⟨⟨⟨⟨⟨⟨⟨⟨q1, q2⟩, q3⟩, q4⟩, q5⟩, q6⟩, q7⟩, q8⟩, q9⟩ := q
  rcases h with h | h | h | h | h | h | h | h | h
  · rw [q1] at h; cases h
  · rw [q2] at h; cases h
  · rw [q3] at h; cases h
  · omega
  · rw [q5] at h; cases h
  · omega
  · rw [q7] at h; cases h
  · omega
  · rw [q9] at h; cases h
theorem chkT_yes {t : Tab} (q1 : inn t.n 1 64 = true) (q2 : divT t.n.toNat t.ss.l t.cs.l = true) (q3 : t.ss.l.all secB = true) (q4 : t.ms.l.length ≤ 16) (q5 : t.ms.l.all modeB = true) (q6 : t.ws.l.length ≤ 64)
    (q7 : t.ws.l.all (wayB t.n t.ms.l.length) = true) (q8 : t.ks.l.length ≤ 8) (q9 : t.ks.l.all (kindB t.ms.l.length) = true) : chkT t = 0 := by
  unfold chkT
  rw [if_pos]
  simp only [Bool.and_eq_true, decide_eq_true_eq]
  exact ⟨⟨⟨⟨⟨⟨⟨⟨q1, q2⟩, q3⟩, q4⟩, q5⟩, q6⟩, q7⟩, q8⟩, q9⟩
theorem store_func (P : Program) (w : World) (a : Addr) (m : Mode) (f : Fn) (c : Array Value) (e : Array Value) : (store a (.func f c e) m).run P w = stored P w a (.func f c e) m := run_store P w a _ m rfl
attribute [local go_sem] store_func
set_option maxRecDepth 100000 in
set_option maxHeartbeats 16000000 in
theorem achk_any (t : Tab) (w : World) (ht : Tab.ok w t) : Calls Tryz.prog 54 #[t.v] w (RetE w (chkT t)) := by
  obtain ⟨W, hW⟩ : ∃ W, (((w.alloc (.cells #[.int .i64 t.n, .slice t.ss.A t.ss.l.length t.ss.c, .slice t.cs.A t.cs.l.length t.cs.c, .slice t.ws.A t.ws.l.length t.ws.c, .slice t.ms.A t.ms.l.length t.ms.c, .slice t.ks.A t.ks.l.length t.ks.c] 28)).alloc (.cells #[.func (.func 89) #[] #[ptr w.heap.size]] 178)).alloc (.cells #[.func (.func 91) #[] #[ptr w.heap.size]] 176)) = W := ⟨_, rfl⟩
  have HB1 : Hid (Blk W w.heap.size t.cells) := by
    rw [← hW]; exact ((Blk.newH w t.cells 28 w.heap.size rfl).alloc _).alloc _
  have HB2 : Hid (Blk W (w.heap.size + 1) [.func (.func 89) #[] #[ptr w.heap.size]]) := by
    rw [← hW]; exact (Blk.newH (w.alloc (.cells #[.int .i64 t.n, .slice t.ss.A t.ss.l.length t.ss.c, .slice t.cs.A t.cs.l.length t.cs.c, .slice t.ws.A t.ws.l.length t.ws.c, .slice t.ms.A t.ms.l.length t.ms.c, .slice t.ks.A t.ks.l.length t.ks.c] 28)) [.func (.func 89) #[] #[ptr w.heap.size]] 178 (w.heap.size + 1) (by simp)).alloc _
  have HB3 : Hid (Blk W (w.heap.size + 1 + 1) [.func (.func 91) #[] #[ptr w.heap.size]]) := by
    rw [← hW]; exact Blk.newH ((w.alloc (.cells #[.int .i64 t.n, .slice t.ss.A t.ss.l.length t.ss.c, .slice t.cs.A t.cs.l.length t.cs.c, .slice t.ws.A t.ws.l.length t.ws.c, .slice t.ms.A t.ms.l.length t.ms.c, .slice t.ks.A t.ks.l.length t.ks.c] 28)).alloc (.cells #[.func (.func 89) #[] #[ptr w.heap.size]] 178)) [.func (.func 91) #[] #[ptr w.heap.size]] 176 (w.heap.size + 1 + 1) (by simp)
  have HE : Hid (Below w.heap.size w W) := by
    rw [← hW]; exact ext_alloc (ext_alloc (ext_alloc (ext_refl w) _) _) _
  have HT := Lib.hid (ht.ext HE.out)
  clear ht
  have q0 := HB1.out.c 0 _ rfl
  have q1 := HB1.out.c 1 _ rfl
  have q2 := HB1.out.c 2 _ rfl
  have q3 := HB1.out.c 3 _ rfl
  have q4 := HB1.out.c 4 _ rfl
  have q5 := HB1.out.c 5 _ rfl
  have ql := HB1.out.lt
  go_enter Tryz.func54, Tryz.ntmps54
  go_wp2_with fail
  clear hW
  refine (inn_any _ _ _ _).mono ?_
  rintro e w1 ⟨rfl, rfl⟩
  cases h1 : inn t.n 1 64
  · go_wp2_with fail
    go_ret
    rw [chkT_no (.inl h1)]
    exact ⟨rfl, HE.out⟩
  obtain ⟨n0, n1⟩ := inn_iff.1 h1
  go_wp2_with fail
  refine (divided_any t _ n0 n1).mono ?_
  rintro e w1 ⟨bd, rfl, B1⟩
  have T1 := HT.out.ext B1
  go_wp2_with fail
  refine (ccheck_any _ _ _ t.ss.A t.ss.c t.ss.l t.cs.A t.cs.c t.cs.l _ T1.1.slc (fun x hx => T1.1.all hx) T1.2.1.slc (fun x hx => T1.2.1.all hx)).mono ?_
  rintro e w2 ⟨rfl, B2⟩
  have B12 := ext_trans B1 B2
  have HE2 := Lib.hid (ext_trans HE.out B12)
  have HB2' := Lib.hid (HB1.out.ext B12)
  have HB3' := Lib.hid (HB2.out.ext B12)
  have HB4' := Lib.hid (HB3.out.ext B12)
  have HT2 := Lib.hid (T1.ext B2)
  clear HB1 HB2 HB3 HE HT T1 B1 B2 B12 q0 q1 q2 q3 q4 q5 ql
  cases h2 : divT t.n.toNat t.ss.l t.cs.l
  · go_wp2_with fail
    go_ret
    rw [chkT_no (.inr (.inl h2))]
    exact ⟨rfl, HE2.out⟩
  have q0 := HB2'.out.c 0 _ rfl
  have q1 := HB2'.out.c 1 _ rfl
  have q2 := HB2'.out.c 2 _ rfl
  have q3 := HB2'.out.c 3 _ rfl
  have q4 := HB2'.out.c 4 _ rfl
  have q5 := HB2'.out.c 5 _ rfl
  have ql := HB2'.out.lt
  go_wp2_with fail
  refine (allSec 84 secB t.ss.A t.ss.c t.ss.l _ HT2.out.1.slc HT2.out.1.len enters40 (fun x W _ _ => secB_any x W)).mono ?_
  rintro e w3 ⟨rfl, B3⟩
  cases h3 : t.ss.l.all secB
  · go_wp2_with fail
    go_ret
    rw [chkT_no (.inr (.inr (.inl h3)))]
    exact ⟨rfl, ext_trans HE2.out B3⟩
  have HE3 := Lib.hid (ext_trans HE2.out B3)
  have HB5' := Lib.hid (HB2'.out.ext B3)
  have HB6' := Lib.hid (HB3'.out.ext B3)
  have HB7' := Lib.hid (HB4'.out.ext B3)
  have HT3 := Lib.hid (HT2.out.ext B3)
  clear HB2' HB3' HB4' HE2 HT2 B3 q0 q1 q2 q3 q4 q5 ql
  have q0 := HB5'.out.c 0 _ rfl
  have q1 := HB5'.out.c 1 _ rfl
  have q2 := HB5'.out.c 2 _ rfl
  have q3 := HB5'.out.c 3 _ rfl
  have q4 := HB5'.out.c 4 _ rfl
  have q5 := HB5'.out.c 5 _ rfl
  have ql := HB5'.out.lt
  by_cases h4 : 16 < t.ms.l.length
  · have e4 : decide ((t.ms.l.length : Int) > 16) = true := decide_eq_true (by omega)
    go_wp2_with fail
    go_ret
    rw [chkT_no (.inr (.inr (.inr (.inl h4))))]
    exact ⟨rfl, HE3.out⟩
  have e4 : decide ((t.ms.l.length : Int) > 16) = false := decide_eq_false (by omega)
  go_wp2_with fail
  refine (allL 86 modeB t.ms.A t.ms.c t.ms.l _ HT3.out.2.2.2.1.slc HT3.out.2.2.2.1.len enters42 (fun x W hx hW => modeB_any x W ((HT3.out.2.2.2.1.all hx).slc.ext hW) (HT3.out.2.2.2.1.all hx).len)).mono ?_
  rintro e w4 ⟨rfl, B4⟩
  cases h5 : t.ms.l.all modeB
  · go_wp2_with fail
    go_ret
    rw [chkT_no (.inr (.inr (.inr (.inr (.inl h5)))))]
    exact ⟨rfl, ext_trans HE3.out B4⟩
  have HE4 := Lib.hid (ext_trans HE3.out B4)
  have HBa' := Lib.hid (HB5'.out.ext B4)
  have HBb' := Lib.hid (HB6'.out.ext B4)
  have HBc' := Lib.hid (HB7'.out.ext B4)
  have HT4 := Lib.hid (HT3.out.ext B4)
  clear HB5' HB6' HB7' HE3 HT3 B4 q0 q1 q2 q3 q4 q5 ql
  have q0 := HBa'.out.c 0 _ rfl
  have q1 := HBa'.out.c 1 _ rfl
  have q2 := HBa'.out.c 2 _ rfl
  have q3 := HBa'.out.c 3 _ rfl
  have q4 := HBa'.out.c 4 _ rfl
  have q5 := HBa'.out.c 5 _ rfl
  have ql := HBa'.out.lt
  by_cases h6 : 64 < t.ws.l.length
  · have e6 : decide ((t.ws.l.length : Int) > 64) = true := decide_eq_true (by omega)
    go_wp2_with fail
    go_ret
    rw [chkT_no (.inr (.inr (.inr (.inr (.inr (.inl h6))))))]
    exact ⟨rfl, HE4.out⟩
  have e6 : decide ((t.ws.l.length : Int) > 64) = false := decide_eq_false (by omega)
  go_wp2_with fail
  refine (allWy 92 (ptr (w.heap.size + 1 + 1)) (ptr (w.heap.size + 1)) (wayB t.n t.ms.l.length) t.ws.A t.ws.c t.ws.l _ HT4.out.2.2.1.slc HT4.out.2.2.1.len enters48
    (fun x W hx hW => wayB_any t w.heap.size (w.heap.size + 1 + 1) (w.heap.size + 1) x W ((HT4.out.2.2.1.all hx).ext hW) (HBa'.out.ext hW) n0 n1 HT4.out.2.2.2.1.len (HBc'.out.ext hW) (HBb'.out.ext hW))).mono ?_
  rintro e w5 ⟨rfl, B5⟩
  cases h7 : t.ws.l.all (wayB t.n t.ms.l.length)
  · go_wp2_with fail
    go_ret
    rw [chkT_no (.inr (.inr (.inr (.inr (.inr (.inr (.inl h7)))))))]
    exact ⟨rfl, ext_trans HE4.out B5⟩
  have HE5 := Lib.hid (ext_trans HE4.out B5)
  have HBd' := Lib.hid (HBa'.out.ext B5)
  have HT5 := Lib.hid (HT4.out.ext B5)
  clear HBa' HBb' HBc' HE4 HT4 B5 q0 q1 q2 q3 q4 q5 ql
  have q0 := HBd'.out.c 0 _ rfl
  have q1 := HBd'.out.c 1 _ rfl
  have q2 := HBd'.out.c 2 _ rfl
  have q3 := HBd'.out.c 3 _ rfl
  have q4 := HBd'.out.c 4 _ rfl
  have q5 := HBd'.out.c 5 _ rfl
  have ql := HBd'.out.lt
  by_cases h8 : 8 < t.ks.l.length
  · have e8 : decide ((t.ks.l.length : Int) > 8) = true := decide_eq_true (by omega)
    go_wp2_with fail
    go_ret
    rw [chkT_no (.inr (.inr (.inr (.inr (.inr (.inr (.inr (.inl h8))))))))]
    exact ⟨rfl, HE5.out⟩
  have e8 : decide ((t.ks.l.length : Int) > 8) = false := decide_eq_false (by omega)
  go_wp2_with fail
  refine (allKd 94 (ptr w.heap.size) (kindB t.ms.l.length) t.ks.A t.ks.c t.ks.l _ HT5.out.2.2.2.2.slc HT5.out.2.2.2.2.len enters50
    (fun x W hx hW => kindB_any t w.heap.size x W ((HT5.out.2.2.2.2.all hx).ext hW) (HBd'.out.ext hW))).mono ?_
  rintro e w6 ⟨rfl, B6⟩
  cases h9 : t.ks.l.all (kindB t.ms.l.length)
  · go_wp2_with fail
    go_ret
    rw [chkT_no (.inr (.inr (.inr (.inr (.inr (.inr (.inr (.inr h9))))))))]
    exact ⟨rfl, ext_trans HE5.out B6⟩
  · go_wp2_with fail
    go_ret
    rw [chkT_yes h1 h2 h3 (by omega) h5 (by omega) h7 (by omega) h9]
    exact ⟨rfl, ext_trans HE5.out B6⟩
theorem achk_at {t : Tab} {w : World} (r : Int) (hr : chkT t = r) (ht : Tab.ok w t) : Calls Tryz.prog 54 #[t.v] w (RetE w r) := by
  subst hr; exact achk_any t w ht
end Go.Proofs.YtjiojpoiocdnmaaGreat
/- Small contracts: is a number in a list; Few. -/
set_option linter.unusedSimpArgs false
set_option linter.unusedVariables false
namespace Go.Proofs.YtjiojpoiocdnmaaGreat
open Go.RowKit
def FewR (w : World) (P : Prop) (e : Ending) (w' : World) : Prop := ∃ r : Bool, e = .returned (.bool r) ∧ (r = true → P) ∧ Below w.heap.size w w'
end Go.Proofs.YtjiojpoiocdnmaaGreat
/- Few14, Few19, SameChange, Same. -/
set_option linter.unusedSimpArgs false
set_option linter.unusedVariables false
namespace Go.Proofs.YtjiojpoiocdnmaaGreat
open Go.RowKit
theorem all_stepD {α : Type} {p : α → Bool} {l : List α} {k : Nat} {x : α} (hx : l[k]? = some x) (hp : p x = true) : (l.drop k).all p = (l.drop (k + 1)).all p := all_yes hx hp
theorem all_noD {α : Type} {p : α → Bool} {l : List α} {k : Nat} {x : α} (hx : l[k]? = some x) (hp : p x = false) : (l.drop k).all p = false := by
  obtain ⟨hk, rfl⟩ := List.getElem?_eq_some_iff.1 hx
  rw [List.drop_eq_getElem_cons hk, List.all_cons, hp, Bool.false_and]
end Go.Proofs.YtjiojpoiocdnmaaGreat
/- Names: lex.Name and the reference's. -/
set_option linter.unusedSimpArgs false
set_option linter.unusedVariables false
namespace Go.Proofs.YtjiojpoiocdnmaaGreat
open Go.RowKit
def letB (c : Int) : Bool := inn c 97 122 || inn c 65 90
def digB (c : Int) : Bool := inn c 48 57
def prtB (c : Int) : Bool := letB c || digB c || c == 95
/-- A string's byte. -/
def byt (s : ByteArray) (i : Nat) : Int := ((s.data.toList[i]?).map (fun b => (b.toNat : Int))).getD 0
def nameB (s : ByteArray) : Bool := decide (1 ≤ s.size) && decide (s.size ≤ 32) && letB (byt s 0) && (List.range s.size).all (fun i => prtB (byt s i))
theorem byt_at (s : ByteArray) (i : Nat) (h : i < s.size) : byt s i = ((s[i]'h).toNat : Int) := by
  have h2 : s.data.toList[i]? = some (s[i]'h) := by
    rw [List.getElem?_eq_getElem (by simpa using h)]; rfl
  unfold byt; rw [h2]; rfl
set_option maxRecDepth 100000 in
theorem ibs_any (s : ByteArray) (c : Int) (w : World) : Calls Tryz.prog 151 #[.string s, .int .u8 c] w fun e w' => (∃ i, e = .returned (.int .i64 i)) ∧ w = w' := by
  go_enter Tryz.func151, Tryz.ntmps151
  go_wp2
  rw [run_callFunc_extern Tryz.func155 (by kernel_rfl) (by kernel_rfl) (by kernel_rfl) (e := Extern.BytealgIndexByte.indexByte) (by kernel_rfl), Lib.run_indexByteString]
  simp only [Result.andThen]
  rw [Oper.upon_value]
  go_wp2
  go_ret
  exact ⟨⟨_, rfl⟩, rfl⟩
theorem ib_any (s : ByteArray) (c : Int) (w : World) : Calls Tryz.prog 134 #[.string s, .int .u8 c] w fun e w' => (∃ i, e = .returned (.int .i64 i)) ∧ w = w' := by
  go_enter Tryz.func134, Tryz.ntmps134
  go_wp2_with fail
  refine (ibs_any s c w).mono ?_
  rintro e w1 ⟨⟨i, rfl⟩, rfl⟩
  go_wp2_with fail
  go_ret
  exact ⟨⟨_, rfl⟩, rfl⟩
def ClsR (c : Int) (w : World) (e : Ending) (w' : World) : Prop := ∃ r : Int, e = .returned (.int .i64 r) ∧ ((r == 2) = letB c ∧ (r == 3) = digB c ∧ (r == 5) = (c == 95)) ∧ w = w'
theorem cls_pt {c r : Int} (h2 : r = 2 ↔ (97 ≤ c ∧ c ≤ 122) ∨ (65 ≤ c ∧ c ≤ 90)) (h3 : r = 3 ↔ 48 ≤ c ∧ c ≤ 57) (h5 : r = 5 ↔ c = 95) : (r == 2) = letB c ∧ (r == 3) = digB c ∧ (r == 5) = (c == 95) := by
  refine ⟨?_, ?_, ?_⟩
  · rw [Bool.eq_iff_iff, beq_iff_eq, h2]; simp [letB, inn]
  · rw [Bool.eq_iff_iff, beq_iff_eq, h3]; simp [digB, inn]
  · rw [Bool.eq_iff_iff, beq_iff_eq, beq_iff_eq, h5]
theorem cls_lo (c : Int) (w : World)  (h1 : c ≤ 47) : Calls Tryz.prog 105 #[.int .u8 c] w (ClsR c w) := by
  have e0 : decide (c ≥ 97) = false := decide_eq_false (by omega)
  have e1 : decide (c ≤ 122) = true := decide_eq_true (by omega)
  have e2 : decide (c ≥ 65) = false := decide_eq_false (by omega)
  have e3 : decide (c ≤ 90) = true := decide_eq_true (by omega)
  have e4 : decide (c ≥ 48) = false := decide_eq_false (by omega)
  have e5 : decide (c ≤ 57) = true := decide_eq_true (by omega)
  go_enter Tryz.func105, Tryz.ntmps105
  by_cases h32 : c = 32
  · have q95 : (c == 95) = false := beq_eq_false_iff_ne.2 (by omega)
    have q32 : (c == 32) = true := beq_iff_eq.2 (by omega)
    go_wp2_with fail
    go_ret
    exact ⟨_, rfl, cls_pt (by omega) (by omega) (by omega), rfl⟩
  by_cases h9 : c = 9
  · have q95 : (c == 95) = false := beq_eq_false_iff_ne.2 (by omega)
    have q32 : (c == 32) = false := beq_eq_false_iff_ne.2 (by omega)
    have q9 : (c == 9) = true := beq_iff_eq.2 (by omega)
    go_wp2_with fail
    go_ret
    exact ⟨_, rfl, cls_pt (by omega) (by omega) (by omega), rfl⟩
  by_cases h10 : c = 10
  · have q95 : (c == 95) = false := beq_eq_false_iff_ne.2 (by omega)
    have q32 : (c == 32) = false := beq_eq_false_iff_ne.2 (by omega)
    have q9 : (c == 9) = false := beq_eq_false_iff_ne.2 (by omega)
    have q10 : (c == 10) = true := beq_iff_eq.2 (by omega)
    go_wp2_with fail
    go_ret
    exact ⟨_, rfl, cls_pt (by omega) (by omega) (by omega), rfl⟩
  by_cases h13 : c = 13
  · have q95 : (c == 95) = false := beq_eq_false_iff_ne.2 (by omega)
    have q32 : (c == 32) = false := beq_eq_false_iff_ne.2 (by omega)
    have q9 : (c == 9) = false := beq_eq_false_iff_ne.2 (by omega)
    have q10 : (c == 10) = false := beq_eq_false_iff_ne.2 (by omega)
    have q13 : (c == 13) = true := beq_iff_eq.2 (by omega)
    go_wp2_with fail
    go_ret
    exact ⟨_, rfl, cls_pt (by omega) (by omega) (by omega), rfl⟩
  have q95 : (c == 95) = false := beq_eq_false_iff_ne.2 (by omega)
  have q32 : (c == 32) = false := beq_eq_false_iff_ne.2 (by omega)
  have q9 : (c == 9) = false := beq_eq_false_iff_ne.2 (by omega)
  have q10 : (c == 10) = false := beq_eq_false_iff_ne.2 (by omega)
  have q13 : (c == 13) = false := beq_eq_false_iff_ne.2 (by omega)
  go_wp2_with fail
  refine (ib_any _ _ _).mono ?_
  rintro e w1 ⟨⟨i, rfl⟩, rfl⟩
  cases hi : decide (i ≥ 0)
  · go_wp2_with fail
    go_ret
    exact ⟨_, rfl, cls_pt (by omega) (by omega) (by omega), rfl⟩
  · go_wp2_with fail
    go_ret
    exact ⟨_, rfl, cls_pt (by omega) (by omega) (by omega), rfl⟩
theorem cls_dg (c : Int) (w : World) (h0 : 48 ≤ c) (h1 : c ≤ 57) : Calls Tryz.prog 105 #[.int .u8 c] w (ClsR c w) := by
  have e0 : decide (c ≥ 97) = false := decide_eq_false (by omega)
  have e1 : decide (c ≤ 122) = true := decide_eq_true (by omega)
  have e2 : decide (c ≥ 65) = false := decide_eq_false (by omega)
  have e3 : decide (c ≤ 90) = true := decide_eq_true (by omega)
  have e4 : decide (c ≥ 48) = true := decide_eq_true (by omega)
  have e5 : decide (c ≤ 57) = true := decide_eq_true (by omega)
  go_enter Tryz.func105, Tryz.ntmps105
  go_wp2_with fail
  go_ret
  exact ⟨_, rfl, cls_pt (by omega) (by omega) (by omega), rfl⟩
theorem cls_m1 (c : Int) (w : World) (h0 : 58 ≤ c) (h1 : c ≤ 64) : Calls Tryz.prog 105 #[.int .u8 c] w (ClsR c w) := by
  have e0 : decide (c ≥ 97) = false := decide_eq_false (by omega)
  have e1 : decide (c ≤ 122) = true := decide_eq_true (by omega)
  have e2 : decide (c ≥ 65) = false := decide_eq_false (by omega)
  have e3 : decide (c ≤ 90) = true := decide_eq_true (by omega)
  have e4 : decide (c ≥ 48) = true := decide_eq_true (by omega)
  have e5 : decide (c ≤ 57) = false := decide_eq_false (by omega)
  go_enter Tryz.func105, Tryz.ntmps105
  have q95 : (c == 95) = false := beq_eq_false_iff_ne.2 (by omega)
  have q32 : (c == 32) = false := beq_eq_false_iff_ne.2 (by omega)
  have q9 : (c == 9) = false := beq_eq_false_iff_ne.2 (by omega)
  have q10 : (c == 10) = false := beq_eq_false_iff_ne.2 (by omega)
  have q13 : (c == 13) = false := beq_eq_false_iff_ne.2 (by omega)
  go_wp2_with fail
  refine (ib_any _ _ _).mono ?_
  rintro e w1 ⟨⟨i, rfl⟩, rfl⟩
  cases hi : decide (i ≥ 0)
  · go_wp2_with fail
    go_ret
    exact ⟨_, rfl, cls_pt (by omega) (by omega) (by omega), rfl⟩
  · go_wp2_with fail
    go_ret
    exact ⟨_, rfl, cls_pt (by omega) (by omega) (by omega), rfl⟩
theorem cls_up (c : Int) (w : World) (h0 : 65 ≤ c) (h1 : c ≤ 90) : Calls Tryz.prog 105 #[.int .u8 c] w (ClsR c w) := by
  have e0 : decide (c ≥ 97) = false := decide_eq_false (by omega)
  have e1 : decide (c ≤ 122) = true := decide_eq_true (by omega)
  have e2 : decide (c ≥ 65) = true := decide_eq_true (by omega)
  have e3 : decide (c ≤ 90) = true := decide_eq_true (by omega)
  have e4 : decide (c ≥ 48) = true := decide_eq_true (by omega)
  have e5 : decide (c ≤ 57) = false := decide_eq_false (by omega)
  go_enter Tryz.func105, Tryz.ntmps105
  go_wp2_with fail
  go_ret
  exact ⟨_, rfl, cls_pt (by omega) (by omega) (by omega), rfl⟩
theorem cls_m2 (c : Int) (w : World) (h0 : 91 ≤ c) (h1 : c ≤ 96) : Calls Tryz.prog 105 #[.int .u8 c] w (ClsR c w) := by
  have e0 : decide (c ≥ 97) = false := decide_eq_false (by omega)
  have e1 : decide (c ≤ 122) = true := decide_eq_true (by omega)
  have e2 : decide (c ≥ 65) = true := decide_eq_true (by omega)
  have e3 : decide (c ≤ 90) = false := decide_eq_false (by omega)
  have e4 : decide (c ≥ 48) = true := decide_eq_true (by omega)
  have e5 : decide (c ≤ 57) = false := decide_eq_false (by omega)
  go_enter Tryz.func105, Tryz.ntmps105
  by_cases h95 : c = 95
  · have q95 : (c == 95) = true := beq_iff_eq.2 (by omega)
    go_wp2_with fail
    go_ret
    exact ⟨_, rfl, cls_pt (by omega) (by omega) (by omega), rfl⟩
  have q95 : (c == 95) = false := beq_eq_false_iff_ne.2 (by omega)
  have q32 : (c == 32) = false := beq_eq_false_iff_ne.2 (by omega)
  have q9 : (c == 9) = false := beq_eq_false_iff_ne.2 (by omega)
  have q10 : (c == 10) = false := beq_eq_false_iff_ne.2 (by omega)
  have q13 : (c == 13) = false := beq_eq_false_iff_ne.2 (by omega)
  go_wp2_with fail
  refine (ib_any _ _ _).mono ?_
  rintro e w1 ⟨⟨i, rfl⟩, rfl⟩
  cases hi : decide (i ≥ 0)
  · go_wp2_with fail
    go_ret
    exact ⟨_, rfl, cls_pt (by omega) (by omega) (by omega), rfl⟩
  · go_wp2_with fail
    go_ret
    exact ⟨_, rfl, cls_pt (by omega) (by omega) (by omega), rfl⟩
theorem cls_lw (c : Int) (w : World) (h0 : 97 ≤ c) (h1 : c ≤ 122) : Calls Tryz.prog 105 #[.int .u8 c] w (ClsR c w) := by
  have e0 : decide (c ≥ 97) = true := decide_eq_true (by omega)
  have e1 : decide (c ≤ 122) = true := decide_eq_true (by omega)
  have e2 : decide (c ≥ 65) = true := decide_eq_true (by omega)
  have e3 : decide (c ≤ 90) = false := decide_eq_false (by omega)
  have e4 : decide (c ≥ 48) = true := decide_eq_true (by omega)
  have e5 : decide (c ≤ 57) = false := decide_eq_false (by omega)
  go_enter Tryz.func105, Tryz.ntmps105
  go_wp2_with fail
  go_ret
  exact ⟨_, rfl, cls_pt (by omega) (by omega) (by omega), rfl⟩
theorem cls_hi (c : Int) (w : World) (h0 : 123 ≤ c) : Calls Tryz.prog 105 #[.int .u8 c] w (ClsR c w) := by
  have e0 : decide (c ≥ 97) = true := decide_eq_true (by omega)
  have e1 : decide (c ≤ 122) = false := decide_eq_false (by omega)
  have e2 : decide (c ≥ 65) = true := decide_eq_true (by omega)
  have e3 : decide (c ≤ 90) = false := decide_eq_false (by omega)
  have e4 : decide (c ≥ 48) = true := decide_eq_true (by omega)
  have e5 : decide (c ≤ 57) = false := decide_eq_false (by omega)
  go_enter Tryz.func105, Tryz.ntmps105
  have q95 : (c == 95) = false := beq_eq_false_iff_ne.2 (by omega)
  have q32 : (c == 32) = false := beq_eq_false_iff_ne.2 (by omega)
  have q9 : (c == 9) = false := beq_eq_false_iff_ne.2 (by omega)
  have q10 : (c == 10) = false := beq_eq_false_iff_ne.2 (by omega)
  have q13 : (c == 13) = false := beq_eq_false_iff_ne.2 (by omega)
  go_wp2_with fail
  refine (ib_any _ _ _).mono ?_
  rintro e w1 ⟨⟨i, rfl⟩, rfl⟩
  cases hi : decide (i ≥ 0)
  · go_wp2_with fail
    go_ret
    exact ⟨_, rfl, cls_pt (by omega) (by omega) (by omega), rfl⟩
  · go_wp2_with fail
    go_ret
    exact ⟨_, rfl, cls_pt (by omega) (by omega) (by omega), rfl⟩
theorem cls_any (c : Int) (w : World) : Calls Tryz.prog 105 #[.int .u8 c] w (ClsR c w) := by
  by_cases h1 : c ≤ 47
  · exact cls_lo c w h1
  by_cases h2 : c ≤ 57
  · exact cls_dg c w (by omega) h2
  by_cases h3 : c ≤ 64
  · exact cls_m1 c w (by omega) h3
  by_cases h4 : c ≤ 90
  · exact cls_up c w (by omega) h4
  by_cases h5 : c ≤ 96
  · exact cls_m2 c w (by omega) h5
  by_cases h6 : c ≤ 122
  · exact cls_lw c w (by omega) h6
  · exact cls_hi c w (by omega)
theorem rng_all {p : Nat → Bool} {n k : Nat} (h : k < n) (hp : p k = true) : ((List.range n).drop k).all p = ((List.range n).drop (k + 1)).all p := by
  have : (List.range n)[k]? = some k := by simp [h]
  exact all_stepD this hp
theorem rng_no {p : Nat → Bool} {n k : Nat} (h : k < n) (hp : p k = false) : ((List.range n).drop k).all p = false := by
  have : (List.range n)[k]? = some k := by simp [h]
  exact all_noD this hp
theorem loop_len (s : ByteArray) : ∀ (n i : Nat) (r : List UInt8), s.size - i = n → (ByteArray.toList.loop s i r).length = r.length + n
  | 0, i, r, h => by
    rw [ByteArray.toList.loop, if_neg (by omega)]; simp
  | n + 1, i, r, h => by
    rw [ByteArray.toList.loop, if_pos (by omega), loop_len s n (i + 1) _ (by omega)]; simp; omega
theorem str_nil (s : ByteArray) : s.toList.isEmpty = decide (s.size = 0) := by
  have : s.toList.length = s.size := by
    unfold ByteArray.toList
    rw [loop_len s s.size 0 [] (by omega)]; simp
  rw [Bool.eq_iff_iff, List.isEmpty_iff, decide_eq_true_eq, ← List.length_eq_zero_iff, this]
set_option maxRecDepth 100000 in
set_option maxHeartbeats 4000000 in
theorem name_any (s : ByteArray) (w : World) : Calls Tryz.prog 60 #[.string s] w fun e w' => e = .returned (.bool (nameB s)) ∧ w = w' := by
  have HD : Hid (nameB s = (decide (1 ≤ s.size) && decide (s.size ≤ 32) && letB (byt s 0) && (List.range s.size).all (fun i => prtB (byt s i)))) := rfl
  have hnil := str_nil s
  go_enter Tryz.func60, Tryz.ntmps60
  by_cases h1 : s.size = 0
  · have e1 : s.toList.isEmpty = true := by rw [hnil]; exact decide_eq_true h1
    have HN : Hid (nameB s = false) := by rw [HD.out, h1]; rfl
    clear h1 hnil
    go_wp2_with fail
    go_ret
    exact ⟨ret_bool HN.out.symm, rfl⟩
  have e1 : s.toList.isEmpty = false := by rw [hnil]; exact decide_eq_false h1
  clear hnil
  by_cases h2 : 32 < s.size
  · have e2 : decide ((s.size : Int) > 32) = true := decide_eq_true (by omega)
    have HN : Hid (nameB s = false) := by rw [HD.out, decide_eq_false (show ¬ s.size ≤ 32 by omega), Bool.and_false]; rfl
    go_wp2_with fail
    go_ret
    exact ⟨ret_bool HN.out.symm, rfl⟩
  have e2 : decide ((s.size : Int) > 32) = false := decide_eq_false (by omega)
  have hs32 : s.size ≤ 32 := by omega
  have h0 : 0 < s.size := by omega
  have HB0 := Lib.hid (byt_at s 0 h0)
  clear h1 h2
  go_wp2_with fail
  refine (cls_any _ _).mono ?_
  rintro e w1 ⟨r, rfl, ⟨hr, -, -⟩, rfl⟩
  rw [← HB0.out] at hr
  cases hl : letB (byt s 0)
  · have e3 : (r != 2) = true := by rw [bne, hr, hl]; rfl
    have HN : Hid (nameB s = false) := by rw [HD.out, hl, Bool.and_false]; rfl
    clear hr hl
    go_wp2_with fail
    go_ret
    exact ⟨ret_bool HN.out.symm, rfl⟩
  have e3 : (r != 2) = false := by rw [bne, hr, hl]; rfl
  have HZ : Hid (nameB s = (List.range s.size).all (fun i => prtB (byt s i))) := by
    rw [HD.out, decide_eq_true (show 1 ≤ s.size by omega), decide_eq_true hs32, hl]; rfl
  clear hr hl HD
  go_wp2_with fail
  clear e1 e2 e3
  go_loopw [20] (fun i wr => ∃ k : Nat, k ≤ s.size ∧ i = .int .i64 k ∧ Hid (nameB s = ((List.range s.size).drop k).all (fun i => prtB (byt s i))) ∧ wr = w) (fun i _ => s.size - (intOf i).toNat)
  case atStart => exact ⟨0, Nat.zero_le _, rfl, HZ.out, rfl⟩
  case round =>
    obtain ⟨k, hk, rfl, HQ, hw⟩ := hrel
    obtain rfl : w = wr := hw.symm
    by_cases hlt : k < s.size
    · have hlt' : (k : Int) < s.size := by omega
      have HBK := Lib.hid (byt_at s k hlt)
      go_wp2_with fail
      refine (cls_any _ _).mono ?_
      rintro e w1 ⟨r, rfl, ⟨hr2, hr3, hr5⟩, rfl⟩
      try simp only [Int.toNat_natCast] at hr2 hr3 hr5
      rw [← HBK.out] at hr2 hr3 hr5
      cases hp : prtB (byt s k)
      · have HN := Lib.hid (rng_no (p := fun i => prtB (byt s i)) hlt hp)
        simp only [prtB, Bool.or_eq_false_iff] at hp
        have e4 : (r != 2) = true := by rw [bne, hr2, hp.1.1]; rfl
        have e5 : (r != 3) = true := by rw [bne, hr3, hp.1.2]; rfl
        have e6 : (r != 5) = true := by rw [bne, hr5, hp.2]; rfl
        clear hr2 hr3 hr5 hp
        go_wp2_with fail
        go_ret
        exact ⟨ret_bool (HQ.out.trans HN.out).symm, rfl⟩
      · have HN := Lib.hid (rng_all (p := fun i => prtB (byt s i)) hlt hp)
        simp only [prtB, Bool.or_eq_true] at hp
        by_cases h2 : r = 2
        · have e4 : (r != 2) = false := by simpa using h2
          clear hr2 hr3 hr5 hp h2
          go_wp2_with fail
          first | exact ⟨⟨k + 1, by omega, by go_num, HQ.out.trans HN.out, by first | rfl | trivial⟩, by simp [intOf] <;> omega⟩ | (go_roundw; all_goals first | exact ⟨k + 1, by omega, by go_num, HQ.out.trans HN.out, by first | rfl | trivial⟩ | (simp [intOf] <;> omega))
        have e4 : (r != 2) = true := by simpa using h2
        by_cases h3 : r = 3
        · have e5 : (r != 3) = false := by simpa using h3
          clear hr2 hr3 hr5 hp h2 h3
          go_wp2_with fail
          first | exact ⟨⟨k + 1, by omega, by go_num, HQ.out.trans HN.out, by first | rfl | trivial⟩, by simp [intOf] <;> omega⟩ | (go_roundw; all_goals first | exact ⟨k + 1, by omega, by go_num, HQ.out.trans HN.out, by first | rfl | trivial⟩ | (simp [intOf] <;> omega))
        have e5 : (r != 3) = true := by simpa using h3
        have h5 : r = 5 := by
          rcases hp with (hp | hp) | hp
          · rw [← hr2] at hp; exact absurd (by simpa using hp) h2
          · rw [← hr3] at hp; exact absurd (by simpa using hp) h3
          · rw [← hr5] at hp; simpa using hp
        have e6 : (r != 5) = false := by simpa using h5
        clear hr2 hr3 hr5 hp h2 h3 h5
        go_wp2_with fail
        first | exact ⟨⟨k + 1, by omega, by go_num, HQ.out.trans HN.out, by first | rfl | trivial⟩, by simp [intOf] <;> omega⟩ | (go_roundw; all_goals first | exact ⟨k + 1, by omega, by go_num, HQ.out.trans HN.out, by first | rfl | trivial⟩ | (simp [intOf] <;> omega))
    · have hlt' : decide ((k : Int) < s.size) = false := decide_eq_false (by omega)
      have hd : (List.range s.size).drop k = [] := List.drop_eq_nil_of_le (by simp; omega)
      rw [hd] at HQ
      clear hd
      go_wp2_with fail
      go_ret
      exact ⟨ret_bool HQ.out.symm, rfl⟩
end Go.Proofs.YtjiojpoiocdnmaaGreat
/- Tracks, paths, stations, reports, as they lie in memory. No program in sight. -/
set_option linter.unusedSimpArgs false
set_option linter.unusedVariables false
namespace Go.Proofs.YtjiojpoiocdnmaaGreat
open Go.RowKit
structure Pth where
  way : Int
  ts : SliceOf Int
structure Opt where
  de : Int
  way : Int
  ho : Int
  cn : Bool
structure Flt where
  id : Int
  al : Int
  cl : Int
  call : ByteArray
  ws : SH
  wi : Sp
  cn : Bool
structure Trk where
  fl : Flt
  op : Opt
  ps : SliceOf Pth
  po : SH
structure Stn where
  vs : SliceOf Int
  sh : Int
  fa : Int
structure Rep where
  st : Int
  no : Int
  mi : Int
  ar : Int
  call : ByteArray
  vol : Int
structure Sty where
  air : Bool
  ix : Int
  mi : Sp
def Pth.cells (x : Pth) : List Value := [.int .i64 x.way, .slice x.ts.A x.ts.l.length x.ts.c]
abbrev Pth.v (x : Pth) : Value := .agg #[.int .i64 x.way, .slice x.ts.A x.ts.l.length x.ts.c]
theorem Pth.cells_len (x : Pth) : x.cells.length = 2 := rfl
def Pth.ok (w : World) (x : Pth) : Prop := SliceOf.ok ic 1 (fun _ n => (Lit.int .i64 n).wf = true) w x.ts
def Opt.cells (x : Opt) : List Value := [.int .i64 x.de, .int .i64 x.way, .int .i64 x.ho, .bool x.cn]
abbrev Opt.v (x : Opt) : Value := .agg #[.int .i64 x.de, .int .i64 x.way, .int .i64 x.ho, .bool x.cn]
theorem Opt.cells_len (x : Opt) : x.cells.length = 4 := rfl
def Opt.ok (w : World) (x : Opt) : Prop := True
def Flt.cells (x : Flt) : List Value := [.int .i64 x.id, .int .i64 x.al, .int .i64 x.cl, .string x.call, .slice x.ws.A x.ws.n x.ws.c, .int .i64 x.wi.f, .int .i64 x.wi.t, .bool x.cn]
abbrev Flt.v (x : Flt) : Value := .agg #[.int .i64 x.id, .int .i64 x.al, .int .i64 x.cl, .string x.call, .slice x.ws.A x.ws.n x.ws.c, .int .i64 x.wi.f, .int .i64 x.wi.t, .bool x.cn]
theorem Flt.cells_len (x : Flt) : x.cells.length = 8 := rfl
def Flt.ok (w : World) (x : Flt) : Prop := x.ws.n ≤ x.ws.c ∧ x.ws.c ≤ maxLen ∧ Sp.ok w x.wi
def Trk.cells (x : Trk) : List Value := [.int .i64 x.fl.id, .int .i64 x.fl.al, .int .i64 x.fl.cl, .string x.fl.call, .slice x.fl.ws.A x.fl.ws.n x.fl.ws.c, .int .i64 x.fl.wi.f, .int .i64 x.fl.wi.t, .bool x.fl.cn, .int .i64 x.op.de, .int .i64 x.op.way, .int .i64 x.op.ho, .bool x.op.cn, .slice x.ps.A x.ps.l.length x.ps.c, .slice x.po.A x.po.n x.po.c]
abbrev Trk.v (x : Trk) : Value := .agg #[.int .i64 x.fl.id, .int .i64 x.fl.al, .int .i64 x.fl.cl, .string x.fl.call, .slice x.fl.ws.A x.fl.ws.n x.fl.ws.c, .int .i64 x.fl.wi.f, .int .i64 x.fl.wi.t, .bool x.fl.cn, .int .i64 x.op.de, .int .i64 x.op.way, .int .i64 x.op.ho, .bool x.op.cn, .slice x.ps.A x.ps.l.length x.ps.c, .slice x.po.A x.po.n x.po.c]
theorem Trk.cells_len (x : Trk) : x.cells.length = 14 := rfl
def Trk.ok (w : World) (x : Trk) : Prop := Flt.ok w x.fl ∧ Opt.ok w x.op ∧ SliceOf.ok Pth.cells 2 Pth.ok w x.ps ∧ x.po.n ≤ x.po.c ∧ x.po.c ≤ maxLen
def Stn.cells (x : Stn) : List Value := [.slice x.vs.A x.vs.l.length x.vs.c, .int .i64 x.sh, .int .i64 x.fa]
abbrev Stn.v (x : Stn) : Value := .agg #[.slice x.vs.A x.vs.l.length x.vs.c, .int .i64 x.sh, .int .i64 x.fa]
theorem Stn.cells_len (x : Stn) : x.cells.length = 3 := rfl
def Stn.ok (w : World) (x : Stn) : Prop := SliceOf.ok ic 1 (fun _ n => (Lit.int .i64 n).wf = true) w x.vs
def Rep.cells (x : Rep) : List Value := [.int .i64 x.st, .int .i64 x.no, .int .i64 x.mi, .int .i64 x.ar, .string x.call, .int .i64 x.vol]
abbrev Rep.v (x : Rep) : Value := .agg #[.int .i64 x.st, .int .i64 x.no, .int .i64 x.mi, .int .i64 x.ar, .string x.call, .int .i64 x.vol]
theorem Rep.cells_len (x : Rep) : x.cells.length = 6 := rfl
def Rep.ok (w : World) (x : Rep) : Prop := True
def Sty.cells (x : Sty) : List Value := [.bool x.air, .int .i64 x.ix, .int .i64 x.mi.f, .int .i64 x.mi.t]
abbrev Sty.v (x : Sty) : Value := .agg #[.bool x.air, .int .i64 x.ix, .int .i64 x.mi.f, .int .i64 x.mi.t]
theorem Sty.cells_len (x : Sty) : x.cells.length = 4 := rfl
def Sty.ok (w : World) (x : Sty) : Prop := Sp.ok w x.mi
variable {w w' : World}
theorem Pth.ok.ext {x : Pth} (h : Pth.ok w x) (hb : Below w.heap.size w w') : Pth.ok w' x := ints.ext h hb
theorem Stn.ok.ext {x : Stn} (h : Stn.ok w x) (hb : Below w.heap.size w w') : Stn.ok w' x := ints.ext h hb
theorem pths.ext {x : SliceOf Pth} (h : SliceOf.ok Pth.cells 2 Pth.ok w x) (hb : Below w.heap.size w w') : SliceOf.ok Pth.cells 2 Pth.ok w' x := SliceOf.ok.ext h hb (fun _ k => k.ext hb)
theorem Trk.ok.ext {x : Trk} (h : Trk.ok w x) (hb : Below w.heap.size w w') : Trk.ok w' x := ⟨h.1, trivial, pths.ext h.2.2.1 hb, h.2.2.2⟩
end Go.Proofs.YtjiojpoiocdnmaaGreat
/- The reference's small tests: in, has, spans, modes, kinds, indices. -/
set_option linter.unusedSimpArgs false
set_option linter.unusedVariables false
namespace Go.Proofs.YtjiojpoiocdnmaaGreat
open Go.RowKit
end Go.Proofs.YtjiojpoiocdnmaaGreat
