/- Contracts by a named result; are two lists of indices equal? -/
import Derived.Test.YtmgpbjpohbpgpaaF
import Derived.Test.YtmgpbjpohbpgpaaN
import Derived.Test.YtmgpbjpohbpgpaaOSet
set_option linter.unusedSimpArgs false
set_option linter.unusedVariables false
namespace Go.Proofs.Ytmgpbjpohbpgpaa
open Go.RowKit
theorem same_stepI {a b : List Int} {k : Nat} {x y : Int} (h : a.take k = b.take k) (hx : a[k]? = some x) (hy : b[k]? = some y) (hxy : x = y) : a.take (k + 1) = b.take (k + 1) := by
  simp [List.take_add_one, h, hx, hy, hxy]
theorem same_noI {a b : List Int} {k : Nat} {x y : Int} (hx : a[k]? = some x) (hy : b[k]? = some y) (hxy : x ≠ y) : a ≠ b := by
  rintro rfl; rw [hx] at hy; exact hxy (Option.some.inj hy)
set_option maxHeartbeats 400000 in
theorem sameqI (A B : Option Addr) (ca cb : Nat) (a b : List Int) (w : World) (ha : Slc w ic 1 A a) (hb : Slc w ic 1 B b) (hn : a.length < 1048576) :
    Calls Try.prog 12 #[.slice A a.length ca, .slice B b.length cb] w fun e w' => e = .returned (.bool (decide (a = b))) ∧ ∃ n, w' = w.drewN n := by
  by_cases hl : a.length = b.length
  · have hl1 : ((a.length : Int) != (b.length : Int)) = false := by simp; omega
    have HL := Lib.hid hl
    have hlb : b.length ≤ a.length := by omega
    have hlb' : a.length ≤ b.length := by omega
    clear hl
    go_enter Try.func12, Try.ntmps12
    go_wp2
    go_loopw [5] (fun i wr => ∃ k : Nat, k ≤ a.length ∧ i = .int .i64 k ∧ a.take k = b.take k ∧ Hid (∃ n, wr = w.drewN n)) (fun i _ => a.length - (intOf i).toNat)
    case atStart => exact ⟨0, Nat.zero_le _, rfl, by simp, 0, rfl⟩
    case round =>
      obtain ⟨k, hk, rfl, htk, hbe⟩ := hrel
      have HT := Lib.hid htk
      clear htk
      by_cases hlt : k < a.length
      · obtain ⟨x, b1, o1, hx, rfl, _, hc⟩ := (Slc.drewE ha hbe.out).at_ hlt
        obtain ⟨y, b2, o2, hy, rfl, _, hd⟩ := (Slc.drewE hb hbe.out).at_ (show k < b.length by omega)
        have HX := Lib.hid hx
        have HY := Lib.hid hy
        clear hx hy
        have c0 := hc 0 _ rfl
        have d0 := hd 0 _ rfl
        simp only [Nat.mul_one, Nat.add_zero] at c0 d0
        clear hc hd
        have hltb : k < b.length := by omega
        have hi1 : (k : Int) < (a.length : Int) := by omega
        have hi2 : (k : Int) < (b.length : Int) := by omega
        have hcs : (x != y) = !decide (x = y) := by simp [bne, BEq.beq]
        go_wp2
        go_quiet (fail)
        go_wp2
        · have hxy : (!decide (x = y)) = true := by assumption
          go_ret
          exact ⟨ret_bool (by simp [same_noI HX.out HY.out (by simpa using hxy)]), drewE hbe.out _⟩
        · have hxy : (!decide (x = y)) = false := by assumption
          go_roundw
          case rel => exact ⟨k + 1, hlt, by go_num, same_stepI HT.out HX.out HY.out (by simpa using hxy), drewE hbe.out _⟩
          case measure => simp [intOf]; omega
      · go_wp2
        go_ret
        refine ⟨ret_bool ?_, hbe.out⟩
        have h1 := HT.out
        rw [List.take_of_length_le (by omega), List.take_of_length_le (by omega)] at h1
        simp [h1]
  · have hl1 : ((a.length : Int) != (b.length : Int)) = true := by simp; omega
    have HL := Lib.hid hl
    clear hl
    go_enter Try.func12, Try.ntmps12
    go_wp2
    go_ret
    exact ⟨ret_bool (by simp; intro h; exact HL.out (by rw [h])), 0, rfl⟩
theorem sameI {A B : Option Addr} {ca cb : Nat} {a b : List Int} {w : World} {n m : Nat} (r : Bool) (hr : decide (a = b) = r) (hl : n = a.length) (hm : m = b.length) (ha : Slc w ic 1 A a) (hb : Slc w ic 1 B b) (hn : a.length < 1000000) :
    Calls Try.prog 12 #[.slice A n ca, .slice B m cb] w fun e w' => e = .returned (.bool r) ∧ Below w.heap.size w w' := by
  subst hr hl hm
  exact (sameqI A B ca cb a b w ha hb (by omega)).mono fun _ _ ⟨h1, n, h2⟩ => ⟨h1, by rw [h2]; exact ext_drewN (ext_refl w) n⟩

theorem nc_ic {w : World} {A : Option Addr} {l : List Nat} (h : Slc w nc 1 A l) : Slc w ic 1 A (l.map (fun k : Nat => (k : Int))) := fun i x hx => by
  rw [List.getElem?_map] at hx
  cases hi : l[i]? with
  | none => rw [hi] at hx; cases hx
  | some k =>
    rw [hi] at hx
    obtain rfl : (k : Int) = x := by simpa using hx
    exact h i k hi
theorem cast_inj {a b : List Nat} : (a.map (fun k : Nat => (k : Int)) = b.map (fun k : Nat => (k : Int))) ↔ a = b :=
  ⟨fun h => (List.map_inj_right (f := fun k : Nat => (k : Int)) (fun x y h => Int.ofNat.inj h)).1 h, fun h => by rw [h]⟩
theorem sameN {A B : Option Addr} {ca cb : Nat} {a b : List Nat} {w : World} {n m : Nat} (r : Bool) (hr : decide (a = b) = r) (hl : n = a.length) (hm : m = b.length) (ha : Slc w nc 1 A a) (hb : Slc w nc 1 B b) (hn : a.length < 1000000) :
    Calls Try.prog 12 #[.slice A n ca, .slice B m cb] w (RetB w r) :=
  sameI r (by rw [← hr]; simp only [cast_inj]) (by simpa using hl) (by simpa using hm) (nc_ic ha) (nc_ic hb) (by simpa using hn)
theorem weight_at {a : As} {cl : Int} {w : World} (n err : Int) (hn : weightN a.cls.n a.aps.n a.rs.l cl = n) (he : chkC a.cls.n a.aps.n a.rs.l cl = err) (ha : AOk w a) : Calls Try.prog 13 #[.agg #[.slice a.s0.A a.s0.n a.s0.c, .slice a.s1.A a.s1.n a.s1.c, .slice a.s2.A a.s2.n a.s2.c, .slice a.s3.A a.s3.n a.s3.c, .slice a.s4.A a.s4.n a.s4.c, .slice a.aps.A a.aps.n a.aps.c, .slice a.cls.A a.cls.n a.cls.c, .slice a.rs.A a.rs.l.length a.rs.c], .int .i64 cl] w (NeR w n err) := by
  subst hn he; exact weight_any a cl w ha
theorem longest_at {a : As} {cl : Int} {w : World} (n err : Int) (hn : longN a.cls.n a.aps.n a.rs.l cl = n) (he : chkC a.cls.n a.aps.n a.rs.l cl = err) (ha : AOk w a) : Calls Try.prog 14 #[.agg #[.slice a.s0.A a.s0.n a.s0.c, .slice a.s1.A a.s1.n a.s1.c, .slice a.s2.A a.s2.n a.s2.c, .slice a.s3.A a.s3.n a.s3.c, .slice a.s4.A a.s4.n a.s4.c, .slice a.aps.A a.aps.n a.aps.c, .slice a.cls.A a.cls.n a.cls.c, .slice a.rs.A a.rs.l.length a.rs.c], .int .i64 cl] w (NeR w n err) := by
  subst hn he; exact longest_any a cl w ha
theorem curfew_at {a : As} {cl ap : Int} {w : World} (l : List Sp) (err : Int) (hl : curN a.cls.n a.aps.n a.rs.l cl ap = l) (he : curE a.cls.n a.aps.n a.rs.l cl ap = err) (ha : AOk w a) : Calls Try.prog 15 #[.agg #[.slice a.s0.A a.s0.n a.s0.c, .slice a.s1.A a.s1.n a.s1.c, .slice a.s2.A a.s2.n a.s2.c, .slice a.s3.A a.s3.n a.s3.c, .slice a.s4.A a.s4.n a.s4.c, .slice a.aps.A a.aps.n a.aps.c, .slice a.cls.A a.cls.n a.cls.c, .slice a.rs.A a.rs.l.length a.rs.c], .int .i64 cl, .int .i64 ap] w (SeR w l err) := by
  subst hl he; exact curfew_any a cl ap w ha
theorem reason_at {a : As} {w : World} (l : List Nat) (err : Int) (hl : reaL a.cls.n a.aps.n a.rs.l = l) (he : chkR a.cls.n a.aps.n a.rs.l = err) (ha : AOk w a) : Calls Try.prog 10 #[.agg #[.slice a.s0.A a.s0.n a.s0.c, .slice a.s1.A a.s1.n a.s1.c, .slice a.s2.A a.s2.n a.s2.c, .slice a.s3.A a.s3.n a.s3.c, .slice a.s4.A a.s4.n a.s4.c, .slice a.aps.A a.aps.n a.aps.c, .slice a.cls.A a.cls.n a.cls.c, .slice a.rs.A a.rs.l.length a.rs.c]] w (ReaR w l err) := by
  subst hl he; exact reason_any a w ha
/-- A rule that is a curfew of the class 0 at the airport 0. -/
def cuf (f t : Int) : Ru := ⟨1, ⟨#[]⟩, ⟨#[]⟩, 0, 0, 0, f, t⟩
theorem cuf_any (f t : Int) (w : World) : Calls Try.prog 20 #[.int .i64 f, .int .i64 t] w fun e w' => e = .returned (.agg #[.int .i64 1, .string ⟨#[]⟩, .string ⟨#[]⟩, .int .i64 0, .int .i64 0, .int .i64 0, .int .i64 f, .int .i64 t]) ∧ Below w.heap.size w w' := by
  go_enter Try.func20, Try.ntmps20
  go_wp2_with fail
  refine bodyPost_ret (v := .agg #[.int .i64 1, .string ⟨#[]⟩, .string ⟨#[]⟩, .int .i64 0, .int .i64 0, .int .i64 0, .int .i64 f, .int .i64 t]) (by simp [results, Try.results20, go_sem, *]) rfl ?_
  exact ⟨rfl, ext_alloc (ext_refl w) _⟩
end Go.Proofs.Ytmgpbjpohbpgpaa
