/- At. -/
import Derived.Test.YtemdebheinbolaaH
namespace Go.Proofs.Ytemdebheinbolaa
open Go.RowKit Go.Shelf
attribute [local go_sem] Oper.semAt_some
theorem way_any (A : Option Addr) (c n : Nat) (node : Int) (w : World) : Calls Try.prog 34 #[.slice A n c, .int .i64 node] w fun e w' => e = .returned (.func (.func 44) #[] #[.pointer (some ⟨w.heap.size + 1, 0, none⟩), .pointer (some ⟨w.heap.size, 0, none⟩)]) ∧ (w.alloc (.cells #[.slice A n c] 22)).alloc (.cells #[.int .i64 node] 3) = w' := by
  go_enter Try.func34, Try.ntmps34
  go_wp2
  go_ret
  exact ⟨rfl, rfl⟩
def KpE (B : Nat) (ex : Nat → Prop) (W W' : World) : Prop := Kx B ex W W' ∧ W.heap.size ≤ W'.heap.size
theorem KpE.t {B : Nat} {ex : Nat → Prop} {X Y Z : World} (h : KpE B ex X Y) (k : KpE B ex Y Z) : KpE B ex X Z := ⟨h.1.t k.1, Nat.le_trans h.2 k.2⟩
theorem KpE.b {B : Nat} {ex : Nat → Prop} {w : World} (hB : B ≤ w.heap.size) (W : World) (l : Nat) (o o' : Obj) (hl : w.heap.size ≤ l) (h : W.heap[l]? = some o) (h1 : o.isCells = false) (h2 : o.isWalk = false) : KpE B ex W (W.putObj l o') :=
  ⟨Kx.b hB W l o o' hl h h1 h2, (grownBy_putObj' W l o').size⟩
/-- A node's number. -/
abbrev NI (l : List Nd) := { y : Int // 0 ≤ y ∧ y < l.length }
def rawN {l : List Nd} (p : List (NI l)) : List Int := p.map (fun y => y.1)
theorem rawN_snoc {l : List Nd} (p : List (NI l)) (y : NI l) : rawN (p ++ [y]) = rawN p ++ [y.1] := by simp [rawN]
theorem rawN_len {l : List Nd} (p : List (NI l)) : (rawN p).length = p.length := by simp [rawN]
def encN {l : List Nd} (y : NI l) : Array Value := #[.int .i64 y.1]
theorem way_stops (n : Nat) (hn : 1 ≤ n) (B : Nat) (ex : Nat → Prop) (bn bl : Nat) (A : Option Addr) (c : Nat) (l : List Nd) (node : Int) (hT : Tree l) (hnd : -1 ≤ node ∧ node < l.length) (w : World) (hB : B ≤ w.heap.size) (hC : WCap w B ex bn bl A c l node) :
    SeqStopsK Fence.wide n Try.prog 44 #[.pointer (some ⟨bn, 0, none⟩), .pointer (some ⟨bl, 0, none⟩)] (encN (l := l)) (KpE B ex) (fun ys => rawN ys = way l node) (fun pre => rawN pre <+: way l node) (way l node).length w :=
  fun y J Jx W hW hJ _ hY hJ0 => (way1_in n hn y B ex bn bl A c l node hT hnd (fun pre W => ∃ p, rawN p = pre ∧ J p W) (fun pre W => ∃ p, rawN p = pre ∧ Jx p W) W
    (fun s X Y row ⟨p, e, hj⟩ hg hr => ⟨p, e, hJ p X Y row hj hg hr⟩)
    (fun pre x W1 ⟨p, e, hj⟩ hx hlen => (hY p ⟨x, hx⟩ W1 hj (by rw [← rawN_len, e]; exact hlen)).mono fun e' W' h => by
      rcases h with ⟨h1, h2, h3⟩ | ⟨h1, h2⟩
      · exact .inl ⟨h1, ⟨_, by rw [rawN_snoc, e], h2⟩, h3⟩
      · exact .inr ⟨h1, _, by rw [rawN_snoc, e], h2⟩)
    (hC.keep (Kx.below hW hB) hW.size) ⟨[], rfl, hJ0⟩).mono fun e W' ⟨h1, h2⟩ => ⟨h1, by
      rcases h2 with ⟨ys, e1, p, e2, hj⟩ | ⟨pre, e1, p, e2, hj⟩
      · exact .inl ⟨p, e2.trans e1, hj⟩
      · exact .inr ⟨p, by show rawN p <+: _; rw [e2]; exact e1, hj⟩⟩
/-- The captured boxes as 'way' lays them. -/
theorem WCap.new (w : World) (A : Option Addr) (c : Nat) (l : List Nd) (node : Int) (ex : Nat → Prop) (ha : Slc w Nd.cells 3 A l) (hex : ∀ k, ex k → w.heap.size + 2 ≤ k) (hne : 0 < l.length) :
    WCap ((w.alloc (.cells #[.slice A l.length c] 22)).alloc (.cells #[.int .i64 node] 3)) (w.heap.size + 2) ex (w.heap.size + 1) w.heap.size A c l node := by
  refine ⟨by omega, by omega, fun h => by have := hex _ h; omega, fun h => by have := hex _ h; omega, ?_, ?_, (ha.alloc _).alloc _, ?_⟩
  · have := (Boxed.new (w.alloc (.cells #[.slice A l.length c] 22)) 3 (.int .i64 node)).cell
    rwa [World.size_alloc] at this
  · have := ((Boxed.new w 22 (.slice A l.length c)).alloc (.cells #[.int .i64 node] 3)).cell
    exact this
  · rintro b o s rfl
    obtain ⟨x, b', o', _, e, hlt, _⟩ := ha.at_ hne
    cases e
    exact ⟨by omega, fun h => by have := hex _ h; omega⟩
def RetI (w : World) (r : Int × Int) (e : Ending) (w' : World) : Prop := e = .returned (.tuple #[.int .i64 r.1, .int .i64 r.2]) ∧ Below w.heap.size w w'
theorem isleaf_at {A : Option Addr} {n c : Nat} {l : List Nd} {x : Int} {w : World} (r : Bool) (hr : leafB l x = r) (hn : n = l.length) (ha : Slc w Nd.cells 3 A l) (h : l.length ≤ 1000) : Calls Try.prog 33 #[.slice A n c, .int .i64 x] w (RetB w r) := by
  subst hr hn; exact isleaf_any A c l x w ha h
theorem cell_turn {w w' : World} {row : Option Nat} {b o : Nat} {v : Value} (h : w.cell? ⟨b, o, none⟩ = some v) (hg : w.grownBy w' row) (hr : ∀ r, row = some r → ∃ ob : Obj, w.heap[r]? = some ob ∧ ob.isCells = false) : w'.cell? ⟨b, o, none⟩ = some v ∧ w'.frozen? ⟨b, o, none⟩ = w.frozen? ⟨b, o, none⟩ := by
  have hlt : b < w.heap.size := by
    simp only [World.cell?] at h
    split at h
    · rename_i hh; exact (Array.getElem?_eq_some_iff.1 hh).1
    · cases h
  have hne : some b ≠ row := by
    intro e'
    obtain ⟨ob, h1, h2⟩ := hr b e'.symm
    simp only [World.cell?, h1] at h
    cases ob <;> simp_all [Obj.isCells]
  have hb := hg.block b hlt hne
  exact ⟨(World.cell?_of_block (w := w) (a := ⟨b, o, none⟩) hb).trans h, World.frozen?_of_block (w := w) (a := ⟨b, o, none⟩) hb⟩
/-- The boxes of At. -/
structure AtB (w : World) (b : Nat) (A : Option Addr) (n c : Nat) (m r e : Int) : Prop where
  lt : b + 1 + 1 + 1 < w.heap.size
  l : w.cell? ⟨b, 0, none⟩ = some (.slice A n c)
  m : w.cell? ⟨b + 1, 0, none⟩ = some (.int .i64 m)
  r : w.cell? ⟨b + 1 + 1, 0, none⟩ = some (.int .i64 r)
  rf : w.frozen? ⟨b + 1 + 1, 0, none⟩ = false
  e : w.cell? ⟨b + 1 + 1 + 1, 0, none⟩ = some (.int .i64 e)
  ef : w.frozen? ⟨b + 1 + 1 + 1, 0, none⟩ = false
theorem AtB.ext {w w' : World} {b : Nat} {A : Option Addr} {n c : Nat} {m r e : Int} (h : AtB w b A n c m r e) (hb : Below w.heap.size w w') : AtB w' b A n c m r e := by
  have := h.lt
  obtain ⟨hc, hf⟩ := bcell hb
  exact ⟨Nat.lt_of_lt_of_le h.lt hb.size, (hc b 0 (by omega)).trans h.l, (hc (b + 1) 0 (by omega)).trans h.m, (hc (b + 1 + 1) 0 (by omega)).trans h.r, (hf (b + 1 + 1) 0 (by omega)).trans h.rf, (hc (b + 1 + 1 + 1) 0 (by omega)).trans h.e, (hf (b + 1 + 1 + 1) 0 (by omega)).trans h.ef⟩
theorem AtB.new (w : World) (A : Option Addr) (n c : Nat) (m : Int) : AtB ((((w.alloc (.cells #[.slice A n c] 22)).alloc (.cells #[.int .i64 m] 3)).alloc (.cells #[.int .i64 0] 3)).alloc (.cells #[.int .i64 0] 26)) w.heap.size A n c m 0 0 :=
  ⟨by simp, (((Boxed.new w 22 (.slice A n c)).alloc _).alloc _).alloc _ |>.cell,
    by have := (((Boxed.new (w.alloc (.cells #[.slice A n c] 22)) 3 (.int .i64 m)).alloc (.cells #[.int .i64 0] 3)).alloc (.cells #[.int .i64 0] 26)).cell; rwa [World.size_alloc] at this,
    by have := ((Boxed.new ((w.alloc (.cells #[.slice A n c] 22)).alloc (.cells #[.int .i64 m] 3)) 3 (.int .i64 0)).alloc (.cells #[.int .i64 0] 26)).cell; rwa [World.size_alloc, World.size_alloc] at this,
    by have := ((Boxed.new ((w.alloc (.cells #[.slice A n c] 22)).alloc (.cells #[.int .i64 m] 3)) 3 (.int .i64 0)).alloc (.cells #[.int .i64 0] 26)).frozen; rwa [World.size_alloc, World.size_alloc] at this,
    by have := (Boxed.new (((w.alloc (.cells #[.slice A n c] 22)).alloc (.cells #[.int .i64 m] 3)).alloc (.cells #[.int .i64 0] 3)) 26 (.int .i64 0)).cell; rwa [World.size_alloc, World.size_alloc, World.size_alloc] at this,
    by have := (Boxed.new (((w.alloc (.cells #[.slice A n c] 22)).alloc (.cells #[.int .i64 m] 3)).alloc (.cells #[.int .i64 0] 3)) 26 (.int .i64 0)).frozen; rwa [World.size_alloc, World.size_alloc, World.size_alloc] at this⟩
theorem AtB.set {w : World} {b : Nat} {A : Option Addr} {n c : Nat} {m r e : Int} (h : AtB w b A n c m r e) (r' e' : Int) : AtB ((w.setCell ⟨b + 1 + 1, 0, none⟩ (.int .i64 r')).setCell ⟨b + 1 + 1 + 1, 0, none⟩ (.int .i64 e')) b A n c m r' e' := by
  have o := fun (W : World) (k j : Nat) (x : Value) (hk : k ≠ j) => World.cell?_setCell_other W ⟨j, 0, none⟩ ⟨k, 0, none⟩ x (by intro e; injection e with e _; omega)
  refine ⟨by simpa using h.lt, ?_, ?_, ?_, by simpa using h.rf, ?_, by simpa using h.ef⟩
  · rw [o _ b (b + 1 + 1 + 1) _ (by omega), o _ b (b + 1 + 1) _ (by omega)]; exact h.l
  · rw [o _ (b + 1) (b + 1 + 1 + 1) _ (by omega), o _ (b + 1) (b + 1 + 1) _ (by omega)]; exact h.m
  · rw [o _ (b + 1 + 1) (b + 1 + 1 + 1) _ (by omega)]; exact World.cell?_setCell_same' _ _ _ (by rw [h.r]; rfl)
  · exact World.cell?_setCell_same' _ _ _ (by rw [o _ (b + 1 + 1 + 1) (b + 1 + 1) _ (by omega), h.e]; rfl)
theorem AtB.turn {w w' : World} {b : Nat} {A : Option Addr} {n c : Nat} {m r e : Int} {row : Option Nat} (h : AtB w b A n c m r e) (hg : w.grownBy w' row) (hr : ∀ r, row = some r → ∃ o : Obj, w.heap[r]? = some o ∧ o.isCells = false) : AtB w' b A n c m r e := by
  have key : ∀ {k : Nat} {v : Value}, w.cell? ⟨k, 0, none⟩ = some v → w'.cell? ⟨k, 0, none⟩ = some v ∧ w'.frozen? ⟨k, 0, none⟩ = w.frozen? ⟨k, 0, none⟩ := fun h => cell_turn h hg hr
  exact ⟨Nat.lt_of_lt_of_le h.lt hg.size, (key h.l).1, (key h.m).1, (key h.r).1, (key h.r).2.trans h.rf, (key h.e).1, (key h.e).2.trans h.ef⟩
theorem find_first (p : Int → Bool) : ∀ {pre : List Int} {y : Int} {L : List Int}, pre ++ [y] <+: L → (∀ z ∈ pre, p z = false) → p y = true → L.find? p = some y
  | [], y, L, ⟨r, hr⟩, _, hy => by rw [← hr]; simp [List.find?_cons, hy]
  | a :: pre, y, L, ⟨r, hr⟩, h, hy => by
    rw [← hr]
    have ih := find_first p (pre := pre) (y := y) (L := pre ++ [y] ++ r) ⟨r, rfl⟩ (fun z hz => h z (by simp [hz])) hy
    simp only [List.cons_append, List.find?_cons, h a (by simp)]
    simpa using ih
theorem set2_below {w W : World} (h : Below w.heap.size w W) (x y : Value) {i j : Nat} (hi : w.heap.size ≤ i) (hj : w.heap.size ≤ j) : Below w.heap.size w ((W.setCell ⟨i, 0, none⟩ x).setCell ⟨j, 0, none⟩ y) :=
  (h.setCell (p := ⟨i, 0, none⟩) hi x).setCell (p := ⟨j, 0, none⟩) hj y
set_option maxRecDepth 100000 in
set_option maxHeartbeats 3200000 in
theorem at_any (A : Option Addr) (c : Nat) (l : List Nd) (leaf m : Int) (w : World) (ha : TOk w A l) : Calls Try.prog 18 #[.slice A l.length c, .int .i64 leaf, .int .i64 m] w (RetI w (atR l leaf m)) := by
  have HN := AtB.new w A l.length c m
  have HE : Hid (Below w.heap.size w ((((w.alloc (.cells #[.slice A l.length c] 22)).alloc (.cells #[.int .i64 m] 3)).alloc (.cells #[.int .i64 0] 3)).alloc (.cells #[.int .i64 0] 26))) := ext_alloc (ext_alloc (ext_alloc (ext_alloc (ext_refl w) _) _) _) _
  refine (callsIn_wide (n := 5)).1 ?_
  refine callsIn_of_wp_marks Try.func18 rfl trivial ?_ rfl
  simp only [Try.ntmps18, List.size_toArray, List.length_cons, List.length_nil, Nat.reduceAdd, Nat.reduceSub, Array.replicate_succ, Array.replicate_zero, List.push_toArray, List.append_toArray, List.nil_append, List.cons_append]
  cases hv : vld l
  · have HV := Lib.hid hv
    have HR : Hid (atR l leaf m = (0, 180)) := by simp [Hid, atR, hv]
    clear hv
    gi_wp2_with fail
    refine ⟨trivial, (callsIn_wide.2 (check_at 180 (chk_no HV.out) rfl (ha.ext HE.out))).mono ?_⟩
    rintro e w1 ⟨rfl, B1⟩
    have N1 := HN.ext B1
    have E1 := ext_trans HE.out B1
    have s1 := N1.lt
    obtain ⟨_, n0, n1, n2, f2, n3, f3⟩ := N1
    have N2 := (HN.ext B1).set 0 180
    obtain ⟨_, _, _, p2, _, p3, _⟩ := N2
    clear HN
    gi_wp2_with fail
    refine ⟨.tuple #[.int .i64 0, .int .i64 180], by simp [results, Try.results18, go_sem, p2, p3], ?_⟩
    rw [HR.out]
    exact ⟨rfl, set2_below E1 _ _ (by omega) (by omega)⟩
  have T := tree_of hv
  have h32 := T.hi
  cases hlf : leafB l leaf
  · have HV := Lib.hid hv
    have HLF := Lib.hid hlf
    have HR : Hid (atR l leaf m = (0, 180)) := by simp [Hid, atR, hlf]
    clear hv T hlf
    gi_wp2_with fail
    refine ⟨trivial, (callsIn_wide.2 (check_at 0 (chk_yes HV.out) rfl (ha.ext HE.out))).mono ?_⟩
    rintro e w1 ⟨rfl, B1⟩
    have N1 := HN.ext B1
    have E1 := ext_trans HE.out B1
    have s1 := N1.lt
    obtain ⟨_, n0, n1, n2, f2, n3, f3⟩ := N1
    gi_wp2_with fail
    refine ⟨trivial, (callsIn_wide.2 (isleaf_at false HLF.out rfl (ha.ext E1).nd (by omega))).mono ?_⟩
    rintro e w2 ⟨rfl, B2⟩
    have N1 := (HN.ext B1).ext B2
    have E2 := ext_trans E1 B2
    have s2 := N1.lt
    clear n0 n1 n2 f2 n3 f3 s1
    have N2 := N1.set 0 180
    obtain ⟨_, n0, n1, n2, f2, n3, f3⟩ := N1
    obtain ⟨_, _, _, p2, _, p3, _⟩ := N2
    clear HN B1 B2 E1
    gi_wp2_with fail
    refine ⟨.tuple #[.int .i64 0, .int .i64 180], by simp [results, Try.results18, go_sem, p2, p3], ?_⟩
    rw [HR.out]
    exact ⟨rfl, set2_below E2 _ _ (by omega) (by omega)⟩
  by_cases hm : 0 ≤ m
  rotate_left
  · have HV := Lib.hid hv
    have HLF := Lib.hid hlf
    have HR : Hid (atR l leaf m = (0, 180)) := by simp [Hid, atR, hm]
    have hm1 : decide (m < 0) = true := by simpa using hm
    have hm2 : m < 0 := by omega
    clear hv T hlf hm
    gi_wp2_with fail
    refine ⟨trivial, (callsIn_wide.2 (check_at 0 (chk_yes HV.out) rfl (ha.ext HE.out))).mono ?_⟩
    rintro e w1 ⟨rfl, B1⟩
    have N1 := HN.ext B1
    have E1 := ext_trans HE.out B1
    have s1 := N1.lt
    obtain ⟨_, n0, n1, n2, f2, n3, f3⟩ := N1
    gi_wp2_with fail
    refine ⟨trivial, (callsIn_wide.2 (isleaf_at true HLF.out rfl (ha.ext E1).nd (by omega))).mono ?_⟩
    rintro e w2 ⟨rfl, B2⟩
    have N1 := (HN.ext B1).ext B2
    have E2 := ext_trans E1 B2
    have s2 := N1.lt
    clear n0 n1 n2 f2 n3 f3 s1
    have N2 := N1.set 0 180
    obtain ⟨_, n0, n1, n2, f2, n3, f3⟩ := N1
    obtain ⟨_, _, _, p2, _, p3, _⟩ := N2
    clear HN B1 B2 E1
    gi_wp2_with fail
    refine ⟨.tuple #[.int .i64 0, .int .i64 180], by simp [results, Try.results18, go_sem, p2, p3], ?_⟩
    rw [HR.out]
    exact ⟨rfl, set2_below E2 _ _ (by omega) (by omega)⟩
  obtain ⟨lf0, lf1, _⟩ := (leafB_iff l leaf).1 hlf
  obtain ⟨xf, hx1, hx2, hx3, r, hx4, hx5⟩ := T.at_some lf0 lf1 hm
  have HR : Hid (atR l leaf m = (xf, 0)) := by simp [Hid, atR, hm, hv, hlf, hx1]
  have HV := Lib.hid hv
  have HLF := Lib.hid hlf
  have HT := Lib.hid T
  have HX2 := Lib.hid hx2
  have HX3 := Lib.hid hx3
  have HX4 := Lib.hid hx4
  have HX5 := Lib.hid hx5
  have hm1 : decide (m < 0) = false := by simpa using hm
  clear hv T hlf hx1 hx2 hx3 hx4 hx5
  gi_wp2_with fail
  refine ⟨trivial, (callsIn_wide.2 (check_at 0 (chk_yes HV.out) rfl (ha.ext HE.out))).mono ?_⟩
  rintro e w1 ⟨rfl, B1⟩
  have N1 := HN.ext B1
  have E1 := ext_trans HE.out B1
  have s1 := N1.lt
  obtain ⟨_, n0, n1, n2, f2, n3, f3⟩ := N1
  gi_wp2_with fail
  refine ⟨trivial, (callsIn_wide.2 (isleaf_at true HLF.out rfl (ha.ext E1).nd (by omega))).mono ?_⟩
  rintro e w2 ⟨rfl, B2⟩
  have N1 := (HN.ext B1).ext B2
  have E2 := ext_trans E1 B2
  have s2 := N1.lt
  clear n0 n1 n2 f2 n3 f3 s1
  have N2 := N1
  obtain ⟨_, n0, n1, n2, f2, n3, f3⟩ := N1
  clear HN B1 B2 E1
  gi_wp2_with fail
  refine ⟨trivial, (callsIn_wide.2 (way_any A c l.length leaf _)).mono ?_⟩
  rintro e w3 ⟨rfl, rfl⟩
  gi_wp2_with fail
  have HAT : Hid (atN l leaf m = some xf) := by
    unfold Hid
    obtain ⟨x', h1, _⟩ := HT.out.at_some lf0 lf1 hm
    have := HR.out
    rw [atR, HV.out, HLF.out, h1] at this
    simp [hm] at this
    rw [h1, this]
  have hC := WCap.new w2 A c l leaf (fun _ => False) (ha.ext E2).nd (fun _ h => h.elim) (by omega)
  obtain ⟨w3, hw3⟩ : ∃ w3, (w2.alloc (.cells #[.slice A l.length c] 22)).alloc (.cells #[.int .i64 leaf] 3) = w3 := ⟨_, rfl⟩
  have hz3 : w3.heap.size = w2.heap.size + 2 := by rw [← hw3]; simp
  have hb23 : Below w2.heap.size w2 w3 := by rw [← hw3]; exact ext_alloc (ext_alloc (ext_refl w2) _) _
  have E3 := ext_trans E2 hb23
  have N3 := N2.ext hb23
  rw [hw3] at hC ⊢
  rw [← hz3] at hC
  have HCC := Lib.hid hC
  have HE3 := Lib.hid E3
  have HN3 := Lib.hid N3
  have HS3 := Lib.hid (ha.ext E3).nd
  clear hw3 hb23 hC E3 N3 N2 n0 n1 n2 f2 n3 f3
  refine wpIn_rangeFunc_ownH (F := Fence.wide) rfl (by decide) (gf := 44) (lb := #[.pointer (some ⟨w2.heap.size + 1, 0, none⟩), .pointer (some ⟨w2.heap.size, 0, none⟩)]) rfl trivial (enters_of Try.func44 (by kernel_rfl) rfl)
    (way_stops 4 (by decide) w3.heap.size (fun _ => False) (w2.heap.size + 1) w2.heap.size A c l leaf HT.out ⟨by omega, lf1⟩ w3 (Nat.le_refl _) HCC.out) KpE.t (KpE.b (Nat.le_refl _)) (Below.refl _ _) (fun _ => rfl)
    (fun pre W => AtB W w.heap.size A l.length c m 0 0 ∧ Below w.heap.size w W ∧ w3.heap.size ≤ W.heap.size ∧ Slc W Nd.cells 3 A l ∧ Hid (∀ y ∈ rawN pre, m < frm l y.toNat))
    (fun cc pre W => cc = Code.ret ∧ ∃ (p : List (NI l)) (y : NI l), pre = p ++ [y] ∧ (∀ z ∈ rawN p, m < frm l z.toNat) ∧ frm l y.1.toNat ≤ m ∧ AtB W w.heap.size A l.length c m y.1 0 ∧ Below w.heap.size w W)
    (fun s X Y row hs hg hr => by
      obtain ⟨h1, h2, h3, h4, h5⟩ := hs
      have hle := HE3.out.size
      exact ⟨h1.turn hg (fun r e => (hr r e).2), h2.grown hg (Nat.le_trans hle h3) (fun r e => Nat.le_trans hle (hr r e).1), Nat.le_trans h3 hg.size, h4.turn (fun _ => rfl) (by decide) hg (fun r e => (hr r e).2), h5⟩)
    (fun cc s X Y row hs hg hr => by
      obtain ⟨h0, p, y, h1, h2, h3, h4, h5⟩ := hs
      have hle := HE3.out.size
      exact ⟨h0, p, y, h1, h2, h3, h4.turn hg (fun r e => (hr r e).2), h5.grown hg h5.size (fun r e => Nat.le_trans hle (hr r e).1)⟩)
    ⟨HN3.out, HE3.out, Nat.le_refl _, HS3.out, by intro y hy; cases hy⟩
    (fun x a' W => a' = { tmps := #[.slice A l.length c, .int .i64 leaf, .int .i64 m, .pointer (some ⟨w.heap.size, 0, none⟩), undef, .pointer (some ⟨w.heap.size + 1, 0, none⟩), .pointer (some ⟨w.heap.size + 1 + 1, 0, none⟩), .pointer (some ⟨w.heap.size + 1 + 1 + 1, 0, none⟩), .int .i64 0, .int .i64 x.1, .slice A l.length c, .int .i64 0, .int .i64 0, .bool false, undef, .slice A l.length c, .int .i64 leaf, .bool true, .bool false, .bool false, .int .i64 m, .bool false, .bool false, .slice A l.length c, .int .i64 leaf, .func (.func 44) #[] #[.pointer (some ⟨w2.heap.size + 1, 0, none⟩), .pointer (some ⟨w2.heap.size, 0, none⟩)], .int .i64 x.1, undef, undef, undef, undef, undef, undef, undef, undef], defers := [] })
    (fun x a' _ X Y row hs hg hr => hs) ?assign ?body ?done ?stop
  case assign =>
    rintro ll pre x W K hI hK
    simp only [encN]
    gi_wp2
    exact hK _ _ (KeepsOthers.refl _ |>.from _) ⟨Kx.refl _, Nat.le_refl _⟩ hI rfl
  case body =>
    rintro ll pre x a' W _ _ ⟨h1, h2, h3, h4, h5⟩ rfl hlt
    have HB := Lib.hid h1
    obtain ⟨b0, b1, b2, b3, b4, b5, b6⟩ := h1
    obtain ⟨nd, bb, oo, hx, hA, hbb, hc⟩ := h4.at_ (k := x.1.toNat) (by have := x.2; omega)
    have d1 := hc 1 _ rfl
    have hfx := frm_at hx
    rw [hA] at b1
    obtain ⟨x1, x2⟩ := x.2
    have HF := Lib.hid hfx
    have g1 : x.1.toNat < l.length := by omega
    clear hx hc hA hfx
    by_cases hle : nd.f ≤ m
    · have h6 := HB.out.set x.1 0
      have h7 := set2_below h2 (.int .i64 x.1) (.int .i64 0) (i := w.heap.size + 1 + 1) (j := w.heap.size + 1 + 1 + 1) (by omega) (by omega)
      have H6 := Lib.hid h6
      have H7 := Lib.hid h7
      clear h4 h6 h7 h2
      gi_wp2
      gi_region
      all_goals
        gi_wp2
        exact ⟨(((KeepsOthers.setCell _ _ _).trans (KeepsOthers.setCell _ _ _)).trans (KeepsOthers.drew _)).from _, rfl, pre, x, rfl, h5.out, by rw [HF.out]; exact hle, H6.out.ext (ext_drew (ext_refl _)), ext_drew H7.out⟩
    · have H4 := Lib.hid h4
      clear h4
      gi_wp2
      gi_region
      all_goals
        gi_wp2
        exact ⟨(KeepsOthers.drew _).from _, ⟨Kx.below (ext_drew (ext_refl _)) h3, Nat.le_refl _⟩, HB.out.ext (ext_drew (ext_refl _)), ext_drew h2, h3, H4.out.drew_, by
          intro y hy
          rw [rawN_snoc] at hy
          rcases List.mem_append.1 hy with hy | hy
          · exact h5.out y hy
          · obtain rfl : y = x.1 := by simpa using hy
            rw [HF.out]; omega⟩
  case done =>
    rintro D ys W hD hys ⟨h1, h2, h3, h4, h5⟩ hK
    exfalso
    have h6 := List.mem_of_find?_eq_some HAT.out
    have h7 := List.find?_some HAT.out
    have h8 := h5.out xf (by rw [hys]; exact h6)
    simp only [decide_eq_true_eq] at h7
    omega
  case stop =>
    rintro D cc pre W hD hpre ⟨rfl, p, y, rfl, h2, h3, h4, h5⟩ hK
    rw [rawN_snoc] at hpre
    have hfd := find_first (fun n => decide (frm l n.toNat ≤ m)) hpre (fun z hz => by simpa using h2 z hz) (by simpa using h3)
    have hxy : xf = y.1 := Option.some.inj (HAT.out.symm.trans hfd)
    have h6 := h4.turn (grownBy_putObj' W D (.deferred none)) (fun r e => by cases e; exact ⟨_, hK, rfl⟩)
    have h7 : Below w.heap.size w (W.putObj D (.deferred none)) := h5.grown (grownBy_putObj' _ D _) h5.size (fun r e => by cases e; have := HE3.out.size; omega)
    obtain ⟨_, _, _, p2, _, p3, _⟩ := h6
    clear hfd h4
    gi_wp2
    refine ⟨by simp, .inl ⟨_, _, rfl, run_takeDeferred hK, ?_⟩⟩
    refine ⟨.tuple #[.int .i64 y.1, .int .i64 0], by simp [results, Try.results18, go_sem, p2, p3], ?_⟩
    rw [HR.out, hxy]
    exact ⟨rfl, h7⟩
end Go.Proofs.Ytemdebheinbolaa
