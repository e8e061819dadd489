/- The program's table as two maps (impl.portsOf): the one holds for each end the port of its first place, the other for each port its end. -/
import Derived.WalkKit
import Derived.ProofKit
import Derived.Shelf.Abstract
import Derived.Deep.QuietTactic
import Derived.BigQuiet
import Derived.LoopTactic
import Derived.Deep.LoopGhost
import Derived.Deep.RegionWith
import Derived.Test.YtlofgoahgnllkaaProg
import Derived.Test.YtlofgoahgnllkaaLib
import Derived.Test.YtlofgoahgnllkaaMapsV
set_option linter.unusedVariables false
set_option linter.unusedSimpArgs false
namespace Go.Proofs.Ytlofgoahgnllkaa.Ports
open Go.RowKit Go.Shelf Go.Proofs.YtlofgoahgnllkaaW.PrintWords Go.Proofs.Ytlofgoahgnllkaa.MapsV

abbrev IntK := IsInt .i64
theorem keyI : KeyP Try.prog 3 IntK := int_keyp Try.underlying3
abbrev EV (a p : Int) : Value := .agg #[.int .i64 a, .int .i64 p]
theorem zeroI (w : World) : (zeroValue 3).run Try.prog w = .ok (.int .i64 0) w := by kernel_rfl
theorem zeroE (w : World) : (zeroValue 27).run Try.prog w = .ok (EV 0 0) w := by kernel_rfl

/-- All blocks but two read as before. -/
structure Oth (b1 b2 : Nat) (w w' : World) : Prop where
  os : w'.os = w.os
  tape : w'.tape = w.tape
  output : w'.output = w.output
  size : w.heap.size ≤ w'.heap.size
  block : ∀ k, k < w.heap.size → k ≠ b1 → k ≠ b2 → w'.heap[k]? = w.heap[k]?
theorem Oth.refl (b1 b2 : Nat) (w : World) : Oth b1 b2 w w := ⟨rfl, rfl, rfl, Nat.le_refl _, fun _ _ _ _ => rfl⟩
theorem Oth.trans {b1 b2 : Nat} {a b c : World} (h : Oth b1 b2 a b) (k : Oth b1 b2 b c) : Oth b1 b2 a c :=
  ⟨k.os.trans h.os, k.tape.trans h.tape, k.output.trans h.output, Nat.le_trans h.size k.size, fun i hi h1 h2 => (k.block i (Nat.lt_of_lt_of_le hi h.size) h1 h2).trans (h.block i hi h1 h2)⟩
theorem Oth.cell {b1 b2 : Nat} {w w' : World} (h : Oth b1 b2 w w') {p : Addr} (hp : p.block < w.heap.size) (h1 : p.block ≠ b1) (h2 : p.block ≠ b2) : w'.cell? p = w.cell? p := by
  unfold World.cell?
  rw [h.block p.block hp h1 h2]

theorem cell_same {w w' : World} {p : Addr} (h : w'.heap[p.block]? = w.heap[p.block]?) : w'.cell? p = w.cell? p := by
  unfold World.cell?
  rw [h]
theorem cell_blk {w : World} {g : Nat} {cs : Array Value} {t : TypeId} {fr : Nat × Nat} (h : w.heap[g]? = some (.cells cs t fr)) (i : Nat) : w.cell? ⟨g, i, none⟩ = cs[i]? := by simp [World.cell?, h]
theorem two0 (w : World) (x y : Obj) : ((w.alloc x).alloc y).heap[w.heap.size]? = some x := by
  show ((w.heap.push x).push y)[w.heap.size]? = _
  rw [Array.getElem?_push, if_neg (by simp), Array.getElem?_push, if_pos rfl]
theorem two1 (w : World) (x y : Obj) : ((w.alloc x).alloc y).heap[w.heap.size + 1]? = some y := by
  show ((w.heap.push x).push y)[w.heap.size + 1]? = _
  rw [Array.getElem?_push, if_pos (by simp)]
theorem oth_alloc {b1 b2 : Nat} {w w' : World} (h : Oth b1 b2 w w') (o : Obj) : Oth b1 b2 w (w'.alloc o) :=
  h.trans ⟨rfl, rfl, rfl, by simp, fun k hk _ _ => by show (w'.heap.push o)[k]? = _; rw [Array.getElem?_push, if_neg (by omega)]⟩
theorem oth_store {b1 b2 : Nat} {w w' w'' : World} (h : Oth b1 b2 w w') (s1 : w''.heap.size = w'.heap.size) (s2 : ∀ j, j ≠ b1 → j ≠ b2 → w''.heap[j]? = w'.heap[j]?) (s3 : ∃ B, Below B w' w'') : Oth b1 b2 w w'' := by
  obtain ⟨B, hb⟩ := s3
  exact h.trans ⟨hb.os, hb.tape, hb.output, by omega, fun k _ h1 h2 => s2 k h1 h2⟩

/-- What a store at a key unless it is there leaves. -/
def Put1 (w' : World) (b1 : Nat) (al1 : List (Value × Value)) (key val : Value) : Prop :=
  (∃ x ∈ al1, x.1 = key) ∧ IsMap IsPair w' b1 al1 ∨ (∀ x ∈ al1, x.1 ≠ key) ∧ IsMap IsPair w' b1 (al1 ++ [(key, val)])

set_option maxHeartbeats 4000000 in
set_option maxRecDepth 100000 in
theorem set_calls (b1 b2 : Nat) (a p v : Int) (al1 al2 : List (Value × Value)) (w : World) (hne : b1 ≠ b2) (h1 : IsMap IsPair w b1 al1) (h2 : IsMap IntK w b2 al2) (hno : ∀ x ∈ al2, x.1 ≠ .int .i64 v) :
    Calls Try.prog 37 #[.agg #[.map (some b1), .map (some b2)], EV a p, .int .i64 v] w fun e w' => e = .returned (.tuple #[]) ∧ Oth b1 b2 w w' ∧
      IsMap IntK w' b2 (al2 ++ [(.int .i64 v, EV a p)]) ∧ Put1 w' b1 al1 (EV a p) (.int .i64 v) := by
  have hl1 := h1.lt
  have hl2 := h2.lt
  have added : ∀ {w' : World}, ((∀ x ∈ al2, x.1 ≠ .int .i64 v) ∧ IsMap IntK w' b2 (al2 ++ [(.int .i64 v, EV a p)])) ∨ (∃ j u, al2[j]? = some (.int .i64 v, u) ∧ IsMap IntK w' b2 (al2.set j (.int .i64 v, EV a p))) → IsMap IntK w' b2 (al2 ++ [(.int .i64 v, EV a p)]) := fun h => by
    rcases h with h | ⟨j, u, hj, _⟩
    · exact h.2
    · exact absurd rfl (hno _ (List.mem_of_getElem? hj))
  rcases Classical.em (∃ x ∈ al1, x.1 = EV a p) with hin | hin
  · go_enter Try.func37, Try.ntmps37
    go_wp2_with (first | (at_lookup; refine wp_look_in _ rfl _ _ 55 true rfl 27 3 pair_keyp Try.underlying55 _ (zeroI _) b1 al1 rfl ((h1.alloc _).alloc _) _ rfl ⟨a, p, rfl⟩ hin ?_; intro v0 _) | (at_lookup; refine wp_look_no _ rfl _ _ 56 true rfl 3 27 keyI Try.underlying56 _ (zeroE _) b2 al2 rfl ((h2.alloc _).alloc _) _ rfl ⟨v, rfl⟩ hno ?_) | (at_mapUpdate; refine wp_store _ rfl _ _ _ 56 rfl 3 27 keyI Try.underlying56 b2 al2 rfl (((h2.alloc _).alloc _).alloc _) _ _ rfl rfl ⟨v, rfl⟩ ?_; intro w2 s1 s2 s3 s4))
    go_end0
    refine ⟨rfl, oth_store (oth_alloc (oth_alloc (oth_alloc (Oth.refl _ _ _) _) _) _) s1 (fun j _ h => s2 j h) ⟨_, s3 b2 (Nat.le_refl _)⟩, added s4, .inl ⟨hin, IsMap.same (((h1.alloc _).alloc _).alloc _) (s2 b1 hne)⟩⟩
  · have hin' : ∀ x ∈ al1, x.1 ≠ EV a p := fun x hx e => hin ⟨x, hx, e⟩
    go_enter Try.func37, Try.ntmps37
    go_wp2_with (first | (at_lookup; refine wp_look_no _ rfl _ _ 55 true rfl 27 3 pair_keyp Try.underlying55 _ (zeroI _) b1 al1 rfl ((h1.alloc _).alloc _) _ rfl ⟨a, p, rfl⟩ hin' ?_) | (at_mapUpdate; refine wp_store _ rfl _ _ _ 55 rfl 27 3 pair_keyp Try.underlying55 b1 al1 rfl ((h1.alloc _).alloc _) _ _ rfl rfl ⟨a, p, rfl⟩ ?_; intro w1 r1 r2 r3 r4; (have d0 : w1.cell? ⟨w.heap.size, 1, none⟩ = some (.map (some b2)) := (cell_same (r2 _ (by show w.heap.size ≠ b1; omega))).trans (cell_blk (two0 w _ _) 1)); (have e0 : w1.cell? ⟨w.heap.size + 1, 0, none⟩ = some (.int .i64 a) := (cell_same (r2 _ (by show w.heap.size + 1 ≠ b1; omega))).trans (cell_blk (two1 w _ _) 0)); (have e1 : w1.cell? ⟨w.heap.size + 1, 1, none⟩ = some (.int .i64 p) := (cell_same (r2 _ (by show w.heap.size + 1 ≠ b1; omega))).trans (cell_blk (two1 w _ _) 1)); (have k2 : IsMap IntK w1 b2 al2 := IsMap.same ((h2.alloc _).alloc _) (r2 b2 hne.symm))) | (at_lookup; refine wp_look_no _ rfl _ _ 56 true rfl 3 27 keyI Try.underlying56 _ (zeroE _) b2 al2 rfl k2 _ rfl ⟨v, rfl⟩ hno ?_) | (at_mapUpdate; refine wp_store _ rfl _ _ _ 56 rfl 3 27 keyI Try.underlying56 b2 al2 rfl (k2.alloc _) _ _ rfl rfl ⟨v, rfl⟩ ?_; intro w2 s1 s2 s3 s4))
    go_end0
    have hm1 : IsMap IsPair w1 b1 (al1 ++ [(EV a p, .int .i64 v)]) := by
      rcases r4 with h | ⟨j, u, hj, _⟩
      · exact h.2
      · exact absurd rfl (hin' _ (List.mem_of_getElem? hj))
    refine ⟨rfl, oth_store (oth_alloc (oth_store (oth_alloc (oth_alloc (Oth.refl _ _ _) _) _) r1 (fun j h _ => r2 j h) ⟨_, r3 b1 (Nat.le_refl _)⟩) _) s1 (fun j _ h => s2 j h) ⟨_, s3 b2 (Nat.le_refl _)⟩, added s4, .inr ⟨hin', IsMap.same (hm1.alloc _) (s2 b1 hne)⟩⟩

/-- The first map behind k ends: each of them stands in it, with the port of its first place. -/
def Inv1 (ea ep : Nat → Int) (k : Nat) (al : List (Value × Value)) : Prop :=
  (∀ i, i < k → ∃ x ∈ al, x.1 = EV (ea i) (ep i)) ∧ ∀ x ∈ al, ∃ i, i < k ∧ x = (EV (ea i) (ep i), .int .i64 (500 + (i : Int))) ∧ ∀ j, j < i → ¬ (ea j = ea i ∧ ep j = ep i)
def back (ea ep : Nat → Int) (k : Nat) : List (Value × Value) := (List.range k).map fun (i : Nat) => (.int .i64 (500 + (i : Int)), EV (ea i) (ep i))
theorem back_succ (ea ep : Nat → Int) (k : Nat) : back ea ep (k + 1) = back ea ep k ++ [(.int .i64 (500 + (k : Int)), EV (ea k) (ep k))] := by
  unfold back; rw [List.range_succ, List.map_append]; rfl
theorem back_no (ea ep : Nat → Int) (k : Nat) : ∀ x ∈ back ea ep k, x.1 ≠ .int .i64 (500 + (k : Int)) := fun x hx e => by
  obtain ⟨i, hi, rfl⟩ := List.mem_map.1 hx
  have := List.mem_range.1 hi
  simp at e
  omega
theorem Inv1.step {ea ep : Nat → Int} {k : Nat} {al : List (Value × Value)} (h : Inv1 ea ep k al) {w' : World} {b : Nat} (hp : Put1 w' b al (EV (ea k) (ep k)) (.int .i64 (500 + (k : Int)))) : ∃ al', Inv1 ea ep (k + 1) al' ∧ IsMap IsPair w' b al' := by
  obtain ⟨h1, h2⟩ := h
  rcases hp with ⟨hin, hm⟩ | ⟨hno, hm⟩
  · refine ⟨al, ⟨fun i hi => ?_, fun x hx => ?_⟩, hm⟩
    · by_cases e : i = k
      · subst e; exact hin
      · exact h1 i (by omega)
    · obtain ⟨i, hi, e, hj⟩ := h2 x hx
      exact ⟨i, by omega, e, hj⟩
  · refine ⟨_, ⟨fun i hi => ?_, fun x hx => ?_⟩, hm⟩
    · by_cases e : i = k
      · subst e; exact ⟨_, List.mem_append_right _ List.mem_cons_self, rfl⟩
      · obtain ⟨x, hx, e2⟩ := h1 i (by omega)
        exact ⟨x, List.mem_append_left _ hx, e2⟩
    · rcases List.mem_append.1 hx with hx | hx
      · obtain ⟨i, hi, e, hj⟩ := h2 x hx
        exact ⟨i, by omega, e, hj⟩
      · obtain rfl := List.mem_singleton.1 hx
        refine ⟨k, by omega, rfl, fun j hj e => ?_⟩
        obtain ⟨x, hx, e2⟩ := h1 j hj
        exact hno x hx (by rw [e2, e.1, e.2])

/-- The slice's ends, as the walk reads them. -/
def Ends (w : World) (A : Option Addr) (n : Nat) (ea ep : Nat → Int) : Prop :=
  ∀ i, i < n → ∃ ad, A = some ad ∧ w.cell? (ad.add (i * 2)) = some (.int .i64 (ea i)) ∧ w.cell? ⟨(ad.add (i * 2)).block, (ad.add (i * 2)).off + 1, none⟩ = some (.int .i64 (ep i))

theorem cell_lt {w : World} {p : Addr} {v : Value} (h : w.cell? p = some v) : p.block < w.heap.size := by
  rcases Nat.lt_or_ge p.block w.heap.size with h' | h'
  · exact h'
  · simp [World.cell?, Array.getElem?_eq_none h'] at h
theorem Ends.below {w w' : World} {A : Option Addr} {n : Nat} {ea ep : Nat → Int} (h : Ends w A n ea ep) (hb : Below w.heap.size w w') : Ends w' A n ea ep := fun i hi => by
  obtain ⟨ad, e, h0, h1⟩ := h i hi
  have hlt := cell_lt h0
  exact ⟨ad, e, (hb.cell hlt).trans h0, (hb.cell (p := ⟨(ad.add (i * 2)).block, (ad.add (i * 2)).off + 1, none⟩) hlt).trans h1⟩
theorem blk_alloc {w : World} {g : Nat} {x : Obj} (h : w.heap[g]? = some x) (o : Obj) : (w.alloc o).heap[g]? = some x := by
  have hlt : g < w.heap.size := (Array.getElem?_eq_some_iff.1 h).1
  show (w.heap.push o)[g]? = _
  rw [Array.getElem?_push, if_neg (by omega), h]
theorem blk_new (w : World) (o : Obj) : (w.alloc o).heap[w.heap.size]? = some o := by
  show (w.heap.push o)[w.heap.size]? = _
  rw [Array.getElem?_push, if_pos rfl]
/-- What stands behind k rounds. -/
def Lp (w : World) (ea ep : Nat → Int) (k : Nat) (wr : World) : Prop :=
  Below w.heap.size w wr ∧ wr.heap[w.heap.size + 1]? = some (.cells #[.map none, .map none] 58) ∧
    wr.heap[w.heap.size + 1 + 1 + 1 + 1]? = some (.cells #[.map (some (w.heap.size + 1 + 1)), .map (some (w.heap.size + 1 + 1 + 1))] 58) ∧
    (∃ al, Inv1 ea ep k al ∧ IsMap IsPair wr (w.heap.size + 1 + 1) al) ∧ IsMap IntK wr (w.heap.size + 1 + 1 + 1) (back ea ep k)
theorem lp_start (w : World) (ea ep : Nat → Int) (x : Obj) : ∃ W0, Aside0 (W0 = (((((w.alloc x).alloc (Obj.cells #[Value.map none, Value.map none] 58)).alloc (Obj.map #[] 0)).alloc (Obj.map #[] 0)).alloc
      (Obj.cells #[Value.map (some (w.heap.size + 1 + 1)), Value.map (some (w.heap.size + 1 + 1 + 1))] 58))) ∧ Aside0 (Lp w ea ep 0 W0) := by
  refine ⟨_, ⟨rfl⟩, ⟨?_, ?_, ?_, ⟨[], ⟨fun i hi => absurd hi (Nat.not_lt_zero i), fun x hx => absurd hx List.not_mem_nil⟩, ?_⟩, ?_⟩⟩
  · exact (((((Below.refl _ w).alloc (Nat.le_refl _) _).alloc (by simp) _).alloc (by simp; omega) _).alloc (by simp; omega) _).alloc (by simp; omega) _
  · exact blk_alloc (blk_alloc (blk_alloc (by have := blk_new (w.alloc x) (Obj.cells #[Value.map none, Value.map none] 58); rwa [World.size_alloc] at this) _) _) _
  · have := blk_new ((((w.alloc x).alloc (Obj.cells #[Value.map none, Value.map none] 58)).alloc (Obj.map #[] 0)).alloc (Obj.map #[] 0)) (Obj.cells #[Value.map (some (w.heap.size + 1 + 1)), Value.map (some (w.heap.size + 1 + 1 + 1))] 58)
    rwa [World.size_alloc, World.size_alloc, World.size_alloc, World.size_alloc] at this
  · have := IsMap.made IsPair ((w.alloc x).alloc (Obj.cells #[Value.map none, Value.map none] 58))
    rw [World.size_alloc, World.size_alloc] at this
    exact (this.alloc _).alloc _
  · have := IsMap.made IntK (((w.alloc x).alloc (Obj.cells #[Value.map none, Value.map none] 58)).alloc (Obj.map #[] 0))
    rw [World.size_alloc, World.size_alloc, World.size_alloc] at this
    exact this.alloc _
theorem back_again {ea ep : Nat → Int} {k : Nat} {w' : World} {b : Nat} (h : ((∀ x ∈ back ea ep k ++ [(Value.int .i64 (500 + (k : Int)), EV (ea k) (ep k))], x.1 ≠ Value.int .i64 (500 + (k : Int))) ∧ IsMap IntK w' b ((back ea ep k ++ [(Value.int .i64 (500 + (k : Int)), EV (ea k) (ep k))]) ++ [(Value.int .i64 (500 + (k : Int)), EV (ea k) (ep k))])) ∨
    ∃ j v, (back ea ep k ++ [(Value.int .i64 (500 + (k : Int)), EV (ea k) (ep k))])[j]? = some (Value.int .i64 (500 + (k : Int)), v) ∧ IsMap IntK w' b ((back ea ep k ++ [(Value.int .i64 (500 + (k : Int)), EV (ea k) (ep k))]).set j (Value.int .i64 (500 + (k : Int)), EV (ea k) (ep k)))) : IsMap IntK w' b (back ea ep (k + 1)) := by
  rcases h with ⟨h, _⟩ | ⟨j, v, hj, hm⟩
  · exact absurd rfl (h _ (List.mem_append_right _ List.mem_cons_self))
  · by_cases c : j < (back ea ep k).length
    · rw [List.getElem?_append_left c] at hj
      exact absurd rfl (back_no ea ep k _ (List.mem_of_getElem? hj))
    · rw [List.set_append_right _ _ (by omega)] at hm
      rw [List.getElem?_append_right (by omega)] at hj
      obtain ⟨hlt, _⟩ := List.getElem?_eq_some_iff.1 hj
      have e0 : j - (back ea ep k).length = 0 := by simp at hlt; omega
      rw [e0] at hm
      rw [back_succ]
      exact hm

set_option maxHeartbeats 4000000 in
set_option maxRecDepth 100000 in
theorem ports_calls (A : Option Addr) (n c : Nat) (ea ep : Nat → Int) (w : World) (hn : n ≤ 281474976710656) (hE : Ends w A n ea ep) :
    Calls Try.prog 26 #[.agg #[.slice A n c]] w fun e w' => ∃ b1 b2 al, e = .returned (.agg #[.map (some b1), .map (some b2)]) ∧ Below w.heap.size w w' ∧ Inv1 ea ep n al ∧ IsMap IsPair w' b1 al ∧ IsMap IntK w' b2 (back ea ep n) := by
  have HE := Aside0.mk hE
  clear hE
  have hmm := @run_makeMap Try.prog
  obtain ⟨W0, HW0, HL0⟩ := lp_start w ea ep (.cells #[.slice A n c] 32)
  go_enter Try.func26, Try.ntmps26
  go_wp2
  rw [← HW0.out]
  clear hmm HW0
  go_loopw [12] (fun v wr => ∃ k : Nat, k ≤ n ∧ v = .int .i64 (k : Int) ∧ Aside0 (Lp w ea ep k wr)) (fun v _ => n - (intOf v).toNat)
  case atStart => exact ⟨0, Nat.zero_le _, rfl, HL0⟩
  case round =>
    obtain ⟨k, hk, rfl, HL⟩ := hrel
    have HB := Aside0.mk HL.out.1
    by_cases hlt : k < n
    · obtain ⟨ad, e1, x0, x1⟩ := (HE.out.below HL.out.1) k hlt
      subst e1
      obtain ⟨al, hInv, hM1⟩ := HL.out.2.2.2.1
      have HI := Aside0.mk hInv
      have HM1 := Aside0.mk hM1
      have HM2 := Aside0.mk HL.out.2.2.2.2
      clear hInv hM1
      have m0 : wr.cell? ⟨w.heap.size + 1 + 1 + 1 + 1, 0, none⟩ = some (.map (some (w.heap.size + 1 + 1))) := (cell_blk HL.out.2.2.1 0).trans rfl
      have m1 : wr.cell? ⟨w.heap.size + 1 + 1 + 1 + 1, 1, none⟩ = some (.map (some (w.heap.size + 1 + 1 + 1))) := (cell_blk HL.out.2.2.1 1).trans rfl
      have hsz : w.heap.size + 1 + 1 + 1 + 1 < wr.heap.size := (Array.getElem?_eq_some_iff.1 HL.out.2.2.1).1
      have hw : wrap64 (500 + (k : Int)) = 500 + (k : Int) := Lib.wrap_id (by omega) (by omega)
      have p1 : (0 ≤ (k : Int)) = True := eq_true (by omega)
      have q1 : ((k : Int) < (n : Int)) = True := eq_true (by omega)
      have HK := Aside0.mk hk
      clear hk
      go_wp2_with (first | (go_at_call 37; refine (set_calls (w.heap.size + 1 + 1) (w.heap.size + 1 + 1 + 1) (ea k) (ep k) (500 + (k : Int)) al (back ea ep k) _ (by omega) (HM1.out.alloc _) (HM2.out.alloc _) (back_no ea ep k)).mono ?_; rintro e w2 ⟨rfl, ho, hb2, hp⟩; (have g4 := Aside0.mk ((ho.block (w.heap.size + 1 + 1 + 1 + 1) (by rw [World.size_alloc]; omega) (by omega) (by omega)).trans (blk_alloc HL.out.2.2.1 _))); (have g1 := Aside0.mk ((ho.block (w.heap.size + 1) (by rw [World.size_alloc]; omega) (by omega) (by omega)).trans (blk_alloc HL.out.2.1 _))); (have ge := Aside0.mk ((ho.block wr.heap.size (by rw [World.size_alloc]; omega) (by omega) (by omega)).trans (blk_new wr _))); (have HO := Aside0.mk ho); (have HM2' := Aside0.mk hb2); (have HP := Aside0.mk hp); clear ho hb2 hp m0 m1 x0 x1; (have m1 : w2.cell? ⟨w.heap.size + 1 + 1 + 1 + 1, 1, none⟩ = some (.map (some (w.heap.size + 1 + 1 + 1))) := (cell_blk g4.out 1).trans rfl); (have y0 : w2.cell? ⟨wr.heap.size, 0, none⟩ = some (.int .i64 (ea k)) := (cell_blk ge.out 0).trans rfl); (have y1 : w2.cell? ⟨wr.heap.size, 1, none⟩ = some (.int .i64 (ep k)) := (cell_blk ge.out 1).trans rfl)) | (at_mapUpdate; refine wp_store _ rfl _ _ _ 56 rfl 3 27 keyI Try.underlying56 (w.heap.size + 1 + 1 + 1) _ rfl HM2'.out _ _ rfl rfl ⟨_, rfl⟩ ?_; intro w3 s1 s2 s3 s4; (have S2 := Aside0.mk s2); (have S3 := Aside0.mk s3); (have S4 := Aside0.mk (back_again s4)); clear s1 s2 s3 s4))
      go_roundw
      case measure => simp [intOf]; omega
      case rel =>
        obtain ⟨al', i', m'⟩ := HI.out.step HP.out
        have hb2 : Below w.heap.size w w2 := (HB.out.alloc (by omega) _).trans ⟨HO.out.os, HO.out.tape, HO.out.output, HO.out.size, fun j hj => HO.out.block j (by rw [World.size_alloc]; omega) (by omega) (by omega)⟩
        exact ⟨k + 1, by omega, by go_num, ⟨hb2.trans (S3.out _ (by omega)), (S2.out _ (by omega)).trans g1.out, (S2.out _ (by omega)).trans g4.out, ⟨al', i', IsMap.same m' (S2.out _ (by omega))⟩, S4.out⟩⟩
    · obtain rfl : k = n := by omega
      have m0 : wr.cell? ⟨w.heap.size + 1 + 1 + 1 + 1, 0, none⟩ = some (.map (some (w.heap.size + 1 + 1))) := (cell_blk HL.out.2.2.1 0).trans rfl
      have m1 : wr.cell? ⟨w.heap.size + 1 + 1 + 1 + 1, 1, none⟩ = some (.map (some (w.heap.size + 1 + 1 + 1))) := (cell_blk HL.out.2.2.1 1).trans rfl
      have d0 : wr.cell? ⟨w.heap.size + 1, 0, none⟩ = some (.map none) := (cell_blk HL.out.2.1 0).trans rfl
      have d1 : wr.cell? ⟨w.heap.size + 1, 1, none⟩ = some (.map none) := (cell_blk HL.out.2.1 1).trans rfl
      have z0 : wr.frozen? ⟨w.heap.size + 1, 0, none⟩ = false := by simp [World.frozen?, HL.out.2.1]
      have z1 : wr.frozen? ⟨w.heap.size + 1, 1, none⟩ = false := by simp [World.frozen?, HL.out.2.1]
      go_wp2
      refine bodyPost_ret (results_cell_row rfl _ _ (w.heap.size + 1) 58 #[.map (some (w.heap.size + 1 + 1)), .map (some (w.heap.size + 1 + 1 + 1))] (0, 0) _ rfl (blk_put (blk_put (cs := #[.map none, .map none]) HL.out.2.1 0 _ rfl) 1 _ rfl) Try.underlying58 rfl (by kernel_rfl)) rfl ?_
      obtain ⟨al, hInv, hM1⟩ := HL.out.2.2.2.1
      have hb := fun v0 v1 => ((Below.refl w.heap.size wr).setCell (p := ⟨w.heap.size + 1, 0, none⟩) (by simp) v0).setCell (p := ⟨w.heap.size + 1, 1, none⟩) (by simp) v1
      have hh := fun v0 v1 j (hj : j ≠ w.heap.size + 1) => (Below.heap_setCell (wr.setCell ⟨w.heap.size + 1, 0, none⟩ v0) ⟨w.heap.size + 1, 1, none⟩ v1 j hj).trans (Below.heap_setCell wr ⟨w.heap.size + 1, 0, none⟩ v0 j hj)
      exact ⟨_, _, al, rfl, HL.out.1.trans (hb _ _), hInv, hM1.same (hh _ _ _ (by omega)), HL.out.2.2.2.2.same (hh _ _ _ (by omega))⟩

/-! ### The two questions -/
theorem Inv1.hit {ea ep : Nat → Int} {n b i : Nat} {al : List (Value × Value)} {w : World} {a p : Int} (h : Inv1 ea ep n al) (hm : IsMap IsPair w b al) (hi : i < n) (he : ea i = a ∧ ep i = p) (hf : ∀ j, j < i → ¬ (ea j = a ∧ ep j = p)) :
    (Instr.lookup 55 (.map (some b)) (EV a p) false).run Try.prog w = .ok (.int .i64 (500 + (i : Int))) w := by
  rcases hm.look pair_keyp Try.underlying55 (zeroI w) ⟨a, p, rfl⟩ false with ⟨hno, _⟩ | ⟨v, hv, hrun⟩
  · obtain ⟨x, hx, e⟩ := h.1 i hi
    exact absurd (by rw [e, he.1, he.2]) (hno x hx)
  · obtain ⟨j, hj, e, hj2⟩ := h.2 _ hv
    simp only [Prod.mk.injEq, Value.agg.injEq, Array.mk.injEq, List.cons.injEq, Value.int.injEq, true_and, and_true] at e
    obtain ⟨⟨e1, e2⟩, rfl⟩ := e
    have hij : i = j := by
      rcases Nat.lt_trichotomy i j with c | c | c
      · exact absurd ⟨he.1.trans e1, he.2.trans e2⟩ (hj2 i c)
      · exact c
      · exact absurd ⟨e1.symm, e2.symm⟩ (hf j c)
    subst hij
    exact hrun
theorem Inv1.miss {ea ep : Nat → Int} {n b : Nat} {al : List (Value × Value)} {w : World} {a p : Int} (h : Inv1 ea ep n al) (hm : IsMap IsPair w b al) (hno : ∀ j, j < n → ¬ (ea j = a ∧ ep j = p)) :
    (Instr.lookup 55 (.map (some b)) (EV a p) false).run Try.prog w = .ok (.int .i64 0) w := by
  rcases hm.look pair_keyp Try.underlying55 (zeroI w) ⟨a, p, rfl⟩ false with ⟨_, hrun⟩ | ⟨v, hv, _⟩
  · exact hrun
  · obtain ⟨j, hj, e, _⟩ := h.2 _ hv
    simp only [Prod.mk.injEq, Value.agg.injEq, Array.mk.injEq, List.cons.injEq, Value.int.injEq, true_and, and_true] at e
    exact absurd ⟨e.1.1.symm, e.1.2.symm⟩ (hno j hj)
theorem back_hit {ea ep : Nat → Int} {n b i : Nat} {w : World} (hm : IsMap IntK w b (back ea ep n)) (hi : i < n) :
    (Instr.lookup 56 (.map (some b)) (.int .i64 (500 + (i : Int))) true).run Try.prog w = .ok (.tuple #[EV (ea i) (ep i), .bool true]) w := by
  rcases hm.look keyI Try.underlying56 (zeroE w) ⟨_, rfl⟩ true with ⟨hno, _⟩ | ⟨v, hv, hrun⟩
  · exact absurd rfl (hno _ (List.mem_map.2 ⟨i, List.mem_range.2 hi, rfl⟩))
  · obtain ⟨j, hj, e⟩ := List.mem_map.1 hv
    simp only [Prod.mk.injEq, Value.int.injEq, true_and] at e
    obtain ⟨e1, rfl⟩ := e
    obtain rfl : j = i := by omega
    exact hrun
theorem back_miss {ea ep : Nat → Int} {n b : Nat} {w : World} {x : Int} (hm : IsMap IntK w b (back ea ep n)) (hx : ∀ i : Nat, i < n → x ≠ 500 + (i : Int)) :
    (Instr.lookup 56 (.map (some b)) (.int .i64 x) true).run Try.prog w = .ok (.tuple #[EV 0 0, .bool false]) w := by
  rcases hm.look keyI Try.underlying56 (zeroE w) ⟨_, rfl⟩ true with ⟨_, hrun⟩ | ⟨v, hv, _⟩
  · exact hrun
  · obtain ⟨j, hj, e⟩ := List.mem_map.1 hv
    simp only [Prod.mk.injEq, Value.int.injEq, true_and] at e
    exact absurd e.1.symm (hx j (List.mem_range.1 hj))

theorem fld0 (x y : Option Nat) (w : World) : (Instr.field 58 (.agg #[.map x, .map y]) 0).run Try.prog w = .ok (.map x) w := by
  kernel_rfl
theorem fld1 (x y : Option Nat) (w : World) : (Instr.field 58 (.agg #[.map x, .map y]) 1).run Try.prog w = .ok (.map y) w := by
  kernel_rfl
set_option maxHeartbeats 4000000 in
set_option maxRecDepth 100000 in
theorem port_calls (A : Option Addr) (n c : Nat) (ea ep : Nat → Int) (a p r : Int) (w : World) (hn : n ≤ 281474976710656) (hE : Ends w A n ea ep)
    (hr : ∀ al b w', Inv1 ea ep n al → IsMap IsPair w' b al → (Instr.lookup 55 (.map (some b)) (EV a p) false).run Try.prog w' = .ok (.int .i64 r) w') :
    Calls Try.prog 16 #[.agg #[.slice A n c], EV a p] w fun e w' => e = .returned (.int .i64 r) ∧ Below w.heap.size w w' := by
  have HE := Aside0.mk hE
  have HR := Aside0.mk hr
  clear hE hr
  obtain ⟨W1, hW1⟩ : ∃ W1, W1 = (w.alloc (.cells #[.slice A n c] 32)).alloc (.cells #[.int .i64 a, .int .i64 p] 27) := ⟨_, rfl⟩
  have HB := Aside0.mk (show Below w.heap.size w W1 by rw [hW1]; exact ((Below.refl _ w).alloc (Nat.le_refl _) _).alloc (by simp) _)
  have t0 : W1.cell? ⟨w.heap.size, 0, none⟩ = some (.slice A n c) := by rw [hW1]; exact (cell_blk (two0 w _ _) 0).trans rfl
  have c0 : W1.cell? ⟨w.heap.size + 1, 0, none⟩ = some (.int .i64 a) := by rw [hW1]; exact (cell_blk (two1 w _ _) 0).trans rfl
  have c1 : W1.cell? ⟨w.heap.size + 1, 1, none⟩ = some (.int .i64 p) := by rw [hW1]; exact (cell_blk (two1 w _ _) 1).trans rfl
  have hsz : w.heap.size + 1 < W1.heap.size := by rw [hW1]; simp
  go_enter Try.func16, Try.ntmps16
  go_wp2
  rw [← hW1]
  clear hW1
  go_region_with (go_at_call 26; refine (ports_calls A n c ea ep _ hn ?_).mono ?_; exact HE.out.below (by first | exact HB.out | exact below_drew1 HB.out); rintro e w2 ⟨b1, b2, al, rfl, hb, hI, h1, _⟩; (have hrun := HR.out al b1 w2 hI h1); (have hf := fld0 (some b1) (some b2) w2); (have HB2 := Aside0.mk hb); (have d0 : w2.cell? ⟨w.heap.size + 1, 0, none⟩ = some (.int .i64 a) := (hb.cell (p := ⟨w.heap.size + 1, 0, none⟩) hsz).trans c0); (have d1 : w2.cell? ⟨w.heap.size + 1, 1, none⟩ = some (.int .i64 p) := (hb.cell (p := ⟨w.heap.size + 1, 1, none⟩) hsz).trans c1); clear hb hI h1)
  all_goals (go_wp2; go_ret; exact ⟨rfl, below_step (below_drew1 HB.out) HB2.out⟩)

set_option maxHeartbeats 4000000 in
set_option maxRecDepth 100000 in
theorem end_calls (A : Option Addr) (n c : Nat) (ea ep : Nat → Int) (a x y : Int) (ok : Bool) (w : World) (hn : n ≤ 281474976710656) (hE : Ends w A n ea ep)
    (hr : ∀ b w', IsMap IntK w' b (back ea ep n) → (Instr.lookup 56 (.map (some b)) (.int .i64 a) true).run Try.prog w' = .ok (.tuple #[EV x y, .bool ok]) w') :
    Calls Try.prog 11 #[.agg #[.slice A n c], .int .i64 a] w fun e w' => e = .returned (.tuple #[EV x y, .bool ok]) ∧ Below w.heap.size w w' := by
  have HE := Aside0.mk hE
  have HR := Aside0.mk hr
  clear hE hr
  obtain ⟨W1, hW1⟩ : ∃ W1, W1 = (w.alloc (.cells #[.slice A n c] 32)).alloc (.cells #[.int .i64 0, .int .i64 0] 27) := ⟨_, rfl⟩
  have HB := Aside0.mk (show Below w.heap.size w W1 by rw [hW1]; exact ((Below.refl _ w).alloc (Nat.le_refl _) _).alloc (by simp) _)
  have t0 : W1.cell? ⟨w.heap.size, 0, none⟩ = some (.slice A n c) := by rw [hW1]; exact (cell_blk (two0 w _ _) 0).trans rfl
  have G1 := Aside0.mk (show W1.heap[w.heap.size + 1]? = some (.cells #[.int .i64 0, .int .i64 0] 27) by rw [hW1]; exact two1 w _ _)
  have hsz : w.heap.size + 1 < W1.heap.size := by rw [hW1]; simp
  go_enter Try.func11, Try.ntmps11
  go_wp2_with fail
  rw [← hW1]
  clear hW1
  (go_at_call 26; refine (ports_calls A n c ea ep _ hn ?_).mono ?_; exact HE.out.below HB.out; rintro e w2 ⟨b1, b2, al, rfl, hb, _, _, h2⟩; (have hrun := HR.out b2 w2 h2); (have hf := fld1 (some b1) (some b2) w2); (have HB2 := Aside0.mk hb); (have G2 := Aside0.mk ((hb.block (w.heap.size + 1) hsz).trans G1.out)); (have d0 : w2.cell? ⟨w.heap.size + 1, 0, none⟩ = some (.int .i64 0) := (cell_blk G2.out 0).trans rfl); (have d1 : w2.cell? ⟨w.heap.size + 1, 1, none⟩ = some (.int .i64 0) := (cell_blk G2.out 1).trans rfl); (have z0 : w2.frozen? ⟨w.heap.size + 1, 0, none⟩ = false := by simp [World.frozen?, G2.out]); (have z1 : w2.frozen? ⟨w.heap.size + 1, 1, none⟩ = false := by simp [World.frozen?, G2.out]); (have hsz2 : w.heap.size + 1 < w2.heap.size := Nat.lt_of_lt_of_le hsz hb.size); clear hb h2)
  go_wp2
  refine bodyPost_ret (results_ct rfl _ _ (w.heap.size + 1) 27 #[.int .i64 x, .int .i64 y] (0, 0) _ rfl (blk_alloc (blk_put (blk_put (cs := #[.int .i64 0, .int .i64 0]) G2.out 0 _ rfl) 1 _ rfl) _) Try.underlying27 rfl (by kernel_rfl)) rfl ?_
  have hb := (((Below.refl w.heap.size w2).setCell (p := ⟨w.heap.size + 1, 0, none⟩) (by simp) (.int .i64 x)).setCell (p := ⟨w.heap.size + 1, 1, none⟩) (by simp) (.int .i64 y)).alloc (by simp [World.setCell]; omega) (.cells #[.int .i64 x, .int .i64 y] 27)
  exact ⟨rfl, (below_step HB.out HB2.out).trans hb⟩
end Go.Proofs.Ytlofgoahgnllkaa.Ports
