import Derived.RangeFuncNested
import Derived.RangeFuncBound
import Derived.RangeFuncCalls
import Derived.RangeFuncLeaves
import Derived.RangeFuncBox
import Derived.Shelf.Abstract
import Derived.WalkKit
import Derived.OwnWalkIn
import Derived.TacticsInMore
import Derived.LoopNIn
import Derived.LoopIn
import Derived.Maps.AppendAt
import Derived.Lib.IndexLaws
import Derived.Sort.QuietIn
import Derived.Deep.QuietTactic
import Derived.BigQuiet
import Derived.Test.YtmahgffkkdggcaaShelf
import Derived.Test.YtmahgffkkdggcaaLib
set_option linter.unusedVariables false
set_option linter.unusedSimpArgs false
namespace Go.Proofs.Ytmahgffkkdggcaa.Str
open Go.RowKit Go.Shelf Go.Proofs.YtmahgffkkdggcaaW.PrintWords
def lns (s : ByteArray) : Nat → Nat → Nat → List ByteArray × Nat
  | 0, fr, _ => ([], fr)
  | n + 1, fr, i => if bt s (i : Int) = 59 then (s.extract fr i :: (lns s n (i + 1) (i + 1)).1, (lns s n (i + 1) (i + 1)).2) else lns s n fr (i + 1)
def linesV (s : ByteArray) : List ByteArray := (lns s s.size 0 0).1
def restP (s : ByteArray) : Nat := (lns s s.size 0 0).2
theorem lns_gap (s : ByteArray) : ∀ (d m fr i : Nat), (∀ t, i ≤ t → t < i + d → bt s (t : Int) ≠ 59) → lns s (d + m) fr i = lns s m fr (i + d) := by
  intro d
  induction d with
  | zero => intro m fr i _; rw [Nat.zero_add]; rfl
  | succ d ih =>
    intro m fr i h
    rw [show d + 1 + m = (d + m) + 1 by omega, lns, if_neg (h i (Nat.le_refl _) (by omega)), ih m fr (i + 1) (fun t h1 h2 => h t (by omega) (by omega)), show i + 1 + d = i + (d + 1) by omega]
theorem lns_none (s : ByteArray) (n fr i : Nat) (h : ∀ t, i ≤ t → t < i + n → bt s (t : Int) ≠ 59) : lns s n fr i = ([], fr) := by
  have := lns_gap s n 0 fr i h
  rw [Nat.add_zero] at this
  rw [this]; rfl
theorem lns_next (s : ByteArray) (d m fr i : Nat) (h : ∀ t, i ≤ t → t < i + d → bt s (t : Int) ≠ 59) (h2 : bt s ((i + d : Nat) : Int) = 59) :
    lns s (d + (m + 1)) fr i = (s.extract fr (i + d) :: (lns s m (i + d + 1) (i + d + 1)).1, (lns s m (i + d + 1) (i + d + 1)).2) := by
  rw [lns_gap s d (m + 1) fr i h, lns, if_pos h2]
theorem lns_end (s : ByteArray) : ∀ (n fr i : Nat), fr ≤ i → i + n = s.size → (∀ t, fr ≤ t → t < i → bt s (t : Int) ≠ 59) → (fr = 0 ∨ bt s ((fr - 1 : Nat) : Int) = 59) →
    (lns s n fr i).2 ≤ s.size ∧ (∀ t, (lns s n fr i).2 ≤ t → t < s.size → bt s (t : Int) ≠ 59) ∧ ((lns s n fr i).2 = 0 ∨ bt s (((lns s n fr i).2 - 1 : Nat) : Int) = 59) := by
  intro n
  induction n with
  | zero =>
    intro fr i h1 h2 h3 h4
    exact ⟨by show fr ≤ s.size; omega, fun t a b => h3 t a (by omega), h4⟩
  | succ n ih =>
    intro fr i h1 h2 h3 h4
    rw [lns]
    by_cases hb : bt s (i : Int) = 59
    · rw [if_pos hb]
      exact ih (i + 1) (i + 1) (Nat.le_refl _) (by omega) (fun t a b => by omega) (.inr (by rw [Nat.add_sub_cancel]; exact hb))
    · rw [if_neg hb]
      exact ih fr (i + 1) (by omega) (by omega) (fun t a b => by
        by_cases e : t = i
        · subst e; exact hb
        · exact h3 t a (by omega)) h4
theorem bt_data (s : ByteArray) (i : Nat) (h : i < s.size) : ((s.data[i]!).toNat : Int) = bt s (i : Int) := by
  rw [Lib.bt_eq s i h, getElem!_pos s.data i (by simpa using h), ByteArray.getElem_eq_getElem_data]
theorem rest_last (s : ByteArray) : Lib.lastIndexByte s 59 = (restP s : Int) - 1 ∧ restP s ≤ s.size := by
  obtain ⟨h1, h2, h3⟩ := lns_end s s.size 0 0 (Nat.le_refl _) (Nat.zero_add _) (fun t a b => by omega) (.inl rfl)
  refine ⟨?_, h1⟩
  rcases Lib.lastIndexByte_spec s 59 with ⟨h, hn⟩ | ⟨i, hi, h, hb, hn⟩
  · rcases h3 with h3 | h3
    · rw [h]; unfold restP; omega
    · by_cases hz : (lns s s.size 0 0).2 = 0
      · rw [h]; unfold restP; omega
      · have := hn ((lns s s.size 0 0).2 - 1) (by omega)
        rw [bt_data _ _ (by omega)] at this
        exact absurd h3 this
  · rw [bt_data _ _ hi] at hb
    rw [h]
    by_cases hlt : i < (lns s s.size 0 0).2
    · rcases h3 with h3 | h3
      · omega
      · by_cases he : i = (lns s s.size 0 0).2 - 1
        · unfold restP; omega
        · have := hn ((lns s s.size 0 0).2 - 1) (by omega) (by omega)
          rw [bt_data _ _ (by omega)] at this
          exact absurd h3 this
    · exact absurd hb (h2 i (by omega) hi)
theorem bt_list (s : ByteArray) (i : Nat) (h : i < s.size) : bt s (i : Int) = 59 ↔ s.data.toList[i]? = some 59 := by
  rw [Lib.bt_eq s i h, List.getElem?_eq_getElem (by simpa using h)]
  have e : s.data.toList[i]'(by simpa using h) = s[i] := by simp [ByteArray.getElem_eq_getElem_data]
  rw [e]
  constructor
  · intro h2; congr 1; exact UInt8.toNat_inj.1 (by rw [show (59 : UInt8).toNat = 59 from rfl]; omega)
  · intro h2; have := Option.some.inj h2; rw [this]; rfl
theorem lns_count (s : ByteArray) : ∀ (n fr i : Nat), i + n = s.size → (lns s n fr i).1.length = (s.data.toList.drop i).count 59 := by
  intro n
  induction n with
  | zero =>
    intro fr i h
    rw [List.drop_of_length_le (by simp; omega)]; rfl
  | succ n ih =>
    intro fr i h
    have hi : i < s.data.toList.length := by simp; omega
    rw [lns, List.drop_eq_getElem_cons hi, List.count_cons]
    have e : bt s (i : Int) = 59 ↔ s.data.toList[i] = 59 := by
      rw [bt_list s i (by omega), List.getElem?_eq_getElem hi]; simp
    by_cases hb : bt s (i : Int) = 59
    · rw [if_pos hb, List.length_cons, ih (i + 1) (i + 1) (by omega), if_pos (by rw [e.1 hb]; rfl)]
    · rw [if_neg hb, ih fr (i + 1) (by omega), if_neg (by simpa using fun h2 => hb (e.2 h2))]; rfl
theorem lines_count (s : ByteArray) : (linesV s).length = Lib.countByte s.data.toList 59 := by
  unfold linesV Lib.countByte
  rw [lns_count s s.size 0 0 (Nat.zero_add _), List.drop_zero]
theorem rest_none (s : ByteArray) (fr : Nat) (hf : fr ≤ s.size) (h : Lib.indexByte (s.extract fr s.size).data.toList 59 = -1) : lns s (s.size - fr) fr fr = ([], fr) := by
  refine lns_none s _ fr fr fun t h1 h2 hb => ?_
  have hn := Lib.indexByte_none h (t - fr)
  rw [bt_list s t (by omega)] at hb
  apply hn
  rw [ByteArray.data_extract, Array.toList_extract, List.extract_eq_take_drop, List.getElem?_take, if_pos (by omega), List.getElem?_drop, show fr + (t - fr) = t by omega]
  exact hb
theorem rest_some (s : ByteArray) (fr j : Nat) (hf : fr ≤ s.size) (h : Lib.indexByte (s.extract fr s.size).data.toList 59 = j) :
    fr + j < s.size ∧ lns s (s.size - fr) fr fr = (s.extract fr (fr + j) :: (lns s (s.size - (fr + j + 1)) (fr + j + 1) (fr + j + 1)).1, (lns s (s.size - (fr + j + 1)) (fr + j + 1) (fr + j + 1)).2) := by
  obtain ⟨h1, h2⟩ := Lib.indexByte_some h
  have hg : ∀ k, k < s.size - fr → (s.extract fr s.size).data.toList[k]? = s.data.toList[fr + k]? := fun k hk => by
    rw [ByteArray.data_extract, Array.toList_extract, List.extract_eq_take_drop, List.getElem?_take, if_pos (by omega), List.getElem?_drop]
  have hlt : j < s.size - fr := by
    obtain ⟨h3, _⟩ := List.getElem?_eq_some_iff.1 h1
    have h4 : j < (s.extract fr s.size).size := by simpa using h3
    rw [ByteArray.size_extract] at h4
    omega
  refine ⟨by omega, ?_⟩
  have e := lns_next s j (s.size - (fr + j + 1)) fr fr (fun t a b hb => ?_) ?_
  · rw [show j + (s.size - (fr + j + 1) + 1) = s.size - fr by omega] at e
    exact e
  · rw [bt_list s t (by omega)] at hb
    apply h2 (t - fr) (by omega)
    rw [hg _ (by omega), show fr + (t - fr) = t by omega]
    exact hb
  · rw [bt_list s (fr + j) (by omega), ← hg j hlt]
    exact h1
def leftS (W : World) (B : Nat) : Nat := match W.cell? ⟨B, 0, none⟩ with
  | some (.string t) => t.size
  | _ => 0
section
variable {F : Fence} {n : Nat} {P : Program}
theorem range_carry {α : Type} {g : Operand} {ps : Array Tmp} {assign body : Code} {Q : Exit → Act → World → Prop} {a : Act} {w : World}
    (hro : F.round = none) (h1 : 1 ≤ n) {gf : Nat} {lb : Array Value} (hg : a.eval g = .func (.func gf) #[] lb) (hFg : F.fn gf) (eg : ∀ args w, (callFunc gf args).run P w = .ok (.enter gf args) w)
    {enc : α → Value} (hps : ps.size = 1) (I : List α → World → Prop) (hI : OwnFrom w.heap.size I) (h0 : I [] w) (xs : List α) (a₁ : α → Act)
    (hassign : ∀ (l : Nat) (x : α) (W : World) (K : Act → World → Prop), K (a₁ x) W →
      assign.wpIn (F.inRound l) (n - 1 - 1) P (Exit.then K (fun _ _ _ => False)) { tmps := (ps.zip #[enc x]).foldl (fun t (p, v) => t.setIfInBounds p v) a.tmps, defers := [] } W)
    (hbody : ∀ (l : Nat) (pre : List α) (x : α) (W : World), I pre W → pre.length < xs.length → body.wpIn (F.inRound l) (n - 1 - 1) P (Exit.then (fun _ W' => KeepsFrom w.heap.size W W' ∧ I (pre ++ [x]) W') (fun _ _ _ => False)) (a₁ x) W)
    (hiter : ∀ (l : Nat) (J : List α → World → Prop) (W : World), Below w.heap.size w W → (∀ pre V, J pre V → I pre V) → (∀ pre V V', J pre V → KeepsFrom w.heap.size V V' → I pre V' → J pre V') →
      (∀ pre x V, J pre V → pre.length < xs.length → YieldAt F (n - 1 - 1) P l #[enc x] V fun e V' => e = .returned (.bool true) ∧ J (pre ++ [x]) V') → J [] W →
      CallsIn F (n - 1) P gf (#[.func (.yield l) #[] #[]] ++ lb) W fun e W' => (∃ v, e = .returned v) ∧ J xs W')
    (hdone : ∀ (D : Nat) (W : World), w.heap.size ≤ D → I xs W → W.heap[D]? = some (.deferred (some [])) → Q .normal { a with defers := { target := .collected D, args := #[] } :: a.defers } W) :
    (Code.rangeFunc g ps assign body).wpIn F n P Q a w := by
  refine wpIn_rangeFunc ?_
  intro fn hfn
  rw [hro]
  obtain ⟨rec, hrec⟩ : ∃ rec : LoopState → Loop, rec = fun st => { state := st, pending := none, fn, tmps := a.tmps, params := ps, assign, body, defers := w.heap.size } := ⟨_, rfl⟩
  obtain ⟨W1, hW1⟩ : ∃ W1, (w.alloc (.deferred (some []))).alloc (.loop (rec .ready)) = W1 := ⟨_, rfl⟩
  have hL1 : W1.heap[w.heap.size + 1]? = some (.loop (rec .ready)) := by
    have h := World.alloc_heap_new (w.alloc (.deferred (some []))) (.loop (rec .ready))
    rw [World.size_alloc, hW1] at h
    exact h
  have hK1 : W1.heap[w.heap.size]? = some (.deferred (some [])) := by
    rw [← hW1]
    exact (Below.heap_alloc _ _ _ (by simp)).trans (World.alloc_heap_new w _)
  have hB1 : Below w.heap.size w W1 := by
    rw [← hW1]
    exact ((Below.refl _ w).alloc (Nat.le_refl _) _).alloc (by simp) _
  have hI1 : I [] W1 := by
    rw [← hW1]
    exact hI _ _ _ none (hI _ _ _ none h0 (World.grownBy_alloc w _ none) (fun r e => by cases e)) (World.grownBy_alloc _ _ none) (fun r e => by cases e)
  refine ⟨w.heap.size + 1, [{ target := .collected w.heap.size, args := #[] }], W1, { target := .fn (.func gf) lb, args := #[.func (.yield (w.heap.size + 1)) #[] #[]] }, W1, gf,
    #[.func (.yield (w.heap.size + 1)) #[] #[]] ++ lb, W1, ?_, ?_, ?_, ?_, fun _ => h1, ?_⟩
  · rw [← hW1, hrec]
    exact run_enterLoop_outer _ _ _ _ _
  · simp only [resolve, hg]
    simp [go_sem]
  · intro f' hf'
    simp [Target.leads] at hf'
    subst hf'
    exact hFg
  · simp [invoke, go_sem, eg]
  · refine (hiter (w.heap.size + 1) (fun pre V => I pre V ∧ V.heap[w.heap.size + 1]? = some (.loop (rec .ready)) ∧ V.heap[w.heap.size]? = some (.deferred (some []))) W1 hB1 (fun _ _ h => h.1)
      (fun pre V V' h hk hi => ⟨hi, hk.same _ _ (by omega) h.2.1 rfl, hk.same _ _ (Nat.le_refl _) h.2.2 rfl⟩) ?_ ⟨hI1, hL1, hK1⟩).mono ?_
    · rintro pre x V ⟨hi, hl, hk⟩ hlen
      have hlt : w.heap.size + 1 < V.heap.size := (Array.getElem?_eq_some_iff.1 hl).1
      have hy := run_yield (P := P) (args := #[enc x]) hl (by rw [hrec]; exact hps.symm)
      have hb := run_beginRound (P := P) hl (by rw [hrec])
      obtain ⟨V2, hV2⟩ : ∃ V2, V.putObj (w.heap.size + 1) (.loop { rec .ready with state := .busy }) = V2 := ⟨_, rfl⟩
      rw [hV2] at hb
      have hl2 : V2.heap[w.heap.size + 1]? = some (.loop { rec .ready with state := .busy }) := by
        rw [← hV2]; exact World.putObj_heap_same hlt
      have hk2 : V2.heap[w.heap.size]? = some (.deferred (some [])) := by
        rw [← hV2]; exact (World.putObj_heap_other (by omega)).trans hk
      have hi2 : I pre V2 := by
        rw [← hV2]
        exact hI _ _ _ (some (w.heap.size + 1)) hi (grownBy_putObj' V _ _) (fun r e => by cases e; exact ⟨by omega, _, hl, rfl⟩)
      rw [hrec] at hy
      refine ⟨fn, _, assign, body, hy, roundIn_of_wpIn hfn (hassign _ x V _ ⟨V2, hb, wpIn_mono (hbody _ pre x V2 hi2 hlen) ?_⟩)⟩
      rintro e a3 V3 hp
      cases e with
      | normal =>
        obtain ⟨hk3, hi3⟩ := hp
        have hl3 := hk3.same _ _ (by omega) hl2 rfl
        have he := run_endRound (P := P) none hl3
        exact ⟨_, _, he, rfl, hI _ _ _ (some (w.heap.size + 1)) hi3 (grownBy_putObj' V3 _ _) (fun r e => by cases e; exact ⟨by omega, _, hl3, rfl⟩),
          (World.putObj_heap_same (Array.getElem?_eq_some_iff.1 hl3).1).trans (by rw [hrec]; rfl), (World.putObj_heap_other (by omega)).trans (hk3.same _ _ (Nat.le_refl _) hk2 rfl)⟩
      | ret => exact hp.elim
      | exit id => exact hp.elim
      | goto t => exact hp.elim
      | panic ch => exact hp.elim
      | outgrown => exact hp.elim
    · rintro e W2 ⟨⟨v, rfl⟩, hi, hl, hk⟩
      have he := run_endLoop (P := P) hl (by rw [hrec]; simp)
      rw [hrec] at he
      refine ⟨none, _, he, hdone _ _ (Nat.le_refl _) (hI _ _ _ (some (w.heap.size + 1)) hi (grownBy_putObj' W2 _ _) (fun r e => by cases e; exact ⟨by omega, _, hl, rfl⟩)) ((World.putObj_heap_other (by omega)).trans hk)⟩
end
set_option maxRecDepth 100000 in
theorem slCut_calls (s : ByteArray) (w : World) (hs : s.size ≤ 4611686018427387903) :
    Calls Try.prog 73 #[.string s, .string ⟨#[59]⟩] w fun e w' => ∃ n, w' = w.drewN n ∧
      ((Lib.indexByte s.data.toList 59 = -1 ∧ e = .returned (.tuple #[.string s, .string ⟨#[]⟩, .bool false])) ∨
       ∃ j : Nat, Lib.indexByte s.data.toList 59 = j ∧ j < s.size ∧ e = .returned (.tuple #[.string (s.extract 0 j), .string (s.extract (j + 1) s.size), .bool true])) := by
  by_cases h : Lib.indexByte s.data.toList 59 = -1
  · go_enter Try.func73, Try.ntmps73
    go_wp2_with (go_at_call 72; refine (Try.stringslite_Index_one s 59 _).mono ?_; rintro e w' ⟨rfl, rfl⟩; rw [h])
    refine bodyPost_ret (results_tmp3 rfl _ _ _) rfl ?_
    exact ⟨0, rfl, .inl ⟨h, rfl⟩⟩
  · have hge := Lib.indexByte_ge s.data.toList 59
    obtain ⟨j, hj⟩ := Int.eq_ofNat_of_zero_le (show 0 ≤ Lib.indexByte s.data.toList 59 by omega)
    obtain ⟨h1, h2⟩ := Lib.indexByte_some hj
    have hlt : j < s.size := by
      have := List.getElem?_eq_some_iff.1 h1
      obtain ⟨h3, _⟩ := this
      simpa using h3
    have w1 : wrap64 ((j : Int) + 1) = ((j + 1 : Nat) : Int) := by rw [Lib.wrap_id (by omega) (by omega)]; omega
    have c0 : decide ((j : Int) ≥ 0) = true := decide_eq_true (by omega)
    have c1 : (0 ≤ (j : Int)) = True := eq_true (by omega)
    have c2 : ((j : Int) ≤ (s.size : Int)) = True := eq_true (by omega)
    have c3 : (((j + 1 : Nat) : Int) ≤ (s.size : Int)) = True := eq_true (by omega)
    go_enter Try.func73, Try.ntmps73
    go_wp2_with (go_at_call 72; refine (Try.stringslite_Index_one s 59 _).mono ?_; rintro e w' ⟨rfl, rfl⟩; rw [hj])
    go_quiet (fail)
    go_wp2
    refine bodyPost_ret (results_tmp3 rfl _ _ _) rfl ?_
    exact ⟨nq, rfl, .inr ⟨j, hj, hlt, rfl⟩⟩
theorem cut_none (s : ByteArray) (w : World) (hs : s.size ≤ 4611686018427387903) (h : Lib.indexByte s.data.toList 59 = -1) :
    Calls Try.prog 56 #[.string s, .string ⟨#[59]⟩] w fun e w' => e = .returned (.tuple #[.string s, .string ⟨#[]⟩, .bool false]) ∧ ∃ n, w' = w.drewN n := by
  go_enter Try.func56, Try.ntmps56
  go_wp2_with (go_at_call 73; refine (slCut_calls s _ hs).mono ?_; rintro e w' ⟨n, rfl, (⟨_, rfl⟩ | ⟨j, hj, _, rfl⟩)⟩; rotate_left; (rw [h] at hj; omega))
  refine bodyPost_ret (results_tmp3 rfl _ _ _) rfl ?_
  exact ⟨rfl, _, rfl⟩
theorem cut_some (s : ByteArray) (w : World) (hs : s.size ≤ 4611686018427387903) (j : Nat) (h : Lib.indexByte s.data.toList 59 = j) :
    Calls Try.prog 56 #[.string s, .string ⟨#[59]⟩] w fun e w' => e = .returned (.tuple #[.string (s.extract 0 j), .string (s.extract (j + 1) s.size), .bool true]) ∧ ∃ n, w' = w.drewN n := by
  go_enter Try.func56, Try.ntmps56
  go_wp2_with (go_at_call 73; refine (slCut_calls s _ hs).mono ?_; rintro e w' ⟨n, rfl, (⟨h2, rfl⟩ | ⟨i, hi, _, rfl⟩)⟩; (rw [h] at h2; omega); obtain rfl : i = j := by rw [h] at hi; omega)
  refine bodyPost_ret (results_tmp3 rfl _ _ _) rfl ?_
  exact ⟨rfl, _, rfl⟩
theorem below_drewN' (w : World) (n : Nat) : Below w.heap.size w (w.drewN n) := pw_below_drewN (Below.refl _ w) n
theorem infoS : (Try.prog.info? 9).map (fun i => (i.zero, i.size, i.bytes)) = some (some (.string ⟨#[]⟩), 1, 16) := by kernel_rfl
attribute [local go_sem] Oper.semAt_some
theorem linesOf_in (n : Nat) (s : ByteArray) (w : World) :
    CallsIn Fence.wide n Try.prog 36 #[.string s] w fun e w' => e = .returned (.func (.func 55) #[] #[.pointer (some ⟨w.heap.size, 0, none⟩)]) ∧ w' = w.alloc (.cells #[.string s] 9) := by
  refine callsIn_of_wp Try.func36 rfl trivial ?_ rfl
  simp only [Try.ntmps36, List.size_toArray, List.length_cons, List.length_nil, Nat.reduceAdd, Nat.reduceSub, Array.replicate_succ, Array.replicate_zero, List.push_toArray, List.append_toArray, List.nil_append, List.cons_append]
  gi_wp2
  go_ret
  exact ⟨rfl, rfl⟩
set_option maxRecDepth 100000 in
set_option maxHeartbeats 2000000 in
theorem StrLines_calls (s : ByteArray) (w : World) (hs : s.size ≤ 17592186044416) :
    Calls Try.prog 14 #[.string s] w fun e w' => ∃ v, e = .returned (.tuple #[v, .string (s.extract (restP s) s.size)]) ∧ Kd.R Kd.string 9 w' w.heap.size (fun _ => True) v (linesV s) ∧ Below w.heap.size w w' := by
  have hcount : Lib.countByte s.data.toList 59 ≤ s.size := by
    have := List.count_le_length (l := s.data.toList) (a := (59 : UInt8))
    unfold Lib.countByte
    simpa using this
  obtain ⟨i0, hi, hz0, hz1, hz2⟩ := info_parts infoS
  have hmk : ∀ W : World, (Instr.makeSlice 22 (.int .i64 0) (.int .i64 (Lib.countByte s.data.toList 59 : Nat))).run Try.prog W = .ok (.slice (some ⟨W.heap.size, 0, none⟩) 0 (Lib.countByte s.data.toList 59)) (W.alloc (.cells (madeCells #[.string ⟨#[]⟩] (Lib.countByte s.data.toList 59)) 9)) := fun W => by
    have h := run_make (P := Try.prog) W 22 9 i0 (.string ⟨#[]⟩) Try.underlying22 hi hz0 .i64 .i64 0 (Lib.countByte s.data.toList 59 : Nat) (by omega) (by omega) (by rw [hz2]; omega) (by omega)
    rw [hz1] at h
    simpa [Value.cells] using h
  have hCl := lines_count s
  generalize hC : Lib.countByte s.data.toList 59 = C at hcount hmk hCl
  have hcn : Calls Try.prog 35 #[.string s, .string ⟨#[59]⟩] w fun e w' => e = .returned (.int .i64 (C : Nat)) ∧ w' = w := by
    have := Try.strings_Count_one s 59 w
    rwa [hC] at this
  refine (callsIn_wide (n := 8)).1 ?_
  refine callsIn_of_wp_marks Try.func14 rfl trivial ?_ rfl
  simp only [Try.ntmps14, List.size_toArray, List.length_cons, List.length_nil, Nat.reduceAdd, Nat.reduceSub, Array.replicate_succ, Array.replicate_zero, List.push_toArray, List.append_toArray, List.nil_append, List.cons_append]
  gi_wp2_with (first | (refine ⟨trivial, ?_⟩; gi_at_call 35; refine (callsIn_wide.2 hcn).mono ?_; rintro e w ⟨rfl, rfl⟩) | (refine ⟨trivial, ?_⟩; gi_at_call 36; refine (linesOf_in _ s _).mono ?_; rintro e w' ⟨rfl, rfl⟩))
  obtain ⟨W0, hW0⟩ : ∃ W0, ((w.alloc (.cells (madeCells #[.string ⟨#[]⟩] C) 9)).alloc (.cells #[.slice (some ⟨w.heap.size, 0, none⟩) 0 C] 22)).alloc (.cells #[.string s] 9) = W0 := ⟨_, rfl⟩
  have hsz : W0.heap.size = w.heap.size + 3 := by rw [← hW0]; simp
  have hB0 : Below w.heap.size w W0 := by
    rw [← hW0]; exact (((Below.refl _ w).alloc (Nat.le_refl _) _).alloc (by simp) _).alloc (by simp; omega) _
  have bO : Boxed W0 (w.heap.size + 1) 22 (.slice (some ⟨w.heap.size, 0, none⟩) 0 C) := by
    rw [← hW0]
    have h := Boxed.new (w.alloc (.cells (madeCells #[.string ⟨#[]⟩] C) 9)) 22 (.slice (some ⟨w.heap.size, 0, none⟩) 0 C)
    rw [World.size_alloc] at h
    exact h.alloc _
  have bS : Boxed W0 (w.heap.size + 2) 9 (.string s) := by
    rw [← hW0]
    have h := Boxed.new ((w.alloc (.cells (madeCells #[.string ⟨#[]⟩] C) 9)).alloc (.cells #[.slice (some ⟨w.heap.size, 0, none⟩) 0 C] 22)) 9 (.string s)
    rw [World.size_alloc, World.size_alloc] at h
    exact h
  have hrow : W0.ownsRow w.heap.size 9 1 (.slice (some ⟨w.heap.size, 0, none⟩) 0 C) 0 [] := by
    rw [← hW0]
    have h2 := World.ownsRow_lit (base := w.heap.size) (e := 9) (size := 1) w (madeCells #[.string ⟨#[]⟩] C) C (Nat.le_refl _) (by simp only [maxLen]; omega) (by simp [size_madeCells])
    have h3 := own_take (m := 0) h2 (Nat.zero_le _)
    have h4 : (w.alloc (.cells (madeCells #[.string ⟨#[]⟩] C) 9)).ownsRow w.heap.size 9 1 (.slice (some ⟨w.heap.size, 0, none⟩) 0 C) 0 [] := by simpa using h3
    exact (h4.alloc _).alloc _
  rw [hW0]
  clear hW0 hmk hcn
  refine range_carry rfl (by omega) (gf := 55) (lb := #[.pointer (some ⟨w.heap.size + 1 + 1, 0, none⟩)]) rfl trivial (enters_of Try.func55 (by kernel_rfl) rfl) (enc := Value.string) rfl
    (fun pre W => (∃ t, Boxed W (w.heap.size + 2) 9 (.string t)) ∧ (Boxed W (w.heap.size + 1) 22 (.slice (some ⟨w.heap.size, 0, none⟩) pre.length C) ∧ W.ownsRow w.heap.size 9 1 (.slice (some ⟨w.heap.size, 0, none⟩) pre.length C) pre.length (pre.map Value.string)) ∧ Below w.heap.size w W)
    ?own ⟨⟨_, bS⟩, ⟨bO, hrow⟩, hB0⟩ (linesV s)
    (fun x => { tmps := #[.string s, undef, .slice none 0 0, .string ⟨#[]⟩, .pointer (some ⟨w.heap.size + 1, 0, none⟩), .string x, .string s, .int .i64 C, .slice (some ⟨w.heap.size, 0, none⟩) 0 C, .string s,
      .func (.func 55) #[] #[.pointer (some ⟨w.heap.size + 1 + 1, 0, none⟩)], .string x, undef, undef, undef, undef, undef, undef, undef, undef, undef, undef], defers := [] }) ?assign ?body ?iter ?done
  case own =>
    rintro pre A B row ⟨⟨t, h1⟩, ⟨h2, h3⟩, h4⟩ hg hr
    have nb : ∀ {k : Nat} {o : Obj}, A.heap[k]? = some o → o.isCells = true → some k ≠ row := fun hbx hc2 e => by
      obtain ⟨_, o, ho, hc⟩ := hr _ e.symm
      rw [hbx] at ho
      cases ho
      rw [hc2] at hc
      cases hc
    obtain ⟨cells, hk⟩ := own_typed h3 w.heap.size rfl
    exact ⟨⟨t, h1.kept hg (nb h1 rfl)⟩, ⟨h2.kept hg (nb h2 rfl), h3.kept hg (.inr (nb hk rfl))⟩, h4.grown hg h4.size (fun r e => by have := (hr r e).1; omega)⟩
  case assign =>
    intro l x W K hK
    gi_wp2
    exact hK
  case body =>
    rintro l pre x W ⟨⟨t, h1⟩, ⟨hv, hrow⟩, hB⟩ hlt
    have hc := hv.cell
    have hf := hv.frozen
    have hgs : w.heap.size < W.heap.size := Nat.lt_trans (by omega) hv.lt
    gi_wp2_with (gi_at_builtin; refine wpListIn_append_fits _ rfl _ _ 22 rfl w.heap.size 9 i0 1 Try.underlying22 hi hz1 w.heap.size pre.length C _ rfl (hrow.alloc _) ⟨W.heap.size, 0, none⟩ 1 1 [.string x] rfl rfl (cell_one_new _ _ _) (by simp [Value.oneCell']) (by omega) ?_; intro w1 hown' hgrow; have hv1 := (hv.alloc (.cells #[.string x] 9)).kept hgrow (by simp); have hc1 := hv1.cell; have hf1 := hv1.frozen)
    have hs1 := (h1.alloc (.cells #[.string x] 9)).kept hgrow (by simp)
    refine ⟨(((KeepsOthers.alloc W _).trans (KeepsOthers.of_grownBy hgrow fun q o eq hq => ?_)).trans (KeepsOthers.setCell _ _ _)).from _, ⟨t, hs1.other (by omega) _⟩, ⟨?_, ?_⟩, hB.trans ?_⟩
    · cases eq
      obtain ⟨cells, hk⟩ := own_typed (hrow.alloc (.cells #[.string x] 9)) w.heap.size rfl
      rw [hk] at hq
      cases hq
      rfl
    · rw [List.length_append]
      exact hv1.set _
    · rw [List.length_append, List.map_append]
      exact hown'.kept (grownBy_setCell' w1 _ _) (.inr (by simp [Value.ownBlock]))
    · exact (((Below.refl w.heap.size W).alloc (by omega) _).grown hgrow (by simp; omega) fun j ej => by cases ej; exact Nat.le_refl _).setCell (p := ⟨w.heap.size + 1, 0, none⟩) (by show w.heap.size ≤ w.heap.size + 1; omega) _
  case iter =>
    intro l J W hBW hJI hJK hY hJ0
    have hdrew : ∀ pre V m, J pre V → J pre (V.drewN m) := fun pre V m hJ => by
      obtain ⟨a1, a2, a3⟩ := hJI _ _ hJ
      exact hJK pre V _ hJ ⟨Nat.le_refl _, fun k o _ hk _ => hk⟩ ⟨a1, a2, a3.trans ((below_drewN' _ m).mono a3.size)⟩
    refine callsIn_of_wp Try.func55 rfl trivial ?_ rfl
    simp only [Try.ntmps55, List.size_toArray, List.length_cons, List.length_nil, Nat.reduceAdd, Nat.reduceSub, Array.replicate_succ, Array.replicate_zero, List.push_toArray, List.append_toArray, List.nil_append, List.cons_append]
    have hcs : W.cell? ⟨w.heap.size + 2, 0, none⟩ = some (.string s) := (hBW.cell (p := ⟨w.heap.size + 2, 0, none⟩) (by show w.heap.size + 2 < W0.heap.size; omega)).trans bS.cell
    gi_wp2
    gi_loopw [3] (fun p wr => ∃ (pre : List ByteArray) (fr : Nat), fr ≤ s.size ∧ linesV s = pre ++ (lns s (s.size - fr) fr fr).1 ∧ wr.cell? ⟨w.heap.size + 2, 0, none⟩ = some (.string (s.extract fr s.size)) ∧ J pre wr)
      (fun p wr => leftS wr (w.heap.size + 2))
    case atStart =>
      exact ⟨[], 0, Nat.zero_le _, rfl, by rw [hcs]; congr 1; congr 1; apply ByteArray.ext; simp [ByteArray.data_extract, ← ByteArray.size_data], hJ0⟩
    case round =>
      obtain ⟨pre, fr, hfr, hlin, hcell, hJ⟩ := hrel
      obtain ⟨⟨t, hbs⟩, _, _⟩ := hJI _ _ hJ
      have hcf := hbs.frozen
      by_cases h : Lib.indexByte (s.extract fr s.size).data.toList 59 = -1
      · have hcut := fun V => cut_none (s.extract fr s.size) V (by rw [ByteArray.size_extract]; omega) h
        gi_wp2_with (refine ⟨trivial, ?_⟩; gi_at_call 56; refine (callsIn_wide.2 (hcut _)).mono ?_; rintro e V ⟨rfl, m, rfl⟩)
        refine ⟨fun _ h => (by cases h), ?_⟩
        gi_wp2
        refine bodyPost_ret (results_none rfl _ _ _) rfl ?_
        rw [rest_none s fr hfr h, List.append_nil] at hlin
        rw [hlin]
        exact ⟨⟨_, rfl⟩, hdrew _ _ m hJ⟩
      · have hge := Lib.indexByte_ge (s.extract fr s.size).data.toList 59
        obtain ⟨j, hj⟩ := Int.eq_ofNat_of_zero_le (show 0 ≤ Lib.indexByte (s.extract fr s.size).data.toList 59 by omega)
        obtain ⟨hlt, hnext⟩ := rest_some s fr j hfr hj
        have hsz2 : (s.extract fr s.size).size = s.size - fr := by rw [ByteArray.size_extract]; omega
        have e1 : (s.extract fr s.size).extract 0 j = s.extract fr (fr + j) := by
          rw [ByteArray.extract_extract]; congr 1; omega
        have e2 : (s.extract fr s.size).extract (j + 1) (s.extract fr s.size).size = s.extract (fr + j + 1) s.size := by
          rw [hsz2, ByteArray.extract_extract]; congr 1; omega
        have hcut := fun V => cut_some (s.extract fr s.size) V (by rw [ByteArray.size_extract]; omega) j hj
        rw [e1, e2] at hcut
        rw [hnext] at hlin
        have hlen : pre.length < (linesV s).length := by rw [hlin]; simp
        gi_wp2_with (refine ⟨trivial, ?_⟩; gi_at_call 56; refine (callsIn_wide.2 (hcut _)).mono ?_; rintro e V ⟨rfl, m, rfl⟩; obtain ⟨fn, tmps, assign, body, hy, hR⟩ := hY pre (s.extract fr (fr + j)) (wr.drewN m) (hdrew _ _ m hJ) hlen)
        refine hR.mono ?_
        rintro e V ⟨rfl, hJ2⟩
        obtain ⟨⟨t2, hbs2⟩, hb2, hb3⟩ := hJI _ _ hJ2
        have hc2 := hbs2.cell
        have hf2 := hbs2.frozen
        gi_wp2
        have hset : (V.setCell ⟨w.heap.size + 1 + 1, 0, none⟩ (.string (s.extract (fr + j + 1) s.size))).cell? ⟨w.heap.size + 2, 0, none⟩ = some (.string (s.extract (fr + j + 1) s.size)) :=
          World.cell?_setCell_same' _ _ _ (by rw [show V.cell? ⟨w.heap.size + 1 + 1, 0, none⟩ = some (.string t2) from hc2]; rfl)
        refine ⟨⟨pre ++ [s.extract fr (fr + j)], fr + j + 1, by omega, ?_, hset, ?_⟩, ?_⟩
        · rw [hlin, List.append_assoc]; rfl
        · refine hJK _ V _ hJ2 ((KeepsOthers.setCell _ _ _).from _) ⟨⟨_, hbs2.set _⟩, ⟨hb2.1.other (by omega) _, hb2.2.kept (grownBy_setCell' V (w.heap.size + 1 + 1) _) (.inr (by simp [Value.ownBlock]; omega))⟩, hb3.setCell (p := ⟨w.heap.size + 1 + 1, 0, none⟩) (by show w.heap.size ≤ w.heap.size + 1 + 1; omega) _⟩
        · unfold leftS
          rw [hset, hcell]
          show (s.extract (fr + j + 1) s.size).size < (s.extract fr s.size).size
          rw [hsz2, ByteArray.size_extract]
          omega
  case done =>
    rintro D W hD ⟨_, ⟨hv, hrow⟩, hB⟩ hK
    have hc := hv.cell
    obtain ⟨hr1, hr2⟩ := rest_last s
    have hl : ∀ V, Calls Try.prog 37 #[.string s, .string ⟨#[59]⟩] V fun e w' => e = .returned (.int .i64 ((restP s : Int) - 1)) ∧ w' = V := fun V => by
      have h := Try.strings_LastIndex_one s ⟨#[59]⟩ rfl (by omega) V
      rw [show ((((⟨#[59]⟩ : ByteArray)[0]'(by decide)).toNat : Nat) : Int) = 59 from rfl, hr1] at h
      exact h
    generalize hR : restP s = R at hl hr1 hr2
    have q1 : (R : Int) - 1 + 1 = (R : Int) := by omega
    have q3 : (0 ≤ (R : Int)) = True := eq_true (by omega)
    have q4 : ((R : Int) ≤ (s.size : Int)) = True := eq_true (by omega)
    have q5 : decide (0 ≤ (R : Int)) = true := decide_eq_true (by omega)
    have q6 : decide ((R : Int) ≤ (s.size : Int)) = true := decide_eq_true (by omega)
    have q2 : wrap64 (R : Int) = (R : Int) := Lib.wrap_id (by omega) (by omega)
    gi_wp2
    refine wpIn_wide.2 ?_
    go_quiet ((go_at_call 37; refine Calls.quiet_of_same (hl _)))
    gi_wp2
    refine ⟨by simp, .inl ⟨_, _, rfl, run_takeDeferred (w := W.drewN nq) hK, ?_⟩⟩
    refine ⟨_, results_tmp2 rfl _ _ _, .slice (some ⟨w.heap.size, 0, none⟩) (linesV s).length C, by rw [hR, hCl]; rfl, Kd.R_of_own (ownsRow_putObj (W := W.drewN nq) hrow _ hK rfl) (fun _ _ => trivial), ?_⟩
    exact hB.trans ((below_drewN' W nq).mono hB.size |>.trans (belowK_b (w := W0) (by omega) (W.drewN nq) D _ _ hD hK rfl rfl))
end Go.Proofs.Ytmahgffkkdggcaa.Str
