import Derived.Test.YtlofgoahgnllkaaDoorEnds
import Derived.Test.YtlofgoahgnllkaaDoorPorts
set_option linter.unusedVariables false
set_option linter.unusedSimpArgs false
namespace Go.Proofs.YtlofgoahgnllkaaDoor.Ends
open Go.RowKit Go.Shelf Go.Proofs.YtlofgoahgnllkaaDoorW.PrintWords
def isPre (s : ByteArray) : Bool := Go.Lib.hasPrefix s.data.toList [112, 111, 114, 116, 32]
def IsPort (s : ByteArray) (a p : Int) : Prop := endOkP a p ∧ s = portT a p
theorem isPort_iff (s : ByteArray) (a p : Int) : IsPort s a p ↔ isPre s = true ∧ IsEnd (s.extract 5 s.size) a p := by
  unfold IsPort IsEnd isPre Go.Lib.hasPrefix
  have hd : (portT a p).data.toList = [112, 111, 114, 116, 32] ++ (endT a p).data.toList := by unfold portT; simp [ByteArray.data_append]
  have he : (portT a p).size = 5 + (endT a p).size := by unfold portT; rw [ByteArray.size_append]; rfl
  constructor
  · rintro ⟨h1, rfl⟩
    refine ⟨?_, h1, ?_⟩
    · rw [hd]
      exact List.isPrefixOf_iff_prefix.2 (List.prefix_append _ _)
    · apply ByteArray.ext
      apply Array.toList_inj.1
      have hl : (endT a p).data.toList.length = (endT a p).size := by simp
      rw [ByteArray.data_extract, Array.toList_extract, List.extract_eq_take_drop, hd, he]
      show List.take (5 + (endT a p).size - 5) (endT a p).data.toList = _
      exact List.take_of_length_le (by omega)
  · rintro ⟨h1, h2, h3⟩
    refine ⟨h2, ?_⟩
    obtain ⟨r, hr⟩ := List.isPrefixOf_iff_prefix.1 h1
    have hlen : s.data.toList.length = s.size := by simp
    have h5 : 5 ≤ s.size := by rw [← hlen, ← hr]; simp
    apply ByteArray.ext
    apply Array.toList_inj.1
    rw [hd, ← h3, ByteArray.data_extract, Array.toList_extract, List.extract_eq_take_drop, List.take_of_length_le (by simp), ← hr]
    rfl
def SD (s : ByteArray) (x y : Int) (ok : Bool) : Prop := (IsPort s x y ∧ ok = true) ∨ ((∀ a p, ¬ IsPort s a p) ∧ ok = false)
theorem str0 (n : Nat) (h : n ≤ 281474976710656) (s : ByteArray) (hs : s.size ≤ n) : (s.extract 5 s.size).size ≤ n := by rw [ByteArray.size_extract]; omega
set_option maxHeartbeats 4000000 in
set_option maxRecDepth 100000 in
theorem said_calls (s : ByteArray) (w : World) (hs : s.size ≤ 281474976710656) (hL : LErr w) (hOk : OkC) :
    Calls Tryd.prog 60 #[.string s] w fun e w' => ∃ x y ok, SD s x y ok ∧ e = .returned (.tuple #[EV x y, .bool ok]) ∧ Below w.heap.size w w' := by
  have HL := Aside0.mk hL
  clear hL
  obtain ⟨t, ht⟩ : ∃ t, t = (if isPre s then s.extract 5 s.size else s) := ⟨_, rfl⟩
  obtain ⟨b, hbp⟩ : ∃ b, b = isPre s := ⟨_, rfl⟩
  have hts : t.size ≤ 281474976710656 := by
    rw [ht]; split
    · exact str0 _ (by omega) s hs
    · exact hs
  have hcp : ∀ W, Calls Tryd.prog 82 #[.string s, .string ⟨#[112, 111, 114, 116, 32]⟩] W fun e w' => e = .returned (.tuple #[.string t, .bool b]) ∧ Below W.heap.size W w' := fun W => by
    have h := cutPrefix_calls s W hs
    unfold isPre at ht hbp
    rw [← ht, ← hbp] at h
    exact h
  have HC := Aside0.mk hcp
  have HTT := Aside0.mk ht
  have HBP := Aside0.mk hbp
  clear hcp ht hbp
  obtain ⟨W1, hW1, HB1, G1, hsz1⟩ := res_world w
  go_enter Tryd.func60, Tryd.ntmps60
  go_wp2_with fail
  rw [← hW1]
  clear hW1
  (go_at_call 82; refine (HC.out _).mono ?_; rintro e W2 ⟨rfl, hb2⟩)
  have HB2 := Aside0.mk (below_step HB1.out hb2)
  have G2 := Aside0.mk ((hb2.block w.heap.size hsz1).trans G1.out)
  have hsz2 := Nat.lt_of_lt_of_le hsz1 hb2.size
  clear hb2 HB1 G1 hsz1
  go_wp2_with fail
  (go_at_call 67; refine (readRD t _ hts (HL.out.below HB2.out) hOk).mono ?_; rintro e W3 ⟨x, y, ev, hr, rfl, hb3⟩)
  have HB3 := Aside0.mk (below_step HB2.out hb3)
  have G3 := Aside0.mk ((hb3.block w.heap.size hsz2).trans G2.out)
  have hsz3 := Nat.lt_of_lt_of_le hsz2 hb3.size
  clear hb3 HB2 G2 hsz2
  have d0 : W3.cell? ⟨w.heap.size, 0, none⟩ = some (.int .i64 0) := (cell_at G3.out 0).trans rfl
  have d1 : W3.cell? ⟨w.heap.size, 1, none⟩ = some (.int .i64 0) := (cell_at G3.out 1).trans rfl
  have z0 : W3.frozen? ⟨w.heap.size, 0, none⟩ = false := by simp [World.frozen?, G3.out]
  have z1 : W3.frozen? ⟨w.heap.size, 1, none⟩ = false := by simp [World.frozen?, G3.out]
  have hne1 : ¬ (W3.heap.size = w.heap.size) := by omega
  have hne2 : ¬ (w.heap.size = W3.heap.size) := by omega
  obtain ⟨f1, f2⟩ := fin_world HB3.out hsz3 x y G3.out (.cells #[.int .i64 x, .int .i64 y] 43)
  have F1 := Aside0.mk f1
  have F2 := Aside0.mk f2
  clear f1 f2
  have HR := Aside0.mk hr
  cases b with
  | false =>
    have hno : SD s x y false := .inr ⟨fun a p h => (by rw [isPort_iff] at h; rw [← HBP.out] at h; cases h.1), rfl⟩
    clear hr
    go_wp2
    go_region
    go_wp2
    refine bodyPost_ret (results_ct rfl _ _ w.heap.size 43 #[.int .i64 x, .int .i64 y] (0, 0) _ rfl F2.out Tryd.underlying43 rfl (by kernel_rfl)) rfl ?_
    exact ⟨x, y, false, hno, rfl, F1.out⟩
  | true =>
    have ht' : t = s.extract 5 s.size := by rw [HTT.out, ← HBP.out]; rfl
    have HT' := Aside0.mk ht'
    clear ht'
    rcases hr with ⟨hi, rfl⟩ | ⟨hn, rfl, rfl, tp, pv, rfl⟩
    · have hyes : SD s x y true := .inl ⟨(isPort_iff s x y).2 ⟨HBP.out.symm, HT'.out ▸ hi⟩, rfl⟩
      clear HR
      go_wp2
      go_region
      go_wp2
      refine bodyPost_ret (results_ct rfl _ _ w.heap.size 43 #[.int .i64 x, .int .i64 y] (0, 0) _ rfl F2.out Tryd.underlying43 rfl (by kernel_rfl)) rfl ?_
      exact ⟨x, y, true, hyes, rfl, F1.out⟩
    · have hno : SD s 0 0 false := .inr ⟨fun a p h => hn a p (by rw [HT'.out]; exact ((isPort_iff s a p).1 h).2), rfl⟩
      clear HR
      go_wp2
      go_region
      go_wp2
      refine bodyPost_ret (results_ct rfl _ _ w.heap.size 43 #[.int .i64 0, .int .i64 0] (0, 0) _ rfl F2.out Tryd.underlying43 rfl (by kernel_rfl)) rfl ?_
      exact ⟨0, 0, false, hno, rfl, F1.out⟩
def insB (a p : Int) : Bool := decide ((1 ≤ a ∧ a ≤ 9) ∧ 1 ≤ p ∧ p ≤ 999)
def InC : Prop := ∀ a p W, Calls Tryd.prog 47 #[EV a p] W fun e w' => e = .returned (.bool (insB a p)) ∧ Below W.heap.size W w'
def LS (s : ByteArray) (x y : Int) (ok : Bool) : Prop := (IsPort s x y ∧ insB x y = true ∧ ok = true) ∨ ((∀ a p, IsPort s a p → insB a p = false) ∧ x = 0 ∧ y = 0 ∧ ok = false)
def LB (s : ByteArray) (x : Int) (ok : Bool) : Prop := (IsPort s 50 x ∧ ok = true) ∨ ((∀ p, ¬ IsPort s 50 p) ∧ x = 0 ∧ ok = false)
theorem port_one {s : ByteArray} {a p b q : Int} (h1 : IsPort s a p) (h2 : IsPort s b q) : a = b ∧ p = q := by
  have e1 := ((isPort_iff s a p).1 h1).2
  have e2 := ((isPort_iff s b q).1 h2).2
  exact endT_inj a p b q e1.1 e2.1 (e1.2.symm.trans e2.2)
set_option maxHeartbeats 4000000 in
set_option maxRecDepth 100000 in
theorem linsays_calls (s : ByteArray) (w : World) (hs : s.size ≤ 281474976710656) (hL : LErr w) (hOk : OkC) (hIn : InC) :
    Calls Tryd.prog 27 #[.string s] w fun e w' => ∃ x y ok, LS s x y ok ∧ e = .returned (.tuple #[EV x y, .bool ok]) ∧ Below w.heap.size w w' := by
  have HL := Aside0.mk hL
  clear hL
  obtain ⟨W1, hW1, HB1, G1, hsz1⟩ := res_world w
  go_enter Tryd.func27, Tryd.ntmps27
  go_wp2_with fail
  rw [← hW1]
  clear hW1
  (go_at_call 60; refine (said_calls s _ hs (HL.out.below HB1.out) hOk).mono ?_; rintro e W2 ⟨x, y, ok, hr, rfl, hb2⟩)
  have HB2 := Aside0.mk (below_step HB1.out hb2)
  have G2 := Aside0.mk ((hb2.block w.heap.size hsz1).trans G1.out)
  have hsz2 := Nat.lt_of_lt_of_le hsz1 hb2.size
  clear hb2 HB1 G1 hsz1
  rcases hr with ⟨hi, rfl⟩ | ⟨hn, rfl⟩
  · go_wp2_with fail
    (go_at_call 47; refine (hIn x y _).mono ?_; rintro e W3 ⟨rfl, hb3⟩)
    have HB3 := Aside0.mk (below_step (HB2.out.alloc (by omega) _) hb3)
    have G3 := Aside0.mk ((hb3.block w.heap.size (by rw [World.size_alloc]; omega)).trans (blk_alloc G2.out _))
    have E3 := Aside0.mk ((hb3.block W2.heap.size (by rw [World.size_alloc]; omega)).trans (show (W2.heap.push _)[W2.heap.size]? = _ by rw [Array.getElem?_push, if_pos rfl]))
    have hsz3 : W2.heap.size < W3.heap.size := Nat.lt_of_lt_of_le (by rw [World.size_alloc]; omega) hb3.size
    clear hb3
    have e0 : W3.cell? ⟨W2.heap.size, 0, none⟩ = some (.int .i64 x) := (cell_at E3.out 0).trans rfl
    have e1 : W3.cell? ⟨W2.heap.size, 1, none⟩ = some (.int .i64 y) := (cell_at E3.out 1).trans rfl
    have d0 : W3.cell? ⟨w.heap.size, 0, none⟩ = some (.int .i64 0) := (cell_at G3.out 0).trans rfl
    have d1 : W3.cell? ⟨w.heap.size, 1, none⟩ = some (.int .i64 0) := (cell_at G3.out 1).trans rfl
    have z0 : W3.frozen? ⟨w.heap.size, 0, none⟩ = false := by simp [World.frozen?, G3.out]
    have z1 : W3.frozen? ⟨w.heap.size, 1, none⟩ = false := by simp [World.frozen?, G3.out]
    have HI := Aside0.mk hi
    clear hi
    cases hb : insB x y with
    | true =>
      go_wp2
      refine bodyPost_ret (results_ct rfl _ _ w.heap.size 43 #[.int .i64 x, .int .i64 y] (0, 0) _ rfl (blk_put (blk_put G3.out 0 _ rfl) 1 _ rfl) Tryd.underlying43 rfl (by kernel_rfl)) rfl ?_
      exact ⟨x, y, true, .inl ⟨HI.out, hb, rfl⟩, rfl, (HB3.out.setCell (p := ⟨w.heap.size, 0, none⟩) (by simp) _).setCell (p := ⟨w.heap.size, 1, none⟩) (by simp) _⟩
    | false =>
      go_wp2
      refine bodyPost_ret (results_ct rfl _ _ w.heap.size 43 #[.int .i64 0, .int .i64 0] (0, 0) _ rfl (blk_put (blk_put G3.out 0 _ rfl) 1 _ rfl) Tryd.underlying43 rfl (by kernel_rfl)) rfl ?_
      exact ⟨0, 0, false, .inr ⟨fun a p h => (by obtain ⟨e1, e2⟩ := port_one HI.out h; rw [← e1, ← e2]; exact hb), rfl, rfl, rfl⟩, rfl, (HB3.out.setCell (p := ⟨w.heap.size, 0, none⟩) (by simp) _).setCell (p := ⟨w.heap.size, 1, none⟩) (by simp) _⟩
  · have HN := Aside0.mk hn
    clear hn
    have d0 : W2.cell? ⟨w.heap.size, 0, none⟩ = some (.int .i64 0) := (cell_at G2.out 0).trans rfl
    have d1 : W2.cell? ⟨w.heap.size, 1, none⟩ = some (.int .i64 0) := (cell_at G2.out 1).trans rfl
    have z0 : W2.frozen? ⟨w.heap.size, 0, none⟩ = false := by simp [World.frozen?, G2.out]
    have z1 : W2.frozen? ⟨w.heap.size, 1, none⟩ = false := by simp [World.frozen?, G2.out]
    have hne1 : ¬ (W2.heap.size = w.heap.size) := by omega
    have hne2 : ¬ (w.heap.size = W2.heap.size) := by omega
    go_wp2
    refine bodyPost_ret (results_ct rfl _ _ w.heap.size 43 #[.int .i64 0, .int .i64 0] (0, 0) _ rfl (blk_alloc (blk_put (blk_put G2.out 0 _ rfl) 1 _ rfl) _) Tryd.underlying43 rfl (by kernel_rfl)) rfl ?_
    exact ⟨0, 0, false, .inr ⟨fun a p h => absurd h (HN.out a p), rfl, rfl, rfl⟩, rfl, ((HB2.out.setCell (p := ⟨w.heap.size, 0, none⟩) (by simp) _).setCell (p := ⟨w.heap.size, 1, none⟩) (by simp) _).alloc (by simp [World.setCell]; omega) _⟩
set_option maxHeartbeats 4000000 in
set_option maxRecDepth 100000 in
theorem linbox_calls (s : ByteArray) (w : World) (hs : s.size ≤ 281474976710656) (hL : LErr w) (hOk : OkC) :
    Calls Tryd.prog 25 #[.string s] w fun e w' => ∃ x ok, LB s x ok ∧ e = .returned (.tuple #[.int .i64 x, .bool ok]) ∧ Below w.heap.size w w' := by
  have HL := Aside0.mk hL
  clear hL
  go_enter Tryd.func25, Tryd.ntmps25
  go_wp2_with fail
  (go_at_call 60; refine (said_calls s _ hs HL.out hOk).mono ?_; rintro e W2 ⟨x, y, ok, hr, rfl, hb2⟩)
  have HB2 := Aside0.mk hb2
  clear hb2
  rcases hr with ⟨hi, rfl⟩ | ⟨hn, rfl⟩
  · have HI := Aside0.mk hi
    clear hi
    by_cases hx : x = 50
    · subst hx
      go_wp2
      refine bodyPost_ret (results_tmp2 rfl _ _ _) rfl ?_
      exact ⟨y, true, .inl ⟨HI.out, rfl⟩, rfl, HB2.out.alloc HB2.out.size _⟩
    · have hx2 : (x == 50) = false := by simpa using hx
      have hx3 : decide (x = 50) = false := decide_eq_false hx
      go_wp2
      refine bodyPost_ret (results_tmp2 rfl _ _ _) rfl ?_
      exact ⟨0, false, .inr ⟨fun p h => hx (port_one HI.out h).1, rfl, rfl⟩, rfl, HB2.out.alloc HB2.out.size _⟩
  · have HN := Aside0.mk hn
    clear hn
    go_wp2
    refine bodyPost_ret (results_tmp2 rfl _ _ _) rfl ?_
    exact ⟨0, false, .inr ⟨fun p => HN.out 50 p, rfl, rfl⟩, rfl, HB2.out.alloc HB2.out.size _⟩
def portV (a p : Int) : ByteArray := if endOkP a p then portT a p else ⟨#[]⟩
set_option maxHeartbeats 4000000 in
set_option maxRecDepth 100000 in
theorem linport_calls (a p : Int) (w : World) (hT : LTab w) (hOk : OkC) :
    Calls Tryd.prog 33 #[EV a p] w fun e w' => e = .returned (.string (portV a p)) ∧ Below w.heap.size w w' := by
  have HT := Aside0.mk hT
  clear hT
  obtain ⟨W1, hW1⟩ : ∃ W1, W1 = w.alloc (.cells #[.int .i64 a, .int .i64 p] 43) := ⟨_, rfl⟩
  have HB := Aside0.mk (show Below w.heap.size w W1 by rw [hW1]; exact (Below.refl _ w).alloc (Nat.le_refl _) _)
  have hblk : W1.heap[w.heap.size]? = some (.cells #[.int .i64 a, .int .i64 p] 43) := by rw [hW1]; show (w.heap.push _)[w.heap.size]? = _; rw [Array.getElem?_push, if_pos rfl]
  have c0 : W1.cell? ⟨w.heap.size, 0, none⟩ = some (.int .i64 a) := (cell_at hblk 0).trans rfl
  have c1 : W1.cell? ⟨w.heap.size, 1, none⟩ = some (.int .i64 p) := (cell_at hblk 1).trans rfl
  have hsz : w.heap.size < W1.heap.size := by rw [hW1]; simp
  by_cases h : endOkP a p
  · have hd : decide (endOkP a p) = true := decide_eq_true h
    have hO := hOk a p
    rw [hd] at hO
    have hv : portV a p = portT a p := if_pos h
    have ht : textV a p = endT a p := if_pos h
    have hz := endT_size a p
    have f1 : (9223372036854775807 < 5 + (endT a p).size) = False := eq_false (by omega)
    have f2 : (9223372036854775807 < (⟨#[112, 111, 114, 116, 32]⟩ : ByteArray).size + (endT a p).size) = False := eq_false (by show ¬ (_ < 5 + _); omega)
    clear hz
    rw [hv]
    go_enter Tryd.func33, Tryd.ntmps33
    go_wp2_with fail
    rw [← hW1]
    clear hW1
    (go_at_call 44; refine (hO _).mono ?_; rintro e W2 ⟨rfl, hb⟩)
    have HB2 := Aside0.mk (below_step HB.out hb)
    have d0 : W2.cell? ⟨w.heap.size, 0, none⟩ = some (.int .i64 a) := (hb.cell (p := ⟨w.heap.size, 0, none⟩) hsz).trans c0
    have d1 : W2.cell? ⟨w.heap.size, 1, none⟩ = some (.int .i64 p) := (hb.cell (p := ⟨w.heap.size, 1, none⟩) hsz).trans c1
    clear hb c0 c1 hblk
    go_wp2_with fail
    (go_at_call 31; refine (text_calls a p _ (HT.out.below HB2.out) (hOk a p)).mono ?_; rintro e W3 ⟨rfl, hb3⟩; rw [ht])
    go_wp2
    go_ret
    exact ⟨rfl, below_step HB2.out hb3⟩
  · have hd : decide (endOkP a p) = false := decide_eq_false h
    have hO := hOk a p
    rw [hd] at hO
    have hv : portV a p = ⟨#[]⟩ := if_neg h
    rw [hv]
    go_enter Tryd.func33, Tryd.ntmps33
    go_wp2_with fail
    rw [← hW1]
    clear hW1
    (go_at_call 44; refine (hO _).mono ?_; rintro e W2 ⟨rfl, hb⟩)
    have HB2 := Aside0.mk (below_step HB.out hb)
    go_wp2
    go_ret
    exact ⟨rfl, HB2.out⟩
end Go.Proofs.YtlofgoahgnllkaaDoor.Ends
