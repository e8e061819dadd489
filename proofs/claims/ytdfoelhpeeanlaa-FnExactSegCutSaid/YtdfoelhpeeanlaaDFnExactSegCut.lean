/- What the reference's draws and functions that this law reaches come to: plain lemmas on the printed functions. -/
import Derived.Test.YtdfoelhpeeanlaaQFnExactSegCutx6
import Derived.Test.YtdfoelhpeeanlaaLib
import Derived.Laws.BitsLemmas
set_option linter.unusedVariables false
set_option linter.unusedSimpArgs false
namespace Go.Proofs.Ytdfoelhpeeanlaa.QFnExactSegCut
open Go.RowKit Go.Proofs.YtdfoelhpeeanlaaW.PrintWords Go.Proofs.YtdfoelhpeeanlaaW.PrintLast Go.Proofs.YtdfoelhpeeanlaaW.PrintMore
open Go.Proofs.Ytdfoelhpeeanlaa
def twoL (n : Int) : List Int := [n / 256, n % 256]
theorem two_bytes (n : Int) (h0 : 0 ≤ n) (h1 : n ≤ 65535) : Lib.Bytes (twoL n) := by
  intro x hx
  simp [twoL] at hx
  omega
theorem toseg_eq (a p b q x y : Int) (s : ByteArray) : laws_toSegSeg.f a p b q x y s = some (a, p, b, q, x, y, s) := by
  simp [laws_toSegSeg.f, laws_toEndPoint.f]
theorem szseg_eq (a p b q x y : Int) (s : ByteArray) (hs : s.size ≤ 9223372036854775807) : laws_szSegSeg.f a p b q x y s 1048576 = some (if 1048576 - (s.size : Int) < 0 then -1 else 1048576 - (s.size : Int)) := by
  unfold laws_szSegSeg.f
  rw [Lib.wrap_id (by omega) (by omega)]
  split <;> rfl
theorem eqseg_refl (a p b q x y : Int) (s : ByteArray) : laws_eqSegSeg.f a p b q x y s a p b q x y s = some true := by
  simp [laws_eqSegSeg.f, laws_eqEndPoint.f]
/-- The segment with bytes of F from p + 12 i on. -/
def segAt (F : ByteArray) (A B : S29) (y : Int) (p i : Nat) : S31 := ⟨A, B, ((p + 12 * i : Nat) : Int), y, F.extract (p + 12 * i) (min (p + 12 * i + 12) F.size)⟩
/-- What is cut, from p on. -/
def cutL (F : ByteArray) (A B : S29) (y : Int) (p : Nat) : List S31 :=
  if p < F.size then (List.range ((F.size - p + 11) / 12)).map (segAt F A B y p) else [⟨A, B, (F.size : Int), y, ⟨#[]⟩⟩]
theorem w_cut (n : Nat) (h : n ≤ 1000) : wrap64 ((n : Int) + 12) = ((n + 12 : Nat) : Int) := by
  rw [Lib.wrap_id (by omega) (by omega)]; omega
theorem mn_nat (a b : Nat) : mn (a : Int) (b : Int) = ((min a b : Nat) : Int) := by unfold mn; split <;> omega
theorem take_len {α : Type} (L : List α) : (if 0 ≤ (L.length : Int) then (if (L.length : Int) ≤ (L.length : Int) then (some (L.take ((L.length : Int)).toNat)) else (none)) else (none)) = some L := by
  rw [if_pos (by omega), if_pos (by omega), Int.toNat_natCast, List.take_length]
theorem cut_loop (F : ByteArray) (hF : F.size ≤ 240) (p : Nat) (hp : p < F.size) (a b c d y : Int) : ∀ (n i k : Nat) (x : Int) (s : ByteArray), i + n = (F.size - p + 11) / 12 → n + 1 ≤ k →
    impl_SegSeg_cut.l0 k F ((p + 12 * i : Nat) : Int) ((List.range i).map (segAt F ⟨a, b⟩ ⟨c, d⟩ y p)) a b c d x y s = some ((List.range ((F.size - p + 11) / 12)).map (segAt F ⟨a, b⟩ ⟨c, d⟩ y p)) := by
  intro n
  induction n with
  | zero =>
    intro i k x s hi hk
    obtain ⟨k, rfl⟩ : ∃ k', k = k' + 1 := ⟨k - 1, by omega⟩
    rw [impl_SegSeg_cut.l0, if_neg (by omega), if_neg (by rw [List.length_map, List.length_range]; omega), take_len, ← hi]; rfl
  | succ n ih =>
    intro i k x s hi hk
    obtain ⟨k, rfl⟩ : ∃ k', k = k' + 1 := ⟨k - 1, by omega⟩
    rw [impl_SegSeg_cut.l0, if_pos (by omega), if_pos (by omega), w_cut _ (by omega), mn_nat, if_pos (by omega), if_pos (by omega), if_pos (by rw [List.length_map, List.length_range]; omega)]
    have e := ih (i + 1) k ((p + 12 * i : Nat) : Int) (F.extract (p + 12 * i) (min (p + 12 * i + 12) F.size)) (by omega) (by omega)
    rw [List.range_succ, List.map_append] at e
    simp only [Int.toNat_natCast]
    exact e
theorem cut_ev (F : ByteArray) (hF : F.size ≤ 240) (p a b c d x y : Int) (s : ByteArray) (hp : 0 ≤ p) (k : Nat) (hk : 40 ≤ k) : impl_SegSeg_cut.f k a b c d x y s F p = some (cutL F ⟨a, b⟩ ⟨c, d⟩ y p.toNat) := by
  obtain ⟨n, rfl⟩ := Int.eq_ofNat_of_zero_le hp
  rw [Int.toNat_natCast]
  unfold impl_SegSeg_cut.f cutL
  by_cases h : n < F.size
  · rw [if_pos h]
    exact cut_loop F hF n h a b c d y _ 0 k x s (Nat.zero_add _) (by omega)
  · rw [if_neg h]
    obtain ⟨k, rfl⟩ : ∃ k', k = k' + 1 := ⟨k - 1, by omega⟩
    rw [impl_SegSeg_cut.l0, if_neg (by omega), if_pos (by rfl), if_pos (by decide), Option.bind_some, take_len]; rfl
theorem segcut_ev (F : ByteArray) (hF : F.size ≤ 9223372036854775807) (a p b q x y : Int) (s : ByteArray) (hs : s.size ≤ 281474976710656) (at_ : Int) :
    Ev (fun k => impl_SegCut.f k a p b q x y s F at_) (if segOkB a p b q x y s = true ∧ F.size ≤ 240 ∧ 0 ≤ at_ then cutL F ⟨a, p⟩ ⟨b, q⟩ y at_.toNat else []) := by
  obtain ⟨K, e⟩ := impl_seg_ev a p b q x y s hs
  dsimp only at e
  refine ⟨K + 40, fun k hk => ?_⟩
  dsimp only
  unfold impl_SegCut.f
  rw [e _ (by omega), Option.bind_some]
  by_cases h : segOkB a p b q x y s = true
  · rw [if_pos h]
    by_cases h1 : (F.size : Int) > 240
    · rw [if_pos h1, if_neg (by omega)]
    · rw [if_neg h1]
      by_cases h2 : at_ < 0
      · rw [if_pos h2, if_neg (by omega)]
      · rw [if_neg h2, if_pos ⟨h, by omega, by omega⟩, cut_ev F (by omega) at_ a p b q x y s (by omega) _ (by omega)]; rfl
  · rw [if_neg h, if_neg (fun h_ => h h_.1)]
theorem mn_nat' (a b : Nat) : mn (a : Int) (b : Int) = ((min b a : Nat) : Int) := by unfold mn; split <;> omega
theorem scut_loop (F : ByteArray) (hF : F.size ≤ 240) (p : Nat) (hp : p < F.size) (a b c d x y : Int) (s : ByteArray) : ∀ (n i k : Nat), i + n = (F.size - p + 11) / 12 → n + 1 ≤ k →
    spec_l5Cut.l0 k F ((min (p + 12 * i) F.size : Nat) : Int) ((List.range i).map (segAt F ⟨a, b⟩ ⟨c, d⟩ y p)) a b c d x y s = some ((List.range ((F.size - p + 11) / 12)).map (segAt F ⟨a, b⟩ ⟨c, d⟩ y p)) := by
  intro n
  induction n with
  | zero =>
    intro i k hi hk
    obtain ⟨k, rfl⟩ : ∃ k', k = k' + 1 := ⟨k - 1, by omega⟩
    rw [spec_l5Cut.l0, if_neg (by omega), if_neg (by rw [List.length_map, List.length_range]; omega), ← hi]; rfl
  | succ n ih =>
    intro i k hi hk
    obtain ⟨k, rfl⟩ : ∃ k', k = k' + 1 := ⟨k - 1, by omega⟩
    rw [show min (p + 12 * i) F.size = p + 12 * i by omega, spec_l5Cut.l0, if_pos (by omega), if_pos (by omega), w_cut _ (by omega), mn_nat', if_pos (by omega), if_pos (by omega), if_pos (by rw [List.length_map, List.length_range]; omega)]
    have e := ih (i + 1) k (by omega) (by omega)
    rw [List.range_succ, List.map_append] at e
    simp only [Int.toNat_natCast]
    exact e
theorem scut_ev (F : ByteArray) (hF : F.size ≤ 240) (p a b c d x y : Int) (s : ByteArray) (hp : 0 ≤ p) (k : Nat) (hk : 40 ≤ k) : spec_l5Cut.f k a b c d x y s F p = some (cutL F ⟨a, b⟩ ⟨c, d⟩ y p.toNat) := by
  obtain ⟨n, rfl⟩ := Int.eq_ofNat_of_zero_le hp
  rw [Int.toNat_natCast]
  unfold spec_l5Cut.f cutL
  by_cases h : n < F.size
  · rw [if_pos h]
    have e := scut_loop F hF n h a b c d x y s _ 0 k (Nat.zero_add _) (by omega)
    rw [show min (n + 12 * 0) F.size = n by omega] at e
    exact e
  · rw [if_neg h]
    obtain ⟨k, rfl⟩ : ∃ k', k = k' + 1 := ⟨k - 1, by omega⟩
    rw [spec_l5Cut.l0, if_neg (by omega), if_pos (by rfl), if_pos (by decide)]; rfl
theorem ssegcut_ev (F : ByteArray) (hF : F.size ≤ 9223372036854775807) (a p b q x y : Int) (s : ByteArray) (at_ : Int) :
    Ev (fun k => spec_SegCut.f k a p b q x y s F at_) (if segOkB a p b q x y s = true ∧ F.size ≤ 240 ∧ 0 ≤ at_ then cutL F ⟨a, p⟩ ⟨b, q⟩ y at_.toNat else []) := by
  obtain ⟨K, e⟩ := spec_seg_ev a p b q x y s
  dsimp only at e
  refine ⟨K + 40, fun k hk => ?_⟩
  dsimp only
  unfold spec_SegCut.f
  rw [e _ (by omega), Option.bind_some]
  by_cases h : segOkB a p b q x y s = true
  · rw [if_pos h]
    by_cases h1 : (F.size : Int) > 240
    · rw [if_pos h1, if_neg (by omega)]
    · rw [if_neg h1]
      by_cases h2 : at_ < 0
      · rw [if_pos h2, if_neg (by omega)]
      · rw [if_neg h2, if_pos ⟨h, by omega, by omega⟩, scut_ev F (by omega) at_ a p b q x y s (by omega) _ (by omega)]; rfl
  · rw [if_neg h, if_neg (fun h_ => h h_.1)]
theorem w_upQ (n : Nat) (h : n ≤ 4611686018427387904) : wrap64 ((n : Int) + 1) = ((n + 1 : Nat) : Int) := by
  rw [Lib.wrap_id (by omega) (by omega)]; omega
theorem eqseg_self (a p b q x y : Int) (s : ByteArray) : laws_eqSegSeg.f a p b q x y s a p b q x y s = some true := by
  simp [laws_eqSegSeg.f, laws_eqEndPoint.f]
theorem eqsegs_l (L : List S31) (hL : L.length ≤ 1000) : ∀ (n i k : Nat), i + n = L.length → n + 1 ≤ k → laws_eqSegSegS.l0 k L L (i : Int) = some true := by
  intro n
  induction n with
  | zero =>
    intro i k hi hk
    obtain ⟨k, rfl⟩ : ∃ k', k = k' + 1 := ⟨k - 1, by omega⟩
    rw [laws_eqSegSegS.l0, if_neg (by omega)]
  | succ n ih =>
    intro i k hi hk
    obtain ⟨k, rfl⟩ : ∃ k', k = k' + 1 := ⟨k - 1, by omega⟩
    rw [laws_eqSegSegS.l0, if_pos (by omega), if_pos (by omega), if_pos (by omega), eqseg_self, Option.bind_some, if_pos rfl, w_upQ i (by omega)]
    exact ih (i + 1) k (by omega) (by omega)
theorem eqsegs_ev (L : List S31) (hL : L.length ≤ 1000) (k : Nat) (hk : L.length + 1 ≤ k) : laws_eqSegSegS.f k L L = some true := by
  unfold laws_eqSegSegS.f
  rw [if_pos rfl]
  exact eqsegs_l L hL L.length 0 k (by omega) hk
theorem tdiv_ten (n : Nat) (h : n ≤ 4611686018427387904) : wrap64 (Int.tdiv (n : Int) 10) = ((n / 10 : Nat) : Int) := by
  rw [show Int.tdiv (n : Int) 10 = ((n / 10 : Nat) : Int) from rfl, Lib.wrap_id (by omega) (by omega)]
theorem marktext_l : ∀ (d n : Nat) (x : ByteArray), n ≤ d → n ≤ 4611686018427387904 → x.size + n ≤ 4611686018427387904 → ∃ t, ∀ k, d + 1 ≤ k → laws_markText.l0 k (n : Int) x = some t := by
  intro d
  induction d with
  | zero =>
    intro n x h1 h2 h3
    refine ⟨(⟨#[109]⟩ : ByteArray) ++ x, fun k hk => ?_⟩
    obtain ⟨k, rfl⟩ : ∃ k', k = k' + 1 := ⟨k - 1, by omega⟩
    rw [laws_markText.l0, if_neg (by omega), if_pos (by omega)]
  | succ d ih =>
    intro n x h1 h2 h3
    by_cases c : (n : Int) > 0
    · have hz : (strOfNums [(wrap64 (48 + (Int.tmod (n : Int) 10))) % 256]).size = 1 := rfl
      obtain ⟨t, ht⟩ := ih (n / 10) (strOfNums [(wrap64 (48 + (Int.tmod (n : Int) 10))) % 256] ++ x) (by omega) (by omega) (by rw [ByteArray.size_append, hz]; omega)
      refine ⟨t, fun k hk => ?_⟩
      obtain ⟨k, rfl⟩ : ∃ k', k = k' + 1 := ⟨k - 1, by omega⟩
      rw [laws_markText.l0, if_pos c, Option.bind_some, hz, if_pos (by omega), tdiv_ten n h2]
      exact ht k (by omega)
    · refine ⟨(⟨#[109]⟩ : ByteArray) ++ x, fun k hk => ?_⟩
      obtain ⟨k, rfl⟩ : ∃ k', k = k' + 1 := ⟨k - 1, by omega⟩
      rw [laws_markText.l0, if_neg c, if_pos (by omega)]
theorem marktext_ev (n : Nat) (h : n ≤ 1000000000) : ∃ t, ∀ k, n + 1 ≤ k → laws_markText.f k (n : Int) = some t := by
  by_cases c : (n : Int) ≤ 0
  · exact ⟨(⟨#[109, 48]⟩ : ByteArray), fun k _ => by unfold laws_markText.f; rw [if_pos c]⟩
  · obtain ⟨t, ht⟩ := marktext_l n n (⟨#[]⟩ : ByteArray) (Nat.le_refl _) (by omega) (by show 0 + n ≤ _; omega)
    exact ⟨t, fun k hk => by unfold laws_markText.f; rw [if_neg c]; exact ht k hk⟩
open Classical in
noncomputable def mkT (n : Nat) : ByteArray := if h : ∃ t, ∀ k, n + 1 ≤ k → laws_markText.f k (n : Int) = some t then Classical.choose h else ByteArray.empty
theorem mkT_ev (n : Nat) (h : n ≤ 1000000000) (k : Nat) (hk : n + 1 ≤ k) : laws_markText.f k (n : Int) = some (mkT n) := by
  have hx := marktext_ev n h
  unfold mkT
  rw [dif_pos hx]
  exact Classical.choose_spec hx k hk
theorem w_upV (n : Nat) (h : n ≤ 4611686018427387904) : wrap64 ((n : Int) + 1) = ((n + 1 : Nat) : Int) := by
  rw [Lib.wrap_id (by omega) (by omega)]; omega
theorem rd_set31 (L : List S31) (i : Nat) (x : S31) (h : i < L.length) : rd_T31 (L.set i x) (i : Int) = x := by
  unfold rd_T31
  rw [Int.toNat_natCast, List.getD_eq_getElem?_getD, List.getElem?_set_self h]; rfl
noncomputable def mk7 (v : Nat) : S31 := ⟨⟨(v : Int), ((v + 1 : Nat) : Int)⟩, ⟨((v + 1 + 1 : Nat) : Int), ((v + 1 + 1 + 1 : Nat) : Int)⟩, ((v + 1 + 1 + 1 + 1 : Nat) : Int), ((v + 1 + 1 + 1 + 1 + 1 : Nat) : Int), mkT (v + 1 + 1 + 1 + 1 + 1 + 1)⟩
noncomputable def mkG (n : Nat) : List S31 := (List.range n).map fun i => mk7 (1 + 7 * i)
theorem markseg_step (k : Nat) (L : List S31) (v i : Nat) (hi : i < L.length) (hv : v ≤ 100000000) (hL : L.length ≤ 100000000) (hk : v + 8 ≤ k) : laws_markSegSegS.l0 (k + 1) L (v : Int) (i : Int) = laws_markSegSegS.l0 k (L.set i (mk7 v)) ((v + 7 : Nat) : Int) ((i + 1 : Nat) : Int) := by
  rw [laws_markSegSegS.l0, if_pos (by omega), if_pos (by omega)]
  simp only [Int.toNat_natCast]
  rw [w_upV v (by omega), w_upV (v + 1) (by omega), w_upV (v + 1 + 1) (by omega), w_upV (v + 1 + 1 + 1) (by omega), w_upV (v + 1 + 1 + 1 + 1) (by omega), w_upV (v + 1 + 1 + 1 + 1 + 1) (by omega), w_upV (v + 1 + 1 + 1 + 1 + 1 + 1) (by omega), w_upV i (by omega), mkT_ev (v + 1 + 1 + 1 + 1 + 1 + 1) (by omega) k (by omega)]
  have hrd : ∀ x, rd_T31 (L.set i x) (i : Int) = x := fun x => rd_set31 L i x hi
  simp only [Option.bind_some, List.set_set, hrd]
  rfl
theorem markseg_l (L : List S31) (hL : L.length ≤ 1000) : ∀ (n i k : Nat), i + n = L.length → 10000 + n ≤ k →
    laws_markSegSegS.l0 k (mkG i ++ L.drop i) ((1 + 7 * i : Nat) : Int) (i : Int) = some (((1 + 7 * L.length : Nat) : Int), mkG L.length) := by
  intro n
  induction n with
  | zero =>
    intro i k hi hk
    obtain ⟨k, rfl⟩ : ∃ k', k = k' + 1 := ⟨k - 1, by omega⟩
    have : i = L.length := by omega
    subst this
    rw [List.drop_length, List.append_nil, laws_markSegSegS.l0, if_neg (by simp [mkG])]
  | succ n ih =>
    intro i k hi hk
    obtain ⟨k, rfl⟩ : ∃ k', k = k' + 1 := ⟨k - 1, by omega⟩
    have hlen : (mkG i ++ L.drop i).length = L.length := by simp [mkG]; omega
    have hset : (mkG i ++ L.drop i).set i (mk7 (1 + 7 * i)) = mkG (i + 1) ++ L.drop (i + 1) := by
      rw [List.set_append_right _ _ (by simp [mkG]), show i - (mkG i).length = 0 by simp [mkG], List.drop_eq_getElem_cons (show i < L.length by omega), List.set_cons_zero]
      unfold mkG
      rw [List.range_succ, List.map_append, List.append_assoc]; rfl
    rw [markseg_step k _ _ _ (by rw [hlen]; omega) (by omega) (by rw [hlen]; omega) (by omega), hset, show 1 + 7 * i + 7 = 1 + 7 * (i + 1) by omega]
    exact ih (i + 1) k (by omega) (by omega)
theorem markseg_ev (L : List S31) (hL : L.length ≤ 1000) (k : Nat) (hk : 11000 ≤ k) : laws_markSegSegS.f k L 1 = some (((1 + 7 * L.length : Nat) : Int), mkG L.length) := by
  unfold laws_markSegSegS.f
  exact markseg_l L hL L.length 0 k (Nat.zero_add _) (by omega)
theorem heldseg_l (N : Nat) (hN : N ≤ 1000) : ∀ (n i k : Nat), i + n = N → 10000 + n ≤ k →
    laws_heldSegSegS.l0 k (mkG N) ((1 + 7 * i : Nat) : Int) (i : Int) = some ((1 + 7 * N : Nat) : Int) := by
  have hlen : (mkG N).length = N := by simp [mkG]
  intro n
  induction n with
  | zero =>
    intro i k hi hk
    obtain ⟨k, rfl⟩ : ∃ k', k = k' + 1 := ⟨k - 1, by omega⟩
    rw [laws_heldSegSegS.l0, if_neg (by rw [hlen]; omega), show i = N by omega]
  | succ n ih =>
    intro i k hi hk
    obtain ⟨k, rfl⟩ : ∃ k', k = k' + 1 := ⟨k - 1, by omega⟩
    have hrd : rd_T31 (mkG N) (i : Int) = mk7 (1 + 7 * i) := by
      unfold rd_T31 mkG
      rw [Int.toNat_natCast, List.getD_eq_getElem?_getD, List.getElem?_map, List.getElem?_range (by omega)]; rfl
    obtain ⟨v, hv⟩ : ∃ v, v = 1 + 7 * i := ⟨_, rfl⟩
    rw [← hv] at hrd ⊢
    rw [laws_heldSegSegS.l0, if_pos (by rw [hlen]; omega), if_pos (by omega), hrd, w_upV v (by omega), w_upV (v + 1) (by omega), w_upV (v + 1 + 1) (by omega), w_upV (v + 1 + 1 + 1) (by omega), w_upV (v + 1 + 1 + 1 + 1) (by omega), w_upV (v + 1 + 1 + 1 + 1 + 1) (by omega), w_upV (v + 1 + 1 + 1 + 1 + 1 + 1) (by omega), w_upV i (by omega),
      if_pos (show (mk7 v).f0.f0 = (v : Int) from rfl), if_pos (show (mk7 v).f0.f1 = ((v + 1 : Nat) : Int) from rfl), if_pos (show (mk7 v).f1.f0 = ((v + 1 + 1 : Nat) : Int) from rfl), if_pos (show (mk7 v).f1.f1 = ((v + 1 + 1 + 1 : Nat) : Int) from rfl), if_pos (show (mk7 v).f2 = ((v + 1 + 1 + 1 + 1 : Nat) : Int) from rfl), if_pos (show (mk7 v).f3 = ((v + 1 + 1 + 1 + 1 + 1 : Nat) : Int) from rfl),
      mkT_ev (v + 1 + 1 + 1 + 1 + 1 + 1) (by omega) k (by omega), Option.bind_some, if_pos (show (mk7 v).f4.toList = (mkT (v + 1 + 1 + 1 + 1 + 1 + 1)).toList from rfl), show v + 1 + 1 + 1 + 1 + 1 + 1 + 1 = 1 + 7 * (i + 1) by omega]
    exact ih (i + 1) k (by omega) (by omega)
theorem heldseg_ev (N : Nat) (hN : N ≤ 1000) (k : Nat) (hk : 11000 ≤ k) : laws_heldSegSegS.f k (mkG N) 1 = some ((1 + 7 * N : Nat) : Int) := by
  unfold laws_heldSegSegS.f
  exact heldseg_l N hN N 0 k (Nat.zero_add _) (by omega)
theorem cutL_len (F : ByteArray) (hF : F.size ≤ 240) (A B : S29) (y : Int) (p : Nat) : (cutL F A B y p).length ≤ 100 := by
  unfold cutL
  split
  · rw [List.length_map, List.length_range]; omega
  · simp
def insB (a p : Int) : Bool := decide ((1 ≤ a ∧ a ≤ 9) ∧ 1 ≤ p ∧ p ≤ 999)
theorem spec_ins (a p : Int) : spec_EndInside.f a p = some (insB a p) := by
  simp only [spec_EndInside.f, spec_l1In.f, insB]
  by_cases h1 : a ≥ 1 <;> by_cases h2 : a ≤ 9 <;> by_cases h3 : p ≥ 1 <;> by_cases h4 : p ≤ 999 <;> simp [h1, h2, h3, h4] <;> omega
end Go.Proofs.Ytdfoelhpeeanlaa.QFnExactSegCut
