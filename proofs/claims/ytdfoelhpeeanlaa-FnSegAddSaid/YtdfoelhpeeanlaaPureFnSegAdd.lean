/- FnSegAdd: for every code (longer than 2^20: nothing is asked) the program's SegAdd is the reference's at the drawn text and segment; what it gives begins with the text; a second time it changes nothing; it grows just where the segment reaches behind the text's end, and then by the segment's rest. -/
import Derived.Test.YtdfoelhpeeanlaaDFnSegAdd
namespace Go.Proofs.Ytdfoelhpeeanlaa.Pure
open Go.RowKit Go.Proofs.Ytdfoelhpeeanlaa.QFnSegAdd Go.Proofs.YtdfoelhpeeanlaaW.PrintWords Go.Proofs.YtdfoelhpeeanlaaW.PrintLast Go.Proofs.Ytdfoelhpeeanlaa

theorem ha_okA : laws_haOk.f = some true := by
  have hb : bt (⟨#[97]⟩ : ByteArray) 0 = 97 := rfl
  have hs : (⟨#[97]⟩ : ByteArray).size = 1 := rfl
  have w1 : wrap64 97 = 97 := Lib.wrap_id (by omega) (by omega)
  have w2 : wrap64 (97 - 97) = 0 := Lib.wrap_id (x := 97 - 97) (by omega) (by omega)
  have w3 : wrap64 (((1 : Nat) : Int) - 1) = 0 := Lib.wrap_id (x := ((1 : Nat) : Int) - 1) (by omega) (by omega)
  unfold laws_haOk.f impl_LinOk.f
  rw [hb, hs, w1, w2, w3]
  simp
theorem ext_left (T u : ByteArray) : (T ++ u).extract 0 T.size = T := by
  apply ByteArray.ext
  simp [ByteArray.data_append, ByteArray.data_extract, ← ByteArray.size_data]
theorem ext_right (T u : ByteArray) : (T ++ u).extract T.size (T ++ u).size = u := by
  apply ByteArray.ext
  simp [ByteArray.data_append, ByteArray.data_extract, ← ByteArray.size_data, Array.extract_append]
theorem ext_self (T : ByteArray) : T.extract 0 T.size = T := by
  apply ByteArray.ext
  simp [ByteArray.data_extract, ← ByteArray.size_data]
def stay (T : ByteArray) (x : Int) (s : ByteArray) : Prop := x < 0 ∨ x > (T.size : Int) ∨ x + (s.size : Int) ≤ (T.size : Int)
instance (T : ByteArray) (x : Int) (s : ByteArray) : Decidable (stay T x s) := by unfold stay; infer_instance
def addV (T : ByteArray) (x : Int) (s : ByteArray) : ByteArray := if stay T x s then T else T ++ s.extract ((T.size : Int) - x).toNat s.size
theorem wn (t s : ByteArray) (x : Int) (ht : t.size ≤ 1048576) (hs : s.size ≤ 1048576) (h0 : 0 ≤ x) (h1 : x ≤ 1048576) : wrap64 (x + (s.size : Int)) = x + (s.size : Int) ∧ wrap64 ((t.size : Int) - x) = (t.size : Int) - x :=
  ⟨Lib.wrap_id (by omega) (by omega), Lib.wrap_id (by omega) (by omega)⟩
theorem spec_add (t : ByteArray) (a p b q x y : Int) (s : ByteArray) (ht : t.size ≤ 1000) (hs : s.size ≤ 13) : spec_SegAdd.f t a p b q x y s = some (addV t x s) := by
  simp only [spec_SegAdd.f, spec_l5Grown.f]
  by_cases h1 : x < 0
  · rw [if_pos h1, addV, if_pos (show stay t x s from Or.inl h1)]; rfl
  · by_cases h2 : x > (t.size : Int)
    · rw [if_neg h1, if_pos h2, addV, if_pos (show stay t x s from Or.inr (Or.inl h2))]; rfl
    · rw [if_neg h1, if_neg h2, (wn t s x (by omega) (by omega) (by omega) (by omega)).1, (wn t s x (by omega) (by omega) (by omega) (by omega)).2]
      by_cases h3 : x + (s.size : Int) ≤ (t.size : Int)
      · rw [if_pos h3, addV, if_pos (show stay t x s from Or.inr (Or.inr h3))]; rfl
      · have hb : (s.extract ((t.size : Int) - x).toNat s.size).size ≤ 13 := by
          rw [ByteArray.size_extract]; omega
        rw [if_neg h3, if_pos (by omega), if_pos (by omega), if_pos (by omega), addV, if_neg (by unfold stay; omega)]; rfl
theorem impl_add (t : ByteArray) (a p b q x y : Int) (s : ByteArray) (ht : t.size ≤ 1000) (hs : s.size ≤ 13) : impl_SegAdd.f t a p b q x y s = some (addV t x s) := by
  have hw : impl_within.f x 0 (t.size : Int) = some (decide (0 ≤ x ∧ x ≤ (t.size : Int))) := by
    unfold impl_within.f; by_cases h : x ≥ 0 <;> simp [h]
  simp only [impl_SegAdd.f]
  rw [hw]; simp only [Option.bind_some, decide_eq_true_eq]
  by_cases h1 : 0 ≤ x ∧ x ≤ (t.size : Int)
  · rw [if_pos h1, (wn t s x (by omega) (by omega) (by omega) (by omega)).1, (wn t s x (by omega) (by omega) (by omega) (by omega)).2]
    by_cases h3 : x + (s.size : Int) ≤ (t.size : Int)
    · rw [if_pos h3, addV, if_pos (show stay t x s from Or.inr (Or.inr h3))]
    · have hb : (s.extract ((t.size : Int) - x).toNat s.size).size ≤ 13 := by
        rw [ByteArray.size_extract]; omega
      have hc : ∀ z : ByteArray, z.size ≤ 281474976710656 → strings_Clone.f z = some z := fun z hz => by
        unfold strings_Clone.f stringslite_Clone.f
        rw [if_pos (by omega), if_pos (by omega)]; rfl
      rw [if_neg h3, if_pos (by omega), if_pos (by omega), if_pos (by omega), hc _ (by rw [ByteArray.size_append]; omega), addV, if_neg (by unfold stay; omega)]; rfl
  · rw [if_neg h1, addV, if_pos (by unfold stay; omega)]
theorem starts_self (T u : ByteArray) : laws_haStarts.f (T ++ u) T = some true := by
  have h := ByteArray.size_append (a := T) (b := u)
  unfold laws_haStarts.f
  rw [if_pos (by omega), if_pos (by omega), if_pos (by omega), Int.toNat_natCast, ext_left]
  simp
theorem app_empty (T : ByteArray) : T ++ ByteArray.empty = T := by
  apply ByteArray.ext; simp
theorem starts_same (T : ByteArray) : laws_haStarts.f T T = some true := by
  have := starts_self T ByteArray.empty
  rwa [app_empty] at this

theorem FnSegAdd : laws_FnSegAdd.Pure := by
  intro l hm hl hw
  by_cases c : (l.length : Int) > 1048576
  · exact ⟨0, by unfold laws_FnSegAdd.f; rw [if_pos c]⟩
  obtain ⟨T, a, p, b, q, x, y, s, ⟨K1, e1⟩, hT, hs, x0, x1⟩ := drawsegadd_ev l (Lib.bytes_wf hw) (by omega)
  dsimp only at e1
  have hwn := (wn T s x (by omega) (by omega))
  refine ⟨K1 + 2, ?_⟩
  unfold laws_FnSegAdd.f
  rw [if_neg c, e1 _ (by omega), Option.bind_some]; dsimp only
  rw [impl_add T a p b q x y s (by omega) hs, Option.bind_some, spec_add T a p b q x y s (by omega) hs, Option.bind_some, if_pos rfl]
  by_cases hst : stay T x s
  · have e : addV T x s = T := by rw [addV, if_pos hst]
    rw [e, starts_same, Option.bind_some, if_pos rfl, impl_add T a p b q x y s (by omega) hs, Option.bind_some, e, laws_FnSegAdd.j0, if_neg (by simp)]
    have fin : ∀ z, laws_FnSegAdd.j1 (K1 + 1) T T z true a p b q x y s = some true := fun z => by
      rw [laws_FnSegAdd.j1, if_pos rfl, if_pos rfl, ha_okA]; rfl
    by_cases h1 : x < 0
    · rw [if_pos h1, fin]
    · by_cases h2 : x > (T.size : Int)
      · rw [if_neg h1, if_pos h2, fin]
      · have h3 : x + (s.size : Int) ≤ (T.size : Int) := by unfold stay at hst; omega
        rw [if_neg h1, if_neg h2, (hwn (by omega) (by omega)).1, decide_eq_true h3, fin]
  · have h1 : ¬ x < 0 := by unfold stay at hst; omega
    have h2 : ¬ x > (T.size : Int) := by unfold stay at hst; omega
    have h3 : ¬ x + (s.size : Int) ≤ (T.size : Int) := by unfold stay at hst; omega
    obtain ⟨u, hu⟩ : ∃ u, u = s.extract ((T.size : Int) - x).toNat s.size := ⟨_, rfl⟩
    have su : (u.size : Int) = x + (s.size : Int) - (T.size : Int) := by
      rw [hu, ByteArray.size_extract]; omega
    have e : addV T x s = T ++ u := by rw [addV, if_neg hst, hu]
    have sg : (T ++ u).size = T.size + u.size := ByteArray.size_append
    have e2 : addV (T ++ u) x s = T ++ u := by rw [addV, if_pos (show stay (T ++ u) x s from Or.inr (Or.inr (by omega)))]
    rw [e, starts_self, Option.bind_some, if_pos rfl, impl_add (T ++ u) a p b q x y s (by omega) hs, Option.bind_some, e2, laws_FnSegAdd.j0, if_neg (by simp)]
    rw [if_neg h1, if_neg h2, (hwn (by omega) (by omega)).1, decide_eq_false h3, laws_FnSegAdd.j1, if_neg (by decide), if_pos (by omega), if_pos (by omega), if_pos (by omega)]
    rw [if_neg (fun h => by
      have h := congrArg ByteArray.size ((toList_nil_iff_emptyBytes _).1 h)
      rw [ByteArray.size_extract] at h
      have : ByteArray.empty.size = 0 := rfl
      omega)]
    rw [if_pos (by omega), if_pos (by omega), (hwn (by omega) (by omega)).2, if_pos (by omega), if_pos (by omega), Int.toNat_natCast, ext_right, ← hu, starts_same]
    rfl

end Go.Proofs.Ytdfoelhpeeanlaa.Pure
