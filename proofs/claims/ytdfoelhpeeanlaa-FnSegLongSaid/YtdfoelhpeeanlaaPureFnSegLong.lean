/- FnSegLong: for every two codes (one longer than 2^20: nothing is asked) a drawn segment's bytes are the reference's; a segment that is not well has none; of two that are well the bytes are alike just if the segments are, and there are 15 and its text's size of them. -/
import Derived.Test.YtdfoelhpeeanlaaDFnSegLong
namespace Go.Proofs.Ytdfoelhpeeanlaa.Pure
open Go.RowKit Go.Proofs.Ytdfoelhpeeanlaa.QFnSegLong Go.Proofs.YtdfoelhpeeanlaaW.PrintWords Go.Proofs.YtdfoelhpeeanlaaW.PrintLast Go.Proofs.Ytdfoelhpeeanlaa

theorem ha_okL : laws_haOk.f = some true := by
  have hb : bt (⟨#[97]⟩ : ByteArray) 0 = 97 := rfl
  have hs : (⟨#[97]⟩ : ByteArray).size = 1 := rfl
  have w1 : wrap64 97 = 97 := Lib.wrap_id (by omega) (by omega)
  have w2 : wrap64 (97 - 97) = 0 := Lib.wrap_id (x := 97 - 97) (by omega) (by omega)
  have w3 : wrap64 (((1 : Nat) : Int) - 1) = 0 := Lib.wrap_id (x := ((1 : Nat) : Int) - 1) (by omega) (by omega)
  unfold laws_haOk.f impl_LinOk.f
  rw [hb, hs, w1, w2, w3]
  simp
theorem map_inj (l m : List UInt8) (h : l.map (fun b => (b.toNat : Int)) = m.map (fun b => (b.toNat : Int))) : l = m := by
  induction l generalizing m with
  | nil => cases m with
    | nil => rfl
    | cons a m => simp at h
  | cons b l ih => cases m with
    | nil => simp at h
    | cons a m =>
      simp only [List.map_cons, List.cons.injEq] at h
      rw [ih m h.2, UInt8.toNat_inj.1 (by omega : b.toNat = a.toNat)]
theorem bytesOf_inj (s t : ByteArray) (h : bytesOf s = bytesOf t) : s = t := by
  unfold bytesOf at h
  have := map_inj _ _ h
  apply ByteArray.ext
  exact Array.toList_inj.1 this
theorem bytes_inj (a p b q x y : Int) (s : ByteArray) (a' p' b' q' x' y' : Int) (s' : ByteArray) (h : segOkB a p b q x y s = true) (h' : segOkB a' p' b' q' x' y' s' = true)
    (e : segBytesV a p b q x y s = segBytesV a' p' b' q' x' y' s') : a = a' ∧ p = p' ∧ b = b' ∧ q = q' ∧ x = x' ∧ y = y' ∧ s = s' := by
  have l1 := congrArg List.length e
  rw [bytes_len, bytes_len, if_pos h, if_pos h'] at l1
  unfold segBytesV at e
  rw [if_pos h, if_pos h'] at e
  have e := (List.append_inj e (by rw [body_len, body_len]; omega)).1
  unfold segBody at e
  have e1 := List.append_inj e (by rw [head_len, head_len])
  have e2 := e1.1
  unfold segHead twoL at e2
  simp only [List.cons_append, List.nil_append, List.cons.injEq] at e2
  refine ⟨?_, ?_, ?_, ?_, ?_, ?_, bytesOf_inj _ _ e1.2⟩ <;> omega

theorem FnSegLong : laws_FnSegLong.Pure := by
  intro l l' hm hl hw hm' hl' hw'
  by_cases c : (l.length : Int) > 1048576
  · exact ⟨1, by unfold laws_FnSegLong.f; rw [if_pos c, laws_FnSegLong.j0, if_pos rfl]⟩
  by_cases c' : (l'.length : Int) > 1048576
  · exact ⟨1, by unfold laws_FnSegLong.f; rw [if_neg c, decide_eq_true c', laws_FnSegLong.j0, if_pos rfl]⟩
  obtain ⟨a, p, b, q, x, y, s, ⟨K1, e1⟩, hs⟩ := drawsegbytes_ev l (Lib.bytes_wf hw) (by omega)
  obtain ⟨a', p', b', q', x', y', s', ⟨K2, e2⟩, hs'⟩ := drawsegbytes_ev l' (Lib.bytes_wf hw') (by omega)
  obtain ⟨K3, e3⟩ := impl_bytes_ev a p b q x y s (by omega)
  obtain ⟨K4, e4⟩ := spec_bytes_ev a p b q x y s
  have lB : (segBytesV a p b q x y s).length ≤ 28 := by rw [bytes_len]; split <;> omega
  obtain ⟨K5, e5⟩ := hab_ev (segBytesV a p b q x y s) (segBytesV a p b q x y s) (by omega)
  obtain ⟨K6, e6⟩ := spec_seg_ev a p b q x y s
  obtain ⟨K7, e7⟩ := spec_seg_ev a' p' b' q' x' y' s'
  obtain ⟨K8, e8⟩ := impl_bytes_ev a' p' b' q' x' y' s' (by omega)
  obtain ⟨K9, e9⟩ := hab_ev (segBytesV a p b q x y s) (segBytesV a' p' b' q' x' y' s') (by omega)
  dsimp only at e1 e2 e3 e4 e5 e6 e7 e8 e9
  rw [decide_eq_true (rfl : segBytesV a p b q x y s = segBytesV a p b q x y s)] at e5
  refine ⟨K1 + K2 + K3 + K4 + K5 + K6 + K7 + K8 + K9 + 2, ?_⟩
  unfold laws_FnSegLong.f
  rw [if_neg c, decide_eq_false c', laws_FnSegLong.j0, if_neg (by decide), e1 _ (by omega), Option.bind_some, e2 _ (by omega), Option.bind_some]; dsimp only
  rw [e3 _ (by omega), Option.bind_some, e4 _ (by omega), Option.bind_some, e5 _ (by omega), Option.bind_some, if_pos rfl, e6 _ (by omega), Option.bind_some]
  by_cases h : segOkB a p b q x y s = true
  · rw [if_pos h, e7 _ (by omega), Option.bind_some]
    by_cases h' : segOkB a' p' b' q' x' y' s' = true
    · rw [h', laws_FnSegLong.j1, if_neg (by decide), Lib.wrap_id (x := 15 + (s.size : Int)) (by omega) (by omega), if_pos (by rw [bytes_len, if_pos h]; omega), e8 _ (by omega), Option.bind_some, e9 _ (by omega), Option.bind_some]
      congr 1
      rw [beq_iff_eq, Bool.eq_iff_iff]
      simp only [decide_eq_true_eq, Bool.and_eq_true, beq_iff_eq]
      constructor
      · intro e
        obtain ⟨r1, r2, r3, r4, r5, r6, r7⟩ := bytes_inj _ _ _ _ _ _ _ _ _ _ _ _ _ _ h h' e
        exact ⟨⟨r1, r2⟩, ⟨r3, r4⟩, r5, r6, by rw [r7]⟩
      · rintro ⟨⟨r1, r2⟩, ⟨r3, r4⟩, r5, r6, r7⟩
        have r8 : s = s' := by
          rw [ByteArray.toList_eq, ByteArray.toList_eq] at r7
          exact ByteArray.ext (Array.toList_inj.1 r7)
        rw [r1, r2, r3, r4, r5, r6, r8]
    · rw [Bool.eq_false_iff.2 h', laws_FnSegLong.j1, if_pos (by decide), e6 _ (by omega), Option.bind_some, if_pos h, ha_okL]; rfl
  · rw [if_neg h, laws_FnSegLong.j1, if_pos rfl, e6 _ (by omega), Option.bind_some, if_neg h, if_pos (by rw [bytes_len, if_neg h]; rfl), ha_okL]; rfl

end Go.Proofs.Ytdfoelhpeeanlaa.Pure
