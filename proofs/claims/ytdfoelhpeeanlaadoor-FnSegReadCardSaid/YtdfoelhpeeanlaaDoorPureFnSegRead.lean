/- FnSegRead: for every code (longer than 2^20: nothing is asked) what the program's SegRead reads of the drawn bytes is what the reference's reads; it is ok, and its bytes are all of them, or nothing is read. -/
import Derived.Test.YtdfoelhpeeanlaaDoorDFnSegRead
set_option linter.unusedVariables false
set_option linter.unusedSimpArgs false
namespace Go.Proofs.YtdfoelhpeeanlaaDoor.Pure
open Go.RowKit Go.Proofs.YtdfoelhpeeanlaaDoor.QFnSegRead Go.Proofs.YtdfoelhpeeanlaaDoorW.PrintWords Go.Proofs.YtdfoelhpeeanlaaDoorW.PrintLast Go.Proofs.YtdfoelhpeeanlaaDoor
theorem ha_true : laws_haOk.f = some true := by
  have hb : bt (⟨#[97]⟩ : ByteArray) 0 = 97 := rfl
  have hs : (⟨#[97]⟩ : ByteArray).size = 1 := rfl
  have w1 : wrap64 97 = 97 := Lib.wrap_id (by omega) (by omega)
  have w2 : wrap64 (97 - 97) = 0 := Lib.wrap_id (x := 97 - 97) (by omega) (by omega)
  have w3 : wrap64 (((1 : Nat) : Int) - 1) = 0 := Lib.wrap_id (x := ((1 : Nat) : Int) - 1) (by omega) (by omega)
  unfold laws_haOk.f impl_LinOk.f
  rw [hb, hs, w1, w2, w3]
  simp
theorem FnSegRead (l : List Int) (hm : l.length ≤ 9223372036854775807) (hy : l.length * 1 ≤ 140737488351232) (hw : ∀ n ∈ l, (Lit.int .u8 n).wf = true) : ∃ k, laws_FnSegRead.f k l = some true := by
  by_cases c0 : (l.length : Int) > 1048576
  · exact ⟨0, by unfold laws_FnSegRead.f; rw [if_pos c0]⟩
  obtain ⟨m, ⟨K1, e1⟩, hb, hlen⟩ := drawsegread_ev l (Lib.bytes_wf hw) (by omega)
  obtain ⟨K2, e2⟩ := spec_rd_ev m hb (by omega)
  obtain ⟨K3, e3⟩ := impl_rd_ev m hb (by omega)
  dsimp only at e1 e2 e3
  have nb : ∀ V : Int × Int × Int × Int × Int × Int × ByteArray × Bool, ((!(V.1 == V.1) || (!(V.2.1 == V.2.1))) || ((!(V.2.2.1 == V.2.2.1) || (!(V.2.2.2.1 == V.2.2.2.1))) || (!(V.2.2.2.2.1 == V.2.2.2.2.1) || (!(V.2.2.2.2.2.1 == V.2.2.2.2.2.1) || (!(V.2.2.2.2.2.2.1.toList == V.2.2.2.2.2.2.1.toList)))))) = false := fun V => by simp
  by_cases h : rdOk m
  · have hv := rdv_yes h
    obtain ⟨K4, e4⟩ := impl_seg_ev (num2 m 0) (num2 m 2) (num2 m 4) (num2 m 6) (num2 m 8) (num2 m 10) (rdStr m) (by have := (segOk_bd h.2.2.2.2).2.2.2.2.2.2.2.2.2.2.2.2; omega)
    obtain ⟨K5, e5⟩ := impl_bytes_ev (num2 m 0) (num2 m 2) (num2 m 4) (num2 m 6) (num2 m 8) (num2 m 10) (rdStr m) (by have := (segOk_bd h.2.2.2.2).2.2.2.2.2.2.2.2.2.2.2.2; omega)
    rw [rd_back m hb h] at e5
    obtain ⟨K6, e6⟩ := hab_ev m m (by omega)
    dsimp only at e4 e5 e6
    rw [decide_eq_true rfl] at e6
    rw [h.2.2.2.2] at e4
    refine ⟨K1 + K2 + K3 + K4 + K5 + K6 + 1, ?_⟩
    unfold laws_FnSegRead.f
    rw [if_neg c0, e1 _ (by omega), Option.bind_some, e3 _ (by omega), Option.bind_some, e2 _ (by omega), Option.bind_some, nb, if_neg (by decide), hv]
    dsimp only
    rw [laws_FnSegRead.j0, if_neg (by decide), if_pos rfl, e4 _ (by omega), Option.bind_some, if_pos rfl, e5 _ (by omega), Option.bind_some, e6 _ (by omega), Option.bind_some]
  · have hv := rdv_no h
    refine ⟨K1 + K2 + K3 + 1, ?_⟩
    unfold laws_FnSegRead.f
    rw [if_neg c0, e1 _ (by omega), Option.bind_some, e3 _ (by omega), Option.bind_some, e2 _ (by omega), Option.bind_some, nb, if_neg (by decide), hv]
    dsimp only
    rw [laws_FnSegRead.j0, if_neg (by decide), if_neg (by decide), if_pos (by (have z_ : (⟨#[]⟩ : ByteArray).toList = [] := by rw [ByteArray.toList_eq]); simp [z_]), ha_true]
    rfl
end Go.Proofs.YtdfoelhpeeanlaaDoor.Pure
