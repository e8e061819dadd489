import Derived.Test.YtlofgoahgnllkaaDoorWMore
set_option linter.unusedSimpArgs false
set_option linter.unusedVariables false
namespace Go.Proofs.YtlofgoahgnllkaaDoor.Lib
open Go.RowKit Go.Proofs.YtlofgoahgnllkaaDoorW.PrintWords Go.Proofs.YtlofgoahgnllkaaDoorW.PrintLast
theorem wrap_id {x : Int} (h1 : -9223372036854775808 ≤ x) (h2 : x ≤ 9223372036854775807) : wrap64 x = x := by
  unfold wrap64; omega
theorem rd_nat (l : List Int) (i : Nat) : rd l (i : Int) = l.getD i 0 := by
  unfold rd; simp
theorem rd_mem (l : List Int) (i : Nat) (h : i < l.length) : rd l (i : Int) ∈ l := by
  rw [rd_nat]
  simp [List.getD_eq_getElem?_getD, List.getElem?_eq_getElem h]
theorem copy_step {α : Type} (l : List α) (z : α) (i : Nat) (h : i < l.length) :
    (l.take i ++ List.replicate (l.length - i) z).set i (l.getD i z) = l.take (i + 1) ++ List.replicate (l.length - (i + 1)) z := by
  obtain ⟨m, hm⟩ : ∃ m, l.length - i = m + 1 := ⟨l.length - i - 1, by omega⟩
  have hl : (l.take i).length = i := by simp; omega
  rw [hm, List.set_append_right _ _ (by omega), hl, Nat.sub_self, List.replicate_succ, List.set_cons_zero, List.take_succ_eq_append_getElem h,
    show l.length - (i + 1) = m by omega, List.append_assoc]
  simp [List.getD_eq_getElem?_getD, List.getElem?_eq_getElem h]
def Bytes (l : List Int) : Prop := ∀ x ∈ l, 0 ≤ x ∧ x ≤ 255
theorem bytes_wf {l : List Int} (h : ∀ x ∈ l, (Lit.int .u8 x).wf = true) : Bytes l := by
  intro x hx
  have := h x hx
  simp [Lit.wf, IntKind.min, IntKind.max, IntKind.signed, IntKind.bits] at this
  omega
theorem bytes_rd {l : List Int} (h : Bytes l) (i : Nat) : 0 ≤ rd l (i : Int) ∧ rd l (i : Int) ≤ 255 := by
  by_cases hi : i < l.length
  · exact h _ (rd_mem l i hi)
  · rw [rd_nat]; simp [List.getD_eq_getElem?_getD, List.getElem?_eq_none (by omega : l.length ≤ i)]
theorem bt_eq (s : ByteArray) (i : Nat) (h : i < s.size) : bt s (i : Int) = (s[i].toNat : Int) := by
  unfold bt; rw [dif_pos (by simpa using h)]; rfl
theorem bt_extract (s : ByteArray) (a b i : Nat) (hb : b ≤ s.size) (h : a + i < b) : bt (s.extract a b) (i : Int) = bt s ((a + i : Nat) : Int) := by
  rw [bt_eq _ _ (by rw [ByteArray.size_extract]; omega), bt_eq _ _ (by omega), ByteArray.getElem_extract]
theorem bt_left (s t : ByteArray) (i : Nat) (h : i < s.size) : bt (s ++ t) (i : Int) = bt s (i : Int) := by
  rw [bt_eq _ _ (by rw [ByteArray.size_append]; omega), bt_eq _ _ h, ByteArray.getElem_append_left h]
theorem bt_right (s t : ByteArray) (i : Nat) (h : i < t.size) : bt (s ++ t) ((s.size + i : Nat) : Int) = bt t (i : Int) := by
  rw [bt_eq _ _ (by rw [ByteArray.size_append]; omega), bt_eq _ _ h, ByteArray.getElem_append_right (by omega)]
  simp
theorem bt_ext (s t : ByteArray) (hs : s.size = t.size) (h : ∀ i : Nat, i < s.size → bt s (i : Int) = bt t (i : Int)) : s = t := by
  apply ByteArray.ext_getElem hs
  intro i h1 h2
  have := h i h1
  rw [bt_eq _ _ h1, bt_eq _ _ h2] at this
  exact UInt8.toNat_inj.1 (by omega)
section
open Go.Proofs.YtlofgoahgnllkaaDoorW.PrintWords.Kd
variable {P : Program} {ops : Array Oper} {rest : List Oper} {o : Oper} {a : Act} {Q : Exit → Act → World → Prop} {α : Type}
end
end Go.Proofs.YtlofgoahgnllkaaDoor.Lib
