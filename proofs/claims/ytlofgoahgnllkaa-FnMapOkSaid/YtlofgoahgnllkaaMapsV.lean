/- Maps that a call makes, by the list of their entries: the look-up and the store, as laws at the operation. -/
import Derived.WalkKit
import Derived.ProofKit
import Derived.Maps.OwnOps
import Derived.DeepKeys4
import Derived.Below
import Derived.Shelf.Abstract
import Derived.Test.YtlofgoahgnllkaaProg
import Derived.Test.YtlofgoahgnllkaaLib
set_option linter.unusedVariables false
set_option linter.unusedSimpArgs false
namespace Go.Proofs.Ytlofgoahgnllkaa.MapsV
open Go.RowKit Go.Shelf Go.Maps Go.ChangeShapes Go.WideShapes Go.MapKept Go.Proofs.YtlofgoahgnllkaaW.PrintWords
open Go.ChangeMaps (setBlock)

section
variable {P : Program} {t k e : TypeId} {Kp : Value → Prop} {w : World} {b : Nat} {al : List (Value × Value)}

/-- What the laws on a map's block ask of the values that may be its keys. -/
structure KeyP (P : Program) (k : TypeId) (Kp : Value → Prop) : Prop where
  check : ∀ (w : World) (em : Bool) {v : Value}, Kp v → (Instr.checkKey em 10000 k v).run P w = .ok () w
  find : ∀ (w : World) {x : Value}, Kp x → ∀ es : List MapEntry, (∀ e ∈ es, Kp e.key) →
    ((Instr.findKey k x es).run P w = .ok none w ∧ ∀ e ∈ es, e.key ≠ x) ∨ ∃ j e, (Instr.findKey k x es).run P w = .ok (some (j, e.val)) w ∧ es[j]? = some e ∧ e.key = x
  stays : ∀ (w : World) {v : Value}, Kp v → (Instr.keyThatStays v v).run P w = .ok v w
def IsInt (q : IntKind) (v : Value) : Prop := ∃ n, v = .int q n
theorem int_keyp {P : Program} {k : TypeId} {q : IntKind} (hk : P.underlying k = some (.int q)) : KeyP P k (IsInt q) := by
  have isK : ∀ v, IsInt q v → IsKey (.int q) v := fun v ⟨n, e⟩ => by subst e; rfl
  refine ⟨fun w em _ h => run_checkKey hk (isK _ h) em 9999, fun w x hx es hes => ?_, fun w _ h => run_keyThatStays (isK _ h)⟩
  rcases findNow_spec (isK _ hx) es 0 (fun y hy => isK _ (hes y hy)) with ⟨h1, h2⟩ | ⟨j, e0, h1, h2, h3⟩
  · exact Or.inl ⟨run_findKey hk h1, h2⟩
  · exact Or.inr ⟨j, e0, by simpa using run_findKey hk h1, h2, h3⟩
def IsPair (v : Value) : Prop := ∃ a p, v = .agg #[.int .i64 a, .int .i64 p]
theorem pair_eq (w : World) (a p b q : Int) : (Op.equal 27 (.agg #[.int .i64 a, .int .i64 p]) (.agg #[.int .i64 b, .int .i64 q])).run Try.prog w = .ok (a == b && p == q) w := by
  unfold Op.equal
  rw [show Op.maxDepth = 9998 + 1 + 1 from rfl]
  go_simp
  by_cases h1 : a = b <;> by_cases h2 : p = q <;> simp [h1, h2]
theorem pair_find (w : World) {x : Value} (hx : IsPair x) : ∀ (es : List MapEntry) (i : Nat), (∀ e ∈ es, IsPair e.key) →
    ((Instr.findAsking 27 x es i).run Try.prog w = .ok none w ∧ ∀ e ∈ es, e.key ≠ x) ∨ ∃ j e, (Instr.findAsking 27 x es i).run Try.prog w = .ok (some (i + j, e.val)) w ∧ es[j]? = some e ∧ e.key = x
  | [], i, _ => Or.inl ⟨by simp [Instr.findAsking], by simp⟩
  | e :: es, i, hall => by
    obtain ⟨a, p, rfl⟩ := hx
    obtain ⟨b, q, hl⟩ := hall e (by simp)
    have hr := pair_eq w a p b q
    rw [← hl] at hr
    by_cases c : a = b ∧ p = q
    · obtain ⟨rfl, rfl⟩ := c
      exact .inr ⟨0, e, by simp [Instr.findAsking, hr], rfl, hl⟩
    · have hf : (a == b && p == q) = false := by simpa using c
      rw [hf] at hr
      rcases pair_find w ⟨a, p, rfl⟩ es (i + 1) (fun y hy => hall y (by simp [hy])) with ⟨h1, h2⟩ | ⟨j, e', h1, h2, h3⟩
      · refine .inl ⟨by simp [Instr.findAsking, hr, h1], fun y hy => ?_⟩
        rcases List.mem_cons.1 hy with rfl | hy
        · rw [hl]; intro h; simp at h; exact c ⟨h.1.symm, h.2.symm⟩
        · exact h2 y hy
      · exact .inr ⟨j + 1, e', by simp [Instr.findAsking, hr, h1, Nat.add_assoc, Nat.add_comm 1 j], by simpa using h2, h3⟩
theorem pair_keyp : KeyP Try.prog 27 IsPair where
  check := fun w em v ⟨a, p, e⟩ => by
    subst e
    rw [show (10000 : Nat) = 9998 + 1 + 1 from rfl, Instr.checkKey]
    simp only [Sem.run_bind, run_underlying Try.underlying27, Result.andThen_ok]
    rw [← Array.forIn_toList]
    have hI : ∀ n w', (Instr.checkKey em 9999 3 (.int .i64 n)).run Try.prog w' = .ok () w' := fun n w' => run_checkKey Try.underlying3 (show IsKey (.int .i64) (.int .i64 n) from rfl) em 9998
    go_simp
  find := fun w x hx es hes => by
    have hK : (Instr.findKey 27 x es).run Try.prog w = (Instr.findAsking 27 x es 0).run Try.prog w := by
      cases es with
      | nil => simp [Instr.findKey, run_underlying Try.underlying27, Instr.findNow, Instr.findAsking, Result.andThen]
      | cons e es =>
        obtain ⟨a, p, rfl⟩ := hx
        obtain ⟨b, q, h2⟩ := hes e (by simp)
        simp [Instr.findKey, run_underlying Try.underlying27, Instr.findNow, Instr.sameNow, h2, Result.andThen]
    rw [hK]
    rcases pair_find w hx es 0 hes with h | ⟨j, e, h1, h2, h3⟩
    · exact .inl h
    · exact .inr ⟨j, e, by simpa using h1, h2, h3⟩
  stays := fun w v ⟨a, p, e⟩ => by
    subst e
    simp [Instr.keyThatStays, Instr.sameBits]

/-- Block b is a map with these entries. -/
def IsMap (Kp : Value → Prop) (w : World) (b : Nat) (al : List (Value × Value)) : Prop :=
  ∃ es clock, w.heap[b]? = some (.map es clock) ∧ es.toList.map (fun x => (x.key, x.val)) = al ∧ ∀ x ∈ es.toList, Kp x.key

theorem IsMap.made (Kp : Value → Prop) (w : World) : IsMap Kp (w.alloc (.map #[] 0)) w.heap.size [] :=
  ⟨#[], 0, (by show (w.heap.push _)[w.heap.size]? = _; simp), rfl, fun x hx => by simp at hx⟩
theorem IsMap.same {w' : World} (h : IsMap Kp w b al) (he : w'.heap[b]? = w.heap[b]?) : IsMap Kp w' b al := by
  obtain ⟨es, c, h1, h2, h3⟩ := h
  exact ⟨es, c, he.trans h1, h2, h3⟩
theorem IsMap.lt (h : IsMap Kp w b al) : b < w.heap.size := by
  obtain ⟨es, c, h1, _⟩ := h
  exact (Array.getElem?_eq_some_iff.1 h1).1
theorem IsMap.alloc (h : IsMap Kp w b al) (o : Obj) : IsMap Kp (w.alloc o) b al := by
  have hlt := h.lt
  refine h.same ?_
  show (w.heap.push o)[b]? = _
  simp only [Array.getElem?_push, Nat.ne_of_lt hlt, if_false]
theorem IsMap.below {B : Nat} {w' : World} (h : IsMap Kp w b al) (hb : b < B) (hB : Below B w w') : IsMap Kp w' b al := h.same (hB.block b hb)

theorem IsMap.look (K : KeyP P k Kp) (ht : P.underlying t = some (.map k e)) {z : Value} (hz : (zeroValue e).run P w = .ok z w) (h : IsMap Kp w b al) {key : Value} (hkey : Kp key) (c : Bool) :
    ((∀ x ∈ al, x.1 ≠ key) ∧ (Instr.lookup t (.map (some b)) key c).run P w = .ok (if c then .tuple #[z, .bool false] else z) w) ∨
    ∃ v, (key, v) ∈ al ∧ (Instr.lookup t (.map (some b)) key c).run P w = .ok (if c then .tuple #[v, .bool true] else v) w := by
  obtain ⟨es, clock, hb, rfl, hks⟩ := h
  rcases K.find w hkey es.toList hks with ⟨h1, h2⟩ | ⟨j, e0, h1, h2, h3⟩
  · refine .inl ⟨fun x hx => ?_, by simp [Instr.lookup, run_underlying ht, MapKept.run_getObj_map hb, K.check w _ hkey, h1, hz, Result.andThen]⟩
    obtain ⟨y, hy, rfl⟩ := List.mem_map.1 hx
    exact h2 y hy
  · refine .inr ⟨e0.val, List.mem_map.2 ⟨e0, List.mem_of_getElem? h2, by rw [h3]⟩, by simp [Instr.lookup, run_underlying ht, MapKept.run_getObj_map hb, K.check w _ hkey, h1, Result.andThen]⟩

theorem IsMap.store (K : KeyP P k Kp) (ht : P.underlying t = some (.map k e)) (h : IsMap Kp w b al) {key val : Value} (hkey : Kp key) :
    ∃ w', (Instr.mapUpdate t (.map (some b)) key val).run P w = .ok () w' ∧ w'.heap.size = w.heap.size ∧ (∀ j, j ≠ b → w'.heap[j]? = w.heap[j]?) ∧ (∀ B, B ≤ b → Below B w w') ∧
      (((∀ x ∈ al, x.1 ≠ key) ∧ IsMap Kp w' b (al ++ [(key, val)])) ∨ ∃ j v, al[j]? = some (key, v) ∧ IsMap Kp w' b (al.set j (key, val))) := by
  obtain ⟨es, clock, hb, rfl, hks⟩ := h
  have hlt : b < w.heap.size := (Array.getElem?_eq_some_iff.1 hb).1
  have hsz : ∀ o, (setBlock w b o).heap.size = w.heap.size := fun o => by simp [setBlock]
  have hoth : ∀ o j, j ≠ b → (setBlock w b o).heap[j]? = w.heap[j]? := fun o j hj => by simp [setBlock, Array.getElem?_setIfInBounds, Ne.symm hj]
  have hsame : ∀ o, (setBlock w b o).heap[b]? = some o := fun o => by simp [setBlock, hlt]
  have hbel : ∀ o B, B ≤ b → Below B w (setBlock w b o) := fun o B hB => ⟨rfl, rfl, rfl, by rw [hsz]; exact Nat.le_refl _, fun j hj => hoth o j (by omega)⟩
  rcases K.find w hkey es.toList hks with ⟨h1, h2⟩ | ⟨j, e0, h1, h2, h3⟩
  · refine ⟨setBlock w b (.map (es.push ⟨key, val, clock⟩) (clock + 1)), by simp [Instr.mapUpdate, run_underlying ht, MapKept.run_getObj_map hb, K.check w false hkey, h1, MapKept.run_setObj_map _ hb, Result.andThen, setBlock], hsz _, hoth _, hbel _, .inl ⟨fun x hx => ?_, _, _, hsame _, by simp, fun x hx => ?_⟩⟩
    · obtain ⟨y, hy, rfl⟩ := List.mem_map.1 hx
      exact h2 y hy
    · simp only [Array.toList_push, List.mem_append, List.mem_singleton] at hx
      rcases hx with hx | rfl
      · exact hks x hx
      · exact hkey
  · have hj : es[j]? = some e0 := by simpa using h2
    refine ⟨setBlock w b (.map (es.modify j (fun e' => { e' with key := key, val := val })) clock), by simp [Instr.mapUpdate, run_underlying ht, MapKept.run_getObj_map hb, K.check w false hkey, h1, hj, h3, K.stays w hkey, MapKept.run_setObj_map _ hb, Result.andThen, setBlock], hsz _, hoth _, hbel _, .inr ⟨j, e0.val, ?_, _, _, hsame _, ?_, fun x hx => ?_⟩⟩
    · rw [List.getElem?_map, h2]; simp [h3]
    · apply List.ext_getElem?
      intro i
      rw [List.getElem?_map, Array.getElem?_toList, Array.getElem?_modify, List.getElem?_set]
      by_cases hij : j = i
      · subst hij
        rw [if_pos rfl, if_pos rfl, hj]
        have : j < (es.toList.map (fun x => (x.key, x.val))).length := by rw [List.length_map]; exact (List.getElem?_eq_some_iff.1 h2).1
        rw [if_pos this]; rfl
      · rw [if_neg hij, if_neg hij, List.getElem?_map, Array.getElem?_toList]
    · rcases MapFrom.mem_modify hx with hx | ⟨e', _, rfl⟩
      · exact hks x hx
      · exact hkey
end

section
variable {P : Program} {Kp : Value → Prop} (w : World) {ops : Array Oper} {rest : List Oper} {o : Oper} {a : Act} {Q : Exit → Act → World → Prop}

/-- The look-up at a key that is not there. -/
theorem wp_look_no (hg : o.guard = none) (m x : Operand) (t : TypeId) (c : Bool) (hop : o.op = Op.lookup t m x c) (k e : TypeId) (K : KeyP P k Kp) (ht : P.underlying t = some (.map k e)) (z : Value) (hz : (zeroValue e).run P w = .ok z w) (b : Nat) (al : List (Value × Value))
    (hm : a.eval m = .map (some b)) (h : IsMap Kp w b al) (key : Value) (hx : a.eval x = key) (hkey : Kp key) (hno : ∀ x ∈ al, x.1 ≠ key)
    (hK : wpList P ops Q rest (a.put o.dst (if c then .tuple #[z, .bool false] else z)) w) : wpList P ops Q (o :: rest) a w := by
  rcases h.look K ht hz hkey c with ⟨_, hrun⟩ | ⟨v, hv, _⟩
  · refine wpList_plain hg fun K' hK' => ?_
    unfold Oper.wp
    simp [execOp, hop, hm, hx, hrun, Result.andThen]
    exact hK' _ _ hK
  · exact absurd rfl (hno _ hv)
/-- The look-up at a key that is there, of which the list says what stands at it. -/
theorem wp_look_at (hg : o.guard = none) (m x : Operand) (t : TypeId) (c : Bool) (hop : o.op = Op.lookup t m x c) (k e : TypeId) (K : KeyP P k Kp) (ht : P.underlying t = some (.map k e)) (z : Value) (hz : (zeroValue e).run P w = .ok z w) (b : Nat) (al : List (Value × Value))
    (hm : a.eval m = .map (some b)) (h : IsMap Kp w b al) (key : Value) (hx : a.eval x = key) (hkey : Kp key) (v : Value) (hin : ∃ x ∈ al, x.1 = key) (hone : ∀ u, (key, u) ∈ al → u = v)
    (hK : wpList P ops Q rest (a.put o.dst (if c then .tuple #[v, .bool true] else v)) w) : wpList P ops Q (o :: rest) a w := by
  rcases h.look K ht hz hkey c with ⟨hno, _⟩ | ⟨u, hu, hrun⟩
  · obtain ⟨y, hy, e1⟩ := hin
    exact absurd e1 (hno _ hy)
  · obtain rfl := hone u hu
    refine wpList_plain hg fun K' hK' => ?_
    unfold Oper.wp
    simp [execOp, hop, hm, hx, hrun, Result.andThen]
    exact hK' _ _ hK
/-- The look-up at a key that is there. -/
theorem wp_look_in (hg : o.guard = none) (m x : Operand) (t : TypeId) (c : Bool) (hop : o.op = Op.lookup t m x c) (k e : TypeId) (K : KeyP P k Kp) (ht : P.underlying t = some (.map k e)) (z : Value) (hz : (zeroValue e).run P w = .ok z w) (b : Nat) (al : List (Value × Value))
    (hm : a.eval m = .map (some b)) (h : IsMap Kp w b al) (key : Value) (hx : a.eval x = key) (hkey : Kp key) (hin : ∃ x ∈ al, x.1 = key)
    (hK : ∀ v, (key, v) ∈ al → wpList P ops Q rest (a.put o.dst (if c then .tuple #[v, .bool true] else v)) w) : wpList P ops Q (o :: rest) a w := by
  rcases h.look K ht hz hkey c with ⟨hno, _⟩ | ⟨u, hu, hrun⟩
  · obtain ⟨y, hy, e1⟩ := hin
    exact absurd e1 (hno _ hy)
  · refine wpList_plain hg fun K' hK' => ?_
    unfold Oper.wp
    simp [execOp, hop, hm, hx, hrun, Result.andThen]
    exact hK' _ _ (hK u hu)
/-- The store. -/
theorem wp_store (hg : o.guard = none) (m x y : Operand) (t : TypeId) (hop : o.op = Op.mapUpdate t m x y) (k e : TypeId) (K : KeyP P k Kp) (ht : P.underlying t = some (.map k e)) (b : Nat) (al : List (Value × Value))
    (hm : a.eval m = .map (some b)) (h : IsMap Kp w b al) (key val : Value) (hx : a.eval x = key) (hy : a.eval y = val) (hkey : Kp key)
    (hK : ∀ w', w'.heap.size = w.heap.size → (∀ j, j ≠ b → w'.heap[j]? = w.heap[j]?) → (∀ B, B ≤ b → Below B w w') →
      (((∀ x ∈ al, x.1 ≠ key) ∧ IsMap Kp w' b (al ++ [(key, val)])) ∨ ∃ j v, al[j]? = some (key, v) ∧ IsMap Kp w' b (al.set j (key, val))) → wpList P ops Q rest (a.put o.dst undef) w') : wpList P ops Q (o :: rest) a w := by
  obtain ⟨w', hrun, h1, h2, h3, h4⟩ := h.store K ht (val := val) hkey
  refine wpList_plain hg fun K' hK' => ?_
  unfold Oper.wp
  simp [execOp, hop, hm, hx, hy, hrun, Result.andThen]
  exact hK' _ _ (hK w' h1 h2 h3 h4)
end
end Go.Proofs.Ytlofgoahgnllkaa.MapsV
