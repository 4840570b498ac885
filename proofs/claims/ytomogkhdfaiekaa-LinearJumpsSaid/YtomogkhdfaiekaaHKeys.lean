/-
  Small words on worlds, for the hand-made walks of this seat: blocks that a walk has laid, behind a callee. No premise, no program.
  Sets in memory: a map whose elements are empty structs, told by the list of its keys (each once, in no order that counts). The laws of Derived/Maps at the operations, in these words. Over any program; the keys' type by a bundle.
  The places of this seat as keys of sets, and whole numbers as such.
-/
import Derived.Test.YtomogkhdfaiekaaWWords
import Derived.Test.YtomogkhdfaiekaaWMore
import Derived.Maps.OwnSet
import Derived.Maps.RangeWalk
import Derived.DeepKeys4
import Derived.Test.YtomogkhdfaiekaaPLinx0
section
namespace Go.Proofs.Ytomogkhdfaiekaa.HW
open Go.RowKit Go.Proofs.YtomogkhdfaiekaaW.PrintWords Go.Proofs.YtomogkhdfaiekaaW.PrintLast Go.Proofs.YtomogkhdfaiekaaW.PrintMore
set_option linter.unusedVariables false

/-- What was there before a callee is as it was. -/
theorem bcell {W w1 : World} (hb : Below W.heap.size W w1) : (∀ b o, b < W.heap.size → w1.cell? ⟨b, o, none⟩ = W.cell? ⟨b, o, none⟩) ∧ (∀ b o, b < W.heap.size → w1.frozen? ⟨b, o, none⟩ = W.frozen? ⟨b, o, none⟩) :=
  ⟨fun b o h => hb.cell (p := ⟨b, o, none⟩) h, fun b o h => hb.frozen (p := ⟨b, o, none⟩) h⟩

theorem alloc_new (w : World) (o : Obj) : (w.alloc o).heap[w.heap.size]? = some o := by unfold World.alloc; simp
theorem size_alloc (w : World) (o : Obj) : (w.alloc o).heap.size = w.heap.size + 1 := by unfold World.alloc; simp

theorem alloc1_below {w w1 : World} {o1 : Obj} (hb : Below (w.alloc o1).heap.size (w.alloc o1) w1) :
    Below w.heap.size w w1 ∧ w.heap.size + 1 ≤ w1.heap.size ∧ w1.heap[w.heap.size]? = some o1 := by
  have hs := hb.size
  simp only [size_alloc] at hs
  exact ⟨below_then (below_alloc (Below.refl _ w) _) (by simp only [size_alloc]; omega) hb, hs, blk_below (alloc_new _ _) hb⟩

theorem alloc2_below {w w1 : World} {o1 o2 : Obj} (hb : Below ((w.alloc o1).alloc o2).heap.size ((w.alloc o1).alloc o2) w1) :
    Below w.heap.size w w1 ∧ w.heap.size + 2 ≤ w1.heap.size ∧ w1.heap[w.heap.size]? = some o1 ∧ w1.heap[w.heap.size + 1]? = some o2 := by
  obtain ⟨h1, h2, h3⟩ := alloc1_below hb
  simp only [size_alloc] at h2 h3
  exact ⟨below_then (below_alloc (Below.refl _ w) _) (by simp only [size_alloc]; omega) h1, by omega, blk_below (alloc_new _ _) h1, h3⟩

theorem alloc3_below {w w1 : World} {o1 o2 o3 : Obj} (hb : Below (((w.alloc o1).alloc o2).alloc o3).heap.size (((w.alloc o1).alloc o2).alloc o3) w1) :
    Below w.heap.size w w1 ∧ w.heap.size + 3 ≤ w1.heap.size ∧ w1.heap[w.heap.size]? = some o1 ∧ w1.heap[w.heap.size + 1]? = some o2 ∧ w1.heap[w.heap.size + 1 + 1]? = some o3 := by
  obtain ⟨h1, h2, h3, h4⟩ := alloc2_below hb
  simp only [size_alloc] at h2 h3 h4
  exact ⟨below_then (below_alloc (Below.refl _ w) _) (by simp only [size_alloc]; omega) h1, by omega, blk_below (alloc_new _ _) h1, h3, h4⟩

theorem alloc4_below {w w1 : World} {o1 o2 o3 o4 : Obj} (hb : Below ((((w.alloc o1).alloc o2).alloc o3).alloc o4).heap.size ((((w.alloc o1).alloc o2).alloc o3).alloc o4) w1) :
    Below w.heap.size w w1 ∧ w.heap.size + 4 ≤ w1.heap.size ∧ w1.heap[w.heap.size]? = some o1 ∧ w1.heap[w.heap.size + 1]? = some o2 ∧ w1.heap[w.heap.size + 1 + 1]? = some o3 ∧ w1.heap[w.heap.size + 1 + 1 + 1]? = some o4 := by
  obtain ⟨h1, h2, h3, h4, h5⟩ := alloc3_below hb
  simp only [size_alloc] at h2 h3 h4 h5
  exact ⟨below_then (below_alloc (Below.refl _ w) _) (by simp only [size_alloc]; omega) h1, by omega, blk_below (alloc_new _ _) h1, h3, h4, h5⟩

end Go.Proofs.Ytomogkhdfaiekaa.HW
end

section
namespace Go.Proofs.Ytomogkhdfaiekaa.HSet
open Go.RowKit Go.Proofs.YtomogkhdfaiekaaW.PrintWords Go.Proofs.YtomogkhdfaiekaaW.PrintLast Go.Proofs.YtomogkhdfaiekaaW.PrintMore
open Go.Maps (Keyed Tidy)
set_option linter.unusedVariables false
set_option linter.unusedSectionVars false

theorem len_sub {α : Type} [DecidableEq α] : ∀ (l S : List α), l.Nodup → (∀ x ∈ l, x ∈ S) → l.length ≤ S.length
  | [], _, _, _ => Nat.zero_le _
  | a :: l, S, hn, hs => by
    obtain ⟨h1, h2⟩ := List.nodup_cons.1 hn
    have ha := hs a (by simp)
    have := len_sub l (S.erase a) h2 fun x hx => (List.mem_erase_of_ne (fun (e : x = a) => h1 (e ▸ hx))).2 (hs x (by simp [hx]))
    rw [List.length_erase, if_pos ha] at this
    have := List.length_pos_of_mem ha
    simp; omega

/-- What a key's type must bear: values 'mk p' for the p that may be, each read as 'kl p'. -/
structure KeyKind (P : Program) (K : TypeId) {α : Type} (okp : α → Prop) (mk : α → Value) (kl : α → Lit) : Prop where
  keyed : Keyed P K
  mkK : ∀ p, okp p → keyOf P K (mk p) = some (kl p)
  invK : ∀ v l, keyOf P K v = some l → ∃ p, okp p ∧ v = mk p ∧ l = kl p
  inj : ∀ p q, mk p = mk q → p = q

section
variable {P : Program} {K : TypeId} {α : Type} [DecidableEq α] {okp : α → Prop} {mk : α → Value} {kl : α → Lit}

theorem KeyKind.klinj (C : KeyKind P K okp mk kl) {p q : α} (hp : okp p) (hq : okp q) (h : kl p = kl q) : p = q :=
  C.inj p q (C.keyed.inj (C.mkK p hp) (h ▸ C.mkK q hq))
theorem KeyKind.isKey (C : KeyKind P K okp mk kl) {p : α} (hp : okp p) : WideAt.IsKeyLit (kl p) := C.keyed.key (C.mkK p hp)

/-- Block b is a map whose keys are just the list's, each once. -/
structure SetAt (P : Program) (K : TypeId) (okp : α → Prop) (kl : α → Lit) (w : World) (b : Nat) (S : List α) : Prop where
  nodup : S.Nodup
  ok : ∀ p ∈ S, okp p
  data : ∃ D : DataW Unit, w.ownsMap P K unitElem b S.length D ∧ (∀ p, okp p → Maps.has D (kl p) = decide (p ∈ S)) ∧ Maps.size D = S.length

theorem SetAt.made (w : World) : SetAt P K okp kl (w.alloc (.map #[] 0)) w.heap.size ([] : List α) :=
  ⟨List.nodup_nil, fun _ h => by simp at h, .map [], World.ownsMap_made _ _ _ _, fun p _ => by simp [Maps.has_eq], rfl⟩

theorem SetAt.lt {w : World} {b : Nat} {S : List α} (h : SetAt P K okp kl w b S) : b < w.heap.size := by
  obtain ⟨_, _, D, h, _⟩ := h
  exact h.lt

theorem SetAt.move {w w' : World} {b : Nat} {S : List α} (h : SetAt P K okp kl w b S) (e : w'.heap[b]? = w.heap[b]?) : SetAt P K okp kl w' b S := by
  obtain ⟨h1, h2, D, ⟨es, clock, hb, r⟩, h3⟩ := h
  exact ⟨h1, h2, D, ⟨es, clock, e.trans hb, r⟩, h3⟩

theorem SetAt.below {w w' : World} {b : Nat} {S : List α} (h : SetAt P K okp kl w b S) (hb : Below w.heap.size w w') : SetAt P K okp kl w' b S := h.move (hb.block b h.lt)
theorem SetAt.grown {w w' : World} {b : Nat} {S : List α} {row : Option Nat} (h : SetAt P K okp kl w b S) (hb : w.grownBy w' row) (hne : some b ≠ row) : SetAt P K okp kl w' b S := h.move (hb.block b h.lt hne)
theorem SetAt.alloc {w : World} {b : Nat} {S : List α} (h : SetAt P K okp kl w b S) (o : Obj) : SetAt P K okp kl (w.alloc o) b S := h.below (below_alloc (Below.refl _ _) o)

theorem SetAt.perm {w : World} {b : Nat} {S S' : List α} (h : SetAt P K okp kl w b S) (hp : S.Perm S') : SetAt P K okp kl w b S' := by
  obtain ⟨h1, h2, D, h3, h4, h5⟩ := h
  refine ⟨hp.nodup_iff.1 h1, fun p hm => h2 p (hp.mem_iff.2 hm), D, hp.length_eq ▸ h3, fun p hk => ?_, hp.length_eq ▸ h5⟩
  rw [h4 p hk]; exact decide_eq_decide.2 hp.mem_iff

/-- A store of what may or may not be there. -/
def ins (S : List α) (p : α) : List α := if p ∈ S then S else S ++ [p]
theorem mem_ins (S : List α) (p q : α) : q ∈ ins S p ↔ q ∈ S ∨ q = p := by
  unfold ins; split
  · constructor
    · exact .inl
    · rintro (h | rfl) <;> assumption
  · simp
theorem nodup_ins {S : List α} (h : S.Nodup) (p : α) : (ins S p).Nodup := by
  unfold ins; split
  · exact h
  · rename_i hn; exact List.nodup_append.2 ⟨h, by simp, fun a ha b hb e => by simp at hb; subst hb; subst e; exact hn ha⟩
theorem length_ins_le (S : List α) (p : α) : (ins S p).length ≤ S.length + 1 := by unfold ins; split <;> simp

theorem SetAt.put {w w' : World} {b : Nat} {S : List α} {p : α} (C : KeyKind P K okp mk kl) (h : SetAt P K okp kl w b S) (hp : okp p)
    (D : DataW Unit) (hD : w.ownsMap P K unitElem b S.length D) (h4 : ∀ p, okp p → Maps.has D (kl p) = decide (p ∈ S)) (h5 : Maps.size D = S.length)
    (h6 : w'.ownsMap P K unitElem b (S.length + 1) (D.put (kl p) (.agg []))) : SetAt P K okp kl w' b (ins S p) := by
  have hsz : Maps.size (D.put (kl p) (.agg [])) = (ins S p).length := by
    rw [Maps.size_put (hD.tidy C.keyed), h4 p hp, h5]
    unfold ins
    by_cases hm : p ∈ S <;> simp [hm]
  refine ⟨nodup_ins h.nodup p, fun q hq => ?_, D.put (kl p) (.agg []), ?_, fun q hq => ?_, hsz⟩
  · rcases (mem_ins S p q).1 hq with hq | rfl
    · exact h.ok q hq
    · exact hp
  · obtain ⟨es, clock, hb, F, hs, hD'⟩ := h6
    refine ⟨es, clock, hb, F, ?_, hD'⟩
    rw [← hsz, hD']
    simp [Maps.size, length_sorted]
  · by_cases e : kl q = kl p
    · have := C.klinj hq hp e
      subst this
      rw [Maps.has_put_same hD.isMap (C.isKey hp)]
      exact (decide_eq_true ((mem_ins S q q).2 (.inr rfl))).symm
    · rw [Maps.has_put_other e, h4 q hq]
      refine decide_eq_decide.2 ⟨fun h => (mem_ins S p q).2 (.inl h), fun h => ?_⟩
      rcases (mem_ins S p q).1 h with h | rfl
      · exact h
      · exact absurd rfl e

section
variable (w : World) {ops : Array Oper} {rest : List Oper} {o : Oper} {a : Act} {Q : Exit → Act → World → Prop}

/-- '_, ok := s[k]'. -/
theorem wp_lookup (hg : o.guard = none) (m x : Operand) (t : TypeId) (hop : o.op = Op.lookup t m x true) (e : TypeId) (C : KeyKind P K okp mk kl) (ht : P.underlying t = some (.map K e)) (hz : (zeroValue e).run P w = .ok (.agg #[]) w)
    {b : Nat} {S : List α} (hm : a.eval m = .map (some b)) (h : SetAt P K okp kl w b S) (p : α) (hx : a.eval x = mk p) (hp : okp p)
    (hK : wpList P ops Q rest (a.put o.dst (.tuple #[.agg #[], .bool (decide (p ∈ S))])) w) : wpList P ops Q (o :: rest) a w := by
  obtain ⟨h1, h2, D, h3, h4, h5⟩ := h
  refine wpList_lookup_own_unit w hg m x t hop K e C.keyed ht hz b S.length D hm h3 (mk p) (kl p) hx (C.mkK p hp) ?_
  rw [h4 p hp]; exact hK

/-- 's[k] = struct{}{}'. -/
theorem wp_insert (hg : o.guard = none) (m x v : Operand) (t : TypeId) (hop : o.op = Op.mapUpdate t m x v) (e : TypeId) (C : KeyKind P K okp mk kl) (ht : P.underlying t = some (.map K e))
    {b : Nat} {S : List α} (hm : a.eval m = .map (some b)) (h : SetAt P K okp kl w b S) (hn : S.length < maxLen) (p : α) (hx : a.eval x = mk p) (hv : a.eval v = .agg #[]) (hp : okp p)
    (hK : ∀ w', SetAt P K okp kl w' b (ins S p) → w.grownBy w' (some b) → wpList P ops Q rest (a.put o.dst undef) w') : wpList P ops Q (o :: rest) a w := by
  obtain ⟨D, h3, h4, h5⟩ := h.data
  exact wpList_mapUpdate_own w hg m x v t hop K e C.keyed ht unitElem b S.length D hm h3 hn (mk p) (.agg #[]) (kl p) hx hv (C.mkK p hp) (.agg []) [] unitElem_mk
    (fun w' h6 hgr => hK w' (h.put C hp D h3 h4 h5 h6) hgr)

/-- 'delete(s, k)'. -/
theorem wp_delete (hg : o.guard = none) (m x : Operand) (t : TypeId) (hop : o.op = Op.call { callee := Callee.builtin Builtin.delete, args := #[m, x], argTypes := #[t, K] }) (e : TypeId) (C : KeyKind P K okp mk kl) (ht : P.underlying t = some (.map K e))
    {b : Nat} {S : List α} (hm : a.eval m = .map (some b)) (h : SetAt P K okp kl w b S) (p : α) (hx : a.eval x = mk p) (hp : okp p)
    (hK : ∀ w', SetAt P K okp kl w' b (S.erase p) → w.grownBy w' (some b) → wpList P ops Q rest (a.put o.dst (.tuple #[])) w') : wpList P ops Q (o :: rest) a w := by
  obtain ⟨D, h3, h4, h5⟩ := h.data
  refine wpList_delete_own w hg m x t K hop e C.keyed ht unitElem b S.length D hm h3 (mk p) (kl p) hx (C.mkK p hp) fun w' h6 hturn => hK w' ?_ hturn.grown
  have hsz : Maps.size (D.del (kl p)) = (S.erase p).length := by
    have := Maps.size_del (h3.tidy C.keyed) (k := kl p)
    rw [h4 p hp, h5] at this
    rw [List.length_erase]
    by_cases hm : p ∈ S
    · have := List.length_pos_of_mem hm
      simp [hm] at *
      omega
    · simp [hm] at *
      omega
  refine ⟨h.nodup.erase p, fun q hq => h.ok q (List.mem_of_mem_erase hq), D.del (kl p), ?_, fun q hq => ?_, hsz⟩
  · obtain ⟨es, clock, hb, F, hs, hD'⟩ := h6
    refine ⟨es, clock, hb, F, ?_, hD'⟩
    rw [← hsz, hD']
    simp [Maps.size, length_sorted]
  · by_cases e : kl q = kl p
    · have := C.klinj hq hp e
      subst this
      rw [Maps.has_del_same]
      exact (decide_eq_false (fun hm => by rw [h.nodup.mem_erase_iff] at hm; exact hm.1 rfl)).symm
    · rw [Maps.has_del_other e, h4 q hq]
      refine decide_eq_decide.2 ?_
      rw [h.nodup.mem_erase_iff]
      exact ⟨fun h => ⟨fun e' => e (e' ▸ rfl), h⟩, fun h => h.2⟩

/-- 'len(s)'. -/
theorem wp_len (hg : o.guard = none) (m : Operand) (t : TypeId) (hop : o.op = Op.call { callee := Callee.builtin Builtin.len, args := #[m], argTypes := #[t] }) (e : TypeId) (ht : P.underlying t = some (.map K e))
    {b : Nat} {S : List α} (hm : a.eval m = .map (some b)) (h : SetAt P K okp kl w b S) (hK : wpList P ops Q rest (a.put o.dst (.int .i64 S.length)) w) : wpList P ops Q (o :: rest) a w := by
  obtain ⟨_, _, D, h3, h4, h5⟩ := h
  refine wpList_len_own w hg m t hop K e ht unitElem b S.length D hm h3 ?_
  rw [h5]; exact hK
end

/-- Block r goes over the set in block b; vs: those that have come. -/
structure RangeAt (P : Program) (K : TypeId) (okp : α → Prop) (kl : α → Lit) (w : World) (b r : Nat) (S vs : List α) : Prop where
  nodup : S.Nodup
  ok : ∀ p ∈ S, okp p
  nodupV : vs.Nodup
  sub : ∀ p ∈ vs, p ∈ S
  data : ∃ (D : DataW Unit) (left : Lit → Bool) (cnt : Nat), w.ranges P K unitElem b r S.length D left cnt ∧ (∀ p, okp p → Maps.has D (kl p) = decide (p ∈ S)) ∧ Maps.size D = S.length ∧ (∀ p, okp p → left (kl p) = decide (p ∈ S ∧ p ∉ vs))

theorem RangeAt.set {w : World} {b r : Nat} {S vs : List α} (h : RangeAt P K okp kl w b r S vs) : SetAt P K okp kl w b S := by
  obtain ⟨h1, h2, _, _, D, left, cnt, h3, h4, h5, _⟩ := h
  exact ⟨h1, h2, D, h3.owns, h4, h5⟩
theorem RangeAt.ne {w : World} {b r : Nat} {S vs : List α} (h : RangeAt P K okp kl w b r S vs) : r ≠ b := by
  obtain ⟨_, _, _, _, D, left, cnt, h3, _⟩ := h
  exact h3.ne
theorem RangeAt.lt {w : World} {b r : Nat} {S vs : List α} (h : RangeAt P K okp kl w b r S vs) : r < w.heap.size := by
  obtain ⟨_, _, _, _, D, left, cnt, h3, _⟩ := h
  exact h3.lt
theorem RangeAt.grown {w w' : World} {b r : Nat} {S vs : List α} {row : Option Nat} (h : RangeAt P K okp kl w b r S vs) (hg : w.grownBy w' row) (hb : some b ≠ row) (hr : some r ≠ row) : RangeAt P K okp kl w' b r S vs := by
  obtain ⟨h1, h2, h6, h7, D, left, cnt, h3, h4⟩ := h
  exact ⟨h1, h2, h6, h7, D, left, cnt, h3.kept hg hb hr, h4⟩
theorem RangeAt.below {w w' : World} {b r : Nat} {S vs : List α} (h : RangeAt P K okp kl w b r S vs) (hb : Below w.heap.size w w') : RangeAt P K okp kl w' b r S vs :=
  h.grown (grown_of_below hb none) (by simp) (by simp)
theorem RangeAt.alloc {w : World} {b r : Nat} {S vs : List α} (h : RangeAt P K okp kl w b r S vs) (o : Obj) : RangeAt P K okp kl (w.alloc o) b r S vs := h.below (below_alloc (Below.refl _ _) o)

section
variable (w : World) {ops : Array Oper} {rest : List Oper} {o : Oper} {a : Act} {Q : Exit → Act → World → Prop}

/-- 'range s'. -/
theorem wp_range (hg : o.guard = none) (m : Operand) (t : TypeId) (hop : o.op = Op.range t m) (e : TypeId) (C : KeyKind P K okp mk kl) (ht : P.underlying t = some (.map K e))
    {b : Nat} {S : List α} (hm : a.eval m = .map (some b)) (h : SetAt P K okp kl w b S)
    (hK : ∀ w', RangeAt P K okp kl w' b w.heap.size S [] → w.grownBy w' none → w'.heap.size = w.heap.size + 1 → wpList P ops Q rest (a.put o.dst (.pointer (some ⟨w.heap.size, 0, none⟩))) w') : wpList P ops Q (o :: rest) a w := by
  obtain ⟨D, h3, h4, h5⟩ := h.data
  refine wpList_range_own w hg m t hop K e C.keyed ht unitElem b S.length D hm h3 fun w' hr hgr hsz => hK w' ?_ hgr hsz
  exact ⟨h.nodup, h.ok, List.nodup_nil, by simp, D, Maps.has D, Maps.size D, hr, h4, h5, fun p hp => by rw [h4 p hp]; simp⟩

/-- The step: nothing is left, all have come; or one that had not come. -/
theorem wp_next (hg : o.guard = none) (it : Operand) (hop : o.op = Op.next it false) (C : KeyKind P K okp mk kl) {b r : Nat} {S vs : List α}
    (hit : a.eval it = .pointer (some ⟨r, 0, none⟩)) (h : RangeAt P K okp kl w b r S vs)
    (hDone : vs.Perm S → wpList P ops Q rest (a.put o.dst (.tuple #[.bool false])) w)
    (hMore : ∀ p w', p ∈ S → p ∉ vs → okp p → vs.length < S.length → RangeAt P K okp kl w' b r S (vs ++ [p]) → w.grownBy w' (some r) → w'.heap.size = w.heap.size →
      (Instr.entry (.pointer (some ⟨r, 0, none⟩))).run P w' = .ok (.tuple #[mk p, .agg #[]]) w' → wpList P ops Q rest (a.put o.dst (.tuple #[.bool true, mk p, .agg #[]])) w') : wpList P ops Q (o :: rest) a w := by
  obtain ⟨h1, h2, h6, h7, D, left, cnt, h3, h4, h5, h8⟩ := h
  refine wpList_next_ranges (α := α) (β := Unit) w hg it hop K C.keyed unitElem mk (fun _ => .agg #[]) (fun key l hk => by obtain ⟨p, _, rfl, _⟩ := C.invK key l hk; exact ⟨p, rfl⟩)
    (fun v y hv => by obtain ⟨rfl, _⟩ := unitElem_inv hv; exact ⟨(), rfl⟩) b r S.length D left cnt hit h3 (fun h0 hl => hDone ?_) (fun p _ l y w' cnt' hk hlk hv hat hr hlt hgr hsz hen => ?_)
  · refine (List.perm_ext_iff_of_nodup h6 h1).2 fun p => ⟨h7 p, fun hp => ?_⟩
    have := h8 p (h2 p hp)
    rw [hl] at this
    have h9 := of_decide_eq_false this.symm
    exact Classical.byContradiction fun hn => h9 ⟨hp, hn⟩
  · obtain ⟨q, hq, e1, e2⟩ := C.invK _ _ hk
    have := C.inj _ _ e1
    subst this
    subst e2
    rw [h8 p hq] at hlk
    obtain ⟨m1, m2⟩ := of_decide_eq_true hlk
    have hvs : (vs ++ [p]).Nodup := List.nodup_append.2 ⟨h6, by simp, fun x hx y hy e => by simp at hy; subst hy; subst e; exact m2 hx⟩
    have hsub : ∀ x ∈ vs ++ [p], x ∈ S := fun x hx => by
      rcases List.mem_append.1 hx with hx | hx
      · exact h7 x hx
      · simp at hx; subst hx; exact m1
    refine hMore p w' m1 m2 hq ?_ ⟨h1, h2, hvs, hsub, D, _, cnt', hr, h4, h5, fun x hx => ?_⟩ hgr hsz hen
    · have := len_sub _ _ hvs hsub
      simp at this; omega
    · rw [h8 x hx]
      by_cases e : x = p
      · subst e
        rw [WideAt.sameKey_self (C.isKey hx)]
        simp
      · have hne : kl x ≠ kl p := fun e' => e (C.klinj hx hq e')
        rw [Maps.sameKey_ne hne]
        simp [e]
end
end
end Go.Proofs.Ytomogkhdfaiekaa.HSet
end

section
namespace Go.Proofs.Ytomogkhdfaiekaa.PLin
open Go.Proofs.Ytomogkhdfaiekaa.HW Go.Proofs.Ytomogkhdfaiekaa.HSet Go.RowKit Go.Proofs.YtomogkhdfaiekaaW.PrintWords Go.Proofs.YtomogkhdfaiekaaW.PrintLast Go.Proofs.YtomogkhdfaiekaaW.PrintMore
set_option linter.unusedVariables false
set_option linter.unusedSimpArgs false

theorem S25.ext_iff' (a b : S25) : a = b ↔ a.f0 = b.f0 ∧ a.f1 = b.f1 := by
  cases a; cases b; simp
instance : DecidableEq S25 := fun a b => decidable_of_iff (a.f0 = b.f0 ∧ a.f1 = b.f1) (S25.ext_iff' a b).symm
instance : Inhabited S25 := ⟨⟨0, 0⟩⟩

def mkP (p : S25) : Value := .agg #[.int .i64 p.f0, .int .i64 p.f1]
def okP (p : S25) : Prop := (Lit.int .i64 p.f0).wf = true ∧ (Lit.int .i64 p.f1).wf = true
def klP (p : S25) : Lit := .string (keyBytes [.int .i64 p.f0, .int .i64 p.f1])

theorem laidOut : laidOutB Try.prog = true := by kernel_rfl
theorem row25 : (25 : TypeId) < Try.prog.types.size := of_decide_eq_true (by kernel_rfl)
set_option maxRecDepth 100000 in
theorem law25 : WideMaps.KeyLaw Try.prog 25 := deep_law_laid laidOut (m := 2) (by omega) row25 (by kernel_rfl) (by rw [Try.underlying25])
theorem keyType25 : Try.prog.keyType 25 = true := by kernel_rfl
theorem cells25 : Try.prog.cellsOf 25 = 2 := by kernel_rfl
theorem cells3 : Try.prog.cellsOf 3 = 1 := by kernel_rfl

theorem lits3 (d : Nat) (v : Value) : Try.prog.keyLits (d + 1) 3 [v] = (match v with | .int .i64 a => if (Lit.int .i64 a).wf = true then some [.int .i64 a] else none | _ => none) := by
  unfold Program.keyLits
  rw [Try.underlying3]
  cases v <;> simp
  rename_i q n
  cases q <;> simp

set_option maxRecDepth 100000 in
theorem lits25 (d : Nat) (x y : Value) : Try.prog.keyLits (d + 2) 25 [x, y] = (Try.prog.keyLits (d + 1) 3 [x]).bind fun a => (Try.prog.keyLits (d + 1) 3 [y]).bind fun b => some (a ++ b) := by
  generalize hA : Try.prog.keyLits (d + 1) 3 [x] = A
  generalize hB : Try.prog.keyLits (d + 1) 3 [y] = B
  unfold Program.keyLits
  rw [Try.underlying25]
  simp [cells25, cells3, hA, hB]
  cases A <;> cases B <;> simp

set_option maxRecDepth 100000 in
theorem size170 : ∃ d, Try.prog.types.size + 1 = d + 2 := ⟨Try.prog.types.size - 1, by have h : 25 < Try.prog.types.size := row25; omega⟩

set_option maxRecDepth 100000 in
theorem keyOf25 (v : Value) : keyOf Try.prog 25 v = if v.formed Try.prog 25 = true then (Try.prog.keyLits (Try.prog.types.size + 1) 25 v.cells.toList).map fun ls => .string (keyBytes ls) else none := by
  unfold keyOf
  rw [Try.underlying25]
  simp only [keyType25, Bool.true_and]

set_option maxRecDepth 100000 in
theorem formed25 (v : Value) : v.formed Try.prog 25 = true ↔ ∃ x y, v = .agg #[x, y] := by
  unfold Value.formed
  rw [Try.underlying25]
  cases v <;> simp [cells25]
  rename_i cs
  constructor
  · intro h
    match cs, h with
    | ⟨[x, y]⟩, _ => exact ⟨x, y, rfl⟩
  · rintro ⟨x, y, rfl⟩; rfl

theorem C25 : KeyKind Try.prog 25 okP mkP klP where
  keyed := Maps.Keyed.of_law law25
  mkK p h := by
    rw [keyOf25, if_pos ((formed25 (mkP p)).2 ⟨_, _, rfl⟩)]
    obtain ⟨d, hd⟩ := size170
    rw [hd]
    have e : (mkP p).cells.toList = [.int .i64 p.f0, .int .i64 p.f1] := rfl
    rw [e, lits25, lits3, lits3]
    simp only [h.1, h.2, if_true]
    rfl
  invK v l h := by
    rw [keyOf25] at h
    by_cases hf : v.formed Try.prog 25 = true
    case neg => rw [if_neg hf] at h; cases h
    rw [if_pos hf] at h
    obtain ⟨x, y, rfl⟩ := (formed25 _).1 hf
    obtain ⟨d, hd⟩ := size170
    have e : (Value.agg #[x, y]).cells.toList = [x, y] := rfl
    rw [hd, e, lits25, lits3, lits3] at h
    obtain ⟨a, rfl⟩ : ∃ a, x = .int .i64 a := by
      cases x <;> try (simp at h; done)
      rename_i q a
      cases q <;> first | exact ⟨_, rfl⟩ | (simp at h; done)
    obtain ⟨b, rfl⟩ : ∃ b, y = .int .i64 b := by
      cases y <;> try (simp [Option.bind_eq_some_iff] at h; done)
      rename_i q b
      cases q <;> first | exact ⟨_, rfl⟩ | (simp [Option.bind_eq_some_iff] at h; done)
    by_cases ha : (Lit.int .i64 a).wf = true <;> by_cases hb : (Lit.int .i64 b).wf = true <;> simp [ha, hb] at h
    exact ⟨⟨a, b⟩, ⟨ha, hb⟩, rfl, h.symm⟩
  inj p q h := by
    cases p; cases q
    simpa [mkP] using h

/-! Whole numbers (map[int]struct{}). -/
def mkI (p : Int) : Value := .int .i64 p
def okI (p : Int) : Prop := (Lit.int .i64 p).wf = true
def klI (p : Int) : Lit := .int .i64 p
theorem C3 : KeyKind Try.prog 3 okI mkI klI where
  keyed := Maps.int_keyed Try.underlying3
  mkK p h := Maps.keyOf_int_mk Try.underlying3 h
  invK v l h := by
    obtain ⟨x, rfl, rfl, hw⟩ := Maps.keyOf_int_inv Try.underlying3 h
    exact ⟨x, hw, rfl, rfl⟩
  inj p q h := by simpa [mkI] using h

theorem zero89 (w : World) : (zeroValue 89).run Try.prog w = .ok (.agg #[]) w := by kernel_rfl
theorem wf_i64 {a : Int} (h1 : -9223372036854775808 ≤ a) (h2 : a ≤ 9223372036854775807) : (Lit.int .i64 a).wf = true := by
  simp only [Lit.wf, Bool.and_eq_true, decide_eq_true_eq]
  exact ⟨h1, h2⟩
end Go.Proofs.Ytomogkhdfaiekaa.PLin
end
