/-
  linear's book of answers: stands' walk: all answers are what they must be; then each is written full with a mark of its own, then each is grown, and all marks are there.
-/
import Derived.Test.YtomogkhdfaiekaaHBook
import Derived.OwnWalk
import Derived.ArgAppend
namespace Go.Proofs.Ytomogkhdfaiekaa.PLin
open Go.Proofs.Ytomogkhdfaiekaa.HW Go.Proofs.Ytomogkhdfaiekaa.HSet Go.RowKit Go.Proofs.YtomogkhdfaiekaaW.PrintWords Go.Proofs.YtomogkhdfaiekaaW.PrintLast Go.Proofs.YtomogkhdfaiekaaW.PrintMore
set_option linter.unusedVariables false
set_option linter.unusedSimpArgs false

/-- The mark of an answer. -/
def mkS (i : Nat) : S25 := ⟨500 + (i : Int), 0⟩

theorem cellsP_set : ∀ (y : List S25) (j : Nat) (p : S25), cellsP (y.set j p) = ((cellsP y).set (j * 2) (.int .i64 p.f0)).set (j * 2 + 1) (.int .i64 p.f1)
  | [], j, p => rfl
  | a :: y, 0, p => rfl
  | a :: y, j + 1, p => by
    have e : ∀ (b : S25) (l : List S25), cellsP (b :: l) = .int .i64 b.f0 :: .int .i64 b.f1 :: cellsP l := fun _ _ => rfl
    rw [List.set_cons_succ, e, e, cellsP_set y j p, show (j + 1) * 2 = j * 2 + 1 + 1 by omega]; rfl

theorem quiet_drawn {P : Program} {f : FuncId} {args : Array Value} {w : World} {n : Nat} {v : Value} (h : ∀ W : World, (∃ m, W = w.drewN m) → Calls P f args W fun e w' => e = .returned v ∧ Drawn0 W w') :
    Calls P f args (w.drewN n) fun e w'' => e = .returned v ∧ ∃ m, w'' = w.drewN m :=
  (h _ ⟨n, rfl⟩).mono fun _ _ ⟨he, ⟨m, hm⟩⟩ => ⟨he, n + m, by rw [hm, World.drewN_drewN]⟩

/-- The book's answers, as its walk goes over them. -/
structure BV (w0 w : World) (bk gg cg : Nat) (vw : Value) (us : List Value) (ys : List (List S25)) : Prop where
  below : Below w0.heap.size w0 w
  lo : w0.heap.size ≤ bk
  blk : w.heap[bk]? = some (.cells #[.slice (some ⟨gg, 0, none⟩) us.length cg, vw, .bool false] 35 (0, 0))
  row : w.ownsRow w0.heap.size 23 1 (.slice (some ⟨gg, 0, none⟩) us.length cg) us.length us
  len : ys.length = us.length
  got : ∀ (i : Nat) (u : Value) (y : List S25), us[i]? = some u → ys[i]? = some y → O25 w w0.heap.size u y
  apart : ∀ (i j : Nat) (u v : Value), i < j → us[i]? = some u → us[j]? = some v → ∀ k, u.ownBlock = some k → v.ownBlock ≠ some k

section
variable {w0 w w' : World} {bk gg cg : Nat} {vw : Value} {us : List Value} {ys : List (List S25)}
theorem BV.keep (h : BV w0 w bk gg cg vw us ys) (hB : Below w0.heap.size w0 w') (hm : ∀ k, k < w.heap.size → k = bk ∨ k = gg ∨ (∃ u ∈ us, u.ownBlock = some k) → w'.heap[k]? = w.heap[k]?) : BV w0 w' bk gg cg vw us ys :=
  ⟨hB, h.lo, (hm bk (blk_lt h.blk) (.inl rfl)).trans h.blk, own_move h.row fun k hk => hm k (own_lt h.row k hk) (.inr (.inl (by injection hk with hk; exact hk.symm))), h.len,
    fun i u y hu hy => O25_move (h.got i u y hu hy) fun k hk => hm k (own_lt (h.got i u y hu hy) k hk) (.inr (.inr ⟨u, List.mem_of_getElem? hu, hk⟩)), h.apart⟩
theorem BV.move (h : BV w0 w bk gg cg vw us ys) (hb : Below w.heap.size w w') : BV w0 w' bk gg cg vw us ys := h.keep (below_then h.below h.below.size hb) fun k hk _ => hb.block k hk
theorem BV.drewN (h : BV w0 w bk gg cg vw us ys) (n : Nat) : BV w0 (w.drewN n) bk gg cg vw us ys := h.move (pw_below_drewN (Below.refl _ _) n)
theorem BV.typed (h : BV w0 w bk gg cg vw us ys) {i : Nat} {u : Value} (hu : us[i]? = some u) : ∃ y, ys[i]? = some y ∧ O25 w w0.heap.size u y := by
  have hi := (List.getElem?_eq_some_iff.1 hu).1
  have hy : ys[i]? = some (ys[i]'(by rw [h.len]; exact hi)) := List.getElem?_eq_getElem _
  exact ⟨_, hy, h.got i u _ hu hy⟩
theorem BV.reads (h : BV w0 w bk gg cg vw us ys) {i : Nat} (hi : i < us.length) : ∃ (y : List S25) (A : Option Addr) (c : Nat), ys[i]? = some y ∧ us[i]? = some (.slice A y.length c) ∧ w.cell? ⟨gg, i, none⟩ = some (.slice A y.length c) ∧ y.length ≤ c ∧ Kd.C k25 w A y.length y ∧ O25 w w0.heap.size (.slice A y.length c) y := by
  obtain ⟨y, hy, ho⟩ := h.typed (List.getElem?_eq_getElem hi)
  obtain ⟨A, c, e, hc, hC⟩ := O25_reads ho
  have hu : us[i]? = some (.slice A y.length c) := by rw [← e]; exact List.getElem?_eq_getElem hi
  exact ⟨y, A, c, hy, hu, (h.row.cellAt i (by omega)).trans hu, hc, hC, e ▸ ho⟩
end

/-- Which answers have been written over. -/
structure Marked (ys ys' : List (List S25)) (k j : Nat) : Prop where
  lens : ∀ (i : Nat) (y : List S25), ys'[i]? = some y → ∃ y0, ys[i]? = some y0 ∧ y.length = y0.length
  done : ∀ (i : Nat) (y : List S25), i < k → ys'[i]? = some y → y = List.replicate y.length (mkS i)
  part : ∀ y : List S25, ys'[k]? = some y → y.take j = (List.replicate y.length (mkS k)).take j
theorem Marked.start (ys : List (List S25)) : Marked ys ys 0 0 := ⟨fun i y h => ⟨y, h, rfl⟩, fun i y h => by omega, fun y _ => rfl⟩
theorem Marked.next {ys ys' : List (List S25)} {k j : Nat} (h : Marked ys ys' k j) (hj : ∀ y, ys'[k]? = some y → y.length ≤ j) : Marked ys ys' (k + 1) 0 := by
  refine ⟨h.lens, fun i y hi hy => ?_, fun y _ => rfl⟩
  by_cases e : i = k
  · subst e
    have := h.part y hy
    rwa [List.take_of_length_le (hj y hy), List.take_of_length_le (by rw [List.length_replicate]; exact hj y hy)] at this
  · exact h.done i y (by omega) hy
theorem Marked.set {ys ys' : List (List S25)} {k j : Nat} (h : Marked ys ys' k j) {y : List S25} (hy : ys'[k]? = some y) (hj : j < y.length) : Marked ys (ys'.set k (y.set j (mkS k))) k (j + 1) := by
  have hk := (List.getElem?_eq_some_iff.1 hy).1
  refine ⟨fun i z hz => ?_, fun i z hi hz => ?_, fun z hz => ?_⟩
  · rw [List.getElem?_set] at hz
    by_cases e : k = i
    · subst e
      rw [if_pos rfl, if_pos hk] at hz
      obtain rfl := Option.some.inj hz
      obtain ⟨y0, h0, h1⟩ := h.lens k y hy
      exact ⟨y0, h0, by rw [List.length_set]; exact h1⟩
    · rw [if_neg e] at hz; exact h.lens i z hz
  · rw [List.getElem?_set, if_neg (by omega)] at hz
    exact h.done i z hi hz
  · rw [List.getElem?_set, if_pos rfl, if_pos hk] at hz
    obtain rfl := Option.some.inj hz
    have hp := h.part y hy
    rw [List.length_set]
    rw [List.take_succ_eq_append_getElem (by rw [List.length_set]; exact hj), List.take_succ_eq_append_getElem (by rw [List.length_replicate]; exact hj), List.take_set_of_le (by omega), hp]
    simp

section
variable {w0 w w' : World} {bk gg cg : Nat} {vw : Value} {us : List Value} {ys : List (List S25)}
/-- A store into an answer. -/
theorem BV.set (h : BV w0 w bk gg cg vw us ys) {k g c : Nat} {y : List S25} (hu : us[k]? = some (.slice (some ⟨g, 0, none⟩) y.length c)) (hy : ys[k]? = some y) (j : Nat) (p : S25) :
    BV w0 ((w.setCell ⟨g, j * 2, none⟩ (.int .i64 p.f0)).setCell ⟨g, j * 2 + 1, none⟩ (.int .i64 p.f1)) bk gg cg vw us (ys.set k (y.set j p)) := by
  have ho := h.got k _ y hu hy
  have hbase : w0.heap.size ≤ g := own_base ho g rfl
  have hn1 : bk ≠ g := fun e => own_ne ho h.blk (by decide) (by rw [e]; rfl)
  have hn2 : gg ≠ g := fun e => by
    obtain ⟨cs, hc⟩ := own_typed h.row gg rfl
    exact own_ne ho hc (by decide) (by rw [e]; rfl)
  have hm : ∀ k', k' ≠ g → ((w.setCell ⟨g, j * 2, none⟩ (.int .i64 p.f0)).setCell ⟨g, j * 2 + 1, none⟩ (.int .i64 p.f1)).heap[k']? = w.heap[k']? := fun k' hk' => (Below.heap_setCell _ ⟨g, j * 2 + 1, none⟩ _ k' hk').trans (Below.heap_setCell w ⟨g, j * 2, none⟩ _ k' hk')
  have hk := (List.getElem?_eq_some_iff.1 hy).1
  refine ⟨below_set (below_set h.below hbase) hbase, h.lo, (hm bk hn1).trans h.blk, own_move h.row fun k' hk' => hm k' (by injection hk' with hk'; intro e; exact hn2 (hk'.trans e)), by rw [List.length_set]; exact h.len, fun i u z hu' hz => ?_, h.apart⟩
  rw [List.getElem?_set] at hz
  by_cases e : k = i
  · subst e
    rw [if_pos rfl, if_pos hk] at hz
    obtain rfl := Option.some.inj hz
    obtain rfl := Option.some.inj (hu.symm.trans hu')
    have h1 := (((ho.stored (j * 2) (.int .i64 p.f0)).1).stored (j * 2 + 1) (.int .i64 p.f1)).1
    show World.ownsRow _ _ 25 2 _ (y.set j p).length (cellsP (y.set j p))
    rw [cellsP_set, List.length_set]
    exact h1
  · rw [if_neg e] at hz
    have hi := h.got i u z hu' hz
    refine O25_move hi fun k' hk' => hm k' fun e' => ?_
    subst e'
    rcases Nat.lt_or_ge k i with hlt | hge
    · exact h.apart k i _ _ hlt hu hu' k' rfl hk'
    · exact h.apart i k _ _ (by omega) hu' hu k' hk' rfl
end

section
variable {w0 w w' : World} {bk gg cg : Nat} {vw : Value} {us : List Value} {ys : List (List S25)}
/-- A row of places has been written, no answer's, or an answer's that reads as it did. -/
theorem BV.grow (h : BV w0 w bk gg cg vw us ys) {row : Option Nat} (hg : w.grownBy w' row) (hB : Below w0.heap.size w0 w') (h1 : some bk ≠ row) (h2 : some gg ≠ row)
    (h3 : ∀ (i : Nat) (u : Value) (y : List S25), us[i]? = some u → ys[i]? = some y → ∀ g, row = some g → u.ownBlock = some g → O25 w' w0.heap.size u y) : BV w0 w' bk gg cg vw us ys := by
  refine ⟨hB, h.lo, blk_grown h.blk hg h1, own_move h.row fun k hk => hg.block k (own_lt h.row k hk) (by injection hk with hk; rw [← hk]; exact h2), h.len, fun i u y hu hy => ?_, h.apart⟩
  have ho := h.got i u y hu hy
  by_cases e : ∃ g, row = some g ∧ u.ownBlock = some g
  · obtain ⟨g, e1, e2⟩ := e
    exact h3 i u y hu hy g e1 e2
  · exact O25_move ho fun k hk => hg.block k (own_lt ho k hk) fun e' => e ⟨k, e'.symm, hk⟩

/-- The answers that have been grown. -/
structure More (w0 w : World) (gg : Nat) (us : List Value) (zs : List (List S25)) (v : Value) (vs : List Value) : Prop where
  row : w.ownsRow w0.heap.size 23 1 v vs.length vs
  ne : ∀ b, v.ownBlock = some b → b ≠ gg
  got : ∀ (i : Nat) (u : Value), vs[i]? = some u → ∃ z, zs[i]? = some z ∧ O25 w w0.heap.size u (z ++ List.replicate 70 (mkS i))
  link : ∀ (i : Nat) (u' u : Value), vs[i]? = some u' → us[i]? = some u → ∀ b, u'.ownBlock = some b → u.ownBlock = some b ∨ ∀ u2 ∈ us, u2.ownBlock ≠ some b

theorem More.grow {zs : List (List S25)} {v : Value} {vs : List Value} (h : More w0 w gg us zs v vs) {row : Option Nat} (hg : w.grownBy w' row) (h1 : ∀ b, v.ownBlock = some b → some b ≠ row) (h2 : ∀ u ∈ vs, ∀ b, u.ownBlock = some b → some b ≠ row) : More w0 w' gg us zs v vs :=
  ⟨own_move h.row fun k hk => hg.block k (own_lt h.row k hk) (h1 k hk), h.ne, fun i u hu => by
    obtain ⟨z, hz, ho⟩ := h.got i u hu
    exact ⟨z, hz, O25_move ho fun k hk => hg.block k (own_lt ho k hk) (h2 u (List.mem_of_getElem? hu) k hk)⟩, h.link⟩

theorem O25_shrink {base g n m c : Nat} {y z : List S25} (h : O25 w base (.slice (some ⟨g, 0, none⟩) m c) (y ++ z)) (hm : m = (y ++ z).length) (hn : n = y.length) : O25 w base (.slice (some ⟨g, 0, none⟩) n c) y := by
  subst hn hm
  obtain ⟨h1, h2⟩ := h
  refine ⟨cellsP_length y, ?_⟩
  rcases h2 with ⟨e, _⟩ | ⟨g', cap, cur, e, hb, hh, hle, hcm, hcs, ht⟩
  · cases e
  · injection e with e1 e2 e3
    subst e3
    refine .inr ⟨g', c, cur, by rw [e1], hb, hh, by rw [List.length_append] at hle; omega, hcm, hcs, ?_⟩
    have h3 := congrArg (List.take (y.length * 2)) ht
    rw [List.take_take, cellsP_append, List.take_append_of_le_length (by rw [cellsP_length]; omega), List.take_of_length_le (l := cellsP y) (by rw [cellsP_length]; omega), Nat.min_eq_left (by rw [List.length_append]; omega)] at h3
    exact h3
end

theorem rd_rep (n k : Nat) (j : Int) (h : 0 ≤ j ∧ j < n) : rd_T25 (List.replicate n (mkS k)) j = mkS k := by
  unfold rd_T25
  rw [List.getD_eq_getElem?_getD, List.getElem?_replicate, if_pos (by omega)]; rfl

theorem single_some {α : Type} {a b : α} {i : Nat} (h : [a][i]? = some b) : i = 0 ∧ b = a := by
  match i, h with
  | 0, h => exact ⟨rfl, (Option.some.inj h).symm⟩
  | i + 1, h => simp at h

/-- An answer that is being grown. -/
structure GR (w0 w : World) (us vs : List Value) (u : Value) (y : List S25) (k m : Nat) (l : Value) : Prop where
  own : O25 w w0.heap.size l (y ++ List.replicate m (mkS k))
  link : (∃ (A : Option Addr) (c : Nat), u = .slice A y.length c ∧ l = .slice A (y.length + m) c) ∨ ∀ b, l.ownBlock = some b → ∀ u2 ∈ us, u2.ownBlock ≠ some b
  apart : ∀ u' ∈ vs, ∀ b, l.ownBlock = some b → u'.ownBlock ≠ some b

section
variable {w0 W w' : World} {bk gg cg : Nat} {vw v : Value} {us vs : List Value} {zs : List (List S25)} {u l : Value} {y : List S25} {k m : Nat}
theorem GR.move {w : World} (h : GR w0 w us vs u y k m l) (hb : Below w.heap.size w W) : GR w0 W us vs u y k m l := ⟨O25_below h.own hb, h.link, h.apart⟩
theorem More.move {w : World} (h : More w0 w gg us zs v vs) (hb : Below w.heap.size w W) : More w0 W gg us zs v vs := h.grow (grown_of_below hb none) (fun _ _ => by simp) (fun _ _ _ _ => by simp)

theorem rep_succ (y : List S25) (m k : Nat) : y ++ List.replicate (m + 1) (mkS k) = (y ++ List.replicate m (mkS k)) ++ [mkS k] := by rw [List.replicate_succ', List.append_assoc]

theorem step_fits (hV : BV w0 W bk gg cg vw us zs) (hM : More w0 W gg us zs v vs) {g c : Nat} (hG : GR w0 W us vs u y k m (.slice (some ⟨g, 0, none⟩) (y.length + m) c)) (hu : us[k]? = some u) (hy : zs[k]? = some y)
    (ho : w'.ownsRow w0.heap.size 25 2 (.slice (some ⟨g, 0, none⟩) (y.length + m + 1) c) (y.length + m + 1) (cellsP (y ++ List.replicate m (mkS k)) ++ cellsP [mkS k])) (hg : W.grownBy w' (some g)) :
    BV w0 w' bk gg cg vw us zs ∧ More w0 w' gg us zs v vs ∧ GR w0 w' us vs u y k (m + 1) (.slice (some ⟨g, 0, none⟩) (y.length + (m + 1)) c) := by
  have hgb : w0.heap.size ≤ g := own_base ho g rfl
  have ho' : O25 w' w0.heap.size (.slice (some ⟨g, 0, none⟩) (y.length + (m + 1)) c) (y ++ List.replicate (m + 1) (mkS k)) := by
    have e : (y ++ List.replicate (m + 1) (mkS k)).length = y.length + m + 1 := by simp; omega
    show World.ownsRow _ _ 25 2 _ (y ++ List.replicate (m + 1) (mkS k)).length (cellsP (y ++ List.replicate (m + 1) (mkS k)))
    rw [e, rep_succ, cellsP_append]
    exact ho
  have hbk : some bk ≠ some g := fun e => own_ne hG.own hV.blk (by decide) (by rw [e]; rfl)
  obtain ⟨cs, hcs⟩ := own_typed hV.row gg rfl
  have hgg : some gg ≠ some g := fun e => own_ne hG.own hcs (by decide) (by rw [e]; rfl)
  refine ⟨hV.grow hg (hV.below.grown hg hV.below.size (fun j e => by cases e; exact hgb)) hbk hgg fun i u1 y1 hu1 hy1 g1 e1 e2 => ?_, hM.grow hg (fun b hb e => ?_) (fun u1 hu1 b hb e => ?_), ⟨ho', ?_, hG.apart⟩⟩
  · injection e1 with e1
    subst e1
    have hik : i = k := by
      rcases hG.link with ⟨A, c2, h1, h2⟩ | h
      · injection h2 with h2 _ h3
        have hku : u.ownBlock = some g := by rw [h1, ← h2]; rfl
        rcases Nat.lt_trichotomy i k with h | h | h
        · exact absurd hku (hV.apart i k u1 u h hu1 hu g e2)
        · exact h
        · exact absurd e2 (hV.apart k i u u1 h hu hu1 g hku)
      · exact absurd e2 (h g rfl u1 (List.mem_of_getElem? hu1))
    subst hik
    obtain rfl := Option.some.inj (hu.symm.trans hu1)
    obtain rfl := Option.some.inj (hy.symm.trans hy1)
    rcases hG.link with ⟨A, c2, h1, h2⟩ | h
    · injection h2 with h2 _ h3
      rw [h1, ← h2, ← h3]
      exact O25_shrink ho' (by simp) rfl
    · exact absurd e2 (h g rfl u (List.mem_of_getElem? hu))
  · injection e with e
    subst e
    obtain ⟨cs1, hc1⟩ := own_typed hM.row b hb
    exact own_ne hG.own hc1 (by decide) rfl
  · injection e with e
    subst e
    exact hG.apart u1 hu1 b rfl hb
  · rcases hG.link with ⟨A, c2, h1, h2⟩ | h
    · injection h2 with h2 _ h3
      exact .inl ⟨some ⟨g, 0, none⟩, c, by rw [h1, h2, h3], rfl⟩
    · exact .inr fun b hb => h b hb

theorem step_grows (hV : BV w0 W bk gg cg vw us zs) (hM : More w0 W gg us zs v vs) {v1 : Value}
    (ho : w'.ownsRow W.heap.size 25 2 v1 (y.length + m + 1) (cellsP (y ++ List.replicate m (mkS k)) ++ cellsP [mkS k])) (hg : W.grownBy w' none) :
    BV w0 w' bk gg cg vw us zs ∧ More w0 w' gg us zs v vs ∧ GR w0 w' us vs u y k (m + 1) v1 := by
  have ho' : O25 w' w0.heap.size v1 (y ++ List.replicate (m + 1) (mkS k)) := by
    have e : (y ++ List.replicate (m + 1) (mkS k)).length = y.length + m + 1 := by simp; omega
    show World.ownsRow _ _ 25 2 _ (y ++ List.replicate (m + 1) (mkS k)).length (cellsP (y ++ List.replicate (m + 1) (mkS k)))
    rw [e, rep_succ, cellsP_append]
    exact own_weaken ho hV.below.size
  refine ⟨hV.grow hg (hV.below.grown hg hV.below.size (fun j e => by cases e)) (by simp) (by simp) (fun i u1 y1 hu1 hy1 g1 e1 e2 => by cases e1), hM.grow hg (fun _ _ => by simp) (fun _ _ _ _ => by simp), ⟨ho', .inr fun b hb u2 hu2 e => ?_, fun u' hu' b hb e => ?_⟩⟩
  · obtain ⟨i, hi⟩ := List.getElem?_of_mem hu2
    obtain ⟨y2, _, ho2⟩ := hV.typed hi
    have h1 := own_lt ho2 b e
    have h2 := own_base ho b hb
    omega
  · obtain ⟨i, hi⟩ := List.getElem?_of_mem hu'
    obtain ⟨z, _, ho2⟩ := hM.got i u' hi
    have h1 := own_lt ho2 b e
    have h2 := own_base ho b hb
    omega

theorem GR.start (hV : BV w0 W bk gg cg vw us zs) (hM : More w0 W gg us zs v vs) (hk : vs.length = k) (hu : us[k]? = some u) (hy : zs[k]? = some y) : GR w0 W us vs u y k 0 u := by
  have ho := hV.got k u y hu hy
  obtain ⟨A, c, e, _, _⟩ := O25_reads ho
  refine ⟨by rw [List.replicate_zero, List.append_nil]; exact ho, .inl ⟨A, c, e, by rw [Nat.add_zero]; exact e⟩, fun u' hu' b hb hb' => ?_⟩
  obtain ⟨i, hi⟩ := List.getElem?_of_mem hu'
  have hik : i < k := by have := (List.getElem?_eq_some_iff.1 hi).1; omega
  have hkl := (List.getElem?_eq_some_iff.1 hu).1
  have hui : us[i]? = some (us[i]'(by omega)) := List.getElem?_eq_getElem _
  rcases hM.link i u' _ hi hui b hb' with h | h
  · exact hV.apart i k _ u hik hui hu b h hb
  · exact h u (List.mem_of_getElem? hu) hb

/-- One answer more has been grown. -/
theorem More.snoc (hV : BV w0 W bk gg cg vw us zs) (hM : More w0 W gg us zs v vs) (hG : GR w0 W us vs u y k 70 l) (hk : vs.length = k) (hu : us[k]? = some u) (hy : zs[k]? = some y) {v1 : Value}
    (ho : w'.ownsRow w0.heap.size 23 1 v1 (vs.length + 1) (vs ++ [l])) (hB : Below w0.heap.size w0 w') (hg : W.grownBy w' v.ownBlock) (hat : v1.ownBlock = v.ownBlock ∨ ∃ b, v1.ownBlock = some b ∧ W.heap.size ≤ b) :
    BV w0 w' bk gg cg vw us zs ∧ More w0 w' gg us zs v1 (vs ++ [l]) := by
  have t25 : ∀ {x : Value} {z : List S25}, O25 W w0.heap.size x z → ∀ b, x.ownBlock = some b → some b ≠ v.ownBlock := fun hx b hb => by
    obtain ⟨cs, hc⟩ := own_typed hx b hb
    exact own_ne hM.row hc (by decide)
  refine ⟨hV.grow hg hB (fun e => own_ne hM.row hV.blk (by decide) e) (fun e => hM.ne gg e.symm rfl) fun i u1 y1 hu1 hy1 g1 e1 e2 => absurd e1.symm (t25 (hV.got i u1 y1 hu1 hy1) g1 e2), ⟨by simpa using ho, fun b hb e => ?_, fun i u1 hu1 => ?_, fun i u1 u2 hu1 hu2 b hb => ?_⟩⟩
  · rcases hat with h | ⟨b', h, hb'⟩
    · exact hM.ne b (by rw [← h]; exact hb) e
    · rw [hb] at h
      injection h with h
      have := own_lt hV.row gg rfl
      omega
  · rcases Nat.lt_or_ge i vs.length with hlt | hge
    · rw [List.getElem?_append_left hlt] at hu1
      obtain ⟨z, hz, hoz⟩ := hM.got i u1 hu1
      exact ⟨z, hz, O25_move hoz fun b hb => hg.block b (own_lt hoz b hb) (t25 hoz b hb)⟩
    · rw [List.getElem?_append_right hge] at hu1
      obtain ⟨e, h1⟩ := single_some hu1
      subst h1
      have : i = k := by omega
      subst this
      exact ⟨y, hy, O25_move hG.own fun b hb => hg.block b (own_lt hG.own b hb) (t25 hG.own b hb)⟩
  · rcases Nat.lt_or_ge i vs.length with hlt | hge
    · rw [List.getElem?_append_left hlt] at hu1
      exact hM.link i u1 u2 hu1 hu2 b hb
    · rw [List.getElem?_append_right hge] at hu1
      obtain ⟨e, h1⟩ := single_some hu1
      subst h1
      have : i = k := by omega
      subst this
      rcases hG.link with ⟨A, c, h2, h3⟩ | h
      · obtain rfl := Option.some.inj (hu.symm.trans hu2)
        rw [h3] at hb
        rw [h2]
        exact .inl (by cases A <;> exact hb)
      · exact .inr (h b hb)
end

set_option maxHeartbeats 2000000 in
set_option maxRecDepth 100000 in
theorem stands_walk (w0 w : World) (bk : Nat) (es : List Ent) (hB : Book w0 w bk es) (hn : 0 < es.length) (hl : es.length ≤ 1000) (hx : ∀ e ∈ es, e.xs.length ≤ 1000000000) :
    Calls Try.prog 22 #[.pointer (some ⟨bk, 0, none⟩)] w fun e w' => e = .returned (.bool true) ∧ Below w0.heap.size w0 w' := by
  obtain ⟨vg, vw, hbk, hvg, hvw, hgw⟩ := hB.data
  obtain ⟨gg, cg, e, _, _⟩ := hvg.form hn
  subst e
  obtain ⟨gw, cw, e, _, _⟩ := hvw.form hn
  subst e
  obtain ⟨us, hus⟩ : ∃ us, es.map Ent.u = us := ⟨_, rfl⟩
  obtain ⟨ts, hts⟩ : ∃ ts, es.map Ent.t = ts := ⟨_, rfl⟩
  obtain ⟨ys, hys⟩ : ∃ ys, es.map Ent.xs = ys := ⟨_, rfl⟩
  have hul : es.length = us.length := by rw [← hus, List.length_map]
  have htl : ts.length = us.length := by rw [← hus, ← hts, List.length_map, List.length_map]
  have hyl : ys.length = us.length := by rw [← hus, ← hys, List.length_map, List.length_map]
  have hV : BV w0 w bk gg cg (.slice (some ⟨gw, 0, none⟩) us.length cw) us ys := by
    refine ⟨hB.below, hB.lo, by rw [← hul]; exact hbk, by rw [← hul, ← hus]; exact hvg, hyl, fun i u y hu hy => ?_, fun i j u v hij hu hv => ?_⟩
    · rw [← hus, List.getElem?_map] at hu
      rw [← hys, List.getElem?_map] at hy
      obtain ⟨e, he, rfl⟩ := Option.map_eq_some_iff.1 hu
      rw [he] at hy
      obtain rfl := Option.some.inj hy
      exact hB.got e (List.mem_of_getElem? he)
    · rw [← hus, List.getElem?_map] at hu hv
      obtain ⟨e, he, rfl⟩ := Option.map_eq_some_iff.1 hu
      obtain ⟨f, hf, rfl⟩ := Option.map_eq_some_iff.1 hv
      obtain ⟨h1, e1⟩ := List.getElem?_eq_some_iff.1 he
      obtain ⟨h2, e2⟩ := List.getElem?_eq_some_iff.1 hf
      have := List.pairwise_iff_getElem.1 hB.apart i j h1 h2 hij
      rw [e1, e2] at this
      exact this
  have hT : ∀ i, i < us.length → ∃ (y : List S25) (A : Option Addr) (c : Nat), ys[i]? = some y ∧ w.cell? ⟨gw, i, none⟩ = some (.slice A y.length c) ∧ y.length ≤ c ∧ Kd.C k25 w A y.length y := fun i hi => by
    have hi' : i < es.length := by omega
    obtain ⟨A, c, e, hc, hC⟩ := O25_reads (hB.want es[i] (List.getElem_mem hi'))
    refine ⟨es[i].xs, A, c, by rw [← hys, List.getElem?_map, List.getElem?_eq_getElem hi']; rfl, (hvw.cellAt i (by omega)).trans ?_, hc, hC⟩
    rw [List.getElem?_map, List.getElem?_eq_getElem hi', ← e]; rfl
  have hyx : ∀ y ∈ ys, y.length ≤ 1000000000 := fun y hy => by
    rw [← hys] at hy
    obtain ⟨e, he, rfl⟩ := List.mem_map.1 hy
    exact hx e he
  have hs : ∀ y ∈ ys, vivariumlaw17_same.f 1000000001 y y = some true := fun y hy => by
    have := hyx y hy
    have := same_eq (l := y) (m := y) (k := 1000000001) (by omega) (by omega)
    rwa [decide_eq_true rfl] at this
  rw [hul] at hn hl
  have HV := Aside0.mk hV; have HT := Aside0.mk hT; have HY := Aside0.mk hyx; have HS := Aside0.mk hs
  clear hB hbk hvg hvw hgw hV hT hyx hs hx hus hts hys hul htl hyl
  have k0 := blk_cell HV.out.blk 0; have k1 := blk_cell HV.out.blk 1; have k2 := blk_cell HV.out.blk 2
  simp at k0 k1 k2
  obtain ⟨i25, hi25, hz25, hs25, hb25⟩ := info_parts info25
  go_enter Try.func22, Try.ntmps22
  go_wp2_with fail
  go_loopw [3] (fun i wr => ∃ (k nd : Nat), k ≤ us.length ∧ i = .int .i64 k ∧ wr = w.drewN nd) (fun i _ => us.length - (intOf i).toNat)
  case atStart => exact ⟨0, 0, Nat.zero_le _, rfl, rfl⟩
  case round =>
    obtain ⟨k, nd, hk, rfl, hwr⟩ := hrel
    obtain ⟨wo, ewo⟩ : ∃ wo : World, wo = wr := ⟨_, rfl⟩
    have HV1 := Aside0.mk (show BV w0 wo bk gg cg (.slice (some ⟨gw, 0, none⟩) us.length cw) us ys from by rw [ewo, hwr]; exact HV.out.drewN nd)
    have HT1 := Aside0.mk (show ∀ i, i < us.length → ∃ (y : List S25) (A : Option Addr) (c : Nat), ys[i]? = some y ∧ wo.cell? ⟨gw, i, none⟩ = some (.slice A y.length c) ∧ y.length ≤ c ∧ Kd.C k25 wo A y.length y from by rw [ewo, hwr]; exact HT.out)
    have HW1 := Aside0.mk (show ∃ m, wo = w.drewN m from ⟨nd, ewo.trans hwr⟩)
    subst ewo
    clear hwr k0 k1 k2
    have k0 := blk_cell HV1.out.blk 0; have k1 := blk_cell HV1.out.blk 1; have k2 := blk_cell HV1.out.blk 2
    simp at k0 k1 k2
    by_cases hlt : k < us.length
    · obtain ⟨y, A, c, hy, hu, hc, hle, hC, _⟩ := HV1.out.reads hlt
      obtain ⟨y', A', c', hy', hc', hle', hC'⟩ := HT1.out k hlt
      obtain rfl : y = y' := Option.some.inj (hy.symm.trans hy')
      have hcw : wo.cell? ⟨gg, k, none⟩ = some (.slice A y.length c) := hc
      have HSy := Aside0.mk (HS.out y (List.mem_of_getElem? hy))
      have HC := Aside0.mk hC; have HC' := Aside0.mk hC'
      have hlt' : (k : Int) < (us.length : Int) := by omega
      have hk0 : (0 : Int) ≤ (k : Int) := by omega
      clear hy hy' hu hc hC hC'
      go_wp2_with fail
      go_quiet ((go_at_call 38; exact quiet_drawn (fun W ⟨m, hW⟩ => hW ▸ vivariumlaw17_same.calls 1000000001 A c y A' c' y true _ (Kd.C_drewN HC.out _) hle (Kd.C_drewN HC'.out _) hle' HSy.out)))
      go_wp2
      go_roundw
      case rel => exact (by obtain ⟨m, hm⟩ := HW1.out; exact ⟨k + 1, _, by omega, by go_num, by rw [hm, World.drewN_drewN]⟩)
      case measure => simp [intOf]; omega
    · have HM0 := Aside0.mk (Marked.start ys)
      clear HT1 HT HS
      go_wp2_with fail
      go_loopw [5] (fun i wr => ∃ (k : Nat) (ys' : List (List S25)), k ≤ us.length ∧ i = .int .i64 k ∧ BV w0 wr bk gg cg (.slice (some ⟨gw, 0, none⟩) us.length cw) us ys' ∧ Marked ys ys' k 0) (fun i _ => us.length - (intOf i).toNat)
      case atStart => exact ⟨0, ys, Nat.zero_le _, rfl, HV1.out, HM0.out⟩
      case round =>
        clear HM0 HV1 HW1 hlt hk k0 k1 k2
        obtain ⟨k, ys', hk, rfl, hv, hm⟩ := hrel
        obtain ⟨w1, e1⟩ : ∃ w1 : World, w1 = wr := ⟨_, rfl⟩
        subst e1
        have HV1 := Aside0.mk hv; have HM := Aside0.mk hm
        clear hv hm
        have k0 := blk_cell HV1.out.blk 0; have k1 := blk_cell HV1.out.blk 1; have k2 := blk_cell HV1.out.blk 2
        simp at k0 k1 k2
        by_cases hlt : k < us.length
        · obtain ⟨y0, A, c, hy, hu, hc, hle, hC, ho⟩ := HV1.out.reads hlt
          obtain ⟨n, hn'⟩ : ∃ n, y0.length = n := ⟨_, rfl⟩
          rw [hn'] at hu
          have hn2 : n ≤ 1000000000 := by
            obtain ⟨z, hz, e⟩ := HM.out.lens k y0 hy
            have := HY.out z (List.mem_of_getElem? hz)
            omega
          have HU := Aside0.mk hu
          have HN := Aside0.mk (show ∀ y, ys'[k]? = some y → y.length = n from fun y h => by rw [hy] at h; rw [← Option.some.inj h]; exact hn')
          clear hy hu hc hle hC ho hn'
          have hlt' : (k : Int) < (us.length : Int) := by omega
          have hk0 : (0 : Int) ≤ (k : Int) := by omega
          go_wp2_with fail
          go_loopw [6] (fun i wr => ∃ (j : Nat) (ys' : List (List S25)), j ≤ n ∧ i = .int .i64 j ∧ BV w0 wr bk gg cg (.slice (some ⟨gw, 0, none⟩) us.length cw) us ys' ∧ Marked ys ys' k j ∧ ∀ y, ys'[k]? = some y → y.length = n) (fun i _ => n - (intOf i).toNat)
          case atStart => exact ⟨0, ys', Nat.zero_le _, rfl, HV1.out, HM.out, HN.out⟩
          case round =>
            clear HV1 HM HN k0 k1 k2
            obtain ⟨j, ys', hj, rfl, hv, hm, hnn⟩ := hrel
            obtain ⟨w2, e1⟩ : ∃ w2 : World, w2 = wr := ⟨_, rfl⟩
            subst e1
            have HV2 := Aside0.mk hv; have HM := Aside0.mk hm; have HN := Aside0.mk hnn
            clear hv hm hnn
            have k0 := blk_cell HV2.out.blk 0; have k1 := blk_cell HV2.out.blk 1; have k2 := blk_cell HV2.out.blk 2
            simp at k0 k1 k2
            have hc : w2.cell? ⟨gg, k, none⟩ = some (.slice A n c) := (HV2.out.row.cellAt k (by omega)).trans HU.out
            by_cases hjn : j < n
            · obtain ⟨y, hy, ho⟩ := HV2.out.typed HU.out
              have hyn := HN.out y hy
              obtain ⟨g, c', eA, _, hgl⟩ := ho.form (by omega)
              rw [hyn] at eA
              injection eA with eA _ ec
              subst eA
              have ho' := ho
              rw [show O25 w2 w0.heap.size (.slice (some ⟨g, 0, none⟩) n c) y = O25 w2 w0.heap.size (.slice (some ⟨g, 0, none⟩) y.length c) y from by rw [hyn]] at ho'
              obtain ⟨q, hq⟩ : ∃ q, y[j]? = some q := ⟨_, List.getElem?_eq_getElem (by omega)⟩
              obtain ⟨d0, d1⟩ := cellsP_get y j q hq
              have e0 := (ho'.cellAt (j * 2) (by omega)).trans d0
              have e1 := (ho'.cellAt (j * 2 + 1) (by omega)).trans d1
              have f0 := ho'.frozenAt (j * 2)
              have f1 := ho'.frozenAt (j * 2 + 1)
              have HY2 := Aside0.mk hy
              have hyl : j < y.length := by omega
              have HYN := Aside0.mk hyn
              clear ho ho' d0 d1 hy hyn ec hq
              have hj' : (j : Int) < (n : Int) := by omega
              have hj0 : (0 : Int) ≤ (j : Int) := by omega
              go_wp2_with fail
              go_roundw
              case rel =>
                have hu' := HU.out
                rw [← HYN.out] at hu'
                refine ⟨j + 1, ys'.set k (y.set j (mkS k)), by omega, by go_num, HV2.out.set hu' HY2.out j (mkS k), HM.out.set HY2.out hyl, fun z hz => ?_⟩
                rw [List.getElem?_set, if_pos rfl, if_pos (List.getElem?_eq_some_iff.1 HY2.out).1] at hz
                rw [← Option.some.inj hz, List.length_set]
                exact HYN.out
              case measure => simp [intOf]; omega
            · obtain rfl : j = n := by omega
              have HM1 := Aside0.mk (HM.out.next fun y hy => Nat.le_of_eq (HN.out y hy))
              clear HM HN
              go_wp2_with fail
              go_roundw
              case rel => exact ⟨k + 1, ys', by omega, by go_num, HV2.out, HM1.out⟩
              case measure => simp [intOf]; omega
        · obtain rfl : k = us.length := by omega
          clear hlt hk
          go_wp2_with fail
          have HZ := Aside0.mk (show ∀ (i : Nat) (y : List S25), ys'[i]? = some y → y = List.replicate y.length (mkS i) ∧ y.length ≤ 1000000000 from fun i y hy => by
            have hi : i < us.length := by have := (List.getElem?_eq_some_iff.1 hy).1; have := HV1.out.len; omega
            obtain ⟨z, hz, e⟩ := HM.out.lens i y hy
            have := HY.out z (List.mem_of_getElem? hz)
            exact ⟨HM.out.done i y hi hy, by omega⟩)
          have HMo0 := Aside0.mk (show More w0 w1 gg us ys' (.slice none 0 0) [] from ⟨own_nil _ _ _ _, fun b hb => by simp [Value.ownBlock] at hb, fun i u hu => by simp at hu, fun i u u' hu => by simp at hu⟩)
          clear HM HY
          generalize ys' = zs at *
          go_loopw [7, 8] (fun v i wr => ∃ (k : Nat) (vv : Value) (vs : List Value), k ≤ us.length ∧ vv = v ∧ i = .int .i64 k ∧ vs.length = k ∧ BV w0 wr bk gg cg (.slice (some ⟨gw, 0, none⟩) us.length cw) us zs ∧ More w0 wr gg us zs vv vs) (fun _ i _ => us.length - (intOf i).toNat)
          case atStart => exact ⟨0, _, [], Nat.zero_le _, rfl, rfl, rfl, HV1.out, HMo0.out⟩
          case round =>
            clear HMo0 HV1 k0 k1 k2
            obtain ⟨k, vv, vs, hk, rfl, rfl, hvk, hv, hm⟩ := hrel
            obtain ⟨w2, e1⟩ : ∃ w2 : World, w2 = wr := ⟨_, rfl⟩
            subst e1
            have HV2 := Aside0.mk hv; have HM2 := Aside0.mk hm; have HVK := Aside0.mk hvk
            clear hv hm hvk
            have k0 := blk_cell HV2.out.blk 0; have k1 := blk_cell HV2.out.blk 1; have k2 := blk_cell HV2.out.blk 2
            simp at k0 k1 k2
            by_cases hlt : k < us.length
            · obtain ⟨y, A, c, hy, hu, hc, hle, hC, ho⟩ := HV2.out.reads hlt
              have hlt' : (k : Int) < (us.length : Int) := by omega
              have hk0 : (0 : Int) ≤ (k : Int) := by omega
              have hyb := (HZ.out k y hy).2
              have HG0 := Aside0.mk (GR.start HV2.out HM2.out HVK.out hu hy)
              have HU := Aside0.mk hu; have HYk := Aside0.mk hy
              obtain ⟨n, hn'⟩ : ∃ n, y.length = n := ⟨_, rfl⟩
              have HN := Aside0.mk hn'
              rw [hn'] at hc hyb
              clear hy hu hle hC ho hn'
              go_wp2_with fail
              go_loopw [9, 10] (fun l j wr => ∃ (m : Nat) (ll : Value), m ≤ 70 ∧ ll = l ∧ j = .int .i64 m ∧ BV w0 wr bk gg cg (.slice (some ⟨gw, 0, none⟩) us.length cw) us zs ∧ More w0 wr gg us zs vv vs ∧ GR w0 wr us vs (.slice A y.length c) y k m ll) (fun _ j _ => 70 - (intOf j).toNat)
              case atStart => exact ⟨0, _, Nat.zero_le _, by rw [HN.out], rfl, HV2.out, HM2.out, HG0.out⟩
              case round =>
                clear HG0 HM2 HV2 k0 k1 k2 hc
                obtain ⟨m, ll, hm, rfl, rfl, hv, hmm, hgr⟩ := hrel
                obtain ⟨w3, e1⟩ : ∃ w3 : World, w3 = wr := ⟨_, rfl⟩
                subst e1
                have HV3 := Aside0.mk hv; have HM3 := Aside0.mk hmm; have HG3 := Aside0.mk hgr
                clear hv hmm hgr
                by_cases hm70 : m < 70
                · have hm' : decide ((m : Int) < 70) = true := decide_eq_true (by omega)
                  have hsum : (500 : Int) + (k : Int) ≤ 100000 := by omega
                  have HB := Aside0.mk (below_alloc (Below.refl w3.heap.size w3) (.cells #[.int .i64 (500 + (k : Int)), .int .i64 0] 25))
                  have HVa := Aside0.mk (HV3.out.move HB.out); have HMa := Aside0.mk (HM3.out.move HB.out); have HGa := Aside0.mk (HG3.out.move HB.out)
                  have hlm : (y ++ List.replicate m (mkS k)).length = y.length + m := by rw [List.length_append, List.length_replicate]
                  obtain ⟨A', c', el, hcc, hCl⟩ := O25_reads HG3.out.own
                  rw [hlm] at el hcc
                  subst el
                  have hnew : ∀ j u, (cellsP [mkS k])[j]? = some u → (w3.alloc (.cells #[.int .i64 (500 + (k : Int)), .int .i64 0] 25)).cell? ((⟨w3.heap.size, 0, none⟩ : Addr).add j) = some u := fun j u hu => by
                    rw [add_plain]
                    exact (blk_cell (alloc_new w3 _) j).trans (by simpa [cellsP, mkS] using hu)
                  have HNW := Aside0.mk hnew
                  have hyl : y.length ≤ 1000000000 := by have := HN.out; omega
                  clear hnew hCl HV3 HM3 HG3 HB
                  by_cases hfit : y.length + m + 1 ≤ c'
                  · obtain ⟨g, e⟩ : ∃ g, A' = some ⟨g, 0, none⟩ := by
                      rcases Nat.eq_zero_or_pos (y.length + m) with h0 | h0
                      · rcases HGa.out.own.2 with ⟨e, _⟩ | ⟨g, cap, cur, e, _⟩
                        · injection e with _ _ e; omega
                        · injection e with e; exact ⟨g, e⟩
                      · obtain ⟨g, cap, e, _, _⟩ := HGa.out.own.form (by rw [hlm]; exact h0)
                        injection e with e
                        exact ⟨g, e⟩
                    subst e
                    go_wp2_with ((with_reducible refine gate_builtin (b := .append) (xs := #[.tmp 96, .tmp 100]) rfl ?_); at_builtin; refine wpList_append_fits _ rfl (.tmp 96) (.tmp 100) 23 rfl w0.heap.size 25 i25 2 Try.underlying23 hi25 hs25 g (y.length + m) c' (cellsP (y ++ List.replicate m (mkS k))) rfl ?aO ⟨w3.heap.size, 0, none⟩ 1 1 (cellsP [mkS k]) rfl rfl HNW.out (fun u hu => cellsP_one hu) hfit ?_; (case aO => have h := HGa.out.own; rwa [show O25 _ _ _ _ = World.ownsRow _ w0.heap.size 25 2 (.slice (some ⟨g, 0, none⟩) (y.length + m) c') (y ++ List.replicate m (mkS k)).length _ from rfl, hlm] at h); intro w5 ho5 hg5)
                    obtain ⟨hv5, hm5, hgr5⟩ := step_fits HVa.out HMa.out HGa.out HU.out HYk.out ho5 hg5
                    have HV5 := Aside0.mk hv5; have HM5 := Aside0.mk hm5; have HG5 := Aside0.mk hgr5
                    clear ho5 hg5 hv5 hm5 hgr5
                    go_roundw
                    case rel => exact ⟨m + 1, _, by omega, rfl, by go_num, HV5.out, HM5.out, HG5.out⟩
                    case measure => simp [intOf]; omega
                  · have hform : A' = none ∧ y.length + m = 0 ∧ c' = 0 ∨ ∃ g, A' = some ⟨g, 0, none⟩ := by
                      rcases HGa.out.own.2 with ⟨e, _⟩ | ⟨g, cap, cur, e, _⟩
                      · injection e with e1 e2 e3; exact .inl ⟨e1, e2, e3⟩
                      · injection e with e; exact .inr ⟨g, e⟩
                    have hnone : A' = none → y.length + m = 0 ∧ c' = 0 := fun e => by
                      rcases hform with h | ⟨g, h⟩
                      · exact h.2
                      · rw [e] at h; cases h
                    have holds : ∀ b, A' = some b → ∀ j u, (cellsP (y ++ List.replicate m (mkS k)))[j]? = some u → (w3.alloc (.cells #[.int .i64 (500 + (k : Int)), .int .i64 0] 25)).cell? (b.add j) = some u := fun b e => by
                      rcases hform with h | ⟨g, h⟩
                      · rw [h.1] at e; cases e
                      · rw [h] at e
                        injection e with e
                        subst e
                        exact HGa.out.own.cells (g := g) (by rw [h]; rfl)
                    have HNO := Aside0.mk hnone; have HOL := Aside0.mk holds
                    clear hnone holds hform
                    go_wp2_with ((with_reducible refine gate_builtin (b := .append) (xs := #[.tmp 96, .tmp 100]) rfl ?_); at_builtin; refine wpList_append_grows _ rfl (.tmp 96) (.tmp 100) 23 rfl 25 i25 _ 2 16 Try.underlying23 hi25 hz25 hs25 hb25 rfl (by decide) A' (y.length + m) c' (cellsP (y ++ List.replicate m (mkS k))) rfl HNO.out (by rw [cellsP_length, hlm]) HOL.out ⟨w3.heap.size, 0, none⟩ 1 1 (cellsP [mkS k]) rfl rfl HNW.out (fun u hu => cellsP_one hu) (by omega) (by unfold maxLen; omega) (by omega) ?_; intro v5 w5 ho5 hg5)
                    obtain ⟨hv5, hm5, hgr5⟩ := step_grows (us := us) (u := .slice A y.length c) (k := k) HVa.out HMa.out ho5 hg5
                    have HV5 := Aside0.mk hv5; have HM5 := Aside0.mk hm5; have HG5 := Aside0.mk hgr5
                    clear ho5 hg5 hv5 hm5 hgr5
                    go_roundw
                    case rel => exact ⟨m + 1, _, by omega, rfl, by go_num, HV5.out, HM5.out, HG5.out⟩
                    case measure => simp [intOf]; omega
                · obtain rfl : m = 70 := by omega
                  obtain ⟨A', c', el, hcc, hCl⟩ := O25_reads HG3.out.own
                  have hvl : (vs.length + 1) * 24 ≤ 140737488355328 := by have := HVK.out; omega
                  have HLR := Aside0.mk HM3.out.row
                  have HL := Aside0.mk el
                  clear hcc hCl hm
                  obtain ⟨N, hN⟩ : ∃ N, (y ++ List.replicate 70 (mkS k)).length = N := ⟨_, rfl⟩
                  rw [hN] at el
                  subst el
                  go_wp2_with ((with_reducible refine gate_builtin (b := .append) (xs := #[.tmp 102, .tmp 104]) rfl ?_); at_builtin; refine print_append_cells (w0 := w0) (W := w3) w0.heap.size rfl (.tmp 102) (.tmp 104) 33 23 (.slice none 0 0) 1 24 rfl Try.underlying33 info23 rfl (by decide) (by omega) vv vs.length vs [.slice A' N c'] rfl rfl rfl (fun x hx => by rw [List.mem_singleton.1 hx]; rfl) HLR.out HV3.out.below HV3.out.below.size hvl ?_; intro v5 w5 ho5 hb5 hg5 hat5)
                  obtain ⟨hv5, hm5⟩ := More.snoc HV3.out HM3.out HG3.out HVK.out HU.out HYk.out ho5 hb5 hg5 hat5
                  have HV5 := Aside0.mk hv5; have HM5 := Aside0.mk hm5
                  clear ho5 hb5 hg5 hat5 hv5 hm5
                  go_roundw
                  case rel => exact ⟨k + 1, _, _, by omega, rfl, by go_num, by rw [List.length_append, List.length_singleton, HVK.out], HV5.out, HM5.out⟩
                  case measure => simp [intOf]; omega
            · obtain rfl : k = us.length := by omega
              obtain ⟨gm, cm, em, _, _⟩ := HM2.out.row.form (by have := HVK.out; omega)
              rw [HVK.out] at em
              subst em
              clear hlt hk
              go_wp2_with fail
              go_loopw [11] (fun i wr => ∃ (k : Nat), k ≤ us.length ∧ i = .int .i64 k ∧ w2 = wr) (fun i _ => us.length - (intOf i).toNat)
              case atStart => exact ⟨0, Nat.zero_le _, rfl, rfl⟩
              case round =>
                obtain ⟨k, hk, rfl, rfl⟩ := hrel
                by_cases hlt : k < us.length
                · obtain ⟨y, A, c, hy, hu, hc, hle, hC, ho⟩ := HV2.out.reads hlt
                  have hkv : k < vs.length := by have := HVK.out; omega
                  have hvi : vs[k]? = some vs[k] := List.getElem?_eq_getElem hkv
                  obtain ⟨z, hz, hoz⟩ := HM2.out.got k _ hvi
                  obtain rfl := Option.some.inj (hy.symm.trans hz)
                  obtain ⟨B, d, eB, hdl, hD⟩ := O25_reads hoz
                  have hyz := HZ.out k y hy
                  have hrep : y ++ List.replicate 70 (mkS k) = List.replicate (y.length + 70) (mkS k) := by
                    rw [hyz.1, List.length_replicate, List.replicate_append_replicate]
                  rw [hrep] at eB hdl hD
                  rw [List.length_replicate] at eB hdl hD
                  rw [hyz.1] at hC
                  rw [List.length_replicate] at hC
                  have hn2 := hyz.2
                  have hcm : w2.cell? ⟨gm, k, none⟩ = some (.slice B (y.length + 70) d) := by
                    have h := HM2.out.row
                    rw [HVK.out] at h
                    rw [h.cellAt k (by omega), hvi, eB]
                  have HC := Aside0.mk hC; have HD := Aside0.mk hD
                  generalize y.length = n at *
                  clear hy hu hle hC ho hkv hvi hz hoz eB hyz hrep hD
                  have hlt' : (k : Int) < (us.length : Int) := by omega
                  have hk0 : (0 : Int) ≤ (k : Int) := by omega
                  go_wp2_with fail
                  go_loopw [12] (fun i wr => ∃ (j : Nat), j ≤ n + 70 ∧ i = .int .i64 j ∧ w2 = wr) (fun i _ => n + 70 - (intOf i).toNat)
                  case atStart => exact ⟨0, Nat.zero_le _, rfl, rfl⟩
                  case round =>
                    obtain ⟨j, hj, rfl, rfl⟩ := hrel
                    by_cases hjn : j < n + 70
                    · obtain ⟨ad, eA, e0, e1⟩ := at_T25 HD.out (j : Int) (by omega) (by omega)
                      subst eA
                      rw [rd_rep _ _ _ (by omega), Int.toNat_natCast] at e0 e1
                      have hj' : (j : Int) < ((n + 70 : Nat) : Int) := by omega
                      have hj0 : (0 : Int) ≤ (j : Int) := by omega
                      have hmx : (mkS k).f0 = 500 + (k : Int) := rfl
                      rw [hmx] at e0
                      clear hmx e1
                      by_cases hj2 : j < n
                      · obtain ⟨ad2, eA, g0, g1⟩ := at_T25 HC.out (j : Int) (by omega) (by omega)
                        subst eA
                        rw [rd_rep _ _ _ (by omega), Int.toNat_natCast] at g0 g1
                        have hmx : (mkS k).f0 = 500 + (k : Int) := rfl
                        rw [hmx] at g0
                        clear hmx g1
                        have hj3 : decide ((j : Int) < (n : Int)) = true := decide_eq_true (by omega)
                        go_wp2_with fail
                        go_roundw
                        case rel => exact ⟨j + 1, by omega, by go_num, by trivial⟩
                        case measure => simp [intOf]; omega
                      · have hj3 : decide ((j : Int) < (n : Int)) = false := decide_eq_false (by omega)
                        go_wp2_with fail
                        go_roundw
                        case rel => exact ⟨j + 1, by omega, by go_num, by trivial⟩
                        case measure => simp [intOf]; omega
                    · go_wp2_with fail
                      go_roundw
                      case rel => exact ⟨k + 1, by omega, by go_num, by trivial⟩
                      case measure => simp [intOf]; omega
                · go_wp2_with fail
                  go_ret
                  exact ⟨rfl, HV2.out.below⟩
end Go.Proofs.Ytomogkhdfaiekaa.PLin
