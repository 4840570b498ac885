/-
  linear: a set told by rows ((linear.set).list): the range's order is the tape's, the sort makes one list of it.
-/
import Derived.Test.YtomogkhdfaiekaaHTurn
import Derived.Test.YtomogkhdfaiekaaHSort
import Derived.Laws.MakeOwn
namespace Go.Proofs.Ytomogkhdfaiekaa.PLin
open Go.Proofs.Ytomogkhdfaiekaa.HW Go.Proofs.Ytomogkhdfaiekaa.HSet Go.RowKit Go.Proofs.YtomogkhdfaiekaaW.PrintWords Go.Proofs.YtomogkhdfaiekaaW.PrintLast Go.Proofs.YtomogkhdfaiekaaW.PrintMore
open Go.Shelf
open Go.Sort (SWO HoldsK flatK get_flatK)
set_option linter.unusedVariables false
set_option linter.unusedSimpArgs false

/-- Places whose differences are whole numbers of 64 bits. -/
def okF (p : S25) : Prop := (-1152921504606846976 ≤ p.f0 ∧ p.f0 ≤ 1152921504606846976) ∧ (-1152921504606846976 ≤ p.f1 ∧ p.f1 ≤ 1152921504606846976)
abbrev PF := { p : S25 // okF p }
instance : Inhabited PF := ⟨⟨⟨0, 0⟩, by unfold okF; simp⟩⟩
theorem okP_of_okF {p : S25} (h : okF p) : okP p := ⟨wf_i64 (by have := h.1.1; omega) (by have := h.1.2; omega), wf_i64 (by have := h.2.1; omega) (by have := h.2.2; omega)⟩

def cfP (p q : S25) : Int := if p.f1 = q.f1 then p.f0 - q.f0 else p.f1 - q.f1
def cfF (p q : PF) : Int := cfP p.1 q.1
def encF (p : PF) : List Value := [.int .i64 p.1.f0, .int .i64 p.1.f1]
/-- By rows: p stands ahead of q, or is it. -/
def leP (p q : S25) : Bool := !decide (cfP q p < 0)
def sortP (l : List S25) : List S25 := l.mergeSort leP

theorem cfP_lt (p q : S25) : cfP p q < 0 ↔ p.f1 < q.f1 ∨ p.f1 = q.f1 ∧ p.f0 < q.f0 := by
  unfold cfP; split <;> omega

theorem swoF : SWO (ltOf cfF) where
  irrefl x := by unfold ltOf cfF; exact decide_eq_false (by rw [cfP_lt]; omega)
  trans x y z h1 h2 := by
    unfold ltOf cfF at *
    have a := of_decide_eq_true h1; have b := of_decide_eq_true h2
    rw [cfP_lt] at a b
    exact decide_eq_true (by rw [cfP_lt]; omega)
  ntrans x y z h1 h2 := by
    unfold ltOf cfF at *
    have a := of_decide_eq_false h1; have b := of_decide_eq_false h2
    rw [cfP_lt] at a b
    exact decide_eq_false (by rw [cfP_lt]; omega)

theorem totF (x y : PF) (h1 : ltOf cfF x y = false) (h2 : ltOf cfF y x = false) : x = y := by
  unfold ltOf cfF at *
  have a := of_decide_eq_false h1; have b := of_decide_eq_false h2
  rw [cfP_lt] at a b
  apply Subtype.ext
  rw [S25.ext_iff']
  omega

theorem wrapF {a b : Int} (ha : -1152921504606846976 ≤ a ∧ a ≤ 1152921504606846976) (hb : -1152921504606846976 ≤ b ∧ b ≤ 1152921504606846976) : wrap64 (a - b) = a - b := by
  unfold wrap64; omega

set_option maxHeartbeats 1000000 in
theorem closure59 (x y : PF) (W : World) : Calls Try.prog 59 #[.agg #[.int .i64 x.1.f0, .int .i64 x.1.f1], .agg #[.int .i64 y.1.f0, .int .i64 y.1.f1]] W fun e w' => e = .returned (.int .i64 (cfF x y)) ∧ ∃ q os', w' = Sort.grow (W.drewN q) os' := by
  have hx := x.2; have hy := y.2
  obtain ⟨r, hr⟩ : ∃ r, cfF x y = r := ⟨_, rfl⟩
  rw [hr]
  obtain ⟨a0, ha0⟩ : ∃ a, x.1.f0 = a := ⟨_, rfl⟩
  obtain ⟨a1, ha1⟩ : ∃ a, x.1.f1 = a := ⟨_, rfl⟩
  obtain ⟨b0, hb0⟩ : ∃ a, y.1.f0 = a := ⟨_, rfl⟩
  obtain ⟨b1, hb1⟩ : ∃ a, y.1.f1 = a := ⟨_, rfl⟩
  unfold cfF cfP at hr
  unfold okF at hx hy
  rw [ha0, ha1, hb0, hb1] at hr
  rw [ha0, ha1] at hx
  rw [hb0, hb1] at hy
  rw [ha0, ha1, hb0, hb1]
  clear ha0 ha1 hb0 hb1
  by_cases c : a1 = b1
  · subst c
    rw [if_pos rfl] at hr
    have w1 := Aside0.mk ((wrapF hx.1 hy.1).trans hr)
    clear hr hx hy
    go_enter Try.func59, Try.ntmps59
    go_wp2
    go_ret
    exact ⟨congrArg (fun z => Ending.returned (.int .i64 z)) w1.out, 0, _, by rw [Sort.alloc_eq_grow, Sort.alloc_eq_grow, Sort.grow_grow]; rfl⟩
  · rw [if_neg c] at hr
    have c' : (a1 != b1) = true := bne_iff_ne.2 c
    have w1 := Aside0.mk ((wrapF hx.2 hy.2).trans hr)
    clear hr hx hy c
    go_enter Try.func59, Try.ntmps59
    go_wp2
    go_ret
    exact ⟨congrArg (fun z => Ending.returned (.int .i64 z)) w1.out, 0, _, by rw [Sort.alloc_eq_grow, Sort.alloc_eq_grow, Sort.grow_grow]; rfl⟩

theorem isAgg25 (w : World) : (isAgg 25).run Try.prog w = .ok true w := by kernel_rfl
theorem sizeOf25 (w : World) : (Go.sizeOf 25).run Try.prog w = .ok 2 w := by kernel_rfl

/-- The sort of a row of places. -/
theorem sortF (blk off cap : Nat) (d : Array PF) (w : World) (hH : HoldsK encF 2 w blk off d) (hblk : blk < w.heap.size) (hsz : d.size < 4611686018427387904) :
    Calls Try.prog 58 #[.slice (some ⟨blk, off, none⟩) d.size cap, .func (.func 59) #[] #[]] w fun e w' =>
      e = .returned (.tuple #[]) ∧ ∃ n os, w' = sortWorldK encF 2 w blk off n (d.toList.mergeSort fun x y => !(ltOf cfF) y x).toArray os := by
  have eg : ∀ args w, (callFunc 59 args).run Try.prog w = .ok (.enter 59 args) w := enters_of Try.func59 (by kernel_rfl) rfl
  exact AnyQ.slices_SortFunc_total Try.sortPt 2 isAgg25 sizeOf25 encF (fun _ => rfl) (fun x v hv => by simp [encF] at hv; rcases hv with rfl | rfl <;> rfl) cfF swoF 59 #[] blk off cap d w eg
    (fun _ _ _ _ x y => closure59 x y _) hH hblk hsz totF

/-! The bridge between a row of the call's own and the sort's words. -/
theorem heap_sortedV {w : World} {g n : Nat} {os : Array Obj} {cur : Array Value} {e : TypeId} {fr : Nat × Nat} (F : Array Value) (hb : w.heap[g]? = some (.cells cur e fr)) :
    (Sort.grow (Sort.putRow id (Sort.ahead w n) g 0 F) os).heap[g]? = some (.cells (Sort.putCells id 0 F cur) e fr) := by
  have hg : g < w.heap.size := (Array.getElem?_eq_some_iff.1 hb).1
  rw [Sort.heap_grow_old _ _ (by simpa using hg)]
  simp [Sort.putRow, Sort.mapBlock, Sort.ahead, Array.getElem?_modify, hb, Sort.onCells]

theorem grownBy_sortedV {w : World} {g n : Nat} {os : Array Obj} (F : Array Value) : w.grownBy (Sort.grow (Sort.putRow id (Sort.ahead w n) g 0 F) os) (some g) := by
  refine ⟨rfl, rfl, rfl, by simp, fun k hk hne => ?_⟩
  rw [Sort.heap_grow_old _ _ (by simpa using hk)]
  have : g ≠ k := fun e => hne (by rw [e])
  simp [Sort.putRow, Sort.mapBlock, Sort.ahead, Array.getElem?_modify, this]

theorem take_putCellsV (cur F : Array Value) (h : F.size ≤ cur.size) : (Sort.putCells id 0 F cur).toList.take F.size = F.toList := by
  apply List.ext_getElem?
  intro j
  by_cases hj : j < F.size
  · rw [List.getElem?_take_of_lt hj, Array.getElem?_toList]
    simp [Sort.putCells, hj, show j < cur.size by omega]
  · rw [List.getElem?_take_eq_none (by omega), List.getElem?_eq_none (by simp; omega)]

/-- The cells of places, laid one behind the other. -/
def flatP (xs : List S25) : List Value := xs.flatMap fun p => [.int .i64 p.f0, .int .i64 p.f1]
theorem flatP_length (xs : List S25) : (flatP xs).length = xs.length * 2 := by
  induction xs with
  | nil => rfl
  | cons a l ih => simp only [flatP, List.flatMap_cons, List.length_append, List.length_cons, List.length_nil] at ih ⊢; omega
theorem flatP_get (xs : List S25) : ∀ j, j < xs.length * 2 → (flatP xs)[j]? = some (if j % 2 = 0 then .int .i64 (xs.getD (j / 2) z25).f0 else .int .i64 (xs.getD (j / 2) z25).f1) := by
  induction xs with
  | nil => intro j h; simp at h
  | cons a l ih =>
    intro j h
    simp only [flatP, List.flatMap_cons] at ih ⊢
    match j with
    | 0 => rfl
    | 1 => rfl
    | j + 2 =>
      rw [List.getElem?_append_right (by simp)]
      have e : j + 2 - [Value.int .i64 a.f0, Value.int .i64 a.f1].length = j := by simp
      rw [e, ih j (by simp at h; omega)]
      have e2 : (j + 2) / 2 = j / 2 + 1 := by omega
      have e3 : (j + 2) % 2 = j % 2 := by omega
      rw [e2, e3, List.getD_cons_succ]

theorem reps_flatP {w : World} {base : Nat} {ok : Nat → Prop} (xs : List S25) : Reps (k25.M w base ok) 2 xs (flatP xs) := by
  refine ⟨flatP_length xs, fun j p hj => ?_⟩
  have hlt : j < xs.length := (List.getElem?_eq_some_iff.1 hj).1
  have hp : xs.getD j z25 = p := by rw [List.getD_eq_getElem?_getD, hj]; rfl
  have : ((flatP xs).drop (j * 2)).take 2 = [.int .i64 p.f0, .int .i64 p.f1] := by
    apply List.ext_getElem?
    intro i
    by_cases hi : i < 2
    · rw [List.getElem?_take_of_lt hi, List.getElem?_drop, flatP_get xs _ (by omega)]
      match i, hi with
      | 0, _ => rw [show (j * 2 + 0) / 2 = j by omega, show (j * 2 + 0) % 2 = 0 by omega, hp]; rfl
      | 1, _ => rw [show (j * 2 + 1) / 2 = j by omega, show (j * 2 + 1) % 2 = 1 by omega, hp]; rfl
    · rw [List.getElem?_take_eq_none (by omega), List.getElem?_eq_none (by simp; omega)]
  rw [this]
  exact k25_mkM w base ok p

theorem flat_of_reps {w : World} {base : Nat} {ok : Nat → Prop} {xs : List S25} {inner : List Value} (h : Reps (k25.M w base ok) 2 xs inner) : inner = flatP xs := by
  apply List.ext_getElem?
  intro j
  by_cases hj : j < xs.length * 2
  · rw [flatP_get xs j hj]
    have hlt : j / 2 < xs.length := by omega
    have h1 := k25_openM (h.2 (j / 2) xs[j / 2] (List.getElem?_eq_getElem hlt))
    have hp : xs.getD (j / 2) z25 = xs[j / 2] := by rw [List.getD_eq_getElem?_getD, List.getElem?_eq_getElem hlt]; rfl
    have h2 : ((inner.drop (j / 2 * 2)).take 2)[j % 2]? = inner[j]? := by
      rw [List.getElem?_take_of_lt (by omega), List.getElem?_drop, show j / 2 * 2 + j % 2 = j by omega]
    rw [← h2, h1, hp]
    have : j % 2 = 0 ∨ j % 2 = 1 := by omega
    rcases this with e | e <;> rw [e] <;> rfl
  · rw [List.getElem?_eq_none (by rw [h.1]; omega), List.getElem?_eq_none (by rw [flatP_length]; omega)]

theorem flatK_toList (d : List PF) : (flatK encF 2 d.toArray).toList = flatP (d.map (·.1)) := by
  apply List.ext_getElem?
  intro j
  by_cases hj : j < d.length * 2
  · rw [flatP_get _ j (by simpa using hj), Array.getElem?_toList]
    have hlt : j / 2 < d.length := by omega
    have hsz : j < (flatK encF 2 d.toArray).size := by simpa using hj
    have hp : (d.map (·.1)).getD (j / 2) z25 = (d[j / 2]).1 := by rw [List.getD_eq_getElem?_getD]; simp [hlt]
    have h1 := get_flatK encF 2 d.toArray j (by simpa using hj)
    rw [getElem!_pos _ j hsz] at h1
    rw [Array.getElem?_eq_getElem hsz, h1, hp]
    have hd : (d.toArray)[j / 2]! = d[j / 2] := by rw [getElem!_pos _ _ (by simpa using hlt)]; simp
    rw [hd]
    have : j % 2 = 0 ∨ j % 2 = 1 := by omega
    rcases this with e | e <;> rw [e] <;> rfl
  · rw [List.getElem?_eq_none (by simp; omega), List.getElem?_eq_none (by rw [flatP_length]; simp; omega)]

/-- A row of places is what the sort asks for; behind the sort it is the sorted row. -/
theorem row_sorts {w : World} {base n cap g : Nat} {xs : List S25} (h : k25.R 25 w base (fun _ => True) (.slice (some ⟨g, 0, none⟩) n cap) xs) (hall : ∀ p ∈ xs, okF p) :
    n = xs.length ∧ ∃ d : List PF, d.map (·.1) = xs ∧ HoldsK encF 2 w g 0 d.toArray ∧ g < w.heap.size ∧ base ≤ g ∧
      ∀ m os, k25.R 25 (sortWorldK encF 2 w g 0 m (d.mergeSort fun x y => !(ltOf cfF) y x).toArray os) base (fun _ => True) (.slice (some ⟨g, 0, none⟩) n cap) (sortP xs) := by
  obtain ⟨h0, inner, hown, hrep⟩ := h
  have hflat := flat_of_reps hrep
  rcases hown.2 with ⟨hv, _⟩ | ⟨g', cap', cur, hv, hb, hh, hnc, hcm, hcs, htake⟩
  · cases hv
  injection hv with ha hn hc
  injection ha with ha
  injection ha with hg
  subst hg; subst hc; subst hn
  have sz : k25.sz = 2 := rfl
  rw [sz] at htake hcs
  refine ⟨rfl, xs.pmap (fun p hp => (⟨p, hp⟩ : PF)) hall, by rw [List.map_pmap]; simp, ?_, blk_lt hh, hb, fun m os => ?_⟩
  · intro j hj
    have hsz : (xs.pmap (fun p hp => (⟨p, hp⟩ : PF)) hall).length = xs.length := by simp
    have hj' : j < xs.length * 2 := by simpa using hj
    refine ⟨?_, blk_frozen hh _⟩
    rw [Nat.zero_add, blk_cell hh, ← Array.getElem?_toList]
    have e1 : cur.toList[j]? = inner[j]? := by rw [← htake, List.getElem?_take_of_lt hj']
    rw [e1, hflat, getElem!_pos _ j hj]
    have e2 := flatK_toList (xs.pmap (fun p hp => (⟨p, hp⟩ : PF)) hall)
    rw [List.map_pmap] at e2
    simp only [List.pmap_eq_map, List.map_id'] at e2
    rw [show flatP xs = (flatK encF 2 (xs.pmap (fun p hp => (⟨p, hp⟩ : PF)) hall).toArray).toList from e2.symm, Array.getElem?_toList, Array.getElem?_eq_getElem hj]
    rfl
  · have hD : (((xs.pmap (fun p hp => (⟨p, hp⟩ : PF)) hall).mergeSort fun x y => !(ltOf cfF) y x).map (·.1)) = sortP xs := by
      rw [List.map_mergeSort (r := fun x y => !(ltOf cfF) y x) (s := leP) (fun a _ b _ => rfl), List.map_pmap]
      simp [sortP]
    have hlen : (sortP xs).length = xs.length := by unfold sortP; exact List.length_mergeSort _
    have hF : (flatK encF 2 ((xs.pmap (fun p hp => (⟨p, hp⟩ : PF)) hall).mergeSort fun x y => !(ltOf cfF) y x).toArray).toList = flatP (sortP xs) := by rw [flatK_toList, hD]
    have hFs : (flatK encF 2 ((xs.pmap (fun p hp => (⟨p, hp⟩ : PF)) hall).mergeSort fun x y => !(ltOf cfF) y x).toArray).size = xs.length * 2 := by
      rw [← Array.length_toList, hF, flatP_length, hlen]
    refine ⟨fun _ _ => trivial, flatP (sortP xs), ⟨by rw [flatP_length]; rfl, .inr ⟨g, cap, _, by rw [hlen], hb, heap_sortedV _ hh, by rw [hlen]; exact hnc, hcm, by simp [Sort.putCells, hcs]; rfl, ?_⟩⟩, reps_flatP _⟩
    have := take_putCellsV cur (flatK encF 2 ((xs.pmap (fun p hp => (⟨p, hp⟩ : PF)) hall).mergeSort fun x y => !(ltOf cfF) y x).toArray) (by rw [hFs, hcs]; exact Nat.mul_le_mul_right _ hnc)
    rw [hFs, hF] at this
    rw [hlen]
    exact this

theorem grownBy_world {w : World} {g m : Nat} {d : Array PF} {os : Array Obj} : w.grownBy (sortWorldK encF 2 w g 0 m d os) (some g) := grownBy_sortedV _

/-- A range's own block is no row of cells. -/
theorem range_ne {α : Type} [DecidableEq α] {P : Program} {K : TypeId} {okp : α → Prop} {kl : α → Lit} {w : World} {b r : Nat} {S vs : List α} (h : RangeAt P K okp kl w b r S vs) {base : Nat} {v : Value} {xs : List S25}
    (hv : k25.R 25 w base (fun _ => True) v xs) : some r ≠ v.ownBlock := by
  intro he
  obtain ⟨_, _, _, _, D, left, cnt, ⟨es, clock, since, seen, c0, _, _, _, _, hr, _⟩, _⟩ := h
  obtain ⟨cells, hc⟩ := Kd.R_typed hv r he.symm
  rw [hc] at hr
  cases hr
theorem k25_grown {w w1 : World} {base : Nat} {ok : Nat → Prop} {v : Value} {xs : List S25} {row : Option Nat} (h : k25.R 25 w base ok v xs) (hg : w.grownBy w1 row) (hne : row ≠ v.ownBlock ∨ v.ownBlock = none) : k25.R 25 w1 base ok v xs := by
  obtain ⟨h0, inner, hown, hrep⟩ := h
  refine ⟨h0, inner, own_other hown hg (hne.elim (fun h => .inr (Ne.symm h)) .inl), hrep.imp_ fun p c hp => ?_⟩
  rw [k25_openM hp]
  exact k25_mkM _ _ _ _
theorem k25_notlow {w : World} {base b : Nat} {ok : Nat → Prop} {v : Value} {xs : List S25} (h : k25.R 25 w base ok v xs) (hb : b < base) : some b ≠ v.ownBlock := fun e => by
  have := Kd.R_base h b e.symm
  omega
theorem leP_trans (a b c : S25) (h1 : leP a b = true) (h2 : leP b c = true) : leP a c = true := by
  unfold leP at *
  simp only [Bool.not_eq_true', decide_eq_false_iff_not, cfP_lt] at *
  omega
theorem leP_total (a b : S25) : (leP a b || leP b a) = true := by
  unfold leP
  simp only [Bool.or_eq_true, Bool.not_eq_true', decide_eq_false_iff_not, cfP_lt]
  omega
theorem leP_anti (a b : S25) (h1 : leP a b = true) (h2 : leP b a = true) : a = b := by
  unfold leP at *
  simp only [Bool.not_eq_true', decide_eq_false_iff_not, cfP_lt] at *
  rw [S25.ext_iff']
  omega
theorem sortP_sorted (l : List S25) : (sortP l).Pairwise (fun a b => leP a b = true) := List.pairwise_mergeSort leP_trans leP_total l
theorem sortP_perm (l : List S25) : (sortP l).Perm l := List.mergeSort_perm l leP
theorem sorted_unique : ∀ (l l' : List S25), l.Perm l' → l.Pairwise (fun a b => leP a b = true) → l'.Pairwise (fun a b => leP a b = true) → l = l'
  | [], l', hp, _, _ => by rw [List.nil_perm.1 hp]
  | a :: l, l', hp, h1, h2 => by
    cases l' with
    | nil => exact absurd hp.length_eq (by simp)
    | cons b l' =>
      obtain ⟨a1, a2⟩ := List.pairwise_cons.1 h1
      obtain ⟨b1, b2⟩ := List.pairwise_cons.1 h2
      have e : a = b := by
        have ha : a ∈ b :: l' := hp.mem_iff.1 (by simp)
        have hb : b ∈ a :: l := hp.mem_iff.2 (by simp)
        rcases List.mem_cons.1 ha with e | ha
        · exact e
        rcases List.mem_cons.1 hb with e | hb
        · exact e.symm
        exact leP_anti a b (a1 b hb) (b1 a ha)
      subst e
      rw [sorted_unique l l' (List.perm_cons a |>.1 hp) a2 b2]
theorem sortP_congr {l l' : List S25} (h : l.Perm l') : sortP l = sortP l' :=
  sorted_unique _ _ ((sortP_perm l).trans (h.trans (sortP_perm l').symm)) (sortP_sorted l) (sortP_sorted l')

def lenV : Value → Nat
  | .slice _ n _ => n
  | _ => 0

theorem flat_one (p : S25) : [Value.int .i64 p.f0, .int .i64 p.f1] = flatP [p] := rfl

set_option maxHeartbeats 1000000 in
set_option maxRecDepth 100000 in
theorem linear_set_list.calls (b : Nat) (S : List S25) (w : World) (h : PSet w b S) (hall : ∀ p ∈ S, okF p) (hn : S.length ≤ 1099511627776) :
    Calls Try.prog 46 #[.map (some b)] w fun e w' => ∃ v0_ : Value, e = .returned v0_ ∧ k25.R 25 w' w.heap.size (fun _ => True) v0_ (sortP S) ∧ Below w.heap.size w w' := by
  obtain ⟨i0, hi, hz0, hz1, hz2⟩ := info_parts info25
  have hlt := h.lt
  obtain ⟨w1, hrun, hown, hg1⟩ := run_make_own (P := Try.prog) w w.heap.size 23 25 i0 _ 2 Try.underlying23 hi hz0 hz1 .i64 .i64 S.length (by rw [hz2]; omega) (by unfold maxLen; omega) (Nat.le_refl _)
  have hR0 : k25.R 25 w1 w.heap.size (fun _ => True) (.slice (some ⟨w.heap.size, 0, none⟩) 0 S.length) [] := ⟨fun _ _ => trivial, [], hown, Reps.none _ _⟩
  have h1 := h.grown hg1 (by simp)
  have hb1 : Below w.heap.size w w1 := (Below.refl _ w).grown hg1 (Nat.le_refl _) (fun _ e => by cases e)
  have hz1' := hb1.size
  clear hown hg1 hz0 hz1 hz2 hi
  go_enter Try.func46, Try.ntmps46
  go_wp2_with (first | (at_len; refine wp_len _ rfl _ 73 rfl 89 Try.underlying73 rfl h ?_) | (at_range; refine wp_range _ rfl _ 73 rfl 89 C25 Try.underlying73 rfl h1 ?_; intro w2 hr2 hg2 hs2))
  go_frame
  clear hrun
  have hR2 := Aside0.mk (Kd.R_below hR0 ((Below.refl _ w1).grown hg2 (Nat.le_refl _) (fun _ e => by cases e)))
  have hb2 := Aside0.mk (hb1.grown hg2 hz1' (fun _ e => by cases e))
  clear hR0 hg2 hb1 h1
  have hr2' := Aside0.mk hr2; clear hr2
  generalize w1.heap.size = r at *
  go_loopw [3] (fun v wr => ∃ vs, RangeAt Try.prog 25 okP klP wr b r S vs ∧ k25.R 25 wr w.heap.size (fun _ => True) v vs ∧ Below w.heap.size w wr ∧ w.heap.size ≤ wr.heap.size ∧ ∃ g c, v = .slice (some ⟨g, 0, none⟩) vs.length c) (fun v _ => S.length - lenV v)
  case atStart => exact ⟨[], hr2'.out, hR2.out, hb2.out, by omega, _, _, rfl⟩
  case round =>
    obtain ⟨vs, hrg, hR, hB, hzr, g, c, rfl⟩ := hrel
    have HR := Aside0.mk hR; clear hR
    have HB := Aside0.mk hB; clear hB
    have hne := Aside0.mk (range_ne hrg HR.out)
    go_wp2_with (first | (at_next; refine wp_next _ rfl _ rfl C25 rfl hrg ?_ ?_))
    · intro hperm
      obtain ⟨_, d, hd, hH, hgl, _, hafter⟩ := row_sorts HR.out (fun p hp => hall p (hperm.mem_iff.1 hp))
      have hdl : d.toArray.size = vs.length := by rw [← hd]; simp
      have hcon := sortF g 0 c d.toArray wr hH hgl (by rw [hdl, hperm.length_eq]; omega)
      rw [hdl] at hcon
      have hcon' := Aside0.mk hcon
      have hafter' := Aside0.mk hafter
      clear hcon hafter hH hd hdl
      go_wp2_with (go_at_call 58; refine hcon'.out.mono ?_; rintro e w3 ⟨rfl, m, os, rfl⟩)
      go_ret
      refine ⟨_, rfl, ?_, HB.out.grown grownBy_world hzr (fun k e => by cases e; exact Kd.R_base HR.out _ rfl)⟩
      rw [← sortP_congr hperm]
      exact hafter'.out m os
    · intro p w3 hpS hpv hpk hlen hrg3 hg3 hs3 hen
      have HR3 := Aside0.mk (k25_grown HR.out hg3 (.inl hne.out))
      have HB3 := Aside0.mk (HB.out.grown hg3 hzr (fun k e => by cases e; exact (by omega : w.heap.size ≤ r)))
      have hbl := Aside0.mk (k25_notlow HR.out hlt)
      have hz3 : w.heap.size ≤ w3.heap.size := by omega
      clear HR HB hg3 hs3
      unfold mkP at hen ⊢
      go_wp2_with (at_builtin; refine Kd.R_append k25 (w0 := w) w.heap.size rfl (.tmp 14) (.tmp 16) 23 25 (.agg #[(.int .i64 0), (.int .i64 0)]) 16 rfl Try.underlying23 info25 rfl (by decide) (by omega) (.slice (some ⟨g, 0, none⟩) vs.length c) vs p [.int .i64 p.f0, .int .i64 p.f1] (fun _ => True) (fun _ => False) rfl ?aX ?aP (fun _ hk => hk.elim) (fun _ _ => trivial) ?aO ?aB ?aS ?aL ?_; (case aX => rw [size_alloc]; rfl); (case aP => exact k25_mkM _ _ _ p); (case aO => exact Kd.R_alloc HR3.out _); (case aB => exact below_alloc HB3.out _); (case aS => simp; omega); (case aL => omega); intro v4 w4 hR4 hB4 hg4 hat4)
      go_roundw
      case rel =>
        obtain ⟨g4, c4, hv4, _⟩ := Kd.R_form hR4 (by simp)
        exact ⟨vs ++ [p], (hrg3.alloc _).grown hg4 hbl.out hne.out, hR4, hB4, by have := hg4.size; simp at this; omega, g4, c4, hv4⟩
      case measure =>
        obtain ⟨g4, c4, hv4, _⟩ := Kd.R_form hR4 (by simp)
        rw [hv4]
        simp [lenV]; omega
end Go.Proofs.Ytomogkhdfaiekaa.PLin
