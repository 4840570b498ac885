/-
  linear: the sets' own calls: turn, of, list.
  DERIVED: THE SHELF's CONTRACTS AT THIS DUMP, IN PLAIN WORDS (tools/lay-plain.mjs out of 'YtomogkhdfaiekaaHSort0.lean', which tools/lay-shelf.mjs wrote): THE SAME DECLARATIONS UNDER THE SAME NAMES: 'import', 'namespace', 'open', 'def', 'theorem' AND NOTHING ELSE: no command of the shelf's: FOR A HAND-IN. Each laying: the table of numbers ('.._ren') and one theorem, a field a fact of the dump's own or the kernel's comparison; each contract: ONE APPLICATION.
  linear: a set told by rows ((linear.set).list): the range's order is the tape's, the sort makes one list of it.
  linear.Check: more than 64, one too far, one twice.
  linear.Times: the sums of each place of the one with each of the other, those that come an odd number of times, by rows.
-/
import Derived.Test.YtomogkhdfaiekaaHKeys
import Derived.Deep.LoopGhost
import Derived.Shelf.SlGeneric
import Derived.Shelf.SlSortCmp.WholeK
import Derived.Shelf.SlSortCmp.NoneTotal
import Derived.Ground.SlsfProg
import Derived.Test.YtomogkhdfaiekaaProg
import Derived.Laws.MakeOwn
import Derived.Test.YtomogkhdfaiekaaPLinx0
section
namespace Go.Proofs.Ytomogkhdfaiekaa.PLin
open Go.Proofs.Ytomogkhdfaiekaa.HW Go.Proofs.Ytomogkhdfaiekaa.HSet Go.RowKit Go.Proofs.YtomogkhdfaiekaaW.PrintWords Go.Proofs.YtomogkhdfaiekaaW.PrintLast Go.Proofs.YtomogkhdfaiekaaW.PrintMore
set_option linter.unusedVariables false
set_option linter.unusedSimpArgs false

/-- A set of places in memory. -/
abbrev PSet (w : World) (b : Nat) (S : List S25) : Prop := SetAt Try.prog 25 okP klP w b S

/-- What is there goes, what is not comes. -/
def tog (S : List S25) (p : S25) : List S25 := if p ∈ S then S.erase p else S ++ [p]

set_option maxHeartbeats 1000000 in
set_option maxRecDepth 100000 in
theorem linear_set_turn.calls (b : Nat) (S : List S25) (p : S25) (hp : okP p) (w : World) (h : PSet w b S) (hn : S.length < maxLen) :
    Calls Try.prog 45 #[.map (some b), mkP p] w fun e w' => e = .returned (.tuple #[]) ∧ PSet w' b (tog S p) ∧ w.grownBy w' (some b) := by
  have hlt := h.lt
  have hz := zero89
  have hmem : decide (p ∈ S) = true ∨ decide (p ∈ S) = false := by cases decide (p ∈ S) <;> simp
  unfold mkP
  rcases hmem with hm | hm
  · have hS : tog S p = S.erase p := by unfold tog; rw [if_pos (of_decide_eq_true hm)]
    rw [hS]; clear hS
    go_enter Try.func45, Try.ntmps45
    go_wp2_with (first | (at_lookup; refine wp_lookup _ rfl _ _ 73 rfl 89 C25 Try.underlying73 (hz _) rfl (h.alloc _) p rfl hp ?_) | (at_delete; refine wp_delete _ rfl _ _ 73 rfl 89 C25 Try.underlying73 rfl ((h.alloc _).alloc _) p rfl hp ?_; intro w1 h1 hg1))
    refine bodyPost_ret (results_none rfl _ _ _) rfl ⟨rfl, h1, ?_⟩
    exact ((World.grownBy_alloc _ _ _).trans (World.grownBy_alloc _ _ _)).trans hg1
  · have hS : tog S p = ins S p := by unfold tog ins; rw [if_neg (of_decide_eq_false hm), if_neg (of_decide_eq_false hm)]
    rw [hS]; clear hS
    go_enter Try.func45, Try.ntmps45
    go_wp2_with (first | (at_lookup; refine wp_lookup _ rfl _ _ 73 rfl 89 C25 Try.underlying73 (hz _) rfl (h.alloc _) p rfl hp ?_) | (at_mapUpdate; refine wp_insert _ rfl _ _ _ 73 rfl 89 C25 Try.underlying73 rfl ((h.alloc _).alloc _) hn p rfl rfl hp ?_; intro w1 h1 hg1))
    refine bodyPost_end (results_none rfl _ _ _) rfl ⟨rfl, h1, ?_⟩
    exact ((World.grownBy_alloc _ _ _).trans (World.grownBy_alloc _ _ _)).trans hg1

theorem insAll_snoc (l : List S25) (k : Nat) (h : k < l.length) (i : Int) (hi : i = k) : (l.take (k + 1)).foldl ins [] = ins ((l.take k).foldl ins []) (rd_T25 l i) := by
  rw [List.take_succ_eq_append_getElem h, List.foldl_append]
  unfold rd_T25
  subst hi
  simp [h]
theorem insAll_len (l : List S25) : ∀ S : List S25, (l.foldl ins S).length ≤ S.length + l.length := by
  induction l with
  | nil => intro S; simp
  | cons a l ih => intro S; simp only [List.foldl_cons, List.length_cons]; have := ih (ins S a); have := length_ins_le S a; omega
theorem rd_mem (l : List S25) (k : Nat) (h : k < l.length) (i : Int) (hi : i = k) : rd_T25 l i ∈ l := by
  subst hi
  unfold rd_T25
  simp [h]

theorem beq_cast (a b : Nat) : ((a : Int) == (b : Int)) = decide (a = b) := by
  rw [Bool.eq_iff_iff, beq_iff_eq, decide_eq_true_eq]; omega
theorem ret_bool2 {v : Value} {a b : Bool} (h : a = b) : Ending.returned (.tuple #[v, .bool a]) = .returned (.tuple #[v, .bool b]) := by rw [h]

theorem below_turn {w0 w w' : World} {b : Nat} (h : Below w0.heap.size w0 w) (hs : w0.heap.size ≤ w.heap.size) (hb : w0.heap.size ≤ b) (hg : w.grownBy w' (some b)) : Below w0.heap.size w0 w' :=
  h.grown hg hs (fun k e => by cases e; exact hb)

set_option maxHeartbeats 1000000 in
set_option maxRecDepth 100000 in
theorem linear_of.calls (A0 : Option Addr) (c0 : Nat) (l0 : List S25) (w : World) (hr0 : Kd.C k25 w A0 l0.length l0) (hc0 : l0.length ≤ c0) (hok : ∀ p ∈ l0, okP p) :
    Calls Try.prog 41 #[.slice A0 l0.length c0] w fun e w' => e = .returned (.tuple #[.map (some w.heap.size), .bool (decide ((l0.foldl ins []).length = l0.length))]) ∧ PSet w' w.heap.size (l0.foldl ins []) ∧ Below w.heap.size w w' := by
  have hmax := Kd.C_max hr0
  have hmm := @run_makeMap Try.prog
  go_enter Try.func41, Try.ntmps41
  go_wp2
  go_loopw [10] (fun i wr => ∃ k : Nat, k ≤ l0.length ∧ i = .int .i64 k ∧ PSet wr w.heap.size ((l0.take k).foldl ins []) ∧ Below w.heap.size w wr) (fun i _ => l0.length - (intOf i).toNat)
  case atStart => exact ⟨0, Nat.zero_le _, rfl, SetAt.made w, below_alloc (Below.refl _ _) _⟩
  case round =>
    obtain ⟨k, hk, rfl, hs, hB⟩ := hrel
    have hBs := Aside0.mk hB; clear hB
    by_cases hlt : k < l0.length
    · obtain ⟨ad, hA, e0, e1⟩ := at_T25 hr0 (k : Int) (by omega) (by omega)
      subst hA
      have d0 := pw_cell_below hBs.out e0
      have d1 := pw_cell_below hBs.out e1
      clear e0 e1
      rw [Int.toNat_natCast] at d0 d1
      have hlen : ((l0.take k).foldl ins []).length < maxLen := by
        have := insAll_len (l0.take k) []
        simp only [List.length_nil, List.length_take] at this
        unfold maxLen; omega
      have hsn := Aside0.mk (insAll_snoc l0 k hlt k rfl)
      have hpk := Aside0.mk (hok _ (rd_mem l0 k hlt k rfl))
      generalize rd_T25 l0 (k : Int) = p at *
      go_wp2_with (at_mapUpdate; refine wp_insert _ rfl _ _ _ 73 rfl 89 C25 Try.underlying73 rfl (hs.alloc _) hlen p rfl rfl hpk.out ?_; intro w1 h1 hg1)
      go_roundw
      case rel => exact ⟨k + 1, by omega, by go_num, hsn.out ▸ h1, below_turn (below_alloc hBs.out _) (by have := hBs.out.size; simp; omega) (Nat.le_refl _) hg1⟩
      case measure => simp [intOf]; omega
    · have hkl : l0.take k = l0 := List.take_of_length_le (by omega)
      rw [hkl] at hs
      clear hkl
      go_wp2_with (at_len; refine wp_len _ rfl _ 73 rfl 89 Try.underlying73 rfl hs ?_)
      go_ret2
      exact ⟨ret_bool2 (beq_cast _ _), hs, hBs.out⟩
end Go.Proofs.Ytomogkhdfaiekaa.PLin
end

section
namespace Go.Proofs
open Go.Shelf
def Try.sortPt_ren : Go.Shelf.Ren := ⟨fun | 6 => 58 | 15 => 71 | 14 => 70 | 28 => 85 | 29 => 86 | 20 => 77 | 21 => 78 | 22 => 79 | 23 => 80 | 24 => 81 | 25 => 82 | 26 => 83 | 27 => 84 | 46 => 94 | 47 => 95 | 48 => 96 | 49 => 97 | 50 => 98 | 57 => 104 | n => n, fun | 22 => 23 | 24 => 25 | 25 => 95 | 3 => 3 | 39 => 68 | 0 => 0 | 53 => 126 | 55 => 128 | 4 => 4 | 46 => 119 | 45 => 118 | 50 => 123 | 5 => 5 | 9 => 9 | 66 => 136 | 70 => 140 | 76 => 144 | 77 => 129 | n => n, fun | n => n⟩
theorem Try.sortPt : Go.Proofs.SlLaysF0.n6 Try.prog Try.sortPt_ren := {
  mixed := by kernel_rfl
  f6 := ⟨Try.f58.name, by decide, Try.func58.trans (congrArg some (by kernel_rfl))⟩
  f14 := ⟨Try.f70.name, by decide, Try.func70.trans (congrArg some (by kernel_rfl))⟩
  f15 := Try.func71.trans (congrArg some (by kernel_rfl))
  f20 := ⟨Try.f77.name, by decide, Try.func77.trans (congrArg some (by kernel_rfl))⟩
  f21 := ⟨Try.f78.name, by decide, Try.func78.trans (congrArg some (by kernel_rfl))⟩
  f22 := ⟨Try.f79.name, by decide, Try.func79.trans (congrArg some (by kernel_rfl))⟩
  f23 := ⟨Try.f80.name, by decide, Try.func80.trans (congrArg some (by kernel_rfl))⟩
  f24 := ⟨Try.f81.name, by decide, Try.func81.trans (congrArg some (by kernel_rfl))⟩
  f25 := ⟨Try.f82.name, by decide, Try.func82.trans (congrArg some (by kernel_rfl))⟩
  f26 := ⟨Try.f83.name, by decide, Try.func83.trans (congrArg some (by kernel_rfl))⟩
  f27 := ⟨Try.f84.name, by decide, Try.func84.trans (congrArg some (by kernel_rfl))⟩
  f28 := Try.func85.trans (congrArg some (by kernel_rfl))
  f29 := Try.func86.trans (congrArg some (by kernel_rfl))
  f46 := ⟨Try.f94.name, by decide, Try.func94.trans (congrArg some (by kernel_rfl))⟩
  f47 := Try.func95.trans (congrArg some (by kernel_rfl))
  f48 := Try.func96.trans (congrArg some (by kernel_rfl))
  f49 := ⟨Try.f97.name, by decide, Try.func97.trans (congrArg some (by kernel_rfl))⟩
  f50 := ⟨Try.f98.name, by decide, Try.func98.trans (congrArg some (by kernel_rfl))⟩
  f57 := ⟨Try.f104.name, by decide, Try.func104.trans (congrArg some (by kernel_rfl))⟩
  t0 := Try.underlying0
  a0 := Try.isAgg0
  z0 := Try.sizeOf0
  v0 := Try.zeroValue0
  t3 := Try.underlying3
  a3 := Try.isAgg3
  z3 := Try.sizeOf3
  v3 := Try.zeroValue3
  t4 := Try.underlying4
  a4 := Try.isAgg4
  z4 := Try.sizeOf4
  v4 := Try.zeroValue4
  t5 := Try.underlying5
  a5 := Try.isAgg5
  z5 := Try.sizeOf5
  v5 := Try.zeroValue5
  t9 := Try.underlying9
  a9 := Try.isAgg9
  z9 := Try.sizeOf9
  v9 := Try.zeroValue9
  t22 := Try.underlying23
  a22 := Try.isAgg23
  z22 := Try.sizeOf23
  v22 := Try.zeroValue23
  t25 := Try.underlying95
  a25 := Try.isAgg95
  z25 := Try.sizeOf95
  v25 := Try.zeroValue95
  t39 := Try.underlying68
  a39 := Try.isAgg68
  z39 := Try.sizeOf68
  v39 := Try.zeroValue68
  t45 := Try.underlying118
  a45 := Try.isAgg118
  z45 := Try.sizeOf118
  v45 := Try.zeroValue118
  t46 := Try.underlying119
  a46 := Try.isAgg119
  z46 := Try.sizeOf119
  v46 := Try.zeroValue119
  t50 := Try.underlying123
  a50 := Try.isAgg123
  z50 := Try.sizeOf123
  v50 := Try.zeroValue123
  t53 := Try.underlying126
  a53 := Try.isAgg126
  z53 := Try.sizeOf126
  v53 := Try.zeroValue126
  t55 := Try.underlying128
  a55 := Try.isAgg128
  z55 := Try.sizeOf128
  v55 := Try.zeroValue128
  t66 := Try.underlying136
  a66 := Try.isAgg136
  z66 := Try.sizeOf136
  v66 := Try.zeroValue136
  t70 := Try.underlying140
  a70 := Try.isAgg140
  z70 := Try.sizeOf140
  v70 := Try.zeroValue140
  t76 := Try.underlying144
  a76 := Try.isAgg144
  z76 := Try.sizeOf144
  v76 := Try.zeroValue144
  t77 := Try.underlying129
  a77 := Try.isAgg129
  z77 := Try.sizeOf129
  v77 := Try.zeroValue129 }
end Go.Proofs
end

section
namespace Go.Proofs.Ytomogkhdfaiekaa.PLin
open Go.Proofs.Ytomogkhdfaiekaa.HW Go.Proofs.Ytomogkhdfaiekaa.HSet Go.RowKit Go.Proofs.YtomogkhdfaiekaaW.PrintWords Go.Proofs.YtomogkhdfaiekaaW.PrintLast Go.Proofs.YtomogkhdfaiekaaW.PrintMore
open Go.Shelf
open Go.Sort (SWO HoldsK flatK get_flatK)
set_option linter.unusedVariables false
set_option linter.unusedSimpArgs false

/-- Places whose differences are whole numbers of 64 bits. -/
def okF (p : S25) : Prop := (-1152921504606846976 ≤ p.f0 ∧ p.f0 ≤ 1152921504606846976) ∧ (-1152921504606846976 ≤ p.f1 ∧ p.f1 ≤ 1152921504606846976)
abbrev PF := { p : S25 // okF p }
instance : Inhabited PF := ⟨⟨⟨0, 0⟩, by unfold okF; simp⟩⟩
theorem okP_of_okF {p : S25} (h : okF p) : okP p := ⟨wf_i64 (by have := h.1.1; omega) (by have := h.1.2; omega), wf_i64 (by have := h.2.1; omega) (by have := h.2.2; omega)⟩

def cfP (p q : S25) : Int := if p.f1 = q.f1 then p.f0 - q.f0 else p.f1 - q.f1
def cfF (p q : PF) : Int := cfP p.1 q.1
def encF (p : PF) : List Value := [.int .i64 p.1.f0, .int .i64 p.1.f1]
/-- By rows: p stands ahead of q, or is it. -/
def leP (p q : S25) : Bool := !decide (cfP q p < 0)
def sortP (l : List S25) : List S25 := l.mergeSort leP

theorem cfP_lt (p q : S25) : cfP p q < 0 ↔ p.f1 < q.f1 ∨ p.f1 = q.f1 ∧ p.f0 < q.f0 := by
  unfold cfP; split <;> omega

theorem swoF : SWO (ltOf cfF) where
  irrefl x := by unfold ltOf cfF; exact decide_eq_false (by rw [cfP_lt]; omega)
  trans x y z h1 h2 := by
    unfold ltOf cfF at *
    have a := of_decide_eq_true h1; have b := of_decide_eq_true h2
    rw [cfP_lt] at a b
    exact decide_eq_true (by rw [cfP_lt]; omega)
  ntrans x y z h1 h2 := by
    unfold ltOf cfF at *
    have a := of_decide_eq_false h1; have b := of_decide_eq_false h2
    rw [cfP_lt] at a b
    exact decide_eq_false (by rw [cfP_lt]; omega)

theorem totF (x y : PF) (h1 : ltOf cfF x y = false) (h2 : ltOf cfF y x = false) : x = y := by
  unfold ltOf cfF at *
  have a := of_decide_eq_false h1; have b := of_decide_eq_false h2
  rw [cfP_lt] at a b
  apply Subtype.ext
  rw [S25.ext_iff']
  omega

theorem wrapF {a b : Int} (ha : -1152921504606846976 ≤ a ∧ a ≤ 1152921504606846976) (hb : -1152921504606846976 ≤ b ∧ b ≤ 1152921504606846976) : wrap64 (a - b) = a - b := by
  unfold wrap64; omega

set_option maxHeartbeats 1000000 in
theorem closure59 (x y : PF) (W : World) : Calls Try.prog 59 #[.agg #[.int .i64 x.1.f0, .int .i64 x.1.f1], .agg #[.int .i64 y.1.f0, .int .i64 y.1.f1]] W fun e w' => e = .returned (.int .i64 (cfF x y)) ∧ ∃ q os', w' = Sort.grow (W.drewN q) os' := by
  have hx := x.2; have hy := y.2
  obtain ⟨r, hr⟩ : ∃ r, cfF x y = r := ⟨_, rfl⟩
  rw [hr]
  obtain ⟨a0, ha0⟩ : ∃ a, x.1.f0 = a := ⟨_, rfl⟩
  obtain ⟨a1, ha1⟩ : ∃ a, x.1.f1 = a := ⟨_, rfl⟩
  obtain ⟨b0, hb0⟩ : ∃ a, y.1.f0 = a := ⟨_, rfl⟩
  obtain ⟨b1, hb1⟩ : ∃ a, y.1.f1 = a := ⟨_, rfl⟩
  unfold cfF cfP at hr
  unfold okF at hx hy
  rw [ha0, ha1, hb0, hb1] at hr
  rw [ha0, ha1] at hx
  rw [hb0, hb1] at hy
  rw [ha0, ha1, hb0, hb1]
  clear ha0 ha1 hb0 hb1
  by_cases c : a1 = b1
  · subst c
    rw [if_pos rfl] at hr
    have w1 := Aside0.mk ((wrapF hx.1 hy.1).trans hr)
    clear hr hx hy
    go_enter Try.func59, Try.ntmps59
    go_wp2
    go_ret
    exact ⟨congrArg (fun z => Ending.returned (.int .i64 z)) w1.out, 0, _, by rw [Sort.alloc_eq_grow, Sort.alloc_eq_grow, Sort.grow_grow]; rfl⟩
  · rw [if_neg c] at hr
    have c' : (a1 != b1) = true := bne_iff_ne.2 c
    have w1 := Aside0.mk ((wrapF hx.2 hy.2).trans hr)
    clear hr hx hy c
    go_enter Try.func59, Try.ntmps59
    go_wp2
    go_ret
    exact ⟨congrArg (fun z => Ending.returned (.int .i64 z)) w1.out, 0, _, by rw [Sort.alloc_eq_grow, Sort.alloc_eq_grow, Sort.grow_grow]; rfl⟩

theorem isAgg25 (w : World) : (isAgg 25).run Try.prog w = .ok true w := by kernel_rfl
theorem sizeOf25 (w : World) : (Go.sizeOf 25).run Try.prog w = .ok 2 w := by kernel_rfl

/-- The sort of a row of places. -/
theorem sortF (blk off cap : Nat) (d : Array PF) (w : World) (hH : HoldsK encF 2 w blk off d) (hblk : blk < w.heap.size) (hsz : d.size < 4611686018427387904) :
    Calls Try.prog 58 #[.slice (some ⟨blk, off, none⟩) d.size cap, .func (.func 59) #[] #[]] w fun e w' =>
      e = .returned (.tuple #[]) ∧ ∃ n os, w' = sortWorldK encF 2 w blk off n (d.toList.mergeSort fun x y => !(ltOf cfF) y x).toArray os := by
  have eg : ∀ args w, (callFunc 59 args).run Try.prog w = .ok (.enter 59 args) w := enters_of Try.func59 (by kernel_rfl) rfl
  exact AnyQ.slices_SortFunc_total Try.sortPt 2 isAgg25 sizeOf25 encF (fun _ => rfl) (fun x v hv => by simp [encF] at hv; rcases hv with rfl | rfl <;> rfl) cfF swoF 59 #[] blk off cap d w eg
    (fun _ _ _ _ x y => closure59 x y _) hH hblk hsz totF

/-! The bridge between a row of the call's own and the sort's words. -/
theorem heap_sortedV {w : World} {g n : Nat} {os : Array Obj} {cur : Array Value} {e : TypeId} {fr : Nat × Nat} (F : Array Value) (hb : w.heap[g]? = some (.cells cur e fr)) :
    (Sort.grow (Sort.putRow id (Sort.ahead w n) g 0 F) os).heap[g]? = some (.cells (Sort.putCells id 0 F cur) e fr) := by
  have hg : g < w.heap.size := (Array.getElem?_eq_some_iff.1 hb).1
  rw [Sort.heap_grow_old _ _ (by simpa using hg)]
  simp [Sort.putRow, Sort.mapBlock, Sort.ahead, Array.getElem?_modify, hb, Sort.onCells]

theorem grownBy_sortedV {w : World} {g n : Nat} {os : Array Obj} (F : Array Value) : w.grownBy (Sort.grow (Sort.putRow id (Sort.ahead w n) g 0 F) os) (some g) := by
  refine ⟨rfl, rfl, rfl, by simp, fun k hk hne => ?_⟩
  rw [Sort.heap_grow_old _ _ (by simpa using hk)]
  have : g ≠ k := fun e => hne (by rw [e])
  simp [Sort.putRow, Sort.mapBlock, Sort.ahead, Array.getElem?_modify, this]

theorem take_putCellsV (cur F : Array Value) (h : F.size ≤ cur.size) : (Sort.putCells id 0 F cur).toList.take F.size = F.toList := by
  apply List.ext_getElem?
  intro j
  by_cases hj : j < F.size
  · rw [List.getElem?_take_of_lt hj, Array.getElem?_toList]
    simp [Sort.putCells, hj, show j < cur.size by omega]
  · rw [List.getElem?_take_eq_none (by omega), List.getElem?_eq_none (by simp; omega)]

/-- The cells of places, laid one behind the other. -/
def flatP (xs : List S25) : List Value := xs.flatMap fun p => [.int .i64 p.f0, .int .i64 p.f1]
theorem flatP_length (xs : List S25) : (flatP xs).length = xs.length * 2 := by
  induction xs with
  | nil => rfl
  | cons a l ih => simp only [flatP, List.flatMap_cons, List.length_append, List.length_cons, List.length_nil] at ih ⊢; omega
theorem flatP_get (xs : List S25) : ∀ j, j < xs.length * 2 → (flatP xs)[j]? = some (if j % 2 = 0 then .int .i64 (xs.getD (j / 2) z25).f0 else .int .i64 (xs.getD (j / 2) z25).f1) := by
  induction xs with
  | nil => intro j h; simp at h
  | cons a l ih =>
    intro j h
    simp only [flatP, List.flatMap_cons] at ih ⊢
    match j with
    | 0 => rfl
    | 1 => rfl
    | j + 2 =>
      rw [List.getElem?_append_right (by simp)]
      have e : j + 2 - [Value.int .i64 a.f0, Value.int .i64 a.f1].length = j := by simp
      rw [e, ih j (by simp at h; omega)]
      have e2 : (j + 2) / 2 = j / 2 + 1 := by omega
      have e3 : (j + 2) % 2 = j % 2 := by omega
      rw [e2, e3, List.getD_cons_succ]

theorem reps_flatP {w : World} {base : Nat} {ok : Nat → Prop} (xs : List S25) : Reps (k25.M w base ok) 2 xs (flatP xs) := by
  refine ⟨flatP_length xs, fun j p hj => ?_⟩
  have hlt : j < xs.length := (List.getElem?_eq_some_iff.1 hj).1
  have hp : xs.getD j z25 = p := by rw [List.getD_eq_getElem?_getD, hj]; rfl
  have : ((flatP xs).drop (j * 2)).take 2 = [.int .i64 p.f0, .int .i64 p.f1] := by
    apply List.ext_getElem?
    intro i
    by_cases hi : i < 2
    · rw [List.getElem?_take_of_lt hi, List.getElem?_drop, flatP_get xs _ (by omega)]
      match i, hi with
      | 0, _ => rw [show (j * 2 + 0) / 2 = j by omega, show (j * 2 + 0) % 2 = 0 by omega, hp]; rfl
      | 1, _ => rw [show (j * 2 + 1) / 2 = j by omega, show (j * 2 + 1) % 2 = 1 by omega, hp]; rfl
    · rw [List.getElem?_take_eq_none (by omega), List.getElem?_eq_none (by simp; omega)]
  rw [this]
  exact k25_mkM w base ok p

theorem flat_of_reps {w : World} {base : Nat} {ok : Nat → Prop} {xs : List S25} {inner : List Value} (h : Reps (k25.M w base ok) 2 xs inner) : inner = flatP xs := by
  apply List.ext_getElem?
  intro j
  by_cases hj : j < xs.length * 2
  · rw [flatP_get xs j hj]
    have hlt : j / 2 < xs.length := by omega
    have h1 := k25_openM (h.2 (j / 2) xs[j / 2] (List.getElem?_eq_getElem hlt))
    have hp : xs.getD (j / 2) z25 = xs[j / 2] := by rw [List.getD_eq_getElem?_getD, List.getElem?_eq_getElem hlt]; rfl
    have h2 : ((inner.drop (j / 2 * 2)).take 2)[j % 2]? = inner[j]? := by
      rw [List.getElem?_take_of_lt (by omega), List.getElem?_drop, show j / 2 * 2 + j % 2 = j by omega]
    rw [← h2, h1, hp]
    have : j % 2 = 0 ∨ j % 2 = 1 := by omega
    rcases this with e | e <;> rw [e] <;> rfl
  · rw [List.getElem?_eq_none (by rw [h.1]; omega), List.getElem?_eq_none (by rw [flatP_length]; omega)]

theorem flatK_toList (d : List PF) : (flatK encF 2 d.toArray).toList = flatP (d.map (·.1)) := by
  apply List.ext_getElem?
  intro j
  by_cases hj : j < d.length * 2
  · rw [flatP_get _ j (by simpa using hj), Array.getElem?_toList]
    have hlt : j / 2 < d.length := by omega
    have hsz : j < (flatK encF 2 d.toArray).size := by simpa using hj
    have hp : (d.map (·.1)).getD (j / 2) z25 = (d[j / 2]).1 := by rw [List.getD_eq_getElem?_getD]; simp [hlt]
    have h1 := get_flatK encF 2 d.toArray j (by simpa using hj)
    rw [getElem!_pos _ j hsz] at h1
    rw [Array.getElem?_eq_getElem hsz, h1, hp]
    have hd : (d.toArray)[j / 2]! = d[j / 2] := by rw [getElem!_pos _ _ (by simpa using hlt)]; simp
    rw [hd]
    have : j % 2 = 0 ∨ j % 2 = 1 := by omega
    rcases this with e | e <;> rw [e] <;> rfl
  · rw [List.getElem?_eq_none (by simp; omega), List.getElem?_eq_none (by rw [flatP_length]; simp; omega)]

/-- A row of places is what the sort asks for; behind the sort it is the sorted row. -/
theorem row_sorts {w : World} {base n cap g : Nat} {xs : List S25} (h : k25.R 25 w base (fun _ => True) (.slice (some ⟨g, 0, none⟩) n cap) xs) (hall : ∀ p ∈ xs, okF p) :
    n = xs.length ∧ ∃ d : List PF, d.map (·.1) = xs ∧ HoldsK encF 2 w g 0 d.toArray ∧ g < w.heap.size ∧ base ≤ g ∧
      ∀ m os, k25.R 25 (sortWorldK encF 2 w g 0 m (d.mergeSort fun x y => !(ltOf cfF) y x).toArray os) base (fun _ => True) (.slice (some ⟨g, 0, none⟩) n cap) (sortP xs) := by
  obtain ⟨h0, inner, hown, hrep⟩ := h
  have hflat := flat_of_reps hrep
  rcases hown.2 with ⟨hv, _⟩ | ⟨g', cap', cur, hv, hb, hh, hnc, hcm, hcs, htake⟩
  · cases hv
  injection hv with ha hn hc
  injection ha with ha
  injection ha with hg
  subst hg; subst hc; subst hn
  have sz : k25.sz = 2 := rfl
  rw [sz] at htake hcs
  refine ⟨rfl, xs.pmap (fun p hp => (⟨p, hp⟩ : PF)) hall, by rw [List.map_pmap]; simp, ?_, blk_lt hh, hb, fun m os => ?_⟩
  · intro j hj
    have hsz : (xs.pmap (fun p hp => (⟨p, hp⟩ : PF)) hall).length = xs.length := by simp
    have hj' : j < xs.length * 2 := by simpa using hj
    refine ⟨?_, blk_frozen hh _⟩
    rw [Nat.zero_add, blk_cell hh, ← Array.getElem?_toList]
    have e1 : cur.toList[j]? = inner[j]? := by rw [← htake, List.getElem?_take_of_lt hj']
    rw [e1, hflat, getElem!_pos _ j hj]
    have e2 := flatK_toList (xs.pmap (fun p hp => (⟨p, hp⟩ : PF)) hall)
    rw [List.map_pmap] at e2
    simp only [List.pmap_eq_map, List.map_id'] at e2
    rw [show flatP xs = (flatK encF 2 (xs.pmap (fun p hp => (⟨p, hp⟩ : PF)) hall).toArray).toList from e2.symm, Array.getElem?_toList, Array.getElem?_eq_getElem hj]
    rfl
  · have hD : (((xs.pmap (fun p hp => (⟨p, hp⟩ : PF)) hall).mergeSort fun x y => !(ltOf cfF) y x).map (·.1)) = sortP xs := by
      rw [List.map_mergeSort (r := fun x y => !(ltOf cfF) y x) (s := leP) (fun a _ b _ => rfl), List.map_pmap]
      simp [sortP]
    have hlen : (sortP xs).length = xs.length := by unfold sortP; exact List.length_mergeSort _
    have hF : (flatK encF 2 ((xs.pmap (fun p hp => (⟨p, hp⟩ : PF)) hall).mergeSort fun x y => !(ltOf cfF) y x).toArray).toList = flatP (sortP xs) := by rw [flatK_toList, hD]
    have hFs : (flatK encF 2 ((xs.pmap (fun p hp => (⟨p, hp⟩ : PF)) hall).mergeSort fun x y => !(ltOf cfF) y x).toArray).size = xs.length * 2 := by
      rw [← Array.length_toList, hF, flatP_length, hlen]
    refine ⟨fun _ _ => trivial, flatP (sortP xs), ⟨by rw [flatP_length]; rfl, .inr ⟨g, cap, _, by rw [hlen], hb, heap_sortedV _ hh, by rw [hlen]; exact hnc, hcm, by simp [Sort.putCells, hcs]; rfl, ?_⟩⟩, reps_flatP _⟩
    have := take_putCellsV cur (flatK encF 2 ((xs.pmap (fun p hp => (⟨p, hp⟩ : PF)) hall).mergeSort fun x y => !(ltOf cfF) y x).toArray) (by rw [hFs, hcs]; exact Nat.mul_le_mul_right _ hnc)
    rw [hFs, hF] at this
    rw [hlen]
    exact this

theorem grownBy_world {w : World} {g m : Nat} {d : Array PF} {os : Array Obj} : w.grownBy (sortWorldK encF 2 w g 0 m d os) (some g) := grownBy_sortedV _

/-- A range's own block is no row of cells. -/
theorem range_ne {α : Type} [DecidableEq α] {P : Program} {K : TypeId} {okp : α → Prop} {kl : α → Lit} {w : World} {b r : Nat} {S vs : List α} (h : RangeAt P K okp kl w b r S vs) {base : Nat} {v : Value} {xs : List S25}
    (hv : k25.R 25 w base (fun _ => True) v xs) : some r ≠ v.ownBlock := by
  intro he
  obtain ⟨_, _, _, _, D, left, cnt, ⟨es, clock, since, seen, c0, _, _, _, _, hr, _⟩, _⟩ := h
  obtain ⟨cells, hc⟩ := Kd.R_typed hv r he.symm
  rw [hc] at hr
  cases hr
theorem k25_grown {w w1 : World} {base : Nat} {ok : Nat → Prop} {v : Value} {xs : List S25} {row : Option Nat} (h : k25.R 25 w base ok v xs) (hg : w.grownBy w1 row) (hne : row ≠ v.ownBlock ∨ v.ownBlock = none) : k25.R 25 w1 base ok v xs := by
  obtain ⟨h0, inner, hown, hrep⟩ := h
  refine ⟨h0, inner, own_other hown hg (hne.elim (fun h => .inr (Ne.symm h)) .inl), hrep.imp_ fun p c hp => ?_⟩
  rw [k25_openM hp]
  exact k25_mkM _ _ _ _
theorem k25_notlow {w : World} {base b : Nat} {ok : Nat → Prop} {v : Value} {xs : List S25} (h : k25.R 25 w base ok v xs) (hb : b < base) : some b ≠ v.ownBlock := fun e => by
  have := Kd.R_base h b e.symm
  omega
theorem leP_trans (a b c : S25) (h1 : leP a b = true) (h2 : leP b c = true) : leP a c = true := by
  unfold leP at *
  simp only [Bool.not_eq_true', decide_eq_false_iff_not, cfP_lt] at *
  omega
theorem leP_total (a b : S25) : (leP a b || leP b a) = true := by
  unfold leP
  simp only [Bool.or_eq_true, Bool.not_eq_true', decide_eq_false_iff_not, cfP_lt]
  omega
theorem leP_anti (a b : S25) (h1 : leP a b = true) (h2 : leP b a = true) : a = b := by
  unfold leP at *
  simp only [Bool.not_eq_true', decide_eq_false_iff_not, cfP_lt] at *
  rw [S25.ext_iff']
  omega
theorem sortP_sorted (l : List S25) : (sortP l).Pairwise (fun a b => leP a b = true) := List.pairwise_mergeSort leP_trans leP_total l
theorem sortP_perm (l : List S25) : (sortP l).Perm l := List.mergeSort_perm l leP
theorem sorted_unique : ∀ (l l' : List S25), l.Perm l' → l.Pairwise (fun a b => leP a b = true) → l'.Pairwise (fun a b => leP a b = true) → l = l'
  | [], l', hp, _, _ => by rw [List.nil_perm.1 hp]
  | a :: l, l', hp, h1, h2 => by
    cases l' with
    | nil => exact absurd hp.length_eq (by simp)
    | cons b l' =>
      obtain ⟨a1, a2⟩ := List.pairwise_cons.1 h1
      obtain ⟨b1, b2⟩ := List.pairwise_cons.1 h2
      have e : a = b := by
        have ha : a ∈ b :: l' := hp.mem_iff.1 (by simp)
        have hb : b ∈ a :: l := hp.mem_iff.2 (by simp)
        rcases List.mem_cons.1 ha with e | ha
        · exact e
        rcases List.mem_cons.1 hb with e | hb
        · exact e.symm
        exact leP_anti a b (a1 b hb) (b1 a ha)
      subst e
      rw [sorted_unique l l' (List.perm_cons a |>.1 hp) a2 b2]
theorem sortP_congr {l l' : List S25} (h : l.Perm l') : sortP l = sortP l' :=
  sorted_unique _ _ ((sortP_perm l).trans (h.trans (sortP_perm l').symm)) (sortP_sorted l) (sortP_sorted l')

def lenV : Value → Nat
  | .slice _ n _ => n
  | _ => 0

set_option maxHeartbeats 1000000 in
set_option maxRecDepth 100000 in
theorem linear_set_list.calls (b : Nat) (S : List S25) (w : World) (h : PSet w b S) (hall : ∀ p ∈ S, okF p) (hn : S.length ≤ 1099511627776) :
    Calls Try.prog 46 #[.map (some b)] w fun e w' => ∃ v0_ : Value, e = .returned v0_ ∧ k25.R 25 w' w.heap.size (fun _ => True) v0_ (sortP S) ∧ Below w.heap.size w w' := by
  obtain ⟨i0, hi, hz0, hz1, hz2⟩ := info_parts info25
  have hlt := h.lt
  obtain ⟨w1, hrun, hown, hg1⟩ := run_make_own (P := Try.prog) w w.heap.size 23 25 i0 _ 2 Try.underlying23 hi hz0 hz1 .i64 .i64 S.length (by rw [hz2]; omega) (by unfold maxLen; omega) (Nat.le_refl _)
  have hR0 : k25.R 25 w1 w.heap.size (fun _ => True) (.slice (some ⟨w.heap.size, 0, none⟩) 0 S.length) [] := ⟨fun _ _ => trivial, [], hown, Reps.none _ _⟩
  have h1 := h.grown hg1 (by simp)
  have hb1 : Below w.heap.size w w1 := (Below.refl _ w).grown hg1 (Nat.le_refl _) (fun _ e => by cases e)
  have hz1' := hb1.size
  clear hown hg1 hz0 hz1 hz2 hi
  go_enter Try.func46, Try.ntmps46
  go_wp2_with (first | (at_len; refine wp_len _ rfl _ 73 rfl 89 Try.underlying73 rfl h ?_) | (at_range; refine wp_range _ rfl _ 73 rfl 89 C25 Try.underlying73 rfl h1 ?_; intro w2 hr2 hg2 hs2))
  go_frame
  clear hrun
  have hR2 := Aside0.mk (Kd.R_below hR0 ((Below.refl _ w1).grown hg2 (Nat.le_refl _) (fun _ e => by cases e)))
  have hb2 := Aside0.mk (hb1.grown hg2 hz1' (fun _ e => by cases e))
  clear hR0 hg2 hb1 h1
  have hr2' := Aside0.mk hr2; clear hr2
  generalize w1.heap.size = r at *
  go_loopw [3] (fun v wr => ∃ vs, RangeAt Try.prog 25 okP klP wr b r S vs ∧ k25.R 25 wr w.heap.size (fun _ => True) v vs ∧ Below w.heap.size w wr ∧ w.heap.size ≤ wr.heap.size ∧ ∃ g c, v = .slice (some ⟨g, 0, none⟩) vs.length c) (fun v _ => S.length - lenV v)
  case atStart => exact ⟨[], hr2'.out, hR2.out, hb2.out, by omega, _, _, rfl⟩
  case round =>
    obtain ⟨vs, hrg, hR, hB, hzr, g, c, rfl⟩ := hrel
    have HR := Aside0.mk hR; clear hR
    have HB := Aside0.mk hB; clear hB
    have hne := Aside0.mk (range_ne hrg HR.out)
    go_wp2_with (first | (at_next; refine wp_next _ rfl _ rfl C25 rfl hrg ?_ ?_))
    · intro hperm
      obtain ⟨_, d, hd, hH, hgl, _, hafter⟩ := row_sorts HR.out (fun p hp => hall p (hperm.mem_iff.1 hp))
      have hdl : d.toArray.size = vs.length := by rw [← hd]; simp
      have hcon := sortF g 0 c d.toArray wr hH hgl (by rw [hdl, hperm.length_eq]; omega)
      rw [hdl] at hcon
      have hcon' := Aside0.mk hcon
      have hafter' := Aside0.mk hafter
      clear hcon hafter hH hd hdl
      go_wp2_with (go_at_call 58; refine hcon'.out.mono ?_; rintro e w3 ⟨rfl, m, os, rfl⟩)
      go_ret
      refine ⟨_, rfl, ?_, HB.out.grown grownBy_world hzr (fun k e => by cases e; exact Kd.R_base HR.out _ rfl)⟩
      rw [← sortP_congr hperm]
      exact hafter'.out m os
    · intro p w3 hpS hpv hpk hlen hrg3 hg3 hs3 hen
      have HR3 := Aside0.mk (k25_grown HR.out hg3 (.inl hne.out))
      have HB3 := Aside0.mk (HB.out.grown hg3 hzr (fun k e => by cases e; exact (by omega : w.heap.size ≤ r)))
      have hbl := Aside0.mk (k25_notlow HR.out hlt)
      have hz3 : w.heap.size ≤ w3.heap.size := by omega
      clear HR HB hg3 hs3
      unfold mkP at hen ⊢
      go_wp2_with (at_builtin; refine Kd.R_append k25 (w0 := w) w.heap.size rfl (.tmp 14) (.tmp 16) 23 25 (.agg #[(.int .i64 0), (.int .i64 0)]) 16 rfl Try.underlying23 info25 rfl (by decide) (by omega) (.slice (some ⟨g, 0, none⟩) vs.length c) vs p [.int .i64 p.f0, .int .i64 p.f1] (fun _ => True) (fun _ => False) rfl ?aX ?aP (fun _ hk => hk.elim) (fun _ _ => trivial) ?aO ?aB ?aS ?aL ?_; (case aX => rw [size_alloc]; rfl); (case aP => exact k25_mkM _ _ _ p); (case aO => exact Kd.R_alloc HR3.out _); (case aB => exact below_alloc HB3.out _); (case aS => simp; omega); (case aL => omega); intro v4 w4 hR4 hB4 hg4 hat4)
      go_roundw
      case rel =>
        obtain ⟨g4, c4, hv4, _⟩ := Kd.R_form hR4 (by simp)
        exact ⟨vs ++ [p], (hrg3.alloc _).grown hg4 hbl.out hne.out, hR4, hB4, by have := hg4.size; simp at this; omega, g4, c4, hv4⟩
      case measure =>
        obtain ⟨g4, c4, hv4, _⟩ := Kd.R_form hR4 (by simp)
        rw [hv4]
        simp [lenV]; omega
end Go.Proofs.Ytomogkhdfaiekaa.PLin
end

section
namespace Go.Proofs.Ytomogkhdfaiekaa.PLin
open Go.Proofs.Ytomogkhdfaiekaa.HW Go.Proofs.Ytomogkhdfaiekaa.HSet Go.RowKit Go.Proofs.YtomogkhdfaiekaaW.PrintWords Go.Proofs.YtomogkhdfaiekaaW.PrintLast Go.Proofs.YtomogkhdfaiekaaW.PrintMore
set_option linter.unusedVariables false
set_option linter.unusedSimpArgs false

def nearN (a : Int) : Bool := decide (-1099511627776 ≤ a) && decide (a ≤ 1099511627776)
def nearP (p : S25) : Bool := nearN p.f0 && nearN p.f1
theorem nearN_iff (a : Int) : nearN a = true ↔ -1099511627776 ≤ a ∧ a ≤ 1099511627776 := by
  unfold nearN; simp
theorem okF_of_near {p : S25} (h : nearP p = true) : okF p := by
  unfold nearP at h
  rw [Bool.and_eq_true, nearN_iff, nearN_iff] at h
  unfold okF; omega

theorem near_int (a : Int) : ∃ r, whole_Near_int.f 3 a (-1099511627776) 1099511627776 = some r ∧ (r == a) = nearN a := by
  unfold whole_Near_int.f
  by_cases h1 : a < -1099511627776
  · rw [if_pos h1]
    refine ⟨-1099511627776, by simp [whole_Near_int.j0], ?_⟩
    rw [Bool.eq_iff_iff, beq_iff_eq, nearN_iff]; omega
  · rw [if_neg h1]
    by_cases h2 : a > 1099511627776
    · refine ⟨1099511627776, by simp [whole_Near_int.j0, h2], ?_⟩
      rw [Bool.eq_iff_iff, beq_iff_eq, nearN_iff]; omega
    · refine ⟨a, by simp [whole_Near_int.j0]; omega, ?_⟩
      rw [Bool.eq_iff_iff, beq_iff_eq, nearN_iff]; omega

theorem near_some (a b : Int) : linear_near.f 3 a b = some (nearN a && nearN b) := by
  unfold linear_near.f
  obtain ⟨r, h1, h2⟩ := near_int a
  obtain ⟨s, h3, h4⟩ := near_int b
  rw [h1]; simp only [Option.bind_some]
  by_cases e : r = a
  · rw [if_pos e, h3]
    simp only [Option.bind_some]
    rw [← h2, ← h4]; simp [e]
  · rw [if_neg e, ← h2]
    simp [e]

def linear_Check.f (l : List S25) : Option Int :=
  if l.length > 64 then some 6 else if l.all nearP = true then (if l.Nodup then some 0 else some 170) else some 5

theorem ins_all_length (l : List S25) : ((l.foldl ins []).length = l.length) ↔ l.Nodup := by
  have key : ∀ (l S : List S25), S.Nodup → (((l.foldl ins S).length = S.length + l.length) ↔ (S ++ l).Nodup) := by
    intro l
    induction l with
    | nil => intro S hS; simp [hS]
    | cons a l ih =>
      intro S hS
      simp only [List.foldl_cons]
      by_cases ha : a ∈ S
      · have e : ins S a = S := by unfold ins; rw [if_pos ha]
        rw [e]
        have := insAll_len l S
        constructor
        · intro h; simp at h; omega
        · intro h
          have := List.nodup_append.1 h
          exact absurd rfl (this.2.2 a ha a (by simp))
      · have e : ins S a = S ++ [a] := by unfold ins; rw [if_neg ha]
        have hn : (S ++ [a]).Nodup := e ▸ nodup_ins hS a
        rw [e, show S ++ a :: l = (S ++ [a]) ++ l by simp, ← ih (S ++ [a]) hn]
        simp; omega
  have := key l [] List.nodup_nil
  simpa using this

theorem all_take_succ (l : List S25) (k : Nat) (h : k < l.length) : (l.take (k + 1)).all nearP = ((l.take k).all nearP && nearP (rd_T25 l k)) := by
  rw [List.take_succ_eq_append_getElem h, List.all_append]
  unfold rd_T25
  simp [h]

set_option maxHeartbeats 1000000 in
set_option maxRecDepth 100000 in
theorem linear_Check.calls (A0 : Option Addr) (c0 : Nat) (l0 : List S25) (r : Int) (w : World) (hr0 : Kd.C k25 w A0 l0.length l0) (hc0 : l0.length ≤ c0) (h : linear_Check.f l0 = some r) :
    Calls Try.prog 15 #[.slice A0 l0.length c0] w fun e w' => e = .returned (.int .i64 r) ∧ Below w.heap.size w w' := by
  have hmax := Kd.C_max hr0
  have H := Aside0.mk h; clear h
  by_cases h1 : l0.length > 64
  · have H' := H.out
    unfold linear_Check.f at H'
    rw [if_pos h1] at H'
    obtain rfl := Option.some.inj H'
    have h1' : decide (64 < (l0.length : Int)) = true := decide_eq_true (by omega)
    clear h1 H H'
    go_enter Try.func15, Try.ntmps15
    go_wp2
    go_ret
    exact ⟨rfl, Below.refl _ _⟩
  have h1' : decide (64 < (l0.length : Int)) = false := decide_eq_false (by omega)
  go_enter Try.func15, Try.ntmps15
  go_wp2
  go_loopw [12] (fun i wr => ∃ k : Nat, k ≤ l0.length ∧ i = .int .i64 k ∧ (l0.take k).all nearP = true ∧ Below w.heap.size w wr) (fun i _ => l0.length - (intOf i).toNat)
  case atStart => exact ⟨0, Nat.zero_le _, rfl, by simp, Below.refl _ _⟩
  case round =>
    obtain ⟨k, hk, rfl, hall, hB⟩ := hrel
    have HB := Aside0.mk hB; clear hB
    have HA := Aside0.mk hall; clear hall
    by_cases hlt : k < l0.length
    · obtain ⟨ad, hA, e0, e1⟩ := at_T25 hr0 (k : Int) (by omega) (by omega)
      subst hA
      have d0 := pw_cell_below HB.out e0
      have d1 := pw_cell_below HB.out e1
      clear e0 e1
      rw [Int.toNat_natCast] at d0 d1
      have hts := Aside0.mk (all_take_succ l0 k hlt)
      have hmem := Aside0.mk (rd_mem l0 k hlt k rfl)
      generalize rd_T25 l0 (k : Int) = p at *
      go_wp2_with fail
      have hns := near_some p.f0 p.f1
      cases hb : (nearN p.f0 && nearN p.f1) with
      | true =>
        rw [hb] at hns
        refine (linear_near.calls 3 _ _ _ _ hns).mono ?_
        rintro e w1 ⟨rfl, hb1⟩
        clear hns
        obtain ⟨hb1', hz1, _⟩ := alloc1_below hb1
        clear hb1
        have hz := HB.out.size
        have HB1 := Aside0.mk (below_then HB.out hz hb1')
        clear hz hz1 hb1'
        have hb' := Aside0.mk hb; clear hb
        go_wp2
        go_roundw
        case rel => exact ⟨k + 1, by omega, by go_num, by rw [hts.out, HA.out, Bool.true_and]; exact hb'.out, HB1.out⟩
        case measure => simp [intOf]; omega
      | false =>
        rw [hb] at hns
        refine (linear_near.calls 3 _ _ _ _ hns).mono ?_
        rintro e w1 ⟨rfl, hb1⟩
        clear hns
        obtain ⟨hb1', hz1, _⟩ := alloc1_below hb1
        clear hb1
        have hz := HB.out.size
        have HB1 := Aside0.mk (below_then HB.out hz hb1')
        clear hz hz1 hb1'
        have hr5 : r = 5 := by
          have H' := H.out
          unfold linear_Check.f at H'
          rw [if_neg h1, if_neg (fun hall => by rw [List.all_eq_true] at hall; have := hall p hmem.out; unfold nearP at this; rw [hb] at this; cases this)] at H'
          exact (Option.some.inj H').symm
        subst hr5
        clear hb
        go_wp2
        go_ret
        exact ⟨rfl, HB1.out⟩
    · have hkl : l0.take k = l0 := List.take_of_length_le (by omega)
      have HA' := HA.out
      rw [hkl] at HA'
      clear hkl HA
      have hc := Kd.C_below hr0 HB.out
      have H' := H.out
      unfold linear_Check.f at H'
      rw [if_neg h1, if_pos HA'] at H'
      have hok : ∀ p ∈ l0, okP p := fun p hp => okP_of_okF (okF_of_near (List.all_eq_true.1 HA' p hp))
      have hof := Aside0.mk (linear_of.calls A0 c0 l0 wr hc hc0 hok)
      have hz := HB.out.size
      by_cases hnd : l0.Nodup
      · rw [if_pos hnd] at H'
        obtain rfl := Option.some.inj H'
        have hd : decide ((l0.foldl ins []).length = l0.length) = true := decide_eq_true ((ins_all_length l0).2 hnd)
        rw [hd] at hof
        clear hd hnd H' HA' hc
        go_wp2_with (go_at_call 41; refine hof.out.mono ?_; rintro e w1 ⟨rfl, _, hb1⟩)
        go_ret
        exact ⟨rfl, below_then HB.out hz hb1⟩
      · rw [if_neg hnd] at H'
        obtain rfl := Option.some.inj H'
        have hd : decide ((l0.foldl ins []).length = l0.length) = false := decide_eq_false (fun e => hnd ((ins_all_length l0).1 e))
        rw [hd] at hof
        clear hd hnd H' HA' hc
        go_wp2_with (go_at_call 41; refine hof.out.mono ?_; rintro e w1 ⟨rfl, _, hb1⟩)
        go_ret
        exact ⟨rfl, below_then HB.out hz hb1⟩
end Go.Proofs.Ytomogkhdfaiekaa.PLin
end

section
namespace Go.Proofs.Ytomogkhdfaiekaa.PLin
open Go.Proofs.Ytomogkhdfaiekaa.HW Go.Proofs.Ytomogkhdfaiekaa.HSet Go.RowKit Go.Proofs.YtomogkhdfaiekaaW.PrintWords Go.Proofs.YtomogkhdfaiekaaW.PrintLast Go.Proofs.YtomogkhdfaiekaaW.PrintMore
set_option linter.unusedVariables false
set_option linter.unusedSimpArgs false

/-- What comes an odd number of times. -/
def norm (l : List S25) : List S25 := l.foldl tog []
theorem tog_nodup {S : List S25} (h : S.Nodup) (p : S25) : (tog S p).Nodup := by
  unfold tog; split
  · exact h.erase p
  · rename_i hn; exact List.nodup_append.2 ⟨h, by simp, fun a ha b hb e => by simp at hb; subst hb; subst e; exact hn ha⟩
theorem mem_tog_sub {S : List S25} {p q : S25} (h : q ∈ tog S p) : q ∈ S ∨ q = p := by
  unfold tog at h; split at h
  · exact .inl (List.mem_of_mem_erase h)
  · simpa using h
theorem length_tog_le (S : List S25) (p : S25) : (tog S p).length ≤ S.length + 1 := by
  unfold tog; split
  · have := List.length_erase_le (a := p) (l := S); omega
  · simp
theorem fold_tog_nodup (l : List S25) : ∀ S : List S25, S.Nodup → (l.foldl tog S).Nodup := by
  induction l with
  | nil => intro S h; exact h
  | cons a l ih => intro S h; exact ih _ (tog_nodup h a)
theorem norm_nodup (l : List S25) : (norm l).Nodup := fold_tog_nodup l [] List.nodup_nil
theorem fold_tog_sub (l : List S25) : ∀ (S : List S25) q, q ∈ l.foldl tog S → q ∈ S ∨ q ∈ l := by
  induction l with
  | nil => intro S q h; exact .inl h
  | cons a l ih =>
    intro S q h
    rcases ih _ q h with h | h
    · rcases mem_tog_sub h with h | rfl
      · exact .inl h
      · exact .inr (by simp)
    · exact .inr (by simp [h])
theorem norm_sub {l : List S25} {q : S25} (h : q ∈ norm l) : q ∈ l := (fold_tog_sub l [] q h).elim (fun h => by simp at h) id
theorem fold_tog_length (l : List S25) : ∀ S : List S25, (l.foldl tog S).length ≤ S.length + l.length := by
  induction l with
  | nil => intro S; simp
  | cons a l ih => intro S; simp only [List.foldl_cons, List.length_cons]; have := ih (tog S a); have := length_tog_le S a; omega
theorem norm_length (l : List S25) : (norm l).length ≤ l.length := by have := fold_tog_length l []; simpa [norm] using this
theorem norm_snoc (l : List S25) (p : S25) : norm (l ++ [p]) = tog (norm l) p := by unfold norm; rw [List.foldl_append]; rfl

def addP (p q : S25) : S25 := ⟨p.f0 + q.f0, p.f1 + q.f1⟩
def prods (a b : List S25) : List S25 := a.flatMap fun p => b.map (addP p)
theorem take_succ_rd (l : List S25) (k : Nat) (h : k < l.length) : l.take (k + 1) = l.take k ++ [rd_T25 l k] := by
  rw [List.take_succ_eq_append_getElem h]
  unfold rd_T25
  simp [h]
theorem prods_length (a b : List S25) : (prods a b).length = a.length * b.length := by
  unfold prods
  induction a with
  | nil => simp
  | cons x a ih => simp only [List.flatMap_cons, List.length_append, List.length_map, ih, List.length_cons, Nat.succ_mul]; omega
theorem prods_snoc (a b : List S25) (p : S25) : prods (a ++ [p]) b = prods a b ++ b.map (addP p) := by unfold prods; simp

def linear_Times.f (a b : List S25) : Option (List S25 × Int) :=
  (linear_Check.f a).bind fun e => if e = 0 then (linear_Check.f b).bind fun e2 => if e2 = 0 then
    (if (sortP (norm (prods a b))).all nearP = true then some (sortP (norm (prods a b)), 0) else some ([], 5)) else some ([], e2) else some ([], e)

theorem check_zero {l : List S25} (h : linear_Check.f l = some 0) : l.length ≤ 64 ∧ (∀ p ∈ l, nearP p = true) ∧ l.Nodup := by
  unfold linear_Check.f at h
  split at h
  · simp at h
  · split at h
    · split at h
      · rename_i h1 h2 h3
        exact ⟨by omega, List.all_eq_true.1 h2, h3⟩
      · simp at h
    · simp at h
theorem near_bounds {p : S25} (h : nearP p = true) : (-1099511627776 ≤ p.f0 ∧ p.f0 ≤ 1099511627776) ∧ -1099511627776 ≤ p.f1 ∧ p.f1 ≤ 1099511627776 := by
  unfold nearP at h
  rw [Bool.and_eq_true, nearN_iff, nearN_iff] at h
  exact h

set_option maxHeartbeats 2000000 in
set_option maxRecDepth 100000 in
theorem times_loop (A0 : Option Addr) (c0 : Nat) (l0 : List S25) (A1 : Option Addr) (c1 : Nat) (l1 : List S25) (w : World) (hr0 : Kd.C k25 w A0 l0.length l0) (hc0 : l0.length ≤ c0) (hr1 : Kd.C k25 w A1 l1.length l1) (hc1 : l1.length ≤ c1)
    (h0 : linear_Check.f l0 = some 0) (h1 : linear_Check.f l1 = some 0) (r1 : List S25) (r2 : Int) (hres : (if (sortP (norm (prods l0 l1))).all nearP = true then some (sortP (norm (prods l0 l1)), 0) else some ([], 5)) = some (r1, r2)) :
    Calls Try.prog 20 #[.slice A0 l0.length c0, .slice A1 l1.length c1] w fun e w' => ∃ v0_ : Value, e = .returned (.tuple #[v0_, .int .i64 r2]) ∧ Kd.R k25 25 w' w.heap.size (fun _ => True) v0_ r1 ∧ Below w.heap.size w w' := by
  obtain ⟨n0, near0, nd0⟩ := check_zero h0
  obtain ⟨n1, near1, nd1⟩ := check_zero h1
  have hC0 := Aside0.mk (linear_Check.calls A0 c0 l0 0 w hr0 hc0 h0)
  have hR := Aside0.mk hres; clear hres
  have hN0 := Aside0.mk near0; clear near0
  have hN1 := Aside0.mk near1; clear near1
  have hH1 := Aside0.mk h1; clear h1 h0 nd0 nd1
  have hmm := @run_makeMap Try.prog
  have HR0 := Aside0.mk hr0; have HR1 := Aside0.mk hr1
  go_enter Try.func20, Try.ntmps20
  go_wp2_with fail
  refine hC0.out.mono ?_
  rintro e w1 ⟨rfl, hb1⟩
  have hz1 := hb1.size
  have HB1 := Aside0.mk hb1; clear hb1 hr0 hC0
  go_wp2_with fail
  refine (linear_Check.calls A1 c1 l1 0 w1 (Kd.C_below hr1 HB1.out) hc1 hH1.out).mono ?_
  rintro e w2 ⟨rfl, hb2⟩
  have hz2 := hb2.size
  have HB2 := Aside0.mk (below_then HB1.out hz1 hb2); clear hb2 HB1 hr1 hH1
  go_wp2_with fail
  have HS0 := Aside0.mk (show PSet (w2.alloc (.map #[] 0)) w2.heap.size (norm (prods (l0.take 0) l1)) from SetAt.made w2)
  have HB3 := Aside0.mk (below_alloc HB2.out (.map #[] 0))
  have hz3 : w.heap.size ≤ w2.heap.size := by omega
  clear HB2
  go_loopw [29] (fun i wr => ∃ k : Nat, k ≤ l0.length ∧ i = .int .i64 k ∧ PSet wr w2.heap.size (norm (prods (l0.take k) l1)) ∧ Below w.heap.size w wr) (fun i _ => l0.length - (intOf i).toNat)
  case atStart => exact ⟨0, Nat.zero_le _, rfl, HS0.out, HB3.out⟩
  case round =>
    clear HB3 HS0
    obtain ⟨k, hk, rfl, hs, hB⟩ := hrel
    have HS := Aside0.mk hs; clear hs
    have HB := Aside0.mk hB; clear hB
    have hzr := HB.out.size
    by_cases hlt : k < l0.length
    · obtain ⟨ad, hA, d0', d1'⟩ := at_T25 HR0.out (k : Int) (by omega) (by omega)
      subst hA
      have d0 := pw_cell_below HB.out d0'
      have d1 := pw_cell_below HB.out d1'
      clear d0' d1'
      rw [Int.toNat_natCast] at d0 d1
      have hpn := near_bounds (hN0.out _ (rd_mem l0 k hlt k rfl))
      have hts := Aside0.mk (take_succ_rd l0 k hlt)
      generalize rd_T25 l0 (k : Int) = p at *
      obtain ⟨⟨pa, pb⟩, pc, pd⟩ := hpn
      go_wp2_with fail
      obtain ⟨wo, rfl⟩ : ∃ wo : World, wo = wr := ⟨_, rfl⟩
      have hbl := HS.out.lt
      have HS1 := Aside0.mk (show PSet (wo.alloc (.cells #[.int .i64 p.f0, .int .i64 p.f1] 25)) w2.heap.size (norm (prods (l0.take k) l1 ++ (l1.take 0).map (addP p))) by simpa using HS.out.alloc _)
      have HG1 := Aside0.mk (alloc_new wo (.cells #[.int .i64 p.f0, .int .i64 p.f1] 25))
      have HB1 := Aside0.mk (below_alloc HB.out (.cells #[.int .i64 p.f0, .int .i64 p.f1] 25))
      clear d0 d1 HS HB
      generalize wo.alloc (.cells #[.int .i64 p.f0, .int .i64 p.f1] 25) = wx at *
      generalize wo.heap.size = g1 at *
      go_loopw [35] (fun j wj => ∃ m : Nat, m ≤ l1.length ∧ j = .int .i64 m ∧ PSet wj w2.heap.size (norm (prods (l0.take k) l1 ++ (l1.take m).map (addP p))) ∧ wj.heap[g1]? = some (.cells #[.int .i64 p.f0, .int .i64 p.f1] 25 (0, 0)) ∧ Below w.heap.size w wj) (fun j _ => l1.length - (intOf j).toNat)
      case atStart => exact ⟨0, Nat.zero_le _, rfl, HS1.out, HG1.out, HB1.out⟩
      case round =>
        clear HS1 HG1 HB1
        obtain ⟨m, hm, rfl, hs, hg, hB⟩ := hrel
        have HS := Aside0.mk hs; clear hs
        have HG := Aside0.mk hg; clear hg
        have HB := Aside0.mk hB; clear hB
        have hzm := HB.out.size
        by_cases hlm : m < l1.length
        · obtain ⟨ad1, hA1, d0', d1'⟩ := at_T25 HR1.out (m : Int) (by omega) (by omega)
          subst hA1
          have d0 := pw_cell_below HB.out d0'
          have d1 := pw_cell_below HB.out d1'
          clear d0' d1'
          rw [Int.toNat_natCast] at d0 d1
          have hqn := near_bounds (hN1.out _ (rd_mem l1 m hlm m rfl))
          have htm := Aside0.mk (take_succ_rd l1 m hlm)
          generalize rd_T25 l1 (m : Int) = q at *
          obtain ⟨⟨qa, qb⟩, qc, qd⟩ := hqn
          have g0 := blk_cell HG.out 0; have g1' := blk_cell HG.out 1
          simp at g0 g1'
          have hgl := blk_lt HG.out
          go_wp2_with fail
          have hlen := norm_length (prods (l0.take k) l1 ++ (l1.take m).map (addP p))
          have hmul : k * l1.length ≤ 64 * 64 := Nat.mul_le_mul (by omega) n1
          simp only [List.length_append, List.length_map, List.length_take, prods_length, Nat.min_eq_left hk, Nat.min_eq_left hm] at hlen
          refine (linear_set_turn.calls _ _ (addP p q) ⟨wf_i64 (by simp only [addP]; omega) (by simp only [addP]; omega), wf_i64 (by simp only [addP]; omega) (by simp only [addP]; omega)⟩ _ (HS.out.alloc _) (by unfold maxLen; omega)).mono ?_
          rintro e w4 ⟨rfl, hs4, hg4⟩
          have HS4 := Aside0.mk (show PSet w4 w2.heap.size (norm (prods (l0.take k) l1 ++ (l1.take (m + 1)).map (addP p))) by
            rw [htm.out, List.map_append, ← List.append_assoc, show [q].map (addP p) = [addP p q] from rfl, norm_snoc]; exact hs4)
          have HB4 := Aside0.mk (below_turn (below_alloc HB.out _) (by rw [size_alloc]; omega) hz3 hg4)
          have HG4 := Aside0.mk (blk_grown (blk_alloc HG.out _) hg4 (fun e => by injection e with e; omega))
          clear hs4 hg4 d0 d1 g0 g1' hlen hmul HS HB HG
          go_wp2
          go_roundw
          case rel => exact ⟨m + 1, by omega, by go_num, HS4.out, HG4.out, HB4.out⟩
          case measure => simp [intOf]; omega
        · have hml : l1.take m = l1 := List.take_of_length_le (by omega)
          have HS4 := Aside0.mk (show PSet wr w2.heap.size (norm (prods (l0.take (k + 1)) l1)) by
            rw [hts.out, prods_snoc]; have := HS.out; rwa [hml] at this)
          clear hml HS
          go_wp2
          go_roundw
          case rel => exact ⟨k + 1, by omega, by go_num, HS4.out, HB.out⟩
          case measure => simp [intOf]; omega
    · have hkl : l0.take k = l0 := List.take_of_length_le (by omega)
      have HS4 := Aside0.mk (show PSet wr w2.heap.size (norm (prods l0 l1)) by have := HS.out; rwa [hkl] at this)
      clear hkl HS
      have hprod : ∀ p ∈ norm (prods l0 l1), okF p := fun p hp => by
        obtain ⟨a, ha, hab⟩ := List.mem_flatMap.1 (norm_sub hp)
        obtain ⟨b, hb, rfl⟩ := List.mem_map.1 hab
        have := near_bounds (hN0.out a ha); have := near_bounds (hN1.out b hb)
        unfold okF addP; simp only; omega
      have hlen := norm_length (prods l0 l1)
      have hmul : l0.length * l1.length ≤ 64 * 64 := Nat.mul_le_mul n0 n1
      rw [prods_length] at hlen
      have hL := Aside0.mk (linear_set_list.calls _ _ wr HS4.out hprod (by omega))
      clear hprod HS4 hmul hlen
      generalize sortP (norm (prods l0 l1)) = ls at *
      go_wp2_with (go_at_call 46; refine hL.out.mono ?_; rintro e w4 ⟨v4, he, hR4, hb4⟩; obtain ⟨A4, c4, hv4, hc4, hC4⟩ := Kd.R_reads hR4; subst hv4; subst he)
      have HR4 := Aside0.mk (Kd.R_lower hR4 hzr)
      have HB4 := Aside0.mk (below_then HB.out hzr hb4)
      have HC4 := Aside0.mk hC4
      have hz4 := HB4.out.size
      have hmax := Kd.C_max hC4
      clear hR4 hb4 hC4 HB hL
      obtain ⟨wo, rfl⟩ : ∃ wo : World, wo = wr := ⟨_, rfl⟩
      go_loopw [58] (fun i wr => ∃ k : Nat, k ≤ ls.length ∧ i = .int .i64 k ∧ (ls.take k).all nearP = true ∧ Below w4.heap.size w4 wr) (fun i _ => ls.length - (intOf i).toNat)
      case atStart => exact ⟨0, Nat.zero_le _, rfl, by simp, Below.refl _ _⟩
      case round =>
        clear hk hlt
        obtain ⟨k, hk, rfl, hall, hB⟩ := hrel
        have HB := Aside0.mk hB; clear hB
        have HA := Aside0.mk hall; clear hall
        by_cases hlt : k < ls.length
        · obtain ⟨ad, hA, e0, e1⟩ := at_T25 HC4.out (k : Int) (by omega) (by omega)
          subst hA
          have d0 := pw_cell_below HB.out e0
          have d1 := pw_cell_below HB.out e1
          clear e0 e1
          rw [Int.toNat_natCast] at d0 d1
          have hts := Aside0.mk (all_take_succ ls k hlt)
          have hmem := Aside0.mk (rd_mem ls k hlt k rfl)
          generalize rd_T25 ls (k : Int) = p at *
          go_wp2_with fail
          have hns := near_some p.f0 p.f1
          cases hb : (nearN p.f0 && nearN p.f1) with
          | true =>
            rw [hb] at hns
            refine (linear_near.calls 3 _ _ _ _ hns).mono ?_
            rintro e w5 ⟨rfl, hb1⟩
            clear hns
            obtain ⟨hb1', hz1, _⟩ := alloc1_below hb1
            clear hb1
            have hz := HB.out.size
            have HB1 := Aside0.mk (below_then HB.out hz hb1')
            clear hz hz1 hb1'
            have hb' := Aside0.mk hb; clear hb
            go_wp2
            go_roundw
            case rel => exact ⟨k + 1, by omega, by go_num, by rw [hts.out, HA.out, Bool.true_and]; exact hb'.out, HB1.out⟩
            case measure => simp [intOf]; omega
          | false =>
            rw [hb] at hns
            refine (linear_near.calls 3 _ _ _ _ hns).mono ?_
            rintro e w5 ⟨rfl, hb1⟩
            clear hns
            obtain ⟨hb1', hz1, _⟩ := alloc1_below hb1
            clear hb1
            have hz := HB.out.size
            have HB1 := Aside0.mk (below_then HB4.out hz4 (below_then HB.out hz hb1'))
            clear hz hz1 hb1'
            have hr5 := hR.out
            rw [if_neg (fun hall => by rw [List.all_eq_true] at hall; have := hall p hmem.out; unfold nearP at this; rw [hb] at this; cases this)] at hr5
            simp only [Option.some.injEq, Prod.mk.injEq] at hr5
            obtain ⟨rfl, rfl⟩ := hr5
            clear hb
            go_wp2
            go_ret2
            exact ⟨_, rfl, Kd.R_nil _ _ _ _ _, HB1.out⟩
        · have hkl : ls.take k = ls := List.take_of_length_le (by omega)
          have HA' := HA.out
          rw [hkl] at HA'
          have hr5 := hR.out
          rw [if_pos HA'] at hr5
          simp only [Option.some.injEq, Prod.mk.injEq] at hr5
          obtain ⟨rfl, rfl⟩ := hr5
          clear hkl HA HA'
          go_wp2
          go_ret2
          exact ⟨_, rfl, Kd.R_below HR4.out HB.out, below_then HB4.out hz4 HB.out⟩

theorem linear_Times.calls (A0 : Option Addr) (c0 : Nat) (l0 : List S25) (A1 : Option Addr) (c1 : Nat) (l1 : List S25) (r1 : List S25) (r2 : Int) (w : World) (hr0 : Kd.C k25 w A0 l0.length l0) (hc0 : l0.length ≤ c0) (hr1 : Kd.C k25 w A1 l1.length l1) (hc1 : l1.length ≤ c1)
    (h : linear_Times.f l0 l1 = some (r1, r2)) :
    Calls Try.prog 20 #[.slice A0 l0.length c0, .slice A1 l1.length c1] w fun e w' => ∃ v0_ : Value, e = .returned (.tuple #[v0_, .int .i64 r2]) ∧ Kd.R k25 25 w' w.heap.size (fun _ => True) v0_ r1 ∧ Below w.heap.size w w' := by
  unfold linear_Times.f at h
  obtain ⟨e0, h0, h⟩ := Option.bind_eq_some_iff.mp h
  by_cases he0 : e0 = 0
  case neg =>
    rw [if_neg he0] at h
    simp only [Option.some.injEq, Prod.mk.injEq] at h
    obtain ⟨rfl, rfl⟩ := h
    have hC := Aside0.mk (linear_Check.calls A0 c0 l0 e0 w hr0 hc0 h0)
    have he0' : (e0 != 0) = true := bne_iff_ne.2 he0
    clear h0 he0
    go_enter Try.func20, Try.ntmps20
    go_wp2_with (go_at_call 15; refine hC.out.mono ?_; rintro e w1 ⟨rfl, hb1⟩)
    go_ret2
    exact ⟨_, rfl, Kd.R_nil _ _ _ _ _, hb1⟩
  subst he0
  rw [if_pos rfl] at h
  obtain ⟨e1, h1, h⟩ := Option.bind_eq_some_iff.mp h
  by_cases he1 : e1 = 0
  case neg =>
    rw [if_neg he1] at h
    simp only [Option.some.injEq, Prod.mk.injEq] at h
    obtain ⟨rfl, rfl⟩ := h
    have hC := Aside0.mk (linear_Check.calls A0 c0 l0 0 w hr0 hc0 h0)
    have he1' : (e1 != 0) = true := bne_iff_ne.2 he1
    have H1 := Aside0.mk h1
    have HR1 := Aside0.mk hr1
    clear h0 he1 h1 hr0 hr1
    go_enter Try.func20, Try.ntmps20
    go_wp2_with fail
    refine hC.out.mono ?_
    rintro e w1 ⟨rfl, hb1⟩
    have HB1 := Aside0.mk hb1
    have hz1 := hb1.size
    clear hb1
    go_wp2_with fail
    refine (linear_Check.calls A1 c1 l1 e1 w1 (Kd.C_below HR1.out HB1.out) hc1 H1.out).mono ?_
    rintro e w2 ⟨rfl, hb2⟩
    go_wp2
    go_ret2
    exact ⟨_, rfl, Kd.R_nil _ _ _ _ _, below_then HB1.out hz1 hb2⟩
  subst he1
  rw [if_pos rfl] at h
  exact times_loop A0 c0 l0 A1 c1 l1 w hr0 hc0 hr1 hc1 h0 h1 r1 r2 h
end Go.Proofs.Ytomogkhdfaiekaa.PLin
end
