/-
  linear.line: may offsets of a line be?
  linear.Line: its walk and its contract.
-/
import Derived.Test.YtomogkhdfaiekaaHJump
section
namespace Go.Proofs.Ytomogkhdfaiekaa.HSet
open Go Go.RowKit
section
variable {α : Type} [DecidableEq α] {P : Program} {K : TypeId} {okp : α → Prop} {mk : α → Value} {kl : α → Lit}
variable (w : World) {ops : Array Oper} {rest : List Oper} {o : Oper} {a : Act} {Q : Exit → Act → World → Prop}
/-- A map's literal puts a key in. -/
theorem wp_put (hg : o.guard = none) (m x v : Operand) (t : TypeId) (hop : o.op = Op.insert t m x v) (e : TypeId) (C : KeyKind P K okp mk kl) (ht : P.underlying t = some (.map K e))
    {b : Nat} {S : List α} (hm : a.eval m = .map (some b)) (h : SetAt P K okp kl w b S) (hn : S.length < maxLen) (p : α) (hx : a.eval x = mk p) (hv : a.eval v = .agg #[]) (hp : okp p)
    (hK : ∀ w', SetAt P K okp kl w' b (ins S p) → w.grownBy w' (some b) → wpList P ops Q rest (a.put o.dst undef) w') : wpList P ops Q (o :: rest) a w := by
  obtain ⟨D, h3, h4, h5⟩ := h.data
  refine wpList_plain hg fun K' hK' => ?_
  obtain ⟨w', hrun, r1, r2⟩ := h3.update C.keyed ht hn (C.mkK p hp) (unitElem_mk)
  unfold Oper.wp
  simp [execOp, hop, hm, hx, hv, hrun, Result.andThen]
  exact hK' _ _ (hK w' (h.put C hp D h3 h4 h5 r1) r2)
end
section
variable {α : Type} [DecidableEq α]
theorem insL_len (l : List α) : ∀ S : List α, (l.foldl ins S).length ≤ S.length + l.length := by
  induction l with
  | nil => intro S; simp
  | cons a l ih => intro S; simp only [List.foldl_cons, List.length_cons]; have := ih (ins S a); have := length_ins_le S a; omega
theorem insL_nodup (l : List α) : ((l.foldl ins []).length = l.length) ↔ l.Nodup := by
  have key : ∀ (l S : List α), S.Nodup → (((l.foldl ins S).length = S.length + l.length) ↔ (S ++ l).Nodup) := by
    intro l
    induction l with
    | nil => intro S hS; simp [hS]
    | cons a l ih =>
      intro S hS
      simp only [List.foldl_cons]
      by_cases ha : a ∈ S
      · have e : ins S a = S := by unfold ins; rw [if_pos ha]
        rw [e]
        have := insL_len l S
        constructor
        · intro h; simp at h; omega
        · intro h
          have := List.nodup_append.1 h
          exact absurd rfl (this.2.2 a ha a (by simp))
      · have e : ins S a = S ++ [a] := by unfold ins; rw [if_neg ha]
        have hn : (S ++ [a]).Nodup := e ▸ nodup_ins hS a
        rw [e, show S ++ a :: l = (S ++ [a]) ++ l by simp, ← ih (S ++ [a]) hn]
        simp; omega
  have := key l [] List.nodup_nil
  simpa using this
end
end Go.Proofs.Ytomogkhdfaiekaa.HSet
namespace Go.Proofs.Ytomogkhdfaiekaa.PLin
open Go.Proofs.Ytomogkhdfaiekaa.HW Go.Proofs.Ytomogkhdfaiekaa.HSet Go.RowKit Go.Proofs.YtomogkhdfaiekaaW.PrintWords Go.Proofs.YtomogkhdfaiekaaW.PrintLast Go.Proofs.YtomogkhdfaiekaaW.PrintMore
set_option linter.unusedVariables false
set_option linter.unusedSimpArgs false

abbrev ISet (w : World) (b : Nat) (S : List Int) : Prop := SetAt Try.prog 3 okI klI w b S
def inLine (d : Int) : Bool := decide (-64 ≤ d) && decide (d ≤ 64)
def lineE (l : List Int) : Int := if l.length > 64 then 6 else if l.all inLine = true then (if l.Nodup then 0 else 170) else 5

theorem take_succ_rdI (l : List Int) (k : Nat) (h : k < l.length) : l.take (k + 1) = l.take k ++ [rd l k] := by
  rw [List.take_succ_eq_append_getElem h]
  unfold rd
  simp [h]
theorem rdI_mem (l : List Int) (k : Nat) (h : k < l.length) : rd l k ∈ l := by
  unfold rd
  simp [h]

set_option maxHeartbeats 1000000 in
set_option maxRecDepth 100000 in
theorem linear_line.calls (A0 : Option Addr) (c0 : Nat) (l : List Int) (w : World) (hr0 : (Kd.int .i64).C w A0 l.length l) (hc0 : l.length ≤ c0) :
    Calls Try.prog 54 #[.slice A0 l.length c0] w fun e w' => e = .returned (.int .i64 (lineE l)) ∧ Below w.heap.size w w' := by
  have hmax := Kd.C_max hr0
  have hmm := @run_makeMap Try.prog
  obtain ⟨r, hr⟩ : ∃ r, r = lineE l := ⟨_, rfl⟩
  rw [← hr]
  unfold lineE at hr
  by_cases h1 : l.length > 64
  · rw [if_pos h1] at hr
    subst hr
    have h1' : decide (64 < (l.length : Int)) = true := decide_eq_true (by omega)
    clear h1
    go_enter Try.func54, Try.ntmps54
    go_wp2
    go_ret
    exact ⟨rfl, Below.refl _ _⟩
  rw [if_neg h1] at hr
  have HRR := Aside0.mk hr; clear hr
  have h1' : decide (64 < (l.length : Int)) = false := decide_eq_false (by omega)
  go_enter Try.func54, Try.ntmps54
  go_wp2
  go_loopw [12] (fun i wr => ∃ k : Nat, k ≤ l.length ∧ i = .int .i64 k ∧ (l.take k).all inLine = true ∧ ISet wr w.heap.size ((l.take k).foldl ins []) ∧ Below w.heap.size w wr) (fun i _ => l.length - (intOf i).toNat)
  case atStart => exact ⟨0, Nat.zero_le _, rfl, by simp, SetAt.made w, below_alloc (Below.refl _ _) _⟩
  case round =>
    obtain ⟨k, hk, rfl, hall, hs, hB⟩ := hrel
    have HB := Aside0.mk hB; clear hB
    have HA := Aside0.mk hall; clear hall
    have HS := Aside0.mk hs; clear hs
    by_cases hlt : k < l.length
    · obtain ⟨ad, hA, e0⟩ := Kd.at_int hr0 (k : Int) (by omega) (by omega)
      subst hA
      have d0 := pw_cell_below HB.out e0
      clear e0
      rw [Int.toNat_natCast] at d0
      have hts := Aside0.mk (take_succ_rdI l k hlt)
      have hmem := Aside0.mk (rdI_mem l k hlt)
      have hlen : ((l.take k).foldl ins []).length < maxLen := by
        have := insL_len (l.take k) []
        simp only [List.length_nil, List.length_take] at this
        unfold maxLen; omega
      generalize rd l (k : Int) = p at *
      by_cases hp1 : p < -64
      · have hp1' : decide (p < -64) = true := decide_eq_true hp1
        have hr := HRR.out
        rw [if_neg (fun hall => by have := List.all_eq_true.1 hall p hmem.out; unfold inLine at this; rw [Bool.and_eq_true, decide_eq_true_eq] at this; omega)] at hr
        subst hr
        clear hp1
        go_wp2
        go_ret
        exact ⟨rfl, HB.out⟩
      · have hp1' : decide (p < -64) = false := decide_eq_false hp1
        by_cases hp2 : 64 < p
        · have hp2' : decide (64 < p) = true := decide_eq_true hp2
          have hr := HRR.out
          rw [if_neg (fun hall => by have := List.all_eq_true.1 hall p hmem.out; unfold inLine at this; rw [Bool.and_eq_true, decide_eq_true_eq, decide_eq_true_eq] at this; omega)] at hr
          subst hr
          clear hp1 hp2
          go_wp2
          go_ret
          exact ⟨rfl, HB.out⟩
        · have hp2' : decide (64 < p) = false := decide_eq_false hp2
          have hpk : okI p := wf_i64 (by omega) (by omega)
          have HP := Aside0.mk (show inLine p = true by unfold inLine; rw [Bool.and_eq_true, decide_eq_true_eq, decide_eq_true_eq]; omega)
          clear hp1 hp2
          go_wp2_with (at_mapUpdate; refine wp_insert _ rfl _ _ _ 104 rfl 89 C3 Try.underlying104 rfl HS.out hlen p rfl rfl hpk ?_; intro w1 h1 hg1)
          have HB1 := Aside0.mk (below_turn HB.out HB.out.size (Nat.le_refl _) hg1)
          have HS1 := Aside0.mk h1
          clear HS HB h1 hg1
          go_roundw
          case rel => exact ⟨k + 1, by omega, by go_num, by rw [hts.out, List.all_append, HA.out]; simp [HP.out], by rw [hts.out, List.foldl_append]; exact HS1.out, HB1.out⟩
          case measure => simp [intOf]; omega
    · have hkl : l.take k = l := List.take_of_length_le (by omega)
      have hr := HRR.out
      have hall := HA.out
      have HS2 := Aside0.mk HS.out
      rw [hkl] at hall
      rw [hkl] at HS2
      rw [if_pos hall] at hr
      have hil := insL_nodup l
      have hle := insL_len l []
      simp only [List.length_nil, Nat.zero_add] at hle
      clear hall HA HS hkl
      by_cases hnd : l.Nodup
      · rw [if_pos hnd] at hr
        subst hr
        have hd : decide ((l.foldl ins []).length < l.length) = false := decide_eq_false (by have := hil.2 hnd; omega)
        clear hil hnd hle
        go_wp2_with (at_len; refine wp_len _ rfl _ 104 rfl 89 Try.underlying104 rfl HS2.out ?_)
        go_ret
        exact ⟨rfl, HB.out⟩
      · rw [if_neg hnd] at hr
        subst hr
        have hd : decide ((l.foldl ins []).length < l.length) = true := decide_eq_true (by have := mt hil.1 hnd; omega)
        clear hil hnd hle
        go_wp2_with (at_len; refine wp_len _ rfl _ 104 rfl 89 Try.underlying104 rfl HS2.out ?_)
        go_ret
        exact ⟨rfl, HB.out⟩
end Go.Proofs.Ytomogkhdfaiekaa.PLin
end

section
namespace Go.Proofs.Ytomogkhdfaiekaa.PLin
open Go.Proofs.Ytomogkhdfaiekaa.HW Go.Proofs.Ytomogkhdfaiekaa.HSet Go.RowKit Go.Proofs.YtomogkhdfaiekaaW.PrintWords Go.Proofs.YtomogkhdfaiekaaW.PrintLast Go.Proofs.YtomogkhdfaiekaaW.PrintMore
set_option linter.unusedVariables false
set_option linter.unusedSimpArgs false

def shiftL (l : List Int) (p : S25) : List S25 := l.map fun d => ⟨p.f0 + d, 0⟩
def nextL (l : List Int) (n : Nat) (C : List S25) : List S25 := if n % 2 = 1 then C.flatMap (shiftL l) else C
def halfP (p : S25) : S25 := ⟨p.f0 / 2, 0⟩
def evenP (p : S25) : Bool := decide (p.f0 % 2 = 0)
def halves (S : List S25) : List S25 := (S.filter evenP).map halfP
def lineN (l : List Int) (n : Nat) (C : List S25) : List S25 :=
  if h : n = 0 then C else lineN l (n / 2) (halves (norm (nextL l n C)))
termination_by n
decreasing_by omega

def Win (c r : Int) (C : List S25) : Prop := ∀ p ∈ C, (c - r ≤ p.f0 ∧ p.f0 ≤ c + r) ∧ p.f1 = 0
theorem win_len {c : Int} {r : Nat} {C : List S25} (h : Win c r C) (hn : C.Nodup) : C.length ≤ 2 * r + 1 := by
  have := len_sub C ((List.range (2 * r + 1)).map fun (i : Nat) => (⟨c - r + i, 0⟩ : S25)) hn fun p hp => by
    obtain ⟨⟨h1, h2⟩, h3⟩ := h p hp
    refine List.mem_map.2 ⟨(p.f0 - (c - r)).toNat, by rw [List.mem_range]; omega, ?_⟩
    rw [S25.ext_iff']
    simp only; omega
  simpa using this
theorem win_next {l : List Int} (hl : l.all inLine = true) {c : Int} {C : List S25} (n : Nat) (h : Win c 64 C) : Win c 128 (nextL l n C) := by
  intro p hp
  unfold nextL at hp
  split at hp
  · obtain ⟨q, hq, hp⟩ := List.mem_flatMap.1 hp
    obtain ⟨d, hd, rfl⟩ := List.mem_map.1 hp
    have h1 := h q hq
    have h2 := List.all_eq_true.1 hl d hd
    unfold inLine at h2
    rw [Bool.and_eq_true, decide_eq_true_eq, decide_eq_true_eq] at h2
    exact ⟨⟨by simp only; omega, by simp only; omega⟩, rfl⟩
  · have := h p hp; omega
theorem win_norm {c r : Int} {C : List S25} (h : Win c r C) : Win c r (norm C) := fun p hp => h p (norm_sub hp)
theorem win_halves {c : Int} {C : List S25} (h : Win c 128 C) : Win (c / 2) 64 (halves C) := by
  intro p hp
  obtain ⟨q, hq, rfl⟩ := List.mem_map.1 hp
  obtain ⟨hq, he⟩ := List.mem_filter.1 hq
  unfold evenP at he
  have := of_decide_eq_true he
  have := h q hq
  exact ⟨⟨by unfold halfP; simp only; omega, by unfold halfP; simp only; omega⟩, rfl⟩
theorem halfP_inj {p q : S25} (hp : evenP p = true) (hq : evenP q = true) (h1 : p.f1 = 0) (h2 : q.f1 = 0) (h : halfP p = halfP q) : p = q := by
  unfold evenP at hp hq
  have := of_decide_eq_true hp; have := of_decide_eq_true hq
  unfold halfP at h
  rw [S25.ext_iff'] at h ⊢
  simp only at h
  omega
theorem halves_mem {S : List S25} {p : S25} (hp : evenP p = true) (h1 : ∀ q ∈ S, q.f1 = 0) (hp1 : p.f1 = 0) (hn : p ∉ S) : halfP p ∉ halves S := by
  intro h
  obtain ⟨q, hq, e⟩ := List.mem_map.1 h
  obtain ⟨hq, he⟩ := List.mem_filter.1 hq
  have := halfP_inj he hp (h1 q hq) hp1 e
  subst this
  exact hn hq
theorem halves_snoc (S : List S25) (p : S25) : halves (S ++ [p]) = if evenP p then halves S ++ [halfP p] else halves S := by
  unfold halves
  rw [List.filter_append, List.map_append]
  cases h : evenP p <;> simp [h]
theorem halves_nodup {S : List S25} (hn : S.Nodup) (h1 : ∀ q ∈ S, q.f1 = 0) : (halves S).Nodup := by
  unfold halves List.Nodup
  rw [List.pairwise_map]
  refine (List.Pairwise.filter _ hn).imp_of_mem ?_
  intro p q hp hq hne e
  refine hne ?_
  obtain ⟨hp, he⟩ := List.mem_filter.1 hp
  obtain ⟨hq, he2⟩ := List.mem_filter.1 hq
  exact halfP_inj he he2 (h1 p hp) (h1 q hq) e
theorem halves_perm {S S' : List S25} (h : S.Perm S') : (halves S).Perm (halves S') := (h.filter _).map _
theorem halves_len (S : List S25) : (halves S).length ≤ S.length := by
  unfold halves
  rw [List.length_map]
  exact List.length_filter_le _ _

set_option maxHeartbeats 8000000 in
set_option maxRecDepth 100000 in
theorem line_walk (A0 : Option Addr) (c0 : Nat) (l : List Int) (n0 : Nat) (at0 : Int) (w : World) (hr0 : (Kd.int .i64).C w A0 l.length l) (hc0 : l.length ≤ c0)
    (he : lineE l = 0) (hl : l.all inLine = true) (hl64 : l.length ≤ 64) (hn0 : n0 ≤ 1125899906842624) (ha1 : at0 ≤ 64 * n0) (ha2 : -64 * n0 ≤ at0) :
    Calls Try.prog 28 #[.slice A0 l.length c0, .int .i64 n0, .int .i64 at0] w fun e w' => e = .returned (.tuple #[.bool (decide ((⟨0, 0⟩ : S25) ∈ lineN l n0 [⟨at0, 0⟩])), .int .i64 0]) ∧ Below w.heap.size w w' := by
  have hli := linear_line.calls A0 c0 l w hr0 hc0
  rw [he] at hli
  have HLI := Aside0.mk hli; have HR := Aside0.mk hr0; have HL := Aside0.mk hl
  have hmax := Kd.C_max hr0
  clear hli hr0 hl he
  have hz := zero89
  have hmm := @run_makeMap Try.prog
  have ha3 : decide (at0 < -64 * (n0 : Int)) = false := decide_eq_false (by omega)
  have ha4 : decide (64 * (n0 : Int) < at0) = false := decide_eq_false (by omega)
  go_enter Try.func28, Try.ntmps28
  go_wp2_with fail
  refine HLI.out.mono ?_
  rintro e w1 ⟨rfl, hb1⟩
  have HB1 := Aside0.mk hb1; clear hb1 HLI
  go_wp2_with (refine wp_put _ rfl _ _ _ 73 rfl 89 C25 Try.underlying73 rfl (SetAt.made _) (by unfold maxLen; simp) (⟨at0, 0⟩ : S25) rfl rfl ⟨wf_i64 (by simp only; omega) (by simp only; omega), wf_i64 (by simp only; omega) (by simp only; omega)⟩ ?_; intro w2 hs2 hg2)
  have HS2 := Aside0.mk (show PSet w2 w1.heap.size [⟨at0, 0⟩] from hs2)
  have HB2 := Aside0.mk (below_turn (below_alloc HB1.out (.map #[] 0)) (by rw [size_alloc]; have := HB1.out.size; omega) HB1.out.size hg2)
  clear hs2 hg2 HB1
  generalize hC0 : ([⟨at0, 0⟩] : List S25) = C0 at *
  have HW0 := Aside0.mk (show Win at0 64 C0 by rw [← hC0]; intro p hp; rw [List.mem_singleton] at hp; subst hp; exact ⟨⟨by simp only; omega, by simp only; omega⟩, rfl⟩)
  have HN0 := Aside0.mk (show C0.Nodup by rw [← hC0]; simp)
  have HC0 := Aside0.mk hC0; clear hC0
  try go_wp2
  go_loopw [1, 9] (fun nv mv wr => ∃ (m : Nat) (C' : List S25) (b' : Nat) (c : Int), m ≤ n0 ∧ nv = .int .i64 m ∧ mv = .map (some b') ∧ PSet wr b' C' ∧ Below w.heap.size w wr ∧ lineN l m C' = lineN l n0 C0 ∧ Win c 64 C' ∧ C'.Nodup ∧ -144115188075855872 ≤ c ∧ c ≤ 144115188075855872) (fun nv _ _ => (intOf nv).toNat)
  case atStart => exact ⟨n0, C0, _, at0, Nat.le_refl _, rfl, rfl, HS2.out, HB2.out, rfl, HW0.out, HN0.out, by omega, by omega⟩
  case round =>
    clear HS2 HB2
    obtain ⟨m, C', b', c, hmn, rfl, rfl, hs, hB, hj, hw, hnd, hcl, hcu⟩ := hrel
    have HS := Aside0.mk hs; have HB := Aside0.mk hB; have HJ := Aside0.mk hj; have HW := Aside0.mk hw; have HND0 := Aside0.mk hnd
    clear hs hB hj hw hnd
    have hbl := HS.out.lt
    have hzw := HB.out.size
    obtain ⟨wj, rfl⟩ : ∃ wj : World, wj = wr := ⟨_, rfl⟩
    by_cases hm0 : m = 0
    · subst hm0
      have HJ' := HJ.out
      rw [lineN, dif_pos rfl] at HJ'
      have hres : decide ((⟨0, 0⟩ : S25) ∈ lineN l n0 C0) = decide ((⟨0, 0⟩ : S25) ∈ C') := by rw [HJ']
      have HRES := Aside0.mk hres
      clear HJ HJ' hres
      have hz0 : (zeroValue 89).run Try.prog wj = .ok (.agg #[]) wj := hz wj
      go_wp2_with (at_lookup; refine wp_lookup _ rfl _ _ 73 rfl 89 C25 Try.underlying73 (hz _) rfl HS.out (⟨0, 0⟩ : S25) rfl ⟨by decide, by decide⟩ ?_)
      go_ret2
      refine ⟨?_, below_alloc HB.out _⟩
      rw [HC0.out, HRES.out]; rfl
    · have hmd : decide (0 < m) = true := decide_eq_true (by omega)
      by_cases hm1 : m % 2 = 1
      · skip

        have hbit : bits BinOp.and IntKind.i64 (m : Int) 1 = 1 := by rw [i64_and1]; omega
        have hnx := Aside0.mk (show nextL l m C' = (C').flatMap (shiftL l) by unfold nextL; rw [if_pos hm1])
        clear hm1
        go_wp2_with (at_range; refine wp_range _ rfl _ 73 rfl 89 C25 Try.underlying73 rfl (HS.out.alloc (.map #[] 0)) ?_; intro w2 hr2 hg2 hs2)
        go_frame
        have HO2 := Aside0.mk ((show PSet (wj.alloc (.map #[] 0)) wj.heap.size (norm ((([] : List S25)).flatMap (shiftL l))) from SetAt.made wj).grown hg2 (by simp))
        have HB2 := Aside0.mk ((below_alloc HB.out (.map #[] 0)).grown hg2 (by rw [size_alloc]; omega) (fun _ e => by cases e))
        have HR2 := Aside0.mk hr2
        have hsa := size_alloc wj (.map #[] 0)
        have hne2 : wj.heap.size ≠ (wj.alloc (.map #[] 0)).heap.size := by omega
        have hge2 : w.heap.size ≤ (wj.alloc (.map #[] 0)).heap.size := by omega
        clear hr2 hg2 HS HB hs2 hsa
        generalize (wj.alloc (.map #[] 0)).heap.size = r at *
        have hgo : w.heap.size ≤ wj.heap.size := by omega
        generalize wj.heap.size = o at *
        go_loopg [] C'.length (fun n wj => ∃ vs : List S25, vs.length + n = C'.length ∧ RangeAt Try.prog 25 okP klP wj b' r C' vs ∧ PSet wj o (norm ((vs).flatMap (shiftL l))) ∧ Below w.heap.size w wj)
        case atStart => exact ⟨[], by simp, HR2.out, HO2.out, HB2.out⟩
        case round =>
          clear HR2 HO2 HB2
          obtain ⟨vs, hvs, hrg, ho, hB⟩ := hrel
          obtain ⟨wk, rfl⟩ : ∃ wk : World, wk = wr := ⟨_, rfl⟩
          have HRG := Aside0.mk hrg; have HO := Aside0.mk ho; have HB := Aside0.mk hB
          clear hrg ho hB
          have hrb := HRG.out.ne
          have hol := HO.out.lt
          go_wp2_with (first | (at_next; refine wp_next _ rfl _ rfl C25 rfl HRG.out ?_ ?_))
          · intro hperm
            have HN := Aside0.mk (show PSet wk o (norm (nextL l m C')) by
              rw [hnx.out]
              exact HO.out.perm (norm_perm (hperm.flatMap_right _)))
            clear HO HRG
            have hnd := norm_nodup (nextL l m C')
            have HW2 := Aside0.mk (win_norm (win_next HL.out m HW.out))
            have hlen := win_len (r := 128) HW2.out hnd
            have HND := Aside0.mk hnd; clear hnd
            generalize hNN : norm (nextL l m C') = N at *
            have HNN := Aside0.mk hNN; clear hNN
            go_wp2_with (at_range; refine wp_range _ rfl _ 73 rfl 89 C25 Try.underlying73 rfl (HN.out.alloc (.map #[] 0)) ?_; intro w3 hr3 hg3 hs3)
            go_frame
            have HO3 := Aside0.mk ((show PSet (wk.alloc (.map #[] 0)) wk.heap.size (halves []) from SetAt.made wk).grown hg3 (by simp))
            have HB3 := Aside0.mk ((below_alloc HB.out (.map #[] 0)).grown hg3 (by rw [size_alloc]; have := HB.out.size; omega) (fun _ e => by cases e))
            have HR3 := Aside0.mk hr3
            have hsa := size_alloc wk (.map #[] 0)
            have hne3 : wk.heap.size ≠ (wk.alloc (.map #[] 0)).heap.size := by omega
            have hzk := HB.out.size
            have hge3 : w.heap.size ≤ (wk.alloc (.map #[] 0)).heap.size := by omega
            clear hr3 hg3 HN HB hs3 hsa
            generalize (wk.alloc (.map #[] 0)).heap.size = r3 at *
            generalize wk.heap.size = o3 at *
            go_loopg [] N.length (fun n wj => ∃ vs : List S25, vs.length + n = N.length ∧ RangeAt Try.prog 25 okP klP wj o r3 N vs ∧ PSet wj o3 (halves vs) ∧ Below w.heap.size w wj)
            case atStart => exact ⟨[], by simp, HR3.out, HO3.out, HB3.out⟩
            case round =>
              clear HR3 HO3 HB3
              obtain ⟨us, hus, hrg, ho, hB⟩ := hrel
              obtain ⟨wi, rfl⟩ : ∃ wi : World, wi = wr := ⟨_, rfl⟩
              have HRG := Aside0.mk hrg; have HO := Aside0.mk ho; have HB := Aside0.mk hB
              clear hrg ho hB
              have hrb3 := HRG.out.ne
              have hol3 := HO.out.lt
              go_wp2_with (first | (at_next; refine wp_next _ rfl _ rfl C25 rfl HRG.out ?_ ?_))
              · intro hperm3
                have HC := Aside0.mk (show PSet wi o3 (halves N) from HO.out.perm (halves_perm hperm3))
                clear HO HRG
                have HW3 := Aside0.mk (win_halves HW2.out)
                have HND3 := Aside0.mk (halves_nodup HND.out (fun q hq => (HW2.out q hq).2))
                have HJ3 := Aside0.mk (show lineN l (m / 2) (halves N) = lineN l n0 C0 by rw [← HJ.out, lineN.eq_1 l m, dif_neg hm0, HNN.out])
                go_wp2
                go_roundw
                case rel => exact ⟨m / 2, halves N, o3, c / 2, by omega, by simp, rfl, HC.out, HB.out, HJ3.out, HW3.out, HND3.out, by omega, by omega⟩
                case measure => simp [intOf]; omega
              · intro q w4 hqS hqv hqk hlen4 hrg4 hg4 hs4 hen4
                unfold mkP at hen4 ⊢
                have HO4 := Aside0.mk (HO.out.grown hg4 (fun e => by injection e with e; exact hne3 e))
                have HB4 := Aside0.mk (HB.out.grown hg4 HB.out.size (fun _ e => by injection e with e; omega))
                have HRG4 := Aside0.mk hrg4
                have hwq := (HW2.out q hqS).1
                have hz4 : w.heap.size ≤ w4.heap.size := by have := HB4.out.size; omega
                have hlt4 := HO4.out.lt
                have hnon := Aside0.mk (fun he => halves_mem he (fun x hx => (HW2.out x (by
                  have := HRG.out.sub x hx
                  exact this)).2) (HW2.out q hqS).2 hqv : evenP q = true → halfP q ∉ halves us)
                have hll := halves_len us
                clear HO HB HRG hg4 hrg4 hs4
                have hbq := i64_and1 q.f0
                by_cases hev : q.f0 % 2 = 0
                · have he : evenP q = true := decide_eq_true hev
                  have hb0 : bits BinOp.and IntKind.i64 q.f0 1 = 0 := by rw [hbq]; exact hev
                  have hdv : Int.tdiv q.f0 2 = (halfP q).f0 := Int.tdiv_eq_ediv_of_dvd (Int.dvd_of_emod_eq_zero hev)
                  have hsn := Aside0.mk (show halves (us ++ [q]) = ins (halves us) (halfP q) by rw [halves_snoc, if_pos he]; unfold ins; rw [if_neg (hnon.out he)])
                  have hs1 : (halfP q).f1 = 0 := rfl
                  have hs2 : -9223372036854775808 ≤ (halfP q).f0 ∧ (halfP q).f0 ≤ 9223372036854775807 := ⟨by unfold halfP; simp only; omega, by unfold halfP; simp only; omega⟩
                  clear hbq hnon
                  generalize halfP q = s at *
                  go_wp2_with (at_mapUpdate; refine wp_insert _ rfl _ _ _ 73 rfl 89 C25 Try.underlying73 rfl (HO4.out.alloc _) (by unfold maxLen; omega) s (by show _ = mkP s; unfold mkP; rw [hs1]; rfl) rfl ⟨wf_i64 hs2.1 hs2.2, wf_i64 (by omega) (by omega)⟩ ?_; intro w5 h5 hg5)
                  have HO5 := Aside0.mk (hsn.out ▸ h5)
                  have HB5 := Aside0.mk (below_turn (below_alloc HB4.out _) (by rw [size_alloc]; omega) (by omega) hg5)
                  have HRG5 := Aside0.mk ((HRG4.out.alloc _).grown hg5 (fun e => by injection e with e; omega) (fun e => by injection e with e; omega))
                  clear h5 hg5 HO4 HB4 HRG4
                  try go_wp2
                  go_roundg (gk - 1)
                  case measure => omega
                  case rel => exact ⟨us ++ [q], by simp; omega, HRG5.out, HO5.out, HB5.out⟩
                · have he : evenP q = false := decide_eq_false hev
                  have hb0 : bits BinOp.and IntKind.i64 q.f0 1 = 1 := by rw [hbq]; omega
                  have hsn := Aside0.mk (show halves (us ++ [q]) = halves us by rw [halves_snoc, he]; rfl)
                  have HO5 := Aside0.mk (show PSet (w4.alloc (.cells #[.int .i64 q.f0, .int .i64 q.f1] 25)) o3 (halves (us ++ [q])) by rw [hsn.out]; exact HO4.out.alloc _)
                  have HB5 := Aside0.mk (below_alloc HB4.out (.cells #[.int .i64 q.f0, .int .i64 q.f1] 25))
                  have HRG5 := Aside0.mk (HRG4.out.alloc (.cells #[.int .i64 q.f0, .int .i64 q.f1] 25))
                  clear hbq hnon HO4 HB4 HRG4
                  go_wp2
                  go_roundg (gk - 1)
                  case measure => omega
                  case rel => exact ⟨us ++ [q], by simp; omega, HRG5.out, HO5.out, HB5.out⟩
          · intro p w3 hpS hpv hpk hlen3 hrg3 hg3 hs3 hen3
            unfold mkP at hen3 ⊢
            have HO3 := Aside0.mk (HO.out.grown hg3 (fun e => by injection e with e; exact hne2 e))
            have HB3 := Aside0.mk (HB.out.grown hg3 HB.out.size (fun _ e => by injection e with e; omega))
            have HRG3 := Aside0.mk hrg3
            have hwp := (HW.out p hpS).1
            have hlt3 := HO3.out.lt
            clear HO HB HRG hg3 hrg3 hs3
            have hgg := blk_lt (alloc_new w3 (.cells #[.int .i64 p.f0, .int .i64 p.f1] 25))
            have hlv : vs.length ≤ 129 := by have := win_len (r := 64) HW.out HND0.out; omega

            have HO5 := Aside0.mk (show PSet (w3.alloc (.cells #[.int .i64 p.f0, .int .i64 p.f1] 25)) o (norm (vs.flatMap (shiftL l) ++ shiftL (l.take 0) p)) by
              rw [show shiftL (l.take 0) p = [] from rfl, List.append_nil]; exact HO3.out.alloc _)
            have HB5 := Aside0.mk (below_alloc HB3.out (.cells #[.int .i64 p.f0, .int .i64 p.f1] 25))
            have HRG5 := Aside0.mk (HRG3.out.alloc (.cells #[.int .i64 p.f0, .int .i64 p.f1] 25))
            have HG5 := Aside0.mk (alloc_new w3 (.cells #[.int .i64 p.f0, .int .i64 p.f1] 25))
            clear HO3 HB3 HRG3
            go_wp2
            generalize w3.alloc (.cells #[.int .i64 p.f0, .int .i64 p.f1] 25) = wx at *
            generalize w3.heap.size = g at *
            go_loopw [60] (fun i wi => ∃ j : Nat, j ≤ l.length ∧ i = .int .i64 j ∧ RangeAt Try.prog 25 okP klP wi b' r C' (vs ++ [p]) ∧ PSet wi o (norm (vs.flatMap (shiftL l) ++ shiftL (l.take j) p)) ∧ PBox wi g p ∧ Below w.heap.size w wi) (fun i _ => l.length - (intOf i).toNat)
            case atStart => exact ⟨0, Nat.zero_le _, rfl, HRG5.out, HO5.out, HG5.out, HB5.out⟩
            case round =>
              clear HO5 HB5 HRG5 HG5 hen3
              obtain ⟨j, hj, rfl, hrg, ho, hg, hB⟩ := hrel
              have HRG := Aside0.mk hrg; have HO := Aside0.mk ho; have HG := Aside0.mk hg; have HB := Aside0.mk hB
              clear hrg ho hg hB
              obtain ⟨wi, rfl⟩ : ∃ wi : World, wi = wr := ⟨_, rfl⟩
              have hzi := HB.out.size
              by_cases hlj : j < l.length
              · obtain ⟨ad, hA, e0⟩ := Kd.at_int HR.out (j : Int) (by omega) (by omega)
                subst hA
                have d0 := pw_cell_below HB.out e0
                clear e0
                rw [Int.toNat_natCast] at d0
                have hts := Aside0.mk (take_succ_rdI l j hlj)
                have hdin := List.all_eq_true.1 HL.out _ (rdI_mem l j hlj)
                unfold inLine at hdin
                rw [Bool.and_eq_true, decide_eq_true_eq, decide_eq_true_eq] at hdin
                generalize rd l (j : Int) = d at *
                have q0 := blk_cell HG.out 0; have q1 := blk_cell HG.out 1
                simp at q0 q1
                have hlg := blk_lt HG.out
                have hlen5 : (norm (vs.flatMap (shiftL l) ++ shiftL (l.take j) p)).length < maxLen := by
                  have h1 := norm_length (vs.flatMap (shiftL l) ++ shiftL (l.take j) p)
                  have h2 : (vs.flatMap (shiftL l)).length = vs.length * l.length := by rw [List.length_flatMap]; simp [shiftL, List.map_const']
                  have h3 : (shiftL (l.take j) p).length ≤ l.length := by unfold shiftL; simp; omega
                  rw [List.length_append, h2] at h1
                  have h4 : vs.length * l.length ≤ 129 * 64 := Nat.mul_le_mul hlv hl64
                  unfold maxLen; omega
                go_wp2_with fail
                refine (linear_set_turn.calls _ _ ⟨p.f0 + d, 0⟩ ⟨wf_i64 (by simp only; omega) (by simp only; omega), wf_i64 (by simp only; omega) (by simp only; omega)⟩ _ HO.out hlen5).mono ?_
                rintro e w6 ⟨rfl, hs6, hg6⟩
                have HO6 := Aside0.mk (show PSet w6 o (norm (vs.flatMap (shiftL l) ++ shiftL (l.take (j + 1)) p)) by
                  rw [hts.out, show shiftL (l.take j ++ [d]) p = shiftL (l.take j) p ++ [⟨p.f0 + d, 0⟩] by unfold shiftL; simp, ← List.append_assoc, norm_snoc]; exact hs6)
                have HB6 := Aside0.mk (below_turn HB.out (by omega) (by omega) hg6)
                have HG6 := Aside0.mk (blk_grown HG.out hg6 (fun e => by injection e with e; omega))
                have HRG6 := Aside0.mk (HRG.out.grown hg6 (fun e => by injection e with e; omega) (fun e => by injection e with e; omega))
                clear hs6 hg6 HO HG HRG HB d0 q0 q1 hlen5
                go_wp2
                go_roundw
                case rel => exact ⟨j + 1, by omega, by go_num, HRG6.out, HO6.out, HG6.out, HB6.out⟩
                case measure => simp [intOf]; omega
              · have hkl : l.take j = l := List.take_of_length_le (by omega)
                have HO6 := Aside0.mk (show PSet wi o (norm ((vs ++ [p]).flatMap (shiftL l))) by
                  rw [List.flatMap_append, List.flatMap_singleton]; have := HO.out; rwa [hkl] at this)
                clear hkl HO
                go_wp2
                go_roundg (gk - 1)
                case measure => omega
                case rel => exact ⟨vs ++ [p], by simp; omega, HRG.out, HO6.out, HB.out⟩

      · skip

        have hbit : bits BinOp.and IntKind.i64 (m : Int) 1 = 0 := by rw [i64_and1]; omega
        have hnx := Aside0.mk (show nextL l m C' = C' by unfold nextL; rw [if_neg hm1])
        clear hm1
        go_wp2_with (at_range; refine wp_range _ rfl _ 73 rfl 89 C25 Try.underlying73 rfl (HS.out.alloc (.map #[] 0)) ?_; intro w2 hr2 hg2 hs2)
        go_frame
        have HO2 := Aside0.mk ((show PSet (wj.alloc (.map #[] 0)) wj.heap.size (norm (([] : List S25))) from SetAt.made wj).grown hg2 (by simp))
        have HB2 := Aside0.mk ((below_alloc HB.out (.map #[] 0)).grown hg2 (by rw [size_alloc]; omega) (fun _ e => by cases e))
        have HR2 := Aside0.mk hr2
        have hsa := size_alloc wj (.map #[] 0)
        have hne2 : wj.heap.size ≠ (wj.alloc (.map #[] 0)).heap.size := by omega
        have hge2 : w.heap.size ≤ (wj.alloc (.map #[] 0)).heap.size := by omega
        clear hr2 hg2 HS HB hs2 hsa
        generalize (wj.alloc (.map #[] 0)).heap.size = r at *
        have hgo : w.heap.size ≤ wj.heap.size := by omega
        generalize wj.heap.size = o at *
        go_loopg [] C'.length (fun n wj => ∃ vs : List S25, vs.length + n = C'.length ∧ RangeAt Try.prog 25 okP klP wj b' r C' vs ∧ PSet wj o (norm (vs)) ∧ Below w.heap.size w wj)
        case atStart => exact ⟨[], by simp, HR2.out, HO2.out, HB2.out⟩
        case round =>
          clear HR2 HO2 HB2
          obtain ⟨vs, hvs, hrg, ho, hB⟩ := hrel
          obtain ⟨wk, rfl⟩ : ∃ wk : World, wk = wr := ⟨_, rfl⟩
          have HRG := Aside0.mk hrg; have HO := Aside0.mk ho; have HB := Aside0.mk hB
          clear hrg ho hB
          have hrb := HRG.out.ne
          have hol := HO.out.lt
          go_wp2_with (first | (at_next; refine wp_next _ rfl _ rfl C25 rfl HRG.out ?_ ?_))
          · intro hperm
            have HN := Aside0.mk (show PSet wk o (norm (nextL l m C')) by
              rw [hnx.out]
              exact HO.out.perm (norm_perm (hperm)))
            clear HO HRG
            have hnd := norm_nodup (nextL l m C')
            have HW2 := Aside0.mk (win_norm (win_next HL.out m HW.out))
            have hlen := win_len (r := 128) HW2.out hnd
            have HND := Aside0.mk hnd; clear hnd
            generalize hNN : norm (nextL l m C') = N at *
            have HNN := Aside0.mk hNN; clear hNN
            go_wp2_with (at_range; refine wp_range _ rfl _ 73 rfl 89 C25 Try.underlying73 rfl (HN.out.alloc (.map #[] 0)) ?_; intro w3 hr3 hg3 hs3)
            go_frame
            have HO3 := Aside0.mk ((show PSet (wk.alloc (.map #[] 0)) wk.heap.size (halves []) from SetAt.made wk).grown hg3 (by simp))
            have HB3 := Aside0.mk ((below_alloc HB.out (.map #[] 0)).grown hg3 (by rw [size_alloc]; have := HB.out.size; omega) (fun _ e => by cases e))
            have HR3 := Aside0.mk hr3
            have hsa := size_alloc wk (.map #[] 0)
            have hne3 : wk.heap.size ≠ (wk.alloc (.map #[] 0)).heap.size := by omega
            have hzk := HB.out.size
            have hge3 : w.heap.size ≤ (wk.alloc (.map #[] 0)).heap.size := by omega
            clear hr3 hg3 HN HB hs3 hsa
            generalize (wk.alloc (.map #[] 0)).heap.size = r3 at *
            generalize wk.heap.size = o3 at *
            go_loopg [] N.length (fun n wj => ∃ vs : List S25, vs.length + n = N.length ∧ RangeAt Try.prog 25 okP klP wj o r3 N vs ∧ PSet wj o3 (halves vs) ∧ Below w.heap.size w wj)
            case atStart => exact ⟨[], by simp, HR3.out, HO3.out, HB3.out⟩
            case round =>
              clear HR3 HO3 HB3
              obtain ⟨us, hus, hrg, ho, hB⟩ := hrel
              obtain ⟨wi, rfl⟩ : ∃ wi : World, wi = wr := ⟨_, rfl⟩
              have HRG := Aside0.mk hrg; have HO := Aside0.mk ho; have HB := Aside0.mk hB
              clear hrg ho hB
              have hrb3 := HRG.out.ne
              have hol3 := HO.out.lt
              go_wp2_with (first | (at_next; refine wp_next _ rfl _ rfl C25 rfl HRG.out ?_ ?_))
              · intro hperm3
                have HC := Aside0.mk (show PSet wi o3 (halves N) from HO.out.perm (halves_perm hperm3))
                clear HO HRG
                have HW3 := Aside0.mk (win_halves HW2.out)
                have HND3 := Aside0.mk (halves_nodup HND.out (fun q hq => (HW2.out q hq).2))
                have HJ3 := Aside0.mk (show lineN l (m / 2) (halves N) = lineN l n0 C0 by rw [← HJ.out, lineN.eq_1 l m, dif_neg hm0, HNN.out])
                go_wp2
                go_roundw
                case rel => exact ⟨m / 2, halves N, o3, c / 2, by omega, by simp, rfl, HC.out, HB.out, HJ3.out, HW3.out, HND3.out, by omega, by omega⟩
                case measure => simp [intOf]; omega
              · intro q w4 hqS hqv hqk hlen4 hrg4 hg4 hs4 hen4
                unfold mkP at hen4 ⊢
                have HO4 := Aside0.mk (HO.out.grown hg4 (fun e => by injection e with e; exact hne3 e))
                have HB4 := Aside0.mk (HB.out.grown hg4 HB.out.size (fun _ e => by injection e with e; omega))
                have HRG4 := Aside0.mk hrg4
                have hwq := (HW2.out q hqS).1
                have hz4 : w.heap.size ≤ w4.heap.size := by have := HB4.out.size; omega
                have hlt4 := HO4.out.lt
                have hnon := Aside0.mk (fun he => halves_mem he (fun x hx => (HW2.out x (by
                  have := HRG.out.sub x hx
                  exact this)).2) (HW2.out q hqS).2 hqv : evenP q = true → halfP q ∉ halves us)
                have hll := halves_len us
                clear HO HB HRG hg4 hrg4 hs4
                have hbq := i64_and1 q.f0
                by_cases hev : q.f0 % 2 = 0
                · have he : evenP q = true := decide_eq_true hev
                  have hb0 : bits BinOp.and IntKind.i64 q.f0 1 = 0 := by rw [hbq]; exact hev
                  have hdv : Int.tdiv q.f0 2 = (halfP q).f0 := Int.tdiv_eq_ediv_of_dvd (Int.dvd_of_emod_eq_zero hev)
                  have hsn := Aside0.mk (show halves (us ++ [q]) = ins (halves us) (halfP q) by rw [halves_snoc, if_pos he]; unfold ins; rw [if_neg (hnon.out he)])
                  have hs1 : (halfP q).f1 = 0 := rfl
                  have hs2 : -9223372036854775808 ≤ (halfP q).f0 ∧ (halfP q).f0 ≤ 9223372036854775807 := ⟨by unfold halfP; simp only; omega, by unfold halfP; simp only; omega⟩
                  clear hbq hnon
                  generalize halfP q = s at *
                  go_wp2_with (at_mapUpdate; refine wp_insert _ rfl _ _ _ 73 rfl 89 C25 Try.underlying73 rfl (HO4.out.alloc _) (by unfold maxLen; omega) s (by show _ = mkP s; unfold mkP; rw [hs1]; rfl) rfl ⟨wf_i64 hs2.1 hs2.2, wf_i64 (by omega) (by omega)⟩ ?_; intro w5 h5 hg5)
                  have HO5 := Aside0.mk (hsn.out ▸ h5)
                  have HB5 := Aside0.mk (below_turn (below_alloc HB4.out _) (by rw [size_alloc]; omega) (by omega) hg5)
                  have HRG5 := Aside0.mk ((HRG4.out.alloc _).grown hg5 (fun e => by injection e with e; omega) (fun e => by injection e with e; omega))
                  clear h5 hg5 HO4 HB4 HRG4
                  try go_wp2
                  go_roundg (gk - 1)
                  case measure => omega
                  case rel => exact ⟨us ++ [q], by simp; omega, HRG5.out, HO5.out, HB5.out⟩
                · have he : evenP q = false := decide_eq_false hev
                  have hb0 : bits BinOp.and IntKind.i64 q.f0 1 = 1 := by rw [hbq]; omega
                  have hsn := Aside0.mk (show halves (us ++ [q]) = halves us by rw [halves_snoc, he]; rfl)
                  have HO5 := Aside0.mk (show PSet (w4.alloc (.cells #[.int .i64 q.f0, .int .i64 q.f1] 25)) o3 (halves (us ++ [q])) by rw [hsn.out]; exact HO4.out.alloc _)
                  have HB5 := Aside0.mk (below_alloc HB4.out (.cells #[.int .i64 q.f0, .int .i64 q.f1] 25))
                  have HRG5 := Aside0.mk (HRG4.out.alloc (.cells #[.int .i64 q.f0, .int .i64 q.f1] 25))
                  clear hbq hnon HO4 HB4 HRG4
                  go_wp2
                  go_roundg (gk - 1)
                  case measure => omega
                  case rel => exact ⟨us ++ [q], by simp; omega, HRG5.out, HO5.out, HB5.out⟩
          · intro p w3 hpS hpv hpk hlen3 hrg3 hg3 hs3 hen3
            unfold mkP at hen3 ⊢
            have HO3 := Aside0.mk (HO.out.grown hg3 (fun e => by injection e with e; exact hne2 e))
            have HB3 := Aside0.mk (HB.out.grown hg3 HB.out.size (fun _ e => by injection e with e; omega))
            have HRG3 := Aside0.mk hrg3
            have hwp := (HW.out p hpS).1
            have hlt3 := HO3.out.lt
            clear HO HB HRG hg3 hrg3 hs3
            have hgg := blk_lt (alloc_new w3 (.cells #[.int .i64 p.f0, .int .i64 p.f1] 25))
            have hlv : vs.length ≤ 129 := by have := win_len (r := 64) HW.out HND0.out; omega

            go_wp2_with fail
            have hlen5 : (norm vs).length < maxLen := by
              have h1 := norm_length vs
              unfold maxLen; omega
            refine (linear_set_turn.calls _ _ p hpk _ (HO3.out.alloc _) hlen5).mono ?_
            rintro e w6 ⟨rfl, hs6, hg6⟩
            have HO6 := Aside0.mk (show PSet w6 o (norm (vs ++ [p])) by rw [norm_snoc]; exact hs6)
            have HB6 := Aside0.mk (below_turn (below_alloc HB3.out _) (by rw [size_alloc]; have := HB3.out.size; omega) (by omega) hg6)
            have HRG6 := Aside0.mk ((HRG3.out.alloc _).grown hg6 (fun e => by injection e with e; omega) (fun e => by injection e with e; omega))
            clear hs6 hg6 HO3 HB3 HRG3 hlen5 hen3 hgg
            go_wp2
            go_loopw [60] (fun i wi => ∃ j : Nat, j ≤ l.length ∧ i = .int .i64 j ∧ RangeAt Try.prog 25 okP klP wi b' r C' (vs ++ [p]) ∧ PSet wi o (norm (vs ++ [p])) ∧ Below w.heap.size w wi) (fun i _ => l.length - (intOf i).toNat)
            case atStart => exact ⟨0, Nat.zero_le _, rfl, HRG6.out, HO6.out, HB6.out⟩
            case round =>
              clear HO6 HB6 HRG6
              obtain ⟨j, hj, rfl, hrg, ho, hB⟩ := hrel
              have HRG := Aside0.mk hrg; have HO := Aside0.mk ho; have HB := Aside0.mk hB
              clear hrg ho hB
              obtain ⟨wi, rfl⟩ : ∃ wi : World, wi = wr := ⟨_, rfl⟩
              by_cases hlj : j < l.length
              · obtain ⟨ad, hA, e0⟩ := Kd.at_int HR.out (j : Int) (by omega) (by omega)
                subst hA
                have d0 := pw_cell_below HB.out e0
                clear e0
                rw [Int.toNat_natCast] at d0
                go_wp2
                go_roundw
                case rel => exact ⟨j + 1, by omega, by go_num, HRG.out, HO.out, HB.out⟩
                case measure => simp [intOf]; omega
              · go_wp2
                go_roundg (gk - 1)
                case measure => omega
                case rel => exact ⟨vs ++ [p], by simp; omega, HRG.out, HO.out, HB.out⟩


/-- What Line answers. -/
def lineA (l : List Int) (n at0 : Int) : Bool × Int :=
  if lineE l = 0 then
    if n < 0 then (false, 2) else if n > 1125899906842624 then (false, 5)
    else if at0 > 64 * n ∨ at0 < -64 * n then (false, 0) else (decide ((⟨0, 0⟩ : S25) ∈ lineN l n.toNat [⟨at0, 0⟩]), 0)
  else (false, lineE l)
def linear_Line.f (l : List Int) (n at0 : Int) : Option (Bool × Int) := some (lineA l n at0)

theorem lineE_zero {l : List Int} (h : lineE l = 0) : l.length ≤ 64 ∧ l.all inLine = true ∧ l.Nodup := by
  unfold lineE at h
  split at h
  · cases h
  · split at h
    · split at h
      · exact ⟨by omega, by assumption, by assumption⟩
      · cases h
    · cases h

set_option maxHeartbeats 1000000 in
set_option maxRecDepth 100000 in
theorem linear_Line.calls (A0 : Option Addr) (c0 : Nat) (l : List Int) (n at0 : Int) (r1 : Bool) (r2 : Int) (w : World) (hr0 : (Kd.int .i64).C w A0 l.length l) (hc0 : l.length ≤ c0) (h : linear_Line.f l n at0 = some (r1, r2)) :
    Calls Try.prog 28 #[.slice A0 l.length c0, .int .i64 n, .int .i64 at0] w fun e w' => e = .returned (.tuple #[.bool r1, .int .i64 r2]) ∧ Below w.heap.size w w' := by
  replace h := Option.some.inj h
  unfold lineA at h
  have HLI := Aside0.mk (linear_line.calls A0 c0 l w hr0 hc0)
  by_cases he : lineE l = 0
  case neg =>
    rw [if_neg he] at h
    obtain ⟨rfl, rfl⟩ := Prod.mk.inj h
    have he' : (lineE l != 0) = true := bne_iff_ne.2 he
    clear he h hr0
    go_enter Try.func28, Try.ntmps28
    go_wp2_with fail
    refine HLI.out.mono ?_
    rintro e w1 ⟨rfl, hb1⟩
    go_wp2
    go_ret2
    exact ⟨rfl, hb1⟩
  rw [if_pos he] at h
  rw [he] at HLI
  by_cases c1 : n < 0
  · rw [if_pos c1] at h
    obtain ⟨rfl, rfl⟩ := Prod.mk.inj h
    have hn' : decide (n < 0) = true := decide_eq_true c1
    clear he h hr0
    go_enter Try.func28, Try.ntmps28
    go_wp2_with fail
    refine HLI.out.mono ?_
    rintro e w1 ⟨rfl, hb1⟩
    go_wp2
    go_ret2
    exact ⟨rfl, hb1⟩
  rw [if_neg c1] at h
  by_cases c2 : n > 1125899906842624
  · rw [if_pos c2] at h
    obtain ⟨rfl, rfl⟩ := Prod.mk.inj h
    have hn' : decide (n < 0) = false := decide_eq_false c1
    have hn2' : decide (1125899906842624 < n) = true := decide_eq_true c2
    clear he h hr0
    go_enter Try.func28, Try.ntmps28
    go_wp2_with fail
    refine HLI.out.mono ?_
    rintro e w1 ⟨rfl, hb1⟩
    go_wp2
    go_ret2
    exact ⟨rfl, hb1⟩
  rw [if_neg c2] at h
  by_cases c3 : at0 > 64 * n ∨ at0 < -64 * n
  · rw [if_pos c3] at h
    obtain ⟨rfl, rfl⟩ := Prod.mk.inj h
    have hn' : decide (n < 0) = false := decide_eq_false c1
    have hn2' : decide (1125899906842624 < n) = false := decide_eq_false c2
    clear he h hr0
    by_cases c4 : 64 * n < at0
    · have hd : decide (64 * n < at0) = true := decide_eq_true c4
      clear c3 c4
      go_enter Try.func28, Try.ntmps28
      go_wp2_with fail
      refine HLI.out.mono ?_
      rintro e w1 ⟨rfl, hb1⟩
      go_wp2
      go_ret2
      exact ⟨rfl, hb1⟩
    · have hd : decide (64 * n < at0) = false := decide_eq_false c4
      have hd2 : decide (at0 < -64 * n) = true := decide_eq_true (by omega)
      clear c3 c4
      go_enter Try.func28, Try.ntmps28
      go_wp2_with fail
      refine HLI.out.mono ?_
      rintro e w1 ⟨rfl, hb1⟩
      go_wp2
      go_ret2
      exact ⟨rfl, hb1⟩
  rw [if_neg c3] at h
  obtain ⟨rfl, rfl⟩ := Prod.mk.inj h
  obtain ⟨h64, hall, hnd⟩ := lineE_zero he
  obtain ⟨m, rfl⟩ : ∃ m : Nat, n = m := ⟨n.toNat, by omega⟩
  rw [Int.toNat_natCast]
  exact line_walk A0 c0 l m at0 w hr0 hc0 he hall h64 (by omega) (by omega) (by omega)
end Go.Proofs.Ytomogkhdfaiekaa.PLin
end
