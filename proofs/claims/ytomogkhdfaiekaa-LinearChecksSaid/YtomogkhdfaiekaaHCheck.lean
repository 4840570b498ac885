/-
  linear.Check: more than 64, one too far, one twice.
-/
import Derived.Test.YtomogkhdfaiekaaHList
import Derived.Test.YtomogkhdfaiekaaPLinx56
namespace Go.Proofs.Ytomogkhdfaiekaa.PLin
open Go.Proofs.Ytomogkhdfaiekaa.HW Go.Proofs.Ytomogkhdfaiekaa.HSet Go.RowKit Go.Proofs.YtomogkhdfaiekaaW.PrintWords Go.Proofs.YtomogkhdfaiekaaW.PrintLast Go.Proofs.YtomogkhdfaiekaaW.PrintMore
set_option linter.unusedVariables false
set_option linter.unusedSimpArgs false

def nearN (a : Int) : Bool := decide (-1099511627776 ≤ a) && decide (a ≤ 1099511627776)
def nearP (p : S25) : Bool := nearN p.f0 && nearN p.f1
theorem nearN_iff (a : Int) : nearN a = true ↔ -1099511627776 ≤ a ∧ a ≤ 1099511627776 := by
  unfold nearN; simp
theorem okF_of_near {p : S25} (h : nearP p = true) : okF p := by
  unfold nearP at h
  rw [Bool.and_eq_true, nearN_iff, nearN_iff] at h
  unfold okF; omega

theorem near_int (a : Int) : ∃ r, whole_Near_int.f 3 a (-1099511627776) 1099511627776 = some r ∧ (r == a) = nearN a := by
  unfold whole_Near_int.f
  by_cases h1 : a < -1099511627776
  · rw [if_pos h1]
    refine ⟨-1099511627776, by simp [whole_Near_int.j0], ?_⟩
    rw [Bool.eq_iff_iff, beq_iff_eq, nearN_iff]; omega
  · rw [if_neg h1]
    by_cases h2 : a > 1099511627776
    · refine ⟨1099511627776, by simp [whole_Near_int.j0, h2], ?_⟩
      rw [Bool.eq_iff_iff, beq_iff_eq, nearN_iff]; omega
    · refine ⟨a, by simp [whole_Near_int.j0]; omega, ?_⟩
      rw [Bool.eq_iff_iff, beq_iff_eq, nearN_iff]; omega

theorem near_some (a b : Int) : linear_near.f 3 a b = some (nearN a && nearN b) := by
  unfold linear_near.f
  obtain ⟨r, h1, h2⟩ := near_int a
  obtain ⟨s, h3, h4⟩ := near_int b
  rw [h1]; simp only [Option.bind_some]
  by_cases e : r = a
  · rw [if_pos e, h3]
    simp only [Option.bind_some]
    rw [← h2, ← h4]; simp [e]
  · rw [if_neg e, ← h2]
    simp [e]

def linear_Check.f (l : List S25) : Option Int :=
  if l.length > 64 then some 6 else if l.all nearP = true then (if l.Nodup then some 0 else some 170) else some 5

theorem ins_all_length (l : List S25) : ((l.foldl ins []).length = l.length) ↔ l.Nodup := by
  have key : ∀ (l S : List S25), S.Nodup → (((l.foldl ins S).length = S.length + l.length) ↔ (S ++ l).Nodup) := by
    intro l
    induction l with
    | nil => intro S hS; simp [hS]
    | cons a l ih =>
      intro S hS
      simp only [List.foldl_cons]
      by_cases ha : a ∈ S
      · have e : ins S a = S := by unfold ins; rw [if_pos ha]
        rw [e]
        have := insAll_len l S
        constructor
        · intro h; simp at h; omega
        · intro h
          have := List.nodup_append.1 h
          exact absurd rfl (this.2.2 a ha a (by simp))
      · have e : ins S a = S ++ [a] := by unfold ins; rw [if_neg ha]
        have hn : (S ++ [a]).Nodup := e ▸ nodup_ins hS a
        rw [e, show S ++ a :: l = (S ++ [a]) ++ l by simp, ← ih (S ++ [a]) hn]
        simp; omega
  have := key l [] List.nodup_nil
  simpa using this

theorem all_take_succ (l : List S25) (k : Nat) (h : k < l.length) : (l.take (k + 1)).all nearP = ((l.take k).all nearP && nearP (rd_T25 l k)) := by
  rw [List.take_succ_eq_append_getElem h, List.all_append]
  unfold rd_T25
  simp [h]

set_option maxHeartbeats 1000000 in
set_option maxRecDepth 100000 in
theorem linear_Check.calls (A0 : Option Addr) (c0 : Nat) (l0 : List S25) (r : Int) (w : World) (hr0 : Kd.C k25 w A0 l0.length l0) (hc0 : l0.length ≤ c0) (h : linear_Check.f l0 = some r) :
    Calls Try.prog 15 #[.slice A0 l0.length c0] w fun e w' => e = .returned (.int .i64 r) ∧ Below w.heap.size w w' := by
  have hmax := Kd.C_max hr0
  have H := Aside0.mk h; clear h
  by_cases h1 : l0.length > 64
  · have H' := H.out
    unfold linear_Check.f at H'
    rw [if_pos h1] at H'
    obtain rfl := Option.some.inj H'
    have h1' : decide (64 < (l0.length : Int)) = true := decide_eq_true (by omega)
    clear h1 H H'
    go_enter Try.func15, Try.ntmps15
    go_wp2
    go_ret
    exact ⟨rfl, Below.refl _ _⟩
  have h1' : decide (64 < (l0.length : Int)) = false := decide_eq_false (by omega)
  go_enter Try.func15, Try.ntmps15
  go_wp2
  go_loopw [12] (fun i wr => ∃ k : Nat, k ≤ l0.length ∧ i = .int .i64 k ∧ (l0.take k).all nearP = true ∧ Below w.heap.size w wr) (fun i _ => l0.length - (intOf i).toNat)
  case atStart => exact ⟨0, Nat.zero_le _, rfl, by simp, Below.refl _ _⟩
  case round =>
    obtain ⟨k, hk, rfl, hall, hB⟩ := hrel
    have HB := Aside0.mk hB; clear hB
    have HA := Aside0.mk hall; clear hall
    by_cases hlt : k < l0.length
    · obtain ⟨ad, hA, e0, e1⟩ := at_T25 hr0 (k : Int) (by omega) (by omega)
      subst hA
      have d0 := pw_cell_below HB.out e0
      have d1 := pw_cell_below HB.out e1
      clear e0 e1
      rw [Int.toNat_natCast] at d0 d1
      have hts := Aside0.mk (all_take_succ l0 k hlt)
      have hmem := Aside0.mk (rd_mem l0 k hlt k rfl)
      generalize rd_T25 l0 (k : Int) = p at *
      go_wp2_with fail
      have hns := near_some p.f0 p.f1
      cases hb : (nearN p.f0 && nearN p.f1) with
      | true =>
        rw [hb] at hns
        refine (linear_near.calls 3 _ _ _ _ hns).mono ?_
        rintro e w1 ⟨rfl, hb1⟩
        clear hns
        obtain ⟨hb1', hz1, _⟩ := alloc1_below hb1
        clear hb1
        have hz := HB.out.size
        have HB1 := Aside0.mk (below_then HB.out hz hb1')
        clear hz hz1 hb1'
        have hb' := Aside0.mk hb; clear hb
        go_wp2
        go_roundw
        case rel => exact ⟨k + 1, by omega, by go_num, by rw [hts.out, HA.out, Bool.true_and]; exact hb'.out, HB1.out⟩
        case measure => simp [intOf]; omega
      | false =>
        rw [hb] at hns
        refine (linear_near.calls 3 _ _ _ _ hns).mono ?_
        rintro e w1 ⟨rfl, hb1⟩
        clear hns
        obtain ⟨hb1', hz1, _⟩ := alloc1_below hb1
        clear hb1
        have hz := HB.out.size
        have HB1 := Aside0.mk (below_then HB.out hz hb1')
        clear hz hz1 hb1'
        have hr5 : r = 5 := by
          have H' := H.out
          unfold linear_Check.f at H'
          rw [if_neg h1, if_neg (fun hall => by rw [List.all_eq_true] at hall; have := hall p hmem.out; unfold nearP at this; rw [hb] at this; cases this)] at H'
          exact (Option.some.inj H').symm
        subst hr5
        clear hb
        go_wp2
        go_ret
        exact ⟨rfl, HB1.out⟩
    · have hkl : l0.take k = l0 := List.take_of_length_le (by omega)
      have HA' := HA.out
      rw [hkl] at HA'
      clear hkl HA
      have hc := Kd.C_below hr0 HB.out
      have H' := H.out
      unfold linear_Check.f at H'
      rw [if_neg h1, if_pos HA'] at H'
      have hok : ∀ p ∈ l0, okP p := fun p hp => okP_of_okF (okF_of_near (List.all_eq_true.1 HA' p hp))
      have hof := Aside0.mk (linear_of.calls A0 c0 l0 wr hc hc0 hok)
      have hz := HB.out.size
      by_cases hnd : l0.Nodup
      · rw [if_pos hnd] at H'
        obtain rfl := Option.some.inj H'
        have hd : decide ((l0.foldl ins []).length = l0.length) = true := decide_eq_true ((ins_all_length l0).2 hnd)
        rw [hd] at hof
        clear hd hnd H' HA' hc
        go_wp2_with (go_at_call 41; refine hof.out.mono ?_; rintro e w1 ⟨rfl, _, hb1⟩)
        go_ret
        exact ⟨rfl, below_then HB.out hz hb1⟩
      · rw [if_neg hnd] at H'
        obtain rfl := Option.some.inj H'
        have hd : decide ((l0.foldl ins []).length = l0.length) = false := decide_eq_false (fun e => hnd ((ins_all_length l0).1 e))
        rw [hd] at hof
        clear hd hnd H' HA' hc
        go_wp2_with (go_at_call 41; refine hof.out.mono ?_; rintro e w1 ⟨rfl, _, hb1⟩)
        go_ret
        exact ⟨rfl, below_then HB.out hz hb1⟩
end Go.Proofs.Ytomogkhdfaiekaa.PLin
