/-
  linear.Times: the sums of each place of the one with each of the other, those that come an odd number of times, by rows.
-/
import Derived.Test.YtomogkhdfaiekaaHCheck
namespace Go.Proofs.Ytomogkhdfaiekaa.PLin
open Go.Proofs.Ytomogkhdfaiekaa.HW Go.Proofs.Ytomogkhdfaiekaa.HSet Go.RowKit Go.Proofs.YtomogkhdfaiekaaW.PrintWords Go.Proofs.YtomogkhdfaiekaaW.PrintLast Go.Proofs.YtomogkhdfaiekaaW.PrintMore
set_option linter.unusedVariables false
set_option linter.unusedSimpArgs false

/-- What comes an odd number of times. -/
def norm (l : List S25) : List S25 := l.foldl tog []
theorem tog_nodup {S : List S25} (h : S.Nodup) (p : S25) : (tog S p).Nodup := by
  unfold tog; split
  · exact h.erase p
  · rename_i hn; exact List.nodup_append.2 ⟨h, by simp, fun a ha b hb e => by simp at hb; subst hb; subst e; exact hn ha⟩
theorem mem_tog_sub {S : List S25} {p q : S25} (h : q ∈ tog S p) : q ∈ S ∨ q = p := by
  unfold tog at h; split at h
  · exact .inl (List.mem_of_mem_erase h)
  · simpa using h
theorem length_tog_le (S : List S25) (p : S25) : (tog S p).length ≤ S.length + 1 := by
  unfold tog; split
  · have := List.length_erase_le (a := p) (l := S); omega
  · simp
theorem fold_tog_nodup (l : List S25) : ∀ S : List S25, S.Nodup → (l.foldl tog S).Nodup := by
  induction l with
  | nil => intro S h; exact h
  | cons a l ih => intro S h; exact ih _ (tog_nodup h a)
theorem norm_nodup (l : List S25) : (norm l).Nodup := fold_tog_nodup l [] List.nodup_nil
theorem fold_tog_sub (l : List S25) : ∀ (S : List S25) q, q ∈ l.foldl tog S → q ∈ S ∨ q ∈ l := by
  induction l with
  | nil => intro S q h; exact .inl h
  | cons a l ih =>
    intro S q h
    rcases ih _ q h with h | h
    · rcases mem_tog_sub h with h | rfl
      · exact .inl h
      · exact .inr (by simp)
    · exact .inr (by simp [h])
theorem norm_sub {l : List S25} {q : S25} (h : q ∈ norm l) : q ∈ l := (fold_tog_sub l [] q h).elim (fun h => by simp at h) id
theorem fold_tog_length (l : List S25) : ∀ S : List S25, (l.foldl tog S).length ≤ S.length + l.length := by
  induction l with
  | nil => intro S; simp
  | cons a l ih => intro S; simp only [List.foldl_cons, List.length_cons]; have := ih (tog S a); have := length_tog_le S a; omega
theorem norm_length (l : List S25) : (norm l).length ≤ l.length := by have := fold_tog_length l []; simpa [norm] using this
theorem norm_snoc (l : List S25) (p : S25) : norm (l ++ [p]) = tog (norm l) p := by unfold norm; rw [List.foldl_append]; rfl

def addP (p q : S25) : S25 := ⟨p.f0 + q.f0, p.f1 + q.f1⟩
def prods (a b : List S25) : List S25 := a.flatMap fun p => b.map (addP p)
theorem take_succ_rd (l : List S25) (k : Nat) (h : k < l.length) : l.take (k + 1) = l.take k ++ [rd_T25 l k] := by
  rw [List.take_succ_eq_append_getElem h]
  unfold rd_T25
  simp [h]
theorem prods_length (a b : List S25) : (prods a b).length = a.length * b.length := by
  unfold prods
  induction a with
  | nil => simp
  | cons x a ih => simp only [List.flatMap_cons, List.length_append, List.length_map, ih, List.length_cons, Nat.succ_mul]; omega
theorem prods_snoc (a b : List S25) (p : S25) : prods (a ++ [p]) b = prods a b ++ b.map (addP p) := by unfold prods; simp

def linear_Times.f (a b : List S25) : Option (List S25 × Int) :=
  (linear_Check.f a).bind fun e => if e = 0 then (linear_Check.f b).bind fun e2 => if e2 = 0 then
    (if (sortP (norm (prods a b))).all nearP = true then some (sortP (norm (prods a b)), 0) else some ([], 5)) else some ([], e2) else some ([], e)

theorem check_zero {l : List S25} (h : linear_Check.f l = some 0) : l.length ≤ 64 ∧ (∀ p ∈ l, nearP p = true) ∧ l.Nodup := by
  unfold linear_Check.f at h
  split at h
  · simp at h
  · split at h
    · split at h
      · rename_i h1 h2 h3
        exact ⟨by omega, List.all_eq_true.1 h2, h3⟩
      · simp at h
    · simp at h
theorem near_bounds {p : S25} (h : nearP p = true) : (-1099511627776 ≤ p.f0 ∧ p.f0 ≤ 1099511627776) ∧ -1099511627776 ≤ p.f1 ∧ p.f1 ≤ 1099511627776 := by
  unfold nearP at h
  rw [Bool.and_eq_true, nearN_iff, nearN_iff] at h
  exact h

set_option maxHeartbeats 2000000 in
set_option maxRecDepth 100000 in
theorem times_loop (A0 : Option Addr) (c0 : Nat) (l0 : List S25) (A1 : Option Addr) (c1 : Nat) (l1 : List S25) (w : World) (hr0 : Kd.C k25 w A0 l0.length l0) (hc0 : l0.length ≤ c0) (hr1 : Kd.C k25 w A1 l1.length l1) (hc1 : l1.length ≤ c1)
    (h0 : linear_Check.f l0 = some 0) (h1 : linear_Check.f l1 = some 0) (r1 : List S25) (r2 : Int) (hres : (if (sortP (norm (prods l0 l1))).all nearP = true then some (sortP (norm (prods l0 l1)), 0) else some ([], 5)) = some (r1, r2)) :
    Calls Try.prog 20 #[.slice A0 l0.length c0, .slice A1 l1.length c1] w fun e w' => ∃ v0_ : Value, e = .returned (.tuple #[v0_, .int .i64 r2]) ∧ Kd.R k25 25 w' w.heap.size (fun _ => True) v0_ r1 ∧ Below w.heap.size w w' := by
  obtain ⟨n0, near0, nd0⟩ := check_zero h0
  obtain ⟨n1, near1, nd1⟩ := check_zero h1
  have hC0 := Aside0.mk (linear_Check.calls A0 c0 l0 0 w hr0 hc0 h0)
  have hR := Aside0.mk hres; clear hres
  have hN0 := Aside0.mk near0; clear near0
  have hN1 := Aside0.mk near1; clear near1
  have hH1 := Aside0.mk h1; clear h1 h0 nd0 nd1
  have hmm := @run_makeMap Try.prog
  have HR0 := Aside0.mk hr0; have HR1 := Aside0.mk hr1
  go_enter Try.func20, Try.ntmps20
  go_wp2_with fail
  refine hC0.out.mono ?_
  rintro e w1 ⟨rfl, hb1⟩
  have hz1 := hb1.size
  have HB1 := Aside0.mk hb1; clear hb1 hr0 hC0
  go_wp2_with fail
  refine (linear_Check.calls A1 c1 l1 0 w1 (Kd.C_below hr1 HB1.out) hc1 hH1.out).mono ?_
  rintro e w2 ⟨rfl, hb2⟩
  have hz2 := hb2.size
  have HB2 := Aside0.mk (below_then HB1.out hz1 hb2); clear hb2 HB1 hr1 hH1
  go_wp2_with fail
  have HS0 := Aside0.mk (show PSet (w2.alloc (.map #[] 0)) w2.heap.size (norm (prods (l0.take 0) l1)) from SetAt.made w2)
  have HB3 := Aside0.mk (below_alloc HB2.out (.map #[] 0))
  have hz3 : w.heap.size ≤ w2.heap.size := by omega
  clear HB2
  go_loopw [29] (fun i wr => ∃ k : Nat, k ≤ l0.length ∧ i = .int .i64 k ∧ PSet wr w2.heap.size (norm (prods (l0.take k) l1)) ∧ Below w.heap.size w wr) (fun i _ => l0.length - (intOf i).toNat)
  case atStart => exact ⟨0, Nat.zero_le _, rfl, HS0.out, HB3.out⟩
  case round =>
    clear HB3 HS0
    obtain ⟨k, hk, rfl, hs, hB⟩ := hrel
    have HS := Aside0.mk hs; clear hs
    have HB := Aside0.mk hB; clear hB
    have hzr := HB.out.size
    by_cases hlt : k < l0.length
    · obtain ⟨ad, hA, d0', d1'⟩ := at_T25 HR0.out (k : Int) (by omega) (by omega)
      subst hA
      have d0 := pw_cell_below HB.out d0'
      have d1 := pw_cell_below HB.out d1'
      clear d0' d1'
      rw [Int.toNat_natCast] at d0 d1
      have hpn := near_bounds (hN0.out _ (rd_mem l0 k hlt k rfl))
      have hts := Aside0.mk (take_succ_rd l0 k hlt)
      generalize rd_T25 l0 (k : Int) = p at *
      obtain ⟨⟨pa, pb⟩, pc, pd⟩ := hpn
      go_wp2_with fail
      obtain ⟨wo, rfl⟩ : ∃ wo : World, wo = wr := ⟨_, rfl⟩
      have hbl := HS.out.lt
      have HS1 := Aside0.mk (show PSet (wo.alloc (.cells #[.int .i64 p.f0, .int .i64 p.f1] 25)) w2.heap.size (norm (prods (l0.take k) l1 ++ (l1.take 0).map (addP p))) by simpa using HS.out.alloc _)
      have HG1 := Aside0.mk (alloc_new wo (.cells #[.int .i64 p.f0, .int .i64 p.f1] 25))
      have HB1 := Aside0.mk (below_alloc HB.out (.cells #[.int .i64 p.f0, .int .i64 p.f1] 25))
      clear d0 d1 HS HB
      generalize wo.alloc (.cells #[.int .i64 p.f0, .int .i64 p.f1] 25) = wx at *
      generalize wo.heap.size = g1 at *
      go_loopw [35] (fun j wj => ∃ m : Nat, m ≤ l1.length ∧ j = .int .i64 m ∧ PSet wj w2.heap.size (norm (prods (l0.take k) l1 ++ (l1.take m).map (addP p))) ∧ wj.heap[g1]? = some (.cells #[.int .i64 p.f0, .int .i64 p.f1] 25 (0, 0)) ∧ Below w.heap.size w wj) (fun j _ => l1.length - (intOf j).toNat)
      case atStart => exact ⟨0, Nat.zero_le _, rfl, HS1.out, HG1.out, HB1.out⟩
      case round =>
        clear HS1 HG1 HB1
        obtain ⟨m, hm, rfl, hs, hg, hB⟩ := hrel
        have HS := Aside0.mk hs; clear hs
        have HG := Aside0.mk hg; clear hg
        have HB := Aside0.mk hB; clear hB
        have hzm := HB.out.size
        by_cases hlm : m < l1.length
        · obtain ⟨ad1, hA1, d0', d1'⟩ := at_T25 HR1.out (m : Int) (by omega) (by omega)
          subst hA1
          have d0 := pw_cell_below HB.out d0'
          have d1 := pw_cell_below HB.out d1'
          clear d0' d1'
          rw [Int.toNat_natCast] at d0 d1
          have hqn := near_bounds (hN1.out _ (rd_mem l1 m hlm m rfl))
          have htm := Aside0.mk (take_succ_rd l1 m hlm)
          generalize rd_T25 l1 (m : Int) = q at *
          obtain ⟨⟨qa, qb⟩, qc, qd⟩ := hqn
          have g0 := blk_cell HG.out 0; have g1' := blk_cell HG.out 1
          simp at g0 g1'
          have hgl := blk_lt HG.out
          go_wp2_with fail
          have hlen := norm_length (prods (l0.take k) l1 ++ (l1.take m).map (addP p))
          have hmul : k * l1.length ≤ 64 * 64 := Nat.mul_le_mul (by omega) n1
          simp only [List.length_append, List.length_map, List.length_take, prods_length, Nat.min_eq_left hk, Nat.min_eq_left hm] at hlen
          refine (linear_set_turn.calls _ _ (addP p q) ⟨wf_i64 (by simp only [addP]; omega) (by simp only [addP]; omega), wf_i64 (by simp only [addP]; omega) (by simp only [addP]; omega)⟩ _ (HS.out.alloc _) (by unfold maxLen; omega)).mono ?_
          rintro e w4 ⟨rfl, hs4, hg4⟩
          have HS4 := Aside0.mk (show PSet w4 w2.heap.size (norm (prods (l0.take k) l1 ++ (l1.take (m + 1)).map (addP p))) by
            rw [htm.out, List.map_append, ← List.append_assoc, show [q].map (addP p) = [addP p q] from rfl, norm_snoc]; exact hs4)
          have HB4 := Aside0.mk (below_turn (below_alloc HB.out _) (by rw [size_alloc]; omega) hz3 hg4)
          have HG4 := Aside0.mk (blk_grown (blk_alloc HG.out _) hg4 (fun e => by injection e with e; omega))
          clear hs4 hg4 d0 d1 g0 g1' hlen hmul HS HB HG
          go_wp2
          go_roundw
          case rel => exact ⟨m + 1, by omega, by go_num, HS4.out, HG4.out, HB4.out⟩
          case measure => simp [intOf]; omega
        · have hml : l1.take m = l1 := List.take_of_length_le (by omega)
          have HS4 := Aside0.mk (show PSet wr w2.heap.size (norm (prods (l0.take (k + 1)) l1)) by
            rw [hts.out, prods_snoc]; have := HS.out; rwa [hml] at this)
          clear hml HS
          go_wp2
          go_roundw
          case rel => exact ⟨k + 1, by omega, by go_num, HS4.out, HB.out⟩
          case measure => simp [intOf]; omega
    · have hkl : l0.take k = l0 := List.take_of_length_le (by omega)
      have HS4 := Aside0.mk (show PSet wr w2.heap.size (norm (prods l0 l1)) by have := HS.out; rwa [hkl] at this)
      clear hkl HS
      have hprod : ∀ p ∈ norm (prods l0 l1), okF p := fun p hp => by
        obtain ⟨a, ha, hab⟩ := List.mem_flatMap.1 (norm_sub hp)
        obtain ⟨b, hb, rfl⟩ := List.mem_map.1 hab
        have := near_bounds (hN0.out a ha); have := near_bounds (hN1.out b hb)
        unfold okF addP; simp only; omega
      have hlen := norm_length (prods l0 l1)
      have hmul : l0.length * l1.length ≤ 64 * 64 := Nat.mul_le_mul n0 n1
      rw [prods_length] at hlen
      have hL := Aside0.mk (linear_set_list.calls _ _ wr HS4.out hprod (by omega))
      clear hprod HS4 hmul hlen
      generalize sortP (norm (prods l0 l1)) = ls at *
      go_wp2_with (go_at_call 46; refine hL.out.mono ?_; rintro e w4 ⟨v4, he, hR4, hb4⟩; obtain ⟨A4, c4, hv4, hc4, hC4⟩ := Kd.R_reads hR4; subst hv4; subst he)
      have HR4 := Aside0.mk (Kd.R_lower hR4 hzr)
      have HB4 := Aside0.mk (below_then HB.out hzr hb4)
      have HC4 := Aside0.mk hC4
      have hz4 := HB4.out.size
      have hmax := Kd.C_max hC4
      clear hR4 hb4 hC4 HB hL
      obtain ⟨wo, rfl⟩ : ∃ wo : World, wo = wr := ⟨_, rfl⟩
      go_loopw [58] (fun i wr => ∃ k : Nat, k ≤ ls.length ∧ i = .int .i64 k ∧ (ls.take k).all nearP = true ∧ Below w4.heap.size w4 wr) (fun i _ => ls.length - (intOf i).toNat)
      case atStart => exact ⟨0, Nat.zero_le _, rfl, by simp, Below.refl _ _⟩
      case round =>
        clear hk hlt
        obtain ⟨k, hk, rfl, hall, hB⟩ := hrel
        have HB := Aside0.mk hB; clear hB
        have HA := Aside0.mk hall; clear hall
        by_cases hlt : k < ls.length
        · obtain ⟨ad, hA, e0, e1⟩ := at_T25 HC4.out (k : Int) (by omega) (by omega)
          subst hA
          have d0 := pw_cell_below HB.out e0
          have d1 := pw_cell_below HB.out e1
          clear e0 e1
          rw [Int.toNat_natCast] at d0 d1
          have hts := Aside0.mk (all_take_succ ls k hlt)
          have hmem := Aside0.mk (rd_mem ls k hlt k rfl)
          generalize rd_T25 ls (k : Int) = p at *
          go_wp2_with fail
          have hns := near_some p.f0 p.f1
          cases hb : (nearN p.f0 && nearN p.f1) with
          | true =>
            rw [hb] at hns
            refine (linear_near.calls 3 _ _ _ _ hns).mono ?_
            rintro e w5 ⟨rfl, hb1⟩
            clear hns
            obtain ⟨hb1', hz1, _⟩ := alloc1_below hb1
            clear hb1
            have hz := HB.out.size
            have HB1 := Aside0.mk (below_then HB.out hz hb1')
            clear hz hz1 hb1'
            have hb' := Aside0.mk hb; clear hb
            go_wp2
            go_roundw
            case rel => exact ⟨k + 1, by omega, by go_num, by rw [hts.out, HA.out, Bool.true_and]; exact hb'.out, HB1.out⟩
            case measure => simp [intOf]; omega
          | false =>
            rw [hb] at hns
            refine (linear_near.calls 3 _ _ _ _ hns).mono ?_
            rintro e w5 ⟨rfl, hb1⟩
            clear hns
            obtain ⟨hb1', hz1, _⟩ := alloc1_below hb1
            clear hb1
            have hz := HB.out.size
            have HB1 := Aside0.mk (below_then HB4.out hz4 (below_then HB.out hz hb1'))
            clear hz hz1 hb1'
            have hr5 := hR.out
            rw [if_neg (fun hall => by rw [List.all_eq_true] at hall; have := hall p hmem.out; unfold nearP at this; rw [hb] at this; cases this)] at hr5
            simp only [Option.some.injEq, Prod.mk.injEq] at hr5
            obtain ⟨rfl, rfl⟩ := hr5
            clear hb
            go_wp2
            go_ret2
            exact ⟨_, rfl, Kd.R_nil _ _ _ _ _, HB1.out⟩
        · have hkl : ls.take k = ls := List.take_of_length_le (by omega)
          have HA' := HA.out
          rw [hkl] at HA'
          have hr5 := hR.out
          rw [if_pos HA'] at hr5
          simp only [Option.some.injEq, Prod.mk.injEq] at hr5
          obtain ⟨rfl, rfl⟩ := hr5
          clear hkl HA HA'
          go_wp2
          go_ret2
          exact ⟨_, rfl, Kd.R_below HR4.out HB.out, below_then HB4.out hz4 HB.out⟩

theorem linear_Times.calls (A0 : Option Addr) (c0 : Nat) (l0 : List S25) (A1 : Option Addr) (c1 : Nat) (l1 : List S25) (r1 : List S25) (r2 : Int) (w : World) (hr0 : Kd.C k25 w A0 l0.length l0) (hc0 : l0.length ≤ c0) (hr1 : Kd.C k25 w A1 l1.length l1) (hc1 : l1.length ≤ c1)
    (h : linear_Times.f l0 l1 = some (r1, r2)) :
    Calls Try.prog 20 #[.slice A0 l0.length c0, .slice A1 l1.length c1] w fun e w' => ∃ v0_ : Value, e = .returned (.tuple #[v0_, .int .i64 r2]) ∧ Kd.R k25 25 w' w.heap.size (fun _ => True) v0_ r1 ∧ Below w.heap.size w w' := by
  unfold linear_Times.f at h
  obtain ⟨e0, h0, h⟩ := Option.bind_eq_some_iff.mp h
  by_cases he0 : e0 = 0
  case neg =>
    rw [if_neg he0] at h
    simp only [Option.some.injEq, Prod.mk.injEq] at h
    obtain ⟨rfl, rfl⟩ := h
    have hC := Aside0.mk (linear_Check.calls A0 c0 l0 e0 w hr0 hc0 h0)
    have he0' : (e0 != 0) = true := bne_iff_ne.2 he0
    clear h0 he0
    go_enter Try.func20, Try.ntmps20
    go_wp2_with (go_at_call 15; refine hC.out.mono ?_; rintro e w1 ⟨rfl, hb1⟩)
    go_ret2
    exact ⟨_, rfl, Kd.R_nil _ _ _ _ _, hb1⟩
  subst he0
  rw [if_pos rfl] at h
  obtain ⟨e1, h1, h⟩ := Option.bind_eq_some_iff.mp h
  by_cases he1 : e1 = 0
  case neg =>
    rw [if_neg he1] at h
    simp only [Option.some.injEq, Prod.mk.injEq] at h
    obtain ⟨rfl, rfl⟩ := h
    have hC := Aside0.mk (linear_Check.calls A0 c0 l0 0 w hr0 hc0 h0)
    have he1' : (e1 != 0) = true := bne_iff_ne.2 he1
    have H1 := Aside0.mk h1
    have HR1 := Aside0.mk hr1
    clear h0 he1 h1 hr0 hr1
    go_enter Try.func20, Try.ntmps20
    go_wp2_with fail
    refine hC.out.mono ?_
    rintro e w1 ⟨rfl, hb1⟩
    have HB1 := Aside0.mk hb1
    have hz1 := hb1.size
    clear hb1
    go_wp2_with fail
    refine (linear_Check.calls A1 c1 l1 e1 w1 (Kd.C_below HR1.out HB1.out) hc1 H1.out).mono ?_
    rintro e w2 ⟨rfl, hb2⟩
    go_wp2
    go_ret2
    exact ⟨_, rfl, Kd.R_nil _ _ _ _ _, below_then HB1.out hz1 hb2⟩
  subst he1
  rw [if_pos rfl] at h
  exact times_loop A0 c0 l0 A1 c1 l1 w hr0 hc0 hr1 hc1 h0 h1 r1 r2 h
end Go.Proofs.Ytomogkhdfaiekaa.PLin
