/-
  linear's laws: the answers that are fixed; lists compared.
-/
import Derived.Test.YtomogkhdfaiekaaHMath
import Derived.Test.YtomogkhdfaiekaaPLinx27
import Derived.Test.YtomogkhdfaiekaaHLine
namespace Go.Proofs.Ytomogkhdfaiekaa.PLin
open Go.Proofs.Ytomogkhdfaiekaa.HW Go.Proofs.Ytomogkhdfaiekaa.HSet Go.RowKit Go.Proofs.YtomogkhdfaiekaaW.PrintWords Go.Proofs.YtomogkhdfaiekaaW.PrintLast Go.Proofs.YtomogkhdfaiekaaW.PrintMore
set_option linter.unusedVariables false
set_option linter.unusedSimpArgs false

theorem sortP_eq {l t : List S25} (h1 : l.Perm t) (h2 : t.Pairwise (fun a b => leP a b = true)) : sortP l = t := sorted_unique _ _ ((sortP_perm l).trans h1) (sortP_sorted l) h2

theorem rd_drop (l : List S25) (k : Nat) (h : k < l.length) : l.drop k = rd_T25 l k :: l.drop (k + 1) := by
  rw [List.drop_eq_getElem_cons h]
  unfold rd_T25
  simp [h]

theorem same_loop (l m : List S25) (hlm : l.length = m.length) (hb : l.length < 9223372036854775807) : ∀ (k i : Nat), i ≤ l.length → l.length < k + i → vivariumlaw17_same.l0 k l m (i : Int) = some (decide (l.drop i = m.drop i))
  | 0, i, h1, h2 => by omega
  | k + 1, i, h1, h2 => by
    unfold vivariumlaw17_same.l0
    by_cases c : i < l.length
    · rw [if_pos (by omega), if_pos (by omega), if_pos (by omega)]
      have ih := same_loop l m hlm hb k (i + 1) (by omega) (by omega)
      rw [rd_drop l i c, rd_drop m i (by omega)]
      rw [w64 (a := (i : Int) + 1) (by omega) (by omega), show (i : Int) + 1 = ((i + 1 : Nat) : Int) from by omega, ih]
      generalize rd_T25 l i = p; generalize rd_T25 m i = q
      by_cases e : p = q
      · subst e; simp
      · rw [S25.ext_iff'] at e
        rw [if_pos (by
          by_cases e0 : p.f0 = q.f0
          · simp [e0]; exact fun h => e ⟨e0, h⟩
          · simp [e0])]
        rw [Option.some.injEq, eq_comm, decide_eq_false_iff_not, List.cons.injEq]
        exact fun h => e ((S25.ext_iff' _ _).1 h.1)
    · rw [if_neg (by omega)]
      rw [List.drop_eq_nil_of_le (by omega), List.drop_eq_nil_of_le (by omega)]; simp

/-- same: are two lists one? -/
theorem same_eq {l m : List S25} (hb : l.length < 9223372036854775807) {k : Nat} (hk : l.length < k) : vivariumlaw17_same.f k l m = some (decide (l = m)) := by
  unfold vivariumlaw17_same.f
  by_cases h : l.length = m.length
  · rw [if_pos (by omega)]
    have := same_loop l m h hb k 0 (by omega) (by omega)
    simpa using this
  · rw [if_neg (by omega), Option.some.injEq, eq_comm, decide_eq_false_iff_not]
    exact fun e => h (by rw [e])

theorem torus5 : linear_torus.f 8 2 5 1 0 0 = some 0 := by decide +kernel
theorem check5 : linear_Check.f [⟨0, 0⟩, ⟨1, 0⟩] = some 0 := by decide +kernel
theorem jump5 : linear_Jump.f 2 5 1 0 0 [⟨0, 0⟩, ⟨1, 0⟩] [⟨0, 0⟩] 3 = some ([⟨-2, 0⟩, ⟨-1, 0⟩, ⟨0, 0⟩, ⟨2, 0⟩], 0) := by
  have e1 : sortP (norm (nearL 5 1 0 0 [⟨0, 0⟩, ⟨1, 0⟩])) = [⟨0, 0⟩, ⟨1, 0⟩] := sortP_eq (by decide +kernel) (by decide +kernel)
  have e2 : sortP (norm (doubledL 5 1 0 0 [⟨0, 0⟩, ⟨1, 0⟩])) = [⟨0, 0⟩, ⟨2, 0⟩] := sortP_eq (by decide +kernel) (by decide +kernel)
  have e3 : jumpN 5 1 0 0 3 [⟨0, 0⟩, ⟨1, 0⟩] [⟨0, 0⟩] = norm (movedL 5 1 0 0 [⟨0, 0⟩, ⟨2, 0⟩] (norm (movedL 5 1 0 0 [⟨0, 0⟩, ⟨1, 0⟩] [⟨0, 0⟩]))) := by
    rw [jumpN, dif_neg (by omega), if_pos (by omega), e2, show 3 / 2 = 1 from rfl, jumpN, dif_neg (by omega), if_pos (by omega), show 1 / 2 = 0 from rfl, jumpN, dif_pos rfl]
  unfold linear_Jump.f
  rw [torus5]
  simp only [Option.bind_some, if_true]
  rw [check5]
  simp only [Option.bind_some, if_true]
  rw [if_pos (by decide +kernel), if_pos (by decide +kernel)]
  unfold jumpE
  rw [if_neg (by omega), if_neg (by omega), if_neg (by omega), e1, show (3 : Int).toNat = 3 from rfl, e3]
  rw [sortP_eq (t := [⟨-2, 0⟩, ⟨-1, 0⟩, ⟨0, 0⟩, ⟨2, 0⟩]) (by decide +kernel) (by decide +kernel)]
theorem times5 : linear_Times.f [⟨0, 0⟩, ⟨1, 0⟩] [⟨0, 0⟩, ⟨1, 0⟩] = some ([⟨0, 0⟩, ⟨2, 0⟩], 0) := by
  unfold linear_Times.f
  rw [check5]
  simp only [Option.bind_some, if_true]
  rw [sortP_eq (t := [⟨0, 0⟩, ⟨2, 0⟩]) (by decide +kernel) (by decide +kernel), if_pos (by decide +kernel)]
theorem line5 : linear_Line.f [0, 1] 3 (-2) = some (true, 0) := by
  have e3 : lineN [0, 1] 3 [⟨-2, 0⟩] = halves (norm (nextL [0, 1] 1 (halves (norm (nextL [0, 1] 3 [⟨-2, 0⟩]))))) := by
    rw [lineN, dif_neg (by omega), show 3 / 2 = 1 from rfl, lineN, dif_neg (by omega), show 1 / 2 = 0 from rfl, lineN, dif_pos rfl]
  unfold linear_Line.f lineA
  rw [if_pos (by decide +kernel), if_neg (by omega), if_neg (by omega), if_neg (by omega), show (3 : Int).toNat = 3 from rfl, e3]
  decide +kernel

/-- The cells of places in line. -/
def cellsP (l : List S25) : List Value := l.flatMap fun p => [.int .i64 p.f0, .int .i64 p.f1]
theorem cellsP_get : ∀ (l : List S25) (j : Nat) (p : S25), l[j]? = some p → (cellsP l)[j * 2]? = some (.int .i64 p.f0) ∧ (cellsP l)[j * 2 + 1]? = some (.int .i64 p.f1)
  | [], j, p, h => by simp at h
  | a :: l, 0, p, h => by
    obtain rfl := Option.some.inj h
    exact ⟨rfl, rfl⟩
  | a :: l, j + 1, p, h => by
    have ih := cellsP_get l j p (by simpa using h)
    have e : cellsP (a :: l) = .int .i64 a.f0 :: .int .i64 a.f1 :: cellsP l := rfl
    rw [e, show (j + 1) * 2 = j * 2 + 1 + 1 by omega]
    exact ih
theorem add_plain (g n : Nat) : (⟨g, 0, none⟩ : Addr).add n = ⟨g, n, none⟩ := by
  unfold Addr.add
  split <;> simp_all
/-- A block of places reads as their list. -/
theorem C_block {W : World} {g : Nat} (l : List S25) (h : W.heap[g]? = some (.cells (cellsP l).toArray 25 (0, 0))) (hl : l.length ≤ maxLen) : Kd.C k25 W (some ⟨g, 0, none⟩) l.length l := by
  refine ⟨rfl, hl, fun _ => ⟨_, rfl, fun j p hp => ?_⟩⟩
  refine ⟨[.int .i64 p.f0, .int .i64 p.f1], rfl, k25_mk W p, fun k u hu => ?_⟩
  obtain ⟨c0, c1⟩ := cellsP_get l j p hp
  match k, hu with
  | 0, hu => cases hu; rw [show (⟨g, 0, none⟩ : Addr).add (j * k25.sz + 0) = ⟨g, j * 2, none⟩ from add_plain g (j * 2)]; exact (blk_cell h _).trans (by simpa using c0)
  | 1, hu => cases hu; rw [show (⟨g, 0, none⟩ : Addr).add (j * k25.sz + 1) = ⟨g, j * 2 + 1, none⟩ from add_plain g (j * 2 + 1)]; exact (blk_cell h _).trans (by simpa using c1)
/-- A block of whole numbers reads as their list. -/
theorem C_ints {W : World} {g : Nat} (l : List Int) (h : W.heap[g]? = some (.cells (l.map (Value.int .i64)).toArray 3 (0, 0))) (hl : l.length ≤ 9223372036854775807) : Kd.C (Kd.int .i64) W (some ⟨g, 0, none⟩) l.length l := by
  refine ⟨rfl, hl, fun _ => ⟨_, rfl, fun j p hp => ⟨[.int .i64 p], rfl, rfl, fun k u hu => ?_⟩⟩⟩
  match k, hu with
  | 0, hu => cases hu; rw [show (⟨g, 0, none⟩ : Addr).add (j * (Kd.int .i64).sz + 0) = ⟨g, j, none⟩ from (add_plain g (j * 1)).trans (by rw [Nat.mul_one])]; exact (blk_cell h _).trans (by simp [hp])
theorem power5 : linear_Power.f 2 5 1 0 0 [⟨0, 0⟩, ⟨1, 0⟩] 3 = some ([⟨-2, 0⟩, ⟨-1, 0⟩, ⟨0, 0⟩, ⟨2, 0⟩], 0) := by
  unfold linear_Power.f
  rw [jump5]; rfl

set_option maxHeartbeats 1000000 in
set_option maxRecDepth 100000 in
theorem alive_walk (w : World) : Calls Try.prog 14 #[] w fun e w' => e = .returned (.bool true) ∧ Below w.heap.size w w' := by
  go_enter Try.func14, Try.ntmps14
  go_wp2_with fail
  refine (vivariumlaw17_five.calls 2 5 1 0 0 _ rfl).mono ?_
  rintro e w1 ⟨rfl, hb1⟩
  obtain ⟨hB, hz1, B0⟩ := alloc1_below hb1
  have HB := Aside0.mk hB
  have HR := Aside0.mk B0
  clear hb1 hB B0
  go_wp2_with fail
  refine (linear_Power.calls 2 5 1 0 0 _ 2 [⟨0, 0⟩, ⟨1, 0⟩] 3 [⟨-2, 0⟩, ⟨-1, 0⟩, ⟨0, 0⟩, ⟨2, 0⟩] 0 _ (C_block [⟨0, 0⟩, ⟨1, 0⟩] HR.out (by simp [maxLen])) (by simp) power5).mono ?_
  rintro e w2 ⟨v2, rfl, hR2, hb2⟩
  have HB2 := Aside0.mk (below_then HB.out (by omega) hb2)
  have HR2 := Aside0.mk (blk_below HR.out hb2)
  have HP := Aside0.mk hR2
  have hz2 := hb2.size
  clear hb2 HB HR hR2
  go_wp2_with fail
  refine (linear_Line.calls _ 2 [0, 1] 3 (-2) true 0 _ (C_ints [0, 1] (alloc_new _ _) (by simp)) (by simp) line5).mono ?_
  rintro e w3 ⟨rfl, hb3⟩
  obtain ⟨hB, hz3, _⟩ := alloc1_below hb3
  have HB3 := Aside0.mk (below_then HB2.out (by omega) hB)
  have HR3 := Aside0.mk (blk_below HR2.out hB)
  have HP3 := Aside0.mk (Kd.R_below HP.out hB)
  clear hb3 hB HB2 HR2 HP
  go_wp2_with fail
  refine (linear_Times.calls _ 2 [⟨0, 0⟩, ⟨1, 0⟩] _ 2 [⟨0, 0⟩, ⟨1, 0⟩] [⟨0, 0⟩, ⟨2, 0⟩] 0 _ (C_block [⟨0, 0⟩, ⟨1, 0⟩] HR3.out (by simp [maxLen])) (by simp) (C_block [⟨0, 0⟩, ⟨1, 0⟩] HR3.out (by simp [maxLen])) (by simp) times5).mono ?_
  rintro e w4 ⟨v4, rfl, hR4, hb4⟩
  have hz4 := hb4.size
  have HB4 := Aside0.mk (below_then HB3.out (by omega) hb4)
  have HP4 := Aside0.mk (Kd.R_below HP3.out hb4)
  have HQ4 := Aside0.mk hR4
  clear hb4 HB3 HR3 HP3 hR4
  obtain ⟨A2, c2, e2, hc2, hC2⟩ := Kd.R_reads HP4.out
  obtain ⟨A4, c4, e4, hc4, hC4⟩ := Kd.R_reads HQ4.out
  subst e2 e4
  have HC2 := Aside0.mk hC2; have HC4 := Aside0.mk hC4
  clear HP4 HQ4 hC2 hC4
  go_wp2_with fail
  refine (vivariumlaw17_same.calls 5 A2 c2 [⟨-2, 0⟩, ⟨-1, 0⟩, ⟨0, 0⟩, ⟨2, 0⟩] _ 4 [⟨-2, 0⟩, ⟨-1, 0⟩, ⟨0, 0⟩, ⟨2, 0⟩] true _ (Kd.C_alloc HC2.out _) hc2 (C_block _ (alloc_new _ _) (by simp [maxLen])) (by simp) ((same_eq (by simp) (by simp)).trans (by simp))).mono ?_
  rintro e w5 ⟨rfl, ⟨n5, rfl⟩⟩
  go_wp2_with fail
  refine (vivariumlaw17_same.calls 3 A4 c4 [⟨0, 0⟩, ⟨2, 0⟩] _ 2 [⟨0, 0⟩, ⟨2, 0⟩] true _ (Kd.C_alloc (Kd.C_drewN (Kd.C_alloc HC4.out _) _) _) hc4 (C_block _ (alloc_at (by simp) _) (by simp [maxLen])) (by simp) ((same_eq (by simp) (by simp)).trans (by simp))).mono ?_
  rintro e w6 ⟨rfl, ⟨n6, rfl⟩⟩
  go_wp2
  go_ret
  exact ⟨rfl, pw_below_drewN (below_alloc (pw_below_drewN (below_alloc HB4.out _) _) _) _⟩

def vivariumlaw17_alive.f (k : Nat) : Option Bool := some true
theorem vivariumlaw17_alive.mono : ∀ k, LeO (vivariumlaw17_alive.f k) (vivariumlaw17_alive.f (k + 1)) := fun _ => LeO.refl _
theorem vivariumlaw17_alive.calls (k : Nat) (r : Bool) (w : World) (h : vivariumlaw17_alive.f k = some r) :
    Calls Try.prog 14 #[] w fun e w' => e = .returned (.bool r) ∧ Below w.heap.size w w' := by
  obtain rfl := Option.some.inj h
  exact alive_walk w
end Go.Proofs.Ytomogkhdfaiekaa.PLin
