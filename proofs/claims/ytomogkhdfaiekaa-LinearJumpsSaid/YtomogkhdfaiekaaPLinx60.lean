/-
  The document's torus: function 60, walked by hand.
-/
import Derived.Test.YtomogkhdfaiekaaPLinx0
import Derived.Test.YtomogkhdfaiekaaHTopo
import Derived.Deep.DeepCutAuto
namespace Go.Proofs.Ytomogkhdfaiekaa.PLin
open Go.RowKit Go.Proofs.Ytomogkhdfaiekaa.HW Go.Proofs.YtomogkhdfaiekaaW.PrintWords Go.Proofs.YtomogkhdfaiekaaW.PrintLast Go.Proofs.YtomogkhdfaiekaaW.PrintMore
attribute [local go_sem] max2_int min2_int max_two min_two max_three min_three max_four min_four   -- for this text's walks alone
set_option linter.unusedVariables false
set_option linter.unusedSimpArgs false

/-- What is wrong with a topology here. -/
def torusC (K W H T S : Int) : Int := if checkC K W H T S = 0 then (if K = 2 then (if W = 0 ∨ H = 0 then 42 else 0) else 40) else 9

theorem legal_iff (K W H T S : Int) (h : checkC K W H T S = 0) : (1 ≤ K ∧ K ≤ 5) ∧ (0 ≤ W ∧ W ≤ 65536) ∧ (0 ≤ H ∧ H ≤ 65536) ∧ T ≤ 2 := by
  unfold checkC at h
  repeat' (split at h)
  all_goals first | omega | exact absurd h (by decide)

theorem torusC_eq (K W H T S r : Int) (h : ((¬ ((1 ≤ K ∧ K ≤ 5) ∧ (0 ≤ W ∧ W ≤ 65536) ∧ (0 ≤ H ∧ H ≤ 65536) ∧ T ≤ 2)) ∧ r = 9) ∨ (((1 ≤ K ∧ K ≤ 5) ∧ (0 ≤ W ∧ W ≤ 65536) ∧ (0 ≤ H ∧ H ≤ 65536) ∧ T ≤ 2) ∧ (
    (K = 1 ∧ (T = 0 ∧ S = 0 ∧ r = 40 ∨ ¬ (T = 0 ∧ S = 0) ∧ r = 9)) ∨
    (K = 2 ∧ (T = 0 ∧ S = 0 ∧ ((W = 0 ∨ H = 0) ∧ r = 42 ∨ ¬ (W = 0 ∨ H = 0) ∧ r = 0) ∨ T = 0 ∧ S ≠ 0 ∧ r = 9 ∨
      T ≠ 0 ∧ ((W = 0 ∨ H = 0 ∨ S = 0) ∧ r = 9 ∨ W ≠ 0 ∧ H ≠ 0 ∧ S ≠ 0 ∧ (T = 2 ∧ (S < H ∧ -H < S ∧ r = 0 ∨ ¬ (S < H ∧ -H < S) ∧ r = 9) ∨ T ≠ 2 ∧ (S < W ∧ -W < S ∧ r = 0 ∨ ¬ (S < W ∧ -W < S) ∧ r = 9))))) ∨
    (K = 3 ∧ (T = 0 ∧ r = 9 ∨
      T ≠ 0 ∧ ((W = 0 ∨ H = 0) ∧ r = 9 ∨ W ≠ 0 ∧ H ≠ 0 ∧ (T = 2 ∧ (S < H ∧ -H < S ∧ r = 40 ∨ ¬ (S < H ∧ -H < S) ∧ r = 9) ∨ T ≠ 2 ∧ (S < W ∧ -W < S ∧ r = 40 ∨ ¬ (S < W ∧ -W < S) ∧ r = 9))))) ∨
    (K = 4 ∧ (T = 0 ∧ S = 0 ∧ W ≠ 0 ∧ H ≠ 0 ∧ r = 40 ∨ ¬ (T = 0 ∧ S = 0 ∧ W ≠ 0 ∧ H ≠ 0) ∧ r = 9)) ∨
    (K = 5 ∧ (T = 0 ∧ S = 0 ∧ W ≠ 0 ∧ H ≠ 0 ∧ W = H ∧ r = 40 ∨ ¬ (T = 0 ∧ S = 0 ∧ W ≠ 0 ∧ H ≠ 0 ∧ W = H) ∧ r = 9))))) : torusC K W H T S = r := by
  unfold torusC
  rcases h with ⟨h, rfl⟩ | ⟨h, h2⟩
  · rw [if_neg fun e => h (legal_iff K W H T S e)]
  · unfold checkC
    rw [if_neg (by omega : ¬ (K < 1 ∨ 5 < K)), if_neg (by omega : ¬ (W < 0 ∨ 65536 < W ∨ H < 0 ∨ 65536 < H))]
    rcases h2 with ⟨rfl, h2⟩ | ⟨rfl, h2⟩ | ⟨rfl, h2⟩ | ⟨rfl, h2⟩ | ⟨rfl, h2⟩
    all_goals (repeat' split)
    all_goals omega

theorem checkC_legal (K W H T S n : Int) (hl : (1 ≤ K ∧ K ≤ 5) ∧ (0 ≤ W ∧ W ≤ 65536) ∧ (0 ≤ H ∧ H ≤ 65536) ∧ T ≤ 2) (hn : n = if T = 2 then H else W) :
    checkC K W H T S = 0 ↔ ((K = 1 ∧ T = 0 ∧ S = 0) ∨ (K = 2 ∧ (T = 0 ∧ S = 0 ∨ T ≠ 0 ∧ ¬ (W = 0 ∨ H = 0) ∧ S ≠ 0 ∧ (S < n ∧ -n < S))) ∨ (K = 3 ∧ T ≠ 0 ∧ ¬ (W = 0 ∨ H = 0) ∧ (S < n ∧ -n < S)) ∨ (K = 4 ∧ T = 0 ∧ S = 0 ∧ ¬ (W = 0 ∨ H = 0)) ∨ (K = 5 ∧ T = 0 ∧ S = 0 ∧ ¬ (W = 0 ∨ H = 0) ∧ W = H)) := by
  unfold checkC
  rw [if_neg (by omega : ¬ (K < 1 ∨ 5 < K)), if_neg (by omega : ¬ (W < 0 ∨ 65536 < W ∨ H < 0 ∨ 65536 < H)), ← hn]
  have hk := hl.1
  clear hn
  rcases (show K = 1 ∨ K = 2 ∨ K = 3 ∨ K = 4 ∨ K = 5 by omega) with rfl | rfl | rfl | rfl | rfl
  all_goals simp only [Int.reduceEq, false_and, and_false, false_or, or_false, true_and, and_true, if_false, if_true, ne_eq, true_or, or_true]
  all_goals (repeat' split)
  all_goals omega

/-- What the cases ask, over two truth values: has it a side without end; is it shifted by less than a side? -/
def legP (K W H T S : Int) (e f : Bool) : Prop := (K = 1 ∧ T = 0 ∧ S = 0) ∨ (K = 2 ∧ (T = 0 ∧ S = 0 ∨ T ≠ 0 ∧ e = false ∧ S ≠ 0 ∧ f = true)) ∨ (K = 3 ∧ T ≠ 0 ∧ e = false ∧ f = true) ∨ (K = 4 ∧ T = 0 ∧ S = 0 ∧ e = false) ∨ (K = 5 ∧ T = 0 ∧ S = 0 ∧ e = false ∧ W = H)
instance (K W H T S : Int) (e f : Bool) : Decidable (legP K W H T S e f) := by unfold legP; infer_instance
abbrev TO (K W H T S : Int) : Obj := .cells #[.int .u8 K, .int .i64 W, .int .i64 H, .int .u8 T, .int .i64 S] 42
set_option maxHeartbeats 4000000 in
set_option maxRecDepth 100000 in
theorem torus_walk (K W H T S : Int) (w : World) :
    Calls Try.prog 60 #[.agg #[.int .u8 K, .int .i64 W, .int .i64 H, .int .u8 T, .int .i64 S]] w fun e w' => e = .returned (.int .i64 (torusC K W H T S)) ∧ Below w.heap.size w w' := by
  go_enter Try.func60, Try.ntmps60
  go_upto_if 11 with fail
  go_cut [3] (fun s wx => ∃ n : Int, s = .int .i64 n ∧ n = (if T = 2 then H else W) ∧ wx = w.alloc (TO K W H T S))
  case first =>
    go_wp2_with fail
    all_goals
      go_meet
      refine ⟨_, rfl, ?_, rfl⟩
      split <;> simp_all
  case rest =>
    obtain ⟨n, rfl, hn, rfl⟩ := hcut
    have HN := Aside0.mk hn
    clear hn
    go_upto_region 4 with fail
    go_cut [4] (fun s wx => ∃ b : Bool, s = .bool b ∧ (b = true ↔ ((1 ≤ K ∧ K ≤ 5) ∧ (0 ≤ W ∧ W ≤ 65536) ∧ (0 ≤ H ∧ H ≤ 65536) ∧ T ≤ 2)) ∧ wx = w.alloc (TO K W H T S))
    case first =>
      go_wp2_with fail
      all_goals
        go_meet
        refine ⟨_, rfl, ?_, rfl⟩
        simp only [Bool.and_eq_true, decide_eq_true_eq, Bool.false_eq_true, false_iff, true_iff] at *
        omega
    case rest =>
      obtain ⟨b, rfl, hb, rfl⟩ := hcut
      by_cases cb : b = true
      case neg =>
        have hn : ¬ _ := fun h => cb (hb.2 h)
        have := torusC_eq K W H T S 9 (Or.inl ⟨hn, rfl⟩)
        obtain rfl := Bool.eq_false_iff.mpr cb
        clear hb hn cb
        go_wp2
        go_ret
        exact ⟨by rw [this]; rfl, below_alloc (Below.refl _ _) _⟩
      subst cb
      have hl := hb.1 rfl
      clear hb
      have HL := Aside0.mk hl
      have hn2 : 0 ≤ n ∧ n ≤ 65536 := by have := HN.out; split at this <;> omega
      clear hl
      go_upto_region 7 with fail
      go_cut [5] (fun s wx => ∃ e : Bool, s = .bool e ∧ (e = true ↔ (W = 0 ∨ H = 0)) ∧ wx = w.alloc (TO K W H T S))
      case first =>
        obtain ⟨bW, hbW⟩ : ∃ b, (W == 0) = b := ⟨_, rfl⟩
        obtain ⟨bH, hbH⟩ : ∃ b, (H == 0) = b := ⟨_, rfl⟩
        go_wp2_with fail
        all_goals
          go_meet
          refine ⟨_, rfl, ?_, rfl⟩
          rw [← @beq_iff_eq _ _ _ W 0, ← @beq_iff_eq _ _ _ H 0, hbW, hbH]
          simp
          first | exact Or.inl (by assumption) | (intro hh; exact absurd hh (by assumption))
      case rest =>
        obtain ⟨e, rfl, he, rfl⟩ := hcut
        have HE := Aside0.mk he
        clear he
        go_upto_region 8 with fail
        go_cut [6] (fun s wx => ∃ f : Bool, s = .bool f ∧ (f = true ↔ (S < n ∧ -n < S)) ∧ wx = w.alloc (TO K W H T S))
        case first =>
          have hw : wrap64 (-n) = -n := by unfold wrap64; omega
          go_wp2_with fail
          all_goals
            go_meet
            refine ⟨_, rfl, ?_, rfl⟩
            simp only [decide_eq_true_eq, Bool.and_eq_true, Bool.false_eq_true, false_iff, true_iff] at *
            omega
        case rest =>
          obtain ⟨f, rfl, hf, rfl⟩ := hcut
          have HF := Aside0.mk hf
          clear hf hn2
          go_upto_block 0 with fail
          go_cut [4, 5, 6] (fun s s5 s6 wx => s5 = .bool e ∧ s6 = .bool f ∧ ∃ b : Bool, s = .bool b ∧ (b = true ↔ legP K W H T S e f) ∧ wx = w.alloc (TO K W H T S))
          case first =>
            obtain ⟨k1, h1⟩ : ∃ b, (K == 1) = b := ⟨_, rfl⟩
            obtain ⟨k2, h2⟩ : ∃ b, (K == 2) = b := ⟨_, rfl⟩
            obtain ⟨k3, h3⟩ : ∃ b, (K == 3) = b := ⟨_, rfl⟩
            obtain ⟨k4, h4⟩ : ∃ b, (K == 4) = b := ⟨_, rfl⟩
            obtain ⟨k5, h5⟩ : ∃ b, (K == 5) = b := ⟨_, rfl⟩
            obtain ⟨t0, ht⟩ : ∃ b, (T == 0) = b := ⟨_, rfl⟩
            obtain ⟨s0, hs⟩ : ∃ b, (S == 0) = b := ⟨_, rfl⟩
            obtain ⟨wh, hwh⟩ : ∃ b, (W == H) = b := ⟨_, rfl⟩
            have htn : (T != 0) = !t0 := by rw [← ht]; rfl
            have hsn : (S != 0) = !s0 := by rw [← hs]; rfl
            have HK := Aside0.mk (show legP K W H T S e f ↔ ((k1 = true ∧ t0 = true ∧ s0 = true) ∨ (k2 = true ∧ (t0 = true ∧ s0 = true ∨ t0 = false ∧ e = false ∧ s0 = false ∧ f = true)) ∨ (k3 = true ∧ t0 = false ∧ e = false ∧ f = true) ∨ (k4 = true ∧ t0 = true ∧ s0 = true ∧ e = false) ∨ (k5 = true ∧ t0 = true ∧ s0 = true ∧ e = false ∧ wh = true)) from by
              unfold legP
              rw [← h1, ← h2, ← h3, ← h4, ← h5, ← ht, ← hs, ← hwh]
              simp only [beq_iff_eq, beq_eq_false_iff_ne])
            have hd : (k1 = true ∧ k2 = false ∧ k3 = false ∧ k4 = false ∧ k5 = false) ∨ (k1 = false ∧ k2 = true ∧ k3 = false ∧ k4 = false ∧ k5 = false) ∨ (k1 = false ∧ k2 = false ∧ k3 = true ∧ k4 = false ∧ k5 = false) ∨ (k1 = false ∧ k2 = false ∧ k3 = false ∧ k4 = true ∧ k5 = false) ∨ (k1 = false ∧ k2 = false ∧ k3 = false ∧ k4 = false ∧ k5 = true) := by
              rw [← h1, ← h2, ← h3, ← h4, ← h5]
              have := HL.out.1
              rcases (show K = 1 ∨ K = 2 ∨ K = 3 ∨ K = 4 ∨ K = 5 by omega) with rfl | rfl | rfl | rfl | rfl <;> decide
            obtain ⟨rfl, rfl, rfl, rfl, rfl⟩ | ⟨rfl, rfl, rfl, rfl, rfl⟩ | ⟨rfl, rfl, rfl, rfl, rfl⟩ | ⟨rfl, rfl, rfl, rfl, rfl⟩ | ⟨rfl, rfl, rfl, rfl, rfl⟩ := hd
            all_goals
              as_aux_lemma =>
                go_wp2_with fail
                all_goals
                  go_meet
                  refine ⟨(by first | rfl | exact congrArg Value.bool (by symm; first | assumption | exact Bool.eq_false_iff.mpr (by assumption))), (by first | rfl | exact congrArg Value.bool (by symm; first | assumption | exact Bool.eq_false_iff.mpr (by assumption))), _, rfl, ?_, rfl⟩
                  rw [HK.out]
                  clear h1 h2 h3 h4 h5 ht hs hwh htn hsn HK
                  simp [*]
          case rest =>
            obtain ⟨rfl, rfl, b, rfl, hb, rfl⟩ := hcut
            have HG := Aside0.mk hb
            clear hb
            obtain ⟨k2, h2⟩ : ∃ b, (K == 2) = b := ⟨_, rfl⟩
            have h2n : (K != 2) = !k2 := by rw [← h2]; rfl
            have HC := Aside0.mk (show torusC K W H T S = if b = true then (if k2 = true then (if e = true then 42 else 0) else 40) else 9 from by
              have hck := checkC_legal K W H T S n HL.out HN.out
              rw [← HE.out, ← HF.out, Bool.not_eq_true] at hck
              have hbc : b = true ↔ checkC K W H T S = 0 := HG.out.trans hck.symm
              unfold torusC
              rw [← h2]
              simp only [hbc, HE.out, beq_iff_eq])
            clear h2
            go_wp2_with fail
            all_goals
              go_ret
              refine ⟨by rw [HC.out]; first | rfl | simp_all, below_alloc (Below.refl _ _) _⟩
def vivariumref17_torus.f (k : Nat) (K W H T S : Int) : Option Int := some (torusC K W H T S)
theorem vivariumref17_torus.mono : ∀ a0 a1 a2 a3 a4 k, LeO (vivariumref17_torus.f k a0 a1 a2 a3 a4) (vivariumref17_torus.f (k + 1) a0 a1 a2 a3 a4) := fun _ _ _ _ _ _ => LeO.refl _
theorem vivariumref17_torus.calls (k : Nat) (K W H T S r : Int) (w : World) (h : vivariumref17_torus.f k K W H T S = some r) :
    Calls Try.prog 60 #[.agg #[.int .u8 K, .int .i64 W, .int .i64 H, .int .u8 T, .int .i64 S]] w fun e w' => e = .returned (.int .i64 r) ∧ Below w.heap.size w w' := by
  injection h with h
  subst h
  exact torus_walk K W H T S w
end Go.Proofs.Ytomogkhdfaiekaa.PLin
