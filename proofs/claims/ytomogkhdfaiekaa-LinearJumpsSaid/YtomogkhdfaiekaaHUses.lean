/-
  The book and the lists lent, as a law uses them.
-/
import Derived.Test.YtomogkhdfaiekaaHStands
import Derived.Test.YtomogkhdfaiekaaHLent
import Derived.Test.YtomogkhdfaiekaaHVec
namespace Go.Proofs.Ytomogkhdfaiekaa.PLin
open Go.Proofs.Ytomogkhdfaiekaa.HW Go.Proofs.Ytomogkhdfaiekaa.HSet Go.RowKit Go.Proofs.YtomogkhdfaiekaaW.PrintWords Go.Proofs.YtomogkhdfaiekaaW.PrintLast Go.Proofs.YtomogkhdfaiekaaW.PrintMore
set_option linter.unusedVariables false
set_option linter.unusedSimpArgs false

/-- A store below the book. -/
theorem Book.store {wB w : World} {bk : Nat} {es : List Ent} (h : Book wB w bk es) {p : Addr} (hp : p.block < wB.heap.size) (u : Value) : Book (wB.setCell p u) (w.setCell p u) bk es := by
  have hs : (wB.setCell p u).heap.size = wB.heap.size := by simp
  have hm : ∀ k, wB.heap.size ≤ k → (w.setCell p u).heap[k]? = w.heap[k]? := fun k hk => Below.heap_setCell w p u k (by omega)
  obtain ⟨h1, h2, ⟨vg, vw, h3, h4, h5, h6⟩, h7, h8, h9⟩ := h
  have hB : Below (wB.setCell p u).heap.size (wB.setCell p u) (w.setCell p u) := by
    refine ⟨h1.os, h1.tape, h1.output, by simpa using h1.size, fun i hi => ?_⟩
    rw [hs] at hi
    have e := h1.block i hi
    by_cases c : i = p.block
    · subst c
      simp only [World.setCell, Array.getElem?_modify, if_true, e]
    · rw [Below.heap_setCell w p u i c, Below.heap_setCell wB p u i c]; exact e
  refine ⟨hB, by rw [hs]; exact h2, ⟨vg, vw, (hm bk h2).trans h3, ?_, ?_, h6⟩, fun e he => ?_, fun e he => ?_, h9⟩
  · rw [hs]; exact own_move h4 fun k hk => hm k (own_base h4 k hk)
  · rw [hs]; exact own_move h5 fun k hk => hm k (own_base h5 k hk)
  · rw [hs]; exact O25_move (h7 e he) fun k hk => hm k (own_base (h7 e he) k hk)
  · rw [hs]; exact O25_move (h8 e he) fun k hk => hm k (own_base (h8 e he) k hk)

theorem R_base25 {w w' : World} {v : Value} {xs : List S25} (h : Kd.R k25 25 w' w.heap.size (fun _ => True) v xs) {base : Nat} (hb : base ≤ w.heap.size) : O25 w' base v xs := own_weaken (O25_of_R h) hb
theorem new_ent {wB w w' : World} {bk : Nat} {es : List Ent} (h : Book wB w bk es) {v : Value} {xs : List S25} (hR : Kd.R k25 25 w' w.heap.size (fun _ => True) v xs) : ∀ e ∈ es, ∀ k, e.u.ownBlock = some k → v.ownBlock ≠ some k := fun e he k hk hk' => by
  have h1 := own_lt (h.got e he) k hk
  have h2 := own_base (O25_of_R hR) k hk'
  omega

theorem x_C {w : World} {base : Nat} {A : Option Addr} {c : Nat} {a : List S25} (h : O25 w base (.slice A (a.length + 70) c) (a ++ marks)) : Kd.C k25 w A a.length a := by
  obtain ⟨A', c', e, _, hC⟩ := O25_reads h
  injection e with e1 e2 e3
  subst e1
  have := Kd.C_take (m := a.length) hC (by rw [List.length_append]; omega)
  rwa [List.take_left' rfl] at this
theorem x_C70 {w : World} {base : Nat} {A : Option Addr} {c : Nat} {a : List S25} (h : O25 w base (.slice A (a.length + 70) c) (a ++ marks)) : Kd.C k25 w A (a.length + 70) (a ++ marks) := by
  obtain ⟨A', c', e, _, hC⟩ := O25_reads h
  injection e with e1 e2 e3
  subst e1
  rwa [← e2] at hC
theorem tcells {w : World} {g : Nat} {K W H T S : Int} (h : TBox w g K W H T S) : w.cell? ⟨g, 0, none⟩ = some (.int .u8 K) ∧ w.cell? ⟨g, 1, none⟩ = some (.int .i64 W) ∧ w.cell? ⟨g, 2, none⟩ = some (.int .i64 H) ∧ w.cell? ⟨g, 3, none⟩ = some (.int .u8 T) ∧ w.cell? ⟨g, 4, none⟩ = some (.int .i64 S) := by
  refine ⟨?_, ?_, ?_, ?_, ?_⟩ <;> (rw [blk_cell h]; rfl)
def smallB (W H : Int) : Bool := decide (W ≤ 0) || decide (H ≤ 0) || decide (65536 < W) || decide (65536 < H) || decide (wrap64 (W * H) ≤ 3000) || decide (1048576 < wrap64 (W * H))
set_option maxHeartbeats 2000000 in
set_option maxRecDepth 100000 in
theorem small_walk (K W H T S : Int) (w : World) :
    Calls Try.prog 23 #[.agg #[.int .u8 K, .int .i64 W, .int .i64 H, .int .u8 T, .int .i64 S]] w fun e w' => e = .returned (.bool (smallB W H)) ∧ Below w.heap.size w w' := by
  go_enter Try.func23, Try.ntmps23
  go_wp2_with fail
  all_goals
    go_ret
    refine ⟨congrArg (fun b => Ending.returned (Value.bool b)) ?_, below_alloc (Below.refl _ _) _⟩
    unfold smallB
    first | rfl | simp_all
theorem jump_len {K W H T S : Int} {D L : List S25} {n : Int} {l : List S25} {e : Int} (h : linear_Jump.f K W H T S D L n = some (l, e)) : l.length ≤ 1048576 := by
  have hE : ∀ x : Int, some (([] : List S25), x) = some (l, e) → l.length ≤ 1048576 := fun x h => by
    simp only [Option.some.injEq, Prod.mk.injEq] at h
    obtain ⟨rfl, _⟩ := h
    simp
  unfold linear_Jump.f at h
  obtain ⟨e0, h0, h⟩ := Option.bind_eq_some_iff.mp h
  by_cases c0 : e0 = 0
  case neg => rw [if_neg c0] at h; exact hE _ h
  rw [if_pos c0] at h
  obtain ⟨e1, h1, h⟩ := Option.bind_eq_some_iff.mp h
  by_cases c1 : e1 = 0
  case neg => rw [if_neg c1] at h; exact hE _ h
  rw [if_pos c1] at h
  by_cases c2 : L.all (hasB W H) = true
  case neg => rw [if_neg c2] at h; exact hE _ h
  rw [if_pos c2] at h
  by_cases c3 : L.Nodup
  case neg => rw [if_neg c3] at h; exact hE _ h
  rw [if_pos c3] at h
  subst c0
  have hv := (torus_ok h0).2.2
  unfold jumpE at h
  by_cases n0 : n < 0
  · rw [if_pos n0] at h; exact hE _ h
  rw [if_neg n0] at h
  by_cases n1 : n > 1125899906842624
  · rw [if_pos n1] at h; exact hE _ h
  rw [if_neg n1] at h
  by_cases n2 : W * H > 1048576
  · rw [if_pos n2] at h; exact hE _ h
  rw [if_neg n2] at h
  simp only [Option.some.injEq, Prod.mk.injEq] at h
  obtain ⟨rfl, _⟩ := h
  have h3 := jumpS_nodup hv D n.toNat c3 (List.all_eq_true.1 c2)
  have h4 := jumpS_home hv D n.toNat c3 (List.all_eq_true.1 c2)
  have := cells_length hv h3 h4
  unfold jumpS at this
  omega
end Go.Proofs.Ytomogkhdfaiekaa.PLin
