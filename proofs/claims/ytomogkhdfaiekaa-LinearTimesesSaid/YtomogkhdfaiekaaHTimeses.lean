/-
  LinearTimeses: the law's walk.
-/
import Derived.Test.YtomogkhdfaiekaaHRefTimes
import Derived.Test.YtomogkhdfaiekaaHStands
namespace Go.Proofs.Ytomogkhdfaiekaa.PLin
open Go.Proofs.Ytomogkhdfaiekaa.HW Go.Proofs.Ytomogkhdfaiekaa.HSet Go.RowKit Go.Proofs.YtomogkhdfaiekaaW.PrintWords Go.Proofs.YtomogkhdfaiekaaW.PrintLast Go.Proofs.YtomogkhdfaiekaaW.PrintMore
set_option linter.unusedVariables false
set_option linter.unusedSimpArgs false

/-- A store below the book. -/
theorem Book.store {wB w : World} {bk : Nat} {es : List Ent} (h : Book wB w bk es) {p : Addr} (hp : p.block < wB.heap.size) (u : Value) : Book (wB.setCell p u) (w.setCell p u) bk es := by
  have hs : (wB.setCell p u).heap.size = wB.heap.size := by simp
  have hm : ∀ k, wB.heap.size ≤ k → (w.setCell p u).heap[k]? = w.heap[k]? := fun k hk => Below.heap_setCell w p u k (by omega)
  obtain ⟨h1, h2, ⟨vg, vw, h3, h4, h5, h6⟩, h7, h8, h9⟩ := h
  have hB : Below (wB.setCell p u).heap.size (wB.setCell p u) (w.setCell p u) := by
    refine ⟨h1.os, h1.tape, h1.output, by simpa using h1.size, fun i hi => ?_⟩
    rw [hs] at hi
    have e := h1.block i hi
    by_cases c : i = p.block
    · subst c
      simp only [World.setCell, Array.getElem?_modify, if_true, e]
    · rw [Below.heap_setCell w p u i c, Below.heap_setCell wB p u i c]; exact e
  refine ⟨hB, by rw [hs]; exact h2, ⟨vg, vw, (hm bk h2).trans h3, ?_, ?_, h6⟩, fun e he => ?_, fun e he => ?_, h9⟩
  · rw [hs]; exact own_move h4 fun k hk => hm k (own_base h4 k hk)
  · rw [hs]; exact own_move h5 fun k hk => hm k (own_base h5 k hk)
  · rw [hs]; exact O25_move (h7 e he) fun k hk => hm k (own_base (h7 e he) k hk)
  · rw [hs]; exact O25_move (h8 e he) fun k hk => hm k (own_base (h8 e he) k hk)

theorem R_base25 {w w' : World} {v : Value} {xs : List S25} (h : Kd.R k25 25 w' w.heap.size (fun _ => True) v xs) {base : Nat} (hb : base ≤ w.heap.size) : O25 w' base v xs := own_weaken (O25_of_R h) hb
theorem new_ent {wB w w' : World} {bk : Nat} {es : List Ent} (h : Book wB w bk es) {v : Value} {xs : List S25} (hR : Kd.R k25 25 w' w.heap.size (fun _ => True) v xs) : ∀ e ∈ es, ∀ k, e.u.ownBlock = some k → v.ownBlock ≠ some k := fun e he k hk hk' => by
  have h1 := own_lt (h.got e he) k hk
  have h2 := own_base (O25_of_R hR) k hk'
  omega

theorem x_C {w : World} {base : Nat} {A : Option Addr} {c : Nat} {a : List S25} (h : O25 w base (.slice A (a.length + 70) c) (a ++ marks)) : Kd.C k25 w A a.length a := by
  obtain ⟨A', c', e, _, hC⟩ := O25_reads h
  injection e with e1 e2 e3
  subst e1
  have := Kd.C_take (m := a.length) hC (by rw [List.length_append]; omega)
  rwa [List.take_left' rfl] at this
theorem x_C70 {w : World} {base : Nat} {A : Option Addr} {c : Nat} {a : List S25} (h : O25 w base (.slice A (a.length + 70) c) (a ++ marks)) : Kd.C k25 w A (a.length + 70) (a ++ marks) := by
  obtain ⟨A', c', e, _, hC⟩ := O25_reads h
  injection e with e1 e2 e3
  subst e1
  rwa [← e2] at hC
/-- The numbers of the first places halved. -/
def half (p : S25) : S25 := ⟨Int.tdiv p.f0 2, p.f1⟩
def upd (a : List S25) (k : Nat) : List S25 := (a.take k).map half ++ a.drop k
theorem upd_zero (a : List S25) : upd a 0 = a := by simp [upd]
theorem upd_all (a : List S25) (k : Nat) (h : a.length ≤ k) : upd a k = a.map half := by unfold upd; rw [List.take_of_length_le h, List.drop_eq_nil_of_le h, List.append_nil]
theorem upd_length (a : List S25) (k : Nat) (h : k ≤ a.length) : (upd a k).length = a.length := by unfold upd; rw [List.length_append, List.length_map, List.length_take, List.length_drop]; omega
theorem upd_get (a : List S25) (k : Nat) (q : S25) (h : k < a.length) (hq : a[k]? = some q) : (upd a k ++ marks)[k]? = some q := by
  have e : ((a.take k).map half).length = k := by rw [List.length_map, List.length_take]; omega
  rw [List.getElem?_append_left (by rw [upd_length a k (by omega)]; exact h)]
  unfold upd
  rw [List.getElem?_append_right (by omega), e, Nat.sub_self, List.getElem?_drop, Nat.add_zero, hq]
theorem upd_set (a : List S25) (k : Nat) (q : S25) (h : k < a.length) (hq : a[k]? = some q) : (upd a k ++ marks).set k (half q) = upd a (k + 1) ++ marks := by
  have e : ((a.take k).map half).length = k := by rw [List.length_map, List.length_take]; omega
  obtain ⟨h1, h2⟩ := List.getElem?_eq_some_iff.1 hq
  rw [List.set_append_left _ _ (by rw [upd_length a k (by omega)]; exact h)]
  congr 1
  unfold upd
  rw [List.set_append_right _ _ (by omega), e, Nat.sub_self, List.drop_eq_getElem_cons h, List.set_cons_zero, List.take_succ_eq_append_getElem h, List.map_append, h2, List.append_assoc]; rfl
theorem cellsP_set0 (y : List S25) (j : Nat) (q : S25) (v : Int) (h : y[j]? = some q) : cellsP (y.set j ⟨v, q.f1⟩) = (cellsP y).set (j * 2) (.int .i64 v) := by
  rw [cellsP_set]
  obtain ⟨_, d1⟩ := cellsP_get y j q h
  apply List.ext_getElem?
  intro i
  rw [List.getElem?_set]
  by_cases c : j * 2 + 1 = i
  · subst c
    rw [if_pos rfl, if_pos (by rw [List.length_set]; exact (List.getElem?_eq_some_iff.1 d1).1), List.getElem?_set, if_neg (by omega), d1]
  · rw [if_neg c]
theorem half_wf {q : S25} (h : okP q) : -9223372036854775808 ≤ Int.tdiv q.f0 2 ∧ Int.tdiv q.f0 2 ≤ 9223372036854775807 := by
  have h1 : -9223372036854775808 ≤ q.f0 ∧ q.f0 ≤ 9223372036854775807 := by
    have h1 := h.1
    simp [Lit.wf, IntKind.min, IntKind.max, IntKind.signed, IntKind.bits] at h1
    omega
  rcases Int.le_total 0 q.f0 with h2 | h2
  · rw [Int.tdiv_eq_ediv_of_nonneg h2]; omega
  · have := Int.neg_tdiv (-q.f0) 2
    rw [Int.neg_neg] at this
    rw [this, Int.tdiv_eq_ediv_of_nonneg (by omega)]; omega

theorem stored_any {w : World} {base g n m c : Nat} {e : TypeId} {size : Nat} {xs : List Value} (h : w.ownsRow base e size (.slice (some ⟨g, 0, none⟩) n c) m xs) (j : Nat) (u : Value) : (w.setCell ⟨g, j, none⟩ u).ownsRow base e size (.slice (some ⟨g, 0, none⟩) n c) m (xs.set j u) := by
  have hn : n = m := by
    rcases h.2 with ⟨h', _⟩ | ⟨g', cap, cur, h', _⟩
    · cases h'
    · injection h'
  subst hn
  exact (h.stored j u).1

/-- The walk's things while the first list is written over. -/
structure Upd (w wB wr : World) (bk : Nat) (es : List Ent) (gx gy cx cy : Nat) (a b : List S25) : Prop where
  low : Below w.heap.size w wB
  size : wB.heap.size = wB.heap.size
  book : Book wB wr bk es
  x : O25 wr w.heap.size (.slice (some ⟨gx, 0, none⟩) (a.length + 70) cx) (a ++ marks)
  y : O25 wr w.heap.size (.slice (some ⟨gy, 0, none⟩) (b.length + 70) cy) (b ++ marks)

theorem Upd.step {w wB wr : World} {bk gx gy cx cy k : Nat} {es : List Ent} {a b : List S25} {q : S25} (h : Upd w wB wr bk es gx gy cx cy (upd a k) b) (hgx : w.heap.size ≤ gx) (hlo : gx < wB.heap.size) (hxy : gx < gy) (hk : k < a.length) (hq : a[k]? = some q) :
    Upd w (wB.setCell ⟨gx, k * 2, none⟩ (.int .i64 (Int.tdiv q.f0 2))) (wr.setCell ⟨gx, k * 2, none⟩ (.int .i64 (Int.tdiv q.f0 2))) bk es gx gy cx cy (upd a (k + 1)) b := by
  have hx := h.x
  refine ⟨below_set h.low hgx, rfl, h.book.store hlo _, ?_, O25_move h.y fun j hj => Below.heap_setCell wr ⟨gx, k * 2, none⟩ _ j (by injection hj with hj; intro e; have e2 : gy = j := hj; have e3 : j = gx := e; omega)⟩
  have h1 := (stored_any hx (k * 2) (.int .i64 (Int.tdiv q.f0 2)))
  have e := cellsP_set0 (upd a k ++ marks) k q (Int.tdiv q.f0 2) (upd_get a k q hk hq)
  have e2 := upd_set a k q hk hq
  rw [show (⟨Int.tdiv q.f0 2, q.f1⟩ : S25) = half q from rfl, e2] at e
  rw [← e] at h1
  rw [upd_length a k (by omega)] at h1
  show World.ownsRow _ _ 25 2 (.slice (some ⟨gx, 0, none⟩) ((upd a (k + 1)).length + 70) cx) (upd a (k + 1) ++ marks).length (cellsP (upd a (k + 1) ++ marks))
  rw [upd_length a (k + 1) (by omega), show (upd a (k + 1) ++ marks).length = (upd a k ++ marks).length from by rw [List.length_append, List.length_append, upd_length a (k + 1) (by omega), upd_length a k (by omega)]]
  exact h1

theorem times_len {a b : List S25} {l : List S25} {n : Int} (h : linear_Times.f a b = some (l, n)) : l.length ≤ 4096 := by
  unfold linear_Times.f at h
  obtain ⟨e, h1, h⟩ := Option.bind_eq_some_iff.mp h
  by_cases c1 : e = 0
  case neg => rw [if_neg c1] at h; (simp only [Option.some.injEq, Prod.mk.injEq] at h; obtain ⟨rfl, _⟩ := h; simp)
  rw [if_pos c1] at h
  obtain ⟨e2, h2, h⟩ := Option.bind_eq_some_iff.mp h
  by_cases c2 : e2 = 0
  case neg => rw [if_neg c2] at h; (simp only [Option.some.injEq, Prod.mk.injEq] at h; obtain ⟨rfl, _⟩ := h; simp)
  rw [if_pos c2] at h
  subst c1 c2
  obtain ⟨na, _, _⟩ := check_zero h1
  obtain ⟨nb, _, _⟩ := check_zero h2
  have hlen := norm_length (prods a b)
  have hm : a.length * b.length ≤ 64 * 64 := Nat.mul_le_mul na nb
  rw [prods_length] at hlen
  split at h
  · simp only [Option.some.injEq, Prod.mk.injEq] at h; obtain ⟨rfl, _⟩ := h; rw [(sortP_perm _).length_eq]; omega
  · (simp only [Option.some.injEq, Prod.mk.injEq] at h; obtain ⟨rfl, _⟩ := h; simp)

set_option maxHeartbeats 2000000 in
set_option maxRecDepth 100000 in
theorem LinearTimeses_walk (A0 : Option Addr) (c0 : Nat) (a : List S25) (A1 : Option Addr) (c1 : Nat) (b : List S25) (w : World) (hr0 : Kd.C k25 w A0 a.length a) (hc0 : a.length ≤ c0) (hr1 : Kd.C k25 w A1 b.length b) (hc1 : b.length ≤ c1) (hn0 : a.length * 16 ≤ 140737488351232) (hn1 : b.length * 16 ≤ 140737488351232) (hok : ∀ p ∈ a, okP p) :
    Calls Try.prog 5 #[.slice A0 a.length c0, .slice A1 b.length c1] w fun e w' => e = .returned (.bool true) ∧ Below w.heap.size w w' := by
  have R0 := Aside0.mk hr0; have R1 := Aside0.mk hr1; have HOK := Aside0.mk hok
  clear hr0 hr1 hok
  by_cases ca : a.length > 300
  · have hd : decide (300 < (a.length : Int)) = true := decide_eq_true (by omega)
    go_enter Try.func5, Try.ntmps5
    go_wp2_with fail
    refine (alive_walk _).mono ?_
    rintro e w1 ⟨rfl, hb1⟩
    go_wp2
    go_ret
    exact ⟨rfl, hb1⟩
  by_cases cb : b.length > 300
  · have hd0 : decide (300 < (a.length : Int)) = false := decide_eq_false (by omega)
    have hd : decide (300 < (b.length : Int)) = true := decide_eq_true (by omega)
    go_enter Try.func5, Try.ntmps5
    go_wp2_with fail
    refine (alive_walk _).mono ?_
    rintro e w1 ⟨rfl, hb1⟩
    go_wp2
    go_ret
    exact ⟨rfl, hb1⟩
  have hd0 : decide (300 < (a.length : Int)) = false := decide_eq_false (by omega)
  have hd1 : decide (300 < (b.length : Int)) = false := decide_eq_false (by omega)
  obtain ⟨⟨l1, n1⟩, f1, K1, g1⟩ := ev_refTimes a b (by omega) (by omega)
  obtain ⟨⟨l2, n2⟩, f2, K2, g2⟩ := ev_refTimes a a (by omega) (by omega)
  have F1 := Aside0.mk f1; have F2 := Aside0.mk f2
  have G1 := Aside0.mk (g1 K1 (Nat.le_refl _)); have G2 := Aside0.mk (g2 K2 (Nat.le_refl _))
  clear f1 f2 g1 g2
  go_enter Try.func5, Try.ntmps5
  go_wp2_with fail
  refine (alive_walk _).mono ?_
  rintro e w1 ⟨rfl, hb1⟩
  have HB1 := Aside0.mk hb1
  clear hb1
  go_wp2_with fail
  refine (lent_walk A0 c0 a w1 (Kd.C_below R0.out HB1.out) hc0 (by omega)).mono ?_
  rintro e w2 ⟨Ax, cx, rfl, hcx, hRx, hb⟩
  have HB2 := Aside0.mk (below_then HB1.out HB1.out.size hb)
  have X2 := Aside0.mk (own_weaken (O25_of_R hRx) HB1.out.size : O25 w2 w.heap.size (.slice Ax (a.length + 70) cx) (a ++ marks))
  clear hb hRx HB1
  go_wp2_with fail
  refine (lent_walk A1 c1 b w2 (Kd.C_below R1.out HB2.out) hc1 (by omega)).mono ?_
  rintro e w3 ⟨Ay, cy, rfl, hcy, hRy, hb⟩
  have HB3 := Aside0.mk (below_then HB2.out HB2.out.size hb)
  have X3 := Aside0.mk (O25_below X2.out hb)
  have Y3 := Aside0.mk (O25_of_R hRy : O25 w3 w2.heap.size (.slice Ay (b.length + 70) cy) (b ++ marks))
  obtain ⟨gx, cx', ex, hgx1, hgx2⟩ := X2.out.form (by simp [marks_length])
  obtain ⟨gy, cy', ey, hgy1, hgy2⟩ := Y3.out.form (by simp [marks_length])
  obtain ⟨e1x, e2x, e3x⟩ : Ax = some ⟨gx, 0, none⟩ ∧ a.length + 70 = (a ++ marks).length ∧ cx = cx' := by injection ex with h1 h2 h3; exact ⟨h1, h2, h3⟩
  obtain ⟨e1y, e2y, e3y⟩ : Ay = some ⟨gy, 0, none⟩ ∧ b.length + 70 = (b ++ marks).length ∧ cy = cy' := by injection ey with h1 h2 h3; exact ⟨h1, h2, h3⟩
  subst e1x e1y
  clear ex ey e2x e2y e3x e3y
  have hgxy : gx < gy := by omega
  have hz3 := hb.size
  have hw2 : w.heap.size ≤ w2.heap.size := HB2.out.size
  have hgx3 : gx < w3.heap.size := by omega
  clear hb hRy HB2 X2 hz3
  have L1 := Aside0.mk (times_len F1.out); have L2 := Aside0.mk (times_len F2.out)
  go_wp2_with fail
  have B4 := Aside0.mk (Book.fresh (Below.refl w3.heap.size w3))
  have hb := below_alloc (Below.refl w3.heap.size w3) (.cells #[.slice none 0 0, .slice none 0 0, .bool false] 35)
  have X4 := Aside0.mk (O25_below X3.out hb); have Y4 := Aside0.mk (O25_below Y3.out hb)
  clear hb X3 Y3
  generalize w3.alloc (.cells #[.slice none 0 0, .slice none 0 0, .bool false] 35) = w4 at *
  obtain ⟨bk, hbk⟩ : ∃ bk, w3.heap.size = bk := ⟨_, rfl⟩
  have HBK := Aside0.mk hbk
  rw [hbk] at B4 ⊢
  clear hbk
  refine (vivariumref17_Times.calls K1 A0 c0 a A1 c1 b l1 n1 w4 (Kd.C_below R0.out (below_then HB3.out HB3.out.size B4.out.below)) hc0 (Kd.C_below R1.out (below_then HB3.out HB3.out.size B4.out.below)) hc1 G1.out).mono ?_
  rintro e w5 ⟨vT, rfl, hR, hb⟩
  have X5 := Aside0.mk (O25_below X4.out hb)
  have Y5 := Aside0.mk (O25_below Y4.out hb)
  have B5 := Aside0.mk (B4.out.move hb); have T5 := Aside0.mk (R_base25 hR B4.out.below.size : O25 w5 w3.heap.size vT l1)
  clear hb hR B4 X4 Y4
  go_wp2_with fail
  refine (linear_Times.calls (some ⟨gx, 0, none⟩) cx a (some ⟨gy, 0, none⟩) cy b l1 n1 w5 (x_C X5.out) (by omega) (x_C Y5.out) (by omega) F1.out).mono ?_
  rintro e w6 ⟨vU, rfl, hR, hb⟩
  have X6 := Aside0.mk (O25_below X5.out hb)
  have Y6 := Aside0.mk (O25_below Y5.out hb)
  have T6 := Aside0.mk (O25_below T5.out hb)
  have B6 := Aside0.mk (B5.out.move hb); have U6 := Aside0.mk (R_base25 hR B5.out.below.size : O25 w6 w3.heap.size vU l1); have EU := Aside0.mk (new_ent B5.out hR)
  clear hb hR B5 X5 Y5 T5
  go_wp2_with fail
  refine (adds_walk w3 w6 bk [] vU vT l1 n1 B6.out U6.out T6.out EU.out (by simp) (by have := L1.out; omega)).mono ?_
  rintro e w7 ⟨rfl, hB, hk⟩
  have X7 := Aside0.mk (O25_keep X6.out hk)
  have Y7 := Aside0.mk (O25_keep Y6.out hk)
  have T7 := Aside0.mk (O25_keep T6.out hk)
  have B7 := Aside0.mk hB
  clear hB hk B6 EU X6 Y6 T6 U6
  go_wp2_with fail
  refine (vivariumref17_Times.calls K2 A0 c0 a A0 c0 a l2 n2 w7 (Kd.C_below R0.out (below_then HB3.out HB3.out.size B7.out.below)) hc0 (Kd.C_below R0.out (below_then HB3.out HB3.out.size B7.out.below)) hc0 G2.out).mono ?_
  rintro e w8 ⟨vS, rfl, hR, hb⟩
  have X8 := Aside0.mk (O25_below X7.out hb)
  have Y8 := Aside0.mk (O25_below Y7.out hb)
  have T8 := Aside0.mk (O25_below T7.out hb)
  have B8 := Aside0.mk (B7.out.move hb); have S8 := Aside0.mk (R_base25 hR B7.out.below.size : O25 w8 w3.heap.size vS l2)
  clear hb hR B7 X7 Y7 T7
  go_wp2_with fail
  refine (linear_Times.calls (some ⟨gx, 0, none⟩) cx a (some ⟨gx, 0, none⟩) cx a l2 n2 w8 (x_C X8.out) (by omega) (x_C X8.out) (by omega) F2.out).mono ?_
  rintro e w9 ⟨vV, rfl, hR, hb⟩
  have X9 := Aside0.mk (O25_below X8.out hb)
  have Y9 := Aside0.mk (O25_below Y8.out hb)
  have T9 := Aside0.mk (O25_below T8.out hb)
  have S9 := Aside0.mk (O25_below S8.out hb)
  have B9 := Aside0.mk (B8.out.move hb); have V9 := Aside0.mk (R_base25 hR B8.out.below.size : O25 w9 w3.heap.size vV l2); have EV := Aside0.mk (new_ent B8.out hR)
  clear hb hR B8 X8 Y8 T8 S8
  go_wp2_with fail
  refine (adds_walk w3 w9 bk ([] ++ [⟨vU, vT, l1⟩]) vV vS l2 n2 B9.out V9.out S9.out EV.out (by simp) (by have := L2.out; omega)).mono ?_
  rintro e w10 ⟨rfl, hB, hk⟩
  have X10 := Aside0.mk (O25_keep X9.out hk)
  have Y10 := Aside0.mk (O25_keep Y9.out hk)
  have T10 := Aside0.mk (O25_keep T9.out hk)
  have B10 := Aside0.mk hB
  clear hB hk B9 EV X9 Y9 T9 V9 S9
  go_wp2_with fail
  refine (linear_Times.calls (some ⟨gx, 0, none⟩) cx a (some ⟨gy, 0, none⟩) cy b l1 n1 w10 (x_C X10.out) (by omega) (x_C Y10.out) (by omega) F1.out).mono ?_
  rintro e w11 ⟨vW, rfl, hR, hb⟩
  have X11 := Aside0.mk (O25_below X10.out hb)
  have Y11 := Aside0.mk (O25_below Y10.out hb)
  have T11 := Aside0.mk (O25_below T10.out hb)
  have B11 := Aside0.mk (B10.out.move hb); have W11 := Aside0.mk (R_base25 hR B10.out.below.size : O25 w11 w3.heap.size vW l1); have EW := Aside0.mk (new_ent B10.out hR)
  clear hb hR B10 X10 Y10 T10
  go_wp2_with fail
  refine (adds_walk w3 w11 bk ([] ++ [⟨vU, vT, l1⟩] ++ [⟨vV, vS, l2⟩]) vW vT l1 n1 B11.out W11.out T11.out EW.out (by simp) (by have := L1.out; omega)).mono ?_
  rintro e w12 ⟨rfl, hB, hk⟩
  have X12 := Aside0.mk (O25_keep X11.out hk)
  have Y12 := Aside0.mk (O25_keep Y11.out hk)
  have B12 := Aside0.mk hB
  clear hB hk B11 EW X11 Y11 W11 T11
  go_wp2_with fail
  refine (kept_walk (some ⟨gx, 0, none⟩) cx A0 c0 a w12 (x_C70 X12.out) (by omega) (Kd.C_below R0.out (below_then HB3.out HB3.out.size B12.out.below)) hc0 (by omega)).mono ?_
  rintro e w13 ⟨rfl, hb⟩
  have X13 := Aside0.mk (O25_below X12.out hb)
  have Y13 := Aside0.mk (O25_below Y12.out hb)
  have B13 := Aside0.mk (B12.out.move hb)
  clear hb B12 X12 Y12
  go_wp2_with fail
  refine (kept_walk (some ⟨gy, 0, none⟩) cy A1 c1 b w13 (x_C70 Y13.out) (by omega) (Kd.C_below R1.out (below_then HB3.out HB3.out.size B13.out.below)) hc1 (by omega)).mono ?_
  rintro e w14 ⟨rfl, hb⟩
  have X14 := Aside0.mk (O25_below X13.out hb)
  have Y14 := Aside0.mk (O25_below Y13.out hb)
  have B14 := Aside0.mk (B13.out.move hb)
  clear hb B13 X13 Y13
  go_wp2_with fail
  have HU0 := Aside0.mk (show Upd w w3 w14 bk _ gx gy cx cy (upd a 0) b from ⟨HB3.out, rfl, B14.out, by rw [upd_zero]; exact X14.out, own_weaken Y14.out hw2⟩)
  generalize hes : ([] ++ [⟨vU, vT, l1⟩] ++ [⟨vV, vS, l2⟩] ++ [⟨vW, vT, l1⟩] : List Ent) = es at *
  have HES := Aside0.mk (show es.length = 3 ∧ ∀ e ∈ es, e.xs.length ≤ 4096 from by
    have h1 := L1.out; have h2 := L2.out
    subst hes
    refine ⟨rfl, fun e he => ?_⟩
    simp at he
    rcases he with rfl | rfl | rfl <;> assumption)
  clear hes B14 X14 Y14
  go_loopw [21] (fun i wr => ∃ (k : Nat) (wB : World), k ≤ a.length ∧ i = .int .i64 k ∧ wB.heap.size = w3.heap.size ∧ Upd w wB wr bk es gx gy cx cy (upd a k) b) (fun i _ => a.length - (intOf i).toNat)
  case atStart => exact ⟨0, w3, Nat.zero_le _, rfl, rfl, HU0.out⟩
  case round =>
    clear HU0
    obtain ⟨k, wB, hk, rfl, hwB, hup⟩ := hrel
    obtain ⟨wo, e1⟩ : ∃ wo : World, wo = wr := ⟨_, rfl⟩
    subst e1
    have HUP := Aside0.mk hup; have HWB := Aside0.mk hwB
    clear hup hwB
    by_cases hlt : k < a.length
    · have hk' : (k : Int) < (a.length : Int) := by omega
      have hk0 : (0 : Int) ≤ (k : Int) := by omega
      obtain ⟨q, hq⟩ : ∃ q, a[k]? = some q := ⟨_, List.getElem?_eq_getElem hlt⟩
      have hok := HOK.out q (List.mem_of_getElem? hq)
      have hx := HUP.out.x
      have hZ : (upd a k ++ marks)[k]? = some q := upd_get a k q hlt hq
      obtain ⟨d0, d1⟩ := cellsP_get _ k q hZ
      have hl : (upd a k ++ marks).length = a.length + 70 := by rw [List.length_append, upd_length a k (by omega), marks_length]
      have hx' : wo.ownsRow w.heap.size 25 2 (.slice (some ⟨gx, 0, none⟩) (a.length + 70) cx) (a.length + 70) (cellsP (upd a k ++ marks)) := by rw [← hl]; rw [show O25 wo w.heap.size (.slice (some ⟨gx, 0, none⟩) ((upd a k).length + 70) cx) (upd a k ++ marks) = wo.ownsRow w.heap.size 25 2 (.slice (some ⟨gx, 0, none⟩) ((upd a k).length + 70) cx) (upd a k ++ marks).length (cellsP (upd a k ++ marks)) from rfl, show (upd a k).length + 70 = (upd a k ++ marks).length from by rw [List.length_append, marks_length]] at hx; exact hx
      have e0 := (hx'.cellAt (k * 2) (by omega)).trans d0
      have f0 := hx'.frozenAt (k * 2)
      have hwr : -9223372036854775808 ≤ Int.tdiv q.f0 2 ∧ Int.tdiv q.f0 2 ≤ 9223372036854775807 := half_wf hok
      have HST := Aside0.mk (HUP.out.step hgx1 (by rw [HWB.out]; exact hgx3) hgxy hlt hq)
      clear hx hx' d0 d1 hZ hl hok hq HUP
      go_wp2_with fail
      go_roundw
      case rel => exact ⟨k + 1, _, by omega, by go_num, by simpa using HWB.out, HST.out⟩
      case measure => simp [intOf]; omega
    · obtain rfl : k = a.length := by omega
      have ha2 : (upd a a.length).length = a.length := upd_length a _ (Nat.le_refl _)
      generalize upd a a.length = a2 at *
      obtain ⟨⟨l3, n3⟩, f3, K3, g3⟩ := ev_refTimes a2 b (by omega) (by omega)
      have F3 := Aside0.mk f3; have G3 := Aside0.mk (g3 K3 (Nat.le_refl _)); have L3 := Aside0.mk (times_len f3)
      have hwB := HWB.out
      have HBo := Aside0.mk (below_then HUP.out.low HUP.out.low.size HUP.out.book.below)
      have hL := lent_walk (some ⟨gx, 0, none⟩) cx a2 wo (x_C HUP.out.x) (by omega) (by omega)
      rw [ha2] at hL
      have HL := Aside0.mk hL
      clear hL f3 g3 hlt hk HWB
      go_wp2_with fail
      refine HL.out.mono ?_
      rintro e w17 ⟨Al, cl, rfl, hcl, hR, hb⟩
      have B17 := Aside0.mk (HUP.out.book.move hb); have X17 := Aside0.mk (O25_below HUP.out.x hb); have Y17 := Aside0.mk (O25_below HUP.out.y hb); have HB17 := Aside0.mk (below_then HBo.out HBo.out.size hb)
      have hCl := x_C (w := w17) (base := wo.heap.size) (A := Al) (c := cl) (a := a2) (by rw [ha2]; exact O25_of_R hR)
      have hT := vivariumref17_Times.calls K3 Al cl a2 A1 c1 b l3 n3 w17 hCl (by omega) (Kd.C_below R1.out HB17.out) hc1 G3.out
      rw [ha2] at hT
      have HT := Aside0.mk hT
      have HLOW := Aside0.mk HUP.out.low
      clear hb hR hCl hT HL HBo HUP
      go_wp2_with fail
      refine HT.out.mono ?_
      rintro e w18 ⟨vQ, rfl, hR, hb⟩
      have B18 := Aside0.mk (B17.out.move hb); have X18 := Aside0.mk (O25_below X17.out hb); have Y18 := Aside0.mk (O25_below Y17.out hb); have Q18 := Aside0.mk (R_base25 hR B17.out.below.size : O25 w18 wB.heap.size vQ l3)
      have hT := linear_Times.calls (some ⟨gx, 0, none⟩) cx a2 (some ⟨gy, 0, none⟩) cy b l3 n3 w18 (x_C X18.out) (by omega) (x_C Y18.out) (by omega) F3.out
      rw [ha2] at hT
      replace HT := Aside0.mk hT
      clear hb hR hT B17 X17 Y17 HB17
      go_wp2_with fail
      refine HT.out.mono ?_
      rintro e w19 ⟨vP, rfl, hR, hb⟩
      have B19 := Aside0.mk (B18.out.move hb); have Q19 := Aside0.mk (O25_below Q18.out hb); have P19 := Aside0.mk (R_base25 hR B18.out.below.size : O25 w19 wB.heap.size vP l3); have EP := Aside0.mk (new_ent B18.out hR)
      clear hb hR HT B18 X18 Y18 Q18
      go_wp2_with fail
      refine (adds_walk wB w19 bk es vP vQ l3 n3 B19.out P19.out Q19.out EP.out (by have := HES.out.1; omega) (by have := L3.out; omega)).mono ?_
      rintro e w20 ⟨rfl, hB, hk⟩
      have HS := Aside0.mk (stands_walk wB w20 bk _ hB (by simp) (by have := HES.out.1; simp; omega) (fun e he => by
        rcases List.mem_append.1 he with he | he
        · have := HES.out.2 e he; omega
        · rw [List.mem_singleton.1 he]; have := L3.out; show l3.length ≤ _; omega))
      clear hB hk B19 Q19 P19 EP
      go_wp2_with fail
      refine HS.out.mono ?_
      rintro e w21 ⟨rfl, hb⟩
      have HE := Aside0.mk (below_then HLOW.out HLOW.out.size hb)
      clear hb HS
      go_wp2
      go_ret
      exact ⟨rfl, HE.out⟩
end Go.Proofs.Ytomogkhdfaiekaa.PLin
