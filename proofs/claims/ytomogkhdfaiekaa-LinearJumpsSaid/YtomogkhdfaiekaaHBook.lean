/-
  linear's book of answers: what it holds, and adds' walk.
-/
import Derived.Test.YtomogkhdfaiekaaHAlive
import Derived.Laws.OwnMore
namespace Go.Proofs.Ytomogkhdfaiekaa.PLin
open Go.Proofs.Ytomogkhdfaiekaa.HW Go.Proofs.Ytomogkhdfaiekaa.HSet Go.RowKit Go.Proofs.YtomogkhdfaiekaaW.PrintWords Go.Proofs.YtomogkhdfaiekaaW.PrintLast Go.Proofs.YtomogkhdfaiekaaW.PrintMore
set_option linter.unusedVariables false
set_option linter.unusedSimpArgs false

/-- A row of places of the call's own. -/
abbrev O25 (w : World) (base : Nat) (v : Value) (xs : List S25) : Prop := w.ownsRow base 25 2 v xs.length (cellsP xs)

theorem cellsP_append (a b : List S25) : cellsP (a ++ b) = cellsP a ++ cellsP b := by unfold cellsP; rw [List.flatMap_append]
theorem cellsP_length (l : List S25) : (cellsP l).length = l.length * 2 := by
  induction l with
  | nil => rfl
  | cons a l ih =>
    have : cellsP (a :: l) = .int .i64 a.f0 :: .int .i64 a.f1 :: cellsP l := rfl
    rw [this]; simp only [List.length_cons, ih]; omega
theorem cellsP_one {l : List S25} {u : Value} (h : u ∈ cellsP l) : u.oneCell' = true := by
  unfold cellsP at h
  obtain ⟨p, _, hp⟩ := List.mem_flatMap.1 h
  simp at hp
  rcases hp with rfl | rfl <;> rfl
theorem reps_cellsP (l : List S25) : ∀ {R : S25 → List Value → Prop} (cs : List Value), (∀ p c, R p c → c = [.int .i64 p.f0, .int .i64 p.f1]) → Reps R 2 l cs → cs = cellsP l := by
  induction l with
  | nil => intro R cs _ h; exact List.eq_nil_of_length_eq_zero (by simpa using h.1)
  | cons a l ih =>
    intro R cs hR h
    have h0 := hR _ _ (h.2 0 a rfl)
    rw [Nat.zero_mul, List.drop_zero] at h0
    have h1 : Reps R 2 l (cs.drop 2) := ⟨by rw [List.length_drop, h.1, List.length_cons]; omega, fun j p hp => by
      have := h.2 (j + 1) p (by simpa using hp)
      rw [List.drop_drop]
      rwa [show 2 + j * 2 = (j + 1) * 2 by omega]⟩
    rw [← List.take_append_drop 2 cs, h0, ih _ hR h1]; rfl
theorem cellsP_reps (l : List S25) (w : World) (base : Nat) (ok : Nat → Prop) : Reps (k25.M w base ok) 2 l (cellsP l) := by
  refine ⟨cellsP_length l, fun j p hp => ?_⟩
  obtain ⟨c0, c1⟩ := cellsP_get l j p hp
  have h0 := (List.getElem?_eq_some_iff.1 c0); have h1 := (List.getElem?_eq_some_iff.1 c1)
  obtain ⟨l0, g0⟩ := h0; obtain ⟨l1, g1⟩ := h1
  rw [List.drop_eq_getElem_cons l0, List.drop_eq_getElem_cons l1, g0, g1]
  exact k25_mkM w base ok p
theorem O25_of_R {w : World} {base : Nat} {ok : Nat → Prop} {v : Value} {xs : List S25} (h : Kd.R k25 25 w base ok v xs) : O25 w base v xs := by
  obtain ⟨_, inner, ho, hr⟩ := h
  have e := reps_cellsP xs inner (fun p c hp => k25_openM hp) hr
  rw [e] at ho; exact ho
theorem R_of_O25 {w : World} {base : Nat} {v : Value} {xs : List S25} (h : O25 w base v xs) : Kd.R k25 25 w base (fun _ => True) v xs :=
  ⟨fun _ _ => trivial, _, h, cellsP_reps xs _ _ _⟩
theorem O25_reads {w : World} {base : Nat} {v : Value} {xs : List S25} (h : O25 w base v xs) : ∃ A c, v = .slice A xs.length c ∧ xs.length ≤ c ∧ Kd.C k25 w A xs.length xs := Kd.R_reads (R_of_O25 h)
theorem O25_move {w w1 : World} {base : Nat} {v : Value} {xs : List S25} (h : O25 w base v xs) (hm : ∀ k, v.ownBlock = some k → w1.heap[k]? = w.heap[k]?) : O25 w1 base v xs := own_move h hm
theorem O25_below {w w1 : World} {base : Nat} {v : Value} {xs : List S25} (h : O25 w base v xs) (hb : Below w.heap.size w w1) : O25 w1 base v xs := O25_move h fun k hk => hb.block k (own_lt h k hk)

/-- Blocks of places stay. -/
def Keep25 (w w' : World) : Prop := w.heap.size ≤ w'.heap.size ∧ ∀ (k : Nat) (cs : Array Value), w.heap[k]? = some (Obj.cells cs 25 (0, 0)) → w'.heap[k]? = w.heap[k]?
theorem O25_keep {w w1 : World} {base : Nat} {v : Value} {xs : List S25} (h : O25 w base v xs) (hk : Keep25 w w1) : O25 w1 base v xs := O25_move h fun k hk' => by
  obtain ⟨cs, hc⟩ := own_typed h k hk'
  exact hk.2 k cs hc

structure Ent where
  u : Value
  t : Value
  xs : List S25

/-- The book: the answers, and what they must be. -/
structure Book (w0 w : World) (bk : Nat) (es : List Ent) : Prop where
  below : Below w0.heap.size w0 w
  lo : w0.heap.size ≤ bk
  data : ∃ vg vw : Value, w.heap[bk]? = some (.cells #[vg, vw, .bool false] 35 (0, 0)) ∧ w.ownsRow w0.heap.size 23 1 vg es.length (es.map Ent.u) ∧ w.ownsRow w0.heap.size 23 1 vw es.length (es.map Ent.t) ∧ ∀ k, vg.ownBlock = some k → vw.ownBlock ≠ some k
  got : ∀ e ∈ es, O25 w w0.heap.size e.u e.xs
  want : ∀ e ∈ es, O25 w w0.heap.size e.t e.xs
  apart : es.Pairwise fun a b => ∀ k, a.u.ownBlock = some k → b.u.ownBlock ≠ some k

theorem Book.move {w0 w w' : World} {bk : Nat} {es : List Ent} (h : Book w0 w bk es) (hb : Below w.heap.size w w') : Book w0 w' bk es := by
  obtain ⟨h1, h2, ⟨vg, vw, h3, h4, h5, h6⟩, h7, h8, h9⟩ := h
  exact ⟨below_then h1 h1.size hb, h2, ⟨vg, vw, blk_below h3 hb, own_move h4 fun k hk => hb.block k (own_lt h4 k hk), own_move h5 fun k hk => hb.block k (own_lt h5 k hk), h6⟩, fun e he => O25_below (h7 e he) hb, fun e he => O25_below (h8 e he) hb, h9⟩
theorem Book.fresh {w0 w : World} (hB : Below w0.heap.size w0 w) : Book w0 (w.alloc (.cells #[.slice none 0 0, .slice none 0 0, .bool false] 35)) w.heap.size [] :=
  ⟨below_alloc hB _, hB.size, ⟨_, _, alloc_new _ _, own_nil _ _ _ _, own_nil _ _ _ _, fun k hk => by simp [Value.ownBlock] at hk⟩, fun _ h => by simp at h, fun _ h => by simp at h, List.Pairwise.nil⟩
theorem Book.lt {w0 w : World} {bk : Nat} {es : List Ent} (h : Book w0 w bk es) : bk < w.heap.size := by
  obtain ⟨vg, vw, h3, _⟩ := h.data
  exact blk_lt h3

theorem own_ne {w : World} {base : Nat} {e t : TypeId} {size n g : Nat} {v : Value} {xs : List Value} {cells : Array Value} (h : w.ownsRow base e size v n xs) (hb : w.heap[g]? = some (.cells cells t (0, 0))) (ht : e ≠ t) : some g ≠ v.ownBlock := fun he => by
  obtain ⟨cs, hc⟩ := own_typed h g he.symm
  rw [hb] at hc
  injection hc with hc
  injection hc with _ hc
  exact ht hc.symm
theorem own_drewN {w : World} {base : Nat} {e : TypeId} {size n : Nat} {v : Value} {xs : List Value} (h : w.ownsRow base e size v n xs) (k : Nat) : (w.drewN k).ownsRow base e size v n xs := h
/-- An append's frame, behind a store into the book's own block: blocks of places stay. -/
theorem info23 : (Try.prog.info? 23).map (fun i => (i.zero, i.size, i.bytes)) = some (some (.slice none 0 0), 1, 24) := by kernel_rfl

set_option maxHeartbeats 1000000 in
set_option maxRecDepth 100000 in
theorem adds_walk (w0 w : World) (bk : Nat) (es : List Ent) (u t : Value) (xs : List S25) (code : Int) (hB : Book w0 w bk es) (hu : O25 w w0.heap.size u xs) (ht : O25 w w0.heap.size t xs)
    (hnew : ∀ e ∈ es, ∀ k, e.u.ownBlock = some k → u.ownBlock ≠ some k) (hl : es.length ≤ 1000) (hx : xs.length < 9223372036854775807) :
    Calls Try.prog 21 #[.pointer (some ⟨bk, 0, none⟩), u, .int .i64 code, t, .int .i64 code] w fun e w' => e = .returned (.tuple #[]) ∧ Book w0 w' bk (es ++ [⟨u, t, xs⟩]) ∧ Keep25 w w' := by
  obtain ⟨A, c, eu, hc, hC⟩ := O25_reads hu
  obtain ⟨A', c', et, hc', hC'⟩ := O25_reads ht
  obtain ⟨vg, vw, hbk, hvg, hvw, hgw⟩ := hB.data
  have hs := same_eq (l := xs) (m := xs) (k := xs.length + 1) hx (by omega)
  rw [decide_eq_true rfl] at hs
  have HS := Aside0.mk (vivariumlaw17_same.calls (xs.length + 1) A c xs A' c' xs true w hC hc hC' hc' hs)
  have HB := Aside0.mk hB.below
  have hlo := hB.lo
  have HK := Aside0.mk hbk; have HG := Aside0.mk hvg; have HW := Aside0.mk hvw
  have hu33 := Try.underlying33
  have hbl := blk_lt hbk
  have EU := Aside0.mk eu; have ET := Aside0.mk et
  subst eu et
  have HU := Aside0.mk hu; have HT := Aside0.mk ht
  have HGO := Aside0.mk hB.got; have HWO := Aside0.mk hB.want; have HAP := Aside0.mk hB.apart; have HN := Aside0.mk hnew
  clear hB hu ht hC hC' hbk hvg hvw hs hnew
  go_enter Try.func21, Try.ntmps21
  go_wp2_with fail
  refine HS.out.mono ?_
  rintro e w1 ⟨rfl, ⟨n1, rfl⟩⟩
  have k0 := blk_cell HK.out 0; have k1 := blk_cell HK.out 1; have k2 := blk_cell HK.out 2
  simp at k0 k1 k2
  have hwz : w.heap.size = (w.drewN n1).heap.size := rfl
  have HBd := Aside0.mk (pw_below_drewN HB.out n1)
  have hlen : (es.length + 1) * 24 ≤ 140737488355328 := by omega
  go_wp2_with (first
    | ((with_reducible refine gate_builtin (b := .append) (xs := #[.tmp 28, .tmp 30]) rfl ?_); at_builtin; refine print_append_cells (w0 := w0) (W := w.drewN n1) w0.heap.size rfl (.tmp 28) (.tmp 30) 33 23 (.slice none 0 0) 1 24 rfl Try.underlying33 info23 rfl (by decide) (by omega) vg es.length (es.map Ent.u) [.slice A xs.length c] rfl rfl rfl (fun x hx => by rw [List.mem_singleton.1 hx]; rfl) (own_drewN HG.out n1) HBd.out HBd.out.size hlen ?_; intro v2 w2 ho2 hb2 hg2 hat2; obtain ⟨g2, cap2, e2, hg2b, hg2l⟩ := ho2.form (by omega); subst e2; have HK2 := Aside0.mk (blk_grown (blk_drewN HK.out n1) hg2 (own_ne (own_drewN HG.out n1) (blk_drewN HK.out n1) (by decide))); have HO2 := Aside0.mk ho2; have HB2 := Aside0.mk hb2; have HG2 := Aside0.mk hg2; have HA2 := Aside0.mk hat2; clear ho2 hb2 hg2 hat2 k0 k1 k2; have k0 := blk_cell HK2.out 0; have k1 := blk_cell HK2.out 1; have k2 := blk_cell HK2.out 2; simp at k0 k1 k2; have f2 := blk_frozen HK2.out; have hb2l := blk_lt HK2.out; have HV2 := Aside0.mk (show w2.ownsRow w0.heap.size 23 1 vw es.length (es.map Ent.t) from own_move (own_drewN HW.out n1) fun k hk => HG2.out.block k (own_lt (own_drewN HW.out n1) k hk) (fun e => hgw k e.symm hk)); have HVs := Aside0.mk (show (w2.setCell ⟨bk, 0, none⟩ (.slice (some ⟨g2, 0, none⟩) (es.length + 1) cap2)).ownsRow w0.heap.size 23 1 vw es.length (es.map Ent.t) from own_move HV2.out fun k hk => Below.heap_setCell w2 ⟨bk, 0, none⟩ _ k (fun e => own_ne HV2.out HK2.out (by decide) (by rw [hk]; exact congrArg some e.symm))); have hne2 : bk ≠ g2 := fun e => own_ne HO2.out HK2.out (by decide) (by rw [e]; rfl))
    | ((with_reducible refine gate_builtin (b := .append) (xs := #[.tmp 38, .tmp 40]) rfl ?_); at_builtin; refine print_append_cells (w0 := w0) (W := w2.setCell ⟨bk, 0, none⟩ (.slice (some ⟨g2, 0, none⟩) (es.length + 1) cap2)) w0.heap.size rfl (.tmp 38) (.tmp 40) 33 23 (.slice none 0 0) 1 24 rfl Try.underlying33 info23 rfl (by decide) (by omega) vw es.length (es.map Ent.t) [.slice A' xs.length c'] rfl ?aX rfl (fun x hx => by rw [List.mem_singleton.1 hx]; rfl) ?aO ?aB ?aS hlen ?_; (case aX => exact congrArg (fun n => Value.slice (some ⟨n, 0, none⟩) 1 1) (show w2.heap.size = (w2.setCell ⟨bk, 0, none⟩ (.slice (some ⟨g2, 0, none⟩) (es.length + 1) cap2)).heap.size from by simp)); (case aO => exact HVs.out); (case aB => exact below_set HB2.out hlo); (case aS => have := HB2.out.size; simp; omega); intro v3 w3 ho3 hb3 hg3 hat3; obtain ⟨g3, cap3, e3, hg3b, hg3l⟩ := ho3.form (by omega); subst e3; have HO3 := Aside0.mk ho3; have HB3 := Aside0.mk hb3; have HG3 := Aside0.mk hg3; have HA3 := Aside0.mk hat3; have HK3 := Aside0.mk (blk_grown (blk_put HK2.out 0 (.slice (some ⟨g2, 0, none⟩) (es.length + 1) cap2) rfl) hg3 (own_ne HVs.out (blk_put HK2.out 0 (.slice (some ⟨g2, 0, none⟩) (es.length + 1) cap2) rfl) (by decide))); clear ho3 hb3 hg3 hat3 k0 k1 k2 f2; have k0 := blk_cell HK3.out 0; have k1 := blk_cell HK3.out 1; have k2 := blk_cell HK3.out 2; simp at k0 k1 k2; have f3 := blk_frozen HK3.out))
  have hkeep : ∀ (k : Nat) (cs : Array Value), w.heap[k]? = some (Obj.cells cs 25 (0, 0)) → (w3.setCell ⟨bk, 1, none⟩ (.slice (some ⟨g3, 0, none⟩) (es.length + 1) cap3)).heap[k]? = w.heap[k]? := fun k cs hk => by
    have kl := blk_lt hk
    have e1 : k ≠ bk := blk_ne hk HK.out (by decide)
    have e2 := HG2.out.block k kl (own_ne (own_drewN HG.out n1) (blk_drewN hk n1) (by decide))
    have e3 : w2.heap[k]? = some (Obj.cells cs 25 (0, 0)) := e2.trans hk
    have e4 := Below.heap_setCell w2 ⟨bk, 0, none⟩ (.slice (some ⟨g2, 0, none⟩) (es.length + 1) cap2) k e1
    have e5 := HG3.out.block k (blk_lt (e4.trans e3)) (own_ne HVs.out (e4.trans e3) (by decide))
    exact ((Below.heap_setCell w3 ⟨bk, 1, none⟩ _ k e1).trans (e5.trans e4)).trans e2
  have hsz : w.heap.size ≤ (w3.setCell ⟨bk, 1, none⟩ (.slice (some ⟨g3, 0, none⟩) (es.length + 1) cap3)).heap.size := by
    have h1 := HG2.out.size; have h2 := HG3.out.size
    simp at h1 h2 ⊢; omega
  have hvw2 : vw.ownBlock ≠ some g2 := fun e => by
    rcases HA2.out with h | ⟨b, h, hb⟩
    · exact hgw g2 h.symm e
    · have := own_lt HW.out g2 e
      injection h with h
      have hb' : w.heap.size ≤ b := hb
      have h4 : g2 = b := h
      omega
  have HO2s := own_move (w1 := w2.setCell ⟨bk, 0, none⟩ (.slice (some ⟨g2, 0, none⟩) (es.length + 1) cap2)) HO2.out fun k hk => Below.heap_setCell w2 ⟨bk, 0, none⟩ _ k (fun e => hne2 (by injection hk with hk; exact (hk.trans e).symm))
  have HO23 := own_move (w1 := w3) HO2s fun k hk => HG3.out.block k (own_lt HO2s k hk) (fun e => hvw2 (by rw [← e]; exact hk.symm))
  have HO24 := own_move (w1 := w3.setCell ⟨bk, 1, none⟩ (.slice (some ⟨g3, 0, none⟩) (es.length + 1) cap3)) HO23 fun k hk => Below.heap_setCell w3 ⟨bk, 1, none⟩ _ k (fun e => hne2 (by injection hk with hk; exact (hk.trans e).symm))
  have HO34 := own_move (w1 := w3.setCell ⟨bk, 1, none⟩ (.slice (some ⟨g3, 0, none⟩) (es.length + 1) cap3)) HO3.out fun k hk => Below.heap_setCell w3 ⟨bk, 1, none⟩ _ k (fun e => own_ne HO3.out HK3.out (by decide) (by rw [hk]; exact congrArg some e.symm))
  have hK25 : Keep25 w (w3.setCell ⟨bk, 1, none⟩ (.slice (some ⟨g3, 0, none⟩) (es.length + 1) cap3)) := ⟨hsz, hkeep⟩
  refine bodyPost_end (results_none rfl _ _ _) rfl ⟨rfl, ⟨below_set HB3.out hlo, hlo, ⟨_, _, blk_put HK3.out 1 _ rfl, by simpa using HO24, by simpa using HO34, ?_⟩, ?_, ?_, ?_⟩, hK25⟩
  · intro k hk hk'
    injection hk with hk; injection hk' with hk'
    rcases HA3.out with h | ⟨b, h, hb⟩
    · exact hvw2 (by rw [← h]; exact congrArg some (hk'.trans hk.symm))
    · injection h with h
      have h1 := own_lt HO2.out g2 rfl
      have hb' : w2.heap.size ≤ b := by simpa using hb
      have h2 : g2 = k := hk
      have h3 : g3 = k := hk'
      have h4 : g3 = b := h
      omega
  · intro e he
    rcases List.mem_append.1 he with he | he
    · exact O25_keep (HGO.out e he) hK25
    · rw [List.mem_singleton.1 he]; exact O25_keep HU.out hK25
  · intro e he
    rcases List.mem_append.1 he with he | he
    · exact O25_keep (HWO.out e he) hK25
    · rw [List.mem_singleton.1 he]; exact O25_keep HT.out hK25
  · refine List.pairwise_append.2 ⟨HAP.out, by simp, fun a ha b hb k hk => ?_⟩
    rw [List.mem_singleton.1 hb]
    exact HN.out a ha k hk
end Go.Proofs.Ytomogkhdfaiekaa.PLin
