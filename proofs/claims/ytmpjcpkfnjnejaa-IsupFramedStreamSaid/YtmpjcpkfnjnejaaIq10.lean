/-
  isup.Decode, by hand: its contract.
-/
import Derived.Test.YtmpjcpkfnjnejaaIq9
namespace Go.Proofs.Ytmpjcpkfnjnejaa.Iq
open Go.RowKit Go.Shelf Go.Proofs.YtmpjcpkfnjnejaaW.PrintWords Go.Proofs.YtmpjcpkfnjnejaaW.PrintLast Go.Proofs.YtmpjcpkfnjnejaaW.PrintMore Go.Proofs.Ytmpjcpkfnjnejaa.Is Go.Proofs.Ytmpjcpkfnjnejaa.Vm Go.Proofs.Ytmpjcpkfnjnejaa.Iv
set_option linter.unusedVariables false
set_option linter.unusedSimpArgs false

def readAll (l : List Int) : List Fd → Sig → Int → Bool → Int ⊕ (Sig × Int × Bool)
  | [], s, at_, lg => .inr (s, at_, lg)
  | d :: ds, s, at_, lg => match d.read l at_ lg s with
    | .inl er => .inl er
    | .inr (s', at', lg') => readAll l ds s' at' lg'
def decS (l : List Int) : Sig × Int :=
  if l.length = 0 then (zSig, 10)
  else if known (rd l 0) = false then (zSig, 110)
  else match readAll l (fieldsS (rd l 0)) { zSig with kind := rd l 0 } 1 false with
    | .inl er => (zSig, er)
    | .inr (s, at_, lg) => if at_ = (l.length : Int) ∧ lg = false ∧ checkS s = 0 then (s, 0) else (zSig, 110)
/-- What Decode leaves. -/
def De (w : World) (e : Ending) (w' : World) (r : Sig × Int) : Prop := e = .returned (.tuple #[.agg r.1.cells, .int .i64 r.2]) ∧ Below w.heap.size w w'

theorem add_zero (ad : Addr) : ad.add 0 = ad := by
  unfold Addr.add
  split <;> simp_all
/-- The two named results (the message, all zero, in block k; the error behind it) in a later world. -/
structure Tw (W : World) (k : Nat) : Prop where
  q0 : W.cell? ⟨k, 0, none⟩ = some (.int .i64 0)
  q1 : W.cell? ⟨k, 1, none⟩ = some (.int .i64 0)
  q2 : W.cell? ⟨k, 2, none⟩ = some (.int .i64 0)
  q3 : W.cell? ⟨k, 3, none⟩ = some (.int .i64 0)
  q4 : W.cell? ⟨k, 4, none⟩ = some (.int .i64 0)
  q5 : W.cell? ⟨k, 5, none⟩ = some (.string ⟨#[]⟩)
  q6 : W.cell? ⟨k, 6, none⟩ = some (.string ⟨#[]⟩)
  q7 : W.cell? ⟨k, 7, none⟩ = some (.string ⟨#[]⟩)
  q8 : W.cell? ⟨k, 8, none⟩ = some (.bool false)
  q9 : W.cell? ⟨k, 9, none⟩ = some (.bool false)
  q10 : W.cell? ⟨k + 1, 0, none⟩ = some (.int .i64 0)
  f2 : ∀ j, W.frozen? ⟨k, j, none⟩ = false
  f3 : ∀ j, W.frozen? ⟨k + 1, j, none⟩ = false
  l2 : k < W.heap.size
  l3 : k + 1 < W.heap.size
theorem tw_of {W : World} {k : Nat} (h : At W k zSig) (h3 : W.heap[k + 1]? = some (.cells #[.int .i64 0] 27 (0, 0))) : Tw W k :=
  ⟨h.kind, h.int .circuit, h.int .ref, h.int .hops, h.int .cause, h.str .called, h.str .calling, h.str .digits, h.bool .emergency, h.bool .reverse, by simp [World.cell?, h3], h.frozen, fun j => by simp [World.frozen?, h3], h.lt, (Array.getElem?_eq_some_iff.1 h3).1⟩
theorem two_at {w w1 : World} (hb : Below ((w.alloc (.cells zSig.cells 23)).alloc (.cells #[.int .i64 0] 27)).heap.size ((w.alloc (.cells zSig.cells 23)).alloc (.cells #[.int .i64 0] 27)) w1) :
    At w1 w.heap.size zSig ∧ w1.heap[w.heap.size + 1]? = some (.cells #[.int .i64 0] 27 (0, 0)) := by
  have s0 : w.heap.size < ((w.alloc (.cells zSig.cells 23)).alloc (.cells #[.int .i64 0] 27)).heap.size := by rw [World.size_alloc, World.size_alloc]; omega
  have s1 : w.heap.size + 1 < ((w.alloc (.cells zSig.cells 23)).alloc (.cells #[.int .i64 0] 27)).heap.size := by rw [World.size_alloc, World.size_alloc]; omega
  exact ⟨(hb.block _ s0).trans (hp_alloc (hp_new rfl)), (hb.block _ s1).trans (hp_new (by rw [World.size_alloc]))⟩
theorem two_blk2 {w w1 : World} (hb : Below ((w.alloc (.cells zSig.cells 23)).alloc (.cells #[.int .i64 0] 27)).heap.size ((w.alloc (.cells zSig.cells 23)).alloc (.cells #[.int .i64 0] 27)) w1) : Tw w1 w.heap.size :=
  tw_of (two_at hb).1 (two_at hb).2

theorem At.ten {w : World} {k : Nat} {s : Sig} (h : At w k s) : w.cell? ⟨k, 0, none⟩ = some (.int .i64 s.kind) ∧ w.cell? ⟨k, 1, none⟩ = some (.int .i64 s.circuit) ∧ w.cell? ⟨k, 2, none⟩ = some (.int .i64 s.ref) ∧ w.cell? ⟨k, 3, none⟩ = some (.int .i64 s.hops) ∧ w.cell? ⟨k, 4, none⟩ = some (.int .i64 s.cause) ∧ w.cell? ⟨k, 5, none⟩ = some (.string s.called) ∧ w.cell? ⟨k, 6, none⟩ = some (.string s.calling) ∧ w.cell? ⟨k, 7, none⟩ = some (.string s.digits) ∧ w.cell? ⟨k, 8, none⟩ = some (.bool s.emergency) ∧ w.cell? ⟨k, 9, none⟩ = some (.bool s.reverse) :=
  ⟨h.kind, h.int .circuit, h.int .ref, h.int .hops, h.int .cause, h.str .called, h.str .calling, h.str .digits, h.bool .emergency, h.bool .reverse⟩
/-- The message's ten cells are written. -/
structure Td (w W : World) (k : Nat) (s : Sig) : Prop where
  at_ : At W k s
  below : ∀ B, B ≤ k → Below B w W
  far : ∀ j, j ≠ k → W.heap[j]? = w.heap[j]?
theorem ten10 {w : World} {k : Nat} {s0 : Sig} (h : At w k s0) (s : Sig) : Td w ((((((((((w.setCell ⟨k, 0, none⟩ (.int .i64 s.kind)).setCell ⟨k, 1, none⟩ (.int .i64 s.circuit)).setCell ⟨k, 2, none⟩ (.int .i64 s.ref)).setCell ⟨k, 3, none⟩ (.int .i64 s.hops)).setCell ⟨k, 4, none⟩ (.int .i64 s.cause)).setCell ⟨k, 5, none⟩ (.string s.called)).setCell ⟨k, 6, none⟩ (.string s.calling)).setCell ⟨k, 7, none⟩ (.string s.digits)).setCell ⟨k, 8, none⟩ (.bool s.emergency)).setCell ⟨k, 9, none⟩ (.bool s.reverse)) k s := by
  refine ⟨?_, fun B hB => ?_, fun j hj => ?_⟩
  · unfold At at h ⊢
    unfold Sig.cells at h
    have h0 := set_at (j := 0) (v := .int .i64 s.kind) h
    simp only [List.setIfInBounds_toArray, List.set_cons_zero, List.set_cons_succ] at h0
    have h1 := set_at (j := 1) (v := .int .i64 s.circuit) h0
    simp only [List.setIfInBounds_toArray, List.set_cons_zero, List.set_cons_succ] at h1
    have h2 := set_at (j := 2) (v := .int .i64 s.ref) h1
    simp only [List.setIfInBounds_toArray, List.set_cons_zero, List.set_cons_succ] at h2
    have h3 := set_at (j := 3) (v := .int .i64 s.hops) h2
    simp only [List.setIfInBounds_toArray, List.set_cons_zero, List.set_cons_succ] at h3
    have h4 := set_at (j := 4) (v := .int .i64 s.cause) h3
    simp only [List.setIfInBounds_toArray, List.set_cons_zero, List.set_cons_succ] at h4
    have h5 := set_at (j := 5) (v := .string s.called) h4
    simp only [List.setIfInBounds_toArray, List.set_cons_zero, List.set_cons_succ] at h5
    have h6 := set_at (j := 6) (v := .string s.calling) h5
    simp only [List.setIfInBounds_toArray, List.set_cons_zero, List.set_cons_succ] at h6
    have h7 := set_at (j := 7) (v := .string s.digits) h6
    simp only [List.setIfInBounds_toArray, List.set_cons_zero, List.set_cons_succ] at h7
    have h8 := set_at (j := 8) (v := .bool s.emergency) h7
    simp only [List.setIfInBounds_toArray, List.set_cons_zero, List.set_cons_succ] at h8
    have h9 := set_at (j := 9) (v := .bool s.reverse) h8
    simp only [List.setIfInBounds_toArray, List.set_cons_zero, List.set_cons_succ] at h9
    rw [h9]
    rfl
  · have st : ∀ (W : World) (o : Nat) (v : Value), Below B w W → Below B w (W.setCell ⟨k, o, none⟩ v) := fun W o v h => Below.setCell (p := ⟨k, o, none⟩) h hB v
    exact st _ _ _ (st _ _ _ (st _ _ _ (st _ _ _ (st _ _ _ (st _ _ _ (st _ _ _ (st _ _ _ (st _ _ _ (st _ _ _ (Below.refl _ _))))))))))
  · have st : ∀ (W : World) (o : Nat) (v : Value), W.heap[j]? = w.heap[j]? → (W.setCell ⟨k, o, none⟩ v).heap[j]? = w.heap[j]? := fun W o v h => (Below.heap_setCell W ⟨k, o, none⟩ v j hj).trans h
    exact st _ _ _ (st _ _ _ (st _ _ _ (st _ _ _ (st _ _ _ (st _ _ _ (st _ _ _ (st _ _ _ (st _ _ _ (st _ _ _ rfl)))))))))
/-- The way out: both named results are written, the deferred call finds nothing to recover. -/
theorem fin10 {w : World} {k : Nat} {s0 : Sig} {e0 : Int} (h : At w k s0) (h3 : w.heap[k + 1]? = some (.cells #[.int .i64 e0] 27 (0, 0))) (s : Sig) (er : Int) :
    At (((((((((((w.setCell ⟨k, 0, none⟩ (.int .i64 s.kind)).setCell ⟨k, 1, none⟩ (.int .i64 s.circuit)).setCell ⟨k, 2, none⟩ (.int .i64 s.ref)).setCell ⟨k, 3, none⟩ (.int .i64 s.hops)).setCell ⟨k, 4, none⟩ (.int .i64 s.cause)).setCell ⟨k, 5, none⟩ (.string s.called)).setCell ⟨k, 6, none⟩ (.string s.calling)).setCell ⟨k, 7, none⟩ (.string s.digits)).setCell ⟨k, 8, none⟩ (.bool s.emergency)).setCell ⟨k, 9, none⟩ (.bool s.reverse)).setCell ⟨k + 1, 0, none⟩ (.int .i64 er)) k s ∧ (((((((((((w.setCell ⟨k, 0, none⟩ (.int .i64 s.kind)).setCell ⟨k, 1, none⟩ (.int .i64 s.circuit)).setCell ⟨k, 2, none⟩ (.int .i64 s.ref)).setCell ⟨k, 3, none⟩ (.int .i64 s.hops)).setCell ⟨k, 4, none⟩ (.int .i64 s.cause)).setCell ⟨k, 5, none⟩ (.string s.called)).setCell ⟨k, 6, none⟩ (.string s.calling)).setCell ⟨k, 7, none⟩ (.string s.digits)).setCell ⟨k, 8, none⟩ (.bool s.emergency)).setCell ⟨k, 9, none⟩ (.bool s.reverse)).setCell ⟨k + 1, 0, none⟩ (.int .i64 er)).heap[k + 1]? = some (.cells #[.int .i64 er] 27 (0, 0)) ∧ ∀ B, B ≤ k → Below B w (((((((((((w.setCell ⟨k, 0, none⟩ (.int .i64 s.kind)).setCell ⟨k, 1, none⟩ (.int .i64 s.circuit)).setCell ⟨k, 2, none⟩ (.int .i64 s.ref)).setCell ⟨k, 3, none⟩ (.int .i64 s.hops)).setCell ⟨k, 4, none⟩ (.int .i64 s.cause)).setCell ⟨k, 5, none⟩ (.string s.called)).setCell ⟨k, 6, none⟩ (.string s.calling)).setCell ⟨k, 7, none⟩ (.string s.digits)).setCell ⟨k, 8, none⟩ (.bool s.emergency)).setCell ⟨k, 9, none⟩ (.bool s.reverse)).setCell ⟨k + 1, 0, none⟩ (.int .i64 er)) := by
  have ht := ten10 h s
  generalize (((((((((w.setCell ⟨k, 0, none⟩ (.int .i64 s.kind)).setCell ⟨k, 1, none⟩ (.int .i64 s.circuit)).setCell ⟨k, 2, none⟩ (.int .i64 s.ref)).setCell ⟨k, 3, none⟩ (.int .i64 s.hops)).setCell ⟨k, 4, none⟩ (.int .i64 s.cause)).setCell ⟨k, 5, none⟩ (.string s.called)).setCell ⟨k, 6, none⟩ (.string s.calling)).setCell ⟨k, 7, none⟩ (.string s.digits)).setCell ⟨k, 8, none⟩ (.bool s.emergency)).setCell ⟨k, 9, none⟩ (.bool s.reverse) = W at ht ⊢
  exact ⟨hp_set (p := ⟨k + 1, 0, none⟩) ht.at_ (by simp), blk_set ((ht.far (k + 1) (by omega)).trans h3), fun B hB => Below.setCell (p := ⟨k + 1, 0, none⟩) (ht.below B hB) (by show B ≤ k + 1; omega) _⟩
theorem At.res {W : World} {k : Nat} {s : Sig} {er : Int} {t : Array Value} (h2 : t.getD 2 undef = pt k) (h3 : t.getD 3 undef = pt (k + 1)) (hA : At W k s) (q10 : W.cell? ⟨k + 1, 0, none⟩ = some (.int .i64 er)) :
    (results Try.f13 t).run Try.prog W = .ok (.tuple #[.agg s.cells, .int .i64 er]) W := by
  have q0 := hA.kind
  have q1 := hA.int .circuit
  have q2 := hA.int .ref
  have q3 := hA.int .hops
  have q4 := hA.int .cause
  have q5 := hA.str .called
  have q6 := hA.str .calling
  have q7 := hA.str .digits
  have q8 := hA.bool .emergency
  have q9 := hA.bool .reverse
  simp only [IF.off, IF.get, SF.off, SF.get, BF.off, BF.get] at q1 q2 q3 q4 q5 q6 q7 q8 q9
  unfold pt at h2 h3
  simp only [Array.getD_eq_getD_getElem?] at h2 h3
  simp [results, Try.results13, go_sem, h2, h3, q0, q1, q2, q3, q4, q5, q6, q7, q8, q9, q10, Sig.cells]
theorem door_idle {W : World} {k : Nat} {s : Sig} {er : Int} {t : Array Value} {R : Ending → World → Prop} (h2 : t.getD 2 undef = pt k) (h3 : t.getD 3 undef = pt (k + 1)) (hA : At W k s) (hE : W.heap[k + 1]? = some (.cells #[.int .i64 er] 27 (0, 0)))
    (hR : R (.returned (.tuple #[.agg s.cells, .int .i64 er])) W) : Leaves Try.prog Try.f13 t R [{ target := .fn (.func 18) #[pt k, pt (k + 1)], args := #[] }] .returning W := by
  refine leaves_cons (f := 18) (args := #[pt k, pt (k + 1)]) (by simp) (by simp [go_sem]) ?_
  refine (catch_idle _ _ _).mono ?_
  rintro e u' w'' ⟨rfl, rfl, rfl⟩
  exact ⟨_, At.res h2 h3 hA (by simp [World.cell?, hE]), hR⟩
theorem door_panic {W : World} {k : Nat} {s : Sig} {er e0 : Int} {t : Array Value} {R : Ending → World → Prop} (h2 : t.getD 2 undef = pt k) (h3 : t.getD 3 undef = pt (k + 1)) (hA : At W k s) (hE : W.heap[k + 1]? = some (.cells #[.int .i64 e0] 27 (0, 0)))
    (hR : ∀ W', Below k W W' → R (.returned (.tuple #[.agg zSig.cells, .int .i64 er])) W') : Leaves Try.prog Try.f13 t R [{ target := .fn (.func 18) #[pt k, pt (k + 1)], args := #[] }] (.panicking [{ v := .iface 54 (.agg #[.int .i64 er]), recovered := false }]) W := by
  refine leaves_cons (f := 18) (args := #[pt k, pt (k + 1)]) (by simp) (by simp [go_sem]) ?_
  refine (catch_panic k (k + 1) er e0 s W hA hE (by omega)).mono ?_
  rintro e u' w'' ⟨rfl, rfl, hA', hE', hB⟩
  exact ⟨_, At.res h2 h3 hA' hE', hR _ hB⟩

theorem read_pos {l : List Int} {d : Fd} {at_ at' : Int} {lg lg' : Bool} {s s' : Sig} (hb : Bytes l) (h0 : 0 ≤ at_) (h : d.read l at_ lg s = .inr (s', at', lg')) : 0 ≤ at' := by
  cases d with
  | int f lo hi =>
    unfold Fd.read at h
    dsimp only at h
    obtain ⟨v, nx, er, hu⟩ : ∃ v nx er, uintS l at_ = (v, nx, er) := ⟨_, _, _, rfl⟩
    rw [hu] at h
    dsimp only at h
    split at h
    · rename_i he
      subst he
      obtain ⟨n, _, _, _, hnx, _⟩ := uint_canon hb hu
      split at h <;> (simp only [Sum.inr.injEq, Prod.mk.injEq] at h; omega)
    · simp at h
  | addr f e =>
    unfold Fd.read at h
    dsimp only at h
    obtain ⟨v, nx, er, hu⟩ : ∃ v nx er, seqS l at_ 15 = (v, nx, er) := ⟨_, _, _, rfl⟩
    rw [hu] at h
    dsimp only at h
    split at h
    · rename_i he
      subst he
      obtain ⟨_, hnx, _⟩ := seq_canon hb hu
      simp only [Sum.inr.injEq, Prod.mk.injEq] at h
      omega
    · simp at h
  | bool f =>
    unfold Fd.read at h
    dsimp only at h
    split at h
    · simp at h
    · split at h
      · simp at h
      · simp only [Sum.inr.injEq, Prod.mk.injEq] at h
        omega
section
variable (A : Option Addr) (c : Nat) (l : List Int) (w : World) (hC : Kd.C (Kd.int .u8) w A l.length l) (hc : l.length ≤ c) (hb : Bytes l) (hl : l.length ≤ 140737488351232)
set_option maxHeartbeats 4000000 in
theorem decode_empty (h : l.length = 0) : Calls Try.prog 13 #[.slice A l.length c] w fun e w' => De w e w' (zSig, 10) := by
  have hmf : ∀ (fn : Fn) (first cap : Array Value) (w : World), (Instr.makeFunc fn first cap).run Try.prog w = .ok (.func fn first cap) w := fun _ _ _ _ => rfl
  rw [h]
  go_enter_defers Try.func13, Try.ntmps13
  go_wp2
  refine leaves_cons (f := 18) (args := #[pt w.heap.size, pt (w.heap.size + 1)]) (by simp) (by simp [go_sem, pt]) ?_
  refine (catch_idle _ _ _).mono ?_
  rintro e u' w'' ⟨rfl, rfl, rfl⟩
  simp [Leaves, settle, results, Try.results13, go_sem]
  exact ⟨rfl, below_alloc (below_alloc (Below.refl _ _) _) _⟩
set_option maxHeartbeats 4000000 in
include hC hb in
theorem decode_unknown (h0 : 0 < l.length) (h : known (rd l 0) = false) : Calls Try.prog 13 #[.slice A l.length c] w fun e w' => De w e w' (zSig, 110) := by
  have hmf : ∀ (fn : Fn) (first cap : Array Value) (w : World), (Instr.makeFunc fn first cap).run Try.prog w = .ok (.func fn first cap) w := fun _ _ _ _ => rfl
  have hz : ((l.length : Int) == 0) = false := beq_eq_false_iff_ne.mpr (by omega)
  obtain ⟨ad, e, hx⟩ := Kd.at_int hC 0 (Int.le_refl _) (by omega)
  cases e
  have hx0 : w.cell? ad = some (.int .u8 (rd l 0)) := by rw [← add_zero ad]; simpa using hx
  have hx1 : ((w.alloc (.cells #[.int .i64 0, .int .i64 0, .int .i64 0, .int .i64 0, .int .i64 0, .string ⟨#[]⟩, .string ⟨#[]⟩, .string ⟨#[]⟩, .bool false, .bool false] 23)).alloc (.cells #[.int .i64 0] 27)).cell? ad = some (.int .u8 (rd l 0)) := pw_cell_below (below_alloc (below_alloc (Below.refl _ _) _) _) hx0
  clear hx0
  have hq : (0 : Int) < (l.length : Int) := by omega
  have hw : wrap64 (rd l 0) = rd l 0 := by have := rd_byte hb (j := 0) h0; simp only [Int.natCast_zero] at this; unfold wrap64; omega
  have HK := Aside0.mk h
  clear hC h0 h hx hb
  go_enter_defers Try.func13, Try.ntmps13
  go_wp2_with (go_at_call 17; (with_reducible refine (fields_bad (rd l 0) _ HK.out).mono ?_); rintro e w1 ⟨rfl, hb⟩; have HA := Aside0.mk (two_at hb); obtain ⟨q0, q1, q2, q3, q4, q5, q6, q7, q8, q9, q10, f2, f3, l2, l3⟩ := two_blk2 hb; have HB := Aside0.mk (below_step (below_alloc (below_alloc (Below.refl _ _) _) _) hb); clear hb)
  have hf := fin10 HA.out.1 HA.out.2 zSig 110
  exact door_idle (k := w.heap.size) rfl rfl hf.1 hf.2.1 ⟨rfl, HB.out.trans (hf.2.2 _ (Nat.le_refl _))⟩

set_option maxHeartbeats 16000000 in
set_option maxRecDepth 100000 in
include hC hc hb hl in
theorem decode_known (h0 : 0 < l.length) (h : known (rd l 0) = true) : Calls Try.prog 13 #[.slice A l.length c] w fun e w' => De w e w' (decS l) := by
  have hmf : ∀ (fn : Fn) (first cap : Array Value) (w : World), (Instr.makeFunc fn first cap).run Try.prog w = .ok (.func fn first cap) w := fun _ _ _ _ => rfl
  have hz : ((l.length : Int) == 0) = false := beq_eq_false_iff_ne.mpr (by omega)
  obtain ⟨kind, hkd⟩ : ∃ kind, kind = rd l 0 := ⟨_, rfl⟩
  have hdec : decS l = match readAll l (fieldsS kind) { zSig with kind := kind } 1 false with
    | .inl er => (zSig, er)
    | .inr (s, at_, lg) => if at_ = (l.length : Int) ∧ lg = false ∧ checkS s = 0 then (s, 0) else (zSig, 110) := by
    unfold decS
    rw [if_neg (by omega), ← hkd, if_neg (by rw [hkd, h]; decide)]
  have HDEC := Aside0.mk hdec
  rw [← hkd] at h
  obtain ⟨ad, e, hx⟩ := Kd.at_int hC 0 (Int.le_refl _) (by omega)
  cases e
  rw [← hkd] at hx
  have hx0 : w.cell? ad = some (.int .u8 kind) := by rw [← add_zero ad]; simpa using hx
  have HX0 := Aside0.mk hx0
  have hx1 : ((w.alloc (.cells #[.int .i64 0, .int .i64 0, .int .i64 0, .int .i64 0, .int .i64 0, .string ⟨#[]⟩, .string ⟨#[]⟩, .string ⟨#[]⟩, .bool false, .bool false] 23)).alloc (.cells #[.int .i64 0] 27)).cell? ad = some (.int .u8 kind) := pw_cell_below (below_alloc (below_alloc (Below.refl _ _) _) _) hx0
  have hq : (0 : Int) < (l.length : Int) := by omega
  have hw : wrap64 kind = kind := by
    unfold known at h
    simp only [Bool.and_eq_true, decide_eq_true_eq] at h
    unfold wrap64
    omega
  have HK := Aside0.mk h
  have HC := Aside0.mk hC
  have HCc := Aside0.mk hc
  have HBy := Aside0.mk hb
  have HLn := Aside0.mk hl
  clear hC hc hb hl h0 h hx hx0 hdec hkd
  go_enter_defers Try.func13, Try.ntmps13
  go_wp2_with (go_at_call 17; (with_reducible refine (fields_calls kind _ HK.out).mono ?_); rintro e w1 ⟨v, xs, rfl, hr, hf, hb⟩; have hp := fields_pos kind; rw [hf.len] at hp; obtain ⟨adl, cl, rfl⟩ := Kd.R_slice1 hr hp; have HA := Aside0.mk (two_at hb); have hBW := below_step (below_alloc (below_alloc (Below.refl _ _) _) _) hb; have HB := Aside0.mk hBW; have hx2 := pw_cell_below hBW HX0.out; have hx3 := pw_cell_below (below_alloc (Below.refl _ _) (.cells #[.slice (some ad) l.length c, .int .i64 1, .bool false] 57)) hx2; have HR := Aside0.mk hr; have HF := Aside0.mk hf; have HN := Aside0.mk (show xs.length ≤ 6 from by rw [← hf.len]; exact fields_le _); clear hb hr hf hp hBW)
  have HL := Aside0.mk (show Ls w.heap.size w1 (some adl) cl (fieldsS kind) xs from ⟨Kd.R_lower (Kd.R_mono (Kd.R_bound HR.out) (fun k hk => by have := hk.2.1; rw [World.size_alloc, World.size_alloc] at this; omega)) (Nat.zero_le _), HF.out.imp (fun _ _ hf => hf.mono (fun k hk _ => by rw [World.size_alloc, World.size_alloc] at hk; omega))⟩)
  have hk2 := HA.out.1.lt
  have HK2 := Aside0.mk hk2
  clear HR HF hx1 hx2 hx3 hk2 hw
  go_loopg [36] xs.length (fun kq v36 w' => ∃ (i : Nat) (s : Sig) (at_ : Int) (lg : Bool), i + kq = xs.length ∧ v36 = .int .i64 (i : Int) ∧ Aside0 (Rd w' w1.heap.size (some ad) c l.length at_ lg) ∧ Aside0 (At w' (w1.heap.size + 1) s) ∧ Aside0 (Below w1.heap.size w1 w') ∧ Aside0 (0 ≤ at_) ∧ Aside0 (readAll l ((fieldsS kind).drop i) s at_ lg = readAll l (fieldsS kind) { zSig with kind := kind } 1 false))
  case atStart => exact ⟨0, { zSig with kind := kind }, 1, false, by omega, rfl, ⟨hp_alloc (hp_new rfl)⟩, ⟨hp_new (by rw [World.size_alloc])⟩, ⟨below_alloc (below_alloc (Below.refl _ _) _) _⟩, ⟨by omega⟩, ⟨rfl⟩⟩
  case round =>
    obtain ⟨i, s, at_, lg, hi, rfl, HRd, HX, HB1, HP, HQ⟩ := hrel
    have hA1 := HA.out.1.below HB1.out
    have hE1 := (HB1.out.block _ (Array.getElem?_eq_some_iff.1 HA.out.2).1).trans HA.out.2
    have HA1 := Aside0.mk hA1
    have HE1 := Aside0.mk hE1
    clear hA1 hE1
    cases gk with
    | zero =>
      have hall : (fieldsS kind).drop i = [] := List.drop_eq_nil_of_le (by rw [HL.out.f.len]; omega)
      have hQ := HQ.out
      rw [hall] at hQ
      have hdec2 : decS l = if at_ = (l.length : Int) ∧ lg = false ∧ checkS s = 0 then (s, 0) else (zSig, 110) := by rw [HDEC.out, ← hQ]; rfl
      have HD2 := Aside0.mk hdec2
      clear hall hQ hdec2 HQ HDEC
      have hlt : decide ((i : Int) < (xs.length : Int)) = false := decide_eq_false (by omega)
      have hlu : decide (i < xs.length) = false := decide_eq_false (by omega)
      have HWr := Aside0.mk (HB.out.trans (HB1.out.mono (Nat.le_of_lt HK2.out)))
      obtain ⟨q0, q1, q2, q3, q4, q5, q6, q7, q8, q9, q10, f2, f3, l2, l3⟩ := tw_of HA1.out HE1.out
      obtain ⟨r0, r1, r2, rf⟩ := HRd.out.cells
      by_cases ha : at_ = (l.length : Int)
      · have ha1 : (at_ != (l.length : Int)) = false := bne_eq_false_iff_eq.mpr ha
        have HA0 := Aside0.mk ha
        clear ha
        cases lg
        · obtain ⟨x0, x1, x2, x3, x4, x5, x6, x7, x8, x9⟩ := HX.out.ten
          by_cases hcs : checkS s = 0
          · have HCS := Aside0.mk hcs
            clear hcs
            go_wp2_with (go_at_call 12; refine (check_calls s _).mono ?_; rintro e w5 ⟨rfl, hb5⟩; rw [HCS.out]; have n1 := Aside0.mk (HA1.out.below hb5); have n2 := Aside0.mk ((hb5.block _ (Array.getElem?_eq_some_iff.1 HE1.out).1).trans HE1.out); have n3 := Aside0.mk (HX.out.below hb5); have n4 := Aside0.mk (below_step HWr.out hb5); clear q0 q1 q2 q3 q4 q5 q6 q7 q8 q9 q10 f2 f3 l2 l3 r0 r1 r2 rf x0 x1 x2 x3 x4 x5 x6 x7 x8 x9 hb5 HA1 HE1 HX HWr; obtain ⟨q0, q1, q2, q3, q4, q5, q6, q7, q8, q9, q10, f2, f3, l2, l3⟩ := tw_of n1.out n2.out; obtain ⟨x0, x1, x2, x3, x4, x5, x6, x7, x8, x9⟩ := n3.out.ten; have HA1 := n1; have HE1 := n2; have HX := n3; have HWr := n4; clear n1 n2 n3 n4)
            have hf := fin10 HA1.out HE1.out s 0
            refine door_idle (k := w.heap.size) rfl rfl hf.1 hf.2.1 ?_
            rw [HD2.out, if_pos ⟨HA0.out, (by trivial), HCS.out⟩]
            exact ⟨rfl, HWr.out.trans (hf.2.2 _ (Nat.le_refl _))⟩
          · have hcs1 : (checkS s != 0) = true := bne_iff_ne.mpr hcs
            have HCS := Aside0.mk hcs
            clear hcs
            go_wp2_with (go_at_call 12; refine (check_calls s _).mono ?_; rintro e w5 ⟨rfl, hb5⟩; have n1 := Aside0.mk (HA1.out.below hb5); have n2 := Aside0.mk ((hb5.block _ (Array.getElem?_eq_some_iff.1 HE1.out).1).trans HE1.out); have n4 := Aside0.mk (below_step HWr.out hb5); clear q0 q1 q2 q3 q4 q5 q6 q7 q8 q9 q10 f2 f3 l2 l3 r0 r1 r2 rf x0 x1 x2 x3 x4 x5 x6 x7 x8 x9 hb5 HA1 HE1 HX HWr; obtain ⟨q0, q1, q2, q3, q4, q5, q6, q7, q8, q9, q10, f2, f3, l2, l3⟩ := tw_of n1.out n2.out; have HA1 := n1; have HE1 := n2; have HWr := n4; clear n1 n2 n4)
            have hf := fin10 HA1.out HE1.out zSig 110
            refine door_idle (k := w.heap.size) rfl rfl hf.1 hf.2.1 ?_
            rw [HD2.out, if_neg (fun h => HCS.out h.2.2)]
            exact ⟨rfl, HWr.out.trans (hf.2.2 _ (Nat.le_refl _))⟩
        · go_wp2
          have hf := fin10 HA1.out HE1.out zSig 110
          refine door_idle (k := w.heap.size) rfl rfl hf.1 hf.2.1 ?_
          rw [HD2.out, if_neg (fun h => by cases h.2.1)]
          exact ⟨rfl, HWr.out.trans (hf.2.2 _ (Nat.le_refl _))⟩
      · have ha1 : (at_ != (l.length : Int)) = true := bne_iff_ne.mpr ha
        have HA0 := Aside0.mk ha
        clear ha
        go_wp2
        have hf := fin10 HA1.out HE1.out zSig 110
        refine door_idle (k := w.heap.size) rfl rfl hf.1 hf.2.1 ?_
        rw [HD2.out, if_neg (fun h => HA0.out h.1)]
        exact ⟨rfl, HWr.out.trans (hf.2.2 _ (Nat.le_refl _))⟩
    | succ k1 =>
      have hL2 := HL.out.keep (fun k _ hk => HB1.out.block k hk)
      obtain ⟨d, hd, hf⟩ := hL2.get (i := i) (by omega)
      obtain ⟨ad', e, c0, c1, c2, c3⟩ := hL2.cell (i : Int) (by omega) (by omega)
      cases e
      rw [Int.toNat_natCast] at c0 c1 c2 c3
      have eg := fd_enters2 hf
      generalize xs.getD i zF = x at hf c0 c1 c2 c3 eg
      have hcd : (fieldsS kind).drop i = d :: (fieldsS kind).drop (i + 1) := by
        have hlt : i < (fieldsS kind).length := by rw [HL.out.f.len]; omega
        rw [List.drop_eq_getElem_cons hlt]
        rw [List.getElem?_eq_getElem hlt] at hd
        rw [Option.some.inj hd]
      have hrall : readAll l ((fieldsS kind).drop i) s at_ lg = (match d.read l at_ lg s with
        | .inl er => .inl er
        | .inr (s', at', lg') => readAll l ((fieldsS kind).drop (i + 1)) s' at' lg') := by rw [hcd, readAll]
      have HG := Aside0.mk (fd_get w1.heap.size (w1.heap.size + 1) (fun k => k ≠ w.heap.size) (some ad) c l at_ lg s (wr.alloc (.cells (fc x).toArray 51)) (hp_alloc HRd.out) (hp_alloc HX.out) (by omega) (Kd.C_below HC.out (below_step (below_step HB.out HB1.out) (below_alloc (Below.refl _ _) _))) HCc.out HBy.out HLn.out (hf.below (below_alloc (Below.refl _ _) _)) HP.out)
      unfold fc at HG
      have HS1 := Aside0.mk HRd.out
      have HRA := Aside0.mk hrall
      clear hL2 hf hd hcd hrall
      have hqi : (i : Int) < (xs.length : Int) := by omega
      have hlt := decide_eq_true hqi
      cases hrd : d.read l at_ lg s with
      | inl er =>
        have HRD := Aside0.mk hrd
        clear hrd
        rw [HRD.out] at HRA HG
        go_wp2_with (refine HG.out.mono ?_; rintro e w4 ⟨rfl, hb4⟩; unfold fail; have HB4 := Aside0.mk hb4; clear hb4)
        have hB4 := (HB1.out.alloc HB1.out.size (.cells #[.func (.func x.f0.fn) #[] x.f0.cap, .func (.func x.f1.fn) #[] x.f1.cap, .func (.func x.f2.fn) #[] x.f2.cap, .func (.func x.f3.fn) #[] x.f3.cap] 51)).trans HB4.out
        refine door_panic (k := w.heap.size) rfl rfl (HA.out.1.below hB4) ((hB4.block _ (Array.getElem?_eq_some_iff.1 HA.out.2).1).trans HA.out.2) (fun W' hB => ?_)
        rw [HDEC.out, ← HQ.out, HRA.out]
        exact ⟨rfl, (HB.out.trans (hB4.mono (Nat.le_of_lt HK2.out))).trans hB⟩
      | inr r =>
        obtain ⟨s', at', lg'⟩ := r
        have HRD := Aside0.mk hrd
        clear hrd
        rw [HRD.out] at HRA HG
        go_wp2_with (refine HG.out.mono ?_; rintro e w4 ⟨rfl, hr4, hx4, hb4⟩; have HR4 := Aside0.mk hr4; have HX4 := Aside0.mk hx4; have HB4 := Aside0.mk hb4; clear hr4 hx4 hb4)
        go_roundg k1
        case measure => omega
        case rel =>
          have e1 : wrap64 ((i : Int) + 1) = ((i + 1 : Nat) : Int) := by have := HN.out; unfold wrap64; omega
          exact ⟨i + 1, s', at', lg', by omega, by rw [e1], HR4, HX4, ⟨(HB1.out.alloc HB1.out.size _).trans HB4.out⟩, ⟨read_pos HBy.out HP.out HRD.out⟩, ⟨HRA.out.symm.trans HQ.out⟩⟩
include hC hc hb hl in
theorem decode_calls : Calls Try.prog 13 #[.slice A l.length c] w fun e w' => De w e w' (decS l) := by
  by_cases h0 : l.length = 0
  · have e : decS l = (zSig, 10) := by unfold decS; rw [if_pos h0]
    rw [e]
    exact decode_empty A c l w h0
  · cases hk : known (rd l 0)
    · have e : decS l = (zSig, 110) := by unfold decS; rw [if_neg h0, if_pos hk]
      rw [e]
      exact decode_unknown A c l w hC hb (by omega) hk
    · exact decode_known A c l w hC hc hb hl (by omega) hk
end
end Go.Proofs.Ytmpjcpkfnjnejaa.Iq
