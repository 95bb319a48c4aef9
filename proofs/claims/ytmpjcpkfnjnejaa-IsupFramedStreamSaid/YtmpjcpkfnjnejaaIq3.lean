/-
  isup's fields, by hand: the fields of a kind, the map of the fields that a kind has besides, and what lies in memory while the list is made.
-/
import Derived.Test.YtmpjcpkfnjnejaaIq1
import Derived.Maps.Own
import Derived.Maps.Views
namespace Go.Proofs.Ytmpjcpkfnjnejaa.Iq
open Go.RowKit Go.Shelf Go.Maps Go.Proofs.YtmpjcpkfnjnejaaW.PrintWords Go.Proofs.YtmpjcpkfnjnejaaW.PrintLast Go.Proofs.YtmpjcpkfnjnejaaW.PrintMore Go.Proofs.Ytmpjcpkfnjnejaa.Is
set_option linter.unusedVariables false
set_option linter.unusedSimpArgs false

/-! ### which fields a kind has -/
def moreS (kind : Int) : List Fd :=
  if kind = 1 then [.int .hops 0 8, .addr .called .emergency, .addr .calling .always, .bool .emergency]
  else if kind = 2 then [.addr .digits .never]
  else if kind = 4 then [.bool .reverse]
  else if kind = 7 then [.int .cause 1 127]
  else []
def leastS (kind : Int) : Int := if kind = 8 then 0 else 1
def fieldsS (kind : Int) : List Fd :=
  if kind > 8 then [.int .circuit 0 47] else [.int .circuit 0 47, .int .ref (leastS kind) 1099511627776] ++ moreS kind
def known (kind : Int) : Bool := decide (1 ≤ kind) && decide (kind ≤ 13)

/-! ### a slice as a map's element -/
abbrev Dw := DataW Unit
def cdS : Value → Option Dw
  | .slice none 0 0 => some .nil
  | .slice (some ⟨b, 0, none⟩) n c => some (.agg [.lit (.int .i64 b), .lit (.int .i64 n), .lit (.int .i64 c)])
  | _ => none
def Rv (v : Value) : Option (Dw × List MemPlace) := (cdS v).map (fun d => (d, []))
theorem Rv_own (b n c : Nat) : Rv (.slice (some ⟨b, 0, none⟩) n c) = some (.agg [.lit (.int .i64 b), .lit (.int .i64 n), .lit (.int .i64 c)], []) := rfl
theorem cdS_inj {u v : Value} {d : Dw} (h : cdS u = some d) (h' : cdS v = some d) : u = v := by
  unfold cdS at h h'
  split at h
  · split at h'
    · rfl
    · simp only [Option.some.injEq] at h h'; subst h; cases h'
    · cases h'
  · split at h'
    · simp only [Option.some.injEq] at h h'; subst h; cases h'
    · simp only [Option.some.injEq] at h h'
      subst h
      simp only [DataW.agg.injEq, List.cons.injEq, DataW.lit.injEq, Lit.int.injEq, true_and, and_true] at h'
      obtain ⟨h1, h2, h3⟩ := h'
      have e1 := Int.ofNat.inj h1
      have e2 := Int.ofNat.inj h2
      have e3 := Int.ofNat.inj h3
      subst e1 e2 e3
      rfl
    · cases h'
  · cases h

/-! ### the state while the list is made: B the map's block -/
/-- Besides a block B (the map's), what lay in W lies in W'. -/
def Kp (B : Nat) (W W' : World) : Prop := W.heap.size ≤ W'.heap.size ∧ ∀ k, k < W.heap.size → k ≠ B → W'.heap[k]? = W.heap[k]?
theorem Kp.below {B : Nat} {W W' : World} (h : Below W.heap.size W W') : Kp B W W' := ⟨h.size, fun k hk _ => h.block k hk⟩
theorem Kp.grown {B : Nat} {W W' : World} (h : W.grownBy W' (some B)) : Kp B W W' := ⟨h.size, fun k hk hn => h.block k hk (fun e => hn (Option.some.inj e))⟩

structure St (B : Nat) (w W : World) (Fs : List (Fd × SFd)) (Rs : List (Value × List SFd)) (n : Nat) (D : Dw) : Prop where
  low : w.heap.size ≤ B
  below : Below w.heap.size w W
  f : ∀ p ∈ Fs, FOk (fun k => w.heap.size ≤ k ∧ k ≠ B) W p.1 p.2
  r : ∀ p ∈ Rs, Kd.R kF 51 W w.heap.size (fun k => k ≠ B) p.1 p.2
  m : W.ownsMap Try.prog 3 Rv B n D

variable {B : Nat} {w W W' : World} {Fs : List (Fd × SFd)} {Rs : List (Value × List SFd)} {n : Nat} {D : Dw}
theorem owns_blk (h : W.ownsMap Try.prog 3 Rv B n D) (e : W'.heap[B]? = W.heap[B]?) : W'.ownsMap Try.prog 3 Rv B n D := by
  obtain ⟨es, clock, hb, r⟩ := h
  exact ⟨es, clock, e.trans hb, r⟩
theorem St.kp (h : St B w W Fs Rs n D) (hk : Kp B W W') (hb : Below w.heap.size w W') {n' : Nat} {D' : Dw} (hm : W'.ownsMap Try.prog 3 Rv B n' D') : St B w W' Fs Rs n' D' :=
  ⟨h.low, hb, fun p hp => (h.f p hp).keep (fun k ok hlt => hk.2 k hlt ok.2), fun p hp => Kd.R_step (h.r p hp) (fun k ok hlt => hk.2 k hlt ok), hm⟩
theorem St.step (h : St B w W Fs Rs n D) (hb : Below W.heap.size W W') : St B w W' Fs Rs n D :=
  h.kp (Kp.below hb) (below_step h.below hb) (owns_blk h.m (hb.block B h.m.lt))
theorem St.addF (h : St B w W Fs Rs n D) {N : Nat} {d : Fd} {s : SFd} (hb : Below W.heap.size W W') (hN : W.heap.size ≤ N) (hf : FOk (fun k => N ≤ k) W' d s) : St B w W' ((d, s) :: Fs) Rs n D := by
  have h2 := h.step hb
  refine ⟨h2.low, h2.below, fun p hp => ?_, h2.r, h2.m⟩
  rcases List.mem_cons.1 hp with rfl | hp
  · exact hf.mono (fun k hk _ => by
      have h3 : N ≤ k := hk
      have h4 := h.m.lt
      have h5 := h.low
      exact ⟨by omega, by omega⟩)
  · exact h2.f p hp
theorem St.addR (h : St B w W Fs Rs n D) {v : Value} {xs : List SFd} (hb : Below W.heap.size W W') (hr : Kd.R kF 51 W' W.heap.size (fun _ => True) v xs) : St B w W' Fs ((v, xs) :: Rs) n D := by
  have h2 := h.step hb
  refine ⟨h2.low, h2.below, h2.f, fun p hp => ?_, h2.m⟩
  rcases List.mem_cons.1 hp with rfl | hp
  · have h4 := h.m.lt
    have h5 := h.low
    have h6 := h.below.size
    exact Kd.R_lower (Kd.R_mono (Kd.R_bound hr) (fun k hk => by have := hk.2.1; omega)) (by omega)
  · exact h2.r p hp
theorem St.put (h : St B w W Fs Rs n D) {kl : Lit} {d : Dw} (hg : W.grownBy W' (some B)) (hm : W'.ownsMap Try.prog 3 Rv B (n + 1) (D.put kl d)) : St B w W' Fs Rs (n + 1) (D.put kl d) :=
  h.kp (Kp.grown hg) (h.below.grown hg (Nat.le_trans h.low (Nat.le_of_lt h.m.lt)) (fun k e => by cases e; exact h.low)) hm

theorem St.start {w5 : World} (hb : Below w.heap.size w w5) {Fs : List (Fd × SFd)} (hf : ∀ p ∈ Fs, FOk (fun k => w.heap.size ≤ k) w5 p.1 p.2) {v : Value} {xs : List SFd} (hr : Kd.R kF 51 w5 w.heap.size (fun _ => True) v xs) :
    St w5.heap.size w (w5.alloc (.map #[] 0)) Fs [(v, xs)] 0 (.map []) := by
  have hB := below_alloc (Below.refl w5.heap.size w5) (.map #[] 0)
  refine ⟨hb.size, below_step hb hB, fun p hp => ?_, fun p hp => ?_, World.ownsMap_made _ _ _ _⟩
  · exact ((hf p hp).mono (ok' := fun k => w.heap.size ≤ k ∧ k ≠ w5.heap.size) (fun k hk hlt => ⟨hk, by omega⟩)).keep (fun k _ hk => hB.block k hk)
  · rw [List.mem_singleton.1 hp]
    exact Kd.R_below (Kd.R_mono (Kd.R_bound hr) (fun k hk => by have := hk.2.2.1; omega)) hB
/-! ### a store into the map and a look-up, at the operation -/
theorem law3 : Keyed Try.prog 3 := int_keyed Try.underlying3
theorem ins_event {ops : Array Oper} {rest : List Oper} {o : Oper} {a : Act} {Q : Exit → Act → World → Prop} (hg : o.guard = none) (m v : Operand) (key : Int) (hop : o.op = Op.insert 76 m (.const (.int .i64 key)) v) (hw : (Lit.int .i64 key).wf = true) (hn : n < maxLen)
    (hm : a.eval m = .map (some B)) (h : W.ownsMap Try.prog 3 Rv B n D) {d : Dw} (val : Value) (hv : a.eval v = val) (hval : Rv val = some (d, []))
    (hK : ∀ w', w'.ownsMap Try.prog 3 Rv B (n + 1) (D.put (.int .i64 key) d) → W.grownBy w' (some B) → wpList Try.prog ops Q rest (a.put o.dst undef) w') :
    wpList Try.prog ops Q (o :: rest) a W := by
  refine wpList_plain hg fun K' hK' => ?_
  have hx : a.eval (.const (.int .i64 key)) = .int .i64 key := rfl
  obtain ⟨w', hrun, r1, r2⟩ := h.update law3 Try.underlying76 hn (keyOf_int_mk Try.underlying3 hw) hval
  unfold Oper.wp
  simp [execOp, hop, hm, hx, hv, hrun, Result.andThen]
  exact hK' _ _ (hK w' r1 r2)
theorem zeroSl (w : World) : (zeroValue 43).run Try.prog w = .ok (.slice none 0 0) w := by kernel_rfl
theorem look_event {ops : Array Oper} {rest : List Oper} {o : Oper} {a : Act} {Q : Exit → Act → World → Prop} (hg : o.guard = none) (m x : Operand) (key : Int) (hop : o.op = Op.lookup 76 m x false) (hw : (Lit.int .i64 key).wf = true)
    (hm : a.eval m = .map (some B)) (h : W.ownsMap Try.prog 3 Rv B n D) (hx : a.eval x = .int .i64 key)
    (hK : ∀ v ps, Rv v = some (D.atKey (.int .i64 key) .nil, ps) → wpList Try.prog ops Q rest (a.put o.dst v) W) :
    wpList Try.prog ops Q (o :: rest) a W := by
  refine wpList_plain hg fun K' hK' => ?_
  obtain ⟨v, ps, hrun, hv⟩ := h.lookup law3 Try.underlying76 (zeroSl _) (zd := .nil) (zp := []) rfl (keyOf_int_mk Try.underlying3 hw)
  unfold Oper.wp
  simp [execOp, hop, hm, hx, hrun, Result.andThen]
  exact hK' _ _ (hK v ps hv)
theorem own_form {base : Nat} {ok : Nat → Prop} {v : Value} {xs : List SFd} (h : Kd.R kF 51 W base ok v xs) {b : Nat} (hb : v.ownBlock = some b) : ∃ b c, v = .slice (some ⟨b, 0, none⟩) xs.length c := by
  obtain ⟨inner, ho⟩ := Kd.R_own h
  rcases ho.2 with h2 | ⟨g, cap, cur, rfl, _⟩
  · rw [h2.1] at hb; simp [Value.ownBlock] at hb
  · exact ⟨g, cap, rfl⟩
end Go.Proofs.Ytmpjcpkfnjnejaa.Iq
