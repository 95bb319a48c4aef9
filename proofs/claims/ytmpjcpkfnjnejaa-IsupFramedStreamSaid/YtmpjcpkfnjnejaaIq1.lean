/-
  isup's fields, by hand: a message in memory, a field's four closures, and what integer, address and boolean make.
-/
import Derived.Test.YtmpjcpkfnjnejaaIa
import Derived.RegionTactic
import Derived.ChangeAlike
import Derived.Deep.QuietTactic
import Derived.BigQuiet
import Derived.Shelf.Abstract
import Derived.Laws.NewBlocks
import Derived.Laws.EntriesVeiled
import Derived.RangeFuncRecord
namespace Go.Proofs.Ytmpjcpkfnjnejaa.Iq
open Go.RowKit Go.Shelf Go.Proofs.YtmpjcpkfnjnejaaW.PrintWords Go.Proofs.YtmpjcpkfnjnejaaW.PrintLast Go.Proofs.YtmpjcpkfnjnejaaW.PrintMore Go.Proofs.Ytmpjcpkfnjnejaa.Is
set_option linter.unusedVariables false
set_option linter.unusedSimpArgs false

/-! ### a message -/
structure Sig where
  kind : Int
  circuit : Int
  ref : Int
  hops : Int
  cause : Int
  called : ByteArray
  calling : ByteArray
  digits : ByteArray
  emergency : Bool
  reverse : Bool
def noStr : ByteArray := ⟨#[]⟩
def Sig.cells (s : Sig) : Array Value := #[.int .i64 s.kind, .int .i64 s.circuit, .int .i64 s.ref, .int .i64 s.hops, .int .i64 s.cause, .string s.called, .string s.calling, .string s.digits, .bool s.emergency, .bool s.reverse]
def zSig : Sig := ⟨0, 0, 0, 0, 0, noStr, noStr, noStr, false, false⟩
def At (w : World) (S : Nat) (s : Sig) : Prop := w.heap[S]? = some (.cells s.cells 23 (0, 0))

inductive IF | circuit | ref | hops | cause
inductive SF | called | calling | digits
inductive BF | emergency | reverse
inductive EF | never | always | emergency
def IF.off : IF → Nat | .circuit => 1 | .ref => 2 | .hops => 3 | .cause => 4
def SF.off : SF → Nat | .called => 5 | .calling => 6 | .digits => 7
def BF.off : BF → Nat | .emergency => 8 | .reverse => 9
def IF.fn : IF → Nat | .circuit => 25 | .ref => 26 | .hops => 30 | .cause => 38
def SF.fn : SF → Nat | .called => 32 | .calling => 33 | .digits => 36
def BF.fn : BF → Nat | .emergency => 35 | .reverse => 37
def EF.fn : EF → Nat | .never => 27 | .always => 28 | .emergency => 29
def IF.get : IF → Sig → Int | .circuit, s => s.circuit | .ref, s => s.ref | .hops, s => s.hops | .cause, s => s.cause
def SF.get : SF → Sig → ByteArray | .called, s => s.called | .calling, s => s.calling | .digits, s => s.digits
def BF.get : BF → Sig → Bool | .emergency, s => s.emergency | .reverse, s => s.reverse
def EF.get : EF → Sig → Bool | .never, _ => false | .always, _ => true | .emergency, s => s.emergency
def IF.set : IF → Sig → Int → Sig | .circuit, s, x => { s with circuit := x } | .ref, s, x => { s with ref := x } | .hops, s, x => { s with hops := x } | .cause, s, x => { s with cause := x }
def SF.set : SF → Sig → ByteArray → Sig | .called, s, x => { s with called := x } | .calling, s, x => { s with calling := x } | .digits, s, x => { s with digits := x }
def BF.set : BF → Sig → Bool → Sig | .emergency, s, x => { s with emergency := x } | .reverse, s, x => { s with reverse := x }

theorem At.int {w : World} {S : Nat} {s : Sig} (h : At w S s) (f : IF) : w.cell? ⟨S, f.off, none⟩ = some (.int .i64 (f.get s)) := by
  cases f <;> simp [World.cell?, At] at h ⊢ <;> rw [h] <;> rfl
theorem At.str {w : World} {S : Nat} {s : Sig} (h : At w S s) (f : SF) : w.cell? ⟨S, f.off, none⟩ = some (.string (f.get s)) := by
  cases f <;> simp [World.cell?, At] at h ⊢ <;> rw [h] <;> rfl
theorem At.bool {w : World} {S : Nat} {s : Sig} (h : At w S s) (f : BF) : w.cell? ⟨S, f.off, none⟩ = some (.bool (f.get s)) := by
  cases f <;> simp [World.cell?, At] at h ⊢ <;> rw [h] <;> rfl
theorem At.kind {w : World} {S : Nat} {s : Sig} (h : At w S s) : w.cell? ⟨S, 0, none⟩ = some (.int .i64 s.kind) := by
  simp [World.cell?, At] at h ⊢; rw [h]; rfl
theorem At.frozen {w : World} {S : Nat} {s : Sig} (h : At w S s) (j : Nat) : w.frozen? ⟨S, j, none⟩ = false := by simp only [World.frozen?, At] at h ⊢; rw [h]; simp
theorem At.setI {w : World} {S : Nat} {s : Sig} (h : At w S s) (f : IF) (x : Int) : At (w.setCell ⟨S, f.off, none⟩ (.int .i64 x)) S (f.set s x) := by
  unfold At at h ⊢
  have hlt := (Array.getElem?_eq_some_iff.1 h).1
  cases f <;> simp [World.setCell, Array.getElem?_modify, h, IF.off, IF.set, Sig.cells]
theorem At.setS {w : World} {S : Nat} {s : Sig} (h : At w S s) (f : SF) (x : ByteArray) : At (w.setCell ⟨S, f.off, none⟩ (.string x)) S (f.set s x) := by
  unfold At at h ⊢
  have hlt := (Array.getElem?_eq_some_iff.1 h).1
  cases f <;> simp [World.setCell, Array.getElem?_modify, h, SF.off, SF.set, Sig.cells]
theorem At.setB {w : World} {S : Nat} {s : Sig} (h : At w S s) (f : BF) (x : Bool) : At (w.setCell ⟨S, f.off, none⟩ (.bool x)) S (f.set s x) := by
  unfold At at h ⊢
  have hlt := (Array.getElem?_eq_some_iff.1 h).1
  cases f <;> simp [World.setCell, Array.getElem?_modify, h, BF.off, BF.set, Sig.cells]
theorem At.blk {w w' : World} {S : Nat} {s : Sig} (h : At w S s) (hk : w'.heap[S]? = w.heap[S]?) : At w' S s := hk.trans h
theorem At.lt {w : World} {S : Nat} {s : Sig} (h : At w S s) : S < w.heap.size := (Array.getElem?_eq_some_iff.1 h).1
theorem At.below {w w' : World} {S : Nat} {s : Sig} (h : At w S s) (hb : Below w.heap.size w w') : At w' S s := h.blk (hb.block S h.lt)

/-! ### the getters -/
set_option maxHeartbeats 1000000 in
theorem igetter (f : IF) (S : Nat) (w : World) : Calls Try.prog f.fn #[.pointer (some ⟨S, 0, none⟩)] w fun e w' => e = .returned (.pointer (some ⟨S, f.off, none⟩)) ∧ w' = w := by
  cases f
  · show Calls Try.prog 25 _ _ _
    go_enter Try.func25, Try.ntmps25
    go_wp2
    go_ret
    exact ⟨rfl, rfl⟩
  · show Calls Try.prog 26 _ _ _
    go_enter Try.func26, Try.ntmps26
    go_wp2
    go_ret
    exact ⟨rfl, rfl⟩
  · show Calls Try.prog 30 _ _ _
    go_enter Try.func30, Try.ntmps30
    go_wp2
    go_ret
    exact ⟨rfl, rfl⟩
  · show Calls Try.prog 38 _ _ _
    go_enter Try.func38, Try.ntmps38
    go_wp2
    go_ret
    exact ⟨rfl, rfl⟩
set_option maxHeartbeats 1000000 in
theorem sgetter (f : SF) (S : Nat) (w : World) : Calls Try.prog f.fn #[.pointer (some ⟨S, 0, none⟩)] w fun e w' => e = .returned (.pointer (some ⟨S, f.off, none⟩)) ∧ w' = w := by
  cases f
  · show Calls Try.prog 32 _ _ _
    go_enter Try.func32, Try.ntmps32
    go_wp2
    go_ret
    exact ⟨rfl, rfl⟩
  · show Calls Try.prog 33 _ _ _
    go_enter Try.func33, Try.ntmps33
    go_wp2
    go_ret
    exact ⟨rfl, rfl⟩
  · show Calls Try.prog 36 _ _ _
    go_enter Try.func36, Try.ntmps36
    go_wp2
    go_ret
    exact ⟨rfl, rfl⟩
set_option maxHeartbeats 1000000 in
theorem bgetter (f : BF) (S : Nat) (w : World) : Calls Try.prog f.fn #[.pointer (some ⟨S, 0, none⟩)] w fun e w' => e = .returned (.pointer (some ⟨S, f.off, none⟩)) ∧ w' = w := by
  cases f
  · show Calls Try.prog 35 _ _ _
    go_enter Try.func35, Try.ntmps35
    go_wp2
    go_ret
    exact ⟨rfl, rfl⟩
  · show Calls Try.prog 37 _ _ _
    go_enter Try.func37, Try.ntmps37
    go_wp2
    go_ret
    exact ⟨rfl, rfl⟩
set_option maxHeartbeats 1000000 in
theorem egetter (f : EF) (S : Nat) (s : Sig) (w : World) (h : At w S s) : Calls Try.prog f.fn #[.pointer (some ⟨S, 0, none⟩)] w fun e w' => e = .returned (.bool (f.get s)) ∧ w' = w := by
  cases f
  · show Calls Try.prog 27 _ _ _
    go_enter Try.func27, Try.ntmps27
    go_wp2
    go_ret
    exact ⟨rfl, rfl⟩
  · show Calls Try.prog 28 _ _ _
    go_enter Try.func28, Try.ntmps28
    go_wp2
    go_ret
    exact ⟨rfl, rfl⟩
  · show Calls Try.prog 29 _ _ _
    have h8 := h.bool .emergency
    simp only [BF.off, BF.get] at h8
    go_enter Try.func29, Try.ntmps29
    go_wp2
    go_ret
    exact ⟨rfl, rfl⟩

theorem ienters (f : IF) : ∀ args w, (callFunc f.fn args).run Try.prog w = .ok (.enter f.fn args) w := by
  cases f
  · exact enters_of Try.func25 (by kernel_rfl) rfl
  · exact enters_of Try.func26 (by kernel_rfl) rfl
  · exact enters_of Try.func30 (by kernel_rfl) rfl
  · exact enters_of Try.func38 (by kernel_rfl) rfl
theorem senters (f : SF) : ∀ args w, (callFunc f.fn args).run Try.prog w = .ok (.enter f.fn args) w := by
  cases f
  · exact enters_of Try.func32 (by kernel_rfl) rfl
  · exact enters_of Try.func33 (by kernel_rfl) rfl
  · exact enters_of Try.func36 (by kernel_rfl) rfl
theorem benters (f : BF) : ∀ args w, (callFunc f.fn args).run Try.prog w = .ok (.enter f.fn args) w := by
  cases f
  · exact enters_of Try.func35 (by kernel_rfl) rfl
  · exact enters_of Try.func37 (by kernel_rfl) rfl
theorem eenters (f : EF) : ∀ args w, (callFunc f.fn args).run Try.prog w = .ok (.enter f.fn args) w := by
  cases f
  · exact enters_of Try.func27 (by kernel_rfl) rfl
  · exact enters_of Try.func28 (by kernel_rfl) rfl
  · exact enters_of Try.func29 (by kernel_rfl) rfl

/-! ### a field's closures -/
structure Clo where
  fn : Nat
  cap : Array Value
structure SFd where
  f0 : Clo
  f1 : Clo
  f2 : Clo
  f3 : Clo
def Clo.val (c : Clo) : Value := .func (.func c.fn) #[] c.cap
def kClo : Kd Clo := Kd.scalar Clo.val (fun _ => rfl)
def kF : Kd SFd := Kd.iso (Kd.pair kClo (Kd.pair kClo (Kd.pair kClo kClo))) (fun x : SFd => (x.f0, x.f1, x.f2, x.f3))
def SFd.cells (x : SFd) : List Value := [x.f0.val, x.f1.val, x.f2.val, x.f3.val]
theorem kF_open {w : World} {x : SFd} {cs : List Value} (h : kF.K w x cs) : cs = x.cells := by
  obtain ⟨_, _, rfl, rfl, ⟨_, _, rfl, rfl, ⟨_, _, rfl, rfl, rfl⟩⟩⟩ := h
  exact rfl
theorem kF_openM {w : World} {base : Nat} {ok : Nat → Prop} {x : SFd} {cs : List Value} (h : kF.M w base ok x cs) : cs = x.cells := by
  obtain ⟨_, _, rfl, rfl, ⟨_, _, rfl, rfl, ⟨_, _, rfl, rfl, rfl⟩⟩⟩ := h
  exact rfl
theorem kF_mk (w : World) (x : SFd) : kF.K w x x.cells := ⟨[_], [_, _, _], rfl, rfl, ⟨[_], [_, _], rfl, rfl, ⟨[_], [_], rfl, rfl, rfl⟩⟩⟩
theorem kF_mkM (w : World) (base : Nat) (ok : Nat → Prop) (x : SFd) : kF.M w base ok x x.cells := ⟨[_], [_, _, _], rfl, rfl, ⟨[_], [_, _], rfl, rfl, ⟨[_], [_], rfl, rfl, rfl⟩⟩⟩

inductive Fd
  | int (f : IF) (lo hi : Int)
  | addr (f : SF) (e : EF)
  | bool (f : BF)
/-- A box of one cell; ok: which blocks it may be. -/
def Bx (ok : Nat → Prop) (w : World) (b : Nat) (v : Value) (t : TypeId) : Prop := ok b ∧ w.heap[b]? = some (.cells #[v] t (0, 0))
theorem Bx.cell {ok : Nat → Prop} {w : World} {b : Nat} {v : Value} {t : TypeId} (h : Bx ok w b v t) : w.cell? ⟨b, 0, none⟩ = some v := by simp [World.cell?, h.2]
theorem Bx.keep {ok : Nat → Prop} {w w' : World} {b : Nat} {v : Value} {t : TypeId} (h : Bx ok w b v t) (hk : ∀ k, ok k → k < w.heap.size → w'.heap[k]? = w.heap[k]?) : Bx ok w' b v t :=
  ⟨h.1, (hk b h.1 (Array.getElem?_eq_some_iff.1 h.2).1).trans h.2⟩
theorem Bx.mono {ok ok' : Nat → Prop} {w : World} {b : Nat} {v : Value} {t : TypeId} (h : Bx ok w b v t) (hm : ∀ k, ok k → k < w.heap.size → ok' k) : Bx ok' w b v t := ⟨hm b h.1 (Array.getElem?_eq_some_iff.1 h.2).1, h.2⟩
def pt (b : Nat) : Value := .pointer (some ⟨b, 0, none⟩)
def FOk (ok : Nat → Prop) (w : World) : Fd → SFd → Prop
  | .int f lo hi, s => ∃ bo bf bt, Bx ok w bo (.func (.func f.fn) #[] #[]) 69 ∧ Bx ok w bf (.int .i64 lo) 3 ∧ Bx ok w bt (.int .i64 hi) 3 ∧ s = ⟨⟨42, #[pt bf, pt bo, pt bt]⟩, ⟨43, #[pt bo]⟩, ⟨45, #[pt bo]⟩, ⟨47, #[pt bo]⟩⟩
  | .addr f e, s => ∃ bo be, Bx ok w bo (.func (.func f.fn) #[] #[]) 72 ∧ Bx ok w be (.func (.func e.fn) #[] #[]) 46 ∧ s = ⟨⟨48, #[pt bo, pt be]⟩, ⟨50, #[pt bo]⟩, ⟨52, #[pt bo]⟩, ⟨54, #[pt bo]⟩⟩
  | .bool f, s => ∃ bo, Bx ok w bo (.func (.func f.fn) #[] #[]) 75 ∧ s = ⟨⟨55, #[]⟩, ⟨56, #[pt bo]⟩, ⟨57, #[pt bo]⟩, ⟨59, #[pt bo]⟩⟩
theorem FOk.keep {ok : Nat → Prop} {w w' : World} {d : Fd} {s : SFd} (h : FOk ok w d s) (hk : ∀ k, ok k → k < w.heap.size → w'.heap[k]? = w.heap[k]?) : FOk ok w' d s := by
  cases d with
  | int f lo hi => obtain ⟨bo, bf, bt, h1, h2, h3, rfl⟩ := h; exact ⟨bo, bf, bt, h1.keep hk, h2.keep hk, h3.keep hk, rfl⟩
  | addr f e => obtain ⟨bo, be, h1, h2, rfl⟩ := h; exact ⟨bo, be, h1.keep hk, h2.keep hk, rfl⟩
  | bool f => obtain ⟨bo, h1, rfl⟩ := h; exact ⟨bo, h1.keep hk, rfl⟩
theorem FOk.mono {ok ok' : Nat → Prop} {w : World} {d : Fd} {s : SFd} (h : FOk ok w d s) (hm : ∀ k, ok k → k < w.heap.size → ok' k) : FOk ok' w d s := by
  cases d with
  | int f lo hi => obtain ⟨bo, bf, bt, h1, h2, h3, rfl⟩ := h; exact ⟨bo, bf, bt, h1.mono hm, h2.mono hm, h3.mono hm, rfl⟩
  | addr f e => obtain ⟨bo, be, h1, h2, rfl⟩ := h; exact ⟨bo, be, h1.mono hm, h2.mono hm, rfl⟩
  | bool f => obtain ⟨bo, h1, rfl⟩ := h; exact ⟨bo, h1.mono hm, rfl⟩

theorem Bx.types {ok : Nat → Prop} {w : World} {b g t' : Nat} {v : Value} {t : TypeId} {cells : Array Value} (h : Bx ok w b v t) (hg : w.heap[g]? = some (.cells cells t' (0, 0))) (ht : t ≠ t') : Bx (fun k => ok k ∧ k ≠ g) w b v t :=
  ⟨⟨h.1, by
    rintro rfl
    rw [h.2] at hg
    injection hg with hg
    injection hg with _ hg
    exact ht hg⟩, h.2⟩
theorem FOk.types {ok : Nat → Prop} {w : World} {d : Fd} {s : SFd} (h : FOk ok w d s) {g : Nat} {cells : Array Value} (hg : w.heap[g]? = some (.cells cells 51 (0, 0))) : FOk (fun k => ok k ∧ k ≠ g) w d s := by
  cases d with
  | int f lo hi => obtain ⟨bo, bf, bt, h1, h2, h3, rfl⟩ := h; exact ⟨bo, bf, bt, h1.types hg (by decide), h2.types hg (by decide), h3.types hg (by decide), rfl⟩
  | addr f e => obtain ⟨bo, be, h1, h2, rfl⟩ := h; exact ⟨bo, be, h1.types hg (by decide), h2.types hg (by decide), rfl⟩
  | bool f => obtain ⟨bo, h1, rfl⟩ := h; exact ⟨bo, h1.types hg (by decide), rfl⟩

/-! ### what integer, address, boolean make -/
/-- A field as a value. -/
def aggF (s : SFd) : Value := .agg #[.func (.func s.f0.fn) #[] s.f0.cap, .func (.func s.f1.fn) #[] s.f1.cap, .func (.func s.f2.fn) #[] s.f2.cap, .func (.func s.f3.fn) #[] s.f3.cap]
theorem hp_set {W : World} {p : Addr} {u : Value} {k : Nat} {o : Obj} (h : W.heap[k]? = some o) (n : k ≠ p.block) : (W.setCell p u).heap[k]? = some o := (Below.heap_setCell W p u k n).trans h
theorem hp_alloc {W : World} {o' : Obj} {k : Nat} {o : Obj} (h : W.heap[k]? = some o) : (W.alloc o').heap[k]? = some o := (Below.heap_alloc W o' k (Array.getElem?_eq_some_iff.1 h).1).trans h
theorem hp_new {W : World} {o : Obj} {k : Nat} (h : W.heap.size = k) : (W.alloc o).heap[k]? = some o := by subst h; exact World.alloc_heap_new W o
set_option maxHeartbeats 2000000 in
theorem integer_calls (f : IF) (lo hi : Int) (w : World) : Calls Try.prog 24 #[.func (.func f.fn) #[] #[], .int .i64 lo, .int .i64 hi] w fun e w' => ∃ s : SFd, e = .returned (aggF s) ∧ FOk (fun k => w.heap.size ≤ k) w' (.int f lo hi) s ∧ Below w.heap.size w w' := by
  have hmf : ∀ (fn : Fn) (first cap : Array Value) (w : World), (Instr.makeFunc fn first cap).run Try.prog w = .ok (.func fn first cap) w := fun _ _ _ _ => rfl
  go_enter Try.func24, Try.ntmps24
  go_wp2
  refine bodyPost_ret (v := aggF ⟨⟨42, #[pt (w.heap.size + 1), pt w.heap.size, pt (w.heap.size + 1 + 1)]⟩, ⟨43, #[pt w.heap.size]⟩, ⟨45, #[pt w.heap.size]⟩, ⟨47, #[pt w.heap.size]⟩⟩) ?_ rfl ⟨_, rfl, ⟨w.heap.size, w.heap.size + 1, w.heap.size + 1 + 1, ⟨by omega, ?_⟩, ⟨by omega, ?_⟩, ⟨by omega, ?_⟩, rfl⟩, ?_⟩
  · simp [results, Try.results24, go_sem, aggF, pt]
  all_goals (repeat (first | (refine hp_new ?_; simp; done) | refine hp_alloc ?_ | exact Below.refl _ _ | apply below_alloc))

set_option maxHeartbeats 2000000 in
theorem address_calls (f : SF) (g : EF) (w : World) : Calls Try.prog 31 #[.func (.func f.fn) #[] #[], .func (.func g.fn) #[] #[]] w fun e w' => ∃ s : SFd, e = .returned (aggF s) ∧ FOk (fun k => w.heap.size ≤ k) w' (.addr f g) s ∧ Below w.heap.size w w' := by
  have hmf : ∀ (fn : Fn) (first cap : Array Value) (w : World), (Instr.makeFunc fn first cap).run Try.prog w = .ok (.func fn first cap) w := fun _ _ _ _ => rfl
  go_enter Try.func31, Try.ntmps31
  go_wp2
  refine bodyPost_ret (v := aggF ⟨⟨48, #[pt w.heap.size, pt (w.heap.size + 1)]⟩, ⟨50, #[pt w.heap.size]⟩, ⟨52, #[pt w.heap.size]⟩, ⟨54, #[pt w.heap.size]⟩⟩) ?_ rfl ⟨_, rfl, ⟨w.heap.size, w.heap.size + 1, ⟨by omega, ?_⟩, ⟨by omega, ?_⟩, rfl⟩, ?_⟩
  · simp [results, Try.results31, go_sem, aggF, pt]
  all_goals (repeat (first | (refine hp_new ?_; simp; done) | refine hp_alloc ?_ | exact Below.refl _ _ | apply below_alloc))

set_option maxHeartbeats 2000000 in
theorem boolean_calls (f : BF) (w : World) : Calls Try.prog 34 #[.func (.func f.fn) #[] #[]] w fun e w' => ∃ s : SFd, e = .returned (aggF s) ∧ FOk (fun k => w.heap.size ≤ k) w' (.bool f) s ∧ Below w.heap.size w w' := by
  have hmf : ∀ (fn : Fn) (first cap : Array Value) (w : World), (Instr.makeFunc fn first cap).run Try.prog w = .ok (.func fn first cap) w := fun _ _ _ _ => rfl
  go_enter Try.func34, Try.ntmps34
  go_wp2
  refine bodyPost_ret (v := aggF ⟨⟨55, #[]⟩, ⟨56, #[pt w.heap.size]⟩, ⟨57, #[pt w.heap.size]⟩, ⟨59, #[pt w.heap.size]⟩⟩) ?_ rfl ⟨_, rfl, ⟨w.heap.size, ⟨by omega, ?_⟩, rfl⟩, ?_⟩
  · simp [results, Try.results34, go_sem, aggF, pt]
  all_goals (repeat (first | (refine hp_new ?_; simp; done) | refine hp_alloc ?_ | exact Below.refl _ _ | apply below_alloc))

end Go.Proofs.Ytmpjcpkfnjnejaa.Iq
