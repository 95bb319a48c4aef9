/-
  isup.Decode, by hand: the reader's methods and what a field's get does.
-/
import Derived.Test.YtmpjcpkfnjnejaaIq6
import Derived.Deep.RegionHeld3
import Derived.WalkSmall
namespace Go.Proofs.Ytmpjcpkfnjnejaa.Iq
open Go.RowKit Go.Shelf Go.Proofs.YtmpjcpkfnjnejaaW.PrintWords Go.Proofs.YtmpjcpkfnjnejaaW.PrintLast Go.Proofs.YtmpjcpkfnjnejaaW.PrintMore Go.Proofs.Ytmpjcpkfnjnejaa.Is Go.Proofs.Ytmpjcpkfnjnejaa.Vm Go.Proofs.Ytmpjcpkfnjnejaa.Iv
set_option linter.unusedVariables false
set_option linter.unusedSimpArgs false

/-- The panic of a decoding error. -/
def fail (er : Int) : Ending := .panicked [{ v := .iface 54 (.agg #[.int .i64 er]), recovered := false }]
theorem must_ok (w : World) : Calls Try.prog 62 #[.int .i64 0] w fun e w' => e = .returned (.tuple #[]) ∧ w' = w := by
  go_enter Try.func62, Try.ntmps62
  go_wp2
  go_end0
  exact ⟨rfl, rfl⟩
theorem must_fail (er : Int) (w : World) (h : er ≠ 0) : Calls Try.prog 62 #[.int .i64 er] w fun e w' => e = fail er ∧ w' = w := by
  have h1 : (er != 0) = true := bne_iff_ne.mpr h
  have h2 : (er == 0) = false := beq_eq_false_iff_ne.mpr h
  go_enter Try.func62, Try.ntmps62
  go_wp2
  exact ⟨rfl, rfl, rfl⟩

/-- The reader in memory. -/
def Rd (w : World) (rb : Nat) (A : Option Addr) (c n : Nat) (at_ : Int) (lg : Bool) : Prop := w.heap[rb]? = some (.cells #[.slice A n c, .int .i64 at_, .bool lg] 57 (0, 0))
theorem Rd.cells {w : World} {rb : Nat} {A : Option Addr} {c n : Nat} {at_ : Int} {lg : Bool} (h : Rd w rb A c n at_ lg) :
    w.cell? ⟨rb, 0, none⟩ = some (.slice A n c) ∧ w.cell? ⟨rb, 1, none⟩ = some (.int .i64 at_) ∧ w.cell? ⟨rb, 2, none⟩ = some (.bool lg) ∧ ∀ j, w.frozen? ⟨rb, j, none⟩ = false := by
  unfold Rd at h
  refine ⟨?_, ?_, ?_, fun j => ?_⟩
  · simp [World.cell?, h]
  · simp [World.cell?, h]
  · simp [World.cell?, h]
  · simp [World.frozen?, h]
theorem Rd.setAt {w : World} {rb : Nat} {A : Option Addr} {c n : Nat} {at_ : Int} {lg : Bool} (h : Rd w rb A c n at_ lg) (x : Int) : Rd (w.setCell ⟨rb, 1, none⟩ (.int .i64 x)) rb A c n x lg := by
  unfold Rd at h ⊢
  have hlt := (Array.getElem?_eq_some_iff.1 h).1
  simp [World.setCell, Array.getElem?_modify, h]
theorem Rd.setLg {w : World} {rb : Nat} {A : Option Addr} {c n : Nat} {at_ : Int} {lg : Bool} (h : Rd w rb A c n at_ lg) (x : Bool) : Rd (w.setCell ⟨rb, 2, none⟩ (.bool x)) rb A c n at_ x := by
  unfold Rd at h ⊢
  have hlt := (Array.getElem?_eq_some_iff.1 h).1
  simp [World.setCell, Array.getElem?_modify, h]
/-- Besides block b all of w lies in w'. -/
structure Ch (b : Nat) (w w' : World) : Prop where
  keep : ∀ k, k ≠ b → k < w.heap.size → w'.heap[k]? = w.heap[k]?
  below : Below b w w'
theorem Ch.refl (b : Nat) (w : World) : Ch b w w := ⟨fun _ _ _ => rfl, Below.refl _ _⟩
theorem Ch.set {b : Nat} {w w' : World} (h : Ch b w w') (o : Nat) (v : Value) : Ch b w (w'.setCell ⟨b, o, none⟩ v) :=
  ⟨fun k hk hlt => (Below.heap_setCell w' ⟨b, o, none⟩ v k hk).trans (h.keep k hk hlt), Below.setCell (p := ⟨b, o, none⟩) h.below (Nat.le_refl _) v⟩
theorem Ch.step {b : Nat} {w w' w2 : World} (h : Ch b w w') (hb : Below w'.heap.size w' w2) (hlt : b ≤ w'.heap.size) : Ch b w w2 :=
  ⟨fun k hk hl => (hb.block k (by have := h.below.size; omega)).trans (h.keep k hk hl), h.below.trans (hb.mono hlt)⟩

theorem Ch.drewN (b : Nat) (w : World) (n : Nat) : Ch b w (w.drewN n) :=
  ⟨fun k _ hk => (pw_below_drewN (Below.refl w.heap.size w) n).block k hk, pw_below_drewN (Below.refl b w) n⟩
theorem uint_quiet (A : Option Addr) (c : Nat) (l : List Int) (at_ : Int) (w : World) (hC : Kd.C (Kd.int .u8) w A l.length l) (hc : l.length ≤ c) (hb : Bytes l) (hl : l.length ≤ 140737488351232) (v nx er : Int) (hu : uintS l at_ = (v, nx, er)) (n : Nat) :
    Calls Try.prog 61 #[.slice A l.length c, .int .i64 at_] (w.drewN n) fun e w'' => e = .returned (.tuple #[.int .u64 v, .int .i64 nx, .int .i64 er]) ∧ ∃ m, w'' = w.drewN m :=
  Calls.quiet_of ((varint_Uint.calls 30 A c l at_ v nx er (w.drewN n) (Kd.C_drewN hC n) hc (by rw [uint_eq 30 l at_ (Nat.le_refl _) hb hl, hu])).mono (by rintro e w' ⟨rfl, m, rfl⟩; exact ⟨rfl, m, rfl⟩))
set_option maxHeartbeats 4000000 in
theorem rint_ok (rb : Nat) (A : Option Addr) (c : Nat) (l : List Int) (at_ : Int) (lg : Bool) (w : World) (h : Rd w rb A c l.length at_ lg) (hC : Kd.C (Kd.int .u8) w A l.length l) (hc : l.length ≤ c) (hb : Bytes l) (hl : l.length ≤ 140737488351232)
    (v nx : Int) (hu : uintS l at_ = (v, nx, 0)) (h0 : 0 ≤ v) (h1 : v ≤ 1099511627776) :
    Calls Try.prog 46 #[pt rb] w fun e w' => e = .returned (.int .i64 v) ∧ Rd w' rb A c l.length nx lg ∧ Ch rb w w' := by
  have HR := Aside0.mk h
  have HQ := Aside0.mk (uint_quiet A c l at_ w hC hc hb hl v nx 0 hu)
  obtain ⟨r0, r1, r2, rf⟩ := h.cells
  have hv : decide (v > 1099511627776) = false := decide_eq_false (by omega)
  have hw : wrap64 v = v := by unfold wrap64; omega
  clear h hC hc hb hl hu h0 h1
  unfold pt
  go_enter Try.func46, Try.ntmps46
  go_wp2
  go_quiet ((go_at_call 61; exact HQ.out _))
  go_wp2_with (go_at_call 62; refine (must_ok _).mono ?_; rintro e w' ⟨rfl, rfl⟩)
  go_ret
  exact ⟨by rw [hw]; rfl, Rd.setAt (show Rd (w.drewN nq) rb A c l.length at_ lg from blk_drewN HR.out _) nx, (Ch.drewN rb w nq).set _ _⟩

set_option maxHeartbeats 4000000 in
theorem rint_big (rb : Nat) (A : Option Addr) (c : Nat) (l : List Int) (at_ : Int) (lg : Bool) (w : World) (h : Rd w rb A c l.length at_ lg) (hC : Kd.C (Kd.int .u8) w A l.length l) (hc : l.length ≤ c) (hb : Bytes l) (hl : l.length ≤ 140737488351232)
    (v nx : Int) (hu : uintS l at_ = (v, nx, 0)) (h1 : v > 1099511627776) :
    Calls Try.prog 46 #[pt rb] w fun e w' => e = .returned (.int .i64 0) ∧ Rd w' rb A c l.length nx true ∧ Ch rb w w' := by
  have HR := Aside0.mk h
  have HQ := Aside0.mk (uint_quiet A c l at_ w hC hc hb hl v nx 0 hu)
  obtain ⟨r0, r1, r2, rf⟩ := h.cells
  have hv : decide (v > 1099511627776) = true := decide_eq_true (by omega)
  clear h hC hc hb hl hu h1
  unfold pt
  go_enter Try.func46, Try.ntmps46
  go_wp2
  go_quiet ((go_at_call 61; exact HQ.out _))
  go_wp2_with (go_at_call 62; refine (must_ok _).mono ?_; rintro e w' ⟨rfl, rfl⟩)
  go_ret
  exact ⟨rfl, (Rd.setAt (show Rd (w.drewN nq) rb A c l.length at_ lg from blk_drewN HR.out _) nx).setLg true, ((Ch.drewN rb w nq).set _ _).set _ _⟩

set_option maxHeartbeats 4000000 in
theorem rint_err (rb : Nat) (A : Option Addr) (c : Nat) (l : List Int) (at_ : Int) (lg : Bool) (w : World) (h : Rd w rb A c l.length at_ lg) (hC : Kd.C (Kd.int .u8) w A l.length l) (hc : l.length ≤ c) (hb : Bytes l) (hl : l.length ≤ 140737488351232)
    (v nx er : Int) (hu : uintS l at_ = (v, nx, er)) (h1 : er ≠ 0) :
    Calls Try.prog 46 #[pt rb] w fun e w' => e = fail er ∧ Below w.heap.size w w' := by
  have HR := Aside0.mk h
  have HQ := Aside0.mk (uint_quiet A c l at_ w hC hc hb hl v nx er hu)
  have HE := Aside0.mk h1
  obtain ⟨r0, r1, r2, rf⟩ := h.cells
  clear h hC hc hb hl hu h1
  unfold pt
  go_enter Try.func46, Try.ntmps46
  go_wp2
  go_quiet ((go_at_call 61; exact HQ.out _))
  go_wp2_with (go_at_call 62; refine (must_fail er _ HE.out).mono ?_; rintro e w' ⟨rfl, rfl⟩; unfold fail)
  exact ⟨rfl, rfl, pw_below_drewN (Below.refl _ _) _⟩

set_option maxHeartbeats 4000000 in
theorem rtext_ok (rb : Nat) (A : Option Addr) (c : Nat) (l : List Int) (at_ : Int) (lg : Bool) (w : World) (h : Rd w rb A c l.length at_ lg) (hC : Kd.C (Kd.int .u8) w A l.length l) (hc : l.length ≤ c) (hb : Bytes l) (hl : l.length ≤ 140737488351232)
    (t : List Int) (nx : Int) (hu : seqS l at_ 15 = (t, nx, 0)) :
    Calls Try.prog 53 #[pt rb] w fun e w' => e = .returned (.string (strOfNums t)) ∧ Rd w' rb A c l.length nx lg ∧ Ch rb w w' := by
  have HR := Aside0.mk h
  have HS := Aside0.mk (show varint_String.f 30 l at_ 15 = some (strOfNums t, nx, 0) from by rw [string_eq 30 l at_ 15 (Nat.le_refl _) hb hl (by decide), hu])
  have HC := Aside0.mk hC
  have HL := Aside0.mk hc
  obtain ⟨r0, r1, r2, rf⟩ := h.cells
  clear h hC hc hb hl hu
  unfold pt
  go_enter Try.func53, Try.ntmps53
  go_wp2
  go_region_held3 (fun w' => w'.cell? ⟨rb, 0, none⟩ = some (.slice A l.length c) ∧ w'.cell? ⟨rb, 1, none⟩ = some (.int .i64 at_)) (first | exact ⟨t0, t1⟩ | exact ⟨r0, r1⟩) (first | (go_at_call 65; refine (varint_String.calls 30 A c l at_ 15 (strOfNums t) nx 0 _ (Kd.C_drew HC.out) HL.out HS.out).mono ?_; rintro e w1 ⟨rfl, hb⟩; have t0 := pw_cell_below hb r0; have t1 := pw_cell_below hb r1; have HB := Aside0.mk (below_step (below_drew1 (Below.refl w.heap.size w)) hb); clear hb))
  have HR1 := Aside0.mk (show Rd w1 rb A c l.length at_ lg from (HB.out.block rb (Array.getElem?_eq_some_iff.1 HR.out).1).trans HR.out)
  clear t0 t1 r0 r1 r2 rf
  obtain ⟨r0, r1, r2, rf⟩ := HR1.out.cells
  go_wp2_with (go_at_call 62; refine (must_ok _).mono ?_; rintro e w' ⟨rfl, rfl⟩)
  go_ret
  exact ⟨rfl, HR1.out.setAt nx, ((Ch.refl rb w).step HB.out (Nat.le_of_lt (Array.getElem?_eq_some_iff.1 HR.out).1)).set _ _⟩

set_option maxHeartbeats 4000000 in
theorem rtext_err (rb : Nat) (A : Option Addr) (c : Nat) (l : List Int) (at_ : Int) (lg : Bool) (w : World) (h : Rd w rb A c l.length at_ lg) (hC : Kd.C (Kd.int .u8) w A l.length l) (hc : l.length ≤ c) (hb : Bytes l) (hl : l.length ≤ 140737488351232)
    (t : List Int) (nx er : Int) (hu : seqS l at_ 15 = (t, nx, er)) (h1 : er ≠ 0) :
    Calls Try.prog 53 #[pt rb] w fun e w' => e = fail er ∧ Below w.heap.size w w' := by
  have HR := Aside0.mk h
  have HS := Aside0.mk (show varint_String.f 30 l at_ 15 = some (strOfNums t, nx, er) from by rw [string_eq 30 l at_ 15 (Nat.le_refl _) hb hl (by decide), hu])
  have HC := Aside0.mk hC
  have HL := Aside0.mk hc
  have HE := Aside0.mk h1
  obtain ⟨r0, r1, r2, rf⟩ := h.cells
  clear h hC hc hb hl hu h1
  unfold pt
  go_enter Try.func53, Try.ntmps53
  go_wp2
  go_region_held3 (fun w' => w'.cell? ⟨rb, 0, none⟩ = some (.slice A l.length c) ∧ w'.cell? ⟨rb, 1, none⟩ = some (.int .i64 at_)) (first | exact ⟨t0, t1⟩ | exact ⟨r0, r1⟩) (first | (go_at_call 65; refine (varint_String.calls 30 A c l at_ 15 (strOfNums t) nx er _ (Kd.C_drew HC.out) HL.out HS.out).mono ?_; rintro e w1 ⟨rfl, hb⟩; have t0 := pw_cell_below hb r0; have t1 := pw_cell_below hb r1; have HB := Aside0.mk (below_step (below_drew1 (Below.refl w.heap.size w)) hb); clear hb))
  clear t0 t1 r0 r1 r2 rf
  go_wp2_with (go_at_call 62; refine (must_fail er _ HE.out).mono ?_; rintro e w' ⟨rfl, rfl⟩; unfold fail)
  exact ⟨rfl, rfl, HB.out⟩

set_option maxHeartbeats 4000000 in
theorem rbool_end (rb : Nat) (A : Option Addr) (c n : Nat) (at_ : Int) (lg : Bool) (w : World) (h : Rd w rb A c n at_ lg) (h1 : at_ ≥ (n : Int)) :
    Calls Try.prog 58 #[pt rb] w fun e w' => e = fail 10 ∧ Below w.heap.size w w' := by
  obtain ⟨r0, r1, r2, rf⟩ := h.cells
  have hd : decide (at_ ≥ (n : Int)) = true := decide_eq_true h1
  clear h h1
  unfold pt
  go_enter Try.func58, Try.ntmps58
  go_wp2
  go_quiet (fail)
  go_wp2
  exact ⟨rfl, rfl, pw_below_drewN (Below.refl _ _) _⟩

set_option maxHeartbeats 4000000 in
theorem rbool_ok (rb : Nat) (A : Option Addr) (c : Nat) (l : List Int) (at_ : Int) (lg : Bool) (w : World) (h : Rd w rb A c l.length at_ lg) (hC : Kd.C (Kd.int .u8) w A l.length l) (h0 : 0 ≤ at_) (h1 : at_ < (l.length : Int)) (hl : l.length ≤ 140737488351232) (h2 : rd l at_ ≤ 1) :
    Calls Try.prog 58 #[pt rb] w fun e w' => e = .returned (.bool (rd l at_ == 1)) ∧ Rd w' rb A c l.length (at_ + 1) lg ∧ Ch rb w w' := by
  have HR := Aside0.mk h
  obtain ⟨r0, r1, r2, rf⟩ := h.cells
  have hd : decide (at_ ≥ (l.length : Int)) = false := decide_eq_false (by omega)
  have hg : decide (rd l at_ > 1) = false := decide_eq_false (by omega)
  have hw : wrap64 (at_ + 1) = at_ + 1 := by unfold wrap64; omega
  obtain ⟨ad, cs, e, _, hK, hx⟩ := Kd.C_get hC (0 : Int) at_ h0 h1
  cases e
  have hx0 : w.cell? (ad.add at_.toNat) = some (.int .u8 (rd l at_)) := by
    have hq := hx 0 _ (by rw [show cs = [.int .u8 (l.getD at_.toNat 0)] from hK]; rfl)
    simpa [Kd.int, Kd.scalar, rd] using hq
  have hp := h0
  clear h hC hl h2 hK hx
  unfold pt
  go_enter Try.func58, Try.ntmps58
  go_wp2
  go_quiet (fail)
  go_wp2
  go_quiet (fail)
  go_wp2
  go_ret
  exact ⟨rfl, Rd.setAt (blk_drewN HR.out _) _, (Ch.drewN rb w _).set _ _⟩

set_option maxHeartbeats 4000000 in
theorem rbool_big (rb : Nat) (A : Option Addr) (c : Nat) (l : List Int) (at_ : Int) (lg : Bool) (w : World) (h : Rd w rb A c l.length at_ lg) (hC : Kd.C (Kd.int .u8) w A l.length l) (h0 : 0 ≤ at_) (h1 : at_ < (l.length : Int)) (hl : l.length ≤ 140737488351232) (h2 : rd l at_ > 1) :
    Calls Try.prog 58 #[pt rb] w fun e w' => e = fail 110 ∧ Below rb w w' := by
  have HR := Aside0.mk h
  obtain ⟨r0, r1, r2, rf⟩ := h.cells
  have hd : decide (at_ ≥ (l.length : Int)) = false := decide_eq_false (by omega)
  have hg : decide (rd l at_ > 1) = true := decide_eq_true (by omega)
  obtain ⟨ad, cs, e, _, hK, hx⟩ := Kd.C_get hC (0 : Int) at_ h0 h1
  cases e
  have hx0 : w.cell? (ad.add at_.toNat) = some (.int .u8 (rd l at_)) := by
    have hq := hx 0 _ (by rw [show cs = [.int .u8 (l.getD at_.toNat 0)] from hK]; rfl)
    simpa [Kd.int, Kd.scalar, rd] using hq
  have hp := h0
  clear h hC hl h2 hK hx
  unfold pt
  go_enter Try.func58, Try.ntmps58
  go_wp2
  go_quiet (fail)
  go_wp2
  go_quiet (fail)
  go_wp2
  exact ⟨rfl, rfl, ((Ch.drewN rb w _).set _ _).below⟩

/-! ### get -/
/-- What a field's get makes of the bytes: an error, or the message, the offset and whether a number was too large. -/
def Fd.read (l : List Int) (at_ : Int) (lg : Bool) (s : Sig) : Fd → Int ⊕ (Sig × Int × Bool)
  | .int f _ _ => if (uintS l at_).2.2 = 0 then (if (uintS l at_).1 > 1099511627776 then .inr (f.set s 0, (uintS l at_).2.1, true) else .inr (f.set s (uintS l at_).1, (uintS l at_).2.1, lg)) else .inl (uintS l at_).2.2
  | .addr f _ => if (seqS l at_ 15).2.2 = 0 then .inr (f.set s (strOfNums (seqS l at_ 15).1), (seqS l at_ 15).2.1, lg) else .inl (seqS l at_ 15).2.2
  | .bool f => if at_ ≥ (l.length : Int) then .inl 10 else if rd l at_ > 1 then .inl 110 else .inr (f.set s (rd l at_ == 1), at_ + 1, lg)
def Gt (rb X : Nat) (A : Option Addr) (c n : Nat) (w : World) (e : Ending) (w' : World) : Int ⊕ (Sig × Int × Bool) → Prop
  | .inl er => e = fail er ∧ Below rb w w'
  | .inr (s, at_, lg) => e = .returned (.tuple #[]) ∧ Rd w' rb A c n at_ lg ∧ At w' X s ∧ Below rb w w'

theorem Rd.far {w : World} {rb X : Nat} {A : Option Addr} {c n : Nat} {at_ : Int} {lg : Bool} (h : Rd w rb A c n at_ lg) (hn : rb ≠ X) (o : Nat) (v : Value) : Rd (w.setCell ⟨X, o, none⟩ v) rb A c n at_ lg := (Below.heap_setCell w ⟨X, o, none⟩ v rb hn).trans h
theorem At.ch {w w' : World} {b X : Nat} {s : Sig} (h : At w X s) (hc : Ch b w w') (hn : X ≠ b) : At w' X s := h.blk (hc.keep X hn h.lt)
theorem Ch.far {b X : Nat} {w w' : World} (h : Ch b w w') (hx : b ≤ X) (o : Nat) (v : Value) : Below b w (w'.setCell ⟨X, o, none⟩ v) := Below.setCell (p := ⟨X, o, none⟩) h.below hx v
theorem uint_pos {l : List Int} {at_ v nx : Int} (hb : Bytes l) (h : uintS l at_ = (v, nx, 0)) : 0 ≤ v := by
  obtain ⟨n, _, rfl, _⟩ := uint_canon hb h
  omega

section
variable (rb X bo : Nat) (ok : Nat → Prop) (A : Option Addr) (c : Nat) (l : List Int) (at_ : Int) (lg : Bool) (s : Sig) (w : World)
  (h : Rd w rb A c l.length at_ lg) (hX : At w X s) (hlt : rb < X) (hC : Kd.C (Kd.int .u8) w A l.length l) (hc : l.length ≤ c) (hb : Bytes l) (hl : l.length ≤ 140737488351232)
include h hX hlt hC hc hb hl
set_option maxHeartbeats 4000000 in
theorem int_get (f : IF) (lo hi : Int) (ho : Bx ok w bo (.func (.func f.fn) #[] #[]) 69) :
    Calls Try.prog 45 #[pt rb, pt X, pt bo] w fun e w' => Gt rb X A c l.length w e w' (Fd.read l at_ lg s (.int f lo hi)) := by
  have ho := ho.cell
  have eg := ienters f
  have HX := Aside0.mk hX
  have HT := Aside0.mk hlt
  obtain ⟨v, nx, er, hu⟩ : ∃ v nx er, uintS l at_ = (v, nx, er) := ⟨_, _, _, rfl⟩
  unfold Fd.read
  rw [hu]
  dsimp only
  by_cases he : er = 0
  · subst he
    by_cases hv : v > 1099511627776
    · have HI := Aside0.mk (rint_big rb A c l at_ lg w h hC hc hb hl v nx hu hv)
      rw [if_pos rfl, if_pos hv]
      unfold pt at HI ⊢
      clear h hX hlt hC hc hb hl hu hv
      go_enter Try.func45, Try.ntmps45
      go_wp2_with (first | (go_at_call 46; refine HI.out.mono ?_; rintro e w1 ⟨rfl, hr, hch⟩; have HR1 := Aside0.mk hr; have HC1 := Aside0.mk hch; have HX1 := Aside0.mk (HX.out.ch hch (by have := HT.out; omega)); have q1 := HX1.out.int f; have q2 := HX1.out.frozen; clear hr hch) | ((with_reducible refine (igetter f X _).mono ?_); rintro e w' ⟨rfl, hw⟩; replace hw := hw.symm; subst hw))
      go_end0
      exact ⟨rfl, HR1.out.far (by have := HT.out; omega) _ _, HX1.out.setI f 0, HC1.out.far (Nat.le_of_lt HT.out) _ _⟩
    · have HI := Aside0.mk (rint_ok rb A c l at_ lg w h hC hc hb hl v nx hu (uint_pos hb hu) (by omega))
      rw [if_pos rfl, if_neg hv]
      unfold pt at HI ⊢
      clear h hX hlt hC hc hb hl hu hv
      go_enter Try.func45, Try.ntmps45
      go_wp2_with (first | (go_at_call 46; refine HI.out.mono ?_; rintro e w1 ⟨rfl, hr, hch⟩; have HR1 := Aside0.mk hr; have HC1 := Aside0.mk hch; have HX1 := Aside0.mk (HX.out.ch hch (by have := HT.out; omega)); have q1 := HX1.out.int f; have q2 := HX1.out.frozen; clear hr hch) | ((with_reducible refine (igetter f X _).mono ?_); rintro e w' ⟨rfl, hw⟩; replace hw := hw.symm; subst hw))
      go_end0
      exact ⟨rfl, HR1.out.far (by have := HT.out; omega) _ _, HX1.out.setI f v, HC1.out.far (Nat.le_of_lt HT.out) _ _⟩
  · have HI := Aside0.mk (rint_err rb A c l at_ lg w h hC hc hb hl v nx er hu he)
    have hrb := (Array.getElem?_eq_some_iff.1 h).1
    have HB := Aside0.mk hrb
    rw [if_neg he]
    unfold pt at HI ⊢
    unfold fail at HI
    clear h hX hlt hC hc hb hl hu he hrb
    go_enter Try.func45, Try.ntmps45
    go_wp2_with (first | (go_at_call 46; refine HI.out.mono ?_; rintro e w1 ⟨rfl, hb⟩; have HB1 := Aside0.mk hb; clear hb) | ((with_reducible refine (igetter f X _).mono ?_); rintro e w' ⟨rfl, hw⟩; replace hw := hw.symm; subst hw))
    exact ⟨rfl, rfl, HB1.out.mono (Nat.le_of_lt HB.out)⟩

set_option maxHeartbeats 4000000 in
theorem addr_get (f : SF) (g : EF) (ho : Bx ok w bo (.func (.func f.fn) #[] #[]) 72) :
    Calls Try.prog 52 #[pt rb, pt X, pt bo] w fun e w' => Gt rb X A c l.length w e w' (Fd.read l at_ lg s (.addr f g)) := by
  have ho := ho.cell
  have eg := senters f
  have HX := Aside0.mk hX
  have HT := Aside0.mk hlt
  obtain ⟨v, nx, er, hu⟩ : ∃ v nx er, seqS l at_ 15 = (v, nx, er) := ⟨_, _, _, rfl⟩
  unfold Fd.read
  rw [hu]
  dsimp only
  by_cases he : er = 0
  · subst he
    have HI := Aside0.mk (rtext_ok rb A c l at_ lg w h hC hc hb hl v nx hu)
    rw [if_pos rfl]
    unfold pt at HI ⊢
    clear h hX hlt hC hc hb hl hu
    go_enter Try.func52, Try.ntmps52
    go_wp2_with (first | (go_at_call 53; refine HI.out.mono ?_; rintro e w1 ⟨rfl, hr, hch⟩; have HR1 := Aside0.mk hr; have HC1 := Aside0.mk hch; have HX1 := Aside0.mk (HX.out.ch hch (by have := HT.out; omega)); have q1 := HX1.out.str f; have q2 := HX1.out.frozen; clear hr hch) | ((with_reducible refine (sgetter f X _).mono ?_); rintro e w' ⟨rfl, hw⟩; replace hw := hw.symm; subst hw))
    go_end0
    exact ⟨rfl, HR1.out.far (by have := HT.out; omega) _ _, HX1.out.setS f _, HC1.out.far (Nat.le_of_lt HT.out) _ _⟩
  · have HI := Aside0.mk (rtext_err rb A c l at_ lg w h hC hc hb hl v nx er hu he)
    have hrb := (Array.getElem?_eq_some_iff.1 h).1
    have HB := Aside0.mk hrb
    rw [if_neg he]
    unfold pt at HI ⊢
    unfold fail at HI
    clear h hX hlt hC hc hb hl hu he hrb
    go_enter Try.func52, Try.ntmps52
    go_wp2_with (first | (go_at_call 53; refine HI.out.mono ?_; rintro e w1 ⟨rfl, hb⟩; have HB1 := Aside0.mk hb; clear hb) | ((with_reducible refine (sgetter f X _).mono ?_); rintro e w' ⟨rfl, hw⟩; replace hw := hw.symm; subst hw))
    exact ⟨rfl, rfl, HB1.out.mono (Nat.le_of_lt HB.out)⟩

set_option maxHeartbeats 4000000 in
theorem bool_get (f : BF) (ho : Bx ok w bo (.func (.func f.fn) #[] #[]) 75) (h0 : 0 ≤ at_) :
    Calls Try.prog 57 #[pt rb, pt X, pt bo] w fun e w' => Gt rb X A c l.length w e w' (Fd.read l at_ lg s (.bool f)) := by
  have _ := hc
  have _ := hb
  have ho := ho.cell
  have eg := benters f
  have HX := Aside0.mk hX
  have HT := Aside0.mk hlt
  have hrb := (Array.getElem?_eq_some_iff.1 h).1
  have HB := Aside0.mk hrb
  unfold Fd.read
  dsimp only
  by_cases he : at_ ≥ (l.length : Int)
  · have HI := Aside0.mk (rbool_end rb A c l.length at_ lg w h he)
    rw [if_pos he]
    unfold pt at HI ⊢
    unfold fail at HI
    clear h hX hlt hC hc hb hl he hrb h0
    go_enter Try.func57, Try.ntmps57
    go_wp2_with (first | (go_at_call 58; refine HI.out.mono ?_; rintro e w1 ⟨rfl, hb⟩; have HB1 := Aside0.mk hb; clear hb) | ((with_reducible refine (bgetter f X _).mono ?_); rintro e w' ⟨rfl, hw⟩; replace hw := hw.symm; subst hw))
    exact ⟨rfl, rfl, HB1.out.mono (Nat.le_of_lt HB.out)⟩
  · rw [if_neg he]
    by_cases h2 : rd l at_ > 1
    · have HI := Aside0.mk (rbool_big rb A c l at_ lg w h hC h0 (by omega) hl h2)
      rw [if_pos h2]
      unfold pt at HI ⊢
      unfold fail at HI
      clear h hX hlt hC hc hb hl he hrb h0 h2
      go_enter Try.func57, Try.ntmps57
      go_wp2_with (first | (go_at_call 58; refine HI.out.mono ?_; rintro e w1 ⟨rfl, hb⟩; have HB1 := Aside0.mk hb; clear hb) | ((with_reducible refine (bgetter f X _).mono ?_); rintro e w' ⟨rfl, hw⟩; replace hw := hw.symm; subst hw))
      exact ⟨rfl, rfl, HB1.out⟩
    · have HI := Aside0.mk (rbool_ok rb A c l at_ lg w h hC h0 (by omega) hl (by omega))
      rw [if_neg h2]
      unfold pt at HI ⊢
      clear h hX hlt hC hc hb hl he hrb h0 h2
      go_enter Try.func57, Try.ntmps57
      go_wp2_with (first | (go_at_call 58; refine HI.out.mono ?_; rintro e w1 ⟨rfl, hr, hch⟩; have HR1 := Aside0.mk hr; have HC1 := Aside0.mk hch; have HX1 := Aside0.mk (HX.out.ch hch (by have := HT.out; omega)); have q1 := HX1.out.bool f; have q2 := HX1.out.frozen; clear hr hch) | ((with_reducible refine (bgetter f X _).mono ?_); rintro e w' ⟨rfl, hw⟩; replace hw := hw.symm; subst hw))
      go_end0
      exact ⟨rfl, HR1.out.far (by have := HT.out; omega) _ _, HX1.out.setB f _, HC1.out.far (Nat.le_of_lt HT.out) _ _⟩

theorem fd_get {d : Fd} {x : SFd} (hf : FOk ok w d x) (h0 : 0 ≤ at_) : Calls Try.prog x.f2.fn (#[pt rb, pt X] ++ x.f2.cap) w fun e w' => Gt rb X A c l.length w e w' (d.read l at_ lg s) := by
  cases d with
  | int f lo hi => obtain ⟨bo, bf, bt, h1, h2, h3, rfl⟩ := hf; exact int_get rb X bo ok A c l at_ lg s w h hX hlt hC hc hb hl f lo hi h1
  | addr f e => obtain ⟨bo, be, h1, h2, rfl⟩ := hf; exact addr_get rb X bo ok A c l at_ lg s w h hX hlt hC hc hb hl f e h1
  | bool f => obtain ⟨bo, h1, rfl⟩ := hf; exact bool_get rb X bo ok A c l at_ lg s w h hX hlt hC hc hb hl f h1 h0
end
theorem fd_enters2 {w : World} {ok : Nat → Prop} {d : Fd} {x : SFd} (hf : FOk ok w d x) : ∀ args W, (callFunc x.f2.fn args).run Try.prog W = .ok (.enter x.f2.fn args) W := by
  cases d with
  | int f lo hi => obtain ⟨bo, bf, bt, h1, h2, h3, rfl⟩ := hf; exact enters_of Try.func45 (by kernel_rfl) rfl
  | addr f e => obtain ⟨bo, be, h1, h2, rfl⟩ := hf; exact enters_of Try.func52 (by kernel_rfl) rfl
  | bool f => obtain ⟨bo, h1, rfl⟩ := hf; exact enters_of Try.func57 (by kernel_rfl) rfl
end Go.Proofs.Ytmpjcpkfnjnejaa.Iq
