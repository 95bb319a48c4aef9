/-
  isup.Check, by hand.
-/
import Derived.Test.YtmpjcpkfnjnejaaIq2
import Derived.Test.YtmpjcpkfnjnejaaIq4
namespace Go.Proofs.Ytmpjcpkfnjnejaa.Iq
open Go.RowKit Go.Shelf Go.Proofs.YtmpjcpkfnjnejaaW.PrintWords Go.Proofs.YtmpjcpkfnjnejaaW.PrintLast Go.Proofs.YtmpjcpkfnjnejaaW.PrintMore Go.Proofs.Ytmpjcpkfnjnejaa.Is
set_option linter.unusedVariables false
set_option linter.unusedSimpArgs false

theorem eqSig (d : Nat) (w : World) (x0 y0 : Int) (x1 y1 : Int) (x2 y2 : Int) (x3 y3 : Int) (x4 y4 : Int) (x5 y5 : ByteArray) (x6 y6 : ByteArray) (x7 y7 : ByteArray) (x8 y8 : Bool) (x9 y9 : Bool) :
    (Op.equalIn (d + 2) 23 (.agg #[.int .i64 x0, .int .i64 x1, .int .i64 x2, .int .i64 x3, .int .i64 x4, .string x5, .string x6, .string x7, .bool x8, .bool x9]) (.agg #[.int .i64 y0, .int .i64 y1, .int .i64 y2, .int .i64 y3, .int .i64 y4, .string y5, .string y6, .string y7, .bool y8, .bool y9])).run Try.prog w = .ok (x0 == y0 && (x1 == y1 && (x2 == y2 && (x3 == y3 && (x4 == y4 && (x5.toList == y5.toList && (x6.toList == y6.toList && (x7.toList == y7.toList && (x8 == y8 && (x9 == y9)))))))))) w := by
  refine eqA_of Try.underlying23 (by kernel_rfl) ?_
  refine eqf_cons (by rfl) (by go_simp; rfl) (by go_simp; rfl) (by go_simp) ?_
  refine eqf_cons (by rfl) (by go_simp; rfl) (by go_simp; rfl) (by go_simp) ?_
  refine eqf_cons (by rfl) (by go_simp; rfl) (by go_simp; rfl) (by go_simp) ?_
  refine eqf_cons (by rfl) (by go_simp; rfl) (by go_simp; rfl) (by go_simp) ?_
  refine eqf_cons (by rfl) (by go_simp; rfl) (by go_simp; rfl) (by go_simp) ?_
  refine eqf_cons (by rfl) (by go_simp; rfl) (by go_simp; rfl) (by go_simp) ?_
  refine eqf_cons (by rfl) (by go_simp; rfl) (by go_simp; rfl) (by go_simp) ?_
  refine eqf_cons (by rfl) (by go_simp; rfl) (by go_simp; rfl) (by go_simp) ?_
  refine eqf_cons (by rfl) (by go_simp; rfl) (by go_simp; rfl) (by go_simp) ?_
  exact eqf_last (by rfl) (by go_simp; rfl) (by go_simp; rfl) (by go_simp)
attribute [local go_sem high] eqSig

/-! ### what Check computes -/
def clrAll (l : List Fd) (s : Sig) : Sig := l.foldl (fun s d => d.clr s) s
/-- Nothing is left but the kind. -/
def bare (s : Sig) : Bool := s.kind == s.kind && (s.circuit == 0 && (s.ref == 0 && (s.hops == 0 && (s.cause == 0 && (s.called.toList == noStr.toList && (s.calling.toList == noStr.toList && (s.digits.toList == noStr.toList && (s.emergency == false && (s.reverse == false)))))))))
def validS_ (s : Sig) : Bool := known s.kind && ((fieldsS s.kind).all (Fd.ok s) && bare (clrAll (fieldsS s.kind) s))
def checkS (s : Sig) : Int := if validS_ s then 0 else 110

theorem fields_calls (kind : Int) (w : World) (h : known kind = true) : Calls Try.prog 17 #[.int .i64 kind] w fun e w' => Fo w e w' (fieldsS kind) := by
  unfold known at h
  simp only [Bool.and_eq_true, decide_eq_true_eq] at h
  by_cases h8 : kind ≤ 8
  · exact fields_many kind w h.1 h8
  · exact fields_one kind w (by omega) h.2
theorem fields_pos (kind : Int) : 0 < (fieldsS kind).length := by unfold fieldsS; split <;> simp
theorem fields_le (kind : Int) : (fieldsS kind).length ≤ 6 := by
  unfold fieldsS
  split
  · simp
  · have := moreS_len kind; simp only [List.length_append, List.length_cons, List.length_nil]; omega

/-! ### the closures of a field, whichever it is -/
variable {w : World} {S : Nat} {s : Sig} {ok : Nat → Prop} {d : Fd} {x : SFd}
theorem fd_valid (hs : At w S s) (hf : FOk ok w d x) : Calls Try.prog x.f0.fn (#[pt S] ++ x.f0.cap) w fun e w' => e = .returned (.bool (d.ok s)) ∧ Below w.heap.size w w' := by
  cases d with
  | int f lo hi => obtain ⟨bo, bf, bt, h1, h2, h3, rfl⟩ := hf; exact int_valid f lo hi S bo bf bt ok s w hs h1 h2 h3
  | addr f e => obtain ⟨bo, be, h1, h2, rfl⟩ := hf; exact addr_valid f e S bo be ok s w hs h1 h2
  | bool f => obtain ⟨bo, h1, rfl⟩ := hf; exact (bool_valid S w).mono (by rintro e w' ⟨rfl, rfl⟩; exact ⟨rfl, Below.refl _ _⟩)
theorem fd_enters0 (hf : FOk ok w d x) : ∀ args W, (callFunc x.f0.fn args).run Try.prog W = .ok (.enter x.f0.fn args) W := by
  cases d with
  | int f lo hi => obtain ⟨bo, bf, bt, h1, h2, h3, rfl⟩ := hf; exact enters_of Try.func42 (by kernel_rfl) rfl
  | addr f e => obtain ⟨bo, be, h1, h2, rfl⟩ := hf; exact enters_of Try.func48 (by kernel_rfl) rfl
  | bool f => obtain ⟨bo, h1, rfl⟩ := hf; exact enters_of Try.func55 (by kernel_rfl) rfl
/-- What a clear leaves. -/
structure Cl (S : Nat) (w w' : World) (t : Sig) : Prop where
  at_ : At w' S t
  size : w'.heap.size = w.heap.size
  blk : ∀ k, k ≠ S → w'.heap[k]? = w.heap[k]?
  below : ∀ B, B ≤ S → Below B w w'
theorem cl_set {v : Value} {o : Nat} {t : Sig} (h : At (w.setCell ⟨S, o, none⟩ v) S t) : Cl S w (w.setCell ⟨S, o, none⟩ v) t :=
  ⟨h, by simp, fun k hk => Below.heap_setCell w ⟨S, o, none⟩ v k hk, fun B hB => Below.setCell (p := ⟨S, o, none⟩) (Below.refl B w) hB v⟩
theorem fd_clear (hs : At w S s) (hf : FOk ok w d x) : Calls Try.prog x.f3.fn (#[pt S] ++ x.f3.cap) w fun e w' => e = .returned (.tuple #[]) ∧ Cl S w w' (d.clr s) := by
  cases d with
  | int f lo hi => obtain ⟨bo, bf, bt, h1, h2, h3, rfl⟩ := hf; exact (int_clear f S bo ok s w hs h1).mono (by rintro e w' ⟨rfl, rfl⟩; exact ⟨rfl, cl_set (hs.setI f 0)⟩)
  | addr f e => obtain ⟨bo, be, h1, h2, rfl⟩ := hf; exact (addr_clear f S bo ok s w hs h1).mono (by rintro e w' ⟨rfl, rfl⟩; exact ⟨rfl, cl_set (hs.setS f noStr)⟩)
  | bool f => obtain ⟨bo, h1, rfl⟩ := hf; exact (bool_clear f S bo ok s w hs h1).mono (by rintro e w' ⟨rfl, rfl⟩; exact ⟨rfl, cl_set (hs.setB f false)⟩)
theorem fd_enters3 (hf : FOk ok w d x) : ∀ args W, (callFunc x.f3.fn args).run Try.prog W = .ok (.enter x.f3.fn args) W := by
  cases d with
  | int f lo hi => obtain ⟨bo, bf, bt, h1, h2, h3, rfl⟩ := hf; exact enters_of Try.func47 (by kernel_rfl) rfl
  | addr f e => obtain ⟨bo, be, h1, h2, rfl⟩ := hf; exact enters_of Try.func54 (by kernel_rfl) rfl
  | bool f => obtain ⟨bo, h1, rfl⟩ := hf; exact enters_of Try.func59 (by kernel_rfl) rfl

/-! ### a list of fields while the message's block S is written -/
def zF : SFd := ⟨⟨0, #[]⟩, ⟨0, #[]⟩, ⟨0, #[]⟩, ⟨0, #[]⟩⟩
structure Ls (S : Nat) (w : World) (A : Option Addr) (c : Nat) (l : List Fd) (xs : List SFd) : Prop where
  r : Kd.R kF 51 w 0 (fun k => k ≠ S) (.slice A xs.length c) xs
  f : F2 (FOk (fun k => k ≠ S) w) l xs
theorem Ls.keep {w' : World} {A : Option Addr} {c : Nat} {l : List Fd} {xs : List SFd} (h : Ls S w A c l xs) (hk : ∀ k, k ≠ S → k < w.heap.size → w'.heap[k]? = w.heap[k]?) : Ls S w' A c l xs :=
  ⟨Kd.R_step h.r hk, h.f.imp (fun _ _ hf => hf.keep hk)⟩
theorem Ls.cell {A : Option Addr} {c : Nat} {l : List Fd} {xs : List SFd} (h : Ls S w A c l xs) (i : Int) (h0 : 0 ≤ i) (h1 : i < (xs.length : Int)) :
    ∃ ad, A = some ad ∧ w.cell? (ad.add (i.toNat * 4)) = some (.func (.func (xs.getD i.toNat zF).f0.fn) #[] (xs.getD i.toNat zF).f0.cap) ∧ w.cell? ⟨(ad.add (i.toNat * 4)).block, (ad.add (i.toNat * 4)).off + 1, none⟩ = some (.func (.func (xs.getD i.toNat zF).f1.fn) #[] (xs.getD i.toNat zF).f1.cap) ∧ w.cell? ⟨(ad.add (i.toNat * 4)).block, (ad.add (i.toNat * 4)).off + 2, none⟩ = some (.func (.func (xs.getD i.toNat zF).f2.fn) #[] (xs.getD i.toNat zF).f2.cap) ∧ w.cell? ⟨(ad.add (i.toNat * 4)).block, (ad.add (i.toNat * 4)).off + 3, none⟩ = some (.func (.func (xs.getD i.toNat zF).f3.fn) #[] (xs.getD i.toNat zF).f3.cap) := by
  obtain ⟨_, _, hC⟩ := Kd.R_reads' h.r
  obtain ⟨ad, c, e, _, hK, hc0⟩ := Kd.C_get hC zF i h0 h1
  have hc : ∀ j u, c[j]? = some u → w.cell? (ad.add (i.toNat * 4 + j)) = some u := hc0
  obtain rfl := kF_open hK
  exact ⟨ad, e, hc 0 _ rfl, by rw [← add_field _ _ 1 (by omega)]; exact hc 1 _ rfl, by rw [← add_field _ _ 2 (by omega)]; exact hc 2 _ rfl, by rw [← add_field _ _ 3 (by omega)]; exact hc 3 _ rfl⟩
theorem Ls.get {A : Option Addr} {c : Nat} {l : List Fd} {xs : List SFd} (h : Ls S w A c l xs) {i : Nat} (hi : i < xs.length) : ∃ d, l[i]? = some d ∧ FOk (fun k => k ≠ S) w d (xs.getD i zF) := by
  have hl : i < l.length := by rw [h.f.len]; exact hi
  obtain ⟨b, hb, hf⟩ := h.f.get i l[i] (List.getElem?_eq_getElem hl)
  refine ⟨l[i], List.getElem?_eq_getElem hl, ?_⟩
  rw [List.getD_eq_getElem?_getD, hb]
  exact hf
theorem all_take {l : List Fd} {i : Nat} {d : Fd} (h : l[i]? = some d) (p : Fd → Bool) : (l.take (i + 1)).all p = ((l.take i).all p && p d) := by
  rw [List.take_add_one, h]
  simp
theorem clr_take {l : List Fd} {i : Nat} {d : Fd} (h : l[i]? = some d) (s : Sig) : clrAll (l.take (i + 1)) s = d.clr (clrAll (l.take i) s) := by
  unfold clrAll
  rw [List.take_add_one, h]
  simp
theorem clr_kind (d : Fd) (s : Sig) : (d.clr s).kind = s.kind := by
  cases d with
  | int f _ _ => cases f <;> rfl
  | addr f _ => cases f <;> rfl
  | bool f => cases f <;> rfl
theorem clrAll_kind (l : List Fd) (s : Sig) : (clrAll l s).kind = s.kind := by
  induction l generalizing s with
  | nil => rfl
  | cons d l ih => exact (ih (d.clr s)).trans (clr_kind d s)

set_option maxHeartbeats 4000000 in
theorem check_bad (s : Sig) (w : World) (h : known s.kind = false) : Calls Try.prog 12 #[.agg s.cells] w fun e w' => e = .returned (.int .i64 110) ∧ Below w.heap.size w w' := by
  unfold Sig.cells
  have HK := Aside0.mk h
  clear h
  go_enter Try.func12, Try.ntmps12
  go_wp2_with (go_at_call 17; refine (fields_bad _ _ HK.out).mono ?_; rintro e w1 ⟨rfl, hb⟩; have HB := Aside0.mk (below_step (below_alloc (Below.refl _ _) _) hb); clear hb)
  go_ret
  exact ⟨rfl, HB.out⟩

set_option maxHeartbeats 8000000 in
set_option maxRecDepth 100000 in
theorem check_good (s : Sig) (w : World) (h : known s.kind = true) : Calls Try.prog 12 #[.agg s.cells] w fun e w' => e = .returned (.int .i64 (checkS s)) ∧ Below w.heap.size w w' := by
  have HK := Aside0.mk h
  clear h
  have hcells : s.cells = #[.int .i64 s.kind, .int .i64 s.circuit, .int .i64 s.ref, .int .i64 s.hops, .int .i64 s.cause, .string s.called, .string s.calling, .string s.digits, .bool s.emergency, .bool s.reverse] := rfl
  rw [hcells]
  clear hcells
  go_enter Try.func12, Try.ntmps12
  go_wp2_with (go_at_call 17; refine (fields_calls _ _ HK.out).mono ?_; rintro e w1 ⟨v, xs, rfl, hr, hf, hb⟩; have hp := fields_pos s.kind; rw [hf.len] at hp; obtain ⟨ad, c, rfl⟩ := Kd.R_slice1 hr hp; have HR := Aside0.mk hr; have HF := Aside0.mk hf; have HB := Aside0.mk hb; clear hr hf hb hp)
  have HS := Aside0.mk (At.below (S := w.heap.size) (s := s) (w := w.alloc (.cells s.cells 23)) (hp_new rfl) HB.out)
  have HL := Aside0.mk (show Ls w.heap.size w1 (some ad) c (fieldsS s.kind) xs from ⟨Kd.R_lower (Kd.R_mono (Kd.R_bound HR.out) (fun k hk => by have := hk.2.1; rw [World.size_alloc] at this; omega)) (Nat.zero_le _), HF.out.imp (fun _ _ hf => hf.mono (fun k hk _ => by rw [World.size_alloc] at hk; omega))⟩)
  have HW := Aside0.mk (below_step (below_alloc (Below.refl _ _) _) HB.out)
  have HN := Aside0.mk (show xs.length ≤ 6 from by rw [← HF.out.len]; exact fields_le _)
  clear HR HF HB
  go_loopg [4, 19] xs.length (fun kq v4 v19 w' => ∃ i : Nat, i + kq = xs.length ∧ v19 = .int .i64 (i : Int) ∧ v4 = .bool (((fieldsS s.kind).take i).all (Fd.ok s)) ∧ Aside0 (Below w1.heap.size w1 w'))
  case atStart => exact ⟨0, by omega, rfl, rfl, ⟨Below.refl _ _⟩⟩
  case round =>
    obtain ⟨i, hi, rfl, rfl, HB1⟩ := hrel
    cases gk with
    | zero =>
      have hall : (fieldsS s.kind).take i = fieldsS s.kind := List.take_of_length_le (by rw [HL.out.f.len]; omega)
      rw [hall]
      clear hall
      have hlt : decide ((i : Int) < (xs.length : Int)) = false := decide_eq_false (by omega)
      have hlu : decide (i < xs.length) = false := decide_eq_false (by omega)
      have HS3 := Aside0.mk (HS.out.below HB1.out)
      have HL3 := Aside0.mk (HL.out.keep (fun k _ hk => HB1.out.block k hk))
      have HW3 := Aside0.mk (below_step HW.out HB1.out)
      clear HS HL HW HB1
      go_wp2
      clear hi hlt hlu
      go_loopg [32] xs.length (fun kq v32 w' => ∃ j : Nat, j + kq = xs.length ∧ v32 = .int .i64 (j : Int) ∧ Aside0 (At w' w.heap.size (clrAll ((fieldsS s.kind).take j) s)) ∧ Aside0 (Ls w.heap.size w' (some ad) c (fieldsS s.kind) xs) ∧ Aside0 (Below w.heap.size w w'))
      case atStart => exact ⟨0, by omega, rfl, HS3, HL3, HW3⟩
      case round =>
        obtain ⟨j, hj, rfl, HS2, HL2, HB2⟩ := hrel
        cases gk with
        | zero =>
          have hall : (fieldsS s.kind).take j = fieldsS s.kind := List.take_of_length_le (by rw [HL2.out.f.len]; omega)
          rw [hall] at HS2
          clear hall
          have hlt : decide ((j : Int) < (xs.length : Int)) = false := decide_eq_false (by omega)
          have hlu : decide (j < xs.length) = false := decide_eq_false (by omega)
          obtain ⟨t, ht⟩ : ∃ t, t = clrAll (fieldsS s.kind) s := ⟨_, rfl⟩
          rw [← ht] at HS2
          have HT := Aside0.mk ht
          clear ht
          obtain ⟨b, hb⟩ : ∃ b, b = (fieldsS s.kind).all (Fd.ok s) := ⟨_, rfl⟩
          rw [← hb]
          have HBB := Aside0.mk hb
          clear hb
          have q0 := HS2.out.kind
          have q1 := HS2.out.int .circuit
          have q2 := HS2.out.int .ref
          have q3 := HS2.out.int .hops
          have q4 := HS2.out.int .cause
          have q5 := HS2.out.str .called
          have q6 := HS2.out.str .calling
          have q7 := HS2.out.str .digits
          have q8 := HS2.out.bool .emergency
          have q9 := HS2.out.bool .reverse
          simp only [IF.off, IF.get, SF.off, SF.get, BF.off, BF.get] at q1 q2 q3 q4 q5 q6 q7 q8 q9
          cases b
          · go_wp2
            go_ret
            refine ⟨?_, HB2.out⟩
            unfold checkS validS_
            rw [← HBB.out]
            simp
          · go_wp2
            · rename_i hh
              go_ret
              refine ⟨?_, HB2.out⟩
              have hb : bare t = false := by
                have hn : noStr.toList = [] := toList_nil.2 rfl
                unfold bare
                rw [hn]
                simp at hh ⊢
                intro a b c d e f g h
                simpa [a, b, c, d, e, f, g, h] using hh
              unfold checkS validS_
              rw [← HT.out, hb]
              simp
            · rename_i hh
              go_ret
              refine ⟨?_, HB2.out⟩
              have hb : bare t = true := by
                have hn : noStr.toList = [] := toList_nil.2 rfl
                unfold bare
                rw [hn]
                simp at hh ⊢
                exact hh
              unfold checkS validS_
              rw [← HT.out, ← HBB.out, HK.out, hb]
              rfl
        | succ k2 =>
          obtain ⟨d, hd, hf⟩ := HL2.out.get (i := j) (by omega)
          obtain ⟨ad', e, c0, c1, c2, c3⟩ := HL2.out.cell (j : Int) (by omega) (by omega)
          cases e
          rw [Int.toNat_natCast] at c0 c1 c2 c3
          have eg := fd_enters3 hf
          generalize xs.getD j zF = x at hf c0 c1 c2 c3 eg
          have HF2 := Aside0.mk hf
          have HD := Aside0.mk hd
          clear hf hd
          have hq : (j : Int) < (xs.length : Int) := by omega
          have hlt := decide_eq_true hq
          go_wp2_with (refine (fd_clear (HS2.out.below (below_alloc (Below.refl _ _) _)) (HF2.out.below (below_alloc (Below.refl _ _) _))).mono ?_; rintro e w3 ⟨rfl, hcl⟩; have HC := Aside0.mk hcl; clear hcl)
          go_roundg k2
          case measure => omega
          case rel =>
            exact ⟨j + 1, by omega, by have e1 : wrap64 ((j : Int) + 1) = ((j + 1 : Nat) : Int) := (by have := HN.out; unfold wrap64; omega); rw [e1], ⟨by rw [clr_take HD.out]; exact HC.out.at_⟩, ⟨(HL2.out.keep (fun k _ hk => Below.heap_alloc _ _ k hk)).keep (fun k hk _ => HC.out.blk k hk)⟩, ⟨(below_step HB2.out (below_alloc (Below.refl _ _) _)).trans (HC.out.below _ (Nat.le_refl _))⟩⟩
    | succ k1 =>
      have hL2 := HL.out.keep (fun k _ hk => HB1.out.block k hk)
      have HS2 := Aside0.mk (HS.out.below HB1.out)
      obtain ⟨d, hd, hf⟩ := hL2.get (i := i) (by omega)
      obtain ⟨ad', e, c0, c1, c2, c3⟩ := hL2.cell (i : Int) (by omega) (by omega)
      cases e
      rw [Int.toNat_natCast] at c0 c1 c2 c3
      have eg := fd_enters0 hf
      generalize xs.getD i zF = x at hf c0 c1 c2 c3 eg
      have HF2 := Aside0.mk hf
      have HD := Aside0.mk hd
      clear hL2 hf hd
      have hq : (i : Int) < (xs.length : Int) := by omega
      have hlt := decide_eq_true hq
      by_cases hb : ((fieldsS s.kind).take i).all (Fd.ok s) = true
      · rw [hb]
        have HA := Aside0.mk hb
        clear hb
        go_wp2_with (refine (fd_valid (HS2.out.below (below_alloc (Below.refl _ _) _)) (HF2.out.below (below_alloc (Below.refl _ _) _))).mono ?_; rintro e w3 ⟨rfl, hb⟩; have HB3 := Aside0.mk hb; clear hb)
        go_roundg k1
        case measure => omega
        case rel =>
          have e1 : wrap64 ((i : Int) + 1) = ((i + 1 : Nat) : Int) := by have := HN.out; unfold wrap64; omega
          exact ⟨i + 1, by omega, by rw [e1], by rw [all_take HD.out, HA.out, Bool.true_and], ⟨below_step (below_step HB1.out (below_alloc (Below.refl _ _) _)) HB3.out⟩⟩
      · have hb := Bool.eq_false_iff.2 hb
        rw [hb]
        have HA := Aside0.mk hb
        clear hb
        go_wp2
        go_roundg k1
        case measure => omega
        case rel =>
          have e1 : wrap64 ((i : Int) + 1) = ((i + 1 : Nat) : Int) := by have := HN.out; unfold wrap64; omega
          exact ⟨i + 1, by omega, by rw [e1], by rw [all_take HD.out, HA.out, Bool.false_and], ⟨below_step HB1.out (below_alloc (Below.refl _ _) _)⟩⟩

theorem check_calls (s : Sig) (w : World) : Calls Try.prog 12 #[.agg s.cells] w fun e w' => e = .returned (.int .i64 (checkS s)) ∧ Below w.heap.size w w' := by
  cases h : known s.kind
  · have e : checkS s = 110 := by unfold checkS validS_; rw [h]; rfl
    rw [e]
    exact check_bad s w h
  · exact check_good s w h
end Go.Proofs.Ytmpjcpkfnjnejaa.Iq
