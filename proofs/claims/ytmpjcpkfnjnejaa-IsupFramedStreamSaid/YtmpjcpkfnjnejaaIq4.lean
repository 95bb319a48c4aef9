/-
  isup's fields, by hand: the list of a kind's fields.
-/
import Derived.Test.YtmpjcpkfnjnejaaIq3
namespace Go.Proofs.Ytmpjcpkfnjnejaa.Iq
open Go.RowKit Go.Shelf Go.Maps Go.Proofs.YtmpjcpkfnjnejaaW.PrintWords Go.Proofs.YtmpjcpkfnjnejaaW.PrintLast Go.Proofs.YtmpjcpkfnjnejaaW.PrintMore Go.Proofs.Ytmpjcpkfnjnejaa.Is
set_option linter.unusedVariables false
set_option linter.unusedSimpArgs false
variable {B : Nat} {w W W' : World} {Fs : List (Fd × SFd)} {Rs : List (Value × List SFd)} {n : Nat} {D : Dw}

def D4 (c1 c2 c4 c7 : Dw) : Dw := ((((DataW.map ([] : List (Lit × Dw))).put (.int .i64 1) c1).put (.int .i64 2) c2).put (.int .i64 4) c4).put (.int .i64 7) c7
theorem klit (k : Int) : WideAt.IsKeyLit (.int .i64 k) := by simp [WideAt.IsKeyLit]
theorem kne {a b : Int} (h : a ≠ b) : (Lit.int .i64 a) ≠ .int .i64 b := by
  intro e
  injection e with _ e
  exact h e
theorem D4_at (c1 c2 c4 c7 : Dw) (k : Int) : (D4 c1 c2 c4 c7).atKey (.int .i64 k) .nil = if k = 1 then c1 else if k = 2 then c2 else if k = 4 then c4 else if k = 7 then c7 else .nil := by
  unfold D4
  have i0 : IsMap (.map ([] : List (Lit × Dw))) := isMap_empty
  have i1 := i0.put (.int .i64 1) c1
  have i2 := i1.put (.int .i64 2) c2
  have i3 := i2.put (.int .i64 4) c4
  by_cases h7 : k = 7
  · subst h7
    rw [atKey_put_same i3 (klit 7)]
    rfl
  rw [atKey_put_other (kne h7)]
  by_cases h4 : k = 4
  · subst h4
    rw [atKey_put_same i2 (klit 4)]
    rfl
  rw [atKey_put_other (kne h4)]
  by_cases h2 : k = 2
  · subst h2
    rw [atKey_put_same i1 (klit 2)]
    rfl
  rw [atKey_put_other (kne h2)]
  by_cases h1 : k = 1
  · subst h1
    rw [atKey_put_same i0 (klit 1)]
    rfl
  rw [atKey_put_other (kne h1), if_neg h1, if_neg h2, if_neg h4, if_neg h7]
  rfl

inductive F2 (R : Fd → SFd → Prop) : List Fd → List SFd → Prop
  | nil : F2 R [] []
  | cons {a : Fd} {b : SFd} {l : List Fd} {m : List SFd} : R a b → F2 R l m → F2 R (a :: l) (b :: m)
theorem F2.imp {R R' : Fd → SFd → Prop} {l : List Fd} {m : List SFd} (h : F2 R l m) (hR : ∀ a b, R a b → R' a b) : F2 R' l m := by
  induction h with
  | nil => exact .nil
  | cons h _ ih => exact .cons (hR _ _ h) ih
theorem F2.append {R : Fd → SFd → Prop} {l l' : List Fd} {m m' : List SFd} (h : F2 R l m) (h' : F2 R l' m') : F2 R (l ++ l') (m ++ m') := by
  induction h with
  | nil => exact h'
  | cons h _ ih => exact .cons h ih
theorem F2.len {R : Fd → SFd → Prop} {l : List Fd} {m : List SFd} (h : F2 R l m) : l.length = m.length := by
  induction h with
  | nil => rfl
  | cons h _ ih => simp [ih]
theorem F2.get {R : Fd → SFd → Prop} {l : List Fd} {m : List SFd} (h : F2 R l m) : ∀ (i : Nat) (a : Fd), l[i]? = some a → ∃ b, m[i]? = some b ∧ R a b := by
  induction h with
  | nil => intro i a h; simp at h
  | cons h _ ih =>
    intro i a hi
    cases i with
    | zero => simp at hi; subst hi; exact ⟨_, rfl, h⟩
    | succ i => simp at hi; simpa using ih i a hi
/-- A list of fields in memory: read. -/
def Fr (ok : Nat → Prop) (W : World) (v : Value) (l : List Fd) : Prop := ∃ (xs : List SFd) (A : Option Addr) (c : Nat), v = .slice A xs.length c ∧ xs.length ≤ c ∧ kF.C W A xs.length xs ∧ F2 (FOk ok W) l xs
theorem Rv_cd {v : Value} {d : Dw} {ps : List MemPlace} (h : Rv v = some (d, ps)) : cdS v = some d := by
  unfold Rv at h
  cases hc : cdS v with
  | none => rw [hc] at h; simp at h
  | some x => rw [hc] at h; simp at h; rw [h.1]
theorem St.row (h : St B w W Fs Rs n D) {v : Value} {xs : List SFd} (hm : (v, xs) ∈ Rs) : ∃ (A : Option Addr) (c : Nat), v = .slice A xs.length c ∧ xs.length ≤ c ∧ kF.C W A xs.length xs := Kd.R_reads (h.r _ hm)
theorem look_row (h : St B w W Fs Rs n D) {c1 c2 c4 c7 : Dw} (hD : D = D4 c1 c2 c4 c7) {v1 v2 v4 v7 : Value} {sa sb sc sd s2 s4 s7 : SFd}
    (r1 : (v1, [sa, sb, sc, sd]) ∈ Rs) (e1 : cdS v1 = some c1) (r2 : (v2, [s2]) ∈ Rs) (e2 : cdS v2 = some c2) (r4 : (v4, [s4]) ∈ Rs) (e4 : cdS v4 = some c4) (r7 : (v7, [s7]) ∈ Rs) (e7 : cdS v7 = some c7)
    (fa : (Fd.int .hops 0 8, sa) ∈ Fs) (fb : (Fd.addr .called .emergency, sb) ∈ Fs) (fc : (Fd.addr .calling .always, sc) ∈ Fs) (fd : (Fd.bool .emergency, sd) ∈ Fs) (f2 : (Fd.addr .digits .never, s2) ∈ Fs) (f4 : (Fd.bool .reverse, s4) ∈ Fs) (f7 : (Fd.int .cause 1 127, s7) ∈ Fs)
    {v : Value} {ps : List MemPlace} {kind : Int} (hv : Rv v = some (D.atKey (.int .i64 kind) .nil, ps)) : Fr (fun k => w.heap.size ≤ k ∧ k ≠ B) W v (moreS kind) := by
  have hc := Rv_cd hv
  rw [hD, D4_at] at hc
  unfold moreS
  by_cases h1 : kind = 1
  · rw [if_pos h1] at hc ⊢
    obtain rfl := cdS_inj hc e1
    obtain ⟨A, c, e, hl, hC⟩ := h.row r1
    exact ⟨_, A, c, e, hl, hC, .cons (h.f _ fa) (.cons (h.f _ fb) (.cons (h.f _ fc) (.cons (h.f _ fd) .nil)))⟩
  rw [if_neg h1] at hc ⊢
  by_cases h2 : kind = 2
  · rw [if_pos h2] at hc ⊢
    obtain rfl := cdS_inj hc e2
    obtain ⟨A, c, e, hl, hC⟩ := h.row r2
    exact ⟨_, A, c, e, hl, hC, .cons (h.f _ f2) .nil⟩
  rw [if_neg h2] at hc ⊢
  by_cases h4 : kind = 4
  · rw [if_pos h4] at hc ⊢
    obtain rfl := cdS_inj hc e4
    obtain ⟨A, c, e, hl, hC⟩ := h.row r4
    exact ⟨_, A, c, e, hl, hC, .cons (h.f _ f4) .nil⟩
  rw [if_neg h4] at hc ⊢
  by_cases h7 : kind = 7
  · rw [if_pos h7] at hc ⊢
    obtain rfl := cdS_inj hc e7
    obtain ⟨A, c, e, hl, hC⟩ := h.row r7
    exact ⟨_, A, c, e, hl, hC, .cons (h.f _ f7) .nil⟩
  rw [if_neg h7] at hc ⊢
  have e0 : v = .slice none 0 0 := cdS_inj hc rfl
  exact ⟨[], none, 0, e0, Nat.le_refl _, (Kd.R_reads' (Kd.R_nil kF 51 W 0 (fun _ => True))).2.2, .nil⟩

theorem FOk.below {ok : Nat → Prop} {d : Fd} {s : SFd} (h : FOk ok W d s) (hb : Below W.heap.size W W') : FOk ok W' d s := h.keep (fun k _ hk => hb.block k hk)
theorem moreS_len (kind : Int) : (moreS kind).length ≤ 4 := by
  unfold moreS
  split
  · simp
  split
  · simp
  split
  · simp
  split <;> simp
theorem infoF : (Try.prog.info? 51).map (fun i => (i.zero, i.size, i.bytes)) = some (some (.agg #[.nilFunc, .nilFunc, .nilFunc, .nilFunc]), 4, 32) := by kernel_rfl
/-! ### the makers, as they are called -/
def Mk (d : Fd) (w : World) (e : Ending) (w' : World) : Prop := ∃ s, e = .returned (aggF s) ∧ FOk (fun k => w.heap.size ≤ k) w' d s ∧ Below w.heap.size w w'
theorem mk1 (w : World) : Calls Try.prog 24 #[.func (.func 25) #[] #[], .int .i64 0, .int .i64 47] w (Mk (.int .circuit 0 47) w) := integer_calls .circuit 0 47 w
theorem mk2 (x : Int) (w : World) : Calls Try.prog 24 #[.func (.func 26) #[] #[], .int .i64 x, .int .i64 1099511627776] w (Mk (.int .ref x 1099511627776) w) := integer_calls .ref x 1099511627776 w
theorem mk6 (w : World) : Calls Try.prog 24 #[.func (.func 30) #[] #[], .int .i64 0, .int .i64 8] w (Mk (.int .hops 0 8) w) := integer_calls .hops 0 8 w
theorem mk12 (w : World) : Calls Try.prog 24 #[.func (.func 38) #[] #[], .int .i64 1, .int .i64 127] w (Mk (.int .cause 1 127) w) := integer_calls .cause 1 127 w
theorem mk7 (w : World) : Calls Try.prog 31 #[.func (.func 32) #[] #[], .func (.func 29) #[] #[]] w (Mk (.addr .called .emergency) w) := address_calls .called .emergency w
theorem mk8 (w : World) : Calls Try.prog 31 #[.func (.func 33) #[] #[], .func (.func 28) #[] #[]] w (Mk (.addr .calling .always) w) := address_calls .calling .always w
theorem mk10 (w : World) : Calls Try.prog 31 #[.func (.func 36) #[] #[], .func (.func 27) #[] #[]] w (Mk (.addr .digits .never) w) := address_calls .digits .never w
theorem mk9 (w : World) : Calls Try.prog 34 #[.func (.func 35) #[] #[]] w (Mk (.bool .emergency) w) := boolean_calls .emergency w
theorem mk11 (w : World) : Calls Try.prog 34 #[.func (.func 37) #[] #[]] w (Mk (.bool .reverse) w) := boolean_calls .reverse w
def fc (s : SFd) : List Value := [.func (.func s.f0.fn) #[] s.f0.cap, .func (.func s.f1.fn) #[] s.f1.cap, .func (.func s.f2.fn) #[] s.f2.cap, .func (.func s.f3.fn) #[] s.f3.cap]

/-- What fields hands back for a known kind: a list of its own. -/
def Fo (w : World) (e : Ending) (w' : World) (l : List Fd) : Prop := ∃ (v : Value) (xs : List SFd), e = .returned (.tuple #[v, .bool true]) ∧ Kd.R kF 51 w' w.heap.size (fun _ => True) v xs ∧ F2 (FOk (fun k => w.heap.size ≤ k) w') l xs ∧ Below w.heap.size w w'

set_option maxHeartbeats 2000000 in
theorem fields_bad (kind : Int) (w : World) (h : known kind = false) : Calls Try.prog 17 #[.int .i64 kind] w fun e w' => e = .returned (.tuple #[.slice none 0 0, .bool false]) ∧ Below w.heap.size w w' := by
  unfold known at h
  by_cases h1 : kind < 1
  · clear h
    have h1b := decide_eq_true h1
    go_enter Try.func17, Try.ntmps17
    go_wp2
    exact bodyPost_ret (v := .tuple #[.slice none 0 0, .bool false]) (by simp [results, Try.results17, go_sem]) rfl ⟨rfl, Below.refl _ _⟩
  · have h2 : kind > 13 := by simp at h; omega
    clear h
    have h1b := decide_eq_false h1
    have h2b := decide_eq_true h2
    go_enter Try.func17, Try.ntmps17
    go_wp2
    exact bodyPost_ret (v := .tuple #[.slice none 0 0, .bool false]) (by simp [results, Try.results17, go_sem]) rfl ⟨rfl, Below.refl _ _⟩

set_option maxHeartbeats 2000000 in
theorem fields_one (kind : Int) (w : World) (h0 : 8 < kind) (h : kind ≤ 13) : Calls Try.prog 17 #[.int .i64 kind] w fun e w' => Fo w e w' (fieldsS kind) := by
  have e : fieldsS kind = [.int .circuit 0 47] := by unfold fieldsS; rw [if_pos (by omega)]
  rw [e]
  clear e
  have h1b : decide (kind < 1) = false := decide_eq_false (by omega)
  have h2b : decide (kind > 13) = false := decide_eq_false (by omega)
  have h3b : decide (kind > 8) = true := decide_eq_true (by omega)
  clear h0 h
  go_enter Try.func17, Try.ntmps17
  go_wp2_with (first | (go_at_call 24; (with_reducible refine (mk1 _).mono ?_); rintro e w1 ⟨s1, rfl, hf, hb⟩; dsimp only [aggF]; have F1 := Aside0.mk hf; have B1 := Aside0.mk hb; clear hf hb) | ((with_reducible refine gate_dst (N := 21) rfl ?_); go_loud (refine Kd.R_lit kF _ 51 ?hg (N := 21) ?hd (xs := [s1]) (inner := fc s1) (ok := fun _ => True) (okp := fun _ => True) ?hr ?hp (fun _ hk => hk) trivial (Below.refl _ _) (Nat.le_refl _) (by simp) ?_; (case hd => rfl); (case hg => rfl); (case hr => first | (go_simp; done) | (go_simp; rfl)); (case hp => exact Reps.c4 (kF_mkM _ _ _ s1) (Reps.none _ _)); intro v102 w3 ho4 hb hg_ hnew_; clear hg_ hnew_; have HO := Aside0.mk ho4; have B2 := Aside0.mk hb; clear ho4 hb)))
  have hB : Below w1.heap.size w1 w3 := below_step (below_alloc (Below.refl _ _) _) B2.out
  refine bodyPost_ret (v := .tuple #[v102, .bool true]) (by simp [results, Try.results17, go_sem]) rfl ⟨v102, [s1], rfl, ?_, ?_, ?_⟩
  · exact Kd.R_lower HO.out (by rw [World.size_alloc]; have := B1.out.size; omega)
  · exact .cons (F1.out.below hB) .nil
  · exact below_step B1.out hB

theorem fcell {W : World} {g : Nat} {s : SFd} (h : W.heap[g]? = some (.cells (fc s).toArray 51 (0, 0))) :
    W.cell? ⟨g, 0, none⟩ = some (.func (.func s.f0.fn) #[] s.f0.cap) ∧ W.cell? ⟨g, 1, none⟩ = some (.func (.func s.f1.fn) #[] s.f1.cap) ∧ W.cell? ⟨g, 2, none⟩ = some (.func (.func s.f2.fn) #[] s.f2.cap) ∧ W.cell? ⟨g, 3, none⟩ = some (.func (.func s.f3.fn) #[] s.f3.cap) := by
  refine ⟨?_, ?_, ?_, ?_⟩ <;> simp [World.cell?, h, fc]

set_option maxHeartbeats 8000000 in
set_option maxRecDepth 100000 in
theorem fields_many (kind : Int) (w : World) (h0 : 1 ≤ kind) (h : kind ≤ 8) : Calls Try.prog 17 #[.int .i64 kind] w fun e w' => Fo w e w' (fieldsS kind) := by
  have e : fieldsS kind = [.int .circuit 0 47, .int .ref (leastS kind) 1099511627776] ++ moreS kind := by unfold fieldsS; rw [if_neg (by omega)]
  rw [e]
  clear e
  have h1b : decide (kind < 1) = false := decide_eq_false (by omega)
  have h2b : decide (kind > 13) = false := decide_eq_false (by omega)
  have h3b : decide (kind > 8) = false := decide_eq_false (by omega)
  have hmm := @run_makeMap Try.prog
  have hwf : (Lit.int .i64 kind).wf = true := by simp [Lit.wf, IntKind.min, IntKind.max, IntKind.bits, IntKind.signed]; omega
  clear h0 h
  go_enter Try.func17, Try.ntmps17
  go_upto_if 23 with (first | (go_at_call 24; (with_reducible refine (mk1 _).mono ?_); rintro e w1 ⟨s1, rfl, hf, hb⟩; dsimp only [aggF]; have F1 := Aside0.mk hf; have B1 := Aside0.mk hb; clear hf hb))
  (try simp only [Act.put, List.setIfInBounds_toArray, List.set_cons_zero, List.set_cons_succ])
  have G1 := Aside0.mk (show (w1.alloc (.cells (fc s1).toArray 51)).heap[w1.heap.size]? = some (.cells (fc s1).toArray 51 (0, 0)) from hp_new rfl)
  have B2 := Aside0.mk (show Below w1.heap.size w1 (w1.alloc (.cells (fc s1).toArray 51)) from below_alloc (Below.refl _ _) _)
  unfold fc at G1 B2
  generalize w1.alloc _ = w2 at G1 B2 ⊢
  go_cut [5] (fun v5 wc => v5 = .int .i64 (leastS kind) ∧ wc = w2)
  case first =>
    by_cases h8 : kind = 8
    · have h8b : (kind == 8) = true := beq_iff_eq.mpr h8
      have e8 : leastS kind = 0 := by unfold leastS; rw [if_pos h8]
      clear h8
      go_wp2
      go_meet
      case rel => exact ⟨by rw [e8], rfl⟩
    · have h8b : (kind == 8) = false := beq_eq_false_iff_ne.mpr h8
      have e8 : leastS kind = 1 := by unfold leastS; rw [if_neg h8]
      clear h8
      go_wp2
      go_meet
      case rel => exact ⟨by rw [e8], rfl⟩
  case rest =>
    obtain ⟨rfl, rfl⟩ := hcut
    go_wp2
    have BD := Aside0.mk (below_drew1 B2.out)
    refine start_ (n := 5) (S := fun w' => w'.heap[w1.heap.size]? = some (.cells #[.func (.func s1.f0.fn) #[] s1.f0.cap, .func (.func s1.f1.fn) #[] s1.f1.cap, .func (.func s1.f2.fn) #[] s1.f2.cap, .func (.func s1.f3.fn) #[] s1.f3.cap] 51 (0, 0))) (ds := []) #[false, false, false, false, false] (by kernel_rfl) rfl rfl G1.out (fun hHeld => ?_)
    clear B2 G1
    generalize wc.drew = w2 at BD hHeld ⊢
    refine pure_ (i := 1) (N := some 25) (v := ?_) (a' := ?_) #[false, true, false, false, false] rfl rfl (by kernel_rfl) (fun _ _ _ h => h) (Or.inl ⟨by rfl, ?_⟩) ?_ ?_
    rotate_left
    · intro w'
      go_simp
      with_reducible rfl
    rotate_left
    · simp only [Act.put, List.setIfInBounds_toArray, List.set_cons_zero, List.set_cons_succ]
      rfl
    refine take_ (i := 0) (N := some 24) (v := ?_) (a' := ?_) #[true, true, false, false, false] rfl rfl (by kernel_rfl) (fun _ _ _ h => h) (Or.inl ⟨by rfl, ?_⟩) hHeld ?_ ?_
    rotate_left
    · intro w' hs_
      obtain ⟨q0, q1, q2, q3⟩ := fcell hs_
      go_simp
      with_reducible rfl
    rotate_left
    · simp only [Act.put, List.setIfInBounds_toArray, List.set_cons_zero, List.set_cons_succ]
      rfl
    refine one_ (i := 2) (N := some 26) #[true, true, true, false, false] rfl rfl (by kernel_rfl) (by decide) (fun K hK => ?_)
    refine goes_ Try.func24 (by kernel_rfl) rfl #[.func (.func 26) #[] #[], .int .i64 (leastS kind), .int .i64 1099511627776] (by rfl) rfl rfl (by (try simp only [List.map_toArray, List.map_cons, List.map_nil]); first | done | rfl) ?_
    refine (mk2 _ _).mono ?_
    rintro e w4 ⟨s2, rfl, hf, hb⟩
    refine ⟨_, rfl, ?_⟩
    dsimp only [aggF]
    have F2 := Aside0.mk hf
    have B4 := Aside0.mk hb
    refine hK.out _ _ ((hb.block _ (Array.getElem?_eq_some_iff.1 hHeld).1).trans hHeld) (fun hHeld => ?_)
    clear hK K hf hb
    simp only [Act.put, List.setIfInBounds_toArray, List.set_cons_zero, List.set_cons_succ]
    refine one_ (i := 3) (N := some 27) #[true, true, true, true, false] rfl rfl (by kernel_rfl) (by decide) (fun K hK => ?_)
    refine Kd.R_lit_step kF _ 51 (by rfl) (N := 27) rfl (xs := [s1, s2]) (inner := fc s1 ++ fc s2) (ok := fun _ => True) (okp := fun _ => True) ?hr (Reps.c4 (kF_mkM _ _ _ s1) (Reps.c4 (kF_mkM _ _ _ s2) (Reps.none _ _))) (fun _ hk => hk) trivial (Below.refl _ _) (Nat.le_refl _) (by simp) ?_
    case hr => first | (go_simp; done) | (go_simp; rfl)
    intro v5 w5 ho hb hg_ hnew_
    obtain ⟨b5, hb5, _⟩ := hnew_
    obtain ⟨g5, c5, rfl⟩ := own_form ho hb5
    clear hb5
    have HO := Aside0.mk ho
    have B5 := Aside0.mk hb
    refine hK.out _ _ ((hb.block _ (Array.getElem?_eq_some_iff.1 hHeld).1).trans hHeld) (fun hHeld => ?_)
    clear hK K ho hb hg_
    refine norm_ (a' := ?_) ?_ ?_
    rotate_left
    · show Act.put _ (some 27) _ = _
      simp only [Act.put, List.setIfInBounds_toArray, List.set_cons_zero, List.set_cons_succ]
      rfl
    refine one_ (i := 4) (N := some 6) #[true, true, true, true, true] rfl rfl (by kernel_rfl) (by decide) (fun K hK => ?_)
    refine value_ (w1 := ?_) (v := ?_) (by rfl) rfl ?_ ?_
    rotate_left 2
    · go_simp
      constructor
      · rfl
      · rfl
    refine hK.out _ _ hHeld (fun hHeld => ?_)
    clear hK K
    refine norm_ (a' := ?_) ?_ ?_
    rotate_left
    · show Act.put _ (some 6) _ = _
      simp only [Act.put, List.setIfInBounds_toArray, List.set_cons_zero, List.set_cons_succ]
      rfl
    refine done_ (by kernel_rfl) ?_
    have BC := Aside0.mk (below_step (below_step BD.out B4.out) B5.out)
    have BW := Aside0.mk (below_step B1.out BC.out)
    have HF := Aside0.mk (show ∀ p ∈ [(Fd.int .circuit 0 47, s1), (Fd.int .ref (leastS kind) 1099511627776, s2)], FOk (fun k => w.heap.size ≤ k) w5 p.1 p.2 from by
      intro p hp
      have q1 := B1.out.size
      have q2 := BD.out.size
      simp only [List.mem_cons, List.not_mem_nil, or_false] at hp
      rcases hp with rfl | rfl
      · exact F1.out.below BC.out
      · exact (F2.out.mono (fun k hk _ => by have h3 : w2.heap.size ≤ k := hk; omega)).below B5.out)
    have HR := Aside0.mk (Kd.R_lower (base' := w.heap.size) HO.out (below_size (below_step (below_step B1.out BD.out) B4.out)))
    clear BC B1 BD B4 B5 F1 F2 HO hHeld
    go_wp2_with (first
      | (go_at_call 24; (with_reducible refine (mk6 _).mono ?_); rintro e w6 ⟨s6, rfl, hf, hb⟩; dsimp only [aggF]; have HS := Aside0.mk ((St.start BW.out HF.out HR.out).addF hb (Nat.le_refl _) hf); clear hf hb)
      | (go_at_call 31; (with_reducible refine (mk7 _).mono ?_); rintro e w7 ⟨s7, rfl, hf, hb⟩; dsimp only [aggF]; have n_ := Aside0.mk (HS.out.addF hb (Nat.le_refl _) hf); clear HS hf hb; have HS := n_; clear n_)
      | (go_at_call 31; (with_reducible refine (mk8 _).mono ?_); rintro e w8 ⟨s8, rfl, hf, hb⟩; dsimp only [aggF]; have n_ := Aside0.mk (HS.out.addF hb (Nat.le_refl _) hf); clear HS hf hb; have HS := n_; clear n_)
      | (go_at_call 34; (with_reducible refine (mk9 _).mono ?_); rintro e w9 ⟨s9, rfl, hf, hb⟩; dsimp only [aggF]; have n_ := Aside0.mk (HS.out.addF hb (Nat.le_refl _) hf); clear HS hf hb; have HS := n_; clear n_)
      | (go_at_call 31; (with_reducible refine (mk10 _).mono ?_); rintro e w10 ⟨s10, rfl, hf, hb⟩; dsimp only [aggF]; have n_ := Aside0.mk (HS.out.addF hb (Nat.le_refl _) hf); clear HS hf hb; have HS := n_; clear n_)
      | (go_at_call 34; (with_reducible refine (mk11 _).mono ?_); rintro e w11 ⟨s11, rfl, hf, hb⟩; dsimp only [aggF]; have n_ := Aside0.mk (HS.out.addF hb (Nat.le_refl _) hf); clear HS hf hb; have HS := n_; clear n_)
      | (go_at_call 24; (with_reducible refine (mk12 _).mono ?_); rintro e w12 ⟨s12, rfl, hf, hb⟩; dsimp only [aggF]; have n_ := Aside0.mk (HS.out.addF hb (Nat.le_refl _) hf); clear HS hf hb; have HS := n_; clear n_)
      | ((with_reducible refine gate_dst (N := 35) rfl ?_); refine Kd.R_lit kF _ 51 ?hg (N := 35) ?hd (xs := [s6, s7, s8, s9]) (inner := fc s6 ++ (fc s7 ++ (fc s8 ++ fc s9))) (ok := fun _ => True) (okp := fun _ => True) ?hr ?hp (fun _ hk => hk) trivial (Below.refl _ _) (Nat.le_refl _) (by simp) ?_; (case hd => rfl); (case hg => rfl); (case hr => first | (go_simp; done) | (go_simp; rfl)); (case hp => exact Reps.c4 (kF_mkM _ _ _ s6) (Reps.c4 (kF_mkM _ _ _ s7) (Reps.c4 (kF_mkM _ _ _ s8) (Reps.c4 (kF_mkM _ _ _ s9) (Reps.none _ _))))); intro v35 w35 ho hb hg_ hnew_; obtain ⟨b35, hb35, _⟩ := hnew_; obtain ⟨g35, c35, rfl⟩ := own_form ho hb35; have n_ := Aside0.mk (HS.out.addR hb ho); clear HS ho hb hg_ hb35; have HS := n_; clear n_)
      | ((with_reducible refine gate_dst (N := 38) rfl ?_); refine Kd.R_lit kF _ 51 ?hg (N := 38) ?hd (xs := [s10]) (inner := fc s10) (ok := fun _ => True) (okp := fun _ => True) ?hr ?hp (fun _ hk => hk) trivial (Below.refl _ _) (Nat.le_refl _) (by simp) ?_; (case hd => rfl); (case hg => rfl); (case hr => first | (go_simp; done) | (go_simp; rfl)); (case hp => exact Reps.c4 (kF_mkM _ _ _ s10) (Reps.none _ _)); intro v38 w38 ho hb hg_ hnew_; obtain ⟨b38, hb38, _⟩ := hnew_; obtain ⟨g38, c38, rfl⟩ := own_form ho hb38; have n_ := Aside0.mk (HS.out.addR hb ho); clear HS ho hb hg_ hb38; have HS := n_; clear n_)
      | ((with_reducible refine gate_dst (N := 40) rfl ?_); refine Kd.R_lit kF _ 51 ?hg (N := 40) ?hd (xs := [s11]) (inner := fc s11) (ok := fun _ => True) (okp := fun _ => True) ?hr ?hp (fun _ hk => hk) trivial (Below.refl _ _) (Nat.le_refl _) (by simp) ?_; (case hd => rfl); (case hg => rfl); (case hr => first | (go_simp; done) | (go_simp; rfl)); (case hp => exact Reps.c4 (kF_mkM _ _ _ s11) (Reps.none _ _)); intro v40 w40 ho hb hg_ hnew_; obtain ⟨b40, hb40, _⟩ := hnew_; obtain ⟨g40, c40, rfl⟩ := own_form ho hb40; have n_ := Aside0.mk (HS.out.addR hb ho); clear HS ho hb hg_ hb40; have HS := n_; clear n_)
      | ((with_reducible refine gate_dst (N := 42) rfl ?_); refine Kd.R_lit kF _ 51 ?hg (N := 42) ?hd (xs := [s12]) (inner := fc s12) (ok := fun _ => True) (okp := fun _ => True) ?hr ?hp (fun _ hk => hk) trivial (Below.refl _ _) (Nat.le_refl _) (by simp) ?_; (case hd => rfl); (case hg => rfl); (case hr => first | (go_simp; done) | (go_simp; rfl)); (case hp => exact Reps.c4 (kF_mkM _ _ _ s12) (Reps.none _ _)); intro v42 w42 ho hb hg_ hnew_; obtain ⟨b42, hb42, _⟩ := hnew_; obtain ⟨g42, c42, rfl⟩ := own_form ho hb42; have n_ := Aside0.mk (HS.out.addR hb ho); clear HS ho hb hg_ hb42; have HS := n_; clear n_)
      | ((with_reducible refine gate_dst (N := 47) rfl ?_); refine look_event rfl _ _ kind rfl hwf rfl HS.out.m rfl ?_; intro v47 ps47 hv47; obtain ⟨xs, A, c, rfl, hl, hC, hF⟩ := look_row HS.out rfl (List.Mem.tail _ (List.Mem.tail _ (List.Mem.tail _ (List.Mem.head _)))) rfl (List.Mem.tail _ (List.Mem.tail _ (List.Mem.head _))) rfl (List.Mem.tail _ (List.Mem.head _)) rfl (List.Mem.head _) rfl (List.Mem.tail _ (List.Mem.tail _ (List.Mem.tail _ (List.Mem.tail _ (List.Mem.tail _ (List.Mem.tail _ (List.Mem.head _))))))) (List.Mem.tail _ (List.Mem.tail _ (List.Mem.tail _ (List.Mem.tail _ (List.Mem.tail _ (List.Mem.head _)))))) (List.Mem.tail _ (List.Mem.tail _ (List.Mem.tail _ (List.Mem.tail _ (List.Mem.head _))))) (List.Mem.tail _ (List.Mem.tail _ (List.Mem.tail _ (List.Mem.head _)))) (List.Mem.tail _ (List.Mem.tail _ (List.Mem.head _))) (List.Mem.tail _ (List.Mem.head _)) (List.Mem.head _) hv47; have HC := Aside0.mk hC; have HX := Aside0.mk hF; clear hv47 hC hF hl)
      | ((with_reducible refine gate_dst (N := 48) rfl ?_); refine Kd.R_append_rows kF (Rr := kF.K _) (w0 := w) w.heap.size rfl (.tmp 44) (.tmp 47) 43 51 (.agg #[.nilFunc, .nilFunc, .nilFunc, .nilFunc]) 32 rfl Try.underlying43 infoF rfl (by decide) (by decide) (.slice (some ⟨g5, 0, none⟩) 2 c5) [s1, s2] xs A xs.length c (fun k => k ≠ w5.heap.size) (fun _ => False) rfl rfl ?aO HC.out ?aK ?q3 ?aF HS.out.below (below_size HS.out.below) ?aL ?_; (case aO => exact HS.out.r _ (List.Mem.tail _ (List.Mem.tail _ (List.Mem.tail _ (List.Mem.tail _ (List.Mem.head _)))))); (case aK => exact fun x cs h => by rw [kF_open h]; exact kF_mkM _ _ _ x); (case q3 => exact fun _ h => h.elim); (case aF => exact fun k hk => by have := HS.out.m.lt; omega); (case aL => have h1 := moreS_len kind; have h2 := HX.out.len; simp only [List.length_cons, List.length_nil]; omega); intro v48 w48 ho hb hg hat; obtain ⟨inner5, ho5⟩ := Kd.R_own (HS.out.r _ (List.Mem.tail _ (List.Mem.tail _ (List.Mem.tail _ (List.Mem.tail _ (List.Mem.head _)))))); obtain ⟨cells5, hc5⟩ := own_typed ho5 g5 rfl; have htr : ∀ d s, FOk (fun k => w.heap.size ≤ k ∧ k ≠ w5.heap.size) _ d s → FOk (fun k => w.heap.size ≤ k) w48 d s := fun d s h => ((h.types hc5).keep (fun k ok hk => hg.block k hk (fun e => ok.2 (Option.some.inj e)))).mono (fun k ok _ => ok.1.1); have HZ := Aside0.mk (F2.append (l := [.int .circuit 0 47, .int .ref (leastS kind) 1099511627776]) (m := [s1, s2]) (.cons (htr _ _ (HS.out.f _ (List.Mem.tail _ (List.Mem.tail _ (List.Mem.tail _ (List.Mem.tail _ (List.Mem.tail _ (List.Mem.tail _ (List.Mem.tail _ (List.Mem.head _)))))))))) (.cons (htr _ _ (HS.out.f _ (List.Mem.tail _ (List.Mem.tail _ (List.Mem.tail _ (List.Mem.tail _ (List.Mem.tail _ (List.Mem.tail _ (List.Mem.tail _ (List.Mem.tail _ (List.Mem.head _))))))))))) .nil)) (HX.out.imp htr)); have HO := Aside0.mk ho; have HB := Aside0.mk hb; clear ho hb hg hat ho5 hc5 htr HS)
      | (refine ins_event rfl _ _ _ rfl (by decide) (by unfold maxLen; omega) rfl HS.out.m _ rfl (Rv_own _ _ _) ?_; intro wm hm hg; have n_ := Aside0.mk (HS.out.put hg hm); clear HS hg hm; have HS := n_; clear n_))
    exact bodyPost_ret (v := .tuple #[v48, .bool true]) (by simp [results, Try.results17, go_sem]) rfl ⟨v48, [s1, s2] ++ xs, rfl, Kd.R_mono HO.out (fun _ _ => trivial), HZ.out, HB.out⟩
end Go.Proofs.Ytmpjcpkfnjnejaa.Iq
