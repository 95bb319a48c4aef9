/-
  isup.Encode, by hand: what a field's put appends.
-/
import Derived.Test.YtmpjcpkfnjnejaaIq5
import Derived.Test.YtmpjcpkfnjnejaaIv
namespace Go.Proofs.Ytmpjcpkfnjnejaa.Iq
open Go.RowKit Go.Shelf Go.Proofs.YtmpjcpkfnjnejaaW.PrintWords Go.Proofs.YtmpjcpkfnjnejaaW.PrintLast Go.Proofs.YtmpjcpkfnjnejaaW.PrintMore Go.Proofs.Ytmpjcpkfnjnejaa.Is Go.Proofs.Ytmpjcpkfnjnejaa.Vm Go.Proofs.Ytmpjcpkfnjnejaa.Iv
set_option linter.unusedVariables false
set_option linter.unusedSimpArgs false

def Fd.bytes (s : Sig) : Fd → List Int
  | .int f _ _ => enc (f.get s).toNat
  | .addr f _ => enc (f.get s).size ++ bytesOf (f.get s)
  | .bool f => [if f.get s then 1 else 0]
/-- The fields' numbers are small. -/
def Fd.low : Fd → Prop
  | .int _ lo hi => 0 ≤ lo ∧ hi ≤ 1099511627776
  | .addr _ _ => True
  | .bool _ => True

def By (w : World) (base : Nat) (v : Value) (l : List Int) : Prop := Kd.R (Kd.int .u8) 5 w base (fun _ => True) v l
/-- What a put leaves. -/
def Pu (base : Nat) (w : World) (e : Ending) (w' : World) (l : List Int) : Prop := ∃ v', e = .returned v' ∧ By w' base v' l ∧ Below base w w'

theorem wrap_u64 (n : Nat) (h : n < 18446744073709551616) : IntKind.u64.wrap (n : Int) = (n : Int) := by rw [u64w]; omega

set_option maxHeartbeats 4000000 in
theorem int_put (f : IF) (S bo : Nat) (ok : Nat → Prop) (s : Sig) (w : World) (hs : At w S s) (ho : Bx ok w bo (.func (.func f.fn) #[] #[]) 69) (h0 : 0 ≤ f.get s) (h1 : f.get s ≤ 1099511627776)
    (base : Nat) (v : Value) (l : List Int) (hr : By w base v l) (hb : base ≤ w.heap.size) (hl : l.length ≤ 10000) :
    Calls Try.prog 43 #[v, pt S, pt bo] w fun e w' => Pu base w e w' (l ++ enc (f.get s).toNat) := by
  have ho := ho.cell
  have hx := hs.int f
  have eg := ienters f
  obtain ⟨n, hn⟩ : ∃ n : Nat, f.get s = (n : Int) := ⟨(f.get s).toNat, by omega⟩
  rw [hn] at hx h1 ⊢
  rw [Int.toNat_natCast]
  have hnb : n < 18446744073709551616 := by omega
  have HW := Aside0.mk (wrap_u64 n hnb)
  have HR := Aside0.mk hr
  obtain ⟨A, c, rfl⟩ := Kd.R_slice hr
  obtain ⟨_, hc, hC⟩ := Kd.R_reads' hr
  have HA := Aside0.mk (varint_AppendUint.calls 10 A c l (n : Int) _ w hC hc (appendUint_eq 10 l n (Nat.le_refl _) (by omega) hnb))
  have HZ := Aside0.mk hb
  unfold pt
  clear hr hc hC hn h0 h1 hnb hb hl
  go_enter Try.func43, Try.ntmps43
  go_wp2_with (first | (go_at_call 44; rw [HW.out]; refine HA.out.mono ?_; rintro e w1 ⟨v1, rfl, hr1, hb1⟩; have HR1 := Aside0.mk hr1; have HB1 := Aside0.mk hb1; clear hr1 hb1) | ((with_reducible refine (igetter f S _).mono ?_); rintro e w' ⟨rfl, rfl⟩))
  go_ret
  exact ⟨v1, rfl, Kd.R_lower HR1.out HZ.out, HB1.out.mono HZ.out⟩

theorem bytesOf_ok (s : ByteArray) : Bytes (bytesOf s) := by
  intro c hc
  unfold bytesOf at hc
  obtain ⟨b, _, rfl⟩ := List.mem_map.1 hc
  have := b.toNat_lt
  omega
theorem str_bytes (s : ByteArray) : strOfNums (bytesOf s) = s := by
  have h : (strOfNums (bytesOf s)).data.toList = s.data.toList := by
    rw [strOfNums_data]
    unfold bytesOf
    rw [List.map_map]
    conv => rhs; rw [← List.map_id s.data.toList]
    refine List.map_congr_left (fun b _ => ?_)
    simp
  have h2 : (strOfNums (bytesOf s)).data = s.data := Array.toList_inj.1 h
  exact ByteArray.ext h2

set_option maxHeartbeats 4000000 in
theorem addr_put (f : SF) (S bo : Nat) (ok : Nat → Prop) (s : Sig) (w : World) (hs : At w S s) (ho : Bx ok w bo (.func (.func f.fn) #[] #[]) 72) (h1 : (f.get s).size ≤ 15)
    (base : Nat) (v : Value) (l : List Int) (hr : By w base v l) (hb : base ≤ w.heap.size) (hl : l.length ≤ 10000) :
    Calls Try.prog 50 #[v, pt S, pt bo] w fun e w' => Pu base w e w' (l ++ (enc (f.get s).size ++ bytesOf (f.get s))) := by
  have ho := ho.cell
  have hx := hs.str f
  have eg := senters f
  have HR := Aside0.mk hr
  obtain ⟨A, c, rfl⟩ := Kd.R_slice hr
  obtain ⟨_, hc, hC⟩ := Kd.R_reads' hr
  have e1 := appendString_eq 10 l (bytesOf (f.get s)) (Nat.le_refl _) (bytesOf_ok _) (by rw [bytesOf_length]; omega)
  rw [str_bytes, bytesOf_length] at e1
  have HA := Aside0.mk (varint_AppendString.calls 10 A c l (f.get s) _ w hC hc e1)
  have HZ := Aside0.mk hb
  unfold pt
  clear hr hc hC h1 hb hl e1
  go_enter Try.func50, Try.ntmps50
  go_wp2_with (first | (go_at_call 51; refine HA.out.mono ?_; rintro e w1 ⟨v1, rfl, hr1, hb1⟩; have HR1 := Aside0.mk hr1; have HB1 := Aside0.mk hb1; clear hr1 hb1) | ((with_reducible refine (sgetter f S _).mono ?_); rintro e w' ⟨rfl, rfl⟩))
  go_ret
  exact ⟨v1, rfl, Kd.R_lower HR1.out HZ.out, HB1.out.mono HZ.out⟩

set_option maxHeartbeats 4000000 in
theorem bool_put (f : BF) (S bo : Nat) (ok : Nat → Prop) (s : Sig) (w : World) (hs : At w S s) (ho : Bx ok w bo (.func (.func f.fn) #[] #[]) 75)
    (base : Nat) (v : Value) (l : List Int) (hr : By w base v l) (hb : base ≤ w.heap.size) (hl : l.length ≤ 10000) :
    Calls Try.prog 56 #[v, pt S, pt bo] w fun e w' => Pu base w e w' (l ++ [if f.get s then 1 else 0]) := by
  have ho := ho.cell
  have hx := hs.bool f
  have eg := benters f
  have HR := Aside0.mk hr
  have HZ := Aside0.mk hb
  have HL := Aside0.mk hl
  unfold pt
  clear hr hb hl
  cases hv : f.get s
  · rw [hv] at hx
    go_enter Try.func56, Try.ntmps56
    go_wp2_with (first | ((with_reducible refine gate_dst (N := 16) rfl ?_); go_loud (refine Kd.R_append (Kd.int .u8) (w0 := w) base rfl (.tmp 14) (.tmp 15) 24 5 (.int .u8 0) 1 rfl Try.underlying24 info5 rfl (by decide) (by omega) v l 0 [.int .u8 0] (fun _ => True) (fun _ => False) rfl rfl rfl (fun _ hk => hk.elim) (fun _ _ => trivial) HR.out (Below.refl _ _) HZ.out (by have := HL.out; omega) ?_; intro v1 w1 ho1 hb1 hg hat; have HO := Aside0.mk ho1; have HB1 := Aside0.mk hb1; clear ho1 hb1 hg hat)) | ((with_reducible refine (bgetter f S _).mono ?_); rintro e w' ⟨rfl, hw⟩; replace hw := hw.symm; subst hw))
    go_ret
    exact ⟨v1, rfl, HO.out, HB1.out⟩
  · rw [hv] at hx
    go_enter Try.func56, Try.ntmps56
    go_wp2_with (first | ((with_reducible refine gate_dst (N := 13) rfl ?_); go_loud (refine Kd.R_append (Kd.int .u8) (w0 := w) base rfl (.tmp 11) (.tmp 12) 24 5 (.int .u8 0) 1 rfl Try.underlying24 info5 rfl (by decide) (by omega) v l 1 [.int .u8 1] (fun _ => True) (fun _ => False) rfl rfl rfl (fun _ hk => hk.elim) (fun _ _ => trivial) HR.out (Below.refl _ _) HZ.out (by have := HL.out; omega) ?_; intro v1 w1 ho1 hb1 hg hat; have HO := Aside0.mk ho1; have HB1 := Aside0.mk hb1; clear ho1 hb1 hg hat)) | ((with_reducible refine (bgetter f S _).mono ?_); rintro e w' ⟨rfl, hw⟩; replace hw := hw.symm; subst hw))
    go_ret
    exact ⟨v1, rfl, HO.out, HB1.out⟩

variable {w : World} {S : Nat} {s : Sig} {ok : Nat → Prop} {d : Fd} {x : SFd}
theorem ok_size {f : SF} {e : EF} (h : Fd.ok s (.addr f e) = true) : (f.get s).size ≤ 15 := by
  unfold Fd.ok validS at h
  simp only [Bool.or_eq_true, Bool.and_eq_true, decide_eq_true_eq] at h
  rcases h with h | h
  · have := h.1.2; omega
  · rw [h.1]; decide
theorem ok_num {f : IF} {lo hi : Int} (h : Fd.ok s (.int f lo hi) = true) (hl : Fd.low (.int f lo hi)) : 0 ≤ f.get s ∧ f.get s ≤ 1099511627776 := by
  unfold Fd.ok at h
  unfold Fd.low at hl
  simp only [Bool.and_eq_true, decide_eq_true_eq] at h
  omega
theorem bytes_len (h : d.ok s = true) (hl : d.low) : (d.bytes s).length ≤ 26 := by
  cases d with
  | int f lo hi =>
    obtain ⟨h0, h1⟩ := ok_num h hl
    have := enc_len10 (v := (f.get s).toNat) (by omega)
    show (enc _).length ≤ 26
    omega
  | addr f e =>
    have h1 := ok_size h
    have := enc_len10 (v := (f.get s).size) (by omega)
    show (enc _ ++ bytesOf _).length ≤ 26
    rw [List.length_append, bytesOf_length]
    omega
  | bool f => simp [Fd.bytes]
theorem fd_put (hs : At w S s) (hf : FOk ok w d x) (hd : d.ok s = true) (hl : d.low) (base : Nat) (v : Value) (l : List Int) (hr : By w base v l) (hb : base ≤ w.heap.size) (hn : l.length ≤ 10000) :
    Calls Try.prog x.f1.fn (#[v, pt S] ++ x.f1.cap) w fun e w' => Pu base w e w' (l ++ d.bytes s) := by
  cases d with
  | int f lo hi => obtain ⟨bo, bf, bt, h1, h2, h3, rfl⟩ := hf; obtain ⟨q0, q1⟩ := ok_num hd hl; exact int_put f S bo ok s w hs h1 q0 q1 base v l hr hb hn
  | addr f e => obtain ⟨bo, be, h1, h2, rfl⟩ := hf; exact addr_put f S bo ok s w hs h1 (ok_size hd) base v l hr hb hn
  | bool f => obtain ⟨bo, h1, rfl⟩ := hf; exact bool_put f S bo ok s w hs h1 base v l hr hb hn
theorem fd_enters1 (hf : FOk ok w d x) : ∀ args W, (callFunc x.f1.fn args).run Try.prog W = .ok (.enter x.f1.fn args) W := by
  cases d with
  | int f lo hi => obtain ⟨bo, bf, bt, h1, h2, h3, rfl⟩ := hf; exact enters_of Try.func43 (by kernel_rfl) rfl
  | addr f e => obtain ⟨bo, be, h1, h2, rfl⟩ := hf; exact enters_of Try.func50 (by kernel_rfl) rfl
  | bool f => obtain ⟨bo, h1, rfl⟩ := hf; exact enters_of Try.func56 (by kernel_rfl) rfl
theorem more_low (kind : Int) : ∀ d ∈ moreS kind, d.low := by
  unfold moreS
  split
  · intro d hd; simp at hd; rcases hd with rfl | rfl | rfl | rfl <;> simp [Fd.low]
  split
  · intro d hd; simp at hd; subst hd; simp [Fd.low]
  split
  · intro d hd; simp at hd; subst hd; simp [Fd.low]
  split
  · intro d hd; simp at hd; subst hd; simp [Fd.low]
  · intro d hd; simp at hd
theorem fields_low (kind : Int) : ∀ d ∈ fieldsS kind, d.low := by
  unfold fieldsS
  split
  · intro d hd; simp at hd; subst hd; simp [Fd.low]
  · intro d hd
    simp only [List.cons_append, List.nil_append, List.mem_cons] at hd
    rcases hd with rfl | rfl | hd
    · simp [Fd.low]
    · simp only [Fd.low, leastS]; split <;> omega
    · exact more_low kind d hd
def encS (s : Sig) : List Int := if validS_ s then s.kind :: (fieldsS s.kind).flatMap (Fd.bytes s) else []
theorem flat_take {l : List Fd} {i : Nat} {d : Fd} (h : l[i]? = some d) (s : Sig) : (l.take (i + 1)).flatMap (Fd.bytes s) = (l.take i).flatMap (Fd.bytes s) ++ d.bytes s := by
  rw [List.take_add_one, h]
  simp
end Go.Proofs.Ytmpjcpkfnjnejaa.Iq
