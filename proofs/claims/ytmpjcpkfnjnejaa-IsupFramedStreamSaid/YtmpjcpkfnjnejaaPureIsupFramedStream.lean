/- IsupFramedStream: valid messages that are sent in frames are recovered from the byte stream in order. -/
import Derived.Test.YtmpjcpkfnjnejaaIszIsupFramedStream
import Derived.Test.YtmpjcpkfnjnejaaHp1
import Derived.Test.YtmpjcpkfnjnejaaIq15
import Derived.Test.YtmpjcpkfnjnejaaIq12
set_option linter.unusedVariables false
namespace Go.Proofs.Ytmpjcpkfnjnejaa.Pure
open Go.RowKit Go.Proofs.Ytmpjcpkfnjnejaa.Is Go.Proofs.Ytmpjcpkfnjnejaa.Iq Go.Proofs.Ytmpjcpkfnjnejaa.Vm Go.Proofs.Ytmpjcpkfnjnejaa.Iv Go.Proofs.YtmpjcpkfnjnejaaW.PrintWords Go.Proofs.YtmpjcpkfnjnejaaW.PrintLast

/-- A message of the printed texts, as ours. -/
def sg (x : S23) : Sig := ⟨x.f0, x.f1, x.f2, x.f3, x.f4, x.f5, x.f6, x.f7, x.f8, x.f9⟩
theorem few_at (x : S23) : ∃ b, crossbarref11_Few.f x.f0 x.f1 x.f2 x.f3 x.f4 x.f5 x.f6 x.f7 x.f8 x.f9 = some b := by
  unfold crossbarref11_Few.f
  split
  · split
    · exact ⟨_, rfl⟩
    · exact ⟨_, rfl⟩
  · exact ⟨_, rfl⟩
theorem check_at (x : S23) : isup_Check.f x.f0 x.f1 x.f2 x.f3 x.f4 x.f5 x.f6 x.f7 x.f8 x.f9 = some (checkS (sg x)) := rfl
theorem encode_at (x : S23) : isup_Encode.f x.f0 x.f1 x.f2 x.f3 x.f4 x.f5 x.f6 x.f7 x.f8 x.f9 = some (encS (sg x), checkS (sg x)) := rfl
theorem decode_at {l : List Int} (hb : Bytes l) (hl : l.length ≤ 140737488351232) : isup_Decode.f l = some ((decS l).1.kind, (decS l).1.circuit, (decS l).1.ref, (decS l).1.hops, (decS l).1.cause, (decS l).1.called, (decS l).1.calling, (decS l).1.digits, (decS l).1.emergency, (decS l).1.reverse, (decS l).2) := by
  unfold isup_Decode.f
  exact if_pos ⟨hb, hl⟩
theorem check_nil {s : Sig} : checkS s = 0 ↔ validS_ s = true := by
  unfold checkS
  cases validS_ s <;> simp
/-- What is sent. -/
def pay (sent : List S23) : List (List Int) := sent.map fun x => encS (sg x)
theorem pay_ok {sent : List S23} (h : ∀ x ∈ sent, validS_ (sg x) = true) : ∀ p ∈ pay sent, p.length ≤ 4096 ∧ ∀ c ∈ p, 0 ≤ c ∧ c ≤ 255 := by
  intro p hp
  obtain ⟨x, hx, rfl⟩ := List.mem_map.1 hp
  have hv := h x hx
  exact ⟨by have := enc_len hv; omega, enc_bytes_all hv⟩
theorem enc_frame {p : List Int} (hp : p.length ≤ 200) : (Hq.encH p).2 = 0 ∧ (Hq.encH p).1.length ≤ 500 := by
  rw [Hq.encH_1 (by omega)]
  refine ⟨rfl, ?_⟩
  have h := Hq.stuff_len (p ++ Hq.tailS (Hq.fcsS p))
  have h2 : (p ++ Hq.tailS (Hq.fcsS p)).length = p.length + 2 := by rw [List.length_append]; rfl
  show (126 :: (Hq.stuff (p ++ Hq.tailS (Hq.fcsS p)) ++ [126])).length ≤ 500
  rw [List.length_cons, List.length_append, List.length_singleton]
  omega
theorem strm_snoc (sent : List S23) (x : S23) : Hq.strm (pay (sent ++ [x])) = Hq.strm (pay sent) ++ (Hq.encH (encS (sg x))).1 := by
  simp [Hq.strm, pay]
theorem strm_len : ∀ (sent : List S23), (∀ x ∈ sent, validS_ (sg x) = true) → (Hq.strm (pay sent)).length ≤ 500 * sent.length
  | [], _ => by simp [Hq.strm, pay]
  | x :: sent, h => by
    have hv := h x (List.mem_cons_self ..)
    have h1 := (enc_frame (p := encS (sg x)) (by have := enc_len hv; omega)).2
    have h2 := strm_len sent (fun y hy => h y (List.mem_cons_of_mem _ hy))
    have e : Hq.strm (pay (x :: sent)) = (Hq.encH (encS (sg x))).1 ++ Hq.strm (pay sent) := by simp [Hq.strm, pay]
    rw [e, List.length_append, List.length_cons]
    omega
theorem w64i {n : Int} (h0 : 0 ≤ n) (h1 : n ≤ 100) : wrap64 (n + 1) = n + 1 := by unfold wrap64; omega

/-- Each payload is decoded, and is the message that was sent. -/
theorem back_loop (sent : List S23) (h : ∀ x ∈ sent, validS_ (sg x) = true) (h8 : sent.length ≤ 8) : ∀ (n j k : Nat), j + n = sent.length → n + 1 ≤ k → crossbarlaw11_IsupFramedStream.l1 k sent (pay sent) ((pay sent).length : Int) (j : Int) = some true
  | 0, j, k, hj, hk => by
    obtain ⟨k, rfl⟩ : ∃ m, k = m + 1 := ⟨k - 1, by omega⟩
    have hl : (pay sent).length = sent.length := List.length_map ..
    rw [crossbarlaw11_IsupFramedStream.l1, if_neg (by omega)]
  | n + 1, j, k, hj, hk => by
    obtain ⟨k, rfl⟩ : ∃ m, k = m + 1 := ⟨k - 1, by omega⟩
    have hl : (pay sent).length = sent.length := List.length_map ..
    have hjl : j < sent.length := by omega
    have hr : rd_T23 sent (j : Int) = sent[j] := by
      unfold rd_T23
      rw [Int.toNat_natCast, List.getD_eq_getElem?_getD, List.getElem?_eq_getElem hjl]
      rfl
    have hp : rd_L1 (pay sent) (j : Int) = encS (sg sent[j]) := by
      unfold rd_L1 pay
      rw [Int.toNat_natCast, List.getD_eq_getElem?_getD, List.getElem?_map, List.getElem?_eq_getElem hjl]
      rfl
    have hv := h _ (List.getElem_mem hjl)
    have ih := back_loop sent h h8 n (j + 1) k (by omega) (by omega)
    rw [crossbarlaw11_IsupFramedStream.l1, if_pos (by omega), if_pos (by omega), if_pos (by omega), hp, hr, decode_at (enc_bytes_all hv) (by have := enc_len hv; omega), dec_enc hv, w64i (by omega) (by omega)]
    have e : ((j : Int) + 1) = ((j + 1 : Nat) : Int) := by omega
    rw [e]
    simp only [Option.bind_some, if_true]
    rw [if_pos (by omega), if_neg (by simp [sg])]
    exact ih

/-- The messages are sent one by one. -/
theorem send_loop (L : List S23) (hL : L.length ≤ 8) : ∀ (n i k : Nat) (sent : List S23), i + n = L.length → (∀ x ∈ sent, validS_ (sg x) = true) → sent.length ≤ i → 2 * n + 12 ≤ k →
    crossbarlaw11_IsupFramedStream.l0 k (Hq.strm (pay sent)) sent L (L.length : Int) (i : Int) = some true
  | 0, i, k, sent, hi, hs, hsl, hk => by
    obtain ⟨k, rfl⟩ : ∃ m, k = m + 1 := ⟨k - 1, by omega⟩
    have hp := pay_ok hs
    have hl : (pay sent).length = sent.length := List.length_map ..
    have hc : (∀ c ∈ Hq.strm (pay sent), 0 ≤ c ∧ c ≤ 255) ∧ (Hq.strm (pay sent)).length ≤ 4294967296 := ⟨Hq.strm_by _ hp, by have := strm_len sent hs; omega⟩
    have hsc : hdlc_Scan.f (Hq.strm (pay sent)) = some (Hq.scanH (Hq.strm (pay sent))) := by
      unfold hdlc_Scan.f
      exact if_pos hc
    have h1 := Hq.scan_strm (pay sent) (fun p hq => (hp p hq).1)
    rw [crossbarlaw11_IsupFramedStream.l0, if_neg (by omega), hsc]
    simp only [Option.bind_some]
    rw [h1, if_pos (by rw [hl])]
    exact back_loop sent hs (by omega) sent.length 0 k (by omega) (by omega)
  | n + 1, i, k, sent, hi, hs, hsl, hk => by
    obtain ⟨k, rfl⟩ : ∃ m, k = m + 2 := ⟨k - 2, by omega⟩
    have hil : i < L.length := by omega
    have e : ((i : Int) + 1) = ((i + 1 : Nat) : Int) := by omega
    obtain ⟨x, hx⟩ : ∃ x, rd_T23 L (i : Int) = x := ⟨_, rfl⟩
    obtain ⟨b, hf⟩ := few_at x
    have skip : ∀ y : S23, crossbarlaw11_IsupFramedStream.j1 (k + 1) (Hq.strm (pay sent)) sent L (L.length : Int) (i : Int) true y.f0 y.f1 y.f2 y.f3 y.f4 y.f5 y.f6 y.f7 y.f8 y.f9 = some true := fun y => by
      rw [crossbarlaw11_IsupFramedStream.j1, if_pos rfl, w64i (by omega) (by omega), e]
      exact send_loop L hL n (i + 1) k sent (by omega) hs (by omega) (by omega)
    rw [crossbarlaw11_IsupFramedStream.l0, if_pos (by omega), if_pos (by omega), if_pos (by omega), hx, hf]
    simp only [Option.bind_some]
    cases b with
    | false =>
      rw [if_neg (by decide)]
      exact skip x
    | true =>
      rw [if_pos rfl, check_at]
      simp only [Option.bind_some]
      by_cases hc : checkS (sg x) = 0
      · have hv := check_nil.1 hc
        have hel := enc_len hv
        obtain ⟨f1, f2⟩ := enc_frame (p := encS (sg x)) (by omega)
        have hsl2 := strm_len sent hs
        have he : hdlc_Encode.f (encS (sg x)) = some (Hq.encH (encS (sg x))) := rfl
        have eb : (checkS (sg x) != 0) = false := by rw [hc]; rfl
        rw [eb, crossbarlaw11_IsupFramedStream.j1, if_neg (by decide), encode_at]
        simp only [Option.bind_some]
        rw [he]
        simp only [Option.bind_some]
        rw [if_pos hc, if_pos f1, if_pos (by omega), if_pos (by omega), w64i (by omega) (by omega), e, ← strm_snoc]
        exact send_loop L hL n (i + 1) k (sent ++ [x]) (by omega) (fun y hy => (List.mem_append.1 hy).elim (hs y) (fun h => by rw [List.mem_singleton.1 h]; exact hv)) (by rw [List.length_append, List.length_singleton]; omega) (by omega)
      · have eb : (checkS (sg x) != 0) = true := bne_iff_ne.2 hc
        rw [eb]
        exact skip x

theorem IsupFramedStream (L : List S23) : ∃ k, crossbarlaw11_IsupFramedStream.f k L = some true := by
  by_cases h : (L.length : Int) > 8
  · refine ⟨0, ?_⟩
    unfold crossbarlaw11_IsupFramedStream.f
    simp only [crossbarlaw11_sane.f, Option.bind_some, if_true]
    rw [if_pos h]
  · refine ⟨2 * L.length + 12, ?_⟩
    unfold crossbarlaw11_IsupFramedStream.f
    simp only [crossbarlaw11_sane.f, Option.bind_some, if_true]
    rw [if_neg h]
    exact send_loop L (by omega) L.length 0 _ [] (by omega) (fun x hx => by simp at hx) (by simp) (Nat.le_refl _)
end Go.Proofs.Ytmpjcpkfnjnejaa.Pure
