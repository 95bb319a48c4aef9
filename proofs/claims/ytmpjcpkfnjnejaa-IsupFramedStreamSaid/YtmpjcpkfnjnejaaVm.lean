/-
  Plain mathematics of LEB128 varints: the encoding of a natural number as a list of bytes, the decoder as a function on lists, and that each inverts the other. No program here.
-/
import Derived.Laws.BitsAllLaws
set_option linter.unusedVariables false
namespace Go.Proofs.Ytmpjcpkfnjnejaa.Vm

/-- The encoding: groups of seven bits, the least significant first. -/
def enc (v : Nat) : List Int := if h : v < 128 then [(v : Int)] else ((v % 128 + 128 : Nat) : Int) :: enc (v / 128)
  termination_by v
  decreasing_by omega

theorem enc_small {v : Nat} (h : v < 128) : enc v = [(v : Int)] := by rw [enc]; simp [h]
theorem enc_big {v : Nat} (h : ¬ v < 128) : enc v = ((v % 128 + 128 : Nat) : Int) :: enc (v / 128) := by rw [enc]; simp [h]

/-- The decoder: n groups may still come; b: a group has come; acc: what has come; pw: the next group's weight; pos: the offset. -/
def scan : Nat → List Int → Bool → Int → Int → Int → Int × Int × Int
  | 0, _, _, _, _, _ => (0, 0, 11)
  | _ + 1, [], _, _, _, _ => (0, 0, 10)
  | n + 1, c :: p, b, acc, pw, pos =>
    if c ≥ 128 then scan n p true (acc + (c - 128) * pw) (pw * 128) (pos + 1)
    else if n = 0 ∧ c > 1 then (0, 0, 11)
    else if b = true ∧ c = 0 then (0, 0, 12)
    else (acc + c * pw, pos + 1, 0)

def uintS (l : List Int) (a : Int) : Int × Int × Int := if a < 0 ∨ a > l.length then (0, 0, 1) else scan 10 (l.drop a.toNat) false 0 1 a

theorem enc_pos (v : Nat) : 0 < (enc v).length := by
  by_cases h : v < 128
  · simp [enc_small h]
  · simp [enc_big h]

theorem split_mul (v : Nat) (acc pw : Int) : acc + (((v % 128 + 128 : Nat) : Int) - 128) * pw + ((v / 128 : Nat) : Int) * (pw * 128) = acc + (v : Int) * pw := by
  have h : (v : Int) = (((v % 128 + 128 : Nat) : Int) - 128) + ((v / 128 : Nat) : Int) * 128 := by omega
  generalize (((v % 128 + 128 : Nat) : Int) - 128) = x at *
  generalize ((v / 128 : Nat) : Int) = y at *
  rw [h]
  grind

theorem scan_enc : ∀ (n v : Nat) (q : List Int) (b : Bool) (acc pw pos : Int), v < 2 * 128 ^ n → (b = true → v ≠ 0) →
    scan (n + 1) (enc v ++ q) b acc pw pos = (acc + (v : Int) * pw, pos + ((enc v).length : Int), 0) := by
  intro n
  induction n with
  | zero =>
    intro v q b acc pw pos hv hb
    have hv2 : v < 2 := by simpa using hv
    rw [enc_small (by omega)]
    simp only [List.cons_append, List.nil_append, scan, List.length_cons, List.length_nil]
    rw [if_neg (by omega), if_neg (by omega), if_neg (fun h => hb h.1 (by omega))]
    rfl
  | succ n ih =>
    intro v q b acc pw pos hv hb
    by_cases h : v < 128
    · rw [enc_small h]
      simp only [List.cons_append, List.nil_append, scan, List.length_cons, List.length_nil]
      rw [if_neg (by omega), if_neg (by omega), if_neg (fun h => hb h.1 (by omega))]
      rfl
    · rw [enc_big h]
      simp only [List.cons_append, List.length_cons]
      rw [scan, if_pos (by omega)]
      have hlt : v / 128 < 2 * 128 ^ n := by rw [Nat.pow_succ] at hv; omega
      rw [ih (v / 128) q true _ _ _ hlt (fun _ => by omega), split_mul]
      simp only [Prod.mk.injEq, true_and, and_true]
      omega

theorem scan_take : ∀ (n v j : Nat) (b : Bool) (acc pw pos : Int), v < 2 * 128 ^ n → j < (enc v).length →
    scan (n + 1) ((enc v).take j) b acc pw pos = (0, 0, 10) := by
  intro n
  induction n with
  | zero =>
    intro v j b acc pw pos hv hj
    have hv2 : v < 2 := by simpa using hv
    rw [enc_small (by omega)] at hj ⊢
    obtain rfl : j = 0 := by simpa using hj
    rfl
  | succ n ih =>
    intro v j b acc pw pos hv hj
    cases j with
    | zero => simp [scan]
    | succ j =>
      by_cases h : v < 128
      · rw [enc_small h] at hj
        simp at hj
      · rw [enc_big h] at hj ⊢
        rw [List.take_succ_cons, scan, if_pos (by omega)]
        have hlt : v / 128 < 2 * 128 ^ n := by rw [Nat.pow_succ] at hv; omega
        exact ih (v / 128) j true _ _ _ hlt (by simpa using hj)

theorem scan_err : ∀ (n : Nat) (p : List Int) (b : Bool) (acc pw pos : Int), (scan n p b acc pw pos).2.2 ≠ 0 → (scan n p b acc pw pos).1 = 0 ∧ (scan n p b acc pw pos).2.1 = 0 := by
  intro n
  induction n with
  | zero => intro p b acc pw pos h; exact ⟨rfl, rfl⟩
  | succ n ih =>
    intro p b acc pw pos h
    cases p with
    | nil => exact ⟨rfl, rfl⟩
    | cons c p =>
      rw [scan] at h ⊢
      by_cases h1 : c ≥ 128
      · rw [if_pos h1] at h ⊢; exact ih _ _ _ _ _ h
      · rw [if_neg h1] at h ⊢
        by_cases h2 : n = 0 ∧ c > 1
        · rw [if_pos h2]; exact ⟨rfl, rfl⟩
        · rw [if_neg h2] at h ⊢
          by_cases h3 : b = true ∧ c = 0
          · rw [if_pos h3]; exact ⟨rfl, rfl⟩
          · rw [if_neg h3] at h; exact absurd rfl h

def Bytes (l : List Int) : Prop := ∀ c ∈ l, 0 ≤ c ∧ c ≤ 255

theorem scan_canon : ∀ (n : Nat) (p : List Int) (b : Bool) (acc pw pos u nx : Int), Bytes p → scan n p b acc pw pos = (u, nx, 0) →
    ∃ (v : Nat) (q : List Int), p = enc v ++ q ∧ u = acc + (v : Int) * pw ∧ nx = pos + ((enc v).length : Int) ∧ 0 < n ∧ v < 2 * 128 ^ (n - 1) ∧ (b = true → v ≠ 0) := by
  intro n
  induction n with
  | zero => intro p b acc pw pos u nx hp h; simp [scan] at h
  | succ n ih =>
    intro p b acc pw pos u nx hp h
    cases p with
    | nil => simp [scan] at h
    | cons c p =>
      have hc := hp c (by simp)
      rw [scan] at h
      by_cases h1 : c ≥ 128
      · rw [if_pos h1] at h
        obtain ⟨v, q, rfl, hu, hnx, hn, hv, hb⟩ := ih p true _ _ _ u nx (fun x hx => hp x (by simp [hx])) h
        have hv0 := hb rfl
        obtain ⟨m, rfl⟩ : ∃ m, n = m + 1 := ⟨n - 1, by omega⟩
        have e0 : ¬ ((c - 128).toNat + 128 * v) < 128 := by omega
        have e1 : ((c - 128).toNat + 128 * v) / 128 = v := by omega
        have e2 : ((((c - 128).toNat + 128 * v) % 128 + 128 : Nat) : Int) = c := by omega
        refine ⟨(c - 128).toNat + 128 * v, q, ?_, ?_, ?_, by omega, ?_, fun _ => by omega⟩
        · rw [enc_big e0, e1, e2]; rfl
        · have := split_mul ((c - 128).toNat + 128 * v) acc pw
          rw [e1, e2] at this
          rw [hu, this]
        · rw [enc_big e0, e1, hnx]
          simp only [List.length_cons]
          omega
        · simp only [Nat.add_sub_cancel] at hv ⊢
          rw [Nat.pow_succ]
          omega
      · rw [if_neg h1] at h
        by_cases h2 : n = 0 ∧ c > 1
        · rw [if_pos h2] at h; simp at h
        · rw [if_neg h2] at h
          by_cases h3 : b = true ∧ c = 0
          · rw [if_pos h3] at h; simp at h
          · rw [if_neg h3] at h
            simp only [Prod.mk.injEq, and_true] at h
            have e : enc c.toNat = [c] := by rw [enc_small (by omega), Int.toNat_of_nonneg hc.1]
            refine ⟨c.toNat, p, by rw [e]; rfl, ?_, ?_, by omega, ?_, fun hb h0 => h3 ⟨hb, by omega⟩⟩
            · rw [Int.toNat_of_nonneg hc.1]; exact h.1.symm
            · rw [e]; simp [h.2]
            · simp only [Nat.add_sub_cancel]
              rcases Nat.eq_zero_or_pos n with rfl | hn
              · simp at h2 ⊢; omega
              · obtain ⟨m, rfl⟩ : ∃ m, n = m + 1 := ⟨n - 1, by omega⟩
                have := (Nat.pow_pos (by decide) : 0 < 128 ^ m)
                rw [Nat.pow_succ]; omega

end Go.Proofs.Ytmpjcpkfnjnejaa.Vm
