/-
  hdlc: frames that are laid end to end are taken apart again (the plain law).
-/
import Derived.Test.YtmpjcpkfnjnejaaHqm
import Derived.Test.YtmpjcpkfnjnejaaVn
set_option linter.unusedVariables false
namespace Go.Proofs.Ytmpjcpkfnjnejaa.Hq
open Go.RowKit Go.Proofs.Ytmpjcpkfnjnejaa.Is Go.Proofs.YtmpjcpkfnjnejaaW.PrintWords Go.Proofs.YtmpjcpkfnjnejaaW.PrintLast Go.Proofs.YtmpjcpkfnjnejaaW.PrintMore

theorem u16_wrap {x : Int} (h0 : 0 ≤ x) (h1 : x ≤ 65535) : IntKind.u16.wrap x = x := by
  simp [IntKind.wrap, IntKind.bits, IntKind.signed]
  omega
theorem u16_or (x y : Int) (hx : 0 ≤ x) (hx2 : x ≤ 65535) (hy : 0 ≤ y) (hy2 : y ≤ 65535) : bits .or .u16 x y = ((x.toNat ||| y.toNat : Nat) : Int) := by
  obtain ⟨a, rfl⟩ := Int.eq_ofNat_of_zero_le hx
  obtain ⟨b, rfl⟩ := Int.eq_ofNat_of_zero_le hy
  have hz : a ||| b < 2 ^ 16 := Nat.or_lt_two_pow (by omega) (by omega)
  have h1 : (BitVec.ofInt 16 (a : Int)).toNat = a := by
    rw [BitVec.ofInt_natCast, BitVec.toNat_ofNat]; exact Nat.mod_eq_of_lt (by omega)
  have h2 : (BitVec.ofInt 16 (b : Int)).toNat = b := by
    rw [BitVec.ofInt_natCast, BitVec.toNat_ofNat]; exact Nat.mod_eq_of_lt (by omega)
  show IntKind.u16.wrap ((BitVec.ofInt 16 (a : Int) ||| BitVec.ofInt 16 (b : Int)).toNat : Int) = _
  rw [BitVec.toNat_or, h1, h2, Int.toNat_natCast, Int.toNat_natCast]
  exact u16_wrap (by omega) (by omega)
theorem or16_eq {n : Int} (h0 : 0 ≤ n) (h1 : n ≤ 65535) : or16 (n % 256) (n / 256 % 256) = n := by
  have a0 : 0 ≤ n % 256 := by omega
  have b0 : n / 256 % 256 = n / 256 := by omega
  unfold or16
  rw [b0, u16_wrap (by omega) (by omega), u16_wrap (x := n / 256) (by omega) (by omega), u16_wrap (x := n / 256 * 256) (by omega) (by omega), u16_or _ _ (by omega) (by omega) (by omega) (by omega)]
  have e1 : (n / 256 * 256).toNat = 2 ^ 8 * (n / 256).toNat := by omega
  have e2 : (n % 256).toNat < 2 ^ 8 := by omega
  rw [e1, Nat.or_comm, ← Nat.two_pow_add_eq_or_of_lt e2]
  omega
theorem spc_iff (x : Int) : spc x = true ↔ x = 126 ∨ x = 125 := by simp [spc]
theorem flp_facts {x : Int} (h : spc x = true) : flp (flp x) = x ∧ flp x ≠ 126 ∧ flp x ≠ 125 ∧ 0 ≤ flp x ∧ flp x ≤ 255 := by
  rcases (spc_iff x).1 h with rfl | rfl
  · exact ⟨by decide +kernel, by decide +kernel, by decide +kernel, by decide +kernel, by decide +kernel⟩
  · exact ⟨by decide +kernel, by decide +kernel, by decide +kernel, by decide +kernel, by decide +kernel⟩
theorem unst_stuff : ∀ (l wh r : List Int), unst false wh (stuff l ++ r) = unst false (wh ++ l) r
  | [], wh, r => by simp [stuff]
  | x :: l, wh, r => by
    have e : stuff (x :: l) ++ r = stuff1 x ++ (stuff l ++ r) := by simp [stuff]
    rw [e]
    have e2 : wh ++ x :: l = (wh ++ [x]) ++ l := by simp
    rw [e2, ← unst_stuff l (wh ++ [x]) r]
    unfold stuff1
    by_cases h : spc x = true
    · obtain ⟨f1, _⟩ := flp_facts h
      rw [if_pos h]
      show (if (125 : Int) = 125 then unst true wh (flp x :: (stuff l ++ r)) else unst false (wh ++ [125]) (flp x :: (stuff l ++ r))) = _
      rw [if_pos rfl]
      show (if spc (flp (flp x)) = true then unst false (wh ++ [flp (flp x)]) (stuff l ++ r) else none) = _
      rw [f1, if_pos h]
    · rw [if_neg h]
      have h2 : x ≠ 125 := fun e => h ((spc_iff x).2 (.inr e))
      show (if x = 125 then unst true wh (stuff l ++ r) else unst false (wh ++ [x]) (stuff l ++ r)) = _
      rw [if_neg h2]
theorem stuff_no {l : List Int} : ∀ x ∈ stuff l, x ≠ 126 := by
  intro x hx
  obtain ⟨y, hy, hx⟩ := List.mem_flatMap.1 hx
  unfold stuff1 at hx
  split at hx
  · rename_i h
    obtain ⟨_, f2, _⟩ := flp_facts h
    simp only [List.mem_cons, List.not_mem_nil, or_false] at hx
    rcases hx with rfl | rfl
    · decide
    · exact f2
  · rename_i h
    simp only [List.mem_cons, List.not_mem_nil, or_false] at hx
    subst hx
    exact fun e => h ((spc_iff _).2 (.inl e))
theorem stuff_by {l : List Int} (hl : ∀ c ∈ l, 0 ≤ c ∧ c ≤ 255) : ∀ x ∈ stuff l, 0 ≤ x ∧ x ≤ 255 := by
  intro x hx
  obtain ⟨y, hy, hx⟩ := List.mem_flatMap.1 hx
  unfold stuff1 at hx
  split at hx
  · rename_i h
    obtain ⟨_, _, _, f4, f5⟩ := flp_facts h
    simp only [List.mem_cons, List.not_mem_nil, or_false] at hx
    rcases hx with rfl | rfl
    · decide
    · exact ⟨f4, f5⟩
  · simp only [List.mem_cons, List.not_mem_nil, or_false] at hx
    subst hx
    exact hl _ hy
theorem open_stuff {p : List Int} (hp : p.length ≤ 4096) : openH (stuff (p ++ tailS (fcsS p))) = (p, 0) := by
  have hu : unst false [] (stuff (p ++ tailS (fcsS p))) = some (p ++ tailS (fcsS p), false) := by
    have := unst_stuff (p ++ tailS (fcsS p)) [] []
    rw [List.append_nil] at this
    rw [this]
    rfl
  have hl : (p ++ tailS (fcsS p)).length = p.length + 2 := by rw [List.length_append]; rfl
  have e3 : (p ++ tailS (fcsS p)).take p.length = p := by simp
  have g0 : getB (p ++ tailS (fcsS p)) p.length = fcsS p % 256 := by simp [getB, tailS]
  have g1 : getB (p ++ tailS (fcsS p)) (p.length + 1) = fcsS p / 256 % 256 := by simp [getB, tailS]
  have hb := fcs_lt p
  rw [openH_good hu hl hp, e3, g0, g1, or16_eq hb.1 hb.2, if_pos rfl]
theorem open_nil : openOk [] = none := by decide +kernel
theorem openOk_stuff {p : List Int} (hp : p.length ≤ 4096) : openOk (stuff (p ++ tailS (fcsS p))) = some p := by
  unfold openOk
  rw [open_stuff hp]
  rfl
theorem pcs_one : ∀ (s cur r : List Int), (∀ x ∈ s, x ≠ 126) → pcs cur (s ++ 126 :: r) = (cur ++ s) :: pcs [] r
  | [], cur, r, _ => by
    show (if (126 : Int) = 126 then cur :: pcs [] r else pcs (cur ++ [126]) r) = _
    rw [if_pos rfl, List.append_nil]
  | x :: s, cur, r, h => by
    show (if x = 126 then cur :: pcs [] (s ++ 126 :: r) else pcs (cur ++ [x]) (s ++ 126 :: r)) = _
    rw [if_neg (h x (List.mem_cons_self ..)), pcs_one s _ r (fun y hy => h y (List.mem_cons_of_mem _ hy))]
    simp
/-- The frames of some payloads, end to end. -/
def strm (ps : List (List Int)) : List Int := ps.flatMap (fun p => (encH p).1)
theorem encH_1 {p : List Int} (hp : p.length ≤ 4096) : encH p = (126 :: (stuff (p ++ tailS (fcsS p)) ++ [126]), 0) := if_neg (by omega)
theorem strm_cons {p : List Int} (hp : p.length ≤ 4096) (ps : List (List Int)) : strm (p :: ps) = 126 :: (stuff (p ++ tailS (fcsS p)) ++ 126 :: strm ps) := by
  unfold strm
  rw [List.flatMap_cons, encH_1 hp]
  simp
theorem pcs_strm : ∀ (ps : List (List Int)), (∀ p ∈ ps, p.length ≤ 4096) → (pcs [] (strm ps)).filterMap openOk = ps
  | [], _ => rfl
  | p :: ps, h => by
    have hp := h p (List.mem_cons_self ..)
    rw [strm_cons hp]
    show (if (126 : Int) = 126 then ([] : List Int) :: pcs [] (stuff (p ++ tailS (fcsS p)) ++ 126 :: strm ps) else _).filterMap openOk = _
    rw [if_pos rfl, pcs_one _ _ _ stuff_no, List.filterMap_cons, open_nil, List.nil_append, List.filterMap_cons, openOk_stuff hp, pcs_strm ps (fun q hq => h q (List.mem_cons_of_mem _ hq))]
theorem scan_strm (ps : List (List Int)) (h : ∀ p ∈ ps, p.length ≤ 4096) : (scanH (strm ps)).1 = ps := by
  cases ps with
  | nil => rfl
  | cons p ps =>
    have hp := h p (List.mem_cons_self ..)
    have ha : aft (strm (p :: ps)) = some (stuff (p ++ tailS (fcsS p)) ++ 126 :: strm ps) := by
      rw [strm_cons hp]
      exact if_pos rfl
    unfold scanH
    rw [ha]
    show (pcs [] (stuff (p ++ tailS (fcsS p)) ++ 126 :: strm ps)).filterMap openOk = _
    rw [pcs_one _ _ _ stuff_no, List.nil_append, List.filterMap_cons, openOk_stuff hp, pcs_strm ps (fun q hq => h q (List.mem_cons_of_mem _ hq))]
theorem strm_by : ∀ (ps : List (List Int)), (∀ p ∈ ps, p.length ≤ 4096 ∧ ∀ c ∈ p, 0 ≤ c ∧ c ≤ 255) → ∀ c ∈ strm ps, 0 ≤ c ∧ c ≤ 255
  | [], _, c, hc => by simp [strm] at hc
  | p :: ps, h, c, hc => by
    obtain ⟨hp, hb⟩ := h p (List.mem_cons_self ..)
    rw [strm_cons hp] at hc
    have ht : ∀ c ∈ p ++ tailS (fcsS p), 0 ≤ c ∧ c ≤ 255 := by
      intro c hc
      rcases List.mem_append.1 hc with hc | hc
      · exact hb c hc
      · have hc : c = fcsS p % 256 ∨ c = fcsS p / 256 % 256 := by simpa [tailS] using hc
        rcases hc with rfl | rfl <;> omega
    rcases List.mem_cons.1 hc with rfl | hc
    · decide
    · rcases List.mem_append.1 hc with hc | hc
      · exact stuff_by ht c hc
      · rcases List.mem_cons.1 hc with rfl | hc
        · decide
        · exact strm_by ps (fun q hq => h q (List.mem_cons_of_mem _ hq)) c hc
end Go.Proofs.Ytmpjcpkfnjnejaa.Hq
