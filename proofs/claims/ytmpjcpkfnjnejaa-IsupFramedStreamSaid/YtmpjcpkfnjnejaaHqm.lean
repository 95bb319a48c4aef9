/-
  isup, merged by wip/tools/merge.py out of: Hc1, Hc2, Hs0, Hc3, Hc4, Hc5, Hc6
-/
import Derived.Test.YtmpjcpkfnjnejaaIa
import Derived.RegionTactic
import Derived.ChangeAlike
import Derived.Deep.QuietTactic
import Derived.BigQuiet
import Derived.Shelf.Abstract
import Derived.Laws.NewBlocks
import Derived.Laws.Rows
import Derived.Deep.WholeRow
import Derived.OpenShut
import Derived.Test.YtmpjcpkfnjnejaaVm
import Derived.Lib.SliceRun
import Derived.Deep.RegionHeld3
import Derived.Laws.MakeOwn
import Derived.WalkMore
import Derived.Lib.BytesEntry
import Derived.RangeFuncNested
import Derived.RangeFuncBound
import Derived.RangeFuncCalls
import Derived.RangeFuncLeaves
import Derived.Shelf.RegionOpen
import Derived.WalkKit
import Derived.OwnWalkIn
import Derived.TacticsInMore
import Derived.LoopNIn
import Derived.LoopIn
/-
  hdlc by hand: the table of a check sum's steps.
-/
namespace Go.Proofs.Ytmpjcpkfnjnejaa.Hq
open Go.RowKit Go.Shelf Go.Proofs.YtmpjcpkfnjnejaaW.PrintWords Go.Proofs.YtmpjcpkfnjnejaaW.PrintLast Go.Proofs.YtmpjcpkfnjnejaaW.PrintMore Go.Proofs.Ytmpjcpkfnjnejaa.Is
set_option linter.unusedVariables false
set_option linter.unusedSimpArgs false

/-- One step of the check sum. -/
def stp (n : Int) : Int := bits .xor .u16 (n / 2) (bits .and .u16 33800 (IntKind.u16.wrap (-bits .and .u16 n 1)))
def stpN : Nat → Int → Int
  | 0, n => n
  | m + 1, n => stp (stpN m n)
def tabS (i : Nat) : Int := stpN 8 (i : Int)
/-- The table's first i places are filled. -/
structure Tab (w : World) (g i : Nat) : Prop where
  ex : ∃ cs : Array Value, w.heap[g]? = some (.cells cs 77 (0, 0)) ∧ cs.size = 256 ∧ (∀ (j : Nat) (v : Value), cs[j]? = some v → v.oneCell' = true) ∧ ∀ j, j < i → cs[j]? = some (.int .u16 (tabS j))

def tabA : Array Value := ((List.range 256).map fun j => Value.int .u16 (tabS j)).toArray
theorem tabA_size : tabA.size = 256 := by simp [tabA]
theorem tabA_at {j : Nat} (h : j < 256) : tabA[j]? = some (.int .u16 (tabS j)) := by simp [tabA, h]
theorem tabA_one : tabA.all (·.oneCell') = true := by
  rw [Array.all_eq_true_iff_forall_mem]
  intro v hv
  simp only [tabA, List.mem_toArray, List.mem_map] at hv
  obtain ⟨j, _, rfl⟩ := hv
  rfl
theorem tabA_eq {cs : Array Value} (h : cs.size = 256) (h' : ∀ j, j < 256 → cs[j]? = some (.int .u16 (tabS j))) : cs = tabA := by
  apply Array.ext
  · rw [h, tabA_size]
  · intro j h1 h2
    have a := h' j (by omega)
    have b := tabA_at (j := j) (by omega)
    rw [Array.getElem?_eq_getElem h1] at a
    rw [Array.getElem?_eq_getElem h2] at b
    rw [Option.some.inj a, Option.some.inj b]

set_option maxHeartbeats 2000000 in
set_option maxRecDepth 100000 in
theorem table_calls (w : World) : Calls Try.prog 39 #[] w fun e w' => e = .returned (.agg tabA) ∧ Below w.heap.size w w' := by
  go_enter Try.func39, Try.ntmps39
  go_wp2
  go_loopg [4] 256 (fun kq v4 w' => ∃ i : Nat, i + kq = 256 ∧ v4 = .int .i64 (i : Int) ∧ Aside0 (Tab w' (w.heap.size + 1) i) ∧ Aside0 (w'.heap[w.heap.size]? = some (.cells Try.zeroCells77 77 (0, 0))) ∧ Aside0 (Below w.heap.size w w'))
  case atStart =>
    refine ⟨0, by omega, rfl, ⟨⟨⟨Try.zeroCells77, heap_alloc2_new _ _ _, by decide +kernel, ?_, fun j hj => absurd hj (by omega)⟩⟩⟩, ⟨?_⟩, ⟨below_alloc (below_alloc (Below.refl _ _) _) _⟩⟩
    · intro j v hv
      have h : Try.zeroCells77.all (·.oneCell') = true := by kernel_rfl
      have h' := Array.all_eq_true_iff_forall_mem.1 h
      exact h' v (Array.mem_of_getElem? hv)
    · exact (heap_alloc_old _ _ (by rw [World.size_alloc]; omega)).trans (heap_alloc_new _ _)
  case round =>
    obtain ⟨i, hi, rfl, HT, HZ, HB⟩ := hrel
    cases gk with
    | zero =>
      have hlt : decide ((i : Int) < 256) = false := decide_eq_false (by omega)
      go_wp2
      obtain ⟨cs, h1, h2, h3, h4⟩ := HT.out.ex
      have hi : i = 256 := by omega
      subst hi
      have e := tabA_eq h2 h4
      subst e
      refine wp_load_row _ _ rfl _ rfl _ _ _ (.array 256 58) h1 rfl rfl rfl ?_
      go_wp2
      have hs := run_storeCells_from (P := Try.prog) w.heap.size 77 tabA.toList 0 Try.zeroCells77 wr HZ.out (by rw [Array.length_toList, tabA_size]; decide +kernel) (fun v hv => (Array.all_eq_true_iff_forall_mem.1 tabA_one) v (by simpa using hv))
      rw [hs]
      clear hs
      simp only [List.take_zero, List.nil_append, Array.toArray_toList, Result.andThen_ok]
      go_wp2
      refine bodyPost_ret (results_cell_row (fn := Try.f39) rfl _ _ w.heap.size _ tabA _ (.array 256 58) rfl (setRow_heap _ _ _ _ _ _ HZ.out) rfl rfl rfl) rfl ⟨rfl, ⟨HB.out.os, HB.out.tape, HB.out.output, by rw [setRow_size]; exact HB.out.size, fun k hk => (setRow_other _ _ _ _ (Nat.ne_of_lt hk)).trans (HB.out.block k hk)⟩⟩
    | succ k1 =>
      have hlt : decide ((i : Int) < 256) = true := decide_eq_true (by omega)
      obtain ⟨cs, h1, h2, h3, h4⟩ := HT.out.ex
      have hz : ((i : Int) < 256) = True := eq_true (by omega)
      have hzz : (i < 256) = True := eq_true (by omega)
      have y1 : wr.cell? ⟨w.heap.size + 1, i, none⟩ = some cs[i] := by simp [World.cell?, h1]
      have f1 : wr.frozen? ⟨w.heap.size + 1, i, none⟩ = false := by simp [World.frozen?, h1]
      have H1 := Aside0.mk h1
      have H3 := Aside0.mk h3
      have H4 := Aside0.mk h4
      clear h1 h3 h4
      go_wp2
      go_loopg [9, 3] 8 (fun kp v9 v3 w2 => ∃ m : Nat, m + kp = 8 ∧ v9 = .int .i64 (m : Int) ∧ v3 = .int .u16 (stpN m (i : Int)) ∧ w2 = wr)
      case atStart => exact ⟨0, by omega, rfl, rfl, rfl⟩
      case round =>
        obtain ⟨m, hm, rfl, rfl, rfl⟩ := hrel
        cases gk with
        | zero =>
          have hlt2 : decide ((m : Int) < 8) = false := decide_eq_false (by omega)
          go_wp2
          go_roundg k1
          case measure => omega
          case rel =>
            have hm : m = 8 := by omega
            subst hm
            refine ⟨i + 1, by omega, rfl, ⟨⟨⟨cs.set i (.int .u16 (tabS i)) (by omega), ?_, by simp [h2], ?_, ?_⟩⟩⟩, ⟨?_⟩, ⟨HB.out.setCell (p := ⟨w.heap.size + 1, i, none⟩) (Nat.le_succ _) _⟩⟩
            · simp [World.setCell, Array.getElem?_modify, H1.out, Array.setIfInBounds, h2, show i < 256 from by omega, tabS]
            · intro j v hv
              rw [Array.getElem?_set] at hv
              split at hv
              · cases hv; rfl
              · exact H3.out j v hv
            · intro j hj
              rw [Array.getElem?_set]
              split
              · subst_vars; rfl
              · exact H4.out j (by omega)
            · exact (Below.heap_setCell _ ⟨w.heap.size + 1, i, none⟩ _ w.heap.size (by simp)).trans HZ.out
        | succ kp =>
          have hlt2 : decide ((m : Int) < 8) = true := decide_eq_true (by omega)
          go_wp2
          go_roundg kp
          case measure => omega
          case rel => exact ⟨m + 1, by omega, rfl, rfl, rfl⟩
end Go.Proofs.Ytmpjcpkfnjnejaa.Hq
/-
  hdlc by hand: the check sum, and which bytes are escaped.
-/
namespace Go.Proofs.Ytmpjcpkfnjnejaa.Hq
open Go.RowKit Go.Shelf Go.Proofs.YtmpjcpkfnjnejaaW.PrintWords Go.Proofs.YtmpjcpkfnjnejaaW.PrintLast Go.Proofs.YtmpjcpkfnjnejaaW.PrintMore Go.Proofs.Ytmpjcpkfnjnejaa.Is
set_option linter.unusedVariables false
set_option linter.unusedSimpArgs false

/-- A byte more. -/
def crc (n x : Int) : Int := bits .xor .u16 (tabS (bits .xor .u8 (n % 256) x).toNat) (n / 256)
def crcN : Int → List Int → Int
  | n, [] => n
  | n, x :: l => crcN (crc n x) l
theorem crcN_snoc (n : Int) (l : List Int) (x : Int) : crcN n (l ++ [x]) = crc (crcN n l) x := by
  induction l generalizing n with
  | nil => rfl
  | cons y l ih => exact ih _
theorem take_rd {l : List Int} {i : Nat} (h : i < l.length) : l.take (i + 1) = l.take i ++ [rd l (i : Int)] := by
  rw [List.take_add_one]
  congr 1
  simp [rd, List.getD_eq_getElem?_getD, h]
def fcsS (l : List Int) : Int := bits .xor .u16 IntKind.u16.max (crcN 65535 l)
theorem u8_lt (x y : Int) : 0 ≤ bits .xor .u8 x y ∧ bits .xor .u8 x y < 256 := by
  have := bounds_u8 (wf_bits .xor .u8 x y)
  omega
theorem fcs_lt (l : List Int) : 0 ≤ fcsS l ∧ fcsS l ≤ 65535 := bounds_u16 (wf_bits .xor .u16 _ _)

def spc (x : Int) : Bool := decide (x = 126) || decide (x = 125)
theorem special_calls (x : Int) (w : World) : Calls Try.prog 20 #[.int .u8 x] w fun e w' => e = .returned (.bool (spc x)) ∧ w' = w := by
  by_cases h1 : x = 126
  · subst h1
    go_enter Try.func20, Try.ntmps20
    go_wp2
    go_ret
    exact ⟨rfl, rfl⟩
  · by_cases h2 : x = 125
    · subst h2
      go_enter Try.func20, Try.ntmps20
      go_wp2
      go_ret
      exact ⟨rfl, rfl⟩
    · have e : spc x = false := by simp [spc, h1, h2]
      rw [e]
      have h3 : (x == 126) = false := beq_eq_false_iff_ne.2 h1
      have h4 : (x == 125) = false := beq_eq_false_iff_ne.2 h2
      go_enter Try.func20, Try.ntmps20
      go_wp2
      go_ret
      exact ⟨rfl, rfl⟩

set_option maxHeartbeats 2000000 in
set_option maxRecDepth 100000 in
theorem FCS_calls (A : Option Addr) (c : Nat) (l : List Int) (w : World) (hC : Kd.C (Kd.int .u8) w A l.length l) (hc : l.length ≤ c) :
    Calls Try.prog 19 #[.slice A l.length c] w fun e w' => e = .returned (.int .u16 (fcsS l)) ∧ Below w.heap.size w w' := by
  have HC := Aside0.mk hC
  clear hC hc
  go_enter Try.func19, Try.ntmps19
  go_wp2_with (go_at_call 39; (with_reducible refine (table_calls _).mono ?_); rintro e w1 ⟨rfl, hb⟩; have HB := Aside0.mk hb; clear hb)
  rw [run_storeCells_from (P := Try.prog) w1.heap.size 77 tabA.toList 0 Try.zeroCells77 _ (heap_alloc_new _ _) (by rw [Array.length_toList, tabA_size]; decide +kernel) (fun v hv => (Array.all_eq_true_iff_forall_mem.1 tabA_one) v (by simpa using hv))]
  simp only [List.take_zero, List.nil_append, Array.toArray_toList, Result.andThen_ok, World.setRow_alloc_new]
  have HT := Aside0.mk (heap_alloc_new w1 (.cells tabA 77))
  have HW := Aside0.mk (below_alloc HB.out (.cells tabA 77))
  have HD := Aside0.mk (Kd.C_alloc (Kd.C_below HC.out HB.out) (.cells tabA 77))
  clear HB HC
  generalize w1.alloc (.cells tabA 77) = W at HT HW HD ⊢
  generalize w1.heap.size = g at HT ⊢
  have hsz := tabA_size
  go_wp2
  go_loopg [4, 10] l.length (fun kq v4 v10 w' => ∃ i : Nat, i + kq = l.length ∧ v10 = .int .i64 (i : Int) ∧ v4 = .int .u16 (crcN 65535 (l.take i)) ∧ w' = W)
  case atStart => exact ⟨0, by omega, rfl, rfl, rfl⟩
  case round =>
    obtain ⟨i, hi, rfl, rfl, rfl⟩ := hrel
    cases gk with
    | zero =>
      have hlt : decide ((i : Int) < (l.length : Int)) = false := decide_eq_false (by omega)
      have hlu : decide (i < l.length) = false := decide_eq_false (by omega)
      have hall : l.take i = l := List.take_of_length_le (by omega)
      rw [hall]
      go_wp2
      go_ret
      exact ⟨rfl, HW.out⟩
    | succ k1 =>
      have hlt : decide ((i : Int) < (l.length : Int)) = true := decide_eq_true (by omega)
      have hlu : decide (i < l.length) = true := decide_eq_true (by omega)
      have hlp : ((i : Int) < (l.length : Int)) = True := eq_true (by omega)
      obtain ⟨ad, e, hx⟩ := Kd.at_int HD.out (i : Int) (by omega) (by omega)
      cases e
      rw [Int.toNat_natCast] at hx
      have ht := take_rd (l := l) (i := i) (by omega)
      obtain ⟨n, hn⟩ : ∃ n, n = crcN 65535 (l.take i) := ⟨_, rfl⟩
      have e1 : crcN 65535 (l.take (i + 1)) = crc n (rd l (i : Int)) := by rw [ht, crcN_snoc, hn]
      rw [← hn]
      obtain ⟨m, hm⟩ : ∃ m, bits .xor .u8 (n % 256) (rd l (i : Int)) = m := ⟨_, rfl⟩
      have e2 : crc n (rd l (i : Int)) = bits .xor .u16 (tabS m.toNat) (n / 256) := by unfold crc; rw [hm]
      have hb := u8_lt (n % 256) (rd l (i : Int))
      rw [hm] at hb
      obtain ⟨m0, m1⟩ := hb
      have y1 : wr.cell? ⟨g, m.toNat, none⟩ = some (.int .u16 (tabS m.toNat)) := by
        rw [cell_of_row _ _ _ _ _ _ HT.out]
        exact tabA_at (by omega)
      have E := Aside0.mk (e1.trans e2)
      clear e1 e2 hn ht
      go_wp2
      go_roundg k1
      case measure => omega
      case rel =>
        have e1 : wrap64 ((i : Int) + 1) = ((i + 1 : Nat) : Int) := by have := Kd.C_max HD.out; unfold wrap64; omega
        exact ⟨i + 1, by omega, by rw [e1], by rw [E.out], rfl⟩
end Go.Proofs.Ytmpjcpkfnjnejaa.Hq
/-
  hdlc: what Encode, open and Scan compute, as plain functions of lists of bytes.
-/
namespace Go.Proofs.Ytmpjcpkfnjnejaa.Hq
open Go.RowKit Go.Shelf Go.Proofs.YtmpjcpkfnjnejaaW.PrintWords Go.Proofs.YtmpjcpkfnjnejaaW.PrintLast Go.Proofs.YtmpjcpkfnjnejaaW.PrintMore Go.Proofs.Ytmpjcpkfnjnejaa.Is
set_option linter.unusedVariables false
set_option linter.unusedSimpArgs false

def flp (x : Int) : Int := bits .xor .u8 x 32
def stuff1 (x : Int) : List Int := if spc x = true then [125, flp x] else [x]
def stuff (l : List Int) : List Int := l.flatMap stuff1
def tailS (n : Int) : List Int := [n % 256, n / 256 % 256]
/-- hdlc.Encode. -/
def encH (l : List Int) : List Int × Int := if 4096 < l.length then ([], 2) else (126 :: (stuff (l ++ tailS (fcsS l)) ++ [126]), 0)
/-- The escapes taken out: the bytes, and whether an escape is open at the end. -/
def unst : Bool → List Int → List Int → Option (List Int × Bool)
  | esc, wh, [] => some (wh, esc)
  | true, wh, x :: xs => if spc (flp x) = true then unst false (wh ++ [flp x]) xs else none
  | false, wh, x :: xs => if x = 125 then unst true wh xs else unst false (wh ++ [x]) xs
def getB (l : List Int) (n : Nat) : Int := l.getD n 0
def or16 (a b : Int) : Int := bits .or .u16 (IntKind.u16.wrap a) (IntKind.u16.wrap (IntKind.u16.wrap b * 256))
/-- hdlc.open. -/
def openH (l : List Int) : List Int × Int :=
  match unst false [] l with
  | none => ([], 20)
  | some (wh, esc) =>
    if esc = true ∨ wh.length < 2 ∨ 4096 < wh.length - 2 then ([], 20)
    else if fcsS (wh.take (wh.length - 2)) = or16 (getB wh (wh.length - 2)) (getB wh (wh.length - 1)) then (wh.take (wh.length - 2), 0) else ([], 21)
/-- What lies between the flags, behind the first. -/
def pcs : List Int → List Int → List (List Int)
  | cur, [] => []
  | cur, x :: xs => if x = 126 then cur :: pcs [] xs else pcs (cur ++ [x]) xs
def lastF : Int → Int → List Int → Int
  | p, u, [] => u
  | p, u, x :: xs => if x = 126 then lastF (p + 1) p xs else lastF (p + 1) u xs
def openOk (l : List Int) : Option (List Int) := if (openH l).2 = 0 then some (openH l).1 else none
/-- Behind the first flag. -/
def aft : List Int → Option (List Int)
  | [] => none
  | x :: xs => if x = 126 then some xs else aft xs
/-- hdlc.Scan. -/
def scanH (l : List Int) : List (List Int) × Int :=
  match aft l with
  | none => ([], (l.length : Int))
  | some r => ((pcs [] r).filterMap openOk, lastF 0 0 l)
end Go.Proofs.Ytmpjcpkfnjnejaa.Hq
/-
  hdlc by hand: Encode. (Printed by wip/tools/emit_hc3.py.)
-/
namespace Go.Proofs.Ytmpjcpkfnjnejaa.Hq
open Go.RowKit Go.Shelf Go.Proofs.YtmpjcpkfnjnejaaW.PrintWords Go.Proofs.YtmpjcpkfnjnejaaW.PrintLast Go.Proofs.YtmpjcpkfnjnejaaW.PrintMore Go.Proofs.Ytmpjcpkfnjnejaa.Is
set_option linter.unusedVariables false
set_option linter.unusedSimpArgs false

theorem C_blk {w : World} {g : Nat} {t : TypeId} {fr : Nat × Nat} {l : List Int} (h : w.heap[g]? = some (.cells (l.map (Value.int .u8)).toArray t fr)) (hl : l.length ≤ 9223372036854775807) : Kd.C (Kd.int .u8) w (some ⟨g, 0, none⟩) l.length l := by
  refine ⟨rfl, hl, fun _ => ⟨⟨g, 0, none⟩, rfl, fun j q hq => ⟨[.int .u8 q], rfl, rfl, fun i u hu => ?_⟩⟩⟩
  have hi : i = 0 := by
    cases i with
    | zero => rfl
    | succ i => simp at hu
  subst hi
  simp only [List.getElem?_cons_zero, Option.some.injEq] at hu
  subst hu
  have e : (⟨g, 0, none⟩ : Addr).add (j * 1 + 0) = ⟨g, j, none⟩ := by rw [Addr.add_lit]; simp
  have e2 : (⟨g, 0, none⟩ : Addr).add (j * (Kd.int .u8).sz + 0) = ⟨g, j, none⟩ := e
  rw [e2, cell_of_row _ _ _ _ _ _ h]
  simp [hq]
theorem stuff_snoc (l : List Int) (x : Int) : stuff (l ++ [x]) = stuff l ++ stuff1 x := by simp [stuff]
theorem stuff_len (l : List Int) : (stuff l).length ≤ 2 * l.length := by
  induction l with
  | nil => simp [stuff]
  | cons x l ih =>
    have e : stuff (x :: l) = stuff1 x ++ stuff l := rfl
    have h : (stuff1 x).length ≤ 2 := by unfold stuff1; split <;> simp
    rw [e, List.length_append, List.length_cons]
    omega
theorem stuff_append (l m : List Int) : stuff (l ++ m) = stuff l ++ stuff m := by simp [stuff]
theorem ne_own {w : World} {base g : Nat} {v : Value} {xs : List Int} (h : Kd.R (Kd.int .u8) 5 w base (fun k => k ≠ g) v xs) : some g ≠ v.ownBlock := fun e => h.1 g e.symm rfl

set_option maxHeartbeats 8000000 in
set_option maxRecDepth 100000 in
theorem Encode_calls (A : Option Addr) (c : Nat) (l : List Int) (w : World) (hC : Kd.C (Kd.int .u8) w A l.length l) (hc : l.length ≤ c) :
    Calls Try.prog 15 #[.slice A l.length c] w fun e w' => ∃ v, e = .returned (.tuple #[v, .int .i64 (encH l).2]) ∧ Kd.R (Kd.int .u8) 5 w' w.heap.size (fun _ => True) v (encH l).1 ∧ Below w.heap.size w w' := by
  have HC := Aside0.mk hC
  have HL := Aside0.mk hc
  clear hC hc
  by_cases h : 4096 < l.length
  · have h1 : decide ((l.length : Int) > 4096) = true := decide_eq_true (by omega)
    have h2 : decide (l.length > 4096) = true := decide_eq_true (by omega)
    have e : encH l = ([], 2) := if_pos h
    rw [e]
    clear h e
    go_enter Try.func15, Try.ntmps15
    go_wp2
    refine bodyPost_ret (v := .tuple #[.slice none 0 0, .int .i64 2]) ?_ rfl ⟨_, rfl, Kd.R_nil _ _ _ _ _, Below.refl _ _⟩
    simp [results, Try.results15, go_sem]
  · have h1 : decide ((l.length : Int) > 4096) = false := decide_eq_false (by omega)
    have h2 : decide (l.length > 4096) = false := decide_eq_false (by omega)
    have e : encH l = (126 :: (stuff (l ++ tailS (fcsS l)) ++ [126]), 0) := if_neg h
    rw [e]
    have HN := Aside0.mk (show l.length ≤ 4096 by omega)
    clear e h
    go_enter Try.func15, Try.ntmps15
    go_wp2_with (go_at_call 19; (with_reducible refine (FCS_calls A c l _ HC.out HL.out).mono ?_); rintro e w1 ⟨rfl, hb⟩; have HB := Aside0.mk hb; clear hb)
    generalize hn : fcsS l = n
    have HCR := Aside0.mk (Kd.C_below HC.out (below_alloc (below_alloc HB.out (.cells #[.int .u8 126] 5)) (.cells #[.int .u8 (n % 256), .int .u8 (n / 256 % 256)] 5)))
    have HBB := Aside0.mk (below_alloc (below_alloc HB.out (.cells #[.int .u8 126] 5)) (.cells #[.int .u8 (n % 256), .int .u8 (n / 256 % 256)] 5))
    have HT := Aside0.mk (show ((w1.alloc (.cells #[.int .u8 126] 5)).alloc (.cells #[.int .u8 (n % 256), .int .u8 (n / 256 % 256)] 5)).heap[w1.heap.size + 1]? = some (.cells ((tailS n).map (Value.int .u8)).toArray 5 (0, 0)) from heap_alloc2_new _ _ _)
    have HO : Aside0 (Kd.R (Kd.int .u8) 5 ((w1.alloc (.cells #[.int .u8 126] 5)).alloc (.cells #[.int .u8 (n % 256), .int .u8 (n / 256 % 256)] 5)) w.heap.size (fun k => k ≠ w1.heap.size + 1) (.slice (some ⟨w1.heap.size, 0, none⟩) 1 1) [126]) := ⟨by
      refine Kd.R_alloc (xs := [126]) ⟨fun k hk => ?_, [.int .u8 126], ⟨rfl, .inr ⟨w1.heap.size, 1, #[.int .u8 126], rfl, HB.out.size, heap_alloc_new _ _, Nat.le_refl 1, by decide, rfl, rfl⟩⟩, ?_⟩ _
      rotate_left
      · exact Reps.one rfl (Reps.none _ _)
      simp only [Value.ownBlock, Option.some.injEq] at hk
      omega⟩
    have HG := Aside0.mk (show w.heap.size ≤ w1.heap.size + 1 from Nat.le_succ_of_le HB.out.size)
    clear HB
    generalize ((w1.alloc (.cells #[.int .u8 126] 5)).alloc (.cells #[.int .u8 (n % 256), .int .u8 (n / 256 % 256)] 5)) = W at HCR HBB HT HO ⊢
    generalize w1.heap.size + 1 = g at HT HO HG ⊢
    go_loopg [5, 24] 2 (fun kq v5 v24 w' => ∃ i : Nat, i + kq = 2 ∧ v24 = .int .i64 (i : Int) ∧ Aside0 (Kd.R (Kd.int .u8) 5 w' w.heap.size (fun k => k ≠ g) v5 (126 :: stuff (if i = 0 then [] else if i = 1 then l else l ++ tailS n))) ∧ Aside0 (w'.heap[g]? = some (.cells ((tailS n).map (Value.int .u8)).toArray 5 (0, 0))) ∧ Aside0 (Below w.heap.size w w'))
    case atStart => exact ⟨0, by omega, rfl, HO, HT, HBB⟩
    case round =>
      clear HO HT HBB HCR HL
      obtain ⟨i, hi, rfl, HO, HT, HB⟩ := hrel
      cases gk with
      | zero =>
        have hi : i = 2 := by omega
        subst hi
        have HO2 := Aside0.mk (show Kd.R (Kd.int .u8) 5 wr w.heap.size (fun k => k ≠ g) _ (126 :: stuff (l ++ tailS n)) from HO.out)
        clear HO
        go_wp2_with ((with_reducible refine gate_builtin (b := .append) (xs := #[.tmp 46, .tmp 47]) rfl ?_); at_builtin; refine Kd.R_append_rows (Kd.int .u8) (w0 := w) w.heap.size rfl (.tmp 46) (.tmp 47) 24 5 (.int .u8 0) 1 rfl Try.underlying24 info5 rfl (by decide) (by omega) _ (126 :: stuff (l ++ tailS n)) [126] (some ⟨wr.heap.size, 0, none⟩) 1 1 (fun k => k ≠ g) (fun _ => False) rfl rfl ?aO ?aR (fun _ _ h => h) (fun _ h => h.elim) ?aF ?aB ?aS ?aL ?_; (case aO => exact Kd.R_alloc HO2.out _); (case aR => exact C_blk (l := [126]) (heap_alloc_new _ _) (by simp)); (case aF => intro k hk e; have h1 := (Array.getElem?_eq_some_iff.1 HT.out).1; rw [World.size_alloc] at hk; omega); (case aB => exact below_alloc HB.out _); (case aS => have h2 := HB.out.size; rw [World.size_alloc]; omega); (case aL => have h3 := stuff_len (l ++ tailS n); have h4 := HN.out; have h5 : (tailS n).length = 2 := rfl; simp only [List.length_append, List.length_cons, List.length_nil] at h3 h5 ⊢; omega); intro v9 w9 ho hb hg hat; have HO3 := Aside0.mk (show Kd.R (Kd.int .u8) 5 w9 w.heap.size (fun k => k ≠ g) v9 (126 :: (stuff (l ++ tailS n) ++ [126])) from ho); have HB3 := Aside0.mk hb; clear ho hb hg hat)
        refine bodyPost_ret (v := .tuple #[v9, .int .i64 0]) ?_ rfl ⟨_, rfl, Kd.R_mono HO3.out (fun _ _ => trivial), HB3.out⟩
        simp [results, Try.results15, go_sem]
      | succ k1 =>
        have hi2 : i = 0 ∨ i = 1 := by omega
        have ix0 : ∀ W : World, (Instr.index 61 (.agg #[.slice A l.length c, .slice (some ⟨g, 0, none⟩) 2 2]) (.int .i64 0)).run Try.prog W = .ok (.slice A l.length c) W := fun _ => by kernel_rfl
        have ix1 : ∀ W : World, (Instr.index 61 (.agg #[.slice A l.length c, .slice (some ⟨g, 0, none⟩) 2 2]) (.int .i64 1)).run Try.prog W = .ok (.slice (some ⟨g, 0, none⟩) 2 2) W := fun _ => by kernel_rfl
        rcases hi2 with rfl | rfl
        · have HO1 := Aside0.mk (show Kd.R (Kd.int .u8) 5 wr w.heap.size (fun k => k ≠ g) _ (126 :: stuff []) from HO.out)
          clear HO
          rw [show ((0 : Nat) : Int) = 0 from rfl]
          go_wp2
          go_loopg [5, 29] l.length (fun kp v5 v29 w' => ∃ j : Nat, j + kp = l.length ∧ v29 = .int .i64 (j : Int) ∧ Aside0 (Kd.R (Kd.int .u8) 5 w' w.heap.size (fun k => k ≠ g) v5 (126 :: stuff ([] ++ (l).take j))) ∧ Aside0 (w'.heap[g]? = some (.cells ((tailS n).map (Value.int .u8)).toArray 5 (0, 0))) ∧ Aside0 (Below w.heap.size w w'))
          case atStart => exact ⟨0, by omega, rfl, HO1, HT, HB⟩
          case round =>
            clear HO1 HT HB
            obtain ⟨j, hj, rfl, HO, HT, HB⟩ := hrel
            cases gk with
            | zero =>
              have hlt : decide ((j : Int) < (l.length : Int)) = false := decide_eq_false (by omega)
              have hlu : decide (j < l.length) = false := decide_eq_false (by omega)
              have hall : (l).take j = l := List.take_of_length_le (by omega)
              rw [hall] at HO
              clear hall
              go_wp2
              go_roundg k1
              case measure => omega
              case rel => exact ⟨1, by omega, rfl, HO, HT, HB⟩
            | succ k2 =>
              have hlt : decide ((j : Int) < (l.length : Int)) = true := decide_eq_true (by omega)
              have hlu : decide (j < l.length) = true := decide_eq_true (by omega)
              have hlp : ((j : Int) < (l.length : Int)) = True := eq_true (by omega)
              have HCJ : Kd.C (Kd.int .u8) wr _ (l).length (l) := Kd.C_below HC.out (HB.out)
              obtain ⟨ad, e, hx⟩ := Kd.at_int HCJ (j : Int) (by omega) (by omega)
              cases e
              rw [Int.toNat_natCast] at hx
              have ht := take_rd (l := l) (i := j) (by omega)
              have es : stuff ([] ++ (l).take (j + 1)) = stuff ([] ++ (l).take j) ++ stuff1 (rd (l) (j : Int)) := by rw [ht, ← List.append_assoc, stuff_snoc]
              have ES := Aside0.mk es
              clear ht es HCJ
              generalize rd (l) (j : Int) = x at hx ES
              cases hs : spc x
              · have e1 : stuff1 x = [x] := by unfold stuff1; rw [hs]; rfl
                rw [e1] at ES
                clear e1
                go_wp2_with (first
                  | (go_at_call 20; (with_reducible refine (special_calls x _).mono ?_); rintro e w5 ⟨rfl, hw⟩; rw [hw, hs]; clear hw)
                  | ((with_reducible refine gate_builtin (b := .append) (xs := #[.tmp 40, .tmp 42]) rfl ?_); at_builtin; refine Kd.R_append_rows (Kd.int .u8) (w0 := w) w.heap.size rfl (.tmp 40) (.tmp 42) 24 5 (.int .u8 0) 1 rfl Try.underlying24 info5 rfl (by decide) (by omega) _ (126 :: stuff ([] ++ (l).take j)) [x] (some ⟨wr.heap.size, 0, none⟩) 1 1 (fun k => k ≠ g) (fun _ => False) rfl rfl ?aO ?aR (fun _ _ h => h) (fun _ h => h.elim) ?aF ?aB ?aS ?aL ?_; (case aO => exact Kd.R_alloc HO.out _); (case aR => exact C_blk (l := [x]) (heap_alloc_new _ _) (by simp)); (case aF => intro k hk e; have h1 := (Array.getElem?_eq_some_iff.1 HT.out).1; rw [World.size_alloc] at hk; omega); (case aB => exact below_alloc HB.out _); (case aS => have h2 := HB.out.size; rw [World.size_alloc]; omega); (case aL => have h3 := stuff_len ([] ++ (l).take j); have h4 := HN.out; have h6 : ((l).take j).length ≤ l.length := (by rw [List.length_take]; omega); simp only [List.length_append, List.length_cons, List.length_nil] at h3 ⊢; omega); intro v9 w9 ho hb hg hat; have HO3 := Aside0.mk (show Kd.R (Kd.int .u8) 5 w9 w.heap.size (fun k => k ≠ g) v9 (126 :: (stuff ([] ++ (l).take j) ++ [x])) from ho); have HT3 := Aside0.mk (blk_grown (blk_alloc HT.out _) hg (ne_own HO.out)); have HB3 := Aside0.mk hb; clear ho hb hg hat))
                go_roundg k2
                case measure => omega
                case rel =>
                  have e1 : wrap64 ((j : Int) + 1) = ((j + 1 : Nat) : Int) := by have := HN.out; unfold wrap64; omega
                  exact ⟨j + 1, by omega, by first | rw [e1] | rfl, ⟨by rw [ES.out]; exact HO3.out⟩, HT3, HB3⟩
              · have e1 : stuff1 x = [125, flp x] := by unfold stuff1; rw [hs]; rfl
                rw [e1] at ES
                clear e1
                go_wp2_with (first
                  | (go_at_call 20; (with_reducible refine (special_calls x _).mono ?_); rintro e w5 ⟨rfl, hw⟩; rw [hw, hs]; clear hw)
                  | ((with_reducible refine gate_builtin (b := .append) (xs := #[.tmp 35, .tmp 38]) rfl ?_); at_builtin; refine Kd.R_append_rows (Kd.int .u8) (w0 := w) w.heap.size rfl (.tmp 35) (.tmp 38) 24 5 (.int .u8 0) 1 rfl Try.underlying24 info5 rfl (by decide) (by omega) _ (126 :: stuff ([] ++ (l).take j)) [125, flp x] (some ⟨wr.heap.size, 0, none⟩) 2 2 (fun k => k ≠ g) (fun _ => False) rfl rfl ?aO ?aR (fun _ _ h => h) (fun _ h => h.elim) ?aF ?aB ?aS ?aL ?_; (case aO => exact Kd.R_alloc HO.out _); (case aR => exact C_blk (l := [125, flp x]) (heap_alloc_new _ _) (by simp)); (case aF => intro k hk e; have h1 := (Array.getElem?_eq_some_iff.1 HT.out).1; rw [World.size_alloc] at hk; omega); (case aB => exact below_alloc HB.out _); (case aS => have h2 := HB.out.size; rw [World.size_alloc]; omega); (case aL => have h3 := stuff_len ([] ++ (l).take j); have h4 := HN.out; have h6 : ((l).take j).length ≤ l.length := (by rw [List.length_take]; omega); simp only [List.length_append, List.length_cons, List.length_nil] at h3 ⊢; omega); intro v9 w9 ho hb hg hat; have HO3 := Aside0.mk (show Kd.R (Kd.int .u8) 5 w9 w.heap.size (fun k => k ≠ g) v9 (126 :: (stuff ([] ++ (l).take j) ++ [125, flp x])) from ho); have HT3 := Aside0.mk (blk_grown (blk_alloc HT.out _) hg (ne_own HO.out)); have HB3 := Aside0.mk hb; clear ho hb hg hat))
                go_roundg k2
                case measure => omega
                case rel =>
                  have e1 : wrap64 ((j : Int) + 1) = ((j + 1 : Nat) : Int) := by have := HN.out; unfold wrap64; omega
                  exact ⟨j + 1, by omega, by first | rw [e1] | rfl, ⟨by rw [ES.out]; exact HO3.out⟩, HT3, HB3⟩
        · have HO1 := Aside0.mk (show Kd.R (Kd.int .u8) 5 wr w.heap.size (fun k => k ≠ g) _ (126 :: stuff l) from HO.out)
          clear HO
          rw [show ((1 : Nat) : Int) = 1 from rfl]
          go_wp2
          go_loopg [5, 29] 2 (fun kp v5 v29 w' => ∃ j : Nat, j + kp = 2 ∧ v29 = .int .i64 (j : Int) ∧ Aside0 (Kd.R (Kd.int .u8) 5 w' w.heap.size (fun k => k ≠ g) v5 (126 :: stuff (l ++ (tailS n).take j))) ∧ Aside0 (w'.heap[g]? = some (.cells ((tailS n).map (Value.int .u8)).toArray 5 (0, 0))) ∧ Aside0 (Below w.heap.size w w'))
          case atStart => exact ⟨0, by omega, rfl, ⟨by rw [List.take_zero, List.append_nil]; exact HO1.out⟩, HT, HB⟩
          case round =>
            clear HO1 HT HB
            obtain ⟨j, hj, rfl, HO, HT, HB⟩ := hrel
            cases gk with
            | zero =>
              have hlt : decide ((j : Int) < 2) = false := decide_eq_false (by omega)
              have hlu : decide (j < 2) = false := decide_eq_false (by omega)
              have hall : (tailS n).take j = tailS n := List.take_of_length_le (by show 2 ≤ j; omega)
              rw [hall] at HO
              clear hall
              go_wp2
              go_roundg k1
              case measure => omega
              case rel => exact ⟨2, by omega, rfl, HO, HT, HB⟩
            | succ k2 =>
              have hlt : decide ((j : Int) < 2) = true := decide_eq_true (by omega)
              have hlu : decide (j < 2) = true := decide_eq_true (by omega)
              have hlp : ((j : Int) < 2) = True := eq_true (by omega)
              have HCJ : Kd.C (Kd.int .u8) wr _ (tailS n).length (tailS n) := C_blk HT.out (by show 2 ≤ 9223372036854775807; decide)
              obtain ⟨ad, e, hx⟩ := Kd.at_int HCJ (j : Int) (by omega) (by show (j : Int) < 2; omega)
              cases e
              rw [Int.toNat_natCast] at hx
              rw [Addr.add_lit, Nat.zero_add] at hx
              have ht := take_rd (l := tailS n) (i := j) (by show j < 2; omega)
              have es : stuff (l ++ (tailS n).take (j + 1)) = stuff (l ++ (tailS n).take j) ++ stuff1 (rd (tailS n) (j : Int)) := by rw [ht, ← List.append_assoc, stuff_snoc]
              have ES := Aside0.mk es
              clear ht es HCJ
              generalize rd (tailS n) (j : Int) = x at hx ES
              cases hs : spc x
              · have e1 : stuff1 x = [x] := by unfold stuff1; rw [hs]; rfl
                rw [e1] at ES
                clear e1
                go_wp2_with (first
                  | (go_at_call 20; (with_reducible refine (special_calls x _).mono ?_); rintro e w5 ⟨rfl, hw⟩; rw [hw, hs]; clear hw)
                  | ((with_reducible refine gate_builtin (b := .append) (xs := #[.tmp 40, .tmp 42]) rfl ?_); at_builtin; refine Kd.R_append_rows (Kd.int .u8) (w0 := w) w.heap.size rfl (.tmp 40) (.tmp 42) 24 5 (.int .u8 0) 1 rfl Try.underlying24 info5 rfl (by decide) (by omega) _ (126 :: stuff (l ++ (tailS n).take j)) [x] (some ⟨wr.heap.size, 0, none⟩) 1 1 (fun k => k ≠ g) (fun _ => False) rfl rfl ?aO ?aR (fun _ _ h => h) (fun _ h => h.elim) ?aF ?aB ?aS ?aL ?_; (case aO => exact Kd.R_alloc HO.out _); (case aR => exact C_blk (l := [x]) (heap_alloc_new _ _) (by simp)); (case aF => intro k hk e; have h1 := (Array.getElem?_eq_some_iff.1 HT.out).1; rw [World.size_alloc] at hk; omega); (case aB => exact below_alloc HB.out _); (case aS => have h2 := HB.out.size; rw [World.size_alloc]; omega); (case aL => have h3 := stuff_len (l ++ (tailS n).take j); have h4 := HN.out; have h6 : ((tailS n).take j).length ≤ 2 := (by rw [List.length_take]; omega); simp only [List.length_append, List.length_cons, List.length_nil] at h3 ⊢; omega); intro v9 w9 ho hb hg hat; have HO3 := Aside0.mk (show Kd.R (Kd.int .u8) 5 w9 w.heap.size (fun k => k ≠ g) v9 (126 :: (stuff (l ++ (tailS n).take j) ++ [x])) from ho); have HT3 := Aside0.mk (blk_grown (blk_alloc HT.out _) hg (ne_own HO.out)); have HB3 := Aside0.mk hb; clear ho hb hg hat))
                go_roundg k2
                case measure => omega
                case rel =>
                  have e1 : wrap64 ((j : Int) + 1) = ((j + 1 : Nat) : Int) := by have := HN.out; unfold wrap64; omega
                  exact ⟨j + 1, by omega, by first | rw [e1] | rfl, ⟨by rw [ES.out]; exact HO3.out⟩, HT3, HB3⟩
              · have e1 : stuff1 x = [125, flp x] := by unfold stuff1; rw [hs]; rfl
                rw [e1] at ES
                clear e1
                go_wp2_with (first
                  | (go_at_call 20; (with_reducible refine (special_calls x _).mono ?_); rintro e w5 ⟨rfl, hw⟩; rw [hw, hs]; clear hw)
                  | ((with_reducible refine gate_builtin (b := .append) (xs := #[.tmp 35, .tmp 38]) rfl ?_); at_builtin; refine Kd.R_append_rows (Kd.int .u8) (w0 := w) w.heap.size rfl (.tmp 35) (.tmp 38) 24 5 (.int .u8 0) 1 rfl Try.underlying24 info5 rfl (by decide) (by omega) _ (126 :: stuff (l ++ (tailS n).take j)) [125, flp x] (some ⟨wr.heap.size, 0, none⟩) 2 2 (fun k => k ≠ g) (fun _ => False) rfl rfl ?aO ?aR (fun _ _ h => h) (fun _ h => h.elim) ?aF ?aB ?aS ?aL ?_; (case aO => exact Kd.R_alloc HO.out _); (case aR => exact C_blk (l := [125, flp x]) (heap_alloc_new _ _) (by simp)); (case aF => intro k hk e; have h1 := (Array.getElem?_eq_some_iff.1 HT.out).1; rw [World.size_alloc] at hk; omega); (case aB => exact below_alloc HB.out _); (case aS => have h2 := HB.out.size; rw [World.size_alloc]; omega); (case aL => have h3 := stuff_len (l ++ (tailS n).take j); have h4 := HN.out; have h6 : ((tailS n).take j).length ≤ 2 := (by rw [List.length_take]; omega); simp only [List.length_append, List.length_cons, List.length_nil] at h3 ⊢; omega); intro v9 w9 ho hb hg hat; have HO3 := Aside0.mk (show Kd.R (Kd.int .u8) 5 w9 w.heap.size (fun k => k ≠ g) v9 (126 :: (stuff (l ++ (tailS n).take j) ++ [125, flp x])) from ho); have HT3 := Aside0.mk (blk_grown (blk_alloc HT.out _) hg (ne_own HO.out)); have HB3 := Aside0.mk hb; clear ho hb hg hat))
                go_roundg k2
                case measure => omega
                case rel =>
                  have e1 : wrap64 ((j : Int) + 1) = ((j + 1 : Nat) : Int) := by have := HN.out; unfold wrap64; omega
                  exact ⟨j + 1, by omega, by first | rw [e1] | rfl, ⟨by rw [ES.out]; exact HO3.out⟩, HT3, HB3⟩
end Go.Proofs.Ytmpjcpkfnjnejaa.Hq
/-
  hdlc by hand: open.
-/
namespace Go.Proofs.Ytmpjcpkfnjnejaa.Hq
open Go.RowKit Go.Shelf Go.Proofs.YtmpjcpkfnjnejaaW.PrintWords Go.Proofs.YtmpjcpkfnjnejaaW.PrintLast Go.Proofs.YtmpjcpkfnjnejaaW.PrintMore Go.Proofs.Ytmpjcpkfnjnejaa.Is
set_option linter.unusedVariables false
set_option linter.unusedSimpArgs false

theorem make_run (w : World) (base c : Nat) (hc : c ≤ 140737488355328) (hb : base ≤ w.heap.size) :
    ∃ W, (Instr.makeSlice 24 (.int .i64 0) (.int .i64 (c : Int))).run Try.prog w = .ok (.slice (some ⟨w.heap.size, 0, none⟩) 0 c) W ∧ Kd.R (Kd.int .u8) 5 W base (fun _ => True) (.slice (some ⟨w.heap.size, 0, none⟩) 0 c) [] ∧ Below w.heap.size w W := by
  obtain ⟨i0, hi, hz⟩ := Option.map_eq_some_iff.1 info5
  simp only [Prod.mk.injEq] at hz
  obtain ⟨h1, h2, h3⟩ := hz
  obtain ⟨W, hr, ho, hg⟩ := run_make_own (P := Try.prog) w base 24 5 i0 (.int .u8 0) 1 Try.underlying24 hi h1 h2 .i64 .i64 c (by rw [h3]; omega) (by show c ≤ 9223372036854775807; omega) hb
  exact ⟨W, hr, ⟨fun _ _ => trivial, [], ho, Reps.none _ _⟩, ⟨hg.os, hg.tape, hg.output, hg.size, fun k hk => hg.block k hk (by simp)⟩⟩

theorem openH_bad {l wh : List Int} {esc : Bool} (h : unst false [] l = some (wh, esc)) (hb : esc = true ∨ wh.length < 2 ∨ 4096 < wh.length - 2) : openH l = ([], 20) := by
  unfold openH
  rw [h]
  exact if_pos hb
theorem openH_none {l : List Int} (h : unst false [] l = none) : openH l = ([], 20) := by
  unfold openH
  rw [h]
theorem openH_good {l wh : List Int} {m : Nat} (h : unst false [] l = some (wh, false)) (hm : wh.length = m + 2) (hm2 : m ≤ 4096) :
    openH l = if fcsS (wh.take m) = or16 (getB wh m) (getB wh (m + 1)) then (wh.take m, 0) else ([], 21) := by
  unfold openH
  rw [h]
  have e1 : wh.length - 2 = m := by omega
  have e2 : wh.length - 1 = m + 1 := by omega
  simp only [e1, e2]
  refine if_neg ?_
  rw [hm]
  intro h
  rcases h with h | h | h
  · exact absurd h (by decide)
  · omega
  · omega
theorem ar1 (m : Nat) : (0 ≤ (m : Int) + 1) = True := eq_true (by omega)
theorem ar2 (m : Nat) : ((m : Int) + 1).toNat = m + 1 := by omega
theorem ar3 {m : Nat} (h : m ≤ 4096) : wrap64 ((m : Int) + 1) = (m : Int) + 1 := by unfold wrap64; omega
theorem ar4 {m : Nat} (h : m ≤ 4096) : IntKind.i64.wrap ((m : Int) + 1) = (m : Int) + 1 := by rw [IntKind.wrap_i64]; omega
theorem ar5 {m n : Nat} (h : n = m + 2) : ((m : Int) < (n : Int)) = True ∧ ((m : Int) + 1 < (n : Int)) = True := ⟨eq_true (by omega), eq_true (by omega)⟩
/-- A payload: a slice whose block is new and holds bytes. -/
def Pay (base : Nat) (w : World) (v : Value) (p : List Int) : Prop := ∃ A c, v = .slice A p.length c ∧ p.length ≤ c ∧ Kd.C (Kd.int .u8) w A p.length p ∧ ∀ x, A = some x → base ≤ x.block ∧ ∃ cells fr, w.heap[x.block]? = some (.cells cells 5 fr)
theorem pay_nil (base : Nat) (w : World) : Pay base w (.slice none 0 0) [] := ⟨none, 0, rfl, Nat.le_refl _, Kd.C_nil _ _, fun x e => by cases e⟩
theorem drop_rd {l : List Int} {j : Nat} (h : j < l.length) : l.drop j = rd l (j : Int) :: l.drop (j + 1) := by
  rw [List.drop_eq_getElem_cons h]
  congr 1
  simp [rd, List.getD_eq_getElem?_getD, h]

set_option maxHeartbeats 4000000 in
set_option maxRecDepth 100000 in
theorem open_calls (A : Option Addr) (c : Nat) (l : List Int) (w : World) (hC : Kd.C (Kd.int .u8) w A l.length l) (hc : l.length ≤ c) (hl : l.length ≤ 140737488355328) :
    Calls Try.prog 23 #[.slice A l.length c] w fun e w' => ∃ v, e = .returned (.tuple #[v, .int .i64 (openH l).2]) ∧ Pay w.heap.size w' v (openH l).1 ∧ Below w.heap.size w w' := by
  have HC := Aside0.mk hC
  have HL := Aside0.mk hc
  have HN := Aside0.mk hl
  clear hC hc hl
  go_enter Try.func23, Try.ntmps23
  go_wp2
  go_step3
  go_wp2_with ((with_reducible refine gate_dst (N := 11) rfl ?_); obtain ⟨W, hr, ho, hb⟩ := make_run w w.heap.size l.length HN.out (Nat.le_refl _); refine Kd.event_run rfl (v := .slice (some ⟨w.heap.size, 0, none⟩) 0 l.length) (w1 := W) (by simp [execOp, go_sem, hr]) ?_; have HO := Aside0.mk ho; have HB := Aside0.mk hb; clear hr ho hb)
  go_step3
  go_wp2
  go_loopg [4, 5, 14] l.length (fun kq v4 v5 v14 w' => ∃ (j : Nat) (wh : List Int) (esc : Bool), j + kq = l.length ∧ v14 = .int .i64 (j : Int) ∧ v5 = .bool esc ∧ Aside0 (unst esc wh (l.drop j) = unst false [] l) ∧ Aside0 (wh.length ≤ j) ∧ Aside0 (Kd.R (Kd.int .u8) 5 w' w.heap.size (fun _ => True) v4 wh) ∧ Aside0 (Below w.heap.size w w'))
  case atStart => exact ⟨0, [], false, by omega, rfl, rfl, ⟨rfl⟩, ⟨Nat.le_refl _⟩, HO, HB⟩
  case round =>
    clear HO HB
    obtain ⟨j, wh, esc, hj, rfl, rfl, HU, HW, HO, HB⟩ := hrel
    cases gk with
    | zero =>
      have hlt : decide ((j : Int) < (l.length : Int)) = false := decide_eq_false (by omega)
      have hlu : decide (j < l.length) = false := decide_eq_false (by omega)
      have hdn : l.drop j = [] := List.drop_eq_nil_of_le (by omega)
      rw [hdn] at HU
      have HV := Aside0.mk (show unst false [] l = some (wh, esc) by rw [← HU.out]; rfl)
      clear HU hdn
      obtain ⟨Av, cv, e4⟩ := Kd.R_slice HO.out
      subst e4
      have hm63 := Kd.C_max (Kd.R_reads' HO.out).2.2
      obtain ⟨N, hN⟩ : ∃ N, N = (wh.length : Int) - 2 := ⟨_, rfl⟩
      have hw : wrap64 ((wh.length : Int) - 2) = N := by unfold wrap64; omega
      by_cases hbad : esc = true ∨ wh.length < 2 ∨ 4096 < wh.length - 2
      · have EQ := Aside0.mk (openH_bad HV.out hbad)
        cases esc with
        | true =>
          clear hbad hN hm63
          go_wp2
          rw [Exit.noGoto_ret]
          refine bodyPost_ret (v := .tuple #[.slice none 0 0, .int .i64 20]) ?_ rfl ⟨_, by rw [EQ.out], ?_, HB.out⟩
          · simp [results, Try.results23, go_sem]
          · rw [EQ.out]
            exact pay_nil _ _
        | false =>
          by_cases h2 : wh.length < 2
          · have e1 : decide (N < 0) = true := decide_eq_true (by omega)
            clear hbad hN hm63 h2
            go_wp2
            rw [Exit.noGoto_ret]
            refine bodyPost_ret (v := .tuple #[.slice none 0 0, .int .i64 20]) ?_ rfl ⟨_, by rw [EQ.out], ?_, HB.out⟩
            · simp [results, Try.results23, go_sem]
            · rw [EQ.out]
              exact pay_nil _ _
          · have h3 : 4096 < wh.length - 2 := by
              rcases hbad with h | h | h
              · cases h
              · exact absurd h h2
              · exact h
            have e1 : decide (N < 0) = false := decide_eq_false (by omega)
            have e2 : decide (N > 4096) = true := decide_eq_true (by omega)
            clear hbad hN hm63 h2 h3
            go_wp2
            rw [Exit.noGoto_ret]
            refine bodyPost_ret (v := .tuple #[.slice none 0 0, .int .i64 20]) ?_ rfl ⟨_, by rw [EQ.out], ?_, HB.out⟩
            · simp [results, Try.results23, go_sem]
            · rw [EQ.out]
              exact pay_nil _ _
      · have he : esc = false := by cases esc <;> simp_all
        subst he
        obtain ⟨m, hm⟩ : ∃ m, wh.length = m + 2 := ⟨wh.length - 2, by omega⟩
        have hm2 : m ≤ 4096 := by omega
        clear hbad
        have hNm : N = (m : Int) := by omega
        subst hNm
        have e1 : decide ((m : Int) < 0) = false := decide_eq_false (by omega)
        have e2 : decide ((m : Int) > 4096) = false := decide_eq_false (by omega)
        have e3 : decide (m > 4096) = false := decide_eq_false (by omega)
        have EQ := Aside0.mk (openH_good HV.out hm hm2)
        obtain ⟨g, cg, ev, hg1, hg2, gcs, hg3⟩ := Kd.R_form HO.out (by omega)
        cases ev
        have hcv : wh.length ≤ cv := (Kd.R_reads' HO.out).2.1
        have CW := Aside0.mk (Kd.R_reads' HO.out).2.2
        have hml : (wh.take m).length = m := by rw [List.length_take]; omega
        have FC : ∀ W, Kd.C (Kd.int .u8) W (some ⟨g, 0, none⟩) m (wh.take m) → Calls Try.prog 19 #[.slice (some ⟨g, 0, none⟩) m cv] W fun e w' => e = .returned (.int .u16 (fcsS (wh.take m))) ∧ Below W.heap.size W w' := fun W h => by
          have := FCS_calls (some ⟨g, 0, none⟩) cv (wh.take m) W (by rw [hml]; exact h) (by omega)
          rwa [hml] at this
        have HFC := Aside0.mk FC
        have HTC := Aside0.mk (show Kd.C (Kd.int .u8) wr (some ⟨g, 0, none⟩) m (wh.take m) by have := Kd.C_take CW.out (m := m) (by omega); rwa [hml] at this)
        clear FC
        have HG := Aside0.mk (And.intro hg1 (And.intro hg2 hg3))
        clear hg1 hg2 hg3
        obtain ⟨a0, z0, x0⟩ := Kd.at_int CW.out (m : Int) (by omega) (by omega)
        cases z0
        obtain ⟨a1, z1, x1⟩ := Kd.at_int CW.out ((m : Int) + 1) (by omega) (by omega)
        cases z1
        rw [show ((m : Int)).toNat = m by omega, Addr.add_lit, Nat.zero_add] at x0
        rw [show ((m : Int) + 1).toNat = m + 1 by omega, Addr.add_lit, Nat.zero_add] at x1
        have g0 : getB wh m = rd wh (m : Int) := by simp [getB, rd]
        have g1 : getB wh (m + 1) = rd wh ((m : Int) + 1) := by unfold getB rd; rw [show ((m : Int) + 1).toNat = m + 1 by omega]
        have wm := ar3 hm2
        have wm' := ar4 hm2
        have p1 := ar1 m
        have tn := ar2 m
        obtain ⟨l0, l1⟩ := ar5 hm
        have lmc : m ≤ cv := Nat.le_trans (by rw [hm]; exact Nat.le_add_right m 2) hcv
        have l2 : (m ≤ cv) = True := eq_true lmc
        have l3 : ((m : Int) ≤ (cv : Int)) = True := eq_true (Int.ofNat_le.2 lmc)
        have HM := Aside0.mk hm
        have HM2 := Aside0.mk hm2
        have HML := Aside0.mk hml
        clear hN hm hm2 hm63 hcv lmc hml
        rw [g0, g1] at EQ
        clear g0 g1
        generalize rd wh (m : Int) = xa at x0 EQ
        generalize rd wh ((m : Int) + 1) = xb at x1 EQ
        generalize fcsS (wh.take m) = fv at HFC EQ
        go_wp2
        rw [hw]
        clear hw
        go_region_held3 (fun w' => w'.cell? ⟨g, m, none⟩ = some (.int .u8 xa) ∧ w'.cell? ⟨g, m + 1, none⟩ = some (.int .u8 xb)) (first | exact ⟨t0, t1⟩ | exact ⟨x0, x1⟩) (first | (go_at_call 19; refine (HFC.out _ (Kd.C_drew HTC.out)).mono ?_; rintro e w1 ⟨rfl, hb⟩; have t0 := pw_cell_below hb x0; have t1 := pw_cell_below hb x1; have HB1 := Aside0.mk (below_step (below_drew1 HB.out) hb); have HTC1 := Aside0.mk (Kd.C_below (Kd.C_drew HTC.out) hb); have HG4 := Aside0.mk ((hb.block g HG.out.2.1).trans HG.out.2.2); clear hb))
        clear t0 t1 x0 x1
        by_cases hq : fv = or16 xa xb
        · have E := EQ.out
          rw [if_pos hq] at E
          have EQ2 := Aside0.mk E
          have q1 : (fv != bits .or .u16 (IntKind.u16.wrap xa) (IntKind.u16.wrap (IntKind.u16.wrap xb * 256))) = false := bne_eq_false_iff_eq.mpr hq
          clear E EQ hq
          go_wp2
          rw [Exit.noGoto_ret]
          refine bodyPost_ret (v := .tuple #[.slice (some ⟨g, 0, none⟩) m m, .int .i64 0]) ?_ rfl ⟨_, by rw [EQ2.out], ?_, HB1.out⟩
          · simp [results, Try.results23, go_sem]
          · rw [EQ2.out]
            exact ⟨some ⟨g, 0, none⟩, m, by rw [HML.out], Nat.le_of_eq HML.out, by rw [HML.out]; exact HTC1.out, fun x e => by cases e; exact ⟨HG.out.1, _, _, HG4.out⟩⟩
        · have E := EQ.out
          rw [if_neg hq] at E
          have EQ2 := Aside0.mk E
          have q1 : (fv != bits .or .u16 (IntKind.u16.wrap xa) (IntKind.u16.wrap (IntKind.u16.wrap xb * 256))) = true := bne_iff_ne.mpr hq
          clear E EQ hq
          go_wp2
          rw [Exit.noGoto_ret]
          refine bodyPost_ret (v := .tuple #[.slice none 0 0, .int .i64 21]) ?_ rfl ⟨_, by rw [EQ2.out], ?_, HB1.out⟩
          · simp [results, Try.results23, go_sem]
          · rw [EQ2.out]
            exact pay_nil _ _
    | succ k1 =>
      have hlt : decide ((j : Int) < (l.length : Int)) = true := decide_eq_true (by omega)
      have hlu : decide (j < l.length) = true := decide_eq_true (by omega)
      have hlp : ((j : Int) < (l.length : Int)) = True := eq_true (by omega)
      have HCJ := Kd.C_below HC.out HB.out
      obtain ⟨ad, e, hx⟩ := Kd.at_int HCJ (j : Int) (by omega) (by omega)
      cases e
      rw [Int.toNat_natCast] at hx
      have hd : l.drop j = rd l (j : Int) :: l.drop (j + 1) := drop_rd (by omega)
      rw [hd] at HU
      generalize rd l (j : Int) = x at hx HU
      clear HCJ hd
      have hs0 : (spc (flp x) = true ∨ spc (flp x) = false) := by cases spc (flp x) <;> simp
      cases esc
      · by_cases h125 : x = 125
        · subst h125
          have HU2 := Aside0.mk (show unst true wh (l.drop (j + 1)) = unst false [] l from HU.out)
          go_wp2
          go_roundg k1
          case measure => omega
          case rel =>
            have e1 : wrap64 ((j : Int) + 1) = ((j + 1 : Nat) : Int) := by have := HN.out; unfold wrap64; omega
            exact ⟨j + 1, wh, true, by omega, by first | rw [e1] | rfl, rfl, HU2, ⟨by have := HW.out; first | omega | (simp only [List.length_append, List.length_cons, List.length_nil]; omega)⟩, HO, HB⟩
        · have HU2 := Aside0.mk (show unst false (wh ++ [x]) (l.drop (j + 1)) = unst false [] l by rw [← HU.out]; exact (if_neg h125).symm)
          have q1 : (x == 125) = false := beq_eq_false_iff_ne.2 h125
          clear h125
          go_wp2_with ((with_reducible refine gate_builtin (b := .append) (xs := #[.tmp 33, .tmp 35]) rfl ?_); at_builtin; refine Kd.R_append_rows (Kd.int .u8) (w0 := w) w.heap.size rfl (.tmp 33) (.tmp 35) 24 5 (.int .u8 0) 1 rfl Try.underlying24 info5 rfl (by decide) (by omega) _ wh [x] (some ⟨wr.heap.size, 0, none⟩) 1 1 (fun _ => True) (fun _ => False) rfl rfl ?aO ?aR (fun _ _ h => h) (fun _ h => h.elim) ?aF ?aB ?aS ?aL ?_; (case aO => exact Kd.R_alloc HO.out _); (case aR => exact C_blk (l := [x]) (heap_alloc_new _ _) (by simp)); (case aF => exact (fun _ _ => trivial)); (case aB => exact below_alloc HB.out _); (case aS => have h2 := HB.out.size; rw [World.size_alloc]; omega); (case aL => have h3 := HW.out; have h4 := HN.out; omega); intro v9 w9 ho hb hg hat; have HO3 := Aside0.mk ho; have HB3 := Aside0.mk hb; clear ho hb hg hat)
          go_roundg k1
          case measure => omega
          case rel =>
            have e1 : wrap64 ((j : Int) + 1) = ((j + 1 : Nat) : Int) := by have := HN.out; unfold wrap64; omega
            exact ⟨j + 1, wh ++ [x], false, by omega, by first | rw [e1] | rfl, rfl, HU2, ⟨by have := HW.out; first | omega | (simp only [List.length_append, List.length_cons, List.length_nil]; omega)⟩, HO3, HB3⟩
      · rcases hs0 with hs | hs
        · have HU2 := Aside0.mk (show unst false (wh ++ [flp x]) (l.drop (j + 1)) = unst false [] l by rw [← HU.out]; exact (if_pos hs).symm)
          go_wp2_with (first | (go_at_call 20; (with_reducible refine (special_calls (bits .xor .u8 x 32) _).mono ?_); rintro e w5 ⟨rfl, hw⟩; rw [hw, show spc (bits .xor .u8 x 32) = _ from hs]; clear hw) | ((with_reducible refine gate_builtin (b := .append) (xs := #[.tmp 33, .tmp 35]) rfl ?_); at_builtin; refine Kd.R_append_rows (Kd.int .u8) (w0 := w) w.heap.size rfl (.tmp 33) (.tmp 35) 24 5 (.int .u8 0) 1 rfl Try.underlying24 info5 rfl (by decide) (by omega) _ wh [flp x] (some ⟨wr.heap.size, 0, none⟩) 1 1 (fun _ => True) (fun _ => False) rfl rfl ?aO ?aR (fun _ _ h => h) (fun _ h => h.elim) ?aF ?aB ?aS ?aL ?_; (case aO => exact Kd.R_alloc HO.out _); (case aR => exact C_blk (l := [flp x]) (heap_alloc_new _ _) (by simp)); (case aF => exact (fun _ _ => trivial)); (case aB => exact below_alloc HB.out _); (case aS => have h2 := HB.out.size; rw [World.size_alloc]; omega); (case aL => have h3 := HW.out; have h4 := HN.out; omega); intro v9 w9 ho hb hg hat; have HO3 := Aside0.mk ho; have HB3 := Aside0.mk hb; clear ho hb hg hat))
          go_roundg k1
          case measure => omega
          case rel =>
            have e1 : wrap64 ((j : Int) + 1) = ((j + 1 : Nat) : Int) := by have := HN.out; unfold wrap64; omega
            exact ⟨j + 1, wh ++ [flp x], false, by omega, by first | rw [e1] | rfl, rfl, HU2, ⟨by have := HW.out; first | omega | (simp only [List.length_append, List.length_cons, List.length_nil]; omega)⟩, HO3, HB3⟩
        · have EQ := Aside0.mk (openH_none (l := l) (by rw [← HU.out]; exact if_neg (by rw [hs]; decide)))
          go_wp2_with (go_at_call 20; (with_reducible refine (special_calls (bits .xor .u8 x 32) _).mono ?_); rintro e w5 ⟨rfl, hw⟩; rw [hw, show spc (bits .xor .u8 x 32) = _ from hs]; clear hw)
          rw [Exit.noGoto_ret]
          refine bodyPost_ret (v := .tuple #[.slice none 0 0, .int .i64 20]) ?_ rfl ⟨_, by rw [EQ.out], ?_, HB.out⟩
          · simp [results, Try.results23, go_sem]
          · rw [EQ.out]
            exact pay_nil _ _
end Go.Proofs.Ytmpjcpkfnjnejaa.Hq
/-
  hdlc by hand: bytes.IndexByte at a flag, and what lies between the flags.
-/
namespace Go.Proofs.Ytmpjcpkfnjnejaa.Hq
open Go.RowKit Go.Shelf Go.Proofs.YtmpjcpkfnjnejaaW.PrintWords Go.Proofs.YtmpjcpkfnjnejaaW.PrintLast Go.Proofs.YtmpjcpkfnjnejaaW.PrintMore Go.Proofs.Ytmpjcpkfnjnejaa.Is
set_option linter.unusedVariables false
set_option linter.unusedSimpArgs false

/-- Where the first flag lies. -/
def ix : List Int → Int
  | [] => -1
  | x :: xs => if x = 126 then 0 else if ix xs = -1 then -1 else ix xs + 1
def By8 (l : List Int) : Prop := ∀ c ∈ l, 0 ≤ c ∧ c ≤ 255
theorem ixb_eq {l : List Int} (h : By8 l) : Lib.indexByte (Lib.bytesOf l) (126 : Int).toNat.toUInt8 = ix l := by
  induction l with
  | nil => rfl
  | cons x l ih =>
    have ih := ih (fun c hc => h c (List.mem_cons_of_mem _ hc))
    have hx := h x (List.mem_cons_self ..)
    have e : (UInt8.ofNat x.toNat == (126 : Int).toNat.toUInt8) = decide (x = 126) := by
      rw [Bool.eq_iff_iff]
      simp only [beq_iff_eq, decide_eq_true_eq]
      constructor
      · intro e
        have e2 := congrArg UInt8.toNat e
        have e3 : (UInt8.ofNat x.toNat).toNat = x.toNat := by
          rw [UInt8.toNat_ofNat']
          exact Nat.mod_eq_of_lt (by omega)
        rw [e3] at e2
        have e4 : ((126 : Int).toNat.toUInt8).toNat = 126 := by decide
        rw [e4] at e2
        omega
      · rintro rfl
        rfl
    show (if (UInt8.ofNat x.toNat == (126 : Int).toNat.toUInt8) then (0 : Int) else if Lib.indexByte (Lib.bytesOf l) _ == -1 then -1 else Lib.indexByte (Lib.bytesOf l) _ + 1) = _
    rw [e, ih]
    show _ = if x = 126 then (0 : Int) else if ix l = -1 then -1 else ix l + 1
    by_cases h1 : x = 126
    · rw [if_pos h1, if_pos (by simp [h1])]
    · rw [if_neg h1, if_neg (by simp [h1])]
      by_cases h2 : ix l = -1 <;> simp [h2]

set_option maxRecDepth 100000 in
theorem indexByte_calls (b o c : Nat) (l : List Int) (w : World) (hb : By8 l) (hC : Kd.C (Kd.int .u8) w (some ⟨b, o, none⟩) l.length l) :
    Calls Try.prog 21 #[.slice (some ⟨b, o, none⟩) l.length c, .int .u8 126] w fun e w' => e = .returned (.int .i64 (ix l)) ∧ w' = w := by
  have hc : ∀ i, i < l.length → w.cell? ⟨b, o + i, none⟩ = some (.int .u8 (l.getD i 0)) := by
    intro i hi
    obtain ⟨ad, e, hx⟩ := Kd.at_int hC (i : Int) (by omega) (by omega)
    cases e
    rw [Int.toNat_natCast, Addr.add_lit] at hx
    rw [hx]
    simp [rd]
  have hr := Lib.run_indexByteSlice (P := Try.prog) w b o l.length c l rfl hc 126
  rw [ixb_eq hb] at hr
  go_enter Try.func21, Try.ntmps21
  go_wp2
  rw [run_callFunc_extern Try.func40 (by kernel_rfl) (by kernel_rfl) (by kernel_rfl) (e := Extern.BytealgIndexByte.indexByte) (by kernel_rfl), hr]
  simp only [Result.andThen]
  rw [Oper.upon_value]
  go_wp2
  go_ret
  exact ⟨rfl, rfl⟩

/-- What lies between the flags: where each piece begins, and how long it is. -/
def its : Nat → Nat → List Int → List (Nat × Nat)
  | lo, k, [] => []
  | lo, k, x :: xs => if x = 126 then (lo, k) :: its (lo + k + 1) 0 xs else its lo (k + 1) xs
theorem ix_lt : ∀ (l : List Int), ix l = -1 ∨ ∃ n : Nat, ix l = (n : Int) ∧ n < l.length
  | [] => .inl rfl
  | x :: l => by
    have h := ix_lt l
    show (if x = 126 then (0 : Int) else if ix l = -1 then -1 else ix l + 1) = -1 ∨ ∃ n : Nat, (if x = 126 then (0 : Int) else if ix l = -1 then -1 else ix l + 1) = (n : Int) ∧ n < (x :: l).length
    by_cases h1 : x = 126
    · exact .inr ⟨0, by rw [if_pos h1]; rfl, by simp⟩
    · rcases h with h | ⟨n, h, hn⟩
      · exact .inl (by rw [if_neg h1, if_pos h])
      · exact .inr ⟨n + 1, by rw [if_neg h1, if_neg (by omega), h]; omega, by simp; omega⟩
theorem its_none : ∀ (l : List Int) (lo k : Nat), ix l = -1 → its lo k l = []
  | [], _, _, _ => rfl
  | x :: l, lo, k, h => by
    have h : (if x = 126 then (0 : Int) else if ix l = -1 then -1 else ix l + 1) = -1 := h
    have h1 : x ≠ 126 := fun e => by rw [if_pos e] at h; exact absurd h (by decide)
    rw [if_neg h1] at h
    have h2 : ix l = -1 := by
      rcases ix_lt l with h3 | ⟨n, h3, _⟩
      · exact h3
      · rw [if_neg (by omega), h3] at h; omega
    show (if x = 126 then _ else _) = _
    rw [if_neg h1]
    exact its_none l _ _ h2
theorem its_some : ∀ (l : List Int) (lo k n : Nat), ix l = (n : Int) → its lo k l = (lo, k + n) :: its (lo + (k + n) + 1) 0 (l.drop (n + 1))
  | [], _, _, _, h => by
    have h : (-1 : Int) = _ := h
    omega
  | x :: l, lo, k, n, h => by
    have h : (if x = 126 then (0 : Int) else if ix l = -1 then -1 else ix l + 1) = (n : Int) := h
    show (if x = 126 then _ else _) = _
    by_cases h1 : x = 126
    · rw [if_pos h1] at h ⊢
      obtain rfl : n = 0 := by omega
      rfl
    · rw [if_neg h1] at h ⊢
      have h2 : ix l ≠ -1 := fun e => by rw [if_pos e] at h; omega
      rw [if_neg h2] at h
      have h3 := its_some l lo (k + 1) (n - 1) (by omega)
      rw [h3]
      have e1 : k + 1 + (n - 1) = k + n := by omega
      have e2 : n - 1 + 1 = n := by omega
      rw [e1, e2]
      rfl
theorem ix_bytes {l : List Int} (h : By8 l) (n : Nat) : By8 (l.drop n) := fun c hc => h c (List.mem_of_mem_drop hc)

theorem C_blkstep {V V' : World} {A : Option Addr} {p : List Int} (h : Kd.C (Kd.int .u8) V A p.length p) (hm : ∀ x, A = some x → V'.heap[x.block]? = V.heap[x.block]?) : Kd.C (Kd.int .u8) V' A p.length p := by
  obtain ⟨h1, h2, h3⟩ := h
  refine ⟨h1, h2, fun hp => ?_⟩
  obtain ⟨x, rfl, hc⟩ := h3 hp
  refine ⟨x, rfl, fun j q hj => ?_⟩
  obtain ⟨cs, hn, hK, hcell⟩ := hc j q hj
  refine ⟨cs, hn, hK, fun i u hu => ?_⟩
  have e := hcell i u hu
  have eb : (x.add (j * (Kd.int .u8).sz + i)).block = x.block := by unfold Addr.add; split <;> rfl
  unfold World.cell? at e ⊢
  rw [eb] at e ⊢
  rw [hm x rfl]
  exact e
/-- The boxes and the bytes are kept. -/
def Kq (Bf Bb b : Nat) (W W' : World) : Prop := ∀ k, k = Bf ∨ k = Bb ∨ k = b → W'.heap[k]? = W.heap[k]?
theorem Kq.trans {Bf Bb b : Nat} {W1 W2 W3 : World} (h : Kq Bf Bb b W1 W2) (h' : Kq Bf Bb b W2 W3) : Kq Bf Bb b W1 W3 := fun k hk => (h' k hk).trans (h k hk)
theorem Kq.refl {Bf Bb b : Nat} {W : World} : Kq Bf Bb b W W := fun _ _ => rfl
theorem Kq.cell {Bf Bb b : Nat} {W W' : World} (h : Kq Bf Bb b W W') {k : Nat} (hk : k = Bf ∨ k = Bb ∨ k = b) {v : Value} {i : Nat} (hv : W.cell? ⟨k, i, none⟩ = some v) : W'.cell? ⟨k, i, none⟩ = some v := by
  unfold World.cell? at hv ⊢
  rw [h k hk]
  exact hv
def pc (l : List Int) (x : Nat × Nat) : List Int := (l.drop x.1).take x.2
/-- The pieces as the iterator hands them out. -/
def encP (b o c : Nat) (l : List Int) (x : Nat × Nat) : Array Value := #[.slice (some ⟨b, o + x.1, none⟩) (pc l x).length (c - x.1), .int .i64 ((x.1 : Int) + (x.2 : Int))]
theorem pc_len {l : List Int} {p m : Nat} (h : m < l.length - (p + 1)) : (pc l (p + 1, m)).length = m := by
  unfold pc
  rw [List.length_take, List.length_drop]
  omega
theorem arm_facts {p m c n : Nat} (hl : n ≤ 140737488355328) (hc : n ≤ c) (hm : p + 1 + m < n) :
    decide ((m : Int) < 0) = false ∧ wrap64 ((p : Int) + 1 + (m : Int)) = (p : Int) + 1 + (m : Int) ∧ (p + 1 ≤ p + 1 + m) = True ∧ ((p : Int) + 1 ≤ (p : Int) + 1 + (m : Int)) = True ∧ ((p : Int) + 1 + (m : Int) ≤ (c : Int)) = True ∧ (p + 1 + m ≤ c) = True ∧ p + 1 + m - (p + 1) = m ∧ (0 ≤ (p : Int) + 1 + (m : Int)) = True ∧ wrap64 ((m : Int) + 1) = (m : Int) + 1 ∧ wrap64 ((p : Int) + ((m : Int) + 1)) = ((p + 1 + m : Nat) : Int) :=
  ⟨decide_eq_false (by omega), by unfold wrap64; omega, eq_true (by omega), eq_true (by omega), eq_true (by omega), eq_true (by omega), by omega, eq_true (by omega), by unfold wrap64; omega, by unfold wrap64; omega⟩
theorem arm_lt {p m n : Nat} (h : m < n - (p + 1)) : p + 1 + m < n := by omega
theorem arm_ms {p m n : Nat} (h : m < n - (p + 1)) : n - ((p + 1 + m : Nat) : Int).toNat < n - (p : Int).toNat := by omega
theorem wide_depth {p : Prop} : Fence.wide.depth.isSome = true → p := fun h => by simp [Fence.wide] at h

set_option maxRecDepth 100000 in
set_option maxHeartbeats 2000000 in
theorem cont_stops (n : Nat) (hn : 2 ≤ n) (Bf Bb b o c f : Nat) (l : List Int) (hl : l.length ≤ 140737488355328) (hf : f < l.length) (hc : l.length ≤ c) (hb8 : By8 l) (w0 : World) (hC : Kd.C (Kd.int .u8) w0 (some ⟨b, o, none⟩) l.length l) (hBf : w0.cell? ⟨Bf, 0, none⟩ = some (.int .i64 (f : Int))) (hBb : w0.cell? ⟨Bb, 0, none⟩ = some (.slice (some ⟨b, o, none⟩) l.length c)) :
    SeqStopsK Fence.wide n Try.prog 41 #[.pointer (some ⟨Bf, 0, none⟩), .pointer (some ⟨Bb, 0, none⟩)] (encP b o c l) (Kq Bf Bb b) (fun xs => xs = its (f + 1) 0 (l.drop (f + 1))) (fun pre => pre <+: its (f + 1) 0 (l.drop (f + 1))) (its (f + 1) 0 (l.drop (f + 1))).length w0 := fun l1 J Jx W hW _ _ hY h0 => by
  have hro : Fence.wide.round = none := rfl
  have hcf := pw_cell_below hW hBf
  have hcb := pw_cell_below hW hBb
  refine callsIn_of_wp Try.func41 rfl trivial ?_ hro
  simp only [Try.ntmps41, List.size_toArray, List.length_cons, List.length_nil, Nat.reduceAdd, Nat.reduceSub, Array.replicate_succ, Array.replicate_zero, List.push_toArray, List.append_toArray, List.nil_append, List.cons_append]
  gi_wp2
  gi_loopw [4] (fun v4 wr => ∃ (p : Nat) (pre : List (Nat × Nat)), p < l.length ∧ v4 = .int .i64 (p : Int) ∧ pre ++ its (p + 1) 0 (l.drop (p + 1)) = its (f + 1) 0 (l.drop (f + 1)) ∧ J pre wr ∧ Kq Bf Bb b W wr)
    (fun v4 _ => l.length - (intOf v4).toNat)
  case atStart => exact ⟨f, [], hf, rfl, rfl, h0, Kq.refl⟩
  case round =>
    obtain ⟨p, pre, hp, rfl, hpre, hJ, hB⟩ := hrel
    have hcr := hB.cell (.inr (.inl rfl)) hcb
    have hCr := C_blkstep (Kd.C_below hC hW) (fun x e => by cases e; exact hB b (.inr (.inr rfl)))
    have w1 : wrap64 ((p : Int) + 1) = (p : Int) + 1 := by unfold wrap64; omega
    have b1 : (0 ≤ (p : Int) + 1) = True := eq_true (by omega)
    have b2 : ((p : Int) + 1 ≤ (l.length : Int)) = True := eq_true (by omega)
    have b3 : ((p : Int) + 1).toNat = p + 1 := by omega
    have b4 : ((p : Int) + 1 ≤ (c : Int)) = True := eq_true (by omega)
    have b5 : (p + 1 ≤ l.length) = True := eq_true (by omega)
    have b6 : (p + 1 ≤ c) = True := eq_true (by omega)
    have hlen : its (p + 1) 0 (l.drop (p + 1)) = [] ∨ pre.length < (its (f + 1) 0 (l.drop (f + 1))).length := by
      cases e : its (p + 1) 0 (l.drop (p + 1)) with
      | nil => exact .inl rfl
      | cons y ys =>
        right
        rw [← hpre, e, List.length_append, List.length_cons]
        omega
    by_cases he : c = p + 1
    · have hnil : l.drop (p + 1) = [] := List.drop_eq_nil_of_le (by omega)
      have hz : l.length - (p + 1) = 0 := by omega
      have IB := Aside0.mk (fun W => indexByte_calls b o 0 [] W (fun c hc => by cases hc) ⟨rfl, by simp, fun h => absurd h (by simp)⟩)
      have hcz : c - (p + 1) = 0 := by omega
      gi_wp2_with (first | (refine ⟨trivial, wide_depth, ?_⟩; gi_at_call 21; refine (callsIn_wide.2 (IB.out _)).mono ?_; rintro e w1 ⟨rfl, hw⟩; rw [hw]; clear hw; dsimp only [ix]))
      repeat (first | (refine ⟨trivial, ?_⟩; gi_wp2) | (refine ⟨fun _ h => (by cases h), ?_⟩; gi_wp2))
      refine bodyPost_ret (results_none rfl _ _ _) rfl ?_
      exact ⟨⟨_, rfl⟩, .inl ⟨pre, by rw [← hpre, hnil]; simp [its], hJ⟩⟩
    · have HCD : Kd.C (Kd.int .u8) wr (some ⟨b, o + (p + 1), none⟩) (l.drop (p + 1)).length (l.drop (p + 1)) := by
        have h := Kd.C_drop (m := p + 1) (c := c) hCr (by omega) hc
        rw [if_neg he] at h
        simpa [Addr.add_lit, show (Kd.int .u8).sz = 1 from rfl] using h
      have IB := Aside0.mk (fun W (h : W = wr) => by have := indexByte_calls b (o + (p + 1)) (c - (p + 1)) (l.drop (p + 1)) W (ix_bytes hb8 _) (by rw [h]; exact HCD); rwa [List.length_drop] at this)
      rcases ix_lt (l.drop (p + 1)) with hx | ⟨m, hx, hm⟩
      · rw [hx] at IB
        gi_wp2_with (first | (refine ⟨trivial, wide_depth, ?_⟩; gi_at_call 21; refine (callsIn_wide.2 (IB.out _ rfl)).mono ?_; rintro e w1 ⟨rfl, hw⟩; rw [hw]; clear hw; dsimp only))
        repeat (first | (refine ⟨trivial, ?_⟩; gi_wp2) | (refine ⟨fun _ h => (by cases h), ?_⟩; gi_wp2))
        refine bodyPost_ret (results_none rfl _ _ _) rfl ?_
        exact ⟨⟨_, rfl⟩, .inl ⟨pre, by rw [← hpre, its_none _ _ _ hx]; simp, hJ⟩⟩
      · rw [hx] at IB
        have hit := its_some (l.drop (p + 1)) (p + 1) 0 m hx
        rw [List.drop_drop, Nat.zero_add] at hit
        rw [List.length_drop] at hm
        have hlt : pre.length < (its (f + 1) 0 (l.drop (f + 1))).length := by
          rcases hlen with h | h
          · rw [h] at hit; cases hit
          · exact h
        obtain ⟨fn, tmps, assign, body, hy, hR⟩ := hY pre (p + 1, m) wr hJ hlt
        dsimp only [encP] at hy
        have hp2 : (pre ++ [(p + 1, m)]) ++ its (p + 1 + m + 1) 0 (l.drop (p + 1 + m + 1)) = its (f + 1) 0 (l.drop (f + 1)) := by
          rw [← hpre, hit, List.append_assoc]
          have e : p + 1 + (m + 1) = p + 1 + m + 1 := by omega
          rw [e]
          rfl
        obtain ⟨m1, m2, m3, m4, m5, m6, m7, m8, m9, m10⟩ := arm_facts (p := p) (m := m) (c := c) (n := l.length) hl hc (by omega)
        have e2 : ((p + 1 : Nat) : Int) + (m : Int) = (p : Int) + 1 + (m : Int) := by omega
        rw [e2, pc_len hm] at hy
        have HP2 := Aside0.mk hp2
        have HX := Aside0.mk (arm_lt hm)
        have HM := Aside0.mk (arm_ms hm)
        clear hlen hpre hJ hlt hit hp2 hl hc hp hm hf e2 hY
        gi_wp2_with (first | (refine ⟨trivial, wide_depth, ?_⟩; gi_at_call 21; refine (callsIn_wide.2 (IB.out _ rfl)).mono ?_; rintro e w1 ⟨rfl, hw⟩; rw [hw]; clear hw; dsimp only))
        first | refine ⟨wide_depth, hR.mono ?_⟩ | refine hR.mono ?_
        rintro e W3 (⟨rfl, hJ3, hk3⟩ | ⟨rfl, hJx3⟩)
        · gi_wp2
          go_roundw
          case rel => exact ⟨p + 1 + m, _, HX.out, by rw [m10], HP2.out, hJ3, hB.trans hk3⟩
          case measure =>
            show l.length - (intOf (.int .i64 _)).toNat < l.length - (intOf (.int .i64 _)).toNat
            rw [m10]
            exact HM.out
        · gi_wp2
          refine bodyPost_ret (results_none rfl _ _ _) rfl ?_
          exact ⟨⟨_, rfl⟩, .inr ⟨_, ⟨_, HP2.out⟩, hJx3⟩⟩
end Go.Proofs.Ytmpjcpkfnjnejaa.Hq
/-
  hdlc by hand: Scan.
-/
namespace Go.Proofs.Ytmpjcpkfnjnejaa.Hq
open Go.RowKit Go.Shelf Go.Proofs.YtmpjcpkfnjnejaaW.PrintWords Go.Proofs.YtmpjcpkfnjnejaaW.PrintLast Go.Proofs.YtmpjcpkfnjnejaaW.PrintMore Go.Proofs.Ytmpjcpkfnjnejaa.Is
set_option linter.unusedVariables false
set_option linter.unusedSimpArgs false
attribute [local go_sem] Oper.semAt_some

/-! ### a slice of payloads -/
/-- V' has V's blocks of cells. -/
def SameCells (V V' : World) : Prop := ∀ (k : Nat) (cells : Array Value) (t : TypeId) (fr : Nat × Nat), V.heap[k]? = some (.cells cells t fr) → V'.heap[k]? = some (.cells cells t fr)
theorem pay_step {base : Nat} {V V' : World} {v : Value} {p : List Int} (h : Pay base V v p) (hm : ∀ k cells fr, base ≤ k → V.heap[k]? = some (.cells cells 5 fr) → V'.heap[k]? = V.heap[k]?) : Pay base V' v p := by
  obtain ⟨A, c, hv, hl, hC, hA⟩ := h
  have hs : ∀ x, A = some x → V'.heap[x.block]? = V.heap[x.block]? := fun x hx => by
    obtain ⟨h1, cells, fr, h2⟩ := hA x hx
    exact hm _ _ _ h1 h2
  refine ⟨A, c, hv, hl, C_blkstep hC hs, fun x hx => ?_⟩
  obtain ⟨h1, cells, fr, h2⟩ := hA x hx
  exact ⟨h1, cells, fr, (hs x hx).trans h2⟩
theorem pay_mono {base base' : Nat} {V : World} {v : Value} {p : List Int} (h : Pay base V v p) (hb : base' ≤ base) : Pay base' V v p := by
  obtain ⟨A, c, hv, hl, hC, hA⟩ := h
  refine ⟨A, c, hv, hl, hC, fun x hx => ?_⟩
  obtain ⟨h1, h2⟩ := hA x hx
  exact ⟨Nat.le_trans hb h1, h2⟩

structure Fr (base : Nat) (V : World) (v : Value) (fs : List (List Int)) : Prop where
  ex : ∃ ys : List Value, V.ownsRow base 24 1 v fs.length ys ∧ ∀ (j : Nat) y p, ys[j]? = some y → fs[j]? = some p → Pay base V y p
theorem fr_nil (base : Nat) (V : World) : Fr base V (.slice none 0 0) [] := ⟨[], World.ownsRow_nil _ _ _ _, fun j y p h => by simp at h⟩
theorem own_cells {base e n : Nat} {V : World} {v : Value} {ys : List Value} (h : V.ownsRow base e 1 v n ys) : ∀ k, v.ownBlock = some k → base ≤ k ∧ ∃ cells, V.heap[k]? = some (.cells cells e (0, 0)) := by
  intro k hk
  obtain ⟨_, ⟨rfl, _⟩ | ⟨g, cap, cur, rfl, hb, hg, _⟩⟩ := h
  · cases hk
  · have : g = k := by simpa [Value.ownBlock] using hk
    subst this
    exact ⟨hb, cur, hg⟩
theorem own_same {base e n : Nat} {V V' : World} {v : Value} {ys : List Value} (h : V.ownsRow base e 1 v n ys) (hm : SameCells V V') : V'.ownsRow base e 1 v n ys := by
  obtain ⟨h1, ⟨rfl, h2⟩ | ⟨g, cap, cur, rfl, hb, hg, h3⟩⟩ := h
  · exact ⟨h1, .inl ⟨rfl, h2⟩⟩
  · exact ⟨h1, .inr ⟨g, cap, cur, rfl, hb, hm _ _ _ _ hg, h3⟩⟩
theorem fr_step {base : Nat} {V V' : World} {v : Value} {fs : List (List Int)} (h : Fr base V v fs) (hm : SameCells V V') : Fr base V' v fs := by
  obtain ⟨ys, hR, hp⟩ := h.ex
  exact ⟨ys, own_same hR hm, fun j y p hu hf => pay_step (hp j y p hu hf) (fun k cells fr _ hc => by rw [hm _ _ _ _ hc, hc])⟩
theorem same_of_grown {V V' : World} {row : Option Nat} (hg : V.grownBy V' row) (hr : ∀ r, row = some r → ∃ o : Obj, V.heap[r]? = some o ∧ o.isCells = false) : SameCells V V' := fun k cells t fr h => by
  refine (hg.block k (Array.getElem?_eq_some_iff.1 h).1 (fun e => ?_)).trans h
  obtain ⟨o, ho, hc⟩ := hr k e.symm
  rw [h] at ho
  cases ho
  cases hc
theorem same_of_below {V V' : World} (hb : Below V.heap.size V V') : SameCells V V' := fun k cells t fr h => (hb.block k (Array.getElem?_eq_some_iff.1 h).1).trans h
/-- A payload more. -/
theorem fr_more {base : Nat} {V V' : World} {v v' y : Value} {fs : List (List Int)} {p : List Int} {ys : List Value} (hR : V.ownsRow base 24 1 v fs.length ys) (hp : ∀ (j : Nat) y p, ys[j]? = some y → fs[j]? = some p → Pay base V y p)
    (hy : Pay base V y p) (hR' : V'.ownsRow base 24 1 v' (fs.length + 1) (ys ++ [y])) (hg : V.grownBy V' v.ownBlock) : Fr base V' v' (fs ++ [p]) := by
  have keep : ∀ {y p}, Pay base V y p → Pay base V' y p := fun h => pay_step h (fun k cells fr _ hc => hg.block k (Array.getElem?_eq_some_iff.1 hc).1 (fun e => by
    obtain ⟨_, cells', hc'⟩ := own_cells hR k e.symm
    rw [hc] at hc'
    cases hc'))
  have hl : ys.length = fs.length := by have := hR.1; omega
  refine ⟨ys ++ [y], by rw [List.length_append]; exact hR', fun j u q hu hq => ?_⟩
  by_cases hj : j < ys.length
  · rw [List.getElem?_append_left hj] at hu
    rw [List.getElem?_append_left (by omega)] at hq
    exact keep (hp j u q hu hq)
  · have hjl : j < (ys ++ [y]).length := (List.getElem?_eq_some_iff.1 hu).1
    have : j = ys.length := by simp at hjl; omega
    subst this
    rw [List.getElem?_append_right (Nat.le_refl _), Nat.sub_self] at hu
    rw [hl, List.getElem?_append_right (Nat.le_refl _), Nat.sub_self] at hq
    cases hu
    cases hq
    exact keep hy
theorem fr_N {base : Nat} {V : World} {v : Value} {fs : List (List Int)} (h : Fr base V v fs) : Kd.N (Kd.slice 5 (Kd.int .u8)) 24 V base (fun k => base ≤ k) v fs := by
  obtain ⟨ys, hR, hp⟩ := h.ex
  have hl : ys.length = fs.length := by have := hR.1; omega
  have hone : ∀ y ∈ ys, y.oneCell' = true := fun y hy => by
    obtain ⟨j, hj, rfl⟩ := List.getElem_of_mem hy
    obtain ⟨A, c, hv, _⟩ := hp j _ (fs[j]'(by omega)) (List.getElem?_eq_getElem hj) (List.getElem?_eq_getElem (by omega))
    rw [hv]
    rfl
  have hRaw : (Kd.raw 1).R 24 V base (fun k => some k = v.ownBlock) v (ys.map fun y => [y]) := by
    refine ⟨fun k hk => hk.symm, ys, by rw [List.length_map, hl]; exact hR, by rw [List.length_map]; exact (Nat.mul_one _).symm, fun j q hq => ?_⟩
    rw [List.getElem?_map] at hq
    obtain ⟨y, hy, rfl⟩ := Option.map_eq_some_iff.1 hq
    have hj : j < ys.length := (List.getElem?_eq_some_iff.1 hy).1
    have e : (ys.drop (j * 1)).take 1 = [y] := by
      rw [Nat.mul_one, List.drop_eq_getElem_cons hj]
      have : ys[j] = y := (List.getElem?_eq_some_iff.1 hy).2
      simp [this]
    show (ys.drop (j * 1)).take 1 = [y] ∧ _
    exact ⟨e, by show ((ys.drop (j * 1)).take 1).length = 1; rw [e]; rfl, fun u hu => by
      have hu : u ∈ (ys.drop (j * 1)).take 1 := hu
      rw [e, List.mem_singleton] at hu
      rw [hu]
      exact hone y (List.mem_of_getElem? hy)⟩
  refine ⟨fun k hk => (own_cells hR k hk).1, ys.map fun y => [y], by rw [List.length_map, hl], hRaw, fun j p u hf hu => ?_⟩
  rw [List.getElem?_map] at hu
  obtain ⟨y, hy, rfl⟩ := Option.map_eq_some_iff.1 hu
  obtain ⟨A, c, rfl, hl2, hC, hA⟩ := hp j y p hy hf
  refine Kd.FK_slice_mk hl2 (fun W' hW => C_blkstep hC (fun x hx => ?_))
  obtain ⟨h1, cells, fr, h2⟩ := hA x hx
  refine hW _ ⟨h1, fun e => ?_⟩ (Array.getElem?_eq_some_iff.1 h2).1
  obtain ⟨_, cells', hc'⟩ := own_cells hR _ e.symm
  rw [h2] at hc'
  cases hc'

theorem contents_calls (A : Option Addr) (n c : Nat) (f : Int) (w : World) :
    Calls Try.prog 22 #[.slice A n c, .int .i64 f] w fun e w' => e = .returned (.func (.func 41) #[] #[.pointer (some ⟨w.heap.size + 1, 0, none⟩), .pointer (some ⟨w.heap.size, 0, none⟩)]) ∧ w' = (w.alloc (.cells #[.slice A n c] 24)).alloc (.cells #[.int .i64 f] 3) := by
  go_enter Try.func22, Try.ntmps22
  go_wp2
  go_ret
  exact ⟨rfl, rfl⟩

theorem addr_plain {w : World} {ad : Addr} {n : Nat} {l : List Int} (h : Kd.C (Kd.int .u8) w (some ad) n l) (hn : 0 < n) : ∃ b o, ad = ⟨b, o, none⟩ := by
  obtain ⟨x, e, hx⟩ := Kd.at_int h 0 (Int.le_refl _) (by omega)
  cases e
  have e0 : ad.add ((0 : Int).toNat) = ad := by simp [Addr.add]
  rw [e0] at hx
  obtain ⟨b, o, s⟩ := ad
  cases s with
  | none => exact ⟨b, o, rfl⟩
  | some s =>
    unfold World.cell? at hx
    split at hx <;> simp at hx

/-! ### the pieces, one by one -/
def frs (l : List Int) (pre : List (Nat × Nat)) : List (List Int) := pre.filterMap (fun x => openOk (pc l x))
def lst (f : Nat) (pre : List (Nat × Nat)) : Int := pre.foldl (fun _ x => (x.1 : Int) + (x.2 : Int)) (f : Int)
theorem lst_snoc (f : Nat) (pre : List (Nat × Nat)) (x : Nat × Nat) : lst f (pre ++ [x]) = (x.1 : Int) + (x.2 : Int) := by simp [lst]
theorem frs_snoc (l : List Int) (pre : List (Nat × Nat)) (x : Nat × Nat) : frs l (pre ++ [x]) = frs l pre ++ (match openOk (pc l x) with | some p => [p] | none => []) := by
  unfold frs
  rw [List.filterMap_append]
  congr 1
  simp only [List.filterMap_cons, List.filterMap_nil]
  cases openOk (pc l x) <;> rfl
theorem frs_len (l : List Int) (pre : List (Nat × Nat)) : (frs l pre).length ≤ pre.length := List.length_filterMap_le _ _
theorem its_len : ∀ (l : List Int) (lo k : Nat), (its lo k l).length ≤ l.length
  | [], _, _ => Nat.le_refl _
  | x :: l, lo, k => by
    show (if x = 126 then (lo, k) :: its (lo + k + 1) 0 l else its lo (k + 1) l).length ≤ l.length + 1
    split
    · have := its_len l (lo + k + 1) 0
      rw [List.length_cons]
      omega
    · have := its_len l lo (k + 1)
      omega
theorem its_pcs (L : List Int) : ∀ (l : List Int) (lo k : Nat), L.drop (lo + k) = l → (its lo k l).map (pc L) = pcs ((L.drop lo).take k) l
  | [], _, _, _ => rfl
  | x :: l, lo, k, h => by
    have hd : L.drop (lo + k + 1) = l := by rw [← List.drop_drop, h]; rfl
    show (if x = 126 then (lo, k) :: its (lo + k + 1) 0 l else its lo (k + 1) l).map (pc L) = if x = 126 then (L.drop lo).take k :: pcs [] l else pcs ((L.drop lo).take k ++ [x]) l
    split
    · rw [List.map_cons, its_pcs L l (lo + k + 1) 0 hd]
      rfl
    · rw [its_pcs L l lo (k + 1) hd]
      congr 1
      have hk : (L.drop lo)[k]? = some x := by
        rw [List.getElem?_drop]
        have := congrArg (fun z : List Int => z[0]?) h
        simpa using this
      rw [List.take_add_one, hk]
      rfl
theorem its_last (f : Int) : ∀ (l : List Int) (lo k : Nat), lastF ((lo + k : Nat) : Int) f l = (its lo k l).foldl (fun _ x => (x.1 : Int) + (x.2 : Int)) f
  | [], _, _ => rfl
  | x :: l, lo, k => by
    show (if x = 126 then lastF (((lo + k : Nat) : Int) + 1) ((lo + k : Nat) : Int) l else lastF (((lo + k : Nat) : Int) + 1) f l) = (if x = 126 then (lo, k) :: its (lo + k + 1) 0 l else its lo (k + 1) l).foldl _ f
    have e : ((lo + k : Nat) : Int) + 1 = ((lo + k + 1 + 0 : Nat) : Int) := by omega
    have e2 : ((lo + k : Nat) : Int) + 1 = ((lo + (k + 1) : Nat) : Int) := by omega
    split
    · rw [e, its_last _ l (lo + k + 1) 0]
      have e3 : ((lo + k : Nat) : Int) = (lo : Int) + (k : Int) := by omega
      rw [e3]
      rfl
    · rw [e2, its_last f l lo (k + 1)]
theorem aft_ix : ∀ (l : List Int) (n : Nat), ix l = (n : Int) → aft l = some (l.drop (n + 1)) ∧ ∀ p u, lastF p u l = lastF (p + (n : Int) + 1) (p + (n : Int)) (l.drop (n + 1))
  | [], _, h => by
    have h : (-1 : Int) = _ := h
    omega
  | x :: l, n, h => by
    have h : (if x = 126 then (0 : Int) else if ix l = -1 then -1 else ix l + 1) = (n : Int) := h
    by_cases h1 : x = 126
    · rw [if_pos h1] at h
      obtain rfl : n = 0 := by omega
      refine ⟨if_pos h1, fun p u => ?_⟩
      show (if x = 126 then lastF (p + 1) p l else lastF (p + 1) u l) = _
      rw [if_pos h1]
      simp
    · rw [if_neg h1] at h
      have h2 : ix l ≠ -1 := fun e => by rw [if_pos e] at h; omega
      rw [if_neg h2] at h
      obtain ⟨h3, h4⟩ := aft_ix l (n - 1) (by omega)
      have e2 : n - 1 + 1 = n := by omega
      rw [e2] at h3 h4
      refine ⟨(if_neg h1).trans h3, fun p u => ?_⟩
      show (if x = 126 then lastF (p + 1) p l else lastF (p + 1) u l) = _
      rw [if_neg h1, h4]
      have e3 : p + 1 + ((n - 1 : Nat) : Int) = p + (n : Int) := by omega
      rw [e3]
      rfl
theorem aft_none : ∀ (l : List Int), ix l = -1 → aft l = none
  | [], _ => rfl
  | x :: l, h => by
    have h : (if x = 126 then (0 : Int) else if ix l = -1 then -1 else ix l + 1) = -1 := h
    have h1 : x ≠ 126 := fun e => by rw [if_pos e] at h; exact absurd h (by decide)
    rw [if_neg h1] at h
    have h2 : ix l = -1 := by
      rcases ix_lt l with h3 | ⟨n, h3, _⟩
      · exact h3
      · rw [if_neg (by omega), h3] at h; omega
    exact (if_neg h1).trans (aft_none l h2)
theorem scan_eq {l : List Int} {f : Nat} (h : ix l = (f : Int)) : scanH l = (frs l (its (f + 1) 0 (l.drop (f + 1))), lst f (its (f + 1) 0 (l.drop (f + 1)))) := by
  obtain ⟨h1, h2⟩ := aft_ix l f h
  unfold scanH
  rw [h1]
  show ((pcs [] (l.drop (f + 1))).filterMap openOk, lastF 0 0 l) = _
  have e := its_pcs l (l.drop (f + 1)) (f + 1) 0 rfl
  have e0 : (l.drop (f + 1)).take 0 = [] := rfl
  rw [e0] at e
  rw [← e, List.filterMap_map, h2]
  have e2 := its_last (f : Int) (l.drop (f + 1)) (f + 1) 0
  have e3 : (0 : Int) + (f : Int) = (f : Int) := by omega
  have e4 : ((f + 1 + 0 : Nat) : Int) = (f : Int) + 1 := by omega
  rw [e4] at e2
  rw [e3, e2]
  rfl

theorem fr_lower {base base' : Nat} {V : World} {v : Value} {fs : List (List Int)} (h : Fr base V v fs) (hb : base' ≤ base) : Fr base' V v fs := by
  obtain ⟨ys, ⟨h1, h2⟩, hp⟩ := h.ex
  refine ⟨ys, ⟨h1, ?_⟩, fun j y p hu hf => pay_mono (hp j y p hu hf) hb⟩
  rcases h2 with h2 | ⟨g, cap, cur, hv, hg, h3⟩
  · exact .inl h2
  · exact .inr ⟨g, cap, cur, hv, Nat.le_trans hb hg, h3⟩
/-- What holds when the pieces of pre have been looked at. -/
structure ScI (w : World) (l : List Int) (f b : Nat) (W0 : World) (pre : List (Nat × Nat)) (V : World) : Prop where
  c1 : ∃ v, V.heap[w.heap.size]? = some (.cells #[v] 39 (0, 0)) ∧ Fr W0.heap.size V v (frs l pre)
  c2 : V.heap[w.heap.size + 1]? = some (.cells #[.int .i64 (lst f pre)] 3 (0, 0))
  bl : Below w.heap.size w V
  kq : Kq (w.heap.size + 3) (w.heap.size + 2) b W0 V
  sz : W0.heap.size ≤ V.heap.size
theorem ScI.own {w : World} {l : List Int} {f b : Nat} {W0 : World} (hW : w.heap.size + 4 ≤ W0.heap.size) (hb : b < w.heap.size) : OwnFrom W0.heap.size (ScI w l f b W0) := fun s V V' row hs hg hr => by
  have same := same_of_grown hg (fun r e => (hr r e).2)
  obtain ⟨⟨v, h1, h2⟩, h3, h4, h5, h6⟩ := hs
  have hk : ∀ k, k < W0.heap.size → V'.heap[k]? = V.heap[k]? := fun k hk => hg.block k (by omega) (fun e => by have := (hr k e.symm).1; omega)
  exact ⟨⟨v, same _ _ _ _ h1, fr_step h2 same⟩, same _ _ _ _ h3, ⟨hg.os.trans h4.os, hg.tape.trans h4.tape, hg.output.trans h4.output, Nat.le_trans h4.size hg.size, fun k hlt => (hk k (by omega)).trans (h4.block k hlt)⟩, fun k hkk => (hk k (by rcases hkk with rfl | rfl | rfl <;> omega)).trans (h5 k hkk), Nat.le_trans h6 hg.size⟩

theorem cells_set {V : World} {k : Nat} {u v : Value} {t : TypeId} (h : V.heap[k]? = some (.cells #[v] t (0, 0))) : (V.setCell ⟨k, 0, none⟩ u).heap[k]? = some (.cells #[u] t (0, 0)) := by
  have hlt := (Array.getElem?_eq_some_iff.1 h).1
  simp [World.setCell, Array.getElem?_modify, h]
theorem cells_at {V : World} {k : Nat} {v : Value} {t : TypeId} (h : V.heap[k]? = some (.cells #[v] t (0, 0))) : V.cell? ⟨k, 0, none⟩ = some v ∧ V.frozen? ⟨k, 0, none⟩ = false := by
  constructor
  · simp [World.cell?, h]
  · simp [World.frozen?, h]
theorem set_size (V : World) (a : Addr) (u : Value) : (V.setCell a u).heap.size = V.heap.size := by simp [World.setCell]
theorem four (w : World) (a b c d : Obj) : ((((w.alloc a).alloc b).alloc c).alloc d).heap[w.heap.size]? = some a ∧ ((((w.alloc a).alloc b).alloc c).alloc d).heap[w.heap.size + 1]? = some b ∧ ((((w.alloc a).alloc b).alloc c).alloc d).heap[w.heap.size + 2]? = some c ∧ ((((w.alloc a).alloc b).alloc c).alloc d).heap[w.heap.size + 3]? = some d ∧ ((((w.alloc a).alloc b).alloc c).alloc d).heap.size = w.heap.size + 4 := by
  have s1 := World.size_alloc w a
  have s2 := World.size_alloc (w.alloc a) b
  have s3 := World.size_alloc ((w.alloc a).alloc b) c
  have s4 := World.size_alloc (((w.alloc a).alloc b).alloc c) d
  have e1 := heap_alloc_new w a
  have e2 := heap_alloc_new (w.alloc a) b
  have e3 := heap_alloc_new ((w.alloc a).alloc b) c
  have e4 := heap_alloc_new (((w.alloc a).alloc b).alloc c) d
  rw [s1] at e2
  rw [s2, s1] at e3
  rw [s3, s2, s1] at e4
  refine ⟨?_, ?_, ?_, e4, by omega⟩
  · exact (Below.heap_alloc _ _ _ (by omega)).trans ((Below.heap_alloc _ _ _ (by omega)).trans ((Below.heap_alloc _ _ _ (by omega)).trans e1))
  · exact (Below.heap_alloc _ _ _ (by omega)).trans ((Below.heap_alloc _ _ _ (by omega)).trans e2)
  · exact (Below.heap_alloc _ _ _ (by omega)).trans e3
theorem pc_C {V : World} {b o : Nat} {l : List Int} (h : Kd.C (Kd.int .u8) V (some ⟨b, o, none⟩) l.length l) (x : Nat × Nat) : Kd.C (Kd.int .u8) V (some ⟨b, o + x.1, none⟩) (pc l x).length (pc l x) := by
  have hle : (pc l x).length ≤ l.length := by unfold pc; rw [List.length_take, List.length_drop]; omega
  refine ⟨rfl, Nat.le_trans hle h.2.1, fun _ => ⟨_, rfl, fun j q hq => ⟨[.int .u8 q], rfl, rfl, fun i u hu => ?_⟩⟩⟩
  have hi : i = 0 := by
    cases i with
    | zero => rfl
    | succ i => simp at hu
  subst hi
  simp only [List.getElem?_cons_zero, Option.some.injEq] at hu
  subst hu
  have hq2 : l[x.1 + j]? = some q := by
    unfold pc at hq
    rw [List.getElem?_take] at hq
    split at hq
    · rwa [List.getElem?_drop] at hq
    · cases hq
  have hj : x.1 + j < l.length := (List.getElem?_eq_some_iff.1 hq2).1
  obtain ⟨ad, e, hx⟩ := Kd.at_int h ((x.1 + j : Nat) : Int) (by omega) (by omega)
  cases e
  rw [Int.toNat_natCast, Addr.add_lit] at hx
  have e2 : (⟨b, o + x.1, none⟩ : Addr).add (j * (Kd.int .u8).sz + 0) = ⟨b, o + (x.1 + j), none⟩ := by
    rw [Addr.add_lit]
    show (⟨b, o + x.1 + (j * 1 + 0), none⟩ : Addr) = _
    congr 1
    omega
  have e3 : rd l ((x.1 + j : Nat) : Int) = q := by
    unfold rd
    rw [Int.toNat_natCast, List.getD_eq_getElem?_getD, hq2]
    rfl
  rw [e2, hx, e3]
theorem pc_le {l : List Int} {c : Nat} (h : l.length ≤ c) (x : Nat × Nat) : (pc l x).length ≤ c - x.1 := by
  unfold pc
  rw [List.length_take, List.length_drop]
  omega
theorem pc_len' (l : List Int) (x : Nat × Nat) : (pc l x).length ≤ l.length := by
  unfold pc
  rw [List.length_take, List.length_drop]
  omega
theorem one_new (w : World) (y : Value) (t : TypeId) : ∀ (j : Nat) u, [y][j]? = some u → (w.alloc (.cells #[y] t)).cell? ((⟨w.heap.size, 0, none⟩ : Addr).add j) = some u := by
  intro j u hu
  have hj : j = 0 := by
    cases j with
    | zero => rfl
    | succ j => simp at hu
  subst hj
  simp only [List.getElem?_cons_zero, Option.some.injEq] at hu
  subst hu
  rw [Addr.add_lit, cell_of_row _ _ _ _ _ _ (heap_alloc_new _ _)]
  rfl
theorem pay_one {base : Nat} {V : World} {y : Value} {p : List Int} (h : Pay base V y p) : y.oneCell' = true := by
  obtain ⟨A, c, rfl, _⟩ := h
  rfl
/-- A piece that is no frame. -/
theorem sc_bad {w : World} {l : List Int} {f b : Nat} {W0 V V1 : World} {pre : List (Nat × Nat)} {x : Nat × Nat} (hW : w.heap.size + 4 ≤ W0.heap.size) (hb : b < w.heap.size) (h : ScI w l f b W0 pre V) (hB : Below V.heap.size V V1) (hn : openOk (pc l x) = none) :
    KeepsFrom W0.heap.size V (V1.setCell ⟨w.heap.size + 1, 0, none⟩ (.int .i64 ((x.1 : Int) + (x.2 : Int)))) ∧ Kq (w.heap.size + 3) (w.heap.size + 2) b V (V1.setCell ⟨w.heap.size + 1, 0, none⟩ (.int .i64 ((x.1 : Int) + (x.2 : Int)))) ∧ ScI w l f b W0 (pre ++ [x]) (V1.setCell ⟨w.heap.size + 1, 0, none⟩ (.int .i64 ((x.1 : Int) + (x.2 : Int)))) := by
  obtain ⟨⟨v, h1, h2⟩, h3, h4, h5, h6⟩ := h
  have far : ∀ k, k ≠ w.heap.size + 1 → (V1.setCell ⟨w.heap.size + 1, 0, none⟩ (.int .i64 ((x.1 : Int) + (x.2 : Int)))).heap[k]? = V1.heap[k]? := fun k hk => Below.heap_setCell _ ⟨w.heap.size + 1, 0, none⟩ _ k hk
  have same := same_of_below hB
  have q3 := cells_set (u := .int .i64 ((x.1 : Int) + (x.2 : Int))) (same _ _ _ _ h3)
  have hsz := set_size V1 ⟨w.heap.size + 1, 0, none⟩ (.int .i64 ((x.1 : Int) + (x.2 : Int)))
  have hs4 := hB.size
  have ef : frs l (pre ++ [x]) = frs l pre := by rw [frs_snoc, hn, List.append_nil]
  have hbl := Below.setCell (p := ⟨w.heap.size + 1, 0, none⟩) (h4.trans (hB.mono h4.size)) (show w.heap.size ≤ w.heap.size + 1 by omega) (.int .i64 ((x.1 : Int) + (x.2 : Int)))
  have hF1 := fr_step h2 same
  generalize V1.setCell ⟨w.heap.size + 1, 0, none⟩ (.int .i64 ((x.1 : Int) + (x.2 : Int))) = V3 at *
  have kq : Kq (w.heap.size + 3) (w.heap.size + 2) b V V3 := fun k hk => (far k (by rcases hk with rfl | rfl | rfl <;> omega)).trans (hB.block k (by rcases hk with rfl | rfl | rfl <;> omega))
  have hF3 : Fr W0.heap.size V3 v (frs l pre) := by
    obtain ⟨ys, hR, hp⟩ := hF1.ex
    refine ⟨ys, ?_, fun j y p hu hf => pay_step (hp j y p hu hf) (fun k cells fr hk hc => far k (by omega))⟩
    obtain ⟨a1, ⟨rfl, a2⟩ | ⟨g, cap, cur, rfl, a3, a4, a5⟩⟩ := hR
    · exact ⟨a1, .inl ⟨rfl, a2⟩⟩
    · exact ⟨a1, .inr ⟨g, cap, cur, rfl, a3, (far g (by omega)).trans a4, a5⟩⟩
  refine ⟨⟨by omega, fun k o hk ho hc => (far k (by omega)).trans ((hB.block k (Array.getElem?_eq_some_iff.1 ho).1).trans ho)⟩, kq, ⟨v, (far _ (by omega)).trans (same _ _ _ _ h1), by rw [ef]; exact hF3⟩, by rw [lst_snoc]; exact q3, hbl, h5.trans kq, by omega⟩
theorem sc_mid {w : World} {l : List Int} {f b : Nat} {W0 V V1 V2 : World} {pre : List (Nat × Nat)} {y v : Value} {ys : List Value} (hW : w.heap.size + 4 ≤ W0.heap.size) (h : ScI w l f b W0 pre V) (hB : Below V.heap.size V V1)
    (h1 : V.heap[w.heap.size]? = some (.cells #[v] 39 (0, 0))) (hR : V1.ownsRow W0.heap.size 24 1 v (frs l pre).length ys) (hg : (V1.alloc (.cells #[y] 24)).grownBy V2 v.ownBlock) :
    V2.heap[w.heap.size]? = some (.cells #[v] 39 (0, 0)) ∧ V2.heap[w.heap.size + 1]? = some (.cells #[.int .i64 (lst f pre)] 3 (0, 0)) := by
  obtain ⟨_, h3, h4, h5, h6⟩ := h
  have hs4 := hB.size
  have own := own_cells hR
  have old : ∀ k, k < W0.heap.size → V2.heap[k]? = V.heap[k]? := fun k hk => (hg.block k (by rw [World.size_alloc]; omega) (fun e => by have := (own k e.symm).1; omega)).trans ((Below.heap_alloc _ _ _ (by omega)).trans (hB.block k (by omega)))
  exact ⟨(old _ (by omega)).trans h1, (old _ (by omega)).trans h3⟩
theorem sc_end {w V : World} {v u : Value} {B D : Nat} {t2 : TypeId} (h1 : V.heap[B]? = some (.cells #[v] 39 (0, 0))) (h2 : V.heap[B + 1]? = some (.cells #[u] t2 (0, 0))) (hb : Below B w V) (hD : B + 2 ≤ D) (hK : V.heap[D]? = some (.deferred (some []))) :
    (((V.setCell ⟨B, 0, none⟩ v).setCell ⟨B + 1, 0, none⟩ u).drew).heap[D]? = some (.deferred (some [])) ∧ SameCells V ((((V.setCell ⟨B, 0, none⟩ v).setCell ⟨B + 1, 0, none⟩ u).drew).putObj D (.deferred none)) ∧ Below B w ((((V.setCell ⟨B, 0, none⟩ v).setCell ⟨B + 1, 0, none⟩ u).drew).putObj D (.deferred none)) := by
  have q1 : ((V.setCell ⟨B, 0, none⟩ v).setCell ⟨B + 1, 0, none⟩ u).heap[B]? = some (.cells #[v] 39 (0, 0)) := (Below.heap_setCell _ ⟨B + 1, 0, none⟩ _ _ (show B ≠ B + 1 by omega)).trans (cells_set h1)
  have q2 : ((V.setCell ⟨B, 0, none⟩ v).setCell ⟨B + 1, 0, none⟩ u).heap[B + 1]? = some (.cells #[u] t2 (0, 0)) := cells_set ((Below.heap_setCell _ ⟨B, 0, none⟩ _ _ (show B + 1 ≠ B by omega)).trans h2)
  have all : ∀ k, ((V.setCell ⟨B, 0, none⟩ v).setCell ⟨B + 1, 0, none⟩ u).heap[k]? = V.heap[k]? := fun k => by
    by_cases e1 : k = B
    · subst e1; exact q1.trans h1.symm
    · by_cases e2 : k = B + 1
      · subst e2; exact q2.trans h2.symm
      · exact (Below.heap_setCell _ ⟨B + 1, 0, none⟩ _ k e2).trans (Below.heap_setCell _ ⟨B, 0, none⟩ _ k e1)
  have hb2 := Below.setCell (p := ⟨B + 1, 0, none⟩) (Below.setCell (p := ⟨B, 0, none⟩) hb (Nat.le_refl _) v) (show B ≤ B + 1 by omega) u
  have hb3 := below_drew1 hb2
  have all3 : ∀ k, (((V.setCell ⟨B, 0, none⟩ v).setCell ⟨B + 1, 0, none⟩ u).drew).heap[k]? = V.heap[k]? := fun k => all k
  generalize ((V.setCell ⟨B, 0, none⟩ v).setCell ⟨B + 1, 0, none⟩ u).drew = V3 at *
  have hK3 := (all3 D).trans hK
  have hlt := (Array.getElem?_eq_some_iff.1 hK3).1
  refine ⟨hK3, fun k cells t fr h => ?_, hb3.grown (grownBy_putObj' V3 D _) (Nat.le_trans (by omega : B ≤ D) (Nat.le_of_lt hlt)) (fun j e => by cases e; omega)⟩
  have hne : k ≠ D := fun e => by
    subst e
    rw [h] at hK
    cases hK
  exact (World.putObj_heap_other hne).trans ((all3 k).trans h)
/-- A piece that is a frame. -/
theorem sc_ok {w : World} {l : List Int} {f b : Nat} {W0 V V1 V2 : World} {pre : List (Nat × Nat)} {x : Nat × Nat} {y v v2 : Value} {p : List Int} {ys : List Value} (hW : w.heap.size + 4 ≤ W0.heap.size) (hb : b < w.heap.size) (h : ScI w l f b W0 pre V) (hB : Below V.heap.size V V1) (hn : openOk (pc l x) = some p)
    (h1 : V.heap[w.heap.size]? = some (.cells #[v] 39 (0, 0))) (hy : Pay V.heap.size V1 y p) (hR : V1.ownsRow W0.heap.size 24 1 v (frs l pre).length ys) (hp : ∀ (j : Nat) y p, ys[j]? = some y → (frs l pre)[j]? = some p → Pay W0.heap.size V1 y p)
    (hR2 : V2.ownsRow W0.heap.size 24 1 v2 ((frs l pre).length + 1) (ys ++ [y])) (hg : (V1.alloc (.cells #[y] 24)).grownBy V2 v.ownBlock) :
    KeepsFrom W0.heap.size V ((V2.setCell ⟨w.heap.size, 0, none⟩ v2).setCell ⟨w.heap.size + 1, 0, none⟩ (.int .i64 ((x.1 : Int) + (x.2 : Int)))) ∧ Kq (w.heap.size + 3) (w.heap.size + 2) b V ((V2.setCell ⟨w.heap.size, 0, none⟩ v2).setCell ⟨w.heap.size + 1, 0, none⟩ (.int .i64 ((x.1 : Int) + (x.2 : Int)))) ∧ ScI w l f b W0 (pre ++ [x]) ((V2.setCell ⟨w.heap.size, 0, none⟩ v2).setCell ⟨w.heap.size + 1, 0, none⟩ (.int .i64 ((x.1 : Int) + (x.2 : Int)))) := by
  obtain ⟨_, h3, h4, h5, h6⟩ := h
  have hs4 := hB.size
  have own := own_cells hR
  have hg1 : V1.grownBy V2 v.ownBlock := ⟨hg.os, hg.tape, hg.output, Nat.le_trans (by rw [World.size_alloc]; omega) hg.size, fun k hk hne => (hg.block k (by rw [World.size_alloc]; omega) hne).trans (Below.heap_alloc _ _ _ hk)⟩
  have hF2 := fr_more hR hp (pay_mono hy h6) hR2 hg1
  have old : ∀ k, k < W0.heap.size → V2.heap[k]? = V.heap[k]? := fun k hk => (hg1.block k (by omega) (fun e => by have := (own k e.symm).1; omega)).trans (hB.block k (by omega))
  have far : ∀ k, k ≠ w.heap.size → k ≠ w.heap.size + 1 → ((V2.setCell ⟨w.heap.size, 0, none⟩ v2).setCell ⟨w.heap.size + 1, 0, none⟩ (.int .i64 ((x.1 : Int) + (x.2 : Int)))).heap[k]? = V2.heap[k]? := fun k hk hk2 => (Below.heap_setCell _ ⟨w.heap.size + 1, 0, none⟩ _ k hk2).trans (Below.heap_setCell _ ⟨w.heap.size, 0, none⟩ _ k hk)
  have q1 : ((V2.setCell ⟨w.heap.size, 0, none⟩ v2).setCell ⟨w.heap.size + 1, 0, none⟩ (.int .i64 ((x.1 : Int) + (x.2 : Int)))).heap[w.heap.size]? = some (.cells #[v2] 39 (0, 0)) := (Below.heap_setCell _ ⟨w.heap.size + 1, 0, none⟩ _ _ (show w.heap.size ≠ w.heap.size + 1 by omega)).trans (cells_set ((old _ (by omega)).trans h1))
  have q3 : ((V2.setCell ⟨w.heap.size, 0, none⟩ v2).setCell ⟨w.heap.size + 1, 0, none⟩ (.int .i64 ((x.1 : Int) + (x.2 : Int)))).heap[w.heap.size + 1]? = some (.cells #[.int .i64 ((x.1 : Int) + (x.2 : Int))] 3 (0, 0)) := cells_set ((Below.heap_setCell _ ⟨w.heap.size, 0, none⟩ _ _ (show w.heap.size + 1 ≠ w.heap.size by omega)).trans ((old _ (by omega)).trans h3))
  have hsz : ((V2.setCell ⟨w.heap.size, 0, none⟩ v2).setCell ⟨w.heap.size + 1, 0, none⟩ (.int .i64 ((x.1 : Int) + (x.2 : Int)))).heap.size = V2.heap.size := by rw [set_size, set_size]
  have ef : frs l (pre ++ [x]) = frs l pre ++ [p] := by rw [frs_snoc, hn]
  have hb2 : Below w.heap.size w V2 := ⟨hg1.os.trans (hB.os.trans h4.os), hg1.tape.trans (hB.tape.trans h4.tape), hg1.output.trans (hB.output.trans h4.output), by have := h4.size; have := hg1.size; omega, fun k hk => (old k (by omega)).trans (h4.block k hk)⟩
  have hbl := Below.setCell (p := ⟨w.heap.size + 1, 0, none⟩) (Below.setCell (p := ⟨w.heap.size, 0, none⟩) hb2 (Nat.le_refl _) v2) (show w.heap.size ≤ w.heap.size + 1 by omega) (.int .i64 ((x.1 : Int) + (x.2 : Int)))
  have hs5 := hg1.size
  generalize (V2.setCell ⟨w.heap.size, 0, none⟩ v2).setCell ⟨w.heap.size + 1, 0, none⟩ (.int .i64 ((x.1 : Int) + (x.2 : Int))) = V3 at *
  have kq : Kq (w.heap.size + 3) (w.heap.size + 2) b V V3 := fun k hk => (far k (by rcases hk with rfl | rfl | rfl <;> omega) (by rcases hk with rfl | rfl | rfl <;> omega)).trans (old k (by rcases hk with rfl | rfl | rfl <;> omega))
  have hF3 : Fr W0.heap.size V3 v2 (frs l pre ++ [p]) := by
    obtain ⟨zs, hR, hp⟩ := hF2.ex
    refine ⟨zs, ?_, fun j y p hu hf => pay_step (hp j y p hu hf) (fun k cells fr hk hc => far k (by omega) (by omega))⟩
    obtain ⟨a1, ⟨rfl, a2⟩ | ⟨g, cap, cur, rfl, a3, a4, a5⟩⟩ := hR
    · exact ⟨a1, .inl ⟨rfl, a2⟩⟩
    · exact ⟨a1, .inr ⟨g, cap, cur, rfl, a3, (far g (by omega) (by omega)).trans a4, a5⟩⟩
  refine ⟨⟨by omega, fun k o hk ho hc => ?_⟩, kq, ⟨v2, q1, by rw [ef]; exact hF3⟩, by rw [lst_snoc]; exact q3, hbl, h5.trans kq, by omega⟩
  have hlt := (Array.getElem?_eq_some_iff.1 ho).1
  have hv1 : V1.heap[k]? = some o := (hB.block k hlt).trans ho
  refine (far k (by omega) (by omega)).trans ((hg1.block k (by omega) (fun e => ?_)).trans hv1)
  obtain ⟨_, cells, hc'⟩ := own k e.symm
  rw [hv1] at hc'
  cases hc'
  cases hc

set_option maxRecDepth 100000 in
set_option maxHeartbeats 4000000 in
theorem Scan_some (b o c f : Nat) (l : List Int) (w : World) (hb8 : By8 l) (hl : l.length ≤ 4294967296) (hc : l.length ≤ c) (hC : Kd.C (Kd.int .u8) w (some ⟨b, o, none⟩) l.length l) (hf : ix l = (f : Int)) (hfl : f < l.length) :
    Calls Try.prog 16 #[.slice (some ⟨b, o, none⟩) l.length c] w fun e w' => ∃ v, e = .returned (.tuple #[v, .int .i64 (scanH l).2]) ∧ Kd.N (Kd.slice 5 (Kd.int .u8)) 24 w' w.heap.size (fun k => w.heap.size ≤ k) v (scanH l).1 ∧ Below w.heap.size w w' := by
  refine (callsIn_wide (n := 8)).1 ?_
  refine callsIn_of_wp_marks Try.func16 rfl trivial ?_ rfl
  simp only [Try.ntmps16, List.size_toArray, List.length_cons, List.length_nil, Nat.reduceAdd, Nat.reduceSub, Array.replicate_succ, Array.replicate_zero, List.push_toArray, List.append_toArray, List.nil_append, List.cons_append]
  have IB := Aside0.mk (fun W (h : Below w.heap.size w W) => by have := indexByte_calls b o c l W hb8 (Kd.C_below hC h); rwa [hf] at this)
  have d1 : decide ((f : Int) < 0) = false := decide_eq_false (by omega)
  have HC := Aside0.mk hC
  have HL := Aside0.mk (And.intro hl (And.intro hc hfl))
  clear hC hl hc hfl
  gi_wp2_with (first
    | (refine ⟨trivial, wide_depth, ?_⟩; gi_at_call 21; refine (callsIn_wide.2 (IB.out _ (below_alloc (below_alloc (Below.refl _ _) _) _))).mono ?_; rintro e w1 ⟨rfl, hw⟩; rw [hw]; clear hw; dsimp only)
    | (refine ⟨trivial, ?_⟩; gi_at_call 21; refine (callsIn_wide.2 (IB.out _ (below_alloc (below_alloc (Below.refl _ _) _) _))).mono ?_; rintro e w1 ⟨rfl, hw⟩; rw [hw]; clear hw; dsimp only)
    | (refine ⟨trivial, ?_⟩; gi_at_call 22; refine (callsIn_wide.2 (contents_calls _ _ _ _ _)).mono ?_; rintro e w1 ⟨rfl, hw⟩; rw [hw]; clear hw; dsimp only)
    | (refine ⟨trivial, wide_depth, ?_⟩; gi_at_call 22; refine (callsIn_wide.2 (contents_calls _ _ _ _ _)).mono ?_; rintro e w1 ⟨rfl, hw⟩; rw [hw]; clear hw; dsimp only))
  simp only [World.size_alloc]
  have hB0 : Below w.heap.size w ((((w.alloc (.cells #[.slice none 0 0] 39)).alloc (.cells #[.int .i64 (f : Int)] 3)).alloc (.cells #[.slice (some ⟨b, o, none⟩) l.length c] 24)).alloc (.cells #[.int .i64 (f : Int)] 3)) := below_alloc (below_alloc (below_alloc (below_alloc (Below.refl _ _) _) _) _) _
  obtain ⟨k1, k2, k3, k4, hz⟩ := four w (.cells #[.slice none 0 0] 39) (.cells #[.int .i64 (f : Int)] 3) (.cells #[.slice (some ⟨b, o, none⟩) l.length c] 24) (.cells #[.int .i64 (f : Int)] 3)
  generalize (((w.alloc (.cells #[.slice none 0 0] 39)).alloc (.cells #[.int .i64 (f : Int)] 3)).alloc (.cells #[.slice (some ⟨b, o, none⟩) l.length c] 24)).alloc (.cells #[.int .i64 (f : Int)] 3) = W0 at *
  have hz' : w.heap.size + 4 ≤ W0.heap.size := Nat.le_of_eq hz.symm
  have hbw : b < w.heap.size := by
    obtain ⟨ad, e, hx⟩ := Kd.at_int HC.out 0 (Int.le_refl _) (by have := HL.out; omega)
    cases e
    have := World.block_lt_of_cell? _ _ hx
    rwa [Addr.add_lit] at this
  have HC0 := Kd.C_below HC.out hB0
  have HI0 : ScI w l f b W0 [] W0 := ⟨⟨_, k1, fr_nil _ _⟩, k2, hB0, Kq.refl, Nat.le_refl _⟩
  have CS := cont_stops 7 (by decide) (w.heap.size + 3) (w.heap.size + 2) b o c f l (Nat.le_trans HL.out.1 (by decide)) HL.out.2.2 HL.out.2.1 hb8 W0 HC0 (cells_at k4).1 (cells_at k3).1
  have HKB : ∀ (W : World) (l_ : Nat) (o_ o' : Obj), W0.heap.size ≤ l_ → W.heap[l_]? = some o_ → o_.isCells = false → o_.isWalk = false → Kq (w.heap.size + 3) (w.heap.size + 2) b W (W.putObj l_ o') := fun W l_ o_ o' h1 h2 h3 h4 k hk => World.putObj_heap_other (by rcases hk with rfl | rfl | rfl <;> omega)
  have OWN := ScI.own (l := l) (f := f) (b := b) hz' hbw
  clear k1 k2 k3 k4 hz hB0
  refine wpIn_rangeFunc_ownH rfl (by decide) (gf := 41) (lb := #[.pointer (some ⟨w.heap.size + 3, 0, none⟩), .pointer (some ⟨w.heap.size + 2, 0, none⟩)]) rfl trivial (enters_of Try.func41 (by kernel_rfl) rfl)
    CS (fun h h' => h.trans h') HKB (Below.refl _ _) (fun _ => rfl) (ScI w l f b W0) (fun _ _ _ => False) OWN (fun _ s V V' row h _ _ => h) HI0
    (fun x a' _ => a' = { tmps := #[.slice (some ⟨b, o, none⟩) l.length c, undef, .pointer (some ⟨w.heap.size, 0, none⟩), .pointer (some ⟨w.heap.size + 1, 0, none⟩), .slice (some ⟨b, o + x.1, none⟩) (pc l x).length (c - x.1), .int .i64 ((x.1 : Int) + (x.2 : Int)), undef, undef, .slice (some ⟨b, o, none⟩) l.length c, .int .i64 (f : Int), .int .i64 (f : Int), .bool false, undef, undef, .slice (some ⟨b, o, none⟩) l.length c, .int .i64 (f : Int), .func (.func 41) #[] #[.pointer (some ⟨w.heap.size + 3, 0, none⟩), .pointer (some ⟨w.heap.size + 2, 0, none⟩)], .slice (some ⟨b, o + x.1, none⟩) (pc l x).length (c - x.1), .int .i64 ((x.1 : Int) + (x.2 : Int)), undef, undef, undef, undef, undef, undef, undef, undef, undef, undef, undef, undef, undef, undef], defers := [] })
    (fun x a' s V V' row h _ _ => h) ?assign ?body ?done ?stop
  case assign =>
    rintro l2 pre x V K hI hK
    unfold encP
    gi_wp2
    exact hK _ _ (KeepsFrom.refl _ _) Kq.refl hI rfl
  case body =>
    rintro l2 pre x a' V hl2 ⟨r, hr⟩ hI rfl hlt2
    have HIa := Aside0.mk hI
    obtain ⟨⟨v, h1, hF⟩, h3, h4, h5, h6⟩ := hI
    have OP := open_calls (some ⟨b, o + x.1, none⟩) (c - x.1) (pc l x) V (pc_C (C_blkstep HC0 (fun ad e => by cases e; exact h5 b (.inr (.inr rfl)))) x) (pc_le HL.out.2.1 x) (Nat.le_trans (pc_len' l x) (Nat.le_trans HL.out.1 (by decide)))
    have HLT := Aside0.mk (show (frs l pre).length ≤ 4294967296 from Nat.le_trans (frs_len l pre) (Nat.le_trans (Nat.le_of_lt hlt2) (Nat.le_trans (its_len _ _ _) (Nat.le_trans (by rw [List.length_drop]; omega) HL.out.1))))
    have HOK := Aside0.mk (show openOk (pc l x) = if (openH (pc l x)).2 = 0 then some (openH (pc l x)).1 else none from rfl)
    generalize (openH (pc l x)).2 = e2 at OP HOK
    generalize (openH (pc l x)).1 = p at OP HOK
    have H1 := Aside0.mk h1
    have H3 := Aside0.mk h3
    have HF := Aside0.mk hF
    have H6 := Aside0.mk h6
    clear h1 h3 hF h4 h5 h6 hlt2 hr CS HKB OWN HI0 HC0
    obtain ⟨i0, hi0, hzz⟩ := Option.map_eq_some_iff.1 info24
    simp only [Prod.mk.injEq] at hzz
    obtain ⟨hz0, hz1, hz2⟩ := hzz
    by_cases he : e2 = 0
    · have HN := Aside0.mk (show openOk (pc l x) = some p by rw [HOK.out, if_pos he])
      subst he
      gi_wp2_with (first
        | (refine ⟨trivial, ?_⟩; gi_at_call 23; refine (CallsIn.inRound l2 (callsIn_wide.2 OP)).mono ?_; rintro e v1 ⟨y, rfl, hy, hb⟩; have same := same_of_below hb; have HY := Aside0.mk hy; have HB := Aside0.mk hb; obtain ⟨ys, hR, hp⟩ := (fr_step HF.out same).ex; have HYS := Aside0.mk (And.intro hR hp); obtain ⟨Ay, cy, rfl, _⟩ := hy; obtain ⟨q1, f1⟩ := cells_at (same _ _ _ _ H1.out); obtain ⟨q3, f3⟩ := cells_at (same _ _ _ _ H3.out); have hsz : w.heap.size < v1.heap.size := (Array.getElem?_eq_some_iff.1 (same _ _ _ _ H1.out)).1; clear hb same hR hp; dsimp only)
        | (gi_at_builtin; refine wpListIn_append_own _ rfl _ _ 39 rfl W0.heap.size 24 i0 (.slice none 0 0) 1 24 Try.underlying39 hi0 hz0 hz1 hz2 rfl (by decide) v (frs l pre).length ys rfl (HYS.out.1.alloc _) ⟨v1.heap.size, 0, none⟩ 1 1 [.slice Ay p.length cy] rfl rfl (one_new _ _ _) (by simp [Value.oneCell']) ?b1 ?b2 ?b3 ?_; (case b1 => have := HLT.out; show (frs l pre).length + 1 ≤ 9223372036854775807; omega); (case b2 => have := HLT.out; omega); (case b3 => have := H6.out; have := HB.out.size; rw [World.size_alloc]; omega); intro v2 w2 hR2 hg2 _; have SC := Aside0.mk (sc_ok hz' hbw HIa.out HB.out HN.out H1.out HY.out HYS.out.1 HYS.out.2 hR2 hg2); obtain ⟨m1, m2⟩ := sc_mid hz' HIa.out HB.out H1.out HYS.out.1 hg2; obtain ⟨A2, c2, ev2⟩ := own_slice hR2; subst ev2; clear q1 f1 q3 f3; obtain ⟨q1, f1⟩ := cells_at m1; obtain ⟨q3, f3⟩ := cells_at m2; clear m1 m2 hR2 hg2; dsimp only))
      exact SC.out
    · have HN := Aside0.mk (show openOk (pc l x) = none by rw [HOK.out, if_neg he])
      have he' : (e2 == 0) = false := beq_eq_false_iff_ne.2 he
      clear he
      gi_wp2_with (first
        | (refine ⟨trivial, ?_⟩; gi_at_call 23; refine (CallsIn.inRound l2 (callsIn_wide.2 OP)).mono ?_; rintro e v1 ⟨y, rfl, hy, hb⟩; have same := same_of_below hb; have HY := Aside0.mk hy; have HB := Aside0.mk hb; obtain ⟨ys, hR, hp⟩ := (fr_step HF.out same).ex; have HYS := Aside0.mk (And.intro hR hp); obtain ⟨Ay, cy, rfl, _⟩ := hy; obtain ⟨q1, f1⟩ := cells_at (same _ _ _ _ H1.out); obtain ⟨q3, f3⟩ := cells_at (same _ _ _ _ H3.out); have hsz : w.heap.size < v1.heap.size := (Array.getElem?_eq_some_iff.1 (same _ _ _ _ H1.out)).1; clear hb same hR hp; dsimp only))
      exact sc_bad hz' hbw HIa.out HB.out HN.out
  case done =>
    rintro D xs V hD rfl hI hK
    have SE := scan_eq hf
    obtain ⟨⟨v, h1, hF⟩, h3, h4, h5, h6⟩ := hI
    obtain ⟨ys, hR, hp⟩ := hF.ex
    obtain ⟨Av, cv, ev⟩ := own_slice hR
    subst ev
    have HF := Aside0.mk hF
    have H1 := Aside0.mk h1
    have H3 := Aside0.mk h3
    have H4 := Aside0.mk h4
    have H6 := Aside0.mk h6
    have HSE := Aside0.mk SE
    have HD := Aside0.mk hD
    generalize its (f + 1) 0 (l.drop (f + 1)) = pre at *
    generalize lst f pre = u at *
    obtain ⟨q1, f1⟩ := cells_at h1
    obtain ⟨q3, f3⟩ := cells_at h3
    clear hF hR hp h1 h3 h4 h5 h6 SE CS HKB OWN HI0 HC0
    gi_wp2
    gi_region
    obtain ⟨rD, SM, BL⟩ := sc_end (u := .int .i64 u) H1.out H3.out H4.out (by have := HD.out; omega) hK
    clear q1 f1 q3 f3
    gi_wp2
    refine ⟨by simp, .inl ⟨_, _, rfl, run_takeDeferred rD, ?_⟩⟩
    have z1 := (cells_at (SM _ _ _ _ H1.out)).1
    have z3 := (cells_at (SM _ _ _ _ H3.out)).1
    have NN := Kd.N_mono (fr_N (fr_lower (fr_step HF.out SM) (Nat.le_trans (by omega : w.heap.size ≤ w.heap.size + 4) hz'))) (fun k hk => hk)
    have e1 : (scanH l).1 = frs l pre := by rw [HSE.out]
    have e2 : (scanH l).2 = u := by rw [HSE.out]
    rw [e1, e2]
    generalize World.putObj _ _ _ = V9 at *
    refine ⟨.tuple #[.slice Av (frs l pre).length cv, .int .i64 u], ?_, ⟨_, rfl, NN, BL⟩⟩
    simp [results, Try.results16, go_sem, z1, z3]
  case stop =>
    rintro D cd pre V hD hpre h
    exact h.elim

theorem run_ix0 (A : Option Addr) (c : Nat) (w : World) : (Extern.BytealgIndexByte.indexByte #[.slice A 0 c, .int .u8 126]).run Try.prog w = .ok (.int .i64 (-1)) w := by
  cases A with
  | none => exact Lib.run_indexByteNil (P := Try.prog) w 0 c 126
  | some ad =>
    have hs := Lib.run_indexByteNil (P := Try.prog) w 0 c 126
    exact hs
set_option maxRecDepth 100000 in
theorem indexByte_zero (A : Option Addr) (c : Nat) (w : World) :
    Calls Try.prog 21 #[.slice A 0 c, .int .u8 126] w fun e w' => e = .returned (.int .i64 (-1)) ∧ w' = w := by
  have hr := run_ix0 A c w
  go_enter Try.func21, Try.ntmps21
  go_wp2
  rw [run_callFunc_extern Try.func40 (by kernel_rfl) (by kernel_rfl) (by kernel_rfl) (e := Extern.BytealgIndexByte.indexByte) (by kernel_rfl), hr]
  simp only [Result.andThen]
  rw [Oper.upon_value]
  go_wp2
  go_ret
  exact ⟨rfl, rfl⟩
set_option maxRecDepth 100000 in
set_option maxHeartbeats 4000000 in
theorem Scan_none (A : Option Addr) (c : Nat) (l : List Int) (w : World) (hl : l.length ≤ 4294967296) (hx : ix l = -1)
    (IB0 : ∀ W, Below w.heap.size w W → Calls Try.prog 21 #[.slice A l.length c, .int .u8 126] W fun e w' => e = .returned (.int .i64 (-1)) ∧ w' = W) :
    Calls Try.prog 16 #[.slice A l.length c] w fun e w' => ∃ v, e = .returned (.tuple #[v, .int .i64 (scanH l).2]) ∧ Kd.N (Kd.slice 5 (Kd.int .u8)) 24 w' w.heap.size (fun k => w.heap.size ≤ k) v (scanH l).1 ∧ Below w.heap.size w w' := by
  refine (callsIn_wide (n := 8)).1 ?_
  refine callsIn_of_wp_marks Try.func16 rfl trivial ?_ rfl
  simp only [Try.ntmps16, List.size_toArray, List.length_cons, List.length_nil, Nat.reduceAdd, Nat.reduceSub, Array.replicate_succ, Array.replicate_zero, List.push_toArray, List.append_toArray, List.nil_append, List.cons_append]
  have IB := Aside0.mk IB0
  have e : scanH l = ([], (l.length : Int)) := by
    unfold scanH
    rw [aft_none l hx]
  rw [e]
  clear IB0 hx e hl
  gi_wp2_with (first
    | (refine ⟨trivial, wide_depth, ?_⟩; gi_at_call 21; refine (callsIn_wide.2 (IB.out _ (below_alloc (below_alloc (Below.refl _ _) _) _))).mono ?_; rintro e w1 ⟨rfl, hw⟩; rw [hw]; clear hw; dsimp only)
    | (refine ⟨trivial, ?_⟩; gi_at_call 21; refine (callsIn_wide.2 (IB.out _ (below_alloc (below_alloc (Below.refl _ _) _) _))).mono ?_; rintro e w1 ⟨rfl, hw⟩; rw [hw]; clear hw; dsimp only))
  have z1 : ((w.alloc (.cells #[.slice none 0 0] 39)).alloc (.cells #[.int .i64 (l.length : Int)] 3)).cell? ⟨w.heap.size, 0, none⟩ = some (.slice none 0 0) := by go_simp
  have z3 : ((w.alloc (.cells #[.slice none 0 0] 39)).alloc (.cells #[.int .i64 (l.length : Int)] 3)).cell? ⟨w.heap.size + 1, 0, none⟩ = some (.int .i64 (l.length : Int)) := by go_simp
  refine ⟨.tuple #[.slice none 0 0, .int .i64 (l.length : Int)], ?_, ⟨_, rfl, Kd.N_nil _ _ _ _ _, below_alloc (below_alloc (Below.refl _ _) _) _⟩⟩
  simp [results, Try.results16, go_sem, z1, z3]

theorem Scan_calls (P0 : Nat → Prop) (A : Option Addr) (c : Nat) (l : List Int) (w : World) (hs : Kd.V (Kd.int .u8) 5 w w.heap.size P0 (.slice A l.length c) l) (hb8 : By8 l) (hl : l.length ≤ 4294967296) :
    Calls Try.prog 16 #[.slice A l.length c] w fun e w' => ∃ v, e = .returned (.tuple #[v, .int .i64 (scanH l).2]) ∧ Kd.N (Kd.slice 5 (Kd.int .u8)) 24 w' w.heap.size (fun k => P0 k ∨ w.heap.size ≤ k) v (scanH l).1 ∧ Below w.heap.size w w' := by
  obtain ⟨_, hc, hC⟩ := Kd.V_reads' hs
  suffices H : Calls Try.prog 16 #[.slice A l.length c] w fun e w' => ∃ v, e = .returned (.tuple #[v, .int .i64 (scanH l).2]) ∧ Kd.N (Kd.slice 5 (Kd.int .u8)) 24 w' w.heap.size (fun k => w.heap.size ≤ k) v (scanH l).1 ∧ Below w.heap.size w w' from
    H.mono fun e w' ⟨v, h1, h2, h3⟩ => ⟨v, h1, Kd.N_mono h2 (fun k hk => .inr hk), h3⟩
  by_cases h0 : l.length = 0
  · have : l = [] := List.eq_nil_of_length_eq_zero h0
    subst this
    exact Scan_none A c [] w (by simp) rfl (fun W _ => indexByte_zero A c W)
  · obtain ⟨ad, e, _⟩ := Kd.at_int hC 0 (Int.le_refl _) (by omega)
    subst e
    obtain ⟨b, o, rfl⟩ := addr_plain hC (by omega)
    rcases ix_lt l with hx | ⟨f, hx, hf⟩
    · exact Scan_none _ c l w hl hx (fun W hW => by have := indexByte_calls b o c l W hb8 (Kd.C_below hC hW); rwa [hx] at this)
    · exact Scan_some b o c f l w hb8 hl hc hC hx hf
end Go.Proofs.Ytmpjcpkfnjnejaa.Hq
