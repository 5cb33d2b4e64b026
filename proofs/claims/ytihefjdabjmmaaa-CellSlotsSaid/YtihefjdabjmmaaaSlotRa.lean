/- What the document's answer of slot tells of parameters and slots, in plain lists. No condition. -/
import Derived.Test.YtihefjdabjmmaaaPDx3
import Derived.Test.YtihefjdabjmmaaaPDx2
import Derived.Laws.BitsAllLaws
import Derived.Test.YtihefjdabjmmaaaPDx7
import Derived.Lib.QuoteBits
import Derived.Lib.Bytes
import Derived.Test.YtihefjdabjmmaaaPDx13
import Derived.Test.YtihefjdabjmmaaaPDx10
namespace Go.Proofs.Ytihefjdabjmmaaa.Pure
open Go Go.RowKit Go.Proofs.Ytihefjdabjmmaaa Go.Proofs.Ytihefjdabjmmaaa.PD Go.Proofs.YtihefjdabjmmaaaW.PrintWords Go.Proofs.YtihefjdabjmmaaaW.PrintLast
/-- parameters that may be -/
def pOk (a b c d : Int) : Prop := 1 ≤ a ∧ a ≤ 12 ∧ 0 ≤ b ∧ b ≤ 4 ∧ 8 ≤ c ∧ c ≤ 64 ∧ 32 ≤ a * c ∧ 8 ≤ d ∧ d ≤ 256
instance (a b c d : Int) : Decidable (pOk a b c d) := by unfold pOk; infer_instance
theorem prod_le {a c : Int} (h1 : 1 ≤ a) (h2 : a ≤ 12) (h3 : 8 ≤ c) (h4 : c ≤ 64) : 0 ≤ a * c ∧ a * c ≤ 768 := by
  refine ⟨Int.mul_nonneg (by omega) (by omega), ?_⟩
  have := Int.mul_le_mul h2 h4 (by omega) (by omega)
  omega
theorem lcheck_f {k : Nat} (hk : 1 ≤ k) (a b c d : Int) : layout_Check.f k a b c d = some (if pOk a b c d then 0 else 2) := by
  obtain ⟨k, rfl⟩ : ∃ m, k = m + 1 := ⟨k - 1, by omega⟩
  unfold layout_Check.f
  simp only [layout_Check.j0, if_true]
  by_cases h1 : a < 1
  · rw [if_pos h1, if_neg (fun h => by unfold pOk at h; omega)]
  rw [if_neg h1]
  by_cases h2 : a > 12
  · rw [if_pos h2, if_neg (fun h => by unfold pOk at h; omega)]
  rw [if_neg h2]
  by_cases h3 : b < 0
  · rw [if_pos h3, if_neg (fun h => by unfold pOk at h; omega)]
  rw [if_neg h3]
  by_cases h4 : b > 4
  · rw [if_pos h4, if_neg (fun h => by unfold pOk at h; omega)]
  rw [if_neg h4]
  by_cases h5 : c < 8
  · rw [if_pos h5, if_neg (fun h => by unfold pOk at h; omega)]
  rw [if_neg h5]
  by_cases h6 : c > 64
  · rw [if_pos h6, if_neg (fun h => by unfold pOk at h; omega)]
  rw [if_neg h6]
  have hp := prod_le (a := a) (c := c) (by omega) (by omega) (by omega) (by omega)
  have hw : wrap64 (a * c) = a * c := by unfold wrap64; omega
  rw [hw]
  by_cases h7 : d < 8
  · rw [if_pos h7, if_neg (fun h => by unfold pOk at h; omega)]
  rw [if_neg h7]
  by_cases h8 : d > 256
  · rw [if_pos (by simpa using h8), if_neg (fun h => by unfold pOk at h; omega)]
  rw [if_neg (by simpa using h8)]
  by_cases h9 : a * c < 32
  · rw [if_pos h9, if_neg (fun h => by unfold pOk at h; omega)]
  · rw [if_neg h9, if_pos (by unfold pOk; omega)]
theorem drives_f {k : Nat} (hk : 1 ≤ k) (a b c d : Int) : layout_Drives.f k a b c d = some (if pOk a b c d then (a + b, 0) else (0, 2)) := by
  unfold layout_Drives.f
  rw [lcheck_f hk]
  by_cases h : pOk a b c d
  · simp only [if_pos h, Option.bind_some]
    have : wrap64 (a + b) = a + b := by have := h; unfold pOk at this; unfold wrap64; omega
    rw [if_pos trivial, this]
  · simp only [if_neg h, Option.bind_some]
    rw [if_neg (by decide)]
/-- what a vector is: 0, or the error -/
def chk (a b c d : Int) (l : List Int) : Int := if pOk a b c d then (if (l.length : Int) = a + b ∧ l.any hBad = false then 0 else 70) else 2
theorem chk_zero {a b c d : Int} {l : List Int} : chk a b c d l = 0 ↔ pOk a b c d ∧ (l.length : Int) = a + b ∧ l.any hBad = false := by
  unfold chk
  split
  · split <;> simp_all
  · simp_all
theorem check_f {k : Nat} (hk : 1 ≤ k) (a b c d : Int) (l : List Int) : vector_Check.f k a b c d l = some (chk a b c d l) := by
  unfold vector_Check.f chk
  rw [drives_f hk]
  simp only [Option.bind_some]
  by_cases h : pOk a b c d
  · simp only [if_pos h, if_true]
    by_cases h1 : (l.length : Int) = a + b
    · rw [if_pos h1]
      cases h2 : l.any hBad <;> simp [h1]
    · rw [if_neg h1, if_neg (by simp [h1])]
  · simp only [if_neg h]
    rw [if_neg (by decide)]
theorem hBad_iff (x : Int) : hBad x = false ↔ 1 ≤ x ∧ x ≤ 1073741824 := by unfold hBad; simp
theorem rd_at {l : List Int} {i : Nat} (h : i < l.length) : rd l (i : Int) = l[i] := by simp [rd, h]
theorem w64s {n : Nat} (h : n < 4611686018427387904) : wrap64 ((n : Int) + 1) = ((n + 1 : Nat) : Int) := by unfold wrap64; omega
/-! ### the greatest version -/
theorem last_l0 {l : List Int} (hb : l.length < 4611686018427387904) : ∀ (d k i : Nat) (x : Int), i + d = l.length → d < k → vector_Last.l0 k x l (l.length : Int) (i : Int) = some ((l.drop i).foldl mx x, 0)
  | 0, k, i, x, h, hk => by
    obtain ⟨k, rfl⟩ : ∃ m, k = m + 1 := ⟨k - 1, by omega⟩
    simp only [vector_Last.l0]
    rw [if_neg (by omega), List.drop_of_length_le (by omega)]
    simp
  | d + 1, k, i, x, h, hk => by
    obtain ⟨k, rfl⟩ : ∃ m, k = m + 1 := ⟨k - 1, by omega⟩
    simp only [vector_Last.l0]
    rw [if_pos (by omega), if_pos (by omega), if_pos (by omega), rd_at (by omega), w64s (by omega), last_l0 hb d k (i + 1) _ (by omega) (by omega), List.drop_eq_getElem_cons (show i < l.length by omega), List.foldl_cons]
/-- a vector has few cells -/
theorem short {a b c d : Int} {l : List Int} (h : chk a b c d l = 0) : l.length ≤ 16 := by
  have := chk_zero.1 h
  have h2 := this.1
  unfold pOk at h2
  omega
theorem last_f {k : Nat} (hk : 20 ≤ k) (a b c d : Int) (l : List Int) : vector_Last.f k a b c d l = some (if chk a b c d l = 0 then (l.foldl mx 0, 0) else (0, chk a b c d l)) := by
  unfold vector_Last.f
  rw [check_f (by omega)]
  simp only [Option.bind_some]
  by_cases h : chk a b c d l = 0
  · have hs := short h
    rw [if_pos h, if_pos h, show (0 : Int) = ((0 : Nat) : Int) from rfl]
    exact last_l0 (by omega) l.length k 0 _ (by omega) (by omega)
  · rw [if_neg h, if_neg h]
theorem mx_eq (a b : Int) : mx a b = if a < b then b else a := rfl
theorem bad_rd {l : List Int} : l.any hBad = false ↔ ∀ i, i < l.length → hBad (rd l (i : Nat)) = false := by
  rw [List.any_eq_false]
  constructor
  · intro h i hi
    rw [rd_at hi]
    simpa using h l[i] (List.getElem_mem hi)
  · intro h x hx
    obtain ⟨i, hi, rfl⟩ := List.getElem_of_mem hx
    have := h i hi
    rw [rd_at hi] at this
    simp [this]
end Go.Proofs.Ytihefjdabjmmaaa.Pure
namespace Go.Proofs.Ytihefjdabjmmaaa.Pure
open Go Go.RowKit Go.Proofs.Ytihefjdabjmmaaa Go.Proofs.Ytihefjdabjmmaaa.PD Go.Proofs.YtihefjdabjmmaaaW.PrintWords Go.Proofs.YtihefjdabjmmaaaW.PrintLast Go.Proofs.YtihefjdabjmmaaaW.PrintMore
theorem size_f {k : Nat} (hk : 1 ≤ k) (a b c d : Int) : slot_Size.f k a b c d = some (if pOk a b c d then (12 + 4 * (a + b) + c, 0) else (0, 2)) := by
  unfold slot_Size.f
  rw [drives_f hk]
  simp only [Option.bind_some]
  by_cases h : pOk a b c d
  · simp only [if_pos h, if_true]
    have h2 := h
    unfold pOk at h2
    have : wrap64 (wrap64 (12 + wrap64 (4 * (a + b))) + c) = 12 + 4 * (a + b) + c := by unfold wrap64; omega
    rw [this]
  · simp only [if_neg h]
    rw [if_neg (by decide)]
/-- a slot that may be -/
def sMay (a b c d kind index cell stripe : Int) (v data : List Int) : Prop :=
  chk a b c d v = 0 ∧ stripe = v.foldl mx 0 ∧ 0 ≤ index ∧ index < (v.length : Int) ∧ (kind = 1 ∨ kind = 2) ∧ cell = rd v index ∧ (data.length : Int) = c
instance (a b c d kind index cell stripe : Int) (v data : List Int) : Decidable (sMay a b c d kind index cell stripe v data) := by unfold sMay; infer_instance
theorem may_f {k : Nat} (hk : 20 ≤ k) (a b c d kind index cell stripe : Int) (v data : List Int) : slot_may.f k a b c d kind index cell stripe v data = some (decide (sMay a b c d kind index cell stripe v data)) := by
  unfold slot_may.f
  rw [last_f hk]
  simp only [Option.bind_some]
  by_cases h : chk a b c d v = 0
  case neg => rw [if_neg h]; simp only []; rw [if_neg h, decide_eq_false (fun z => h z.1)]
  rw [if_pos h]
  simp only [if_true]
  by_cases h1 : stripe = v.foldl mx 0
  case neg => rw [if_neg h1, decide_eq_false (fun z => h1 z.2.1)]
  rw [if_pos h1]
  by_cases h2 : index < 0
  · rw [if_pos h2, decide_eq_false (fun z => by have := z.2.2.1; omega)]
  rw [if_neg h2]
  by_cases h3 : index ≥ (v.length : Int)
  · rw [if_pos h3, decide_eq_false (fun z => by have := z.2.2.2.1; omega)]
  rw [if_neg h3, if_pos (show (0 : Int) ≤ index by omega), if_pos (show index < (v.length : Int) by omega)]
  have h6 : (if cell = rd v index then some ((data.length : Int) == c) else some false) = some (decide (cell = rd v index ∧ (data.length : Int) = c)) := by
    by_cases e : cell = rd v index
    · rw [if_pos e]; simp only [e, true_and]; rfl
    · rw [if_neg e]; simp only [e, false_and, decide_false]
  rw [h6]
  have h7 : sMay a b c d kind index cell stripe v data ↔ (kind = 1 ∨ kind = 2) ∧ (cell = rd v index ∧ (data.length : Int) = c) :=
    ⟨fun z => z.2.2.2.2, fun z => ⟨h, h1, by omega, by omega, z⟩⟩
  have h8 : decide (sMay a b c d kind index cell stripe v data) = decide ((kind = 1 ∨ kind = 2) ∧ (cell = rd v index ∧ (data.length : Int) = c)) := decide_eq_decide.2 h7
  rw [h8]
  by_cases h4 : kind = 1
  · rw [if_pos h4]; simp only [h4, true_or, true_and]
  by_cases h5 : kind = 2
  · rw [if_neg h4, if_pos h5]; simp only [h5, or_true, true_and]
  · rw [if_neg h4, if_neg h5]; simp only [h4, h5, or_self, false_and, decide_false]
end Go.Proofs.Ytihefjdabjmmaaa.Pure
namespace Go.Proofs.Ytihefjdabjmmaaa.Pure
open Go Go.RowKit Go.Proofs.Ytihefjdabjmmaaa Go.Proofs.Ytihefjdabjmmaaa.PD Go.Proofs.YtihefjdabjmmaaaW.PrintWords Go.Proofs.YtihefjdabjmmaaaW.PrintLast Go.Proofs.YtihefjdabjmmaaaW.PrintMore
def isB (l : List Int) : Prop := ∀ x ∈ l, 0 ≤ x ∧ x < 256
theorem isB_drop {l : List Int} (h : isB l) (n : Nat) : isB (l.drop n) := fun x hx => h x (List.mem_of_mem_drop hx)
theorem isB_wf {l : List Int} (h : ∀ x ∈ l, (Lit.int .u8 x).wf = true) : isB l := fun x hx => by
  have h2 : IntKind.u8.min ≤ x ∧ x ≤ IntKind.u8.max := by simpa [Lit.wf] using h x hx
  have e1 : IntKind.u8.min = 0 := by decide
  have e2 : IntKind.u8.max = 255 := by decide
  omega
theorem or256 (n x : Nat) (hn : n < 1099511627776) (hx : x < 256) : Go.bits .or .i64 ((n * 256 : Nat) : Int) (x : Int) = ((n * 256 + x : Nat) : Int) := by
  show IntKind.i64.wrap ((BitVec.ofInt 64 ((n * 256 : Nat) : Int) ||| BitVec.ofInt 64 (x : Int)).toNat : Int) = _
  have e : n * 256 + x = (n * 256) ||| x := by
    have := Nat.shiftLeft_add_eq_or_of_lt (show x < 2 ^ 8 by omega) n
    rw [Nat.shiftLeft_eq] at this
    exact this
  rw [BitVec.toNat_or, ofInt_u64 _ (by omega), ofInt_u64 _ (by omega), ← e]
  exact Lib.wrap_i64_small _ (by omega)
theorem or_step {n x : Int} (h0 : 0 ≤ n) (h1 : n < 1099511627776) (h2 : 0 ≤ x) (h3 : x < 256) : Go.bits .or .i64 (wrap64 (n * 256)) (wrap64 x) = n * 256 + x := by
  obtain ⟨n, rfl⟩ := Int.eq_ofNat_of_zero_le h0
  obtain ⟨x, rfl⟩ := Int.eq_ofNat_of_zero_le h2
  have e1 : wrap64 ((n : Int) * 256) = ((n * 256 : Nat) : Int) := by unfold wrap64; omega
  have e2 : wrap64 (x : Int) = (x : Int) := by unfold wrap64; omega
  rw [e1, e2, or256 n x (by omega) (by omega)]
  omega
def num4 (a b c d : Int) : Int := ((a * 256 + b) * 256 + c) * 256 + d
def num (l : List Int) : Int := num4 (rd l 0) (rd l 1) (rd l 2) (rd l 3)
theorem take_cons {k : Nat} (hk : 6 ≤ k) {a b c d : Int} {t : List Int} (ha : 0 ≤ a ∧ a < 256) (hb : 0 ≤ b ∧ b < 256) (hc : 0 ≤ c ∧ c < 256) (hd : 0 ≤ d ∧ d < 256) : slot_take.f k (a :: b :: c :: d :: t) = some (num4 a b c d, t) := by
  obtain ⟨k, rfl⟩ : ∃ m, k = m + 1 + 1 + 1 + 1 + 1 := ⟨k - 5, by omega⟩
  unfold slot_take.f
  rw [if_pos (by simp only [List.length_cons]; omega)]
  simp only [Option.bind_some]
  show slot_take.l0 (k + 1 + 1 + 1 + 1 + 1) (a :: b :: c :: d :: t) 0 [a, b, c, d] 4 0 = _
  have w1 : wrap64 (0 + 1) = 1 := by unfold wrap64; omega
  have w2 : wrap64 (1 + 1) = 2 := by unfold wrap64; omega
  have w3 : wrap64 (2 + 1) = 3 := by unfold wrap64; omega
  have w4 : wrap64 (3 + 1) = 4 := by unfold wrap64; omega
  have r0 : rd [a, b, c, d] 0 = a := rfl
  have r1 : rd [a, b, c, d] 1 = b := rfl
  have r2 : rd [a, b, c, d] 2 = c := rfl
  have r3 : rd [a, b, c, d] 3 = d := rfl
  simp only [slot_take.l0]
  rw [if_pos (by decide), if_pos (by decide), if_pos (by simp), w1, r0, or_step (by omega) (by omega) ha.1 ha.2]
  rw [if_pos (by decide), if_pos (by decide), if_pos (by simp), w2, r1, or_step (by omega) (by omega) hb.1 hb.2]
  rw [if_pos (by decide), if_pos (by decide), if_pos (by simp), w3, r2, or_step (by omega) (by omega) hc.1 hc.2]
  rw [if_pos (by decide), if_pos (by decide), if_pos (by simp), w4, r3, or_step (by omega) (by omega) hd.1 hd.2]
  rw [if_neg (by decide), if_pos (by simp only [List.length_cons]; omega)]
  unfold num4
  simp only [Int.zero_mul, Int.zero_add]
  rfl
theorem four_of {l : List Int} (h : 4 ≤ l.length) : ∃ a b c d t, l = a :: b :: c :: d :: t := by
  match l, h with
  | a :: b :: c :: d :: t, _ => exact ⟨a, b, c, d, t, rfl⟩
theorem take_f {k : Nat} (hk : 6 ≤ k) {l : List Int} (hl : 4 ≤ l.length) (hB : isB l) : slot_take.f k l = some (num l, l.drop 4) := by
  obtain ⟨a, b, c, d, t, rfl⟩ := four_of hl
  rw [take_cons hk (hB a (by simp)) (hB b (by simp)) (hB c (by simp)) (hB d (by simp))]
  rfl
/-- as many numbers off the front -/
def nums : Nat → List Int → List Int
  | 0, _ => []
  | m + 1, l => num l :: nums m (l.drop 4)
/-- what a slot is read as -/
def psd (a b c d kind index cell stripe : Int) (v data : List Int) : Int × Int × Int × Int × List Int × List Int × Bool × Int :=
  if sMay a b c d kind index cell stripe v data then (kind, index, cell, stripe, v, data, true, 0) else (0, 0, 0, 0, [], [], false, 0)
theorem parse_l0 {a b c d kind index cell stripe : Int} (hc : 0 ≤ c) (hc2 : c ≤ 64) : ∀ (m k : Nat) (l v : List Int), l.length = 4 * m + c.toNat → m ≤ 1000 → m + 40 ≤ k → isB l → v.length + m ≤ 2000 →
    slot_Parse.l0 k l a b c d kind index cell stripe v = some (psd a b c d kind index cell stripe (v ++ nums m l) (l.drop (4 * m)))
  | 0, k, l, v, hl, hm, hk, hB, hv => by
    obtain ⟨k, rfl⟩ : ∃ q, k = q + 1 := ⟨k - 1, by omega⟩
    simp only [slot_Parse.l0]
    rw [if_neg (by omega)]
    simp only [Option.bind_some, List.nil_append, List.length_nil]
    rw [if_pos (by omega), may_f (by omega)]
    simp only [Option.bind_some, nums, List.append_nil, Nat.mul_zero, List.drop_zero]
    unfold psd
    by_cases h : sMay a b c d kind index cell stripe v l
    · rw [decide_eq_true h, if_pos rfl, if_pos h]
    · rw [decide_eq_false h, if_neg (by decide), if_neg h]
  | m + 1, k, l, v, hl, hm, hk, hB, hv => by
    obtain ⟨k, rfl⟩ : ∃ q, k = q + 1 := ⟨k - 1, by omega⟩
    simp only [slot_Parse.l0]
    rw [if_pos (by omega), take_f (by omega) (by omega) hB]
    simp only [Option.bind_some]
    rw [if_pos (by omega), parse_l0 hc hc2 m k (l.drop 4) _ (by rw [List.length_drop]; omega) (by omega) (by omega) (isB_drop hB 4) (by simp; omega)]
    rw [nums, List.append_assoc, List.drop_drop, show 4 + 4 * m = 4 * (m + 1) by omega]
    rfl
/-- what bytes are read as -/
def prs (a b c d : Int) (l : List Int) : Int × Int × Int × Int × List Int × List Int × Bool × Int :=
  if pOk a b c d then
    if l.length = 0 then (0, 0, 0, 0, [], [], false, 0)
    else if (l.length : Int) = 12 + 4 * (a + b) + c then
      if rd l 0 = 84 ∧ rd l 1 = 50 then psd a b c d (rd l 2) (rd l 3) (num (l.drop 4)) (num (l.drop 8)) (nums (a + b).toNat (l.drop 12)) (l.drop (12 + 4 * (a + b).toNat)) else (0, 0, 0, 0, [], [], false, 0)
    else (0, 0, 0, 0, [], [], false, 100)
  else (0, 0, 0, 0, [], [], false, 2)
theorem parse_f {k : Nat} (hk : 100 ≤ k) (a b c d : Int) {l : List Int} (hB : isB l) : slot_Parse.f k a b c d l = some (prs a b c d l) := by
  obtain ⟨k, rfl⟩ : ∃ q, k = q + 1 := ⟨k - 1, by omega⟩
  unfold slot_Parse.f prs
  rw [size_f (by omega)]
  simp only [Option.bind_some]
  by_cases h : pOk a b c d
  case neg => rw [if_neg h, if_neg h]; simp only []; rw [if_neg (by decide)]
  rw [if_pos h, if_pos h]
  simp only [if_true]
  have hp := h
  unfold pOk at hp
  by_cases h0 : l.length = 0
  · rw [if_pos (by omega), if_pos h0]
  rw [if_neg (by omega), if_neg h0]
  by_cases h1 : (l.length : Int) = 12 + 4 * (a + b) + c
  case neg => rw [if_neg h1, if_neg h1]
  rw [if_pos h1, if_pos h1, if_pos (by omega)]
  have j0 : slot_Parse.j0 (k + 1) l true a b c d = some (0, 0, 0, 0, [], [], false, 0) := by simp only [slot_Parse.j0, if_true]
  by_cases h2 : rd l 0 = 84
  case neg => rw [if_neg h2, j0, if_neg (fun z => h2 z.1)]
  rw [if_pos h2, if_pos (by omega)]
  by_cases h3 : rd l 1 = 50
  case neg => rw [bne_iff_ne.2 h3, j0, if_neg (fun z => h3 z.2)]
  rw [h3, bne_self_eq_false, if_pos ⟨h2, rfl⟩]
  simp only [slot_Parse.j0, Bool.false_eq_true, if_false]
  rw [if_pos (by omega), if_pos (by omega), if_pos (by omega), take_f (by omega) (by rw [List.length_drop]; omega) (isB_drop hB 4)]
  simp only [Option.bind_some]
  rw [take_f (by omega) (by rw [List.length_drop, List.length_drop]; omega) (isB_drop (isB_drop hB 4) 4)]
  simp only [Option.bind_some]
  have h4 : wrap64 (rd l 3) = rd l 3 := by
    have := rd_at (l := l) (i := 3) (by omega)
    have h5 := hB l[3] (List.getElem_mem (by omega))
    have h6 : rd l 3 = l[3] := this
    rw [h6]; unfold wrap64; omega
  rw [h4, parse_l0 (by omega) (by omega) (a + b).toNat k _ [] (by rw [List.length_drop, List.length_drop, List.length_drop]; omega) (by omega) (by omega) (isB_drop (isB_drop (isB_drop hB 4) 4) 4) (by simp; omega)]
  rw [List.drop_drop, List.drop_drop, List.drop_drop, List.nil_append]
end Go.Proofs.Ytihefjdabjmmaaa.Pure
namespace Go.Proofs.Ytihefjdabjmmaaa.Pure
open Go Go.RowKit Go.Proofs.Ytihefjdabjmmaaa Go.Proofs.Ytihefjdabjmmaaa.PD Go.Proofs.YtihefjdabjmmaaaW.PrintWords Go.Proofs.YtihefjdabjmmaaaW.PrintLast Go.Proofs.YtihefjdabjmmaaaW.PrintMore
theorem rmay06_f (a b c d : Int) : twoslotref06_May.f a b c d = some (decide (pOk a b c d)) := by
  unfold twoslotref06_May.f
  by_cases h1 : a ≥ 1
  case neg => rw [if_neg h1, decide_eq_false (fun z => by unfold pOk at z; omega)]
  rw [if_pos h1]
  by_cases h2 : a ≤ 12
  case neg => rw [if_neg h2, decide_eq_false (fun z => by unfold pOk at z; omega)]
  rw [if_pos h2]
  by_cases h3 : b ≥ 0
  case neg => rw [if_neg h3, decide_eq_false (fun z => by unfold pOk at z; omega)]
  rw [if_pos h3]
  by_cases h4 : b ≤ 4
  case neg => rw [if_neg h4, decide_eq_false (fun z => by unfold pOk at z; omega)]
  rw [if_pos h4]
  by_cases h5 : c ≥ 8
  case neg => rw [if_neg h5, decide_eq_false (fun z => by unfold pOk at z; omega)]
  rw [if_pos h5]
  by_cases h6 : c ≤ 64
  case neg => rw [if_neg h6, decide_eq_false (fun z => by unfold pOk at z; omega)]
  rw [if_pos h6]
  have hp := prod_le (a := a) (c := c) (by omega) (by omega) (by omega) (by omega)
  have hw : wrap64 (a * c) = a * c := by unfold wrap64; omega
  rw [hw]
  by_cases h7 : a * c ≥ 32
  case neg => rw [if_neg h7, decide_eq_false (fun z => by unfold pOk at z; omega)]
  rw [if_pos h7]
  by_cases h8 : d ≥ 8
  case neg => rw [if_neg h8, decide_eq_false (fun z => by unfold pOk at z; omega)]
  rw [if_pos h8]
  have h9 : d ≤ 256 ↔ pOk a b c d := by unfold pOk; omega
  have h10 : decide (d ≤ 256) = decide (pOk a b c d) := decide_eq_decide.2 h9
  rw [h10]
theorem rn_f {a b c d : Int} (h : pOk a b c d) : twoslotref06_N.f a b c d = some (a + b) := by
  unfold twoslotref06_N.f
  have : wrap64 (a + b) = a + b := by unfold pOk at h; unfold wrap64; omega
  rw [this]
theorem rsize06_f {a b c d : Int} (h : pOk a b c d) : twoslotref06_Size.f a b c d = some (12 + 4 * (a + b) + c) := by
  unfold twoslotref06_Size.f
  rw [rn_f h]
  simp only [Option.bind_some]
  unfold pOk at h
  have : wrap64 (wrap64 (12 + wrap64 (4 * (a + b))) + c) = 12 + 4 * (a + b) + c := by unfold wrap64; omega
  rw [this]
theorem rversion_f (x : Int) : twoslotref10_Version.f x = some (!hBad x) := by
  unfold twoslotref10_Version.f hBad
  by_cases h : x ≥ 1
  · rw [if_pos h]; simp [show (1 : Int) ≤ x from h]
  · rw [if_neg h]; simp [show ¬ (1 : Int) ≤ x from h]
theorem rlast_l0 {l : List Int} (hb : l.length < 4611686018427387904) : ∀ (e k i : Nat) (x : Int), i + e = l.length → e < k → twoslotref10_Last.l0 k l x (i : Int) = some (if (l.drop i).any hBad then 0 else (l.drop i).foldl mx x)
  | 0, k, i, x, h, hk => by
    obtain ⟨k, rfl⟩ : ∃ m, k = m + 1 := ⟨k - 1, by omega⟩
    simp only [twoslotref10_Last.l0]
    rw [if_neg (by omega), List.drop_of_length_le (by omega)]
    simp
  | e + 1, k, i, x, h, hk => by
    obtain ⟨k, rfl⟩ : ∃ m, k = m + 1 := ⟨k - 1, by omega⟩
    simp only [twoslotref10_Last.l0]
    rw [if_pos (by omega), if_pos (by omega), rd_at (by omega), rversion_f]
    simp only [Option.bind_some]
    rw [List.drop_eq_getElem_cons (show i < l.length by omega), List.any_cons]
    cases hx : hBad l[i] with
    | true => simp
    | false =>
      simp only [Bool.not_false, if_true, Bool.false_or]
      rw [w64s (by omega), rlast_l0 hb e k (i + 1) _ (by omega) (by omega), List.foldl_cons]
theorem rlast_f {k : Nat} (hk : 20 ≤ k) {a b c d : Int} (h : pOk a b c d) (v : List Int) : twoslotref10_Last.f k a b c d v = some (if chk a b c d v = 0 then v.foldl mx 0 else 0) := by
  unfold twoslotref10_Last.f
  rw [rn_f h]
  simp only [Option.bind_some]
  have hp := h
  unfold pOk at hp
  by_cases hl : (v.length : Int) = a + b
  · have h0 : twoslotref10_Last.l0 k v 0 0 = _ := rlast_l0 (l := v) (by omega) v.length k 0 0 (by omega) (by omega)
    rw [if_pos hl, h0, List.drop_zero]
    by_cases hg : v.any hBad = true
    · rw [if_pos hg, if_neg (fun z => by have := (chk_zero.1 z).2.2; simp_all)]
    · rw [if_neg hg, if_pos (chk_zero.2 ⟨h, hl, by simpa using hg⟩)]
  · rw [if_neg hl, if_neg (fun z => hl (chk_zero.1 z).2.1)]
theorem last_pos {a b c d : Int} {v : List Int} (h : chk a b c d v = 0) : 0 < v.foldl mx 0 ∧ v.foldl mx 0 ≤ 1073741824 := by
  obtain ⟨h1, h2, h3⟩ := chk_zero.1 h
  have hb := bad_rd.1 h3
  have key : ∀ (l : List Int) (x : Int), (∀ y ∈ l, 1 ≤ y ∧ y ≤ 1073741824) → 0 ≤ x → x ≤ 1073741824 → (0 < x ∨ l ≠ []) → 0 < l.foldl mx x ∧ l.foldl mx x ≤ 1073741824 := by
    intro l
    induction l with
    | nil => intro x _ h0 h1 h2; simpa using ⟨by rcases h2 with h2 | h2 <;> simp_all, h1⟩
    | cons y l ih =>
      intro x hl h0 h1 _
      have hy := hl y (by simp)
      rw [List.foldl_cons]
      exact ih (mx x y) (fun z hz => hl z (by simp [hz])) (by rw [mx_eq]; split <;> omega) (by rw [mx_eq]; split <;> omega) (.inl (by rw [mx_eq]; split <;> omega))
  refine key v 0 (fun y hy => ?_) (by omega) (by omega) (.inr (fun e => ?_))
  · have := List.any_eq_false.1 h3 y hy
    rw [Bool.not_eq_true, hBad_iff] at this
    exact this
  · unfold pOk at h1; rw [e] at h2; simp at h2; omega
theorem rmay_f {k : Nat} (hk : 30 ≤ k) {a b c d : Int} (h : pOk a b c d) (kind index cell stripe : Int) (v data : List Int) : twoslotref10_May.f k a b c d kind index cell stripe v data = some (decide (sMay a b c d kind index cell stripe v data)) := by
  obtain ⟨k, rfl⟩ : ∃ m, k = m + 1 := ⟨k - 1, by omega⟩
  have h0 : twoslotref10_May.j0 (k + 1) true a b c d kind index cell stripe v data = some false := by simp only [twoslotref10_May.j0, if_true]
  have h1 : (kind = 1 ∨ kind = 2) → 0 ≤ index → index < a + b → twoslotref10_May.j0 (k + 1) ((data.length : Int) != c) a b c d kind index cell stripe v data = some (decide (sMay a b c d kind index cell stripe v data)) := by
    intro hk1 hi1 hi2
    by_cases hd : (data.length : Int) = c
    case neg => rw [bne_iff_ne.2 hd, h0, decide_eq_false (fun z => hd z.2.2.2.2.2.2)]
    rw [hd, bne_self_eq_false]
    simp only [twoslotref10_May.j0, Bool.false_eq_true, if_false]
    rw [rlast_f (by omega) h]
    simp only [Option.bind_some]
    by_cases hc : chk a b c d v = 0
    case neg => rw [if_neg hc, if_neg (by decide), decide_eq_false (fun z => hc z.1)]
    have hp := last_pos hc
    have hl := (chk_zero.1 hc).2.1
    rw [if_pos hc, if_pos hp.1]
    by_cases hs : stripe = v.foldl mx 0
    case neg => rw [if_neg hs, decide_eq_false (fun z => hs z.2.1)]
    rw [if_pos hs, if_pos hi1, if_pos (by omega)]
    have h7 : sMay a b c d kind index cell stripe v data ↔ cell = rd v index := ⟨fun z => z.2.2.2.2.2.1, fun z => ⟨hc, hs, hi1, by omega, hk1, z, hd⟩⟩
    have h8 : decide (sMay a b c d kind index cell stripe v data) = decide (cell = rd v index) := decide_eq_decide.2 h7
    rw [h8]; rfl
  have h2 : (kind = 1 ∨ kind = 2) → (if index < 0 then (twoslotref10_May.j0 (k + 1) true a b c d kind index cell stripe v data) else ((twoslotref06_N.f a b c d).bind fun t => (if index ≥ t then (twoslotref10_May.j0 (k + 1) true a b c d kind index cell stripe v data) else (twoslotref10_May.j0 (k + 1) ((data.length : Int) != c) a b c d kind index cell stripe v data)))) = some (decide (sMay a b c d kind index cell stripe v data)) := by
    intro hk1
    by_cases hi : index < 0
    · rw [if_pos hi, h0, decide_eq_false (fun z => by have := z.2.2.1; omega)]
    rw [if_neg hi, rn_f h]
    simp only [Option.bind_some]
    by_cases hi2 : index ≥ a + b
    · rw [if_pos hi2, h0, decide_eq_false (fun z => by have := z.2.2.2.1; have := (chk_zero.1 z.1).2.1; omega)]
    rw [if_neg hi2]
    exact h1 hk1 (by omega) (by omega)
  unfold twoslotref10_May.f
  by_cases k1 : kind = 1
  · rw [if_pos k1]; exact h2 (.inl k1)
  by_cases k2 : kind = 2
  · rw [if_neg k1, if_pos k2]; exact h2 (.inr k2)
  · rw [if_neg k1, if_neg k2, h0, decide_eq_false (fun z => by have := z.2.2.2.2.1; omega)]
theorem same_l0 {v data w data' : List Int} {kind index cell stripe kind' index' cell' stripe' : Int} (hv : v = w) (hb : v.length < 4611686018427387904) : ∀ (e k i : Nat), i + e = v.length → e < k →
    twoslotref10_Same.l0 k (i : Int) kind index cell stripe v data kind' index' cell' stripe' w data' = some true
  | 0, k, i, h, hk => by
    obtain ⟨k, rfl⟩ : ∃ m, k = m + 1 := ⟨k - 1, by omega⟩
    simp only [twoslotref10_Same.l0]
    rw [if_neg (by omega)]
  | e + 1, k, i, h, hk => by
    obtain ⟨k, rfl⟩ : ∃ m, k = m + 1 := ⟨k - 1, by omega⟩
    simp only [twoslotref10_Same.l0]
    subst hv
    rw [if_pos (by omega), if_pos (by omega), if_pos (by omega), if_pos rfl, w64s (by omega)]
    exact same_l0 rfl hb e k (i + 1) (by omega) (by omega)
theorem same_refl {k : Nat} {v data : List Int} (hk : v.length + 2 ≤ k) (hb : v.length < 4611686018427387904) (kind index cell stripe : Int) : twoslotref10_Same.f k kind index cell stripe v data kind index cell stripe v data = some true := by
  obtain ⟨k, rfl⟩ : ∃ m, k = m + 1 := ⟨k - 1, by omega⟩
  unfold twoslotref10_Same.f
  rw [if_pos rfl, if_pos rfl, if_pos rfl, if_pos rfl, if_pos rfl, bne_self_eq_false]
  simp only [twoslotref10_Same.j0, Bool.false_eq_true, if_false]
  exact same_l0 rfl hb v.length k 0 (by omega) (by omega)
end Go.Proofs.Ytihefjdabjmmaaa.Pure
