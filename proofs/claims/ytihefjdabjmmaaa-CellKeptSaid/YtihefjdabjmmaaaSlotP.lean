/- Reading a slot, in plain lists. No condition. -/
import Derived.Test.YtihefjdabjmmaaaPDx7
import Derived.Test.YtihefjdabjmmaaaPDx6
import Derived.Test.YtihefjdabjmmaaaSlotA
import Derived.Lib.QuoteBits
import Derived.Lib.Bytes
namespace Go.Proofs.Ytihefjdabjmmaaa.Pure
open Go Go.RowKit Go.Proofs.Ytihefjdabjmmaaa Go.Proofs.Ytihefjdabjmmaaa.PD Go.Proofs.YtihefjdabjmmaaaW.PrintWords Go.Proofs.YtihefjdabjmmaaaW.PrintLast Go.Proofs.YtihefjdabjmmaaaW.PrintMore
def isB (l : List Int) : Prop := ∀ x ∈ l, 0 ≤ x ∧ x < 256
theorem isB_drop {l : List Int} (h : isB l) (n : Nat) : isB (l.drop n) := fun x hx => h x (List.mem_of_mem_drop hx)
theorem isB_wf {l : List Int} (h : ∀ x ∈ l, (Lit.int .u8 x).wf = true) : isB l := fun x hx => by
  have h2 : IntKind.u8.min ≤ x ∧ x ≤ IntKind.u8.max := by simpa [Lit.wf] using h x hx
  have e1 : IntKind.u8.min = 0 := by decide
  have e2 : IntKind.u8.max = 255 := by decide
  omega
theorem or256 (n x : Nat) (hn : n < 1099511627776) (hx : x < 256) : Go.bits .or .i64 ((n * 256 : Nat) : Int) (x : Int) = ((n * 256 + x : Nat) : Int) := by
  show IntKind.i64.wrap ((BitVec.ofInt 64 ((n * 256 : Nat) : Int) ||| BitVec.ofInt 64 (x : Int)).toNat : Int) = _
  have e : n * 256 + x = (n * 256) ||| x := by
    have := Nat.shiftLeft_add_eq_or_of_lt (show x < 2 ^ 8 by omega) n
    rw [Nat.shiftLeft_eq] at this
    exact this
  rw [BitVec.toNat_or, ofInt_u64 _ (by omega), ofInt_u64 _ (by omega), ← e]
  exact Lib.wrap_i64_small _ (by omega)
theorem or_step {n x : Int} (h0 : 0 ≤ n) (h1 : n < 1099511627776) (h2 : 0 ≤ x) (h3 : x < 256) : Go.bits .or .i64 (wrap64 (n * 256)) (wrap64 x) = n * 256 + x := by
  obtain ⟨n, rfl⟩ := Int.eq_ofNat_of_zero_le h0
  obtain ⟨x, rfl⟩ := Int.eq_ofNat_of_zero_le h2
  have e1 : wrap64 ((n : Int) * 256) = ((n * 256 : Nat) : Int) := by unfold wrap64; omega
  have e2 : wrap64 (x : Int) = (x : Int) := by unfold wrap64; omega
  rw [e1, e2, or256 n x (by omega) (by omega)]
  omega
def num4 (a b c d : Int) : Int := ((a * 256 + b) * 256 + c) * 256 + d
def num (l : List Int) : Int := num4 (rd l 0) (rd l 1) (rd l 2) (rd l 3)
theorem take_cons {k : Nat} (hk : 6 ≤ k) {a b c d : Int} {t : List Int} (ha : 0 ≤ a ∧ a < 256) (hb : 0 ≤ b ∧ b < 256) (hc : 0 ≤ c ∧ c < 256) (hd : 0 ≤ d ∧ d < 256) : slot_take.f k (a :: b :: c :: d :: t) = some (num4 a b c d, t) := by
  obtain ⟨k, rfl⟩ : ∃ m, k = m + 1 + 1 + 1 + 1 + 1 := ⟨k - 5, by omega⟩
  unfold slot_take.f
  rw [if_pos (by simp only [List.length_cons]; omega)]
  simp only [Option.bind_some]
  show slot_take.l0 (k + 1 + 1 + 1 + 1 + 1) (a :: b :: c :: d :: t) 0 [a, b, c, d] 4 0 = _
  have w1 : wrap64 (0 + 1) = 1 := by unfold wrap64; omega
  have w2 : wrap64 (1 + 1) = 2 := by unfold wrap64; omega
  have w3 : wrap64 (2 + 1) = 3 := by unfold wrap64; omega
  have w4 : wrap64 (3 + 1) = 4 := by unfold wrap64; omega
  have r0 : rd [a, b, c, d] 0 = a := rfl
  have r1 : rd [a, b, c, d] 1 = b := rfl
  have r2 : rd [a, b, c, d] 2 = c := rfl
  have r3 : rd [a, b, c, d] 3 = d := rfl
  simp only [slot_take.l0]
  rw [if_pos (by decide), if_pos (by decide), if_pos (by simp), w1, r0, or_step (by omega) (by omega) ha.1 ha.2]
  rw [if_pos (by decide), if_pos (by decide), if_pos (by simp), w2, r1, or_step (by omega) (by omega) hb.1 hb.2]
  rw [if_pos (by decide), if_pos (by decide), if_pos (by simp), w3, r2, or_step (by omega) (by omega) hc.1 hc.2]
  rw [if_pos (by decide), if_pos (by decide), if_pos (by simp), w4, r3, or_step (by omega) (by omega) hd.1 hd.2]
  rw [if_neg (by decide), if_pos (by simp only [List.length_cons]; omega)]
  unfold num4
  simp only [Int.zero_mul, Int.zero_add]
  rfl
theorem four_of {l : List Int} (h : 4 ≤ l.length) : ∃ a b c d t, l = a :: b :: c :: d :: t := by
  match l, h with
  | a :: b :: c :: d :: t, _ => exact ⟨a, b, c, d, t, rfl⟩
theorem take_f {k : Nat} (hk : 6 ≤ k) {l : List Int} (hl : 4 ≤ l.length) (hB : isB l) : slot_take.f k l = some (num l, l.drop 4) := by
  obtain ⟨a, b, c, d, t, rfl⟩ := four_of hl
  rw [take_cons hk (hB a (by simp)) (hB b (by simp)) (hB c (by simp)) (hB d (by simp))]
  rfl
/-- as many numbers off the front -/
def nums : Nat → List Int → List Int
  | 0, _ => []
  | m + 1, l => num l :: nums m (l.drop 4)
theorem nums_len : ∀ m l, (nums m l).length = m
  | 0, _ => rfl
  | m + 1, l => by rw [nums, List.length_cons, nums_len]
/-- what a slot is read as -/
def psd (a b c d kind index cell stripe : Int) (v data : List Int) : Int × Int × Int × Int × List Int × List Int × Bool × Int :=
  if sMay a b c d kind index cell stripe v data then (kind, index, cell, stripe, v, data, true, 0) else (0, 0, 0, 0, [], [], false, 0)
theorem parse_l0 {a b c d kind index cell stripe : Int} (hc : 0 ≤ c) (hc2 : c ≤ 64) : ∀ (m k : Nat) (l v : List Int), l.length = 4 * m + c.toNat → m ≤ 1000 → m + 40 ≤ k → isB l → v.length + m ≤ 2000 →
    slot_Parse.l0 k l a b c d kind index cell stripe v = some (psd a b c d kind index cell stripe (v ++ nums m l) (l.drop (4 * m)))
  | 0, k, l, v, hl, hm, hk, hB, hv => by
    obtain ⟨k, rfl⟩ : ∃ q, k = q + 1 := ⟨k - 1, by omega⟩
    simp only [slot_Parse.l0]
    rw [if_neg (by omega)]
    simp only [Option.bind_some, List.nil_append, List.length_nil]
    rw [if_pos (by omega), may_f (by omega)]
    simp only [Option.bind_some, nums, List.append_nil, Nat.mul_zero, List.drop_zero]
    unfold psd
    by_cases h : sMay a b c d kind index cell stripe v l
    · rw [decide_eq_true h, if_pos rfl, if_pos h]
    · rw [decide_eq_false h, if_neg (by decide), if_neg h]
  | m + 1, k, l, v, hl, hm, hk, hB, hv => by
    obtain ⟨k, rfl⟩ : ∃ q, k = q + 1 := ⟨k - 1, by omega⟩
    simp only [slot_Parse.l0]
    rw [if_pos (by omega), take_f (by omega) (by omega) hB]
    simp only [Option.bind_some]
    rw [if_pos (by omega), parse_l0 hc hc2 m k (l.drop 4) _ (by rw [List.length_drop]; omega) (by omega) (by omega) (isB_drop hB 4) (by simp; omega)]
    rw [nums, List.append_assoc, List.drop_drop, show 4 + 4 * m = 4 * (m + 1) by omega]
    rfl
/-- what bytes are read as -/
def prs (a b c d : Int) (l : List Int) : Int × Int × Int × Int × List Int × List Int × Bool × Int :=
  if pOk a b c d then
    if l.length = 0 then (0, 0, 0, 0, [], [], false, 0)
    else if (l.length : Int) = 12 + 4 * (a + b) + c then
      if rd l 0 = 84 ∧ rd l 1 = 50 then psd a b c d (rd l 2) (rd l 3) (num (l.drop 4)) (num (l.drop 8)) (nums (a + b).toNat (l.drop 12)) (l.drop (12 + 4 * (a + b).toNat)) else (0, 0, 0, 0, [], [], false, 0)
    else (0, 0, 0, 0, [], [], false, 100)
  else (0, 0, 0, 0, [], [], false, 2)
theorem parse_f {k : Nat} (hk : 100 ≤ k) (a b c d : Int) {l : List Int} (hB : isB l) : slot_Parse.f k a b c d l = some (prs a b c d l) := by
  obtain ⟨k, rfl⟩ : ∃ q, k = q + 1 := ⟨k - 1, by omega⟩
  unfold slot_Parse.f prs
  rw [size_f (by omega)]
  simp only [Option.bind_some]
  by_cases h : pOk a b c d
  case neg => rw [if_neg h, if_neg h]; simp only []; rw [if_neg (by decide)]
  rw [if_pos h, if_pos h]
  simp only [if_true]
  have hp := h
  unfold pOk at hp
  by_cases h0 : l.length = 0
  · rw [if_pos (by omega), if_pos h0]
  rw [if_neg (by omega), if_neg h0]
  by_cases h1 : (l.length : Int) = 12 + 4 * (a + b) + c
  case neg => rw [if_neg h1, if_neg h1]
  rw [if_pos h1, if_pos h1, if_pos (by omega)]
  have j0 : slot_Parse.j0 (k + 1) l true a b c d = some (0, 0, 0, 0, [], [], false, 0) := by simp only [slot_Parse.j0, if_true]
  by_cases h2 : rd l 0 = 84
  case neg => rw [if_neg h2, j0, if_neg (fun z => h2 z.1)]
  rw [if_pos h2, if_pos (by omega)]
  by_cases h3 : rd l 1 = 50
  case neg => rw [bne_iff_ne.2 h3, j0, if_neg (fun z => h3 z.2)]
  rw [h3, bne_self_eq_false, if_pos ⟨h2, rfl⟩]
  simp only [slot_Parse.j0, Bool.false_eq_true, if_false]
  rw [if_pos (by omega), if_pos (by omega), if_pos (by omega), take_f (by omega) (by rw [List.length_drop]; omega) (isB_drop hB 4)]
  simp only [Option.bind_some]
  rw [take_f (by omega) (by rw [List.length_drop, List.length_drop]; omega) (isB_drop (isB_drop hB 4) 4)]
  simp only [Option.bind_some]
  have h4 : wrap64 (rd l 3) = rd l 3 := by
    have := rd_at (l := l) (i := 3) (by omega)
    have h5 := hB l[3] (List.getElem_mem (by omega))
    have h6 : rd l 3 = l[3] := this
    rw [h6]; unfold wrap64; omega
  rw [h4, parse_l0 (by omega) (by omega) (a + b).toNat k _ [] (by rw [List.length_drop, List.length_drop, List.length_drop]; omega) (by omega) (by omega) (isB_drop (isB_drop (isB_drop hB 4) 4) 4) (by simp; omega)]
  rw [List.drop_drop, List.drop_drop, List.drop_drop, List.nil_append]
end Go.Proofs.Ytihefjdabjmmaaa.Pure
