/- Slices of bytes over the field: what the printed functions of kernel and of the reference of layer 2 come to. No condition. -/
import Derived.Test.YtmmbojeikppinaaPDx2
import Derived.Test.YtmmbojeikppinaaGF
import Derived.Laws.BitsAllLaws
import Derived.Test.YtmmbojeikppinaaPDx7
import Derived.Test.YtmmbojeikppinaaPDx3
import Derived.Lib.Bytes
namespace Go.Proofs.Ytmmbojeikppinaa.Pure
open Go Go.RowKit Go.TwoGf Go.Proofs.Ytmmbojeikppinaa.PD Go.Proofs.YtmmbojeikppinaaW.PrintWords Go.Proofs.YtmmbojeikppinaaW.PrintLast
theorem byte_of {a : Int} (h : (Lit.int .u8 a).wf = true) : ∃ n : Nat, n < 256 ∧ a = n := by
  have h1 : 0 ≤ a ∧ a < 256 := by
    have h2 : IntKind.u8.min ≤ a ∧ a ≤ IntKind.u8.max := by simpa [Lit.wf] using h
    have e1 : IntKind.u8.min = 0 := by decide
    have e2 : IntKind.u8.max = 255 := by decide
    omega
  obtain ⟨n, rfl⟩ := Int.eq_ofNat_of_zero_le h1.1
  exact ⟨n, by omega, rfl⟩
theorem twice_f (a : Nat) (h : a < 256) : gf_twice.f (a : Int) = some (tw a : Int) := by
  have : ∀ a : Fin 256, gf_twice.f (a.val : Int) = some ((tw a.val : Nat) : Int) := by decide +kernel
  exact this ⟨a, h⟩
theorem odd_and (a b : Nat) (h : a < 256) (hb : b < 256) : Go.bits .and .u8 (a : Int) ((-(Go.bits .and .u8 (b : Int) 1)) % 256) = ((if b % 2 = 1 then a else 0 : Nat) : Int) := by
  have h1 : Go.bits .and .u8 (b : Int) 1 = ((b % 2 : Nat) : Int) := by
    rw [show (1 : Int) = ((1 : Nat) : Int) from rfl, u8_and_nat b 1 hb (by decide), Nat.and_one_is_mod]
  rw [h1]
  rcases Nat.mod_two_eq_zero_or_one b with e | e
  · rw [e]; show Go.bits .and .u8 (a : Int) ((0 : Nat) : Int) = _
    rw [u8_and_nat a 0 h (by decide)]; simp
  · rw [e]; show Go.bits .and .u8 (a : Int) ((255 : Nat) : Int) = _
    rw [u8_and_nat a 255 h (by decide)]
    have : a &&& 255 = a := by
      rw [show (255 : Nat) = 2 ^ 8 - 1 from rfl, Nat.and_two_pow_sub_one_eq_mod]; exact Nat.mod_eq_of_lt h
    simp [this]
theorem half_two (b : Nat) (hb : b < 256) : b = (if b % 2 = 1 then 1 else 0) ^^^ tw (b / 2) := by
  have : ∀ b : Fin 256, b.val = (if b.val % 2 = 1 then 1 else 0) ^^^ tw (b.val / 2) := by decide +kernel
  exact this ⟨b, hb⟩
theorem gm_half (a b : Nat) (ha : a < 256) (hb : b < 256) : gm a b = (if b % 2 = 1 then a else 0) ^^^ gm (tw a) (b / 2) := by
  have e : gm a b = gm a ((if b % 2 = 1 then 1 else 0) ^^^ tw (b / 2)) := congrArg (gm a) (half_two b hb)
  rw [e, gm_xor, ← gm_two (by omega : b / 2 < 256), gm_left_comm, ← gm_assoc, gm_two ha]
  congr 1
  split
  · exact gm_one ha
  · exact gm_zero a
theorem mul_l0 : ∀ (j k a b c : Nat), j < k → b < 2 ^ j → j ≤ 8 → a < 256 → c < 256 → gf_Mul.l0 k (a : Int) (b : Int) (c : Int) = some ((c ^^^ gm a b : Nat) : Int)
  | 0, k, a, b, c, hk, hb, _, ha, hc => by
    obtain ⟨k, rfl⟩ : ∃ m, k = m + 1 := ⟨k - 1, by omega⟩
    obtain rfl : b = 0 := by omega
    simp [gf_Mul.l0, gm_zero]
  | j + 1, k, a, b, c, hk, hb, hj, ha, hc => by
    obtain ⟨k, rfl⟩ : ∃ m, k = m + 1 := ⟨k - 1, by omega⟩
    by_cases h0 : b = 0
    · subst h0; simp [gf_Mul.l0, gm_zero]
    · have hb256 : b < 256 := Nat.lt_of_lt_of_le hb (Nat.pow_le_pow_right (by decide) hj)
      simp only [gf_Mul.l0]
      rw [if_neg (by omega), twice_f a ha]
      simp only [Option.bind_some]
      have hx : (if b % 2 = 1 then a else 0) < 256 := by split <;> omega
      rw [odd_and a b ha hb256, u8_xor_nat c _ hc hx, show (b : Int) / 2 = ((b / 2 : Nat) : Int) by omega]
      rw [mul_l0 j k (tw a) (b / 2) _ (by omega) (by rw [Nat.pow_succ] at hb; omega) (by omega) (tw_lt a) (xor_lt hc hx), gm_half a b ha hb256, Nat.xor_assoc]
theorem mul_f (k a b : Nat) (hk : 9 ≤ k) (ha : a < 256) (hb : b < 256) : gf_Mul.f k (a : Int) (b : Int) = some ((gm a b : Nat) : Int) := by
  have := mul_l0 8 k a b 0 (by omega) hb (by omega) ha (by decide)
  rw [Nat.zero_xor] at this
  exact this
end Go.Proofs.Ytmmbojeikppinaa.Pure
namespace Go.Proofs.Ytmmbojeikppinaa.Pure
open Go Go.RowKit Go.TwoGf Go.Proofs.Ytmmbojeikppinaa Go.Proofs.Ytmmbojeikppinaa.PD Go.Proofs.YtmmbojeikppinaaW.PrintWords Go.Proofs.YtmmbojeikppinaaW.PrintLast Go.Proofs.YtmmbojeikppinaaW.PrintMore
def isB (l : List Int) : Prop := ∀ x ∈ l, 0 ≤ x ∧ x < 256
instance isBDec (l : List Int) : Decidable (isB l) := by unfold isB; infer_instance
theorem isB_nil : isB [] := fun x hx => by cases hx
theorem isB_cons {x : Int} {l : List Int} (h : isB (x :: l)) : (0 ≤ x ∧ x < 256) ∧ isB l := ⟨h x (by simp), fun y hy => h y (by simp [hy])⟩
theorem isB_wf {l : List Int} (h : ∀ x ∈ l, (Lit.int .u8 x).wf = true) : isB l := fun x hx => by
  have h2 : IntKind.u8.min ≤ x ∧ x ≤ IntKind.u8.max := by simpa [Lit.wf] using h x hx
  have e1 : IntKind.u8.min = 0 := by decide
  have e2 : IntKind.u8.max = 255 := by decide
  omega
theorem isB_rep (n : Nat) : isB (List.replicate n 0) := fun x hx => by rw [(List.mem_replicate.1 hx).2]; omega
theorem isB_rd {l : List Int} (h : isB l) (i : Int) : 0 ≤ rd l i ∧ rd l i < 256 := by
  unfold rd
  by_cases e : i.toNat < l.length
  · have : l.getD i.toNat 0 = l[i.toNat] := by simp [e]
    rw [this]; exact h _ (List.getElem_mem _)
  · have : l.getD i.toNat 0 = 0 := by simp [List.getElem?_eq_none (Nat.le_of_not_lt e)]
    rw [this]; omega
/-- the field's product, sum -/
def mI (c x : Int) : Int := ((gm c.toNat x.toNat : Nat) : Int)
def aI (x y : Int) : Int := Go.bits .xor .u8 x y
theorem mI_rng (c x : Int) : 0 ≤ mI c x ∧ mI c x < 256 := ⟨by unfold mI; omega, by have := gm_lt c.toNat x.toNat; unfold mI; omega⟩
theorem nat_of {x : Int} (h : 0 ≤ x ∧ x < 256) : ∃ n : Nat, n < 256 ∧ x = n := ⟨x.toNat, by omega, by omega⟩
theorem aI_nat {a b : Nat} (ha : a < 256) (hb : b < 256) : aI (a : Int) (b : Int) = ((a ^^^ b : Nat) : Int) := u8_xor_nat a b ha hb
theorem mI_nat (a b : Nat) : mI (a : Int) (b : Int) = ((gm a b : Nat) : Int) := rfl
theorem aI_rng {x y : Int} (hx : 0 ≤ x ∧ x < 256) (hy : 0 ≤ y ∧ y < 256) : 0 ≤ aI x y ∧ aI x y < 256 := by
  obtain ⟨a, ha, rfl⟩ := nat_of hx
  obtain ⟨b, hb, rfl⟩ := nat_of hy
  rw [aI_nat ha hb]
  have := xor_lt ha hb
  omega
theorem aI_zero {x : Int} (hx : 0 ≤ x ∧ x < 256) : aI 0 x = x := by
  obtain ⟨a, ha, rfl⟩ := nat_of hx
  rw [show (0 : Int) = ((0 : Nat) : Int) from rfl, aI_nat (by omega) ha, Nat.zero_xor]
theorem aI_self {x : Int} (hx : 0 ≤ x ∧ x < 256) : aI x x = 0 := by
  obtain ⟨a, ha, rfl⟩ := nat_of hx
  rw [aI_nat ha ha, Nat.xor_self]; rfl
theorem aI_comm {x y : Int} (hx : 0 ≤ x ∧ x < 256) (hy : 0 ≤ y ∧ y < 256) : aI x y = aI y x := by
  obtain ⟨a, ha, rfl⟩ := nat_of hx
  obtain ⟨b, hb, rfl⟩ := nat_of hy
  rw [aI_nat ha hb, aI_nat hb ha, Nat.xor_comm]
theorem aI_assoc {x y z : Int} (hx : 0 ≤ x ∧ x < 256) (hy : 0 ≤ y ∧ y < 256) (hz : 0 ≤ z ∧ z < 256) : aI (aI x y) z = aI x (aI y z) := by
  obtain ⟨a, ha, rfl⟩ := nat_of hx
  obtain ⟨b, hb, rfl⟩ := nat_of hy
  obtain ⟨c, hc, rfl⟩ := nat_of hz
  rw [aI_nat ha hb, aI_nat hb hc, aI_nat (xor_lt ha hb) hc, aI_nat ha (xor_lt hb hc), Nat.xor_assoc]
theorem mI_one {x : Int} (hx : 0 ≤ x ∧ x < 256) : mI 1 x = x := by
  obtain ⟨a, ha, rfl⟩ := nat_of hx
  rw [show (1 : Int) = ((1 : Nat) : Int) from rfl, mI_nat, one_gm ha]
theorem mI_add_left {c d x : Int} (hc : 0 ≤ c ∧ c < 256) (hd : 0 ≤ d ∧ d < 256) (hx : 0 ≤ x ∧ x < 256) : mI (aI c d) x = aI (mI c x) (mI d x) := by
  obtain ⟨a, ha, rfl⟩ := nat_of hc
  obtain ⟨b, hb, rfl⟩ := nat_of hd
  obtain ⟨n, hn, rfl⟩ := nat_of hx
  rw [aI_nat ha hb, mI_nat, mI_nat, mI_nat, aI_nat (gm_lt _ _) (gm_lt _ _), xor_gm]
theorem mulI_f {k : Nat} (hk : 9 ≤ k) {c x : Int} (hc : 0 ≤ c ∧ c < 256) (hx : 0 ≤ x ∧ x < 256) : gf_Mul.f k c x = some (mI c x) := by
  obtain ⟨a, ha, rfl⟩ := nat_of hc
  obtain ⟨b, hb, rfl⟩ := nat_of hx
  exact mul_f k a b hk ha hb
/-- a and c times b, byte by byte -/
def addv (a : List Int) (c : Int) (b : List Int) : List Int := List.zipWith (fun x y => aI x (mI c y)) a b
theorem addv_len {a b : List Int} (c : Int) (h : a.length ≤ b.length) : (addv a c b).length = a.length := by simp [addv]; omega
theorem addv_B {a : List Int} (c : Int) : ∀ {b : List Int}, isB a → isB (addv a c b) := by
  induction a with
  | nil => intro b _; simp [addv, isB]
  | cons x a ih =>
    intro b ha
    cases b with
    | nil => simp [addv, isB]
    | cons y b =>
      intro z hz
      simp only [addv, List.zipWith_cons_cons, List.mem_cons] at hz
      rcases hz with rfl | hz
      · exact aI_rng (isB_cons ha).1 (mI_rng _ _)
      · exact ih (isB_cons ha).2 z hz
theorem zipWith_on {f g : Int → Int → Int} : ∀ {a b : List Int}, (∀ x, ∀ y ∈ b, f x y = g x y) → List.zipWith f a b = List.zipWith g a b
  | [], _, _ => rfl
  | _ :: _, [], _ => rfl
  | x :: a, y :: b, h => by
    rw [List.zipWith_cons_cons, List.zipWith_cons_cons, h x y (by simp), zipWith_on (fun x z hz => h x z (by simp [hz]))]
theorem tab_f {k : Nat} (hk : 9 ≤ k) {c : Int} (hc : 0 ≤ c ∧ c < 256) : ∀ n, n ≤ 256 → kernel_add.tab k c n = some ((List.range n).map fun (i : Nat) => mI c (i : Int))
  | 0, _ => rfl
  | n + 1, h => by
    rw [kernel_add.tab, tab_f hk hc n (by omega)]
    simp only [Option.bind_some]
    rw [mulI_f hk hc ⟨by omega, by omega⟩]
    simp [List.range_succ]
theorem add_v {k : Nat} (hk : 9 ≤ k) {c : Int} (hc : 0 ≤ c ∧ c < 256) {a b : List Int} (hb : isB b) (hl : a.length ≤ b.length) : kernel_add.f k a c b = some (addv a c b) := by
  unfold kernel_add.f
  rw [tab_f hk hc 256 (Nat.le_refl _)]
  simp only [Option.bind_some]
  rw [if_pos ⟨hl, hb⟩]
  congr 1
  refine zipWith_on fun x y hy => ?_
  have := hb y hy
  unfold aI rd
  congr 1
  simp only [List.getD_eq_getElem?_getD, List.getElem?_map]
  rw [List.getElem?_range (by omega)]
  simp [Int.toNat_of_nonneg this.1]
/-- may slices be, and are they alike -/
def alk (l : List (List Int)) : Bool := l.all fun a => decide (a.length ≤ 65536) && decide (a.length = (rd_L1 l 0).length)
theorem wrap_s {i : Int} (h0 : 0 ≤ i) (h1 : i < 1000000) : wrap64 (i + 1) = i + 1 := by unfold wrap64; omega
theorem rd_L1_nat {l : List (List Int)} {i : Nat} (h : i < l.length) : rd_L1 l (i : Int) = l[i] := by simp [rd_L1, h]
theorem rd_nat {l : List Int} {i : Nat} (h : i < l.length) : rd l (i : Int) = l[i] := by simp [rd, h]
theorem alike_l0 (l : List (List Int)) (hl : l.length < 100000) : ∀ (d k i : Nat), i + d = l.length → d < k → kernel_alike.l0 k l l (l.length : Int) (i : Int) = some ((l.drop i).all fun a => decide (a.length ≤ 65536) && decide (a.length = (rd_L1 l 0).length))
  | 0, k, i, hi, hk => by
    obtain ⟨k, rfl⟩ : ∃ m, k = m + 1 := ⟨k - 1, by omega⟩
    obtain rfl : i = l.length := by omega
    simp [kernel_alike.l0]
  | d + 1, k, i, hi, hk => by
    obtain ⟨k, rfl⟩ : ∃ m, k = m + 1 := ⟨k - 1, by omega⟩
    have hlt : i < l.length := by omega
    simp only [kernel_alike.l0]
    rw [if_pos (by omega), if_pos (by omega), if_pos (by omega), rd_L1_nat hlt, List.drop_eq_getElem_cons hlt, List.all_cons]
    by_cases h1 : l[i].length ≤ 65536
    · rw [if_neg (by omega), if_pos (by omega)]
      by_cases h2 : l[i].length = (rd_L1 l 0).length
      · rw [if_pos (by omega), wrap_s (by omega) (by omega)]
        have := alike_l0 l hl d k (i + 1) (by omega) (by omega)
        rw [show ((i + 1 : Nat) : Int) = (i : Int) + 1 by omega] at this
        rw [this, decide_eq_true h1, decide_eq_true h2, Bool.true_and, Bool.true_and]
      · rw [if_neg (by omega), decide_eq_false h2, Bool.and_false, Bool.false_and]
    · rw [if_pos (by omega), decide_eq_false h1, Bool.false_and, Bool.false_and]
theorem alike_f {k : Nat} {l : List (List Int)} (hl : l.length < 100000) (hk : l.length < k) : kernel_alike.f k l = some (alk l) := by
  have := alike_l0 l hl l.length k 0 (by omega) hk
  exact this
theorem alk_one (a : List Int) : alk [a] = decide (a.length ≤ 65536) := by simp [alk, rd_L1]
theorem alk_two (a b : List Int) : alk [a, b] = (decide (a.length ≤ 65536) && decide (b.length = a.length)) := by
  simp only [alk, rd_L1, List.all_cons, List.all_nil]
  rw [Bool.eq_iff_iff]
  simp
  omega
/-- the sum, the multiple -/
def plusv (a : List Int) (c : Int) (b : List Int) : List Int × Int := if a.length ≤ 65536 ∧ b.length = a.length then (addv a c b, 0) else ([], 20)
theorem plus_f {k : Nat} (hk : 9 ≤ k) {c : Int} (hc : 0 ≤ c ∧ c < 256) {a b : List Int} (hb : isB b) : kernel_Plus.f k a c b = some (plusv a c b) := by
  unfold kernel_Plus.f plusv
  rw [alike_f (by simp) (by simp; omega), alk_two]
  simp only [Option.bind_some]
  by_cases h : a.length ≤ 65536 ∧ b.length = a.length
  · rw [if_pos (by simp [h]), if_pos h]
    unfold slices_Clone_byte_byte.f
    rw [if_pos (by omega)]
    simp only [Option.bind_some]
    rw [add_v hk hc hb (by omega)]
    rfl
  · rw [if_neg (by simp; omega), if_neg h]
theorem xor_f {k : Nat} (hk : 9 ≤ k) {a b : List Int} (hb : isB b) : kernel_Xor.f k a b = some (plusv a 1 b) := by
  unfold kernel_Xor.f
  rw [plus_f hk ⟨by decide, by decide⟩ hb]; rfl
/-- sums of multiples -/
def dacc : List Int → List Int → List (List Int) → List Int
  | acc, c :: cs, b :: bs => dacc (addv acc c b) cs bs
  | acc, _, _ => acc
def dotv (c : List Int) (l : List (List Int)) : List Int × Int :=
  if c.length ≤ 16 ∧ l.length = c.length ∧ alk l = true then (if l.length = 0 then ([], 0) else (dacc (List.replicate (rd_L1 l 0).length 0) c l, 0)) else ([], 20)
theorem dot_l0 {c : List Int} {l : List (List Int)} (hc : isB c) (hl : ∀ b ∈ l, isB b) (hcl : l.length = c.length) (hs : l.length ≤ 16) {n : Nat} (hn : ∀ b ∈ l, b.length = n) :
    ∀ (d k i : Nat) (acc : List Int), i + d = l.length → d + 9 < k → acc.length = n → kernel_Dot.l0 k c l acc (l.length : Int) (i : Int) = some (dacc acc (c.drop i) (l.drop i), 0)
  | 0, k, i, acc, hi, hk, _ => by
    obtain ⟨k, rfl⟩ : ∃ m, k = m + 1 := ⟨k - 1, by omega⟩
    obtain rfl : i = l.length := by omega
    simp [kernel_Dot.l0, dacc]
  | d + 1, k, i, acc, hi, hk, ha => by
    obtain ⟨k, rfl⟩ : ∃ m, k = m + 1 := ⟨k - 1, by omega⟩
    have hlt : i < l.length := by omega
    have hlt2 : i < c.length := by omega
    have hm : l[i] ∈ l := List.getElem_mem _
    simp only [kernel_Dot.l0]
    rw [if_pos (by omega), if_pos (by omega), if_pos (by omega), if_pos (by omega), rd_L1_nat hlt, add_v (by omega) (isB_rd hc _) (hl _ hm) (by rw [hn _ hm, ha]; exact Nat.le_refl _)]
    simp only [Option.bind_some]
    rw [wrap_s (by omega) (by omega)]
    have := dot_l0 hc hl hcl hs hn d k (i + 1) (addv acc (rd c i) l[i]) (by omega) (by omega) (by rw [addv_len _ (by rw [hn _ hm, ha]; exact Nat.le_refl _), ha])
    rw [show ((i + 1 : Nat) : Int) = (i : Int) + 1 by omega] at this
    rw [this, List.drop_eq_getElem_cons hlt, List.drop_eq_getElem_cons hlt2, dacc, rd_nat hlt2]
theorem alk_all {l : List (List Int)} (h : alk l = true) : ∀ b ∈ l, b.length = (rd_L1 l 0).length := fun b hb => by
  have := List.all_eq_true.1 h b hb
  simp at this; exact this.2
theorem dot_f {k : Nat} {c : List Int} {l : List (List Int)} (hs : l.length < 50000) (hk : l.length + 30 < k) (hc : isB c) (hl : ∀ b ∈ l, isB b) : kernel_Dot.f k c l = some (dotv c l) := by
  have hk1 : ∃ m, k = m + 1 := ⟨k - 1, by omega⟩
  unfold kernel_Dot.f dotv
  by_cases h1 : c.length ≤ 16
  case neg =>
    rw [if_pos (by omega), if_neg (by omega)]
    obtain ⟨k, rfl⟩ := hk1
    simp [kernel_Dot.j0]
  rw [if_neg (by omega)]
  by_cases h2 : l.length = c.length
  case neg =>
    rw [if_neg (by omega), if_neg (by omega)]
    obtain ⟨k, rfl⟩ := hk1
    simp [kernel_Dot.j0]
  rw [if_pos (by omega), alike_f (by omega) (by omega)]
  simp only [Option.bind_some]
  obtain ⟨k, rfl⟩ := hk1
  simp only [kernel_Dot.j0]
  cases h3 : alk l with
  | false => rw [if_pos (by decide), if_neg (by simp)]
  | true =>
    rw [if_neg (show ¬ (!true) = true by decide), if_pos (show c.length ≤ 16 ∧ l.length = c.length ∧ true = true from ⟨h1, h2, rfl⟩)]
    by_cases h4 : l.length = 0
    · rw [if_pos (show (l.length : Int) = 0 by omega), if_pos h4]
    · have h0 : 0 < l.length := by omega
      have e : rd_L1 l 0 = l[0] := rd_L1_nat (i := 0) h0
      have h5 : l[0].length ≤ 65536 := by
        have := List.all_eq_true.1 h3 l[0] (List.getElem_mem _)
        simp at this; exact this.1
      rw [if_neg (show ¬ (l.length : Int) = 0 by omega), if_neg h4, if_pos (show (0 : Int) < (l.length : Int) by omega), if_pos (show (0 : Int) ≤ ((rd_L1 l 0).length : Int) by omega), if_pos (show (((rd_L1 l 0).length : Int)).toNat ≤ 281474976710656 by rw [e, Int.toNat_natCast]; omega), Int.toNat_natCast]
      exact dot_l0 hc hl h2 (by omega) (alk_all h3) l.length k 0 _ (by omega) (by omega) (by simp)
theorem dacc_len : ∀ {c : List Int} {l : List (List Int)} {acc : List Int}, (∀ b ∈ l, acc.length ≤ b.length) → (dacc acc c l).length = acc.length
  | [], _, _, _ => rfl
  | _ :: _, [], _, _ => rfl
  | c :: cs, b :: bs, acc, h => by
    have h0 := h b (by simp)
    rw [dacc, dacc_len (fun b' hb => by rw [addv_len _ h0]; exact h b' (by simp [hb])), addv_len _ h0]
theorem dacc_B : ∀ {c : List Int} {l : List (List Int)} {acc : List Int}, isB acc → isB (dacc acc c l)
  | [], _, _, h => h
  | _ :: _, [], _, h => h
  | c :: cs, b :: bs, acc, h => by rw [dacc]; exact dacc_B (addv_B _ h)
theorem strOfNums_inj {x y : List Int} (hx : isB x) (hy : isB y) (h : (strOfNums x).toList = (strOfNums y).toList) : x = y := by
  rw [Lib.strOfNums_toList, Lib.strOfNums_toList] at h
  have key : ∀ l : List Int, isB l → (Lib.bytesOf l).map (fun b => (b.toNat : Int)) = l := by
    intro l
    induction l with
    | nil => intro _; rfl
    | cons a l ih =>
      intro hl
      have ha := hl a (by simp)
      have e := ih (fun z hz => hl z (by simp [hz]))
      unfold Lib.bytesOf at *
      simp only [List.map_cons, List.cons.injEq]
      refine ⟨?_, e⟩
      have : (UInt8.ofNat a.toNat).toNat = a.toNat := by
        rw [UInt8.toNat_ofNat']; omega
      omega
  rw [← key x hx, ← key y hy, h]
end Go.Proofs.Ytmmbojeikppinaa.Pure
