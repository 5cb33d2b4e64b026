/- KernelSteps, in plain Lean: a sum of multiples can be made one by one, for every input. No condition. -/
import Derived.Test.YtngdkbhpgkmllaaDoorPAx11
import Derived.Test.YtngdkbhpgkmllaaDoorKer
import Derived.Test.YtngdkbhpgkmllaaDoorKerA
namespace Go.Proofs.YtngdkbhpgkmllaaDoor.Pure
open Go Go.RowKit Go.TwoGf Go.Proofs.YtngdkbhpgkmllaaDoor Go.Proofs.YtngdkbhpgkmllaaDoor.PA Go.Proofs.YtngdkbhpgkmllaaDoorW.PrintWords Go.Proofs.YtngdkbhpgkmllaaDoorW.PrintLast Go.Proofs.YtngdkbhpgkmllaaDoorW.PrintMore
def xorv (a b : List Int) : List Int := List.zipWith aI a b
theorem xorv_len {a b : List Int} (h : a.length = b.length) : (xorv a b).length = a.length := by simp [xorv]; omega
theorem addv_one {a : List Int} : ∀ {b : List Int}, isB b → addv a 1 b = xorv a b := by
  intro b hb
  unfold addv xorv
  exact zipWith_on fun x y hy => by rw [mI_one (hb y hy)]
theorem xorv_B {a : List Int} : ∀ {b : List Int}, isB a → isB b → isB (xorv a b) := by
  induction a with
  | nil => intro b _ _; simp [xorv, isB]
  | cons x a ih =>
    intro b ha hb
    cases b with
    | nil => simp [xorv, isB]
    | cons y b =>
      intro z hz
      simp only [xorv, List.zipWith_cons_cons, List.mem_cons] at hz
      rcases hz with rfl | hz
      · exact aI_rng (isB_cons ha).1 (isB_cons hb).1
      · exact ih (isB_cons ha).2 (isB_cons hb).2 z hz
theorem aI_swap {x y u v : Int} (hx : 0 ≤ x ∧ x < 256) (hy : 0 ≤ y ∧ y < 256) (hu : 0 ≤ u ∧ u < 256) (hv : 0 ≤ v ∧ v < 256) : aI (aI x y) (aI u v) = aI (aI x u) (aI y v) := by
  rw [aI_assoc hx hy (aI_rng hu hv), aI_assoc hx hu (aI_rng hy hv), ← aI_assoc hy hu hv, ← aI_assoc hu hy hv, aI_comm hy hu]
theorem addv_xor {c d : Int} (hc : 0 ≤ c ∧ c < 256) (hd : 0 ≤ d ∧ d < 256) : ∀ {a a' b : List Int}, isB a → isB a' → isB b → addv (xorv a a') (aI c d) b = xorv (addv a c b) (addv a' d b)
  | [], _, _, _, _, _ => by simp [addv, xorv]
  | _ :: _, [], _, _, _, _ => by simp [addv, xorv]
  | _ :: _, _ :: _, [], _, _, _ => by simp [addv, xorv]
  | x :: a, x' :: a', y :: b, ha, ha', hb => by
    have := addv_xor hc hd (isB_cons ha).2 (isB_cons ha').2 (isB_cons hb).2
    simp only [addv, xorv, List.zipWith_cons_cons] at this ⊢
    rw [this, mI_add_left hc hd (isB_cons hb).1, aI_swap (isB_cons ha).1 (isB_cons ha').1 (mI_rng _ _) (mI_rng _ _)]
theorem dacc_xor : ∀ {c d : List Int} {l : List (List Int)} {a a' : List Int}, isB c → isB d → c.length = l.length → d.length = l.length → (∀ b ∈ l, isB b) → isB a → isB a' → dacc (xorv a a') (xorv c d) l = xorv (dacc a c l) (dacc a' d l)
  | [], [], [], _, _, _, _, _, _, _, _, _ => rfl
  | c :: cs, d :: ds, b :: bs, a, a', hc, hd, h1, h2, hl, ha, ha' => by
    show dacc (addv (xorv a a') (aI c d) b) (xorv cs ds) bs = xorv (dacc (addv a c b) cs bs) (dacc (addv a' d b) ds bs)
    rw [addv_xor (isB_cons hc).1 (isB_cons hd).1 ha ha' (hl b (by simp))]
    exact dacc_xor (isB_cons hc).2 (isB_cons hd).2 (by simpa using h1) (by simpa using h2) (fun b' hb => hl b' (by simp [hb])) (addv_B _ ha) (addv_B _ ha')
  | [], d :: ds, [], _, _, _, _, _, h2, _, _, _ => by simp at h2
  | c :: cs, _, [], _, _, _, _, h1, _, _, _, _ => by simp at h1
  | [], _, b :: bs, _, _, _, _, h1, _, _, _, _ => by simp at h1
  | c :: cs, [], b :: bs, _, _, _, _, _, h2, _, _, _ => by simp at h2
theorem xorv_rep : ∀ n, xorv (List.replicate n 0) (List.replicate n 0) = List.replicate n 0
  | 0 => rfl
  | n + 1 => by
    have := xorv_rep n
    simp only [List.replicate_succ, xorv, List.zipWith_cons_cons] at this ⊢
    rw [this, aI_zero (by decide)]
theorem alk_at' {l : List (List Int)} {i : Nat} (h : i < l.length) (ha : alk l = true) : l[i].length ≤ 65536 ∧ l[i].length = (rd_L1 l 0).length := by
  have := List.all_eq_true.1 ha l[i] (List.getElem_mem _)
  simpa using this
theorem dotv_ok {c : List Int} {l : List (List Int)} (h : (dotv c l).2 = 0) : c.length ≤ 16 ∧ l.length = c.length ∧ alk l = true := by
  unfold dotv at h
  by_cases e : c.length ≤ 16 ∧ l.length = c.length ∧ alk l = true
  · exact e
  · rw [if_neg e] at h; exact absurd h (by decide)
theorem dotv_bad {c : List Int} {l : List (List Int)} (h : ¬ (dotv c l).2 = 0) : (dotv c l).1 = [] ∧ ¬ (c.length ≤ 16 ∧ l.length = c.length ∧ alk l = true) := by
  unfold dotv at h ⊢
  by_cases e : c.length ≤ 16 ∧ l.length = c.length ∧ alk l = true
  · rw [if_pos e] at h
    exfalso; apply h; split <;> rfl
  · rw [if_neg e]; exact ⟨rfl, e⟩
/-- the start -/
def zs (l : List (List Int)) : List Int := if l.length = 0 then [] else List.replicate (rd_L1 l 0).length 0
theorem dotv_val {c : List Int} {l : List (List Int)} (e : c.length ≤ 16 ∧ l.length = c.length ∧ alk l = true) : dotv c l = (dacc (zs l) c l, 0) := by
  unfold dotv zs
  rw [if_pos e]
  by_cases h : l.length = 0
  · rw [if_pos h, if_pos h]
    obtain rfl := List.length_eq_zero_iff.1 h
    have : c = [] := List.length_eq_zero_iff.1 (by have := e.2.1; omega)
    subst this; rfl
  · rw [if_neg h, if_neg h]
theorem zs_len {l : List (List Int)} (ha : alk l = true) : ∀ b ∈ l, (zs l).length ≤ b.length := fun b hb => by
  have h0 : ¬ l.length = 0 := fun h => by have := List.length_eq_zero_iff.1 h; subst this; cases hb
  unfold zs
  rw [if_neg h0, List.length_replicate, alk_all ha b hb]; exact Nat.le_refl _
theorem zs_le {l : List (List Int)} (ha : alk l = true) : (zs l).length ≤ 65536 := by
  unfold zs
  split
  · simp
  · rename_i h
    have h0 : 0 < l.length := by omega
    have e : rd_L1 l 0 = l[0] := rd_L1_nat (i := 0) h0
    rw [List.length_replicate, e]; exact (alk_at' h0 ha).1
theorem zs_B (l : List (List Int)) : isB (zs l) := by unfold zs; split; exact isB_nil; exact isB_rep _
theorem steps_l2 {c d : List Int} {l : List (List Int)} (hc : isB c) (hd : isB d) (hl : ∀ b ∈ l, isB b) (e1 : c.length ≤ 16 ∧ l.length = c.length ∧ alk l = true) (e2 : d.length ≤ 16 ∧ l.length = d.length ∧ alk l = true) :
    ∀ (n k i : Nat), i + n = c.length → n + 100 < k → twoslotlaw02_KernelSteps.l2 k c d l (dotv c l).1 (dotv d l).1 ((xorv c d).take i) (i : Int) = some true
  | 0, k, i, hi, hk => by
    obtain ⟨k, rfl⟩ : ∃ m, k = m + 1 := ⟨k - 1, by omega⟩
    obtain rfl : i = c.length := by omega
    have hxl : (xorv c d).length = c.length := xorv_len (by omega)
    simp only [twoslotlaw02_KernelSteps.l2]
    rw [if_neg (show ¬ (c.length : Int) < (c.length : Int) by omega), List.take_of_length_le (by omega), dot_f (by omega) (by omega) (xorv_B hc hd) hl]
    simp only [Option.bind_some]
    have e3 : (xorv c d).length ≤ 16 ∧ l.length = (xorv c d).length ∧ alk l = true := by rw [hxl]; exact e1
    have hxB : isB (dotv d l).1 := by rw [dotv_val e2]; exact dacc_B (zs_B l)
    have hL1 : (dacc (zs l) c l).length = (zs l).length := dacc_len (zs_len e1.2.2)
    have hL2 : (dacc (zs l) d l).length = (zs l).length := dacc_len (zs_len e1.2.2)
    rw [xor_f (by omega) hxB]
    simp only [Option.bind_some]
    rw [dotv_val e1, dotv_val e2, dotv_val e3]
    have hz := zs_le e1.2.2
    have hp : plusv (dacc (zs l) c l) 1 (dacc (zs l) d l) = (xorv (dacc (zs l) c l) (dacc (zs l) d l), 0) := by
      unfold plusv
      rw [if_pos ⟨by omega, by omega⟩, addv_one (dacc_B (zs_B l))]
    rw [hp]
    have hzz : xorv (zs l) (zs l) = zs l := by
      unfold zs; split
      · rfl
      · exact xorv_rep _
    have := dacc_xor hc hd (by omega) (by omega) hl (zs_B l) (zs_B l)
    rw [hzz] at this
    rw [this]
    simp
  | n + 1, k, i, hi, hk => by
    obtain ⟨k, rfl⟩ : ∃ m, k = m + 1 := ⟨k - 1, by omega⟩
    have hlt : i < c.length := by omega
    have hlt2 : i < d.length := by omega
    have hxl : (xorv c d).length = c.length := xorv_len (by omega)
    simp only [twoslotlaw02_KernelSteps.l2]
    rw [if_pos (show (i : Int) < (c.length : Int) by omega), if_pos (show (0 : Int) ≤ (i : Int) by omega), if_pos (show (i : Int) < (d.length : Int) by omega), if_pos (by rw [List.length_take]; omega), wrap_s (by omega) (by omega)]
    have := steps_l2 hc hd hl e1 e2 n k (i + 1) (by omega) (by omega)
    rw [List.take_succ_eq_append_getElem (by omega), show ((i + 1 : Nat) : Int) = (i : Int) + 1 by omega] at this
    have ex : (xorv c d)[i]'(by omega) = Go.bits .xor .u8 (rd c i) (rd d i) := by
      unfold xorv; rw [List.getElem_zipWith, rd_nat hlt, rd_nat hlt2]; rfl
    rw [ex] at this
    exact this
theorem dacc_snoc : ∀ {c : List Int} {l : List (List Int)} {acc : List Int} {i : Nat} (h1 : i < c.length) (h2 : i < l.length), dacc acc (c.take (i + 1)) (l.take (i + 1)) = addv (dacc acc (c.take i) (l.take i)) c[i] l[i]
  | c :: cs, b :: bs, acc, 0, _, _ => by simp [dacc]
  | c :: cs, b :: bs, acc, i + 1, h1, h2 => by
    simp only [List.take_succ_cons, dacc, List.getElem_cons_succ]
    exact dacc_snoc (by simpa using h1) (by simpa using h2)
theorem steps_l1 {c d : List Int} {l : List (List Int)} (hc : isB c) (hd : isB d) (hl : ∀ b ∈ l, isB b) (e1 : c.length ≤ 16 ∧ l.length = c.length ∧ alk l = true) (hds : d.length ≤ 100) :
    ∀ (n k i : Nat), i + n = l.length → n + 300 < k → twoslotlaw02_KernelSteps.l1 k c d l (dotv c l).1 (dacc (zs l) (c.take i) (l.take i)) (i : Int) = some true
  | 0, k, i, hi, hk => by
    obtain ⟨k, rfl⟩ : ∃ m, k = m + 1 := ⟨k - 1, by omega⟩
    obtain rfl : i = l.length := by omega
    simp only [twoslotlaw02_KernelSteps.l1]
    rw [if_neg (show ¬ (l.length : Int) < (l.length : Int) by omega), List.take_of_length_le (by omega), List.take_of_length_le (by omega), dotv_val e1]
    simp only [if_true]
    rw [dot_f (by omega) (by omega) hd hl]
    simp only [Option.bind_some]
    by_cases h : (dotv d l).2 = 0
    · rw [if_pos h]
      have := steps_l2 hc hd hl e1 (dotv_ok h) c.length k 0 (by omega) (by omega)
      rw [dotv_val e1, List.take_zero] at this
      exact this
    · rw [if_neg h]
      have h2 := (dotv_bad h).2
      have : ¬ d.length = l.length := fun e => h2 ⟨by omega, e.symm, e1.2.2⟩
      congr 1
      exact bne_iff_ne.mpr (by omega)
  | n + 1, k, i, hi, hk => by
    obtain ⟨k, rfl⟩ : ∃ m, k = m + 1 := ⟨k - 1, by omega⟩
    have hlt : i < l.length := by omega
    have hlt2 : i < c.length := by omega
    have hm : l[i] ∈ l := List.getElem_mem _
    have hz := zs_le e1.2.2
    have hal := alk_at' hlt e1.2.2
    have hacc : (dacc (zs l) (c.take i) (l.take i)).length = (zs l).length := dacc_len (fun b hb => zs_len e1.2.2 b (List.mem_of_mem_take hb))
    have hzl : (zs l).length = l[i].length := by
      unfold zs; rw [if_neg (by omega), List.length_replicate]; exact hal.2.symm
    have hp : plusv (dacc (zs l) (c.take i) (l.take i)) (rd c i) l[i] = (addv (dacc (zs l) (c.take i) (l.take i)) (rd c i) l[i], 0) := by
      unfold plusv
      rw [if_pos ⟨by omega, by omega⟩]
    simp only [twoslotlaw02_KernelSteps.l1]
    rw [if_pos (show (i : Int) < (l.length : Int) by omega), if_pos (show (0 : Int) ≤ (i : Int) by omega), if_pos (show (i : Int) < (c.length : Int) by omega), rd_L1_nat hlt, plus_f (by omega) (isB_rd hc _) (hl _ hm), hp]
    simp only [Option.bind_some, if_true]
    rw [wrap_s (by omega) (by omega), rd_nat hlt2, ← dacc_snoc hlt2 hlt, show (i : Int) + 1 = ((i + 1 : Nat) : Int) by omega]
    exact steps_l1 hc hd hl e1 hds n k (i + 1) (by omega) (by omega)
theorem steps_l0 {c d : List Int} {l : List (List Int)} (hc : isB c) (hd : isB d) (hl : ∀ b ∈ l, isB b) (hls : l.length ≤ 16) (hds : d.length ≤ 100) :
    ∀ (n k i : Nat), i + n = l.length → n + 500 < k → twoslotlaw02_KernelSteps.l0 k c d l (i : Int) = some true
  | 0, k, i, hi, hk => by
    obtain ⟨k, rfl⟩ : ∃ m, k = m + 1 := ⟨k - 1, by omega⟩
    obtain ⟨k2, hk2⟩ : ∃ m, k = m + 1 := ⟨k - 1, by omega⟩
    simp only [twoslotlaw02_KernelSteps.l0]
    rw [if_neg (by omega), dot_f (by omega) (by omega) hc hl]
    simp only [Option.bind_some]
    by_cases h : (dotv c l).2 = 0
    · have e1 := dotv_ok h
      have key := steps_l1 hc hd hl e1 hds l.length k2 0 (by omega) (by omega)
      rw [List.take_zero, List.take_zero] at key
      rw [if_pos h]
      subst hk2
      by_cases h0 : l.length = 0
      · rw [if_neg (show ¬ (l.length : Int) > 0 by omega)]
        simp only [twoslotlaw02_KernelSteps.j2]
        have : dacc (zs l) [] [] = ([] : List Int) := by unfold zs; rw [if_pos h0]; rfl
        rw [this] at key
        exact key
      · have hpos : 0 < l.length := by omega
        have e : rd_L1 l 0 = l[0] := rd_L1_nat (i := 0) hpos
        have hle := (alk_at' hpos e1.2.2).1
        rw [if_pos (show (l.length : Int) > 0 by omega), if_pos (show (0 : Int) < (l.length : Int) by omega), if_pos (show (0 : Int) ≤ ((rd_L1 l 0).length : Int) by omega), if_pos (show (((rd_L1 l 0).length : Int)).toNat ≤ 281474976710656 by rw [e, Int.toNat_natCast]; omega), Int.toNat_natCast]
        simp only [twoslotlaw02_KernelSteps.j2]
        have : dacc (zs l) [] [] = List.replicate (rd_L1 l 0).length 0 := by unfold zs; rw [if_neg h0]; rfl
        rw [this] at key
        exact key
    · rw [if_neg h, (dotv_bad h).1]; rfl
  | n + 1, k, i, hi, hk => by
    obtain ⟨k, rfl⟩ : ∃ m, k = m + 1 := ⟨k - 1, by omega⟩
    simp only [twoslotlaw02_KernelSteps.l0]
    rw [if_pos (by omega), if_pos (by omega)]
    by_cases h : ((rd_L1 l i).length : Int) > 2000
    · rw [if_pos h]
    · rw [if_neg h, wrap_s (by omega) (by omega), show (i : Int) + 1 = ((i + 1 : Nat) : Int) by omega]
      exact steps_l0 hc hd hl hls hds n k (i + 1) (by omega) (by omega)
theorem KernelSteps : twoslotlaw02_KernelSteps.Pure := by
  intro c d l ⟨_, _, hc0⟩ ⟨_, _, hd0⟩ ⟨_, _, hl0⟩
  have hc := isB_wf hc0
  have hd := isB_wf hd0
  have hl : ∀ b ∈ l, isB b := fun b hb => isB_wf (hl0 b hb).2.2
  obtain ⟨k, hk⟩ : ∃ k, 2000 ≤ k := ⟨2000, Nat.le_refl _⟩
  refine ⟨k, ?_⟩
  unfold twoslotlaw02_KernelSteps.f
  rw [alive_f (by omega)]
  simp only [Option.bind_some, if_true]
  obtain ⟨k, rfl⟩ : ∃ m, k = m + 1 := ⟨k - 1, by omega⟩
  by_cases h1 : (l.length : Int) > 16
  · rw [if_pos h1]; simp [twoslotlaw02_KernelSteps.j0]
  · rw [if_neg h1]
    by_cases h2 : (c.length : Int) > 100
    · rw [if_pos h2]; simp [twoslotlaw02_KernelSteps.j0]
    · rw [if_neg h2]
      by_cases h3 : (d.length : Int) > 100
      · rw [decide_eq_true h3]; simp [twoslotlaw02_KernelSteps.j0]
      · rw [decide_eq_false h3]
        simp only [twoslotlaw02_KernelSteps.j0]
        rw [if_neg (by decide)]
        exact steps_l0 hc hd hl (by omega) (by omega) l.length k 0 (by omega) (by omega)
end Go.Proofs.YtngdkbhpgkmllaaDoor.Pure
