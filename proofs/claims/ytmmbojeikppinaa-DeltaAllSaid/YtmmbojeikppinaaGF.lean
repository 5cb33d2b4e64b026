/- The field of 256 elements on natural numbers: sums by exclusive or, products by logarithms. Plain: no program. No condition. -/
namespace Go.TwoGf
def bigE : Nat := 0x8e47add86c361b83cfe9fa7db0582c160b8bcbebfbf3f7f5f47a3d90482412098a45ac562b9bc3eff9f279b259a251a653a7dde070381c0e078dc86432198241ae57a5dc6e3795c46231964babdbe3fff1f67bb3d7e5fc7e3f91c663bfd1e673b7d5e472399249aa55a452299a4da8542a158442219e4fa9da6db85c2e1785cc663397c5ec763b93c7edf87c3e1f81ce67bdd068341a0d884422118643afd9e271b65ba3dfe1fe7fb1d66bbbd3e7fdf0783c1e0f89ca65bc5e2f99c261be5fa1de6fb9d269ba5da05028140a058c46239fc1ee77b5d46a35944a259c4e279dc06030180c06038fc9ea75b45a2d984c261387cde8743a1d8040201008040201
def bigL : Nat := 0xaf5850a8eaf4d674e8ade7e6e9d5ae4fd72c757aeb16f50b51a0a99cb05f59cb5a3eccbbb18660fbaa559d29523ba16cf66f0c7fec4917c476a47bb7d8432d1fa2416d4753393c849e5d2a14abd356f261befcdcb2978790cdcfbc955bd13f372e892023d99244117cb4b8267799a5e318fec531edde4a670d63808cf7c0700757a7f373ace5d44e2b79150a9f9b5eca3dba85fa54283a6b6e7e48c3a3b6421e404638835c13d2f1bddb968fce94d03688229110b32598e2fd30dd66628bbf06a672e44d78099ac9b9f9276a7dc2b51d458212f0da8e9335210f24e12f658a05714c08c8f869c11c81ef8d340ee064044bc7681bee33df03c61a320219010000
/-- 2 to the n, for n below 255 -/
def E (n : Nat) : Nat := (bigE >>> (8 * n)) % 256
/-- the logarithm, for a from 1 to 255 -/
def L (a : Nat) : Nat := (bigL >>> (8 * a)) % 256
def tw (a : Nat) : Nat := (2 * a) % 256 ^^^ (if a < 128 then 0 else 29)
theorem E_succ : ∀ n : Fin 254, E (n.val + 1) = tw (E n.val) := by decide +kernel
theorem E_zero : E 0 = 1 := by decide +kernel
theorem L_E' : ∀ n : Fin 255, L (E n.val) = n.val := by decide +kernel
theorem E_L' : ∀ a : Fin 256, a.val ≠ 0 → E (L a.val) = a.val ∧ L a.val < 255 := by decide +kernel
theorem E_pos' : ∀ n : Fin 255, E n.val ≠ 0 := by decide +kernel
theorem E_lt (n : Nat) : E n < 256 := Nat.mod_lt _ (by decide)
theorem L_E {n : Nat} (h : n < 255) : L (E n) = n := L_E' ⟨n, h⟩
theorem E_L {a : Nat} (h : a < 256) (h0 : a ≠ 0) : E (L a) = a := (E_L' ⟨a, h⟩ h0).1
theorem L_lt {a : Nat} (h : a < 256) (h0 : a ≠ 0) : L a < 255 := (E_L' ⟨a, h⟩ h0).2
theorem E_pos {n : Nat} (h : n < 255) : E n ≠ 0 := E_pos' ⟨n, h⟩
theorem tw_lt (a : Nat) : tw a < 256 := by
  unfold tw
  refine Nat.xor_lt_two_pow (n := 8) (Nat.mod_lt _ (by decide)) ?_
  split <;> decide
/-- the product -/
def gm (a b : Nat) : Nat := if a % 256 = 0 then 0 else if b % 256 = 0 then 0 else E ((L (a % 256) + L (b % 256)) % 255)
theorem gm_lt (a b : Nat) : gm a b < 256 := by
  unfold gm
  split
  · decide
  · split
    · decide
    · exact E_lt _
theorem gm_mod_left (a b : Nat) : gm (a % 256) b = gm a b := by unfold gm; rw [Nat.mod_mod]
theorem gm_mod_right (a b : Nat) : gm a (b % 256) = gm a b := by unfold gm; rw [Nat.mod_mod]
theorem gm_comm (a b : Nat) : gm a b = gm b a := by
  unfold gm
  by_cases ha : a % 256 = 0 <;> by_cases hb : b % 256 = 0 <;> simp [ha, hb, Nat.add_comm]
theorem zero_gm (a : Nat) : gm 0 a = 0 := by simp [gm]
theorem gm_zero (a : Nat) : gm a 0 = 0 := by rw [gm_comm, zero_gm]
theorem one_gm {a : Nat} (h : a < 256) : gm 1 a = a := by
  have h1 : L 1 = 0 := by decide +kernel
  unfold gm
  have hm : a % 256 = a := Nat.mod_eq_of_lt h
  rw [hm]
  by_cases h0 : a = 0
  · simp [h0]
  · have hl := L_lt h h0
    simp [h0, h1, Nat.mod_eq_of_lt hl, E_L h h0]
theorem gm_one {a : Nat} (h : a < 256) : gm a 1 = a := by rw [gm_comm, one_gm h]
theorem gm_nz {a b : Nat} (ha : a % 256 ≠ 0) (hb : b % 256 ≠ 0) : gm a b = E ((L (a % 256) + L (b % 256)) % 255) := by simp [gm, ha, hb]
theorem gm_ne {a b : Nat} (ha : a % 256 ≠ 0) (hb : b % 256 ≠ 0) : gm a b ≠ 0 := by
  rw [gm_nz ha hb]; exact E_pos (Nat.mod_lt _ (by decide))
theorem L_gm {a b : Nat} (ha : a % 256 ≠ 0) (hb : b % 256 ≠ 0) : L (gm a b) = (L (a % 256) + L (b % 256)) % 255 := by
  rw [gm_nz ha hb]; exact L_E (Nat.mod_lt _ (by decide))
theorem gm_assoc (a b c : Nat) : gm (gm a b) c = gm a (gm b c) := by
  by_cases ha : a % 256 = 0
  · have : gm a b = 0 := by simp [gm, ha]
    rw [this, zero_gm]; simp [gm, ha]
  by_cases hb : b % 256 = 0
  · have h1 : gm a b = 0 := by simp [gm, hb]
    have h2 : gm b c = 0 := by simp [gm, hb]
    rw [h1, h2, zero_gm, gm_zero]
  by_cases hc : c % 256 = 0
  · have h1 : gm b c = 0 := by simp [gm, hc]
    rw [h1, gm_zero]; simp [gm, hc]
  have m1 : gm a b % 256 = gm a b := Nat.mod_eq_of_lt (gm_lt a b)
  have m2 : gm b c % 256 = gm b c := Nat.mod_eq_of_lt (gm_lt b c)
  rw [gm_nz (a := gm a b) (by rw [m1]; exact gm_ne ha hb) hc, gm_nz ha (b := gm b c) (by rw [m2]; exact gm_ne hb hc), m1, m2, L_gm ha hb, L_gm hb hc]
  congr 1
  omega
theorem gm_left_comm (a b c : Nat) : gm a (gm b c) = gm b (gm a c) := by rw [← gm_assoc, gm_comm a b, gm_assoc]
theorem xor_lt {a b : Nat} (ha : a < 256) (hb : b < 256) : a ^^^ b < 256 := Nat.xor_lt_two_pow (n := 8) ha hb
theorem tw_bit : ∀ a : Fin 256, tw a.val = (a.val <<< 1) ^^^ (if a.val.testBit 7 then 285 else 0) := by decide +kernel
/-- doubling is linear -/
theorem tw_xor {a b : Nat} (ha : a < 256) (hb : b < 256) : tw (a ^^^ b) = tw a ^^^ tw b := by
  rw [tw_bit ⟨a ^^^ b, xor_lt ha hb⟩, tw_bit ⟨a, ha⟩, tw_bit ⟨b, hb⟩]
  simp only [Nat.shiftLeft_xor_distrib, Nat.testBit_xor]
  have h1 : ∀ x y c : Nat, (x ^^^ c) ^^^ (y ^^^ c) = x ^^^ y := by intro x y c; rw [Nat.xor_comm y c, ← Nat.xor_assoc, Nat.xor_assoc x c c, Nat.xor_self, Nat.xor_zero]
  cases a.testBit 7 <;> cases b.testBit 7
  · simp
  · simp; try ac_rfl
  · simp; try ac_rfl
  · rw [show (if (true ^^ true) = true then 285 else 0) = 0 from rfl, Nat.xor_zero]; exact (h1 _ _ _).symm
theorem gm_two {a : Nat} (h : a < 256) : gm 2 a = tw a := by
  have : ∀ a : Fin 256, gm 2 a.val = tw a.val := by decide +kernel
  exact this ⟨a, h⟩
/-- the product with a power of 2 is so many doublings -/
def twn : Nat → Nat → Nat
  | 0, b => b
  | n + 1, b => tw (twn n b)
theorem twn_lt {b : Nat} (h : b < 256) : ∀ n, twn n b < 256
  | 0 => h
  | _ + 1 => tw_lt _
theorem gm_E {b : Nat} (hb : b < 256) : ∀ n, n < 255 → gm (E n) b = twn n b
  | 0, _ => by rw [E_zero]; exact one_gm hb
  | n + 1, h => by
    have h2 := E_succ ⟨n, by omega⟩
    have e2 : E (n + 1) = tw (E n) := h2
    rw [e2, ← gm_two (E_lt n), gm_assoc, gm_E hb n (by omega), gm_two (twn_lt hb n), twn]
theorem twn_xor {a b : Nat} (ha : a < 256) (hb : b < 256) : ∀ n, twn n (a ^^^ b) = twn n a ^^^ twn n b
  | 0 => rfl
  | n + 1 => by simp only [twn]; rw [twn_xor ha hb n, tw_xor (twn_lt ha n) (twn_lt hb n)]
theorem xor_mod (a b : Nat) : (a ^^^ b) % 256 = a % 256 ^^^ b % 256 := Nat.xor_mod_two_pow (n := 8)
theorem gm_xor (a b c : Nat) : gm a (b ^^^ c) = gm a b ^^^ gm a c := by
  rw [← gm_mod_left a, ← gm_mod_right _ (b ^^^ c), ← gm_mod_left a b, ← gm_mod_left a c, ← gm_mod_right _ b, ← gm_mod_right _ c, xor_mod]
  have hb : b % 256 < 256 := Nat.mod_lt _ (by decide)
  have hc : c % 256 < 256 := Nat.mod_lt _ (by decide)
  have ha : a % 256 < 256 := Nat.mod_lt _ (by decide)
  by_cases h0 : a % 256 = 0
  · simp [h0, zero_gm]
  · rw [← E_L ha h0, gm_E hb _ (L_lt ha h0), gm_E hc _ (L_lt ha h0), gm_E (xor_lt hb hc) _ (L_lt ha h0), twn_xor hb hc]
/-- what is to be multiplied by to come to 1; 0 of 0 -/
def gi (a : Nat) : Nat := if a % 256 = 0 then 0 else E ((255 - L (a % 256)) % 255)
theorem gi_lt (a : Nat) : gi a < 256 := by
  unfold gi
  split
  · decide
  · exact E_lt _
theorem gm_gi {a : Nat} (h : a < 256) (h0 : a ≠ 0) : gm a (gi a) = 1 := by
  have : ∀ a : Fin 256, a.val ≠ 0 → gm a.val (gi a.val) = 1 := by decide +kernel
  exact this ⟨a, h⟩ h0
theorem gi_ne {a : Nat} (h : a < 256) (h0 : a ≠ 0) : gi a ≠ 0 := by
  intro h1
  have := gm_gi h h0
  rw [h1, gm_zero] at this
  exact absurd this (by decide)
theorem gm_cancel {a b c : Nat} (ha : a < 256) (h0 : a ≠ 0) (hb : b < 256) (hc : c < 256) (h : gm a b = gm a c) : b = c := by
  have h1 : gm (gi a) (gm a b) = gm (gi a) (gm a c) := by rw [h]
  rw [← gm_assoc, ← gm_assoc, gm_comm (gi a) a, gm_gi ha h0, one_gm hb, one_gm hc] at h1
  exact h1
theorem gi_unique {a b : Nat} (ha : a < 256) (hb : b < 256) (h : gm a b = 1) : b = gi a := by
  have h0 : a ≠ 0 := by rintro rfl; rw [zero_gm] at h; exact absurd h (by decide)
  exact gm_cancel ha h0 hb (gi_lt a) (h.trans (gm_gi ha h0).symm)
end Go.TwoGf
