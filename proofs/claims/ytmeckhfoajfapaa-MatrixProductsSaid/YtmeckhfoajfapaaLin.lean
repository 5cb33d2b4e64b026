/- Linear algebra over the field of 256 elements: sums, spans, elimination, ranks, inverses. Plain: no program. No condition. -/
import Derived.Test.YtmeckhfoajfapaaGF
namespace Go.TwoLin
open Go.TwoGf
set_option linter.unusedVariables false
def F : Type := Fin 256
def F.mk (n : Nat) (h : n < 256) : F := (⟨n, h⟩ : Fin 256)
def F.v (a : F) : Nat := Fin.val a
theorem F.lt (a : F) : a.v < 256 := Fin.isLt a
theorem F.ext {a b : F} (h : a.v = b.v) : a = b := Fin.ext h
instance : Add F := ⟨fun a b => F.mk (a.v ^^^ b.v) (xor_lt a.lt b.lt)⟩
instance : Mul F := ⟨fun a b => F.mk (gm a.v b.v) (gm_lt _ _)⟩
instance : OfNat F 0 := ⟨F.mk 0 (by decide)⟩
instance : OfNat F 1 := ⟨F.mk 1 (by decide)⟩
instance : DecidableEq F := inferInstanceAs (DecidableEq (Fin 256))
def inv (a : F) : F := F.mk (gi a.v) (gi_lt a.v)
theorem v_add (a b : F) : (a + b).v = a.v ^^^ b.v := rfl
theorem v_mul (a b : F) : (a * b).v = gm a.v b.v := rfl
theorem v_zero : (0 : F).v = 0 := rfl
theorem v_one : (1 : F).v = 1 := rfl
theorem v_inv (a : F) : (inv a).v = gi a.v := rfl
theorem v_ne {a : F} (h : a ≠ 0) : a.v ≠ 0 := fun z => h (F.ext z)
theorem add_comm (a b : F) : a + b = b + a := F.ext (Nat.xor_comm _ _)
theorem add_assoc (a b c : F) : a + b + c = a + (b + c) := F.ext (Nat.xor_assoc _ _ _)
theorem add_zero (a : F) : a + 0 = a := F.ext (Nat.xor_zero _)
theorem zero_add (a : F) : 0 + a = a := F.ext (Nat.zero_xor _)
theorem add_self (a : F) : a + a = 0 := F.ext (Nat.xor_self _)
theorem mul_comm (a b : F) : a * b = b * a := F.ext (gm_comm _ _)
theorem mul_assoc (a b c : F) : a * b * c = a * (b * c) := F.ext (gm_assoc _ _ _)
theorem mul_zero (a : F) : a * 0 = 0 := F.ext (gm_zero a.v)
theorem zero_mul (a : F) : 0 * a = 0 := F.ext (zero_gm a.v)
theorem mul_one (a : F) : a * 1 = a := F.ext (gm_one a.lt)
theorem one_mul (a : F) : 1 * a = a := F.ext (one_gm a.lt)
theorem mul_add (a b c : F) : a * (b + c) = a * b + a * c := F.ext (gm_xor _ _ _)
theorem add_mul (a b c : F) : (a + b) * c = a * c + b * c := F.ext (xor_gm _ _ _)
theorem mul_inv {a : F} (h : a ≠ 0) : a * inv a = 1 := F.ext (gm_gi a.lt (v_ne h))
theorem inv_mul {a : F} (h : a ≠ 0) : inv a * a = 1 := by rw [mul_comm, mul_inv h]
theorem one_ne : (1 : F) ≠ 0 := fun h => absurd (congrArg F.v h) (by decide)
theorem add_eq_zero {a b : F} (h : a + b = 0) : a = b := by
  have : a + b + b = 0 + b := by rw [h]
  rwa [add_assoc, add_self, add_zero, zero_add] at this
theorem mul_eq_zero {a b : F} (h : a * b = 0) : a = 0 ∨ b = 0 := by
  by_cases ha : a = 0
  · exact .inl ha
  · right
    have : inv a * (a * b) = 0 := by rw [h, mul_zero]
    rwa [← mul_assoc, inv_mul ha, one_mul] at this
theorem inv_ne {a : F} (h : a ≠ 0) : inv a ≠ 0 := fun z => by
  have := mul_inv h
  rw [z, mul_zero] at this
  exact one_ne this.symm
instance : Std.Associative (α := F) (· + ·) := ⟨add_assoc⟩
instance : Std.Commutative (α := F) (· + ·) := ⟨add_comm⟩
instance : Std.Associative (α := F) (· * ·) := ⟨mul_assoc⟩
instance : Std.Commutative (α := F) (· * ·) := ⟨mul_comm⟩
/-- the sum over a list of indexes -/
def sm (l : List Nat) (f : Nat → F) : F := l.foldr (fun i s => f i + s) 0
theorem sm_nil (f : Nat → F) : sm [] f = 0 := rfl
theorem sm_cons (i : Nat) (l : List Nat) (f : Nat → F) : sm (i :: l) f = f i + sm l f := rfl
theorem sm_congr {l : List Nat} {f g : Nat → F} (h : ∀ i ∈ l, f i = g i) : sm l f = sm l g := by
  induction l with
  | nil => rfl
  | cons i l ih => rw [sm_cons, sm_cons, h i (by simp), ih (fun j hj => h j (by simp [hj]))]
theorem sm_zero {l : List Nat} {f : Nat → F} (h : ∀ i ∈ l, f i = 0) : sm l f = 0 := by
  induction l with
  | nil => rfl
  | cons i l ih => rw [sm_cons, h i (by simp), ih (fun j hj => h j (by simp [hj])), add_zero]
theorem sm_add (l : List Nat) (f g : Nat → F) : sm l (fun i => f i + g i) = sm l f + sm l g := by
  induction l with
  | nil => exact (add_zero 0).symm
  | cons i l ih => rw [sm_cons, sm_cons, sm_cons, ih]; ac_rfl
theorem sm_mul (l : List Nat) (c : F) (f : Nat → F) : sm l (fun i => c * f i) = c * sm l f := by
  induction l with
  | nil => exact (mul_zero c).symm
  | cons i l ih => rw [sm_cons, sm_cons, ih, mul_add]
theorem sm_mulr (l : List Nat) (c : F) (f : Nat → F) : sm l (fun i => f i * c) = sm l f * c := by
  rw [mul_comm, ← sm_mul]; exact sm_congr fun i _ => mul_comm _ _
theorem sm_comm (l m : List Nat) (f : Nat → Nat → F) : sm l (fun i => sm m (fun j => f i j)) = sm m (fun j => sm l (fun i => f i j)) := by
  induction l with
  | nil => exact (sm_zero (fun _ _ => rfl)).symm
  | cons i l ih => simp only [sm_cons]; rw [ih, ← sm_add]
theorem sm_perm {l m : List Nat} (h : l.Perm m) (f : Nat → F) : sm l f = sm m f := by
  induction h with
  | nil => rfl
  | cons x _ ih => rw [sm_cons, sm_cons, ih]
  | swap x y l => simp only [sm_cons]; ac_rfl
  | trans _ _ h1 h2 => rw [h1, h2]
theorem sm_one {l : List Nat} (hl : l.Nodup) {i : Nat} (hi : i ∈ l) {f : Nat → F} (h : ∀ j ∈ l, j ≠ i → f j = 0) : sm l f = f i := by
  rw [sm_perm (List.perm_cons_erase hi), sm_cons, sm_zero, add_zero]
  intro j hj
  have := (List.Nodup.mem_erase_iff hl).1 hj
  exact h j this.2 this.1
theorem mem_rg {n i : Nat} : i ∈ List.range n ↔ i < n := List.mem_range
theorem nd_rg (n : Nat) : (List.range n).Nodup := List.nodup_range
/-- the sum below n -/
abbrev sn (n : Nat) (f : Nat → F) : F := sm (List.range n) f
theorem sn_succ (n : Nat) (f : Nat → F) : sn (n + 1) f = sn n f + f n := by
  unfold sn
  rw [List.range_succ, sm_perm (List.perm_append_comm), List.singleton_append, sm_cons, add_comm]
theorem sn_congr {n : Nat} {f g : Nat → F} (h : ∀ i, i < n → f i = g i) : sn n f = sn n g := sm_congr fun i hi => h i (mem_rg.1 hi)
theorem sn_zero {n : Nat} {f : Nat → F} (h : ∀ i, i < n → f i = 0) : sn n f = 0 := sm_zero fun i hi => h i (mem_rg.1 hi)
theorem sn_one {n i : Nat} (hi : i < n) {f : Nat → F} (h : ∀ j, j < n → j ≠ i → f j = 0) : sn n f = f i := sm_one (nd_rg n) (mem_rg.2 hi) fun j hj => h j (mem_rg.1 hj)
theorem sn_le {m n : Nat} (hm : m ≤ n) {f : Nat → F} (h : ∀ i, m ≤ i → i < n → f i = 0) : sn n f = sn m f := by
  induction n with
  | zero => obtain rfl : m = 0 := by omega
            rfl
  | succ n ih =>
    by_cases e : m = n + 1
    · rw [e]
    · rw [sn_succ, h n (by omega) (by omega), add_zero, ih (by omega) (fun i h1 h2 => h i h1 (by omega))]
/-- the unit matrix -/
def dl (i j : Nat) : F := if i = j then 1 else 0
theorem dl_same (i : Nat) : dl i i = 1 := if_pos rfl
theorem dl_ne {i j : Nat} (h : i ≠ j) : dl i j = 0 := if_neg h
theorem dl_comm (i j : Nat) : dl i j = dl j i := by
  unfold dl
  by_cases h : i = j
  · rw [if_pos h, if_pos h.symm]
  · rw [if_neg h, if_neg (fun z => h z.symm)]
/-- the product over n -/
def mm (n : Nat) (A B : Nat → Nat → F) (i j : Nat) : F := sn n fun k => A i k * B k j
theorem mm_assoc (m n : Nat) (A B C : Nat → Nat → F) (i j : Nat) : mm n (mm m A B) C i j = mm m A (mm n B C) i j := by
  unfold mm
  have h1 : sn n (fun k => sn m (fun l => A i l * B l k) * C k j) = sn n fun k => sn m fun l => A i l * B l k * C k j := sn_congr fun k _ => (sm_mulr _ _ _).symm
  have h2 : sn m (fun l => A i l * sn n (fun k => B l k * C k j)) = sn m fun l => sn n fun k => A i l * (B l k * C k j) := sn_congr fun k _ => (sm_mul _ _ _).symm
  rw [h1, h2]
  unfold sn
  rw [sm_comm]
  exact sm_congr fun l _ => sm_congr fun k _ => mul_assoc _ _ _
theorem mm_congr {n : Nat} {A A' B B' : Nat → Nat → F} {i j : Nat} (h1 : ∀ k, k < n → A i k = A' i k) (h2 : ∀ k, k < n → B k j = B' k j) : mm n A B i j = mm n A' B' i j := sn_congr fun k hk => by rw [h1 k hk, h2 k hk]
theorem mm_dl {n : Nat} (A : Nat → Nat → F) (i : Nat) {j : Nat} (hj : j < n) : mm n A dl i j = A i j := by
  unfold mm
  rw [sn_one hj (fun k _ hk => by rw [dl_ne hk, mul_zero]), dl_same, mul_one]
theorem dl_mm {n : Nat} (A : Nat → Nat → F) {i : Nat} (hi : i < n) (j : Nat) : mm n dl A i j = A i j := by
  unfold mm
  rw [sn_one hi (fun k _ hk => by rw [dl_ne (fun z => hk z.symm), zero_mul]), dl_same, one_mul]
/-- the matrix turned -/
def tp (A : Nat → Nat → F) (i j : Nat) : F := A j i
theorem mm_tp (n : Nat) (A B : Nat → Nat → F) (i j : Nat) : mm n (tp B) (tp A) i j = mm n A B j i := sn_congr fun k _ => mul_comm _ _
/-- more unknowns than equations: a solution that is not zero -/
theorem kernel : ∀ (L R : List Nat) (X : Nat → Nat → F), R.Nodup → L.length < R.length → ∃ u : Nat → F, (∃ i ∈ R, u i ≠ 0) ∧ (∀ i, i ∉ R → u i = 0) ∧ ∀ j ∈ L, sm R (fun i => u i * X i j) = 0
  | [], R, X, hR, hlt => by
    cases R with
    | nil => simp at hlt
    | cons r R => exact ⟨dl r, ⟨r, by simp, by rw [dl_same]; exact one_ne⟩, fun i hi => dl_ne (fun z => hi (by simp [z])), fun j hj => by cases hj⟩
  | c :: L, R, X, hR, hlt => by
    by_cases hz : ∀ i ∈ R, X i c = 0
    · obtain ⟨u, h1, h2, h3⟩ := kernel L R X hR (by simp at hlt; omega)
      refine ⟨u, h1, h2, fun j hj => ?_⟩
      rcases List.mem_cons.1 hj with rfl | hj
      · exact sm_zero fun i hi => by rw [hz i hi, mul_zero]
      · exact h3 j hj
    · have ⟨p, hp⟩ := Classical.not_forall.1 hz
      have ⟨hpR, hpc⟩ := Classical.not_imp.1 hp
      have hlen : (R.erase p).length = R.length - 1 := List.length_erase_of_mem hpR
      obtain ⟨u, ⟨q, hq, hqu⟩, h2, h3⟩ := kernel L (R.erase p) (fun i j => X i j + X i c * inv (X p c) * X p j) (hR.erase p) (by simp at hlt; omega)
      have hup : u p = 0 := h2 p (fun z => (List.Nodup.mem_erase_iff hR).1 z |>.1 rfl)
      have hqR : q ∈ R ∧ q ≠ p := ⟨((List.Nodup.mem_erase_iff hR).1 hq).2, ((List.Nodup.mem_erase_iff hR).1 hq).1⟩
      refine ⟨fun i => if i = p then sm (R.erase p) (fun k => u k * (X k c * inv (X p c))) else u i, ⟨q, hqR.1, by simp only [if_neg hqR.2]; exact hqu⟩, fun i hi => ?_, fun j hj => ?_⟩
      · have h5 : i ≠ p := fun z => hi (by rw [z]; exact hpR)
        simp only [if_neg h5]
        exact h2 i (fun z => hi (List.mem_of_mem_erase z))
      · rw [sm_perm (List.perm_cons_erase hpR), sm_cons]
        simp only [if_pos]
        have e1 : sm (R.erase p) (fun i => (if i = p then sm (R.erase p) (fun k => u k * (X k c * inv (X p c))) else u i) * X i j) = sm (R.erase p) (fun i => u i * X i j) := sm_congr fun i hi => by
          rw [if_neg ((List.Nodup.mem_erase_iff hR).1 hi).1]
        rw [e1]
        rcases List.mem_cons.1 hj with rfl | hj
        · rw [← sm_mulr, ← sm_add]
          refine sm_zero fun i hi => ?_
          rw [mul_assoc, mul_assoc, inv_mul hpc, mul_one, add_self]
        · have := h3 j hj
          rw [← sm_mulr, ← sm_add, ← this]
          refine sm_congr fun i hi => ?_
          rw [mul_add, add_comm]
          congr 1
          ac_rfl
/-- a unit matrix of r rows does not come of a product over less -/
theorem unit_le {r s : Nat} {X Y : Nat → Nat → F} (h : ∀ i j, i < r → j < r → mm s X Y i j = dl i j) : r ≤ s := by
  apply Classical.byContradiction
  intro hlt
  obtain ⟨u, ⟨q, hq, hqu⟩, _, h3⟩ := kernel (List.range s) (List.range r) X (nd_rg r) (by simp; omega)
  have hq := mem_rg.1 hq
  apply hqu
  have e : sn r (fun i => u i * mm s X Y i q) = u q := by
    rw [sn_one hq (fun i hi hne => by rw [h i q hi hq, dl_ne hne, mul_zero]), h q q hq hq, dl_same, mul_one]
  rw [← e]
  have h1 : sn r (fun i => u i * mm s X Y i q) = sn r fun i => sn s fun k => u i * X i k * Y k q := sn_congr fun i _ => by
    unfold mm
    rw [← sm_mul]
    exact sm_congr fun k _ => (mul_assoc _ _ _).symm
  rw [h1]
  unfold sn
  rw [sm_comm]
  refine sm_zero fun k hk => ?_
  rw [sm_mulr, h3 k hk, zero_mul]
/-- the rank: the matrix goes through r, and no less -/
def Rk (m n r : Nat) (A : Nat → Nat → F) : Prop :=
  (∃ P C : Nat → Nat → F, ∀ i j, i < m → j < n → A i j = mm r P C i j) ∧ (∃ L K : Nat → Nat → F, ∀ i j, i < r → j < r → mm m L (mm n A K) i j = dl i j)
theorem Rk_le {m n r s : Nat} {A : Nat → Nat → F} (h : ∃ L K : Nat → Nat → F, ∀ i j, i < r → j < r → mm m L (mm n A K) i j = dl i j) (h2 : ∃ P C : Nat → Nat → F, ∀ i j, i < m → j < n → A i j = mm s P C i j) : r ≤ s := by
  obtain ⟨L, K, h⟩ := h
  obtain ⟨P, C, h2⟩ := h2
  refine unit_le (X := mm m L P) (Y := mm n C K) fun i j hi hj => ?_
  rw [← h i j hi hj, mm_assoc]
  refine mm_congr (fun _ _ => rfl) fun k hk => ?_
  rw [← mm_assoc]
  exact mm_congr (fun l hl => (h2 k l hk hl).symm) fun _ _ => rfl
theorem Rk_unique {m n r s : Nat} {A : Nat → Nat → F} (h1 : Rk m n r A) (h2 : Rk m n s A) : r = s := Nat.le_antisymm (Rk_le h1.2 h2.1) (Rk_le h2.2 h1.1)
theorem Rk_tp {m n r : Nat} {A : Nat → Nat → F} (h : Rk m n r A) : Rk n m r (tp A) := by
  obtain ⟨⟨P, C, h1⟩, L, K, h2⟩ := h
  refine ⟨⟨tp C, tp P, fun i j hi hj => ?_⟩, tp K, tp L, fun i j hi hj => ?_⟩
  · rw [mm_tp]; exact h1 j i hj hi
  · have e1 : mm m L (mm n A K) j i = mm n (mm m L A) K j i := (mm_assoc m n L A K j i).symm
    rw [dl_comm, ← h2 j i hj hi, e1, ← mm_tp n (mm m L A) K i j]
    exact mm_congr (fun _ _ => rfl) fun _ _ => mm_tp m L A _ j
theorem Rk_rows {m n r : Nat} {A : Nat → Nat → F} (h : Rk m n r A) : r ≤ m := by
  obtain ⟨L, K, h⟩ := h.2
  exact unit_le h
theorem Rk_cols {m n r : Nat} {A : Nat → Nat → F} (h : Rk m n r A) : r ≤ n := Rk_rows (Rk_tp h)
theorem Rk_mul {m n p q r : Nat} {A B : Nat → Nat → F} (h : Rk m n r A) (h2 : Rk m p q (mm n A B)) : q ≤ r := by
  obtain ⟨P, C, h1⟩ := h.1
  refine Rk_le h2.2 ⟨P, mm n C B, fun i j hi hj => ?_⟩
  rw [← mm_assoc]
  exact mm_congr (fun k hk => h1 i k hi hk) fun _ _ => rfl
theorem Rk_congr {m n r : Nat} {A B : Nat → Nat → F} (h : ∀ i j, i < m → j < n → A i j = B i j) (h1 : Rk m n r A) : Rk m n r B := by
  obtain ⟨⟨P, C, h1⟩, L, K, h2⟩ := h1
  refine ⟨⟨P, C, fun i j hi hj => (h i j hi hj).symm.trans (h1 i j hi hj)⟩, L, K, fun i j hi hj => ?_⟩
  rw [← h2 i j hi hj]
  exact mm_congr (fun _ _ => rfl) fun k hk => mm_congr (fun l hl => (h k l hk hl).symm) fun _ _ => rfl
/-- a row is made of n rows -/
def Span (n : Nat) (X : Nat → Nat → F) (y : Nat → F) : Prop := ∃ u : Nat → F, ∀ j, y j = sn n fun k => u k * X k j
theorem Span_row {n i : Nat} (X : Nat → Nat → F) (hi : i < n) : Span n X (X i) := ⟨dl i, fun j => (dl_mm X hi j).symm⟩
theorem Span_add {n : Nat} {X : Nat → Nat → F} {y z : Nat → F} (h1 : Span n X y) (h2 : Span n X z) : Span n X fun j => y j + z j := by
  obtain ⟨u, hu⟩ := h1
  obtain ⟨v, hv⟩ := h2
  exact ⟨fun k => u k + v k, fun j => by
    show y j + z j = _
    rw [hu, hv, ← sm_add]
    exact sm_congr fun _ _ => (add_mul _ _ _).symm⟩
theorem Span_smul {n : Nat} {X : Nat → Nat → F} {y : Nat → F} (c : F) (h1 : Span n X y) : Span n X fun j => c * y j := by
  obtain ⟨u, hu⟩ := h1
  exact ⟨fun k => c * u k, fun j => by
    show c * y j = _
    rw [hu, ← sm_mul]
    exact sm_congr fun k _ => (mul_assoc _ _ _).symm⟩
theorem Span_congr {n : Nat} {X : Nat → Nat → F} {y z : Nat → F} (h : ∀ j, z j = y j) (h1 : Span n X y) : Span n X z := by
  obtain ⟨u, hu⟩ := h1
  exact ⟨u, fun j => (h j).trans (hu j)⟩
theorem Span_mat {n : Nat} {X Y : Nat → Nat → F} (h : ∀ i, i < n → Span n X (Y i)) : ∃ Q : Nat → Nat → F, ∀ i j, i < n → Y i j = mm n Q X i j :=
  ⟨fun i => if hi : i < n then Classical.choose (h i hi) else fun _ => 0, fun i j hi => by
    have := Classical.choose_spec (h i hi) j
    unfold mm
    simp only [dif_pos hi]
    exact this⟩
/-- rows are made of each other -/
def Eqv (n : Nat) (X Y : Nat → Nat → F) : Prop := (∃ Q : Nat → Nat → F, ∀ i j, i < n → Y i j = mm n Q X i j) ∧ (∃ P : Nat → Nat → F, ∀ i j, i < n → X i j = mm n P Y i j)
theorem Eqv_refl (n : Nat) (X : Nat → Nat → F) : Eqv n X X := ⟨⟨dl, fun i j hi => (dl_mm X hi j).symm⟩, dl, fun i j hi => (dl_mm X hi j).symm⟩
theorem Eqv_trans {n : Nat} {X Y Z : Nat → Nat → F} (h1 : Eqv n X Y) (h2 : Eqv n Y Z) : Eqv n X Z := by
  obtain ⟨⟨Q, hQ⟩, P, hP⟩ := h1
  obtain ⟨⟨Q', hQ'⟩, P', hP'⟩ := h2
  refine ⟨⟨mm n Q' Q, fun i j hi => ?_⟩, mm n P P', fun i j hi => ?_⟩
  · rw [hQ' i j hi, mm_assoc]
    exact mm_congr (fun _ _ => rfl) fun k hk => hQ k j hk
  · rw [hP i j hi, mm_assoc]
    exact mm_congr (fun _ _ => rfl) fun k hk => hP' k j hk
/-- one step of an elimination: rows at and r change places, the row r is multiplied, its multiples are added to the others -/
def sw (a b i : Nat) : Nat := if i = a then b else if i = b then a else i
theorem sw_sw (a b i : Nat) : sw a b (sw a b i) = i := by
  unfold sw
  by_cases h1 : i = a
  · by_cases h2 : b = a
    · simp [h1, h2]
    · simp [h1, h2]
  · by_cases h2 : i = b
    · simp [h2]
    · simp [h1, h2]
theorem sw_lt {a b i n : Nat} (ha : a < n) (hb : b < n) (hi : i < n) : sw a b i < n := by
  unfold sw
  split
  · exact hb
  · split
    · exact ha
    · exact hi
def stp (X : Nat → Nat → F) (r at_ : Nat) (c : F) (d : Nat → F) (i j : Nat) : F := if i = r then c * X at_ j else X (sw r at_ i) j + d i * (c * X at_ j)
theorem Eqv_stp {n r at_ : Nat} {c : F} (hc : c ≠ 0) (hr : r < n) (ha : at_ < n) (d : Nat → F) (X : Nat → Nat → F) : Eqv n X (stp X r at_ c d) := by
  constructor
  · refine Span_mat fun i hi => ?_
    by_cases h : i = r
    · exact Span_congr (fun j => by simp only [stp, if_pos h]) (Span_smul c (Span_row X ha))
    · exact Span_congr (fun j => by simp only [stp, if_neg h]) (Span_add (Span_row X (sw_lt hr ha hi)) (Span_smul (d i) (Span_smul c (Span_row X ha))))
  · refine Span_mat fun i hi => ?_
    have h0 : ∀ j, X at_ j = inv c * stp X r at_ c d r j := fun j => by
      simp only [stp, if_pos]
      rw [← mul_assoc, inv_mul hc, one_mul]
    by_cases h : i = at_
    · subst h
      exact Span_congr h0 (Span_smul (inv c) (Span_row _ hr))
    · have hs : sw r at_ i ≠ r := by
        intro z
        have := congrArg (sw r at_) z
        rw [sw_sw] at this
        apply h
        rw [this]
        simp [sw]
      refine Span_congr (fun j => ?_) (Span_add (Span_row (stp X r at_ c d) (sw_lt hr ha hi)) (Span_smul (d (sw r at_ i)) (Span_row (stp X r at_ c d) hr)))
      simp only [stp, if_neg hs, if_pos, sw_sw]
      rw [add_assoc, add_self, add_zero]
/-- columns below j are cleared: r of them have a row of their own -/
structure Inv (n j r : Nat) (piv : Nat → Nat) (X : Nat → Nat → F) : Prop where
  le : r ≤ n
  lt : ∀ a, a < r → piv a < j
  up : ∀ a b, a < b → b < r → piv a < piv b
  nz : ∀ a, a < r → X a (piv a) ≠ 0
  off : ∀ a, a < r → ∀ i, i < n → i ≠ a → X i (piv a) = 0
  low : ∀ i, r ≤ i → i < n → ∀ k, k < j → X i k = 0
theorem Inv_start (n : Nat) (piv : Nat → Nat) (X : Nat → Nat → F) : Inv n 0 0 piv X :=
  ⟨Nat.zero_le _, fun _ h => absurd h (Nat.not_lt_zero _), fun _ _ _ h => absurd h (Nat.not_lt_zero _), fun _ h => absurd h (Nat.not_lt_zero _), fun _ h => absurd h (Nat.not_lt_zero _), fun _ _ _ _ h => absurd h (Nat.not_lt_zero _)⟩
theorem Inv_skip {n j r : Nat} {piv : Nat → Nat} {X : Nat → Nat → F} (h : Inv n j r piv X) (hz : ∀ i, r ≤ i → i < n → X i j = 0) : Inv n (j + 1) r piv X :=
  ⟨h.le, fun a ha => Nat.lt_succ_of_lt (h.lt a ha), h.up, h.nz, h.off, fun i h1 h2 k hk => by
    by_cases e : k = j
    · rw [e]; exact hz i h1 h2
    · exact h.low i h1 h2 k (by omega)⟩
theorem Inv_step {n j r at_ : Nat} {piv : Nat → Nat} {X : Nat → Nat → F} {c : F} {d : Nat → F} (h : Inv n j r piv X) (hr : r ≤ at_) (ha : at_ < n) (hx : X at_ j ≠ 0) (hc : c ≠ 0)
    (hd : ∀ i, i < n → i ≠ r → stp X r at_ c d i j = 0) : Inv n (j + 1) (r + 1) (fun a => if a = r then j else piv a) (stp X r at_ c d) := by
  have hat : ∀ a, a < r → X at_ (piv a) = 0 := fun a h1 => h.off a h1 at_ ha (by omega)
  have hlow : ∀ k, k < j → X at_ k = 0 := h.low at_ hr ha
  refine ⟨by omega, fun a h1 => ?_, fun a b h1 h2 => ?_, fun a h1 => ?_, fun a h1 i h2 h3 => ?_, fun i h1 h2 k h3 => ?_⟩
  · by_cases e : a = r
    · simp only [if_pos e]; omega
    · simp only [if_neg e]
      have := h.lt a (by omega)
      omega
  · have e : a ≠ r := by omega
    simp only [if_neg e]
    by_cases e2 : b = r
    · simp only [if_pos e2]; exact h.lt a (by omega)
    · simp only [if_neg e2]; exact h.up a b h1 (by omega)
  · by_cases e : a = r
    · subst e
      simp only [if_pos, stp]
      intro z
      rcases mul_eq_zero z with z | z
      · exact hc z
      · exact hx z
    · simp only [if_neg e, stp]
      have e3 : sw r at_ a = a := by unfold sw; rw [if_neg e, if_neg (by omega)]
      rw [hat a (by omega), mul_zero, mul_zero, add_zero, e3]
      exact h.nz a (by omega)
  · by_cases e : a = r
    · subst e
      simp only [if_pos]
      exact hd i h2 h3
    · simp only [if_neg e, stp]
      have h4 := hat a (by omega)
      by_cases e2 : i = r
      · rw [if_pos e2, h4, mul_zero]
      · rw [if_neg e2, h4, mul_zero, mul_zero, add_zero]
        refine h.off a (by omega) _ (sw_lt (by omega) ha h2) fun z => h3 ?_
        have := congrArg (sw r at_) z
        rw [sw_sw] at this
        rw [this]
        unfold sw
        rw [if_neg e, if_neg (by omega)]
  · by_cases e : k = j
    · rw [e]; exact hd i h2 (by omega)
    · simp only [stp, if_neg (show i ≠ r by omega)]
      rw [hlow k (by omega), mul_zero, mul_zero, add_zero]
      refine h.low _ ?_ (sw_lt (by omega) ha h2) k (by omega)
      unfold sw
      rw [if_neg (show i ≠ r by omega)]
      split <;> omega
theorem Inv_rank {n c r : Nat} {piv : Nat → Nat} {X0 X : Nat → Nat → F} (h : Inv n c r piv X) (he : Eqv n X0 X) : Rk n c r X0 := by
  obtain ⟨⟨Q, hQ⟩, P, hP⟩ := he
  refine ⟨⟨P, X, fun i j hi hj => ?_⟩, Q, fun j b => if j = piv b then inv (X b (piv b)) else 0, fun a b ha hb => ?_⟩
  · rw [hP i j hi]
    exact sn_le h.le fun k h1 h2 => by rw [h.low k h1 h2 j hj, mul_zero]
  · have ha' : a < n := Nat.lt_of_lt_of_le ha h.le
    rw [← mm_assoc]
    have e1 : mm c (mm n Q X0) (fun j b => if j = piv b then inv (X b (piv b)) else 0) a b = mm c X (fun j b => if j = piv b then inv (X b (piv b)) else 0) a b := mm_congr (fun k _ => (hQ a k ha').symm) fun _ _ => rfl
    rw [e1]
    unfold mm
    rw [sn_one (h.lt b hb) (fun k _ hk => by simp only [if_neg hk, mul_zero])]
    simp only [if_pos]
    by_cases e : a = b
    · rw [e, mul_inv (h.nz b hb), dl_same]
    · rw [h.off b hb a ha' e, zero_mul, dl_ne e]
theorem piv_id {n : Nat} {piv : Nat → Nat} (lt : ∀ a, a < n → piv a < n) (up : ∀ a b, a < b → b < n → piv a < piv b) : ∀ a, a < n → piv a = a := by
  have h1 : ∀ a, a < n → a ≤ piv a := by
    intro a
    induction a with
    | zero => intro _; omega
    | succ a ih => intro h; have := up a (a + 1) (by omega) h; have := ih (by omega); omega
  have h2 : ∀ d a, a + d + 1 = n → piv a ≤ a := by
    intro d
    induction d with
    | zero => intro a h; have := lt a (by omega); omega
    | succ d ih => intro a h; have := up a (a + 1) (by omega) (by omega); have := ih (a + 1) (by omega); omega
  intro a ha
  have := h1 a ha
  have := h2 (n - a - 1) a (by omega)
  omega
/-- what stands beside comes to the inverse -/
theorem Inv_inverse {n : Nat} {piv : Nat → Nat} {X0 X : Nat → Nat → F} (h : Inv n n n piv X) (he : Eqv n X0 X) (hI : ∀ i j, i < n → j < n → X0 i (n + j) = dl i j) :
    (∀ i j, i < n → j < n → mm n (fun i j => inv (X i i) * X i (n + j)) X0 i j = dl i j) ∧ (∀ i j, i < n → j < n → mm n X0 (fun i j => inv (X i i) * X i (n + j)) i j = dl i j) := by
  obtain ⟨⟨Q, hQ⟩, P, hP⟩ := he
  have hp := piv_id h.lt h.up
  have nz : ∀ a, a < n → X a a ≠ 0 := fun a ha => by have := h.nz a ha; rwa [hp a ha] at this
  have off : ∀ i a, i < n → a < n → i ≠ a → X i a = 0 := fun i a hi ha hne => by have := h.off a ha i hi hne; rwa [hp a ha] at this
  have hB : ∀ i j, i < n → j < n → X i (n + j) = Q i j := fun i j hi hj => by
    rw [hQ i (n + j) hi, ← mm_dl Q i hj]
    exact sn_congr fun k hk => by rw [hI k j hk hj]
  have hM : ∀ i j, i < n → j < n → X0 i j = P i j * X j j := fun i j hi hj => by
    rw [hP i j hi]
    exact sn_one hj fun k hk hne => by rw [off k j hk hj hne, mul_zero]
  constructor
  · intro i j hi hj
    have e1 : mm n (fun i j => inv (X i i) * X i (n + j)) X0 i j = inv (X i i) * mm n Q X0 i j := by
      unfold mm
      rw [← sm_mul]
      exact sn_congr fun k hk => by
        show inv (X i i) * X i (n + k) * X0 k j = _
        rw [hB i k hi hk, mul_assoc]
    rw [e1, ← hQ i j hi]
    by_cases e : i = j
    · rw [e, inv_mul (nz j hj), dl_same]
    · rw [off i j hi hj e, mul_zero, dl_ne e]
  · intro i j hi hj
    rw [← hI i j hi hj, hP i (n + j) hi]
    refine sn_congr fun k hk => ?_
    show X0 i k * (inv (X k k) * X k (n + j)) = _
    rw [hM i k hi hk, mul_assoc, ← mul_assoc (X k k), mul_inv (nz k hk), one_mul]
theorem Rk_inv {n : Nat} {A V : Nat → Nat → F} (h : ∀ i j, i < n → j < n → mm n V A i j = dl i j) : Rk n n n A :=
  ⟨⟨A, dl, fun i _ _ hj => (mm_dl A i hj).symm⟩, V, dl, fun i j hi hj => by
    rw [← h i j hi hj]
    exact mm_congr (fun _ _ => rfl) fun k _ => mm_dl A k hj⟩
theorem inv_unique {n : Nat} {A V W : Nat → Nat → F} (h1 : ∀ i j, i < n → j < n → mm n W A i j = dl i j) (h2 : ∀ i j, i < n → j < n → mm n A V i j = dl i j) : ∀ i j, i < n → j < n → W i j = V i j := fun i j hi hj => by
  have e : mm n (mm n W A) V i j = mm n W (mm n A V) i j := mm_assoc n n W A V i j
  have e1 : mm n (mm n W A) V i j = V i j := (mm_congr (fun k hk => h1 i k hi hk) fun _ _ => rfl).trans (dl_mm V hi j)
  have e2 : mm n W (mm n A V) i j = W i j := (mm_congr (fun _ _ => rfl) fun k hk => h2 k j hk hj).trans (mm_dl W i hj)
  rw [← e1, ← e2, e]
theorem Rk_full {n r : Nat} {A : Nat → Nat → F} (h : Rk n n r A) (hk : ∀ c : Nat → F, (∀ i, i < n → sn n (fun j => A i j * c j) = 0) → ∀ j, j < n → c j = 0) : r = n := by
  apply Classical.byContradiction
  intro hne
  have hle := Rk_rows h
  obtain ⟨P, C, h1⟩ := h.1
  obtain ⟨u, ⟨q, hq, hqu⟩, _, h3⟩ := kernel (List.range r) (List.range n) (tp C) (nd_rg n) (by simp; omega)
  refine hqu (hk u (fun i hi => ?_) q (mem_rg.1 hq))
  have e1 : sn n (fun j => A i j * u j) = sn n fun j => sn r fun k => P i k * (u j * C k j) := sn_congr fun j hj => by
    rw [h1 i j hi hj]
    unfold mm
    rw [← sm_mulr]
    exact sm_congr fun k _ => by ac_rfl
  rw [e1]
  unfold sn
  rw [sm_comm]
  refine sm_zero fun k hk => ?_
  rw [sm_mul]
  have := h3 k hk
  unfold tp at this
  rw [this, mul_zero]
/-- the numbers of the parity rows: distinct x and y leave no solution but zero -/
theorem cauchy (x y : Nat → F) : ∀ (L R : List Nat) (c : Nat → F), L.Nodup → R.Nodup → L.length ≤ R.length → (∀ i ∈ R, ∀ k ∈ R, i ≠ k → x i ≠ x k) → (∀ j ∈ L, ∀ k ∈ L, j ≠ k → y j ≠ y k) → (∀ i ∈ R, ∀ j ∈ L, x i + y j ≠ 0) →
    (∀ i ∈ R, sm L (fun j => c j * inv (x i + y j)) = 0) → ∀ j ∈ L, c j = 0
  | [], _, _, _, _, _, _, _, _, _ => fun j hj => by cases hj
  | b :: L, [], _, _, _, hlen, _, _, _, _ => by simp at hlen
  | b :: L, p :: R, c, hL, hR, hlen, hx, hy, hxy, h => by
    have hbL : b ∉ L := (List.nodup_cons.1 hL).1
    have hpR : p ∉ R := (List.nodup_cons.1 hR).1
    have ih := cauchy x y L R (fun j => c j * ((y j + y b) * inv (x p + y j))) (List.nodup_cons.1 hL).2 (List.nodup_cons.1 hR).2 (by simp at hlen; exact hlen)
      (fun i hi k hk => hx i (by simp [hi]) k (by simp [hk])) (fun i hi k hk => hy i (by simp [hi]) k (by simp [hk])) (fun i hi k hk => hxy i (by simp [hi]) k (by simp [hk])) (fun i hi => by
        have h1 := h i (by simp [hi])
        have h2 := h p (by simp)
        have hxi := hxy i (by simp [hi]) b (by simp)
        have hxp := hxy p (by simp) b (by simp)
        rw [sm_cons] at h1 h2
        have hd : x i + x p ≠ 0 := fun z => hx i (by simp [hi]) p (by simp) (fun z => hpR (by rw [← z]; exact hi)) (add_eq_zero z)
        have e1 : (x i + y b) * (c b * inv (x i + y b) + sm L (fun j => c j * inv (x i + y j))) + (x p + y b) * (c b * inv (x p + y b) + sm L (fun j => c j * inv (x p + y j))) = 0 := by rw [h1, h2, mul_zero, mul_zero, add_zero]
        have e2 : ∀ q : Nat, x q + y b ≠ 0 → (x q + y b) * (c b * inv (x q + y b)) = c b := fun q hq => by
          rw [← mul_assoc, mul_comm (x q + y b), mul_assoc, mul_inv hq, mul_one]
        rw [mul_add, mul_add, e2 i hxi, e2 p hxp, ← sm_mul, ← sm_mul] at e1
        have e3 : sm L (fun j => (x i + y b) * (c j * inv (x i + y j))) + sm L (fun j => (x p + y b) * (c j * inv (x p + y j))) = 0 := by
          rw [← e1]
          have : ∀ s t u : F, s + t = u + s + (u + t) := fun s t u => by
            have : u + s + (u + t) = (u + u) + (s + t) := by ac_rfl
            rw [this, add_self, zero_add]
          exact this _ _ _
        rw [← sm_add] at e3
        have e4 : sm L (fun j => (x i + y b) * (c j * inv (x i + y j)) + (x p + y b) * (c j * inv (x p + y j))) = (x i + x p) * sm L (fun j => c j * ((y j + y b) * inv (x p + y j)) * inv (x i + y j)) := by
          rw [← sm_mul]
          refine sm_congr fun j hj => ?_
          have hi' := hxy i (by simp [hi]) j (by simp [hj])
          have hp' := hxy p (by simp) j (by simp [hj])
          have f1 : (x i + y b) * (c j * inv (x i + y j)) = (x i + y b) * (x p + y j) * (c j * inv (x i + y j) * inv (x p + y j)) := by
            have : (x i + y b) * (x p + y j) * (c j * inv (x i + y j) * inv (x p + y j)) = (x i + y b) * (c j * inv (x i + y j)) * ((x p + y j) * inv (x p + y j)) := by ac_rfl
            rw [this, mul_inv hp', mul_one]
          have f2 : (x p + y b) * (c j * inv (x p + y j)) = (x p + y b) * (x i + y j) * (c j * inv (x i + y j) * inv (x p + y j)) := by
            have : (x p + y b) * (x i + y j) * (c j * inv (x i + y j) * inv (x p + y j)) = (x p + y b) * (c j * inv (x p + y j)) * ((x i + y j) * inv (x i + y j)) := by ac_rfl
            rw [this, mul_inv hi', mul_one]
          rw [f1, f2, ← add_mul]
          have f3 : (x i + y b) * (x p + y j) + (x p + y b) * (x i + y j) = (x i + x p) * (y j + y b) := by
            simp only [add_mul, mul_add]
            have : x i * x p + y b * x p + (x i * y j + y b * y j) + (x p * x i + y b * x i + (x p * y j + y b * y j)) = (x i * x p + x i * x p) + (y b * y j + y b * y j) + (x i * y j + x p * y j + (x i * y b + x p * y b)) := by
              rw [mul_comm (x p) (x i), mul_comm (y b) (x p), mul_comm (y b) (x i)]; ac_rfl
            rw [this, add_self, add_self, add_zero, zero_add]
          rw [f3]
          ac_rfl
        rw [e4] at e3
        rcases mul_eq_zero e3 with z | z
        · exact absurd z hd
        · exact z)
    have hc : ∀ j ∈ L, c j = 0 := fun j hj => by
      have h1 : c j * ((y j + y b) * inv (x p + y j)) = 0 := ih j hj
      have hjb : j ≠ b := fun z => hbL (by rw [← z]; exact hj)
      have hy1 : y j + y b ≠ 0 := fun z => hy j (by simp [hj]) b (by simp) hjb (add_eq_zero z)
      have hx1 := inv_ne (hxy p (by simp) j (by simp [hj]))
      rcases mul_eq_zero h1 with z | z
      · exact z
      · rcases mul_eq_zero z with z | z
        · exact absurd z hy1
        · exact absurd z hx1
    intro j hj
    rcases List.mem_cons.1 hj with rfl | hj
    · have h1 := h p (by simp)
      rw [sm_cons, sm_zero (fun k hk => by rw [hc k hk, zero_mul]), add_zero] at h1
      rcases mul_eq_zero h1 with z | z
      · exact z
      · exact absurd z (inv_ne (hxy p (by simp) j (by simp)))
    · exact hc j hj
end Go.TwoLin
