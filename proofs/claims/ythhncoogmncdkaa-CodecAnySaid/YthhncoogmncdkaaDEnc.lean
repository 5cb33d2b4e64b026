/- What codec.Encode and the counting of cells tell, for every input. No condition. -/
import Derived.Test.YthhncoogmncdkaaDSame
import Derived.Test.YthhncoogmncdkaaPAx20
import Derived.Test.YthhncoogmncdkaaPAx3
import Derived.Test.YthhncoogmncdkaaMxMat
import Derived.Test.YthhncoogmncdkaaPAx0
namespace Go.TwoLin
open Go.TwoGf
set_option linter.unusedVariables false
def F : Type := Fin 256
def F.mk (n : Nat) (h : n < 256) : F := (⟨n, h⟩ : Fin 256)
def F.v (a : F) : Nat := Fin.val a
theorem F.lt (a : F) : a.v < 256 := Fin.isLt a
theorem F.ext {a b : F} (h : a.v = b.v) : a = b := Fin.ext h
instance : Add F := ⟨fun a b => F.mk (a.v ^^^ b.v) (xor_lt a.lt b.lt)⟩
instance : Mul F := ⟨fun a b => F.mk (gm a.v b.v) (gm_lt _ _)⟩
instance : OfNat F 0 := ⟨F.mk 0 (by decide)⟩
instance : OfNat F 1 := ⟨F.mk 1 (by decide)⟩
instance : DecidableEq F := inferInstanceAs (DecidableEq (Fin 256))
def inv (a : F) : F := F.mk (gi a.v) (gi_lt a.v)
theorem v_add (a b : F) : (a + b).v = a.v ^^^ b.v := rfl
theorem v_mul (a b : F) : (a * b).v = gm a.v b.v := rfl
theorem v_zero : (0 : F).v = 0 := rfl
theorem v_one : (1 : F).v = 1 := rfl
theorem v_inv (a : F) : (inv a).v = gi a.v := rfl
theorem v_ne {a : F} (h : a ≠ 0) : a.v ≠ 0 := fun z => h (F.ext z)
theorem add_comm (a b : F) : a + b = b + a := F.ext (Nat.xor_comm _ _)
theorem add_assoc (a b c : F) : a + b + c = a + (b + c) := F.ext (Nat.xor_assoc _ _ _)
theorem add_zero (a : F) : a + 0 = a := F.ext (Nat.xor_zero _)
theorem zero_add (a : F) : 0 + a = a := F.ext (Nat.zero_xor _)
theorem add_self (a : F) : a + a = 0 := F.ext (Nat.xor_self _)
theorem mul_comm (a b : F) : a * b = b * a := F.ext (gm_comm _ _)
theorem mul_assoc (a b c : F) : a * b * c = a * (b * c) := F.ext (gm_assoc _ _ _)
theorem mul_zero (a : F) : a * 0 = 0 := F.ext (gm_zero a.v)
theorem zero_mul (a : F) : 0 * a = 0 := F.ext (zero_gm a.v)
theorem mul_one (a : F) : a * 1 = a := F.ext (gm_one a.lt)
theorem one_mul (a : F) : 1 * a = a := F.ext (one_gm a.lt)
theorem mul_add (a b c : F) : a * (b + c) = a * b + a * c := F.ext (gm_xor _ _ _)
theorem add_mul (a b c : F) : (a + b) * c = a * c + b * c := F.ext (xor_gm _ _ _)
theorem mul_inv {a : F} (h : a ≠ 0) : a * inv a = 1 := F.ext (gm_gi a.lt (v_ne h))
theorem inv_mul {a : F} (h : a ≠ 0) : inv a * a = 1 := by rw [mul_comm, mul_inv h]
theorem one_ne : (1 : F) ≠ 0 := fun h => absurd (congrArg F.v h) (by decide)
theorem add_eq_zero {a b : F} (h : a + b = 0) : a = b := by
  have : a + b + b = 0 + b := by rw [h]
  rwa [add_assoc, add_self, add_zero, zero_add] at this
theorem mul_eq_zero {a b : F} (h : a * b = 0) : a = 0 ∨ b = 0 := by
  by_cases ha : a = 0
  · exact .inl ha
  · right
    have : inv a * (a * b) = 0 := by rw [h, mul_zero]
    rwa [← mul_assoc, inv_mul ha, one_mul] at this
theorem inv_ne {a : F} (h : a ≠ 0) : inv a ≠ 0 := fun z => by
  have := mul_inv h
  rw [z, mul_zero] at this
  exact one_ne this.symm
instance : Std.Associative (α := F) (· + ·) := ⟨add_assoc⟩
instance : Std.Commutative (α := F) (· + ·) := ⟨add_comm⟩
instance : Std.Associative (α := F) (· * ·) := ⟨mul_assoc⟩
instance : Std.Commutative (α := F) (· * ·) := ⟨mul_comm⟩
/-- the sum over a list of indexes -/
def sm (l : List Nat) (f : Nat → F) : F := l.foldr (fun i s => f i + s) 0
theorem sm_nil (f : Nat → F) : sm [] f = 0 := rfl
theorem sm_cons (i : Nat) (l : List Nat) (f : Nat → F) : sm (i :: l) f = f i + sm l f := rfl
theorem sm_congr {l : List Nat} {f g : Nat → F} (h : ∀ i ∈ l, f i = g i) : sm l f = sm l g := by
  induction l with
  | nil => rfl
  | cons i l ih => rw [sm_cons, sm_cons, h i (by simp), ih (fun j hj => h j (by simp [hj]))]
theorem sm_zero {l : List Nat} {f : Nat → F} (h : ∀ i ∈ l, f i = 0) : sm l f = 0 := by
  induction l with
  | nil => rfl
  | cons i l ih => rw [sm_cons, h i (by simp), ih (fun j hj => h j (by simp [hj])), add_zero]
theorem sm_add (l : List Nat) (f g : Nat → F) : sm l (fun i => f i + g i) = sm l f + sm l g := by
  induction l with
  | nil => exact (add_zero 0).symm
  | cons i l ih => rw [sm_cons, sm_cons, sm_cons, ih]; ac_rfl
theorem sm_mul (l : List Nat) (c : F) (f : Nat → F) : sm l (fun i => c * f i) = c * sm l f := by
  induction l with
  | nil => exact (mul_zero c).symm
  | cons i l ih => rw [sm_cons, sm_cons, ih, mul_add]
theorem sm_mulr (l : List Nat) (c : F) (f : Nat → F) : sm l (fun i => f i * c) = sm l f * c := by
  rw [mul_comm, ← sm_mul]; exact sm_congr fun i _ => mul_comm _ _
theorem sm_comm (l m : List Nat) (f : Nat → Nat → F) : sm l (fun i => sm m (fun j => f i j)) = sm m (fun j => sm l (fun i => f i j)) := by
  induction l with
  | nil => exact (sm_zero (fun _ _ => rfl)).symm
  | cons i l ih => simp only [sm_cons]; rw [ih, ← sm_add]
theorem sm_perm {l m : List Nat} (h : l.Perm m) (f : Nat → F) : sm l f = sm m f := by
  induction h with
  | nil => rfl
  | cons x _ ih => rw [sm_cons, sm_cons, ih]
  | swap x y l => simp only [sm_cons]; ac_rfl
  | trans _ _ h1 h2 => rw [h1, h2]
theorem sm_one {l : List Nat} (hl : l.Nodup) {i : Nat} (hi : i ∈ l) {f : Nat → F} (h : ∀ j ∈ l, j ≠ i → f j = 0) : sm l f = f i := by
  rw [sm_perm (List.perm_cons_erase hi), sm_cons, sm_zero, add_zero]
  intro j hj
  have := (List.Nodup.mem_erase_iff hl).1 hj
  exact h j this.2 this.1
theorem mem_rg {n i : Nat} : i ∈ List.range n ↔ i < n := List.mem_range
theorem nd_rg (n : Nat) : (List.range n).Nodup := List.nodup_range
/-- the sum below n -/
abbrev sn (n : Nat) (f : Nat → F) : F := sm (List.range n) f
theorem sn_succ (n : Nat) (f : Nat → F) : sn (n + 1) f = sn n f + f n := by
  unfold sn
  rw [List.range_succ, sm_perm (List.perm_append_comm), List.singleton_append, sm_cons, add_comm]
theorem sn_congr {n : Nat} {f g : Nat → F} (h : ∀ i, i < n → f i = g i) : sn n f = sn n g := sm_congr fun i hi => h i (mem_rg.1 hi)
theorem sn_zero {n : Nat} {f : Nat → F} (h : ∀ i, i < n → f i = 0) : sn n f = 0 := sm_zero fun i hi => h i (mem_rg.1 hi)
theorem sn_one {n i : Nat} (hi : i < n) {f : Nat → F} (h : ∀ j, j < n → j ≠ i → f j = 0) : sn n f = f i := sm_one (nd_rg n) (mem_rg.2 hi) fun j hj => h j (mem_rg.1 hj)
theorem sn_le {m n : Nat} (hm : m ≤ n) {f : Nat → F} (h : ∀ i, m ≤ i → i < n → f i = 0) : sn n f = sn m f := by
  induction n with
  | zero => obtain rfl : m = 0 := by omega
            rfl
  | succ n ih =>
    by_cases e : m = n + 1
    · rw [e]
    · rw [sn_succ, h n (by omega) (by omega), add_zero, ih (by omega) (fun i h1 h2 => h i h1 (by omega))]
/-- the unit matrix -/
def dl (i j : Nat) : F := if i = j then 1 else 0
theorem dl_same (i : Nat) : dl i i = 1 := if_pos rfl
theorem dl_ne {i j : Nat} (h : i ≠ j) : dl i j = 0 := if_neg h
theorem dl_comm (i j : Nat) : dl i j = dl j i := by
  unfold dl
  by_cases h : i = j
  · rw [if_pos h, if_pos h.symm]
  · rw [if_neg h, if_neg (fun z => h z.symm)]
/-- the product over n -/
def mm (n : Nat) (A B : Nat → Nat → F) (i j : Nat) : F := sn n fun k => A i k * B k j
theorem mm_assoc (m n : Nat) (A B C : Nat → Nat → F) (i j : Nat) : mm n (mm m A B) C i j = mm m A (mm n B C) i j := by
  unfold mm
  have h1 : sn n (fun k => sn m (fun l => A i l * B l k) * C k j) = sn n fun k => sn m fun l => A i l * B l k * C k j := sn_congr fun k _ => (sm_mulr _ _ _).symm
  have h2 : sn m (fun l => A i l * sn n (fun k => B l k * C k j)) = sn m fun l => sn n fun k => A i l * (B l k * C k j) := sn_congr fun k _ => (sm_mul _ _ _).symm
  rw [h1, h2]
  unfold sn
  rw [sm_comm]
  exact sm_congr fun l _ => sm_congr fun k _ => mul_assoc _ _ _
theorem mm_congr {n : Nat} {A A' B B' : Nat → Nat → F} {i j : Nat} (h1 : ∀ k, k < n → A i k = A' i k) (h2 : ∀ k, k < n → B k j = B' k j) : mm n A B i j = mm n A' B' i j := sn_congr fun k hk => by rw [h1 k hk, h2 k hk]
theorem mm_dl {n : Nat} (A : Nat → Nat → F) (i : Nat) {j : Nat} (hj : j < n) : mm n A dl i j = A i j := by
  unfold mm
  rw [sn_one hj (fun k _ hk => by rw [dl_ne hk, mul_zero]), dl_same, mul_one]
theorem dl_mm {n : Nat} (A : Nat → Nat → F) {i : Nat} (hi : i < n) (j : Nat) : mm n dl A i j = A i j := by
  unfold mm
  rw [sn_one hi (fun k _ hk => by rw [dl_ne (fun z => hk z.symm), zero_mul]), dl_same, one_mul]
/-- the matrix turned -/
def tp (A : Nat → Nat → F) (i j : Nat) : F := A j i
theorem mm_tp (n : Nat) (A B : Nat → Nat → F) (i j : Nat) : mm n (tp B) (tp A) i j = mm n A B j i := sn_congr fun k _ => mul_comm _ _
/-- more unknowns than equations: a solution that is not zero -/
theorem kernel : ∀ (L R : List Nat) (X : Nat → Nat → F), R.Nodup → L.length < R.length → ∃ u : Nat → F, (∃ i ∈ R, u i ≠ 0) ∧ (∀ i, i ∉ R → u i = 0) ∧ ∀ j ∈ L, sm R (fun i => u i * X i j) = 0
  | [], R, X, hR, hlt => by
    cases R with
    | nil => simp at hlt
    | cons r R => exact ⟨dl r, ⟨r, by simp, by rw [dl_same]; exact one_ne⟩, fun i hi => dl_ne (fun z => hi (by simp [z])), fun j hj => by cases hj⟩
  | c :: L, R, X, hR, hlt => by
    by_cases hz : ∀ i ∈ R, X i c = 0
    · obtain ⟨u, h1, h2, h3⟩ := kernel L R X hR (by simp at hlt; omega)
      refine ⟨u, h1, h2, fun j hj => ?_⟩
      rcases List.mem_cons.1 hj with rfl | hj
      · exact sm_zero fun i hi => by rw [hz i hi, mul_zero]
      · exact h3 j hj
    · have ⟨p, hp⟩ := Classical.not_forall.1 hz
      have ⟨hpR, hpc⟩ := Classical.not_imp.1 hp
      have hlen : (R.erase p).length = R.length - 1 := List.length_erase_of_mem hpR
      obtain ⟨u, ⟨q, hq, hqu⟩, h2, h3⟩ := kernel L (R.erase p) (fun i j => X i j + X i c * inv (X p c) * X p j) (hR.erase p) (by simp at hlt; omega)
      have hup : u p = 0 := h2 p (fun z => (List.Nodup.mem_erase_iff hR).1 z |>.1 rfl)
      have hqR : q ∈ R ∧ q ≠ p := ⟨((List.Nodup.mem_erase_iff hR).1 hq).2, ((List.Nodup.mem_erase_iff hR).1 hq).1⟩
      refine ⟨fun i => if i = p then sm (R.erase p) (fun k => u k * (X k c * inv (X p c))) else u i, ⟨q, hqR.1, by simp only [if_neg hqR.2]; exact hqu⟩, fun i hi => ?_, fun j hj => ?_⟩
      · have h5 : i ≠ p := fun z => hi (by rw [z]; exact hpR)
        simp only [if_neg h5]
        exact h2 i (fun z => hi (List.mem_of_mem_erase z))
      · rw [sm_perm (List.perm_cons_erase hpR), sm_cons]
        simp only [if_pos]
        have e1 : sm (R.erase p) (fun i => (if i = p then sm (R.erase p) (fun k => u k * (X k c * inv (X p c))) else u i) * X i j) = sm (R.erase p) (fun i => u i * X i j) := sm_congr fun i hi => by
          rw [if_neg ((List.Nodup.mem_erase_iff hR).1 hi).1]
        rw [e1]
        rcases List.mem_cons.1 hj with rfl | hj
        · rw [← sm_mulr, ← sm_add]
          refine sm_zero fun i hi => ?_
          rw [mul_assoc, mul_assoc, inv_mul hpc, mul_one, add_self]
        · have := h3 j hj
          rw [← sm_mulr, ← sm_add, ← this]
          refine sm_congr fun i hi => ?_
          rw [mul_add, add_comm]
          congr 1
          ac_rfl
/-- a unit matrix of r rows does not come of a product over less -/
theorem unit_le {r s : Nat} {X Y : Nat → Nat → F} (h : ∀ i j, i < r → j < r → mm s X Y i j = dl i j) : r ≤ s := by
  apply Classical.byContradiction
  intro hlt
  obtain ⟨u, ⟨q, hq, hqu⟩, _, h3⟩ := kernel (List.range s) (List.range r) X (nd_rg r) (by simp; omega)
  have hq := mem_rg.1 hq
  apply hqu
  have e : sn r (fun i => u i * mm s X Y i q) = u q := by
    rw [sn_one hq (fun i hi hne => by rw [h i q hi hq, dl_ne hne, mul_zero]), h q q hq hq, dl_same, mul_one]
  rw [← e]
  have h1 : sn r (fun i => u i * mm s X Y i q) = sn r fun i => sn s fun k => u i * X i k * Y k q := sn_congr fun i _ => by
    unfold mm
    rw [← sm_mul]
    exact sm_congr fun k _ => (mul_assoc _ _ _).symm
  rw [h1]
  unfold sn
  rw [sm_comm]
  refine sm_zero fun k hk => ?_
  rw [sm_mulr, h3 k hk, zero_mul]
/-- the rank: the matrix goes through r, and no less -/
def Rk (m n r : Nat) (A : Nat → Nat → F) : Prop :=
  (∃ P C : Nat → Nat → F, ∀ i j, i < m → j < n → A i j = mm r P C i j) ∧ (∃ L K : Nat → Nat → F, ∀ i j, i < r → j < r → mm m L (mm n A K) i j = dl i j)
theorem Rk_le {m n r s : Nat} {A : Nat → Nat → F} (h : ∃ L K : Nat → Nat → F, ∀ i j, i < r → j < r → mm m L (mm n A K) i j = dl i j) (h2 : ∃ P C : Nat → Nat → F, ∀ i j, i < m → j < n → A i j = mm s P C i j) : r ≤ s := by
  obtain ⟨L, K, h⟩ := h
  obtain ⟨P, C, h2⟩ := h2
  refine unit_le (X := mm m L P) (Y := mm n C K) fun i j hi hj => ?_
  rw [← h i j hi hj, mm_assoc]
  refine mm_congr (fun _ _ => rfl) fun k hk => ?_
  rw [← mm_assoc]
  exact mm_congr (fun l hl => (h2 k l hk hl).symm) fun _ _ => rfl
theorem Rk_unique {m n r s : Nat} {A : Nat → Nat → F} (h1 : Rk m n r A) (h2 : Rk m n s A) : r = s := Nat.le_antisymm (Rk_le h1.2 h2.1) (Rk_le h2.2 h1.1)
theorem Rk_tp {m n r : Nat} {A : Nat → Nat → F} (h : Rk m n r A) : Rk n m r (tp A) := by
  obtain ⟨⟨P, C, h1⟩, L, K, h2⟩ := h
  refine ⟨⟨tp C, tp P, fun i j hi hj => ?_⟩, tp K, tp L, fun i j hi hj => ?_⟩
  · rw [mm_tp]; exact h1 j i hj hi
  · have e1 : mm m L (mm n A K) j i = mm n (mm m L A) K j i := (mm_assoc m n L A K j i).symm
    rw [dl_comm, ← h2 j i hj hi, e1, ← mm_tp n (mm m L A) K i j]
    exact mm_congr (fun _ _ => rfl) fun _ _ => mm_tp m L A _ j
theorem Rk_rows {m n r : Nat} {A : Nat → Nat → F} (h : Rk m n r A) : r ≤ m := by
  obtain ⟨L, K, h⟩ := h.2
  exact unit_le h
theorem Rk_cols {m n r : Nat} {A : Nat → Nat → F} (h : Rk m n r A) : r ≤ n := Rk_rows (Rk_tp h)
theorem Rk_mul {m n p q r : Nat} {A B : Nat → Nat → F} (h : Rk m n r A) (h2 : Rk m p q (mm n A B)) : q ≤ r := by
  obtain ⟨P, C, h1⟩ := h.1
  refine Rk_le h2.2 ⟨P, mm n C B, fun i j hi hj => ?_⟩
  rw [← mm_assoc]
  exact mm_congr (fun k hk => h1 i k hi hk) fun _ _ => rfl
theorem Rk_congr {m n r : Nat} {A B : Nat → Nat → F} (h : ∀ i j, i < m → j < n → A i j = B i j) (h1 : Rk m n r A) : Rk m n r B := by
  obtain ⟨⟨P, C, h1⟩, L, K, h2⟩ := h1
  refine ⟨⟨P, C, fun i j hi hj => (h i j hi hj).symm.trans (h1 i j hi hj)⟩, L, K, fun i j hi hj => ?_⟩
  rw [← h2 i j hi hj]
  exact mm_congr (fun _ _ => rfl) fun k hk => mm_congr (fun l hl => (h k l hk hl).symm) fun _ _ => rfl
/-- a row is made of n rows -/
def Span (n : Nat) (X : Nat → Nat → F) (y : Nat → F) : Prop := ∃ u : Nat → F, ∀ j, y j = sn n fun k => u k * X k j
theorem Span_row {n i : Nat} (X : Nat → Nat → F) (hi : i < n) : Span n X (X i) := ⟨dl i, fun j => (dl_mm X hi j).symm⟩
theorem Span_add {n : Nat} {X : Nat → Nat → F} {y z : Nat → F} (h1 : Span n X y) (h2 : Span n X z) : Span n X fun j => y j + z j := by
  obtain ⟨u, hu⟩ := h1
  obtain ⟨v, hv⟩ := h2
  exact ⟨fun k => u k + v k, fun j => by
    show y j + z j = _
    rw [hu, hv, ← sm_add]
    exact sm_congr fun _ _ => (add_mul _ _ _).symm⟩
theorem Span_smul {n : Nat} {X : Nat → Nat → F} {y : Nat → F} (c : F) (h1 : Span n X y) : Span n X fun j => c * y j := by
  obtain ⟨u, hu⟩ := h1
  exact ⟨fun k => c * u k, fun j => by
    show c * y j = _
    rw [hu, ← sm_mul]
    exact sm_congr fun k _ => (mul_assoc _ _ _).symm⟩
theorem Span_congr {n : Nat} {X : Nat → Nat → F} {y z : Nat → F} (h : ∀ j, z j = y j) (h1 : Span n X y) : Span n X z := by
  obtain ⟨u, hu⟩ := h1
  exact ⟨u, fun j => (h j).trans (hu j)⟩
theorem Span_mat {n : Nat} {X Y : Nat → Nat → F} (h : ∀ i, i < n → Span n X (Y i)) : ∃ Q : Nat → Nat → F, ∀ i j, i < n → Y i j = mm n Q X i j :=
  ⟨fun i => if hi : i < n then Classical.choose (h i hi) else fun _ => 0, fun i j hi => by
    have := Classical.choose_spec (h i hi) j
    unfold mm
    simp only [dif_pos hi]
    exact this⟩
/-- rows are made of each other -/
def Eqv (n : Nat) (X Y : Nat → Nat → F) : Prop := (∃ Q : Nat → Nat → F, ∀ i j, i < n → Y i j = mm n Q X i j) ∧ (∃ P : Nat → Nat → F, ∀ i j, i < n → X i j = mm n P Y i j)
theorem Eqv_refl (n : Nat) (X : Nat → Nat → F) : Eqv n X X := ⟨⟨dl, fun i j hi => (dl_mm X hi j).symm⟩, dl, fun i j hi => (dl_mm X hi j).symm⟩
theorem Eqv_trans {n : Nat} {X Y Z : Nat → Nat → F} (h1 : Eqv n X Y) (h2 : Eqv n Y Z) : Eqv n X Z := by
  obtain ⟨⟨Q, hQ⟩, P, hP⟩ := h1
  obtain ⟨⟨Q', hQ'⟩, P', hP'⟩ := h2
  refine ⟨⟨mm n Q' Q, fun i j hi => ?_⟩, mm n P P', fun i j hi => ?_⟩
  · rw [hQ' i j hi, mm_assoc]
    exact mm_congr (fun _ _ => rfl) fun k hk => hQ k j hk
  · rw [hP i j hi, mm_assoc]
    exact mm_congr (fun _ _ => rfl) fun k hk => hP' k j hk
/-- one step of an elimination: rows at and r change places, the row r is multiplied, its multiples are added to the others -/
def sw (a b i : Nat) : Nat := if i = a then b else if i = b then a else i
theorem sw_sw (a b i : Nat) : sw a b (sw a b i) = i := by
  unfold sw
  by_cases h1 : i = a
  · by_cases h2 : b = a
    · simp [h1, h2]
    · simp [h1, h2]
  · by_cases h2 : i = b
    · simp [h2]
    · simp [h1, h2]
theorem sw_lt {a b i n : Nat} (ha : a < n) (hb : b < n) (hi : i < n) : sw a b i < n := by
  unfold sw
  split
  · exact hb
  · split
    · exact ha
    · exact hi
def stp (X : Nat → Nat → F) (r at_ : Nat) (c : F) (d : Nat → F) (i j : Nat) : F := if i = r then c * X at_ j else X (sw r at_ i) j + d i * (c * X at_ j)
theorem Eqv_stp {n r at_ : Nat} {c : F} (hc : c ≠ 0) (hr : r < n) (ha : at_ < n) (d : Nat → F) (X : Nat → Nat → F) : Eqv n X (stp X r at_ c d) := by
  constructor
  · refine Span_mat fun i hi => ?_
    by_cases h : i = r
    · exact Span_congr (fun j => by simp only [stp, if_pos h]) (Span_smul c (Span_row X ha))
    · exact Span_congr (fun j => by simp only [stp, if_neg h]) (Span_add (Span_row X (sw_lt hr ha hi)) (Span_smul (d i) (Span_smul c (Span_row X ha))))
  · refine Span_mat fun i hi => ?_
    have h0 : ∀ j, X at_ j = inv c * stp X r at_ c d r j := fun j => by
      simp only [stp, if_pos]
      rw [← mul_assoc, inv_mul hc, one_mul]
    by_cases h : i = at_
    · subst h
      exact Span_congr h0 (Span_smul (inv c) (Span_row _ hr))
    · have hs : sw r at_ i ≠ r := by
        intro z
        have := congrArg (sw r at_) z
        rw [sw_sw] at this
        apply h
        rw [this]
        simp [sw]
      refine Span_congr (fun j => ?_) (Span_add (Span_row (stp X r at_ c d) (sw_lt hr ha hi)) (Span_smul (d (sw r at_ i)) (Span_row (stp X r at_ c d) hr)))
      simp only [stp, if_neg hs, if_pos, sw_sw]
      rw [add_assoc, add_self, add_zero]
/-- columns below j are cleared: r of them have a row of their own -/
structure Inv (n j r : Nat) (piv : Nat → Nat) (X : Nat → Nat → F) : Prop where
  le : r ≤ n
  lt : ∀ a, a < r → piv a < j
  up : ∀ a b, a < b → b < r → piv a < piv b
  nz : ∀ a, a < r → X a (piv a) ≠ 0
  off : ∀ a, a < r → ∀ i, i < n → i ≠ a → X i (piv a) = 0
  low : ∀ i, r ≤ i → i < n → ∀ k, k < j → X i k = 0
theorem Inv_start (n : Nat) (piv : Nat → Nat) (X : Nat → Nat → F) : Inv n 0 0 piv X :=
  ⟨Nat.zero_le _, fun _ h => absurd h (Nat.not_lt_zero _), fun _ _ _ h => absurd h (Nat.not_lt_zero _), fun _ h => absurd h (Nat.not_lt_zero _), fun _ h => absurd h (Nat.not_lt_zero _), fun _ _ _ _ h => absurd h (Nat.not_lt_zero _)⟩
theorem Inv_skip {n j r : Nat} {piv : Nat → Nat} {X : Nat → Nat → F} (h : Inv n j r piv X) (hz : ∀ i, r ≤ i → i < n → X i j = 0) : Inv n (j + 1) r piv X :=
  ⟨h.le, fun a ha => Nat.lt_succ_of_lt (h.lt a ha), h.up, h.nz, h.off, fun i h1 h2 k hk => by
    by_cases e : k = j
    · rw [e]; exact hz i h1 h2
    · exact h.low i h1 h2 k (by omega)⟩
theorem Inv_step {n j r at_ : Nat} {piv : Nat → Nat} {X : Nat → Nat → F} {c : F} {d : Nat → F} (h : Inv n j r piv X) (hr : r ≤ at_) (ha : at_ < n) (hx : X at_ j ≠ 0) (hc : c ≠ 0)
    (hd : ∀ i, i < n → i ≠ r → stp X r at_ c d i j = 0) : Inv n (j + 1) (r + 1) (fun a => if a = r then j else piv a) (stp X r at_ c d) := by
  have hat : ∀ a, a < r → X at_ (piv a) = 0 := fun a h1 => h.off a h1 at_ ha (by omega)
  have hlow : ∀ k, k < j → X at_ k = 0 := h.low at_ hr ha
  refine ⟨by omega, fun a h1 => ?_, fun a b h1 h2 => ?_, fun a h1 => ?_, fun a h1 i h2 h3 => ?_, fun i h1 h2 k h3 => ?_⟩
  · by_cases e : a = r
    · simp only [if_pos e]; omega
    · simp only [if_neg e]
      have := h.lt a (by omega)
      omega
  · have e : a ≠ r := by omega
    simp only [if_neg e]
    by_cases e2 : b = r
    · simp only [if_pos e2]; exact h.lt a (by omega)
    · simp only [if_neg e2]; exact h.up a b h1 (by omega)
  · by_cases e : a = r
    · subst e
      simp only [if_pos, stp]
      intro z
      rcases mul_eq_zero z with z | z
      · exact hc z
      · exact hx z
    · simp only [if_neg e, stp]
      have e3 : sw r at_ a = a := by unfold sw; rw [if_neg e, if_neg (by omega)]
      rw [hat a (by omega), mul_zero, mul_zero, add_zero, e3]
      exact h.nz a (by omega)
  · by_cases e : a = r
    · subst e
      simp only [if_pos]
      exact hd i h2 h3
    · simp only [if_neg e, stp]
      have h4 := hat a (by omega)
      by_cases e2 : i = r
      · rw [if_pos e2, h4, mul_zero]
      · rw [if_neg e2, h4, mul_zero, mul_zero, add_zero]
        refine h.off a (by omega) _ (sw_lt (by omega) ha h2) fun z => h3 ?_
        have := congrArg (sw r at_) z
        rw [sw_sw] at this
        rw [this]
        unfold sw
        rw [if_neg e, if_neg (by omega)]
  · by_cases e : k = j
    · rw [e]; exact hd i h2 (by omega)
    · simp only [stp, if_neg (show i ≠ r by omega)]
      rw [hlow k (by omega), mul_zero, mul_zero, add_zero]
      refine h.low _ ?_ (sw_lt (by omega) ha h2) k (by omega)
      unfold sw
      rw [if_neg (show i ≠ r by omega)]
      split <;> omega
theorem Inv_rank {n c r : Nat} {piv : Nat → Nat} {X0 X : Nat → Nat → F} (h : Inv n c r piv X) (he : Eqv n X0 X) : Rk n c r X0 := by
  obtain ⟨⟨Q, hQ⟩, P, hP⟩ := he
  refine ⟨⟨P, X, fun i j hi hj => ?_⟩, Q, fun j b => if j = piv b then inv (X b (piv b)) else 0, fun a b ha hb => ?_⟩
  · rw [hP i j hi]
    exact sn_le h.le fun k h1 h2 => by rw [h.low k h1 h2 j hj, mul_zero]
  · have ha' : a < n := Nat.lt_of_lt_of_le ha h.le
    rw [← mm_assoc]
    have e1 : mm c (mm n Q X0) (fun j b => if j = piv b then inv (X b (piv b)) else 0) a b = mm c X (fun j b => if j = piv b then inv (X b (piv b)) else 0) a b := mm_congr (fun k _ => (hQ a k ha').symm) fun _ _ => rfl
    rw [e1]
    unfold mm
    rw [sn_one (h.lt b hb) (fun k _ hk => by simp only [if_neg hk, mul_zero])]
    simp only [if_pos]
    by_cases e : a = b
    · rw [e, mul_inv (h.nz b hb), dl_same]
    · rw [h.off b hb a ha' e, zero_mul, dl_ne e]
theorem piv_id {n : Nat} {piv : Nat → Nat} (lt : ∀ a, a < n → piv a < n) (up : ∀ a b, a < b → b < n → piv a < piv b) : ∀ a, a < n → piv a = a := by
  have h1 : ∀ a, a < n → a ≤ piv a := by
    intro a
    induction a with
    | zero => intro _; omega
    | succ a ih => intro h; have := up a (a + 1) (by omega) h; have := ih (by omega); omega
  have h2 : ∀ d a, a + d + 1 = n → piv a ≤ a := by
    intro d
    induction d with
    | zero => intro a h; have := lt a (by omega); omega
    | succ d ih => intro a h; have := up a (a + 1) (by omega) (by omega); have := ih (a + 1) (by omega); omega
  intro a ha
  have := h1 a ha
  have := h2 (n - a - 1) a (by omega)
  omega
/-- what stands beside comes to the inverse -/
theorem Inv_inverse {n : Nat} {piv : Nat → Nat} {X0 X : Nat → Nat → F} (h : Inv n n n piv X) (he : Eqv n X0 X) (hI : ∀ i j, i < n → j < n → X0 i (n + j) = dl i j) :
    (∀ i j, i < n → j < n → mm n (fun i j => inv (X i i) * X i (n + j)) X0 i j = dl i j) ∧ (∀ i j, i < n → j < n → mm n X0 (fun i j => inv (X i i) * X i (n + j)) i j = dl i j) := by
  obtain ⟨⟨Q, hQ⟩, P, hP⟩ := he
  have hp := piv_id h.lt h.up
  have nz : ∀ a, a < n → X a a ≠ 0 := fun a ha => by have := h.nz a ha; rwa [hp a ha] at this
  have off : ∀ i a, i < n → a < n → i ≠ a → X i a = 0 := fun i a hi ha hne => by have := h.off a ha i hi hne; rwa [hp a ha] at this
  have hB : ∀ i j, i < n → j < n → X i (n + j) = Q i j := fun i j hi hj => by
    rw [hQ i (n + j) hi, ← mm_dl Q i hj]
    exact sn_congr fun k hk => by rw [hI k j hk hj]
  have hM : ∀ i j, i < n → j < n → X0 i j = P i j * X j j := fun i j hi hj => by
    rw [hP i j hi]
    exact sn_one hj fun k hk hne => by rw [off k j hk hj hne, mul_zero]
  constructor
  · intro i j hi hj
    have e1 : mm n (fun i j => inv (X i i) * X i (n + j)) X0 i j = inv (X i i) * mm n Q X0 i j := by
      unfold mm
      rw [← sm_mul]
      exact sn_congr fun k hk => by
        show inv (X i i) * X i (n + k) * X0 k j = _
        rw [hB i k hi hk, mul_assoc]
    rw [e1, ← hQ i j hi]
    by_cases e : i = j
    · rw [e, inv_mul (nz j hj), dl_same]
    · rw [off i j hi hj e, mul_zero, dl_ne e]
  · intro i j hi hj
    rw [← hI i j hi hj, hP i (n + j) hi]
    refine sn_congr fun k hk => ?_
    show X0 i k * (inv (X k k) * X k (n + j)) = _
    rw [hM i k hi hk, mul_assoc, ← mul_assoc (X k k), mul_inv (nz k hk), one_mul]
theorem Rk_inv {n : Nat} {A V : Nat → Nat → F} (h : ∀ i j, i < n → j < n → mm n V A i j = dl i j) : Rk n n n A :=
  ⟨⟨A, dl, fun i _ _ hj => (mm_dl A i hj).symm⟩, V, dl, fun i j hi hj => by
    rw [← h i j hi hj]
    exact mm_congr (fun _ _ => rfl) fun k _ => mm_dl A k hj⟩
theorem inv_unique {n : Nat} {A V W : Nat → Nat → F} (h1 : ∀ i j, i < n → j < n → mm n W A i j = dl i j) (h2 : ∀ i j, i < n → j < n → mm n A V i j = dl i j) : ∀ i j, i < n → j < n → W i j = V i j := fun i j hi hj => by
  have e : mm n (mm n W A) V i j = mm n W (mm n A V) i j := mm_assoc n n W A V i j
  have e1 : mm n (mm n W A) V i j = V i j := (mm_congr (fun k hk => h1 i k hi hk) fun _ _ => rfl).trans (dl_mm V hi j)
  have e2 : mm n W (mm n A V) i j = W i j := (mm_congr (fun _ _ => rfl) fun k hk => h2 k j hk hj).trans (mm_dl W i hj)
  rw [← e1, ← e2, e]
theorem Rk_full {n r : Nat} {A : Nat → Nat → F} (h : Rk n n r A) (hk : ∀ c : Nat → F, (∀ i, i < n → sn n (fun j => A i j * c j) = 0) → ∀ j, j < n → c j = 0) : r = n := by
  apply Classical.byContradiction
  intro hne
  have hle := Rk_rows h
  obtain ⟨P, C, h1⟩ := h.1
  obtain ⟨u, ⟨q, hq, hqu⟩, _, h3⟩ := kernel (List.range r) (List.range n) (tp C) (nd_rg n) (by simp; omega)
  refine hqu (hk u (fun i hi => ?_) q (mem_rg.1 hq))
  have e1 : sn n (fun j => A i j * u j) = sn n fun j => sn r fun k => P i k * (u j * C k j) := sn_congr fun j hj => by
    rw [h1 i j hi hj]
    unfold mm
    rw [← sm_mulr]
    exact sm_congr fun k _ => by ac_rfl
  rw [e1]
  unfold sn
  rw [sm_comm]
  refine sm_zero fun k hk => ?_
  rw [sm_mul]
  have := h3 k hk
  unfold tp at this
  rw [this, mul_zero]
/-- the numbers of the parity rows: distinct x and y leave no solution but zero -/
theorem cauchy (x y : Nat → F) : ∀ (L R : List Nat) (c : Nat → F), L.Nodup → R.Nodup → L.length ≤ R.length → (∀ i ∈ R, ∀ k ∈ R, i ≠ k → x i ≠ x k) → (∀ j ∈ L, ∀ k ∈ L, j ≠ k → y j ≠ y k) → (∀ i ∈ R, ∀ j ∈ L, x i + y j ≠ 0) →
    (∀ i ∈ R, sm L (fun j => c j * inv (x i + y j)) = 0) → ∀ j ∈ L, c j = 0
  | [], _, _, _, _, _, _, _, _, _ => fun j hj => by cases hj
  | b :: L, [], _, _, _, hlen, _, _, _, _ => by simp at hlen
  | b :: L, p :: R, c, hL, hR, hlen, hx, hy, hxy, h => by
    have hbL : b ∉ L := (List.nodup_cons.1 hL).1
    have hpR : p ∉ R := (List.nodup_cons.1 hR).1
    have ih := cauchy x y L R (fun j => c j * ((y j + y b) * inv (x p + y j))) (List.nodup_cons.1 hL).2 (List.nodup_cons.1 hR).2 (by simp at hlen; exact hlen)
      (fun i hi k hk => hx i (by simp [hi]) k (by simp [hk])) (fun i hi k hk => hy i (by simp [hi]) k (by simp [hk])) (fun i hi k hk => hxy i (by simp [hi]) k (by simp [hk])) (fun i hi => by
        have h1 := h i (by simp [hi])
        have h2 := h p (by simp)
        have hxi := hxy i (by simp [hi]) b (by simp)
        have hxp := hxy p (by simp) b (by simp)
        rw [sm_cons] at h1 h2
        have hd : x i + x p ≠ 0 := fun z => hx i (by simp [hi]) p (by simp) (fun z => hpR (by rw [← z]; exact hi)) (add_eq_zero z)
        have e1 : (x i + y b) * (c b * inv (x i + y b) + sm L (fun j => c j * inv (x i + y j))) + (x p + y b) * (c b * inv (x p + y b) + sm L (fun j => c j * inv (x p + y j))) = 0 := by rw [h1, h2, mul_zero, mul_zero, add_zero]
        have e2 : ∀ q : Nat, x q + y b ≠ 0 → (x q + y b) * (c b * inv (x q + y b)) = c b := fun q hq => by
          rw [← mul_assoc, mul_comm (x q + y b), mul_assoc, mul_inv hq, mul_one]
        rw [mul_add, mul_add, e2 i hxi, e2 p hxp, ← sm_mul, ← sm_mul] at e1
        have e3 : sm L (fun j => (x i + y b) * (c j * inv (x i + y j))) + sm L (fun j => (x p + y b) * (c j * inv (x p + y j))) = 0 := by
          rw [← e1]
          have : ∀ s t u : F, s + t = u + s + (u + t) := fun s t u => by
            have : u + s + (u + t) = (u + u) + (s + t) := by ac_rfl
            rw [this, add_self, zero_add]
          exact this _ _ _
        rw [← sm_add] at e3
        have e4 : sm L (fun j => (x i + y b) * (c j * inv (x i + y j)) + (x p + y b) * (c j * inv (x p + y j))) = (x i + x p) * sm L (fun j => c j * ((y j + y b) * inv (x p + y j)) * inv (x i + y j)) := by
          rw [← sm_mul]
          refine sm_congr fun j hj => ?_
          have hi' := hxy i (by simp [hi]) j (by simp [hj])
          have hp' := hxy p (by simp) j (by simp [hj])
          have f1 : (x i + y b) * (c j * inv (x i + y j)) = (x i + y b) * (x p + y j) * (c j * inv (x i + y j) * inv (x p + y j)) := by
            have : (x i + y b) * (x p + y j) * (c j * inv (x i + y j) * inv (x p + y j)) = (x i + y b) * (c j * inv (x i + y j)) * ((x p + y j) * inv (x p + y j)) := by ac_rfl
            rw [this, mul_inv hp', mul_one]
          have f2 : (x p + y b) * (c j * inv (x p + y j)) = (x p + y b) * (x i + y j) * (c j * inv (x i + y j) * inv (x p + y j)) := by
            have : (x p + y b) * (x i + y j) * (c j * inv (x i + y j) * inv (x p + y j)) = (x p + y b) * (c j * inv (x p + y j)) * ((x i + y j) * inv (x i + y j)) := by ac_rfl
            rw [this, mul_inv hi', mul_one]
          rw [f1, f2, ← add_mul]
          have f3 : (x i + y b) * (x p + y j) + (x p + y b) * (x i + y j) = (x i + x p) * (y j + y b) := by
            simp only [add_mul, mul_add]
            have : x i * x p + y b * x p + (x i * y j + y b * y j) + (x p * x i + y b * x i + (x p * y j + y b * y j)) = (x i * x p + x i * x p) + (y b * y j + y b * y j) + (x i * y j + x p * y j + (x i * y b + x p * y b)) := by
              rw [mul_comm (x p) (x i), mul_comm (y b) (x p), mul_comm (y b) (x i)]; ac_rfl
            rw [this, add_self, add_self, add_zero, zero_add]
          rw [f3]
          ac_rfl
        rw [e4] at e3
        rcases mul_eq_zero e3 with z | z
        · exact absurd z hd
        · exact z)
    have hc : ∀ j ∈ L, c j = 0 := fun j hj => by
      have h1 : c j * ((y j + y b) * inv (x p + y j)) = 0 := ih j hj
      have hjb : j ≠ b := fun z => hbL (by rw [← z]; exact hj)
      have hy1 : y j + y b ≠ 0 := fun z => hy j (by simp [hj]) b (by simp) hjb (add_eq_zero z)
      have hx1 := inv_ne (hxy p (by simp) j (by simp [hj]))
      rcases mul_eq_zero h1 with z | z
      · exact z
      · rcases mul_eq_zero z with z | z
        · exact absurd z hy1
        · exact absurd z hx1
    intro j hj
    rcases List.mem_cons.1 hj with rfl | hj
    · have h1 := h p (by simp)
      rw [sm_cons, sm_zero (fun k hk => by rw [hc k hk, zero_mul]), add_zero] at h1
      rcases mul_eq_zero h1 with z | z
      · exact z
      · exact absurd z (inv_ne (hxy p (by simp) j (by simp)))
    · exact hc j hj
end Go.TwoLin
namespace Go.Proofs.Ythhncoogmncdkaa.Pure
open Go Go.RowKit Go.TwoGf Go.Proofs.Ythhncoogmncdkaa Go.Proofs.Ythhncoogmncdkaa.PA Go.Proofs.YthhncoogmncdkaaW.PrintWords Go.Proofs.YthhncoogmncdkaaW.PrintLast Go.Proofs.YthhncoogmncdkaaW.PrintMore
set_option linter.unusedVariables false
def by8 (x : Int) : Prop := 0 ≤ x ∧ x < 256
theorem aI_right {x : Int} (hx : by8 x) : aI x 0 = x := by rw [aI_comm hx (by decide), aI_zero hx]
theorem aI_turn {x y z : Int} (hx : by8 x) (hy : by8 y) (hz : by8 z) : aI (aI x y) z = aI (aI x z) y := by
  rw [aI_assoc hx hy hz, aI_comm hy hz, ← aI_assoc hx hz hy]
theorem aI_back {x y : Int} (hx : by8 x) (hy : by8 y) : aI (aI x y) y = x := by
  rw [aI_assoc hx hy hy, aI_self hy, aI_right hx]
theorem addv_comm {c d : Int} : ∀ {a b e : List Int}, isB a → addv (addv a c b) d e = addv (addv a d e) c b
  | [], _, _, _ => by simp [addv]
  | _ :: _, [], [], _ => by simp [addv]
  | _ :: _, [], _ :: _, _ => by simp [addv]
  | _ :: _, _ :: _, [], _ => by simp [addv]
  | x :: a, y :: b, z :: e, ha => by
    have := addv_comm (c := c) (d := d) (b := b) (e := e) (isB_cons ha).2
    simp only [addv, List.zipWith_cons_cons] at this ⊢
    rw [this, aI_turn (isB_cons ha).1 (mI_rng _ _) (mI_rng _ _)]
theorem addv_twice {c : Int} : ∀ {a b : List Int}, isB a → a.length ≤ b.length → addv (addv a c b) c b = a
  | [], _, _, _ => by simp [addv]
  | _ :: _, [], _, h => by simp at h
  | x :: a, y :: b, ha, h => by
    have := addv_twice (c := c) (b := b) (isB_cons ha).2 (by simpa using h)
    simp only [addv, List.zipWith_cons_cons] at this ⊢
    rw [this, aI_back (isB_cons ha).1 (mI_rng _ _)]
theorem dacc_addv {c : Int} {b : List Int} : ∀ {cs : List Int} {bs : List (List Int)} {acc : List Int}, isB acc → dacc (addv acc c b) cs bs = addv (dacc acc cs bs) c b
  | [], _, _, _ => rfl
  | _ :: _, [], _, _ => rfl
  | d :: cs, e :: bs, acc, h => by
    rw [dacc, dacc, addv_comm h, dacc_addv (addv_B _ h)]
theorem dacc_twice : ∀ {cs : List Int} {bs : List (List Int)} {acc : List Int}, isB acc → (∀ b ∈ bs, acc.length ≤ b.length) → dacc (dacc acc cs bs) cs bs = acc
  | [], _, _, _, _ => rfl
  | _ :: _, [], _, _, _ => rfl
  | d :: cs, e :: bs, acc, h, hl => by
    have h0 := hl e (by simp)
    rw [dacc, dacc, dacc_addv h, dacc_addv (addv_B _ (dacc_B h))]
    rw [dacc_addv (dacc_B h), dacc_twice h (fun b hb => hl b (by simp [hb])), addv_twice h h0]
theorem addv_addv {c : Int} : ∀ {p z b : List Int}, isB p → isB z → addv p 1 (addv z c b) = addv (addv p 1 z) c b
  | [], _, _, _, _ => by simp [addv]
  | _ :: _, [], _, _, _ => by simp [addv]
  | _ :: _, _ :: _, [], _, _ => by simp [addv]
  | x :: p, y :: z, w :: b, hp, hz => by
    have := addv_addv (c := c) (b := b) (isB_cons hp).2 (isB_cons hz).2
    simp only [addv, List.zipWith_cons_cons] at this ⊢
    rw [this, mI_one (aI_rng (isB_cons hz).1 (mI_rng _ _)), mI_one (isB_cons hz).1, aI_assoc (isB_cons hp).1 (isB_cons hz).1 (mI_rng _ _)]
theorem addv_dacc {p : List Int} (hp : isB p) : ∀ {cs : List Int} {bs : List (List Int)} {z : List Int}, isB z → addv p 1 (dacc z cs bs) = dacc (addv p 1 z) cs bs
  | [], _, _, _ => rfl
  | _ :: _, [], _, _ => rfl
  | d :: cs, e :: bs, z, hz => by
    rw [dacc, dacc, addv_dacc hp (addv_B _ hz), addv_addv hp hz]
theorem addv_zero : ∀ {p : List Int}, isB p → addv p 1 (List.replicate p.length 0) = p
  | [], _ => rfl
  | x :: p, hp => by
    have := addv_zero (isB_cons hp).2
    simp only [addv, List.length_cons, List.replicate_succ, List.zipWith_cons_cons] at this ⊢
    rw [this, mI_one (by decide), aI_right (isB_cons hp).1]
theorem add_sum {p : List Int} (hp : isB p) {n : Nat} (hn : p.length = n) (cs : List Int) (bs : List (List Int)) : addv p 1 (dacc (List.replicate n 0) cs bs) = dacc p cs bs := by
  subst hn
  rw [addv_dacc hp (isB_rep _), addv_zero hp]
/-! rows, each by its own function -/
def upd (f : Nat → List Int → List Int) : List (List Int) → Nat → List (List Int)
  | [], _ => []
  | p :: ps, i => f i p :: upd f ps (i + 1)
theorem upd_len (f : Nat → List Int → List Int) : ∀ ps i, (upd f ps i).length = ps.length
  | [], _ => rfl
  | p :: ps, i => by simp [upd, upd_len f ps (i + 1)]
theorem upd_upd (f g : Nat → List Int → List Int) : ∀ ps i, upd f (upd g ps i) i = upd (fun i p => f i (g i p)) ps i
  | [], _ => rfl
  | p :: ps, i => by simp [upd, upd_upd f g ps (i + 1)]
theorem upd_congr {f g : Nat → List Int → List Int} : ∀ ps i, (∀ j, ∀ p ∈ ps, f j p = g j p) → upd f ps i = upd g ps i
  | [], _, _ => rfl
  | p :: ps, i, h => by
    rw [upd, upd, h i p (by simp), upd_congr ps (i + 1) (fun j q hq => h j q (by simp [hq]))]
theorem upd_id {f : Nat → List Int → List Int} : ∀ ps i, (∀ j, ∀ p ∈ ps, f j p = p) → upd f ps i = ps
  | [], _, _ => rfl
  | p :: ps, i, h => by
    rw [upd, h i p (by simp), upd_id ps (i + 1) (fun j q hq => h j q (by simp [hq]))]
theorem upd_all {f : Nat → List Int → List Int} {Q : List Int → Prop} : ∀ ps i, (∀ j, ∀ p ∈ ps, Q (f j p)) → ∀ q ∈ upd f ps i, Q q
  | [], _, _, q, hq => by cases hq
  | p :: ps, i, h, q, hq => by
    rw [upd, List.mem_cons] at hq
    rcases hq with rfl | hq
    · exact h i p (by simp)
    · exact upd_all ps (i + 1) (fun j r hr => h j r (by simp [hr])) q hq
end Go.Proofs.Ythhncoogmncdkaa.Pure
namespace Go.Proofs.Ythhncoogmncdkaa.Pure
open Go Go.RowKit Go.TwoGf Go.Proofs.Ythhncoogmncdkaa Go.Proofs.Ythhncoogmncdkaa.PA Go.Proofs.YthhncoogmncdkaaW.PrintWords Go.Proofs.YthhncoogmncdkaaW.PrintLast Go.Proofs.YthhncoogmncdkaaW.PrintMore
set_option linter.unusedVariables false
def isM (M : List (List Int)) : Prop := ∀ r ∈ M, isB r
def rect (n m : Nat) (M : List (List Int)) : Prop := M.length = n ∧ ∀ r ∈ M, r.length = m
theorem rw_lt {M : List (List Int)} {i : Nat} (h : i < M.length) : rw_ M i = M[i] := by simp [rw_, h]
theorem rw_mem {M : List (List Int)} {i : Nat} (h : i < M.length) : rw_ M i ∈ M := by rw [rw_lt h]; exact List.getElem_mem _
theorem rw_ge {M : List (List Int)} {i : Nat} (h : M.length ≤ i) : rw_ M i = [] := by simp [rw_, h]
theorem rw_B {M : List (List Int)} (h : isM M) (i : Nat) : isB (rw_ M i) := by
  by_cases e : i < M.length
  · exact h _ (rw_mem e)
  · rw [rw_ge (by omega)]; exact isB_nil
theorem rect_row {n m : Nat} {M : List (List Int)} (h : rect n m M) {i : Nat} (hi : i < n) : (rw_ M i).length = m := h.2 _ (rw_mem (by rw [h.1]; exact hi))
theorem at_nat (k i j : Nat) (hk : k ≤ 12) (hi : i < 4) (hj : j < 12) : matrix_Cauchy.at_ (k : Int) i j = (((k + i) ^^^ j : Nat) : Int) ∧ (k + i) ^^^ j < 256 := by
  refine ⟨?_, xor_lt (by omega) (by omega)⟩
  unfold matrix_Cauchy.at_
  rw [show (k : Int) + (i : Int) = ((k + i : Nat) : Int) by omega]
  exact u8_xor_nat (k + i) j (by omega) (by omega)
theorem G_val {k i j : Nat} (hk : k ≤ 12) (hi : i < 4) (hj : j < 12) : gf_Inv.f (matrix_Cauchy.at_ (k : Int) i j) = some ((gi ((k + i) ^^^ j) : Int), if (k + i) ^^^ j = 0 then 10 else 0) := by
  obtain ⟨h1, h2⟩ := at_nat k i j hk hi hj
  rw [h1, inv_f _ h2]
theorem G_gi {k i j : Nat} (hk : k ≤ 12) (hi : i < 4) (hj : j < 12) : matrix_Cauchy.G (k : Int) i j = (gi ((k + i) ^^^ j) : Int) := by
  unfold matrix_Cauchy.G
  rw [G_val hk hi hj]; rfl
theorem row_inv {a b : Int} (h1 : 1 ≤ a) (h2 : a ≤ 12) (h4 : b ≤ 4) : codec_Row.inv a b := fun i hi j hj => by
  obtain ⟨k, rfl⟩ : ∃ k : Nat, a = k := ⟨a.toNat, by omega⟩
  rw [G_val (by omega) (by omega) (by omega)]; rfl
theorem oneM_B (k : Nat) : isM (matrix_One.M k) := fun r hr x hx => by
  simp only [matrix_One.M, List.mem_map] at hr
  obtain ⟨i, _, rfl⟩ := hr
  simp only [List.mem_map] at hx
  obtain ⟨j, _, rfl⟩ := hx
  split <;> omega
theorem cauM_B {k r : Nat} (hk : k ≤ 12) (hr : r ≤ 4) : isM (matrix_Cauchy.M k r) := fun y hy x hx => by
  simp only [matrix_Cauchy.M, List.mem_map, List.mem_range] at hy
  obtain ⟨i, hi, rfl⟩ := hy
  simp only [List.mem_map, List.mem_range] at hx
  obtain ⟨j, hj, rfl⟩ := hx
  rw [G_gi hk (by omega) (by omega)]
  have := gi_lt ((k + i) ^^^ j)
  omega
theorem allM_B {k r : Nat} (hk : k ≤ 12) (hr : r ≤ 4) : isM (codec_Row.M k r) := fun y hy => by
  unfold codec_Row.M at hy
  rw [List.mem_append] at hy
  rcases hy with hy | hy
  · exact oneM_B k y hy
  · by_cases e : r = 0
    · rw [if_pos e] at hy; cases hy
    · rw [if_neg e] at hy; exact cauM_B hk hr y hy
theorem allM_rect (k r : Nat) : rect (k + r) k (codec_Row.M k r) := by
  unfold codec_Row.M
  refine ⟨?_, fun y hy => ?_⟩
  · by_cases e : r = 0
    · subst e; simp [matrix_One.M]
    · rw [if_neg e]; simp [matrix_One.M, matrix_Cauchy.M]
  · rw [List.mem_append] at hy
    rcases hy with hy | hy
    · simp only [matrix_One.M, List.mem_map] at hy
      obtain ⟨i, _, rfl⟩ := hy
      simp
    · by_cases e : r = 0
      · rw [if_pos e] at hy; cases hy
      · rw [if_neg e] at hy
        simp only [matrix_Cauchy.M, List.mem_map] at hy
        obtain ⟨i, _, rfl⟩ := hy
        simp
theorem in64_of {a : Int} (h1 : -1000 ≤ a) (h2 : a ≤ 1000) : in64 a := by
  have e1 : IntKind.i64.min = -9223372036854775808 := by decide
  have e2 : IntKind.i64.max = 9223372036854775807 := by decide
  unfold in64 Lit.wf
  simp only [e1, e2, Bool.and_eq_true, decide_eq_true_eq]
  omega
theorem row_f {a b c : Int} (h1 : 1 ≤ a) (h2 : a ≤ 12) (h3 : 0 ≤ b) (h4 : b ≤ 4) (h5 : 0 ≤ c) (h6 : c < a + b) : codec_Row.f a b c = some (rw_ (codec_Row.M a.toNat b.toNat) c.toNat, 0) := by
  unfold codec_Row.f
  rw [if_pos ⟨in64_of (by omega) (by omega), in64_of (by omega) (by omega), in64_of (by omega) (by omega)⟩, if_neg (by unfold codec_Row.bad; omega), if_pos (row_inv h1 h2 h4), if_pos ⟨h5, h6⟩]
theorem row_bad {a b c : Int} (ha : in64 a) (hb : in64 b) (hc : in64 c) (h : ¬ (1 ≤ a ∧ a ≤ 12 ∧ 0 ≤ b ∧ b ≤ 4)) : codec_Row.f a b c = some ([], 2) := by
  unfold codec_Row.f
  rw [if_pos ⟨ha, hb, hc⟩, if_pos (by unfold codec_Row.bad; omega)]
end Go.Proofs.Ythhncoogmncdkaa.Pure
namespace Go.Proofs.Ythhncoogmncdkaa.Pure
open Go Go.RowKit Go.TwoGf Go.Proofs.Ythhncoogmncdkaa Go.Proofs.Ythhncoogmncdkaa.PA Go.Proofs.YthhncoogmncdkaaW.PrintWords Go.Proofs.YthhncoogmncdkaaW.PrintLast Go.Proofs.YthhncoogmncdkaaW.PrintMore
set_option linter.unusedVariables false
/-- cells that may be, and are alike -/
def Alk (n : Nat) (l : List (List Int)) : Prop := ∀ x ∈ l, 1 ≤ x.length ∧ x.length ≤ 65536 ∧ x.length = n
instance alkDec (n : Nat) (l : List (List Int)) : Decidable (Alk n l) := by unfold Alk; infer_instance
theorem alk_dots {n : Nat} {l : List (List Int)} (h : Alk n l) : alk l = true := by
  unfold alk
  rw [List.all_eq_true]
  intro x hx
  have hx' := h x hx
  have e : (rd_L1 l 0).length = n := by
    cases l with
    | nil => cases hx
    | cons y l => exact (h y (by simp)).2.2
  simp [e, hx'.2.2]
  omega
theorem rd_L1_n {n : Nat} {l : List (List Int)} (h : Alk n l) {i : Nat} (hi : i < l.length) : (rd_L1 l (i : Int)).length = n := by
  rw [rd_L1_nat hi]; exact (h _ (List.getElem_mem _)).2.2
/-- may the code be -/
def okK (k r : Int) : Prop := 1 ≤ k ∧ k ≤ 12 ∧ 0 ≤ r ∧ r ≤ 4
instance okKDec (k r : Int) : Decidable (okK k r) := by unfold okK; infer_instance
end Go.Proofs.Ythhncoogmncdkaa.Pure
namespace Go.Proofs.Ythhncoogmncdkaa.Pure
open Go Go.RowKit Go.TwoGf Go.TwoLin Go.Proofs.Ythhncoogmncdkaa Go.Proofs.Ythhncoogmncdkaa.PA Go.Proofs.YthhncoogmncdkaaW.PrintWords Go.Proofs.YthhncoogmncdkaaW.PrintLast
set_option linter.unusedVariables false
def toF (x : Int) : F := F.mk (x.toNat % 256) (Nat.mod_lt _ (by decide))
def ofF (a : F) : Int := (a.v : Int)
theorem v_toF {x : Int} (h : 0 ≤ x ∧ x < 256) : (toF x).v = x.toNat := Nat.mod_eq_of_lt (by omega)
theorem ofF_toF {x : Int} (h : 0 ≤ x ∧ x < 256) : ofF (toF x) = x := by unfold ofF; rw [v_toF h]; omega
theorem ofF_rng (a : F) : 0 ≤ ofF a ∧ ofF a < 256 := ⟨by unfold ofF; omega, by have := a.lt; unfold ofF; omega⟩
theorem toF_ofF (a : F) : toF (ofF a) = a := F.ext (by rw [v_toF (ofF_rng a)]; unfold ofF; omega)
theorem toF_zero : toF 0 = 0 := rfl
theorem ofF_zero : ofF 0 = 0 := rfl
theorem ofF_one : ofF 1 = 1 := rfl
theorem ofF_inj {a b : F} (h : ofF a = ofF b) : a = b := by rw [← toF_ofF a, ← toF_ofF b, h]
theorem toF_eq_zero {x : Int} (h : 0 ≤ x ∧ x < 256) : toF x = 0 ↔ x = 0 := ⟨fun z => by rw [← ofF_toF h, z]; rfl, fun z => by rw [z]; rfl⟩
theorem v_nat {n : Nat} (h : n < 256) : (toF (n : Int)).v = n := Nat.mod_eq_of_lt (by omega)
theorem mul_v {k : Nat} (hk : 9 ≤ k) {x y : Int} (hx : 0 ≤ x ∧ x < 256) (hy : 0 ≤ y ∧ y < 256) : gf_Mul.f k x y = some (ofF (toF x * toF y)) := by
  obtain ⟨a, ha, rfl⟩ := nat_of hx
  obtain ⟨b, hb, rfl⟩ := nat_of hy
  rw [mul_f k a b hk ha hb]
  unfold ofF
  rw [v_mul, v_nat ha, v_nat hb]
theorem xor_v {x y : Int} (hx : 0 ≤ x ∧ x < 256) (hy : 0 ≤ y ∧ y < 256) : Go.bits .xor .u8 x y = ofF (toF x + toF y) := by
  obtain ⟨a, ha, rfl⟩ := nat_of hx
  obtain ⟨b, hb, rfl⟩ := nat_of hy
  rw [u8_xor_nat a b ha hb]
  unfold ofF
  rw [v_add, v_nat ha, v_nat hb]
theorem inv_v {x : Int} (hx : 0 ≤ x ∧ x < 256) : gf_Inv.f x = some (ofF (inv (toF x)), if x = 0 then 10 else 0) := by
  obtain ⟨a, ha, rfl⟩ := nat_of hx
  rw [inv_f a ha]
  unfold ofF
  rw [v_inv, v_nat ha]
  by_cases h : a = 0
  · rw [if_pos h, if_pos (by omega)]
  · rw [if_neg h, if_neg (by omega)]
/-! matrices -/
def cell (M : List (List Int)) (i j : Nat) : F := toF (rd (rw_ M i) (j : Int))
def mkF (n m : Nat) (A : Nat → Nat → F) : List (List Int) := (List.range n).map fun i => (List.range m).map fun j => ofF (A i j)
theorem rd_lt {l : List Int} {j : Nat} (h : j < l.length) : rd l (j : Int) = l[j] := by simp [rd, h]
theorem rd_ge {l : List Int} {j : Nat} (h : l.length ≤ j) : rd l (j : Int) = 0 := by simp [rd, h]
theorem rd_B {l : List Int} (h : isB l) (j : Nat) : 0 ≤ rd l (j : Int) ∧ rd l (j : Int) < 256 := by
  by_cases e : j < l.length
  · rw [rd_lt e]; exact h _ (List.getElem_mem _)
  · rw [rd_ge (by omega)]; decide
theorem cell_rd {M : List (List Int)} (h : isM M) (i j : Nat) : rd (rw_ M i) (j : Int) = ofF (cell M i j) := (ofF_toF (rd_B (rw_B h i) j)).symm
theorem cell_zero {M : List (List Int)} (h : isM M) (i j : Nat) : rd (rw_ M i) (j : Int) = 0 ↔ cell M i j = 0 := (toF_eq_zero (rd_B (rw_B h i) j)).symm
theorem rect_mkF (n m : Nat) (A : Nat → Nat → F) : rect n m (mkF n m A) := ⟨by simp [mkF], fun r hr => by
  simp only [mkF, List.mem_map] at hr
  obtain ⟨i, _, rfl⟩ := hr
  simp⟩
theorem isM_mkF (n m : Nat) (A : Nat → Nat → F) : isM (mkF n m A) := fun r hr x hx => by
  simp only [mkF, List.mem_map] at hr
  obtain ⟨i, _, rfl⟩ := hr
  simp only [List.mem_map] at hx
  obtain ⟨j, _, rfl⟩ := hx
  exact ofF_rng _
theorem rw_mkF {n m : Nat} {A : Nat → Nat → F} {i : Nat} (h : i < n) : rw_ (mkF n m A) i = (List.range m).map fun j => ofF (A i j) := by simp [rw_, mkF, h]
theorem rd_mkF {n m : Nat} {A : Nat → Nat → F} {i j : Nat} (h : i < n) (hj : j < m) : rd (rw_ (mkF n m A) i) (j : Int) = ofF (A i j) := by rw [rw_mkF h]; simp [rd, hj]
theorem cell_mkF {n m : Nat} {A : Nat → Nat → F} {i j : Nat} (h : i < n) (hj : j < m) : cell (mkF n m A) i j = A i j := by unfold cell; rw [rd_mkF h hj, toF_ofF]
theorem ext_rw {M M' : List (List Int)} (hl : M.length = M'.length) (h : ∀ i, i < M.length → rw_ M i = rw_ M' i) : M = M' := by
  apply List.ext_getElem hl
  intro i h1 h2
  have := h i h1
  rwa [rw_lt h1, rw_lt h2] at this
theorem ext_rd {l l' : List Int} (hl : l.length = l'.length) (h : ∀ j : Nat, j < l.length → rd l (j : Int) = rd l' (j : Int)) : l = l' := by
  apply List.ext_getElem hl
  intro i h1 h2
  have := h i h1
  rwa [rd_lt h1, rd_lt h2] at this
theorem ext_cell {n m : Nat} {M M' : List (List Int)} (h1 : rect n m M) (h2 : rect n m M') (b1 : isM M) (b2 : isM M') (h : ∀ i j, i < n → j < m → cell M i j = cell M' i j) : M = M' := by
  refine ext_rw (h1.1.trans h2.1.symm) fun i hi => ?_
  rw [h1.1] at hi
  refine ext_rd ((rect_row h1 hi).trans (rect_row h2 hi).symm) fun j hj => ?_
  rw [rect_row h1 hi] at hj
  rw [cell_rd b1, cell_rd b2, h i j hi hj]
theorem mkF_cell {n m : Nat} {M : List (List Int)} (h : rect n m M) (hb : isM M) : mkF n m (cell M) = M :=
  ext_cell (rect_mkF n m _) h (isM_mkF n m _) hb fun i j hi hj => cell_mkF hi hj
theorem mkF_congr {n m : Nat} {A B : Nat → Nat → F} (h : ∀ i j, i < n → j < m → A i j = B i j) : mkF n m A = mkF n m B :=
  ext_cell (rect_mkF n m _) (rect_mkF n m _) (isM_mkF n m _) (isM_mkF n m _) fun i j hi hj => by rw [cell_mkF hi hj, cell_mkF hi hj, h i j hi hj]
/-! Check -/
def good (M : List (List Int)) : Prop := 1 ≤ M.length ∧ M.length ≤ 32 ∧ 1 ≤ (rw_ M 0).length ∧ (rw_ M 0).length ≤ 32 ∧ ∀ r ∈ M, r.length = (rw_ M 0).length
instance (M : List (List Int)) : Decidable (good M) := by unfold good; infer_instance
def ckv (M : List (List Int)) : Int := if good M then 0 else 30
theorem good_rect {M : List (List Int)} (h : good M) : rect M.length (rw_ M 0).length M := ⟨rfl, h.2.2.2.2⟩
theorem good_of {n m : Nat} {M : List (List Int)} (h : rect n m M) (h1 : 1 ≤ n) (h2 : n ≤ 32) (h3 : 1 ≤ m) (h4 : m ≤ 32) : good M ∧ M.length = n ∧ (rw_ M 0).length = m := by
  have e : (rw_ M 0).length = m := rect_row h (by omega)
  refine ⟨⟨by rw [h.1]; exact h1, by rw [h.1]; exact h2, by rw [e]; exact h3, by rw [e]; exact h4, fun r hr => by rw [e]; exact h.2 r hr⟩, h.1, e⟩
theorem w64 {i : Nat} (h : i < 100000) : wrap64 ((i : Int) + 1) = ((i + 1 : Nat) : Int) := by unfold wrap64; omega
theorem rdL {M : List (List Int)} (i : Nat) : rd_L1 M (i : Int) = rw_ M i := rfl
theorem rdL0 {M : List (List Int)} : rd_L1 M 0 = rw_ M 0 := rfl
theorem check_l0 {M : List (List Int)} (h0 : 0 < M.length) (hM : M.length ≤ 32) : ∀ (d k i : Nat), i + d = M.length → d < k → matrix_Check.l0 k M M (M.length : Int) (i : Int) = some (if ∀ r ∈ M.drop i, 1 ≤ r.length ∧ r.length ≤ 32 ∧ r.length = (rw_ M 0).length then 0 else 30) := by
  intro d
  induction d with
  | zero =>
    intro k i hi hk
    obtain ⟨k, rfl⟩ : ∃ q, k = q + 1 := ⟨k - 1, by omega⟩
    unfold matrix_Check.l0
    rw [if_neg (by omega), List.drop_of_length_le (by omega), if_pos (fun r hr => by cases hr)]
  | succ d ih =>
    intro k i hi hk
    obtain ⟨k, rfl⟩ : ∃ q, k = q + 1 := ⟨k - 1, by omega⟩
    have hil : i < M.length := by omega
    unfold matrix_Check.l0
    rw [if_pos (by omega), if_pos (by omega), if_pos (by omega), rdL, rdL0, List.drop_eq_getElem_cons hil, ← rw_lt hil]
    by_cases h1 : (rw_ M i).length < 1
    · rw [if_pos (by omega), if_neg (fun z => by have := z (rw_ M i) (by simp); omega)]
    rw [if_neg (by omega)]
    by_cases h2 : (rw_ M i).length > 32
    · rw [if_pos (by omega), if_neg (fun z => by have := z (rw_ M i) (by simp); omega)]
    rw [if_neg (by omega), if_pos (by omega)]
    by_cases h3 : (rw_ M i).length = (rw_ M 0).length
    · rw [if_pos (by omega), w64 (by omega), ih k (i + 1) (by omega) (by omega)]
      by_cases h4 : ∀ r ∈ M.drop (i + 1), 1 ≤ r.length ∧ r.length ≤ 32 ∧ r.length = (rw_ M 0).length
      · rw [if_pos h4, if_pos (fun r hr => by
          rcases List.mem_cons.1 hr with rfl | hr
          · exact ⟨by omega, by omega, h3⟩
          · exact h4 r hr)]
      · rw [if_neg h4, if_neg (fun z => h4 fun r hr => z r (List.mem_cons_of_mem _ hr))]
    · rw [if_neg (by omega), if_neg (fun z => by have := z (rw_ M i) (by simp); omega)]
theorem check_f {k : Nat} (hk : 40 ≤ k) (M : List (List Int)) : matrix_Check.f k M = some (ckv M) := by
  obtain ⟨k, rfl⟩ : ∃ q, k = q + 1 := ⟨k - 1, by omega⟩
  unfold matrix_Check.f ckv
  by_cases h1 : M.length < 1
  · rw [if_pos (by omega), if_neg (fun z => by have := z.1; omega)]
    unfold matrix_Check.j0
    rfl
  rw [if_neg (by omega)]
  simp only [matrix_Check.j0]
  by_cases h2 : M.length > 32
  · rw [if_pos (by simp; omega), if_neg (fun z => by have := z.2.1; omega)]
  rw [if_neg (by simp; omega), show (0 : Int) = ((0 : Nat) : Int) from rfl, check_l0 (by omega) (by omega) M.length k 0 (by omega) (by omega), List.drop_zero]
  have h0 := rw_mem (M := M) (i := 0) (by omega)
  by_cases h3 : ∀ r ∈ M, 1 ≤ r.length ∧ r.length ≤ 32 ∧ r.length = (rw_ M 0).length
  · rw [if_pos h3, if_pos ⟨by omega, by omega, (h3 _ h0).1, (h3 _ h0).2.1, fun r hr => (h3 r hr).2.2⟩]; rfl
  · rw [if_neg h3, if_neg (fun z => h3 fun r hr => by have := z.2.2.2.2 r hr; have := z.2.2.1; have := z.2.2.2.1; omega)]
end Go.Proofs.Ythhncoogmncdkaa.Pure
namespace Go.Proofs.Ythhncoogmncdkaa.Pure
open Go Go.RowKit Go.TwoGf Go.TwoLin Go.Proofs.Ythhncoogmncdkaa Go.Proofs.Ythhncoogmncdkaa.PA Go.Proofs.YthhncoogmncdkaaW.PrintWords Go.Proofs.YthhncoogmncdkaaW.PrintLast
set_option linter.unusedVariables false
theorem rd_set {x : List Int} {i : Nat} (hi : i < x.length) (v : Int) (j : Nat) : rd (x.set i v) (j : Int) = if j = i then v else rd x (j : Int) := by
  unfold rd
  rw [Int.toNat_natCast, List.getD_eq_getElem?_getD, List.getD_eq_getElem?_getD, List.getElem?_set]
  by_cases h : i = j
  · subst h; simp [hi]
  · rw [if_neg h, if_neg (fun z => h z.symm)]
theorem isB_set {x : List Int} (h : isB x) {i : Nat} {v : Int} (hv : 0 ≤ v ∧ v < 256) : isB (x.set i v) := fun y hy => by
  rcases List.mem_or_eq_of_mem_set hy with h1 | h1
  · exact h y h1
  · rw [h1]; exact hv
theorem times_l0 {c : Int} (hc : 0 ≤ c ∧ c < 256) {n : Nat} (hn : n ≤ 1000) : ∀ (d k i : Nat) (x : List Int), x.length = n → i + d = n → d + 10 < k → isB x →
    ∃ r, matrix_times.l0 k x c (n : Int) (i : Int) = some r ∧ r.length = n ∧ isB r ∧ (∀ j, j < i → rd r (j : Int) = rd x (j : Int)) ∧ (∀ j, i ≤ j → toF (rd r (j : Int)) = toF (rd x (j : Int)) * toF c) := by
  intro d
  induction d with
  | zero =>
    intro k i x hx hi hk hb
    obtain ⟨k, rfl⟩ : ∃ q, k = q + 1 := ⟨k - 1, by omega⟩
    unfold matrix_times.l0
    rw [if_neg (by omega)]
    refine ⟨x, rfl, hx, hb, fun _ _ => rfl, fun j hj => ?_⟩
    rw [rd_ge (by omega), toF_zero, zero_mul]
  | succ d ih =>
    intro k i x hx hi hk hb
    obtain ⟨k, rfl⟩ : ∃ q, k = q + 1 := ⟨k - 1, by omega⟩
    unfold matrix_times.l0
    rw [if_pos (by omega), if_pos (by omega), if_pos (by omega), mul_v (by omega) (rd_B hb i) hc, Option.bind_some, Int.toNat_natCast, w64 (by omega)]
    obtain ⟨r, h1, h2, h3, h4, h5⟩ := ih k (i + 1) (x.set i (ofF (toF (rd x (i : Int)) * toF c))) (by simpa using hx) (by omega) (by omega) (isB_set hb (ofF_rng _))
    refine ⟨r, h1, h2, h3, fun j hj => ?_, fun j hj => ?_⟩
    · rw [h4 j (by omega), rd_set (by omega), if_neg (by omega)]
    · by_cases e : j = i
      · subst e
        rw [h4 j (by omega), rd_set (by omega), if_pos rfl, toF_ofF]
      · rw [h5 j (by omega), rd_set (by omega), if_neg e]
theorem times_v {k : Nat} {l : List Int} {c : Int} (hk : l.length + 10 < k) (hl : l.length ≤ 1000) (hb : isB l) (hc : 0 ≤ c ∧ c < 256) : ∃ r, matrix_times.f k l c = some r ∧ r.length = l.length ∧ isB r ∧ ∀ j : Nat, toF (rd r (j : Int)) = toF (rd l (j : Int)) * toF c := by
  obtain ⟨r, h1, h2, h3, _, h5⟩ := times_l0 hc hl l.length k 0 l rfl (by omega) (by omega) hb
  exact ⟨r, h1, h2, h3, fun j => h5 j (by omega)⟩
theorem plus_l0 {c : Int} (hc : 0 ≤ c ∧ c < 256) {n : Nat} (hn : n ≤ 1000) {b : List Int} (hbl : b.length = n) (hbb : isB b) : ∀ (d k i : Nat) (x : List Int), x.length = n → i + d = n → d + 10 < k → isB x →
    ∃ r, matrix_plus.l0 k x c b (n : Int) (i : Int) = some r ∧ r.length = n ∧ isB r ∧ (∀ j, j < i → rd r (j : Int) = rd x (j : Int)) ∧ (∀ j, i ≤ j → toF (rd r (j : Int)) = toF (rd x (j : Int)) + toF c * toF (rd b (j : Int))) := by
  intro d
  induction d with
  | zero =>
    intro k i x hx hi hk hb
    obtain ⟨k, rfl⟩ : ∃ q, k = q + 1 := ⟨k - 1, by omega⟩
    unfold matrix_plus.l0
    rw [if_neg (by omega)]
    refine ⟨x, rfl, hx, hb, fun _ _ => rfl, fun j hj => ?_⟩
    rw [rd_ge (by omega), rd_ge (by omega), toF_zero, mul_zero, add_zero]
  | succ d ih =>
    intro k i x hx hi hk hb
    obtain ⟨k, rfl⟩ : ∃ q, k = q + 1 := ⟨k - 1, by omega⟩
    unfold matrix_plus.l0
    rw [if_pos (by omega), if_pos (by omega), if_pos (by omega), if_pos (by omega), mul_v (by omega) hc (rd_B hbb i), Option.bind_some]
    unfold gf_Add.f
    rw [Option.bind_some, Int.toNat_natCast, w64 (by omega), xor_v (rd_B hb i) (ofF_rng _), toF_ofF]
    obtain ⟨r, h1, h2, h3, h4, h5⟩ := ih k (i + 1) (x.set i (ofF (toF (rd x (i : Int)) + toF c * toF (rd b (i : Int))))) (by simpa using hx) (by omega) (by omega) (isB_set hb (ofF_rng _))
    refine ⟨r, h1, h2, h3, fun j hj => ?_, fun j hj => ?_⟩
    · rw [h4 j (by omega), rd_set (by omega), if_neg (by omega)]
    · by_cases e : j = i
      · subst e
        rw [h4 j (by omega), rd_set (by omega), if_pos rfl, toF_ofF]
      · rw [h5 j (by omega), rd_set (by omega), if_neg e]
theorem plus_v {k : Nat} {a b : List Int} {c : Int} (hk : a.length + 10 < k) (hl : a.length ≤ 1000) (hab : b.length = a.length) (ha : isB a) (hb : isB b) (hc : 0 ≤ c ∧ c < 256) : ∃ r, matrix_plus.f k a c b = some r ∧ r.length = a.length ∧ isB r ∧ ∀ j : Nat, toF (rd r (j : Int)) = toF (rd a (j : Int)) + toF c * toF (rd b (j : Int)) := by
  obtain ⟨r, h1, h2, h3, _, h5⟩ := plus_l0 hc hl hab hb a.length k 0 a rfl (by omega) (by omega) ha
  exact ⟨r, h1, h2, h3, fun j => h5 j (by omega)⟩
/-! rows that are put back -/
theorem isM_set {M : List (List Int)} (h : isM M) {i : Nat} {r : List Int} (hr : isB r) : isM (M.set i r) := fun y hy => by
  rcases List.mem_or_eq_of_mem_set hy with h1 | h1
  · exact h y h1
  · rw [h1]; exact hr
theorem rect_set {n m : Nat} {M : List (List Int)} (h : rect n m M) {i : Nat} {r : List Int} (hr : r.length = m) : rect n m (M.set i r) := ⟨by simpa using h.1, fun y hy => by
  rcases List.mem_or_eq_of_mem_set hy with h1 | h1
  · exact h.2 y h1
  · rw [h1]; exact hr⟩
theorem isM_sw {M : List (List Int)} (h : isM M) (i j : Nat) : isM (swL M i j) := isM_set (isM_set h (rw_B h j)) (rw_B h i)
theorem rect_sw {n m : Nat} {M : List (List Int)} (h : rect n m M) {i j : Nat} (hi : i < n) (hj : j < n) : rect n m (swL M i j) := rect_set (rect_set h (rect_row h hj)) (rect_row h hi)
/-- a matrix, and another one beside -/
def J (m : Nat) (M B : List (List Int)) (i j : Nat) : F := if j < m then cell M i j else cell B i (j - m)
theorem Inv_congr {n j r : Nat} {piv : Nat → Nat} {X Y : Nat → Nat → F} (h : ∀ i j, i < n → X i j = Y i j) (hI : Inv n j r piv X) : Inv n j r piv Y :=
  ⟨hI.le, hI.lt, hI.up, fun a ha => by rw [← h _ _ (Nat.lt_of_lt_of_le ha hI.le)]; exact hI.nz a ha, fun a ha i hi hne => by rw [← h _ _ hi]; exact hI.off a ha i hi hne, fun i h1 h2 k hk => by rw [← h _ _ h2]; exact hI.low i h1 h2 k hk⟩
theorem Eqv_congr {n : Nat} {X Y Z : Nat → Nat → F} (h : ∀ i j, i < n → Y i j = Z i j) (hE : Eqv n X Y) : Eqv n X Z := by
  obtain ⟨⟨Q, hQ⟩, P, hP⟩ := hE
  exact ⟨⟨Q, fun i j hi => (h i j hi).symm.trans (hQ i j hi)⟩, P, fun i j hi => (hP i j hi).trans (mm_congr (fun _ _ => rfl) fun k hk => h k j hk)⟩
theorem find_spec (M : List (List Int)) (j : Nat) : ∀ d i, (matrix_solve.find M j d i = i + d ∧ ∀ q, i ≤ q → q < i + d → rd (rw_ M q) (j : Int) = 0) ∨ (i ≤ matrix_solve.find M j d i ∧ matrix_solve.find M j d i < i + d ∧ rd (rw_ M (matrix_solve.find M j d i)) (j : Int) ≠ 0)
  | 0, i => .inl ⟨rfl, fun q h1 h2 => by omega⟩
  | d + 1, i => by
    unfold matrix_solve.find
    by_cases h : rd (rw_ M i) (j : Int) ≠ 0
    · rw [if_pos h]; exact .inr ⟨Nat.le_refl _, by omega, h⟩
    · rw [if_neg h]
      rcases find_spec M j d (i + 1) with ⟨h1, h2⟩ | ⟨h1, h2, h3⟩
      · refine .inl ⟨by omega, fun q hq1 hq2 => ?_⟩
        by_cases e : q = i
        · rw [e]; exact Classical.byContradiction h
        · exact h2 q (by omega) (by omega)
      · exact .inr ⟨by omega, by omega, h3⟩
theorem clear_v {k j n n0 m m2 : Nat} (hm : m ≤ 100) (hm2 : m2 ≤ 100) (hk : 200 ≤ k) (hn : n < n0) : ∀ (d i : Nat) (M B : List (List Int)), rect n0 m M → rect n0 m2 B → isM M → isM B → i + d = n0 →
    ∃ M' B', matrix_solve.clear k j n d i M B = some (M', B') ∧ rect n0 m M' ∧ rect n0 m2 B' ∧ isM M' ∧ isM B' ∧ (∀ q, q < n0 → q < i ∨ q = n → rw_ M' q = rw_ M q ∧ rw_ B' q = rw_ B q) ∧
      (∀ q, i ≤ q → q < n0 → q ≠ n → ∀ l, cell M' q l = cell M q l + cell M q j * cell M n l ∧ cell B' q l = cell B q l + cell M q j * cell B n l) := by
  intro d
  induction d with
  | zero =>
    intro i M B hM hB bM bB hi
    unfold matrix_solve.clear
    exact ⟨M, B, rfl, hM, hB, bM, bB, fun _ _ _ => ⟨rfl, rfl⟩, fun q h1 h2 => by omega⟩
  | succ d ih =>
    intro i M B hM hB bM bB hi
    unfold matrix_solve.clear
    have hil : i < M.length := by rw [hM.1]; omega
    have hil2 : i < B.length := by rw [hB.1]; omega
    by_cases h : i ≠ n ∧ rd (rw_ M i) (j : Int) ≠ 0
    · rw [if_pos h]
      obtain ⟨r, r1, r2, r3, r4⟩ := plus_v (k := k) (a := rw_ M i) (b := rw_ M n) (c := rd (rw_ M i) (j : Int)) (by rw [rect_row hM (by omega)]; omega) (by rw [rect_row hM (by omega)]; omega) (by rw [rect_row hM (by omega), rect_row hM (by omega)]) (rw_B bM i) (rw_B bM n) (rd_B (rw_B bM i) j)
      obtain ⟨s, s1, s2, s3, s4⟩ := plus_v (k := k) (a := rw_ B i) (b := rw_ B n) (c := rd (rw_ M i) (j : Int)) (by rw [rect_row hB (by omega)]; omega) (by rw [rect_row hB (by omega)]; omega) (by rw [rect_row hB (by omega), rect_row hB (by omega)]) (rw_B bB i) (rw_B bB n) (rd_B (rw_B bM i) j)
      rw [r1, Option.bind_some, s1, Option.bind_some]
      obtain ⟨M', B', h1, h2, h3, h4, h5, h6, h7⟩ := ih (i + 1) (M.set i r) (B.set i s) (rect_set hM (by rw [r2, rect_row hM (by omega)])) (rect_set hB (by rw [s2, rect_row hB (by omega)])) (isM_set bM r3) (isM_set bB s3) (by omega)
      refine ⟨M', B', h1, h2, h3, h4, h5, fun q hq hqi => ?_, fun q h8 h9 h10 l => ?_⟩
      · have := h6 q hq (by omega)
        rw [rw_set hil, rw_set hil2, if_neg (by omega), if_neg (by omega)] at this
        exact this
      · by_cases e : q = i
        · subst e
          have := h6 q h9 (by omega)
          rw [rw_set hil, rw_set hil2, if_pos rfl, if_pos rfl] at this
          unfold cell
          rw [this.1, this.2, r4, s4]
          exact ⟨rfl, rfl⟩
        · have := h7 q (by omega) h9 h10 l
          have c1 : ∀ l, cell (M.set i r) q l = cell M q l := fun l => by unfold cell; rw [rw_set hil, if_neg e]
          have c2 : ∀ l, cell (M.set i r) n l = cell M n l := fun l => by unfold cell; rw [rw_set hil, if_neg (by omega)]
          have c3 : ∀ l, cell (B.set i s) q l = cell B q l := fun l => by unfold cell; rw [rw_set hil2, if_neg e]
          have c4 : ∀ l, cell (B.set i s) n l = cell B n l := fun l => by unfold cell; rw [rw_set hil2, if_neg (by omega)]
          rw [c1, c1, c2, c3, c4] at this
          exact this
    · rw [if_neg h]
      obtain ⟨M', B', h1, h2, h3, h4, h5, h6, h7⟩ := ih (i + 1) M B hM hB bM bB (by omega)
      refine ⟨M', B', h1, h2, h3, h4, h5, fun q hq hqi => h6 q hq (by omega), fun q h8 h9 h10 l => ?_⟩
      by_cases e : q = i
      · subst e
        have := h6 q h9 (by omega)
        have hz : cell M q j = 0 := (cell_zero bM q j).1 (Classical.byContradiction fun z => h ⟨h10, z⟩)
        have e1 : cell M' q l = cell M q l := by unfold cell; rw [this.1]
        have e2 : cell B' q l = cell B q l := by unfold cell; rw [this.2]
        rw [e1, e2, hz, zero_mul, zero_mul, add_zero, add_zero]
        exact ⟨rfl, rfl⟩
      · exact h7 q (by omega) h9 h10 l
theorem cell_swL {n m : Nat} {M : List (List Int)} (h : rect n m M) {a r : Nat} (ha : a < n) (hr : r < n) (q l : Nat) : cell (swL M a r) q l = if q = r then cell M a l else cell M (sw r a q) l := by
  unfold cell
  rw [rw_swL (by rw [h.1]; exact ha) (by rw [h.1]; exact hr)]
  unfold swp sw
  by_cases e1 : q = a
  · by_cases e2 : q = r
    · rw [if_pos e1, if_pos e2, ← e1, e2]
    · rw [if_pos e1, if_neg e2, if_neg e2, if_pos e1]
  · by_cases e2 : q = r
    · rw [if_neg e1, if_pos e2, if_pos e2]
    · rw [if_neg e1, if_neg e2, if_neg e2, if_neg e2, if_neg e1]
theorem cols_v {k n0 m m2 : Nat} (hn0 : n0 ≤ 100) (hm : m ≤ 100) (hm2 : m2 ≤ 100) (hk : 200 ≤ k) : ∀ (d j n : Nat) (M B : List (List Int)) (piv : Nat → Nat), rect n0 m M → rect n0 m2 B → isM M → isM B → j + d = m → Inv n0 j n piv (J m M B) → (∀ a, a < n → J m M B a (piv a) = 1) →
    ∃ (M' B' : List (List Int)) (r : Nat) (piv' : Nat → Nat), matrix_solve.cols k d j n M B = some (M', B', r) ∧ rect n0 m M' ∧ rect n0 m2 B' ∧ isM M' ∧ isM B' ∧ Inv n0 m r piv' (J m M' B') ∧ (∀ a, a < r → J m M' B' a (piv' a) = 1) ∧ Eqv n0 (J m M B) (J m M' B') := by
  intro d
  induction d with
  | zero =>
    intro j n M B piv hM hB bM bB hj hI h1
    obtain rfl : j = m := by omega
    exact ⟨M, B, n, piv, rfl, hM, hB, bM, bB, hI, h1, Eqv_refl _ _⟩
  | succ d ih =>
    intro j n M B piv hM hB bM bB hj hI h1
    have hjm : j < m := by omega
    have hJ : ∀ q, J m M B q j = cell M q j := fun q => by unfold J; rw [if_pos hjm]
    unfold matrix_solve.cols
    have hnl := hI.le
    rcases find_spec M j (M.length - n) n with ⟨f1, f2⟩ | ⟨f1, f2, f3⟩
    · rw [if_pos (by rw [f1, hM.1]; omega)]
      exact ih (j + 1) n M B piv hM hB bM bB (by omega) (Inv_skip hI fun i h2 h3 => by rw [hJ]; exact (cell_zero bM i j).1 (f2 i h2 (by rw [hM.1]; omega))) h1
    · rw [if_neg (by omega)]
      rw [hM.1] at f1 f2 f3 ⊢
      generalize matrix_solve.find M j (n0 - n) n = a at f1 f2 f3
      have ha : a < n0 := by omega
      have hn : n < n0 := by omega
      have hx : cell M a j ≠ 0 := fun z => f3 ((cell_zero bM a j).2 z)
      have hs1 := rect_sw hM ha hn
      have hs2 := rect_sw hB ha hn
      have bs1 := isM_sw bM a n
      have bs2 := isM_sw bB a n
      have hp : rd (rw_ (swL M a n) n) (j : Int) = rd (rw_ M a) (j : Int) := by
        rw [cell_rd bs1, cell_rd bM, cell_swL hM ha hn, if_pos rfl]
      rw [hp, inv_v (rd_B (rw_B bM a) j), Option.bind_some]
      simp only
      obtain ⟨r, r1, r2, r3, r4⟩ := times_v (k := k) (l := rw_ (swL M a n) n) (c := ofF (inv (toF (rd (rw_ M a) (j : Int))))) (by rw [rect_row hs1 hn]; omega) (by rw [rect_row hs1 hn]; omega) (rw_B bs1 n) (ofF_rng _)
      obtain ⟨s, s1, s2, s3, s4⟩ := times_v (k := k) (l := rw_ (swL B a n) n) (c := ofF (inv (toF (rd (rw_ M a) (j : Int))))) (by rw [rect_row hs2 hn]; omega) (by rw [rect_row hs2 hn]; omega) (rw_B bs2 n) (ofF_rng _)
      rw [r1, Option.bind_some, s1, Option.bind_some]
      have hl1 : n < (swL M a n).length := by rw [hs1.1]; exact hn
      have hl2 : n < (swL B a n).length := by rw [hs2.1]; exact hn
      obtain ⟨M', B', q1, q2, q3, q4, q5, q6, q7⟩ := clear_v (k := k) (j := j) hm hm2 hk hn n0 0 ((swL M a n).set n r) ((swL B a n).set n s) (rect_set hs1 (by rw [r2, rect_row hs1 hn])) (rect_set hs2 (by rw [s2, rect_row hs2 hn])) (isM_set bs1 r3) (isM_set bs2 s3) (by omega)
      rw [q1, Option.bind_some]
      simp only
      have cn1 : ∀ l, cell ((swL M a n).set n r) n l = inv (cell M a j) * cell M a l := fun l => by
        have : cell ((swL M a n).set n r) n l = toF (rd r (l : Int)) := by unfold cell; rw [rw_set hl1, if_pos rfl]
        rw [this, r4, toF_ofF, mul_comm]
        have e : toF (rd (rw_ (swL M a n) n) (l : Int)) = cell (swL M a n) n l := rfl
        rw [e, cell_swL hM ha hn, if_pos rfl]
        rfl
      have cn2 : ∀ l, cell ((swL B a n).set n s) n l = inv (cell M a j) * cell B a l := fun l => by
        have : cell ((swL B a n).set n s) n l = toF (rd s (l : Int)) := by unfold cell; rw [rw_set hl2, if_pos rfl]
        rw [this, s4, toF_ofF, mul_comm]
        have e : toF (rd (rw_ (swL B a n) n) (l : Int)) = cell (swL B a n) n l := rfl
        rw [e, cell_swL hB ha hn, if_pos rfl]
        rfl
      have co1 : ∀ q l, q ≠ n → cell ((swL M a n).set n r) q l = cell M (sw n a q) l := fun q l hq => by
        have : cell ((swL M a n).set n r) q l = cell (swL M a n) q l := by unfold cell; rw [rw_set hl1, if_neg hq]
        rw [this, cell_swL hM ha hn, if_neg hq]
      have co2 : ∀ q l, q ≠ n → cell ((swL B a n).set n s) q l = cell B (sw n a q) l := fun q l hq => by
        have : cell ((swL B a n).set n s) q l = cell (swL B a n) q l := by unfold cell; rw [rw_set hl2, if_neg hq]
        rw [this, cell_swL hB ha hn, if_neg hq]
      have hst : ∀ i l, i < n0 → stp (J m M B) n a (inv (cell M a j)) (fun q => cell M (sw n a q) j) i l = J m M' B' i l := fun i l hi => by
        unfold stp J
        by_cases e : i = n
        · subst e
          have := q6 i hi (.inr rfl)
          have e1 : cell M' i l = cell ((swL M a i).set i r) i l := by unfold cell; rw [this.1]
          have e2 : cell B' i (l - m) = cell ((swL B a i).set i s) i (l - m) := by unfold cell; rw [this.2]
          rw [if_pos rfl, e1, e2, cn1, cn2]
          split <;> rfl
        · have h8 := q7 i (Nat.zero_le _) hi e
          rw [if_neg e, (h8 l).1, (h8 (l - m)).2, co1 _ _ e, co1 _ _ e, co2 _ _ e, cn1, cn2]
          split <;> rfl
      have hd : ∀ i, i < n0 → i ≠ n → stp (J m M B) n a (inv (cell M a j)) (fun q => cell M (sw n a q) j) i j = 0 := fun i hi hne => by
        unfold stp
        rw [if_neg hne, hJ, hJ, inv_mul hx, mul_one, add_self]
      have hstep := Inv_step (c := inv (cell M a j)) (d := fun q => cell M (sw n a q) j) hI f1 ha (by rw [hJ]; exact hx) (inv_ne hx) hd
      have hone : ∀ b, b < n + 1 → J m M' B' b (if b = n then j else piv b) = 1 := fun b hb => by
        rw [← hst b _ (by omega)]
        unfold stp
        by_cases e : b = n
        · rw [if_pos e, if_pos e, hJ, inv_mul hx]
        · rw [if_neg e, if_neg e]
          have e3 : sw n a b = b := by unfold sw; rw [if_neg e, if_neg (by omega)]
          rw [e3, hI.off b (by omega) a ha (by omega), mul_zero, mul_zero, add_zero, h1 b (by omega)]
      obtain ⟨M2, B2, r', piv', t1, t2, t3, t4, t5, t6, t7, t8⟩ := ih (j + 1) (n + 1) M' B' (fun b => if b = n then j else piv b) q2 q3 q4 q5 (by omega) (Inv_congr hst hstep) hone
      exact ⟨M2, B2, r', piv', t1, t2, t3, t4, t5, t6, t7, Eqv_trans (Eqv_congr hst (Eqv_stp (inv_ne hx) hn ha _ _)) t8⟩
theorem solve_v {k n0 m m2 : Nat} {M B : List (List Int)} (h0 : 0 < n0) (hn0 : n0 ≤ 100) (hm : m ≤ 100) (hm2 : m2 ≤ 100) (hk : 200 ≤ k) (hM : rect n0 m M) (hB : rect n0 m2 B) (bM : isM M) (bB : isM B) :
    ∃ (M' B' : List (List Int)) (r : Nat) (piv : Nat → Nat), matrix_solve.f k M B = some (M', B', r) ∧ rect n0 m M' ∧ rect n0 m2 B' ∧ isM M' ∧ isM B' ∧ Inv n0 m r piv (J m M' B') ∧ (∀ a, a < r → J m M' B' a (piv a) = 1) ∧ Eqv n0 (J m M B) (J m M' B') := by
  unfold matrix_solve.f
  rw [rect_row hM h0]
  exact cols_v hn0 hm hm2 hk m 0 0 M B (fun a => a) hM hB bM bB (by omega) (Inv_start _ _ _) (fun a ha => by omega)
theorem J_left {m : Nat} {M B : List (List Int)} {i j : Nat} (h : j < m) : J m M B i j = cell M i j := if_pos h
theorem J_right (m : Nat) (M B : List (List Int)) (i j : Nat) : J m M B i (m + j) = cell B i j := by unfold J; rw [if_neg (by omega), Nat.add_sub_cancel_left]
end Go.Proofs.Ythhncoogmncdkaa.Pure
-- written by the session's own program (wip/prt.py) over the kit's print: not print.sh's own text
namespace Go.Proofs.Ythhncoogmncdkaa.PA
open Go.RowKit Go.Proofs.YthhncoogmncdkaaW.PrintWords Go.Proofs.YthhncoogmncdkaaW.PrintLast Go.Proofs.YthhncoogmncdkaaW.PrintMore
attribute [local go_sem] max2_int min2_int max_two min_two max_three min_three max_four min_four   -- for this text's walks alone
set_option linter.unusedVariables false
set_option linter.unusedSimpArgs false

/-! ### codec_there: function 24 -/
def codec_there.l0 : Nat → List (List Int) → List Int → List (List Int) → Int → Int → Option (List Int × Bool)
  | 0, _, _, _, _, _ => none
  | k + 1, x0, x6, x13, x14, x15 => if x15 < x14 then (if 0 ≤ x15 then (if x15 < (x13.length : Int) then (if ((rd_L1 x13 x15).length : Int) = 0 then (codec_there.l0 k x0 x6 x13 x14 (wrap64 (x15 + 1))) else (if x6.length < 17592186044416 then ((some (x6 ++ [x15] : List Int)).bind fun y113 => (if ((rd_L1 x13 x15).length : Int) > 65536 then (some (([] : List Int), false)) else (if 0 < (y113.length : Int) then (if 0 ≤ (rd y113 0) then (if (rd y113 0) < (x0.length : Int) then (if ((rd_L1 x13 x15).length : Int) = ((rd_L1 x0 (rd y113 0)).length : Int) then (codec_there.l0 k x0 y113 x13 x14 (wrap64 (x15 + 1))) else (some (([] : List Int), false))) else (none)) else (none)) else (none)))) else (none))) else (none)) else (none)) else (some (x6, true))
def codec_there.f (k : Nat) (l0 : List (List Int)) (a1 : Int) : Option (List Int × Bool) := if (l0.length : Int) = a1 then (codec_there.l0 k l0 ([] : List Int) l0 (l0.length : Int) 0) else (some (([] : List Int), false))
theorem codec_there.mono_l : ∀ k, (∀ y0 y1 y2 y3 y4, LeO (codec_there.l0 k y0 y1 y2 y3 y4) (codec_there.l0 (k + 1) y0 y1 y2 y3 y4))
  | 0 => fun _ _ _ _ _ r h => by simp [codec_there.l0] at h
  | k + 1 => by
    have ih0 := codec_there.mono_l k
    · intro y0 y1 y2 y3 y4
      unfold codec_there.l0
      repeat' first
      | (with_reducible exact ih0 _ _ _ _ _)
      | (with_reducible exact LeO.refl _)
      | (with_reducible exact LeO.none _)
      | (with_reducible refine LeO.ite ?_ ?_)
      | (with_reducible refine LeO.bind ?_ (fun _ => ?_))
      | exact ih0 _ _ _ _ _
      | exact LeO.none _
      | refine LeO.ite ?_ ?_
      | refine LeO.bind ?_ (fun _ => ?_)
theorem codec_there.mono : ∀ a0 a1 k, LeO (codec_there.f k a0 a1) (codec_there.f (k + 1) a0 a1) := by
  intro a0 a1 k
  have ih0 := codec_there.mono_l k
  unfold codec_there.f
  repeat' first
      | (with_reducible exact ih0 _ _ _ _ _)
      | (with_reducible exact LeO.refl _)
      | (with_reducible exact LeO.none _)
      | (with_reducible refine LeO.ite ?_ ?_)
      | (with_reducible refine LeO.bind ?_ (fun _ => ?_))
      | exact ih0 _ _ _ _ _
      | exact LeO.none _
      | refine LeO.ite ?_ ?_
      | refine LeO.bind ?_ (fun _ => ?_)
set_option maxHeartbeats 8000000 in
set_option maxRecDepth 100000 in
theorem codec_there.calls (k : Nat) (A0 : Option Addr) (c0 : Nat) (l0 : List (List Int)) (a1 : Int) (r1 : List Int) (r2 : Bool) (w : World) (hr0 : Kd.C (Kd.slice 5 (Kd.int .u8)) w A0 l0.length l0) (hc0 : l0.length ≤ c0) (h : codec_there.f k l0 a1 = some (r1, r2)) :
    Calls Try.prog 24 #[.slice A0 l0.length c0, .int .i64 a1] w fun e w' => ∃ v0_ : Value, e = .returned (.tuple #[v0_, .bool r2]) ∧ Kd.R (Kd.int .i64) 3 w' w.heap.size (fun _ => True) v0_ r1 ∧ Below w.heap.size w w' := by
  have HR0 := Aside0.mk hr0
  have HC0 := Aside0.mk hc0
  clear hr0 hc0
  have HB := Aside0.mk (Below.refl w.heap.size w)
  have H : (if (l0.length : Int) = a1 then (codec_there.l0 k l0 ([] : List Int) l0 (l0.length : Int) 0) else (some (([] : List Int), false))) = some (r1, r2) := h
  clear h
  by_cases c3 : (l0.length : Int) = a1
  · rw [if_pos c3] at H
    have c3b0 : ((l0.length : Int) == a1) = true := beq_iff_eq.mpr c3
    have c3b1 : ((l0.length : Int) != a1) = false := bne_eq_false_iff_eq.mpr c3
    clear c3
    have H' := Aside0.mk H
    clear H
    go_enter Try.func24, Try.ntmps24
    go_wp2
    go_loopg [6, 15] k (fun kq v6 v15 w' => ∃ (x6_1 : List Int) (x15_1 : Int), v15 = .int .i64 x15_1 ∧ Aside0 (codec_there.l0 kq l0 x6_1 l0 (l0.length : Int) x15_1 = some (r1, r2)) ∧ Aside0 (kq ≤ k) ∧ Aside0 (Kd.R (Kd.int .i64) 3 w' w.heap.size (fun _ => True) v6 x6_1) ∧ Aside0 (Below w.heap.size w w'))
    case atStart => exact ⟨(([] : List Int)), (0), (by first | rfl | (simp; done) | (simp [*]; done)), H', ⟨Nat.le_refl _⟩, ⟨by first | exact Kd.R_nil _ _ _ _ _ | exact Kd.N_nil _ _ _ _ _ | exact Kd.V_nil _ _ _ _ _ | exact Kd.Q_nil _ _ _ _ _ | exact Kd.S_nil _ _ _ _ _⟩, ⟨by repeat (first | (with_reducible first | exact HB.out | apply below_alloc | apply pw_below_drewN | apply below_drew1) | exact HB.out)⟩⟩
    case round =>
      clear H'
      try clear c2
      try clear p2
      try clear c3
      try clear c3b0
      try clear c3b1
      obtain ⟨x6_1, x15_1, rfl, HA, HK1, HO_6, HB⟩ := hrel
      cases gk with
      | zero => exact absurd HA.out (by simp [codec_there.l0])
      | succ k1 =>
        have H := HA.out
        clear HA
        simp only [codec_there.l0] at H
        by_cases c4 : x15_1 < (l0.length : Int)
        · rw [if_pos c4] at H
          have c4b0 : decide (x15_1 < (l0.length : Int)) = true := decide_eq_true c4
          clear c4
          by_cases c5 : 0 ≤ x15_1
          · rw [if_pos c5] at H
            have c5b0 : decide (0 ≤ x15_1) = true := decide_eq_true c5
            clear c5
            by_cases c6 : x15_1 < (l0.length : Int)
            · rw [if_pos c6] at H
              have c6b0 : decide (x15_1 < (l0.length : Int)) = true := decide_eq_true c6
              clear c6
              by_cases c7 : ((rd_L1 l0 x15_1).length : Int) = 0
              · rw [if_pos c7] at H
                have c7b0 : (((rd_L1 l0 x15_1).length : Int) == 0) = true := beq_iff_eq.mpr c7
                have c7b1 : (((rd_L1 l0 x15_1).length : Int) != 0) = false := bne_eq_false_iff_eq.mpr c7
                clear c7
                have H' := Aside0.mk H
                clear H
                have p112 : 0 ≤ (x15_1 : Int) := of_decide_eq_true (by first | (with_reducible assumption) | assumption)
                have q112 : x15_1 < (l0.length : Int) := of_decide_eq_true (by first | (with_reducible assumption) | assumption)
                obtain ⟨ad112, A112_0, c112_0, e112, hx112_0, hl112_0, hi112_0⟩ := at_L1 HR0.out x15_1 p112 q112
                cases e112
                replace hx112_0 := (HB.out.cell (World.block_lt_of_cell? w _ hx112_0)).trans hx112_0
                have HR112_0 := Aside0.mk hi112_0
                have HC112_0 := Aside0.mk hl112_0
                clear hi112_0 hl112_0
                replace p112 := eq_true p112
                replace q112 := eq_true q112
                go_wp2
                go_roundg k1
                case measure => have := HK1.out; omega
                case rel => exact ⟨(x6_1), (wrap64 (x15_1 + 1)), (by first | rfl | (simp; done) | (simp [*]; done)), H', ⟨by have := HK1.out; omega⟩, ⟨by (with_reducible repeat (first | apply Kd.R_alloc | apply Kd.R_drewN | apply Kd.R_drew)); exact HO_6.out⟩, ⟨by repeat (first | (with_reducible first | exact HB.out | apply below_alloc | apply pw_below_drewN | apply below_drew1) | exact HB.out)⟩⟩
              · rw [if_neg c7] at H
                have c7b0 : (((rd_L1 l0 x15_1).length : Int) == 0) = false := beq_eq_false_iff_ne.mpr c7
                have c7b1 : (((rd_L1 l0 x15_1).length : Int) != 0) = true := bne_iff_ne.mpr c7
                have c7b2 : ¬ ((rd_L1 l0 x15_1) = []) := fun h_ => c7 (by rw [h_]; rfl)
                by_cases c8 : x6_1.length < 17592186044416
                · rw [if_pos c8] at H
                  have LMc8 := Aside0.mk c8
                  clear c8
                  obtain ⟨y113, hy113⟩ : ∃ y_ : List Int, y_ = (x6_1 ++ [x15_1]) := ⟨_, rfl⟩
                  replace H : (if ((rd_L1 l0 x15_1).length : Int) > 65536 then (some (([] : List Int), false)) else (if 0 < (y113.length : Int) then (if 0 ≤ (rd y113 0) then (if (rd y113 0) < (l0.length : Int) then (if ((rd_L1 l0 x15_1).length : Int) = ((rd_L1 l0 (rd y113 0)).length : Int) then (codec_there.l0 k1 l0 y113 l0 (l0.length : Int) (wrap64 (x15_1 + 1))) else (some (([] : List Int), false))) else (none)) else (none)) else (none))) = some (r1, r2) := by first | (rw [hy113]; with_reducible exact H) | (have H2_ := (Option.bind_some _ _).symm.trans H; rw [hy113]; with_reducible exact H2_) | (have H2_ := (Option.bind_some _ _).symm.trans H; with_reducible exact H2_) | with_reducible exact H | (rw [hy113]; exact H) | exact H
                  have Ny113 := Aside0.mk hy113
                  clear hy113
                  by_cases c9 : ((rd_L1 l0 x15_1).length : Int) > 65536
                  · rw [if_pos c9] at H
                    have c9b0 : decide (65536 < ((rd_L1 l0 x15_1).length : Int)) = true := decide_eq_true c9
                    have c9b1 : decide (65536 < (rd_L1 l0 x15_1).length) = true := decide_eq_true (by omega)
                    clear c9
                    simp only [Option.some.injEq, Prod.mk.injEq] at H
                    obtain ⟨rfl, rfl⟩ := H
                    have p112 : 0 ≤ (x15_1 : Int) := of_decide_eq_true (by first | (with_reducible assumption) | assumption)
                    have q112 : x15_1 < (l0.length : Int) := of_decide_eq_true (by first | (with_reducible assumption) | assumption)
                    obtain ⟨ad112, A112_0, c112_0, e112, hx112_0, hl112_0, hi112_0⟩ := at_L1 HR0.out x15_1 p112 q112
                    cases e112
                    replace hx112_0 := (HB.out.cell (World.block_lt_of_cell? w _ hx112_0)).trans hx112_0
                    have HR112_0 := Aside0.mk hi112_0
                    have HC112_0 := Aside0.mk hl112_0
                    clear hi112_0 hl112_0
                    replace p112 := eq_true p112
                    replace q112 := eq_true q112
                    go_wp2_with (first | ((with_reducible refine gate_builtin (b := .append) (xs := #[.tmp 23, .tmp 25]) rfl ?_); (try (refine gate_guard (by rfl) ?_; dsimp only)); at_builtin; refine Kd.R_append (Kd.int .i64) (w0 := w) w.heap.size rfl (.tmp 23) (.tmp 25) 37 3 (.int .i64 0) 8 rfl Try.underlying37 info3 rfl (by decide) (by omega) u6 x6_1 x15_1 [.int .i64 x15_1] (fun _ => True) (fun _ => False) rfl rfl ?aP (fun _ hk => hk.elim) ?aF ?aO ?aB ?aS ?aL ?_; (case aP => exact rfl); (case aB => exact (by repeat (first | (with_reducible first | exact HB.out | apply below_alloc | apply pw_below_drewN | apply below_drew1) | exact HB.out))); (case aF => exact (fun _ _ => trivial)); (case aO => exact (by (with_reducible repeat (first | apply Kd.R_alloc | apply Kd.R_drewN | apply Kd.R_drew)); exact HO_6.out)); (case aS => exact (below_size (by repeat (first | (with_reducible first | exact HB.out | apply below_alloc | apply pw_below_drewN | apply below_drew1) | exact HB.out)))); (case aL => have := LMc8.out; omega); intro v114 w10 ho hb hg hat; rw [← Ny113.out] at ho; have n0_ := Aside0.mk (hb); have n1_ := Aside0.mk (ho); clear HB; clear HO_6; have HB := n0_; have HO115 := n1_; clear n0_ n1_; clear ho hb hg hat))
                    go_ret2
                    exact ⟨_, by first | rfl | (simp [errW_none, errW_some] <;> rfl) | (simp [*, errW_none, errW_some] <;> rfl), by first | exact Kd.R_nil _ _ _ _ _ | exact Kd.N_nil _ _ _ _ _ | exact Kd.V_nil _ _ _ _ _ | exact Kd.Q_nil _ _ _ _ _ | exact Kd.S_nil _ _ _ _ _, by repeat (first | (with_reducible first | exact HB.out | apply below_alloc | apply pw_below_drewN | apply below_drew1) | exact HB.out)⟩
                  · rw [if_neg c9] at H
                    have c9b0 : decide (65536 < ((rd_L1 l0 x15_1).length : Int)) = false := decide_eq_false c9
                    have c9b1 : decide (65536 < (rd_L1 l0 x15_1).length) = false := decide_eq_false (by omega)
                    clear c9
                    by_cases c11 : 0 < (y113.length : Int)
                    · rw [if_pos c11] at H
                      have c11b0 : decide (0 < (y113.length : Int)) = true := decide_eq_true c11
                      have c11b1 : decide (0 < y113.length) = true := decide_eq_true (by omega)
                      clear c11
                      by_cases c12 : 0 ≤ (rd y113 0)
                      · rw [if_pos c12] at H
                        have c12b0 : decide (0 ≤ (rd y113 0)) = true := decide_eq_true c12
                        clear c12
                        by_cases c13 : (rd y113 0) < (l0.length : Int)
                        · rw [if_pos c13] at H
                          have c13b0 : decide ((rd y113 0) < (l0.length : Int)) = true := decide_eq_true c13
                          clear c13
                          by_cases c14 : ((rd_L1 l0 x15_1).length : Int) = ((rd_L1 l0 (rd y113 0)).length : Int)
                          · rw [if_pos c14] at H
                            have c14b0 : (((rd_L1 l0 x15_1).length : Int) == ((rd_L1 l0 (rd y113 0)).length : Int)) = true := beq_iff_eq.mpr c14
                            have c14b1 : (((rd_L1 l0 x15_1).length : Int) != ((rd_L1 l0 (rd y113 0)).length : Int)) = false := bne_eq_false_iff_eq.mpr c14
                            have c14b2 : ((rd_L1 l0 x15_1).length == (rd_L1 l0 (rd y113 0)).length) = true := by first | simpa using c14 | (simp at c14 ⊢; omega)
                            clear c14
                            have H' := Aside0.mk H
                            clear H
                            have p112 : 0 ≤ (x15_1 : Int) := of_decide_eq_true (by first | (with_reducible assumption) | assumption)
                            have q112 : x15_1 < (l0.length : Int) := of_decide_eq_true (by first | (with_reducible assumption) | assumption)
                            obtain ⟨ad112, A112_0, c112_0, e112, hx112_0, hl112_0, hi112_0⟩ := at_L1 HR0.out x15_1 p112 q112
                            cases e112
                            replace hx112_0 := (HB.out.cell (World.block_lt_of_cell? w _ hx112_0)).trans hx112_0
                            have HR112_0 := Aside0.mk hi112_0
                            have HC112_0 := Aside0.mk hl112_0
                            clear hi112_0 hl112_0
                            replace p112 := eq_true p112
                            replace q112 := eq_true q112
                            go_wp2_with (first | ((with_reducible refine gate_builtin (b := .append) (xs := #[.tmp 23, .tmp 25]) rfl ?_); (try (refine gate_guard (by rfl) ?_; dsimp only)); at_builtin; refine Kd.R_append (Kd.int .i64) (w0 := w) w.heap.size rfl (.tmp 23) (.tmp 25) 37 3 (.int .i64 0) 8 rfl Try.underlying37 info3 rfl (by decide) (by omega) u6 x6_1 x15_1 [.int .i64 x15_1] (fun _ => True) (fun _ => False) rfl rfl ?aP (fun _ hk => hk.elim) ?aF ?aO ?aB ?aS ?aL ?_; (case aP => exact rfl); (case aB => exact (by repeat (first | (with_reducible first | exact HB.out | apply below_alloc | apply pw_below_drewN | apply below_drew1) | exact HB.out))); (case aF => exact (fun _ _ => trivial)); (case aO => exact (by (with_reducible repeat (first | apply Kd.R_alloc | apply Kd.R_drewN | apply Kd.R_drew)); exact HO_6.out)); (case aS => exact (below_size (by repeat (first | (with_reducible first | exact HB.out | apply below_alloc | apply pw_below_drewN | apply below_drew1) | exact HB.out)))); (case aL => have := LMc8.out; omega); intro v114 w15 ho hb hg hat; rw [← Ny113.out] at ho; have n0_ := Aside0.mk (hb); have n1_ := Aside0.mk (ho); clear HB; clear HO_6; have HB := n0_; have HO115 := n1_; clear n0_ n1_; clear ho hb hg hat; obtain ⟨Ao16, co16, eo16⟩ := Kd.R_slice HO115.out; subst eo16; have p116 : 0 ≤ (0 : Int) := (by omega); have q116 : 0 < (y113.length : Int) := of_decide_eq_true (by first | (with_reducible assumption) | assumption); obtain ⟨ad116, e116, hx116_0⟩ := Kd.at_int (Kd.R_reads' HO115.out).2.2 0 p116 q116; cases e116; have qi116 : (0 < y113.length) = True := eq_true (by omega); (try rw [show ((0 : Int)).toNat = 0 from rfl] at hx116_0); (try rw [Addr.add_zero'] at hx116_0); replace p116 := eq_true p116; replace q116 := eq_true q116; have p117 : 0 ≤ ((rd y113 0) : Int) := of_decide_eq_true (by first | (with_reducible assumption) | assumption); have q117 : (rd y113 0) < (l0.length : Int) := of_decide_eq_true (by first | (with_reducible assumption) | assumption); obtain ⟨ad117, A117_0, c117_0, e117, hx117_0, hl117_0, hi117_0⟩ := at_L1 HR0.out (rd y113 0) p117 q117; obtain rfl : ad112 = ad117 := (by injection e117); replace hx117_0 := (HB.out.cell (World.block_lt_of_cell? w _ hx117_0)).trans hx117_0; have HR117_0 := Aside0.mk hi117_0; have HC117_0 := Aside0.mk hl117_0; clear hi117_0 hl117_0; replace p117 := eq_true p117; replace q117 := eq_true q117))
                            go_roundg k1
                            case measure => have := HK1.out; omega
                            case rel => exact ⟨(y113), (wrap64 (x15_1 + 1)), (by first | rfl | (simp; done) | (simp [*]; done)), H', ⟨by have := HK1.out; omega⟩, ⟨by (with_reducible repeat (first | apply Kd.R_alloc | apply Kd.R_drewN | apply Kd.R_drew)); exact HO115.out⟩, ⟨by repeat (first | (with_reducible first | exact HB.out | apply below_alloc | apply pw_below_drewN | apply below_drew1) | exact HB.out)⟩⟩
                          · rw [if_neg c14] at H
                            have c14b0 : (((rd_L1 l0 x15_1).length : Int) == ((rd_L1 l0 (rd y113 0)).length : Int)) = false := beq_eq_false_iff_ne.mpr c14
                            have c14b1 : (((rd_L1 l0 x15_1).length : Int) != ((rd_L1 l0 (rd y113 0)).length : Int)) = true := bne_iff_ne.mpr c14
                            have c14b2 : ((rd_L1 l0 x15_1).length == (rd_L1 l0 (rd y113 0)).length) = false := by first | simpa using c14 | (simp at c14 ⊢; omega)
                            simp only [Option.some.injEq, Prod.mk.injEq] at H
                            obtain ⟨rfl, rfl⟩ := H
                            have p112 : 0 ≤ (x15_1 : Int) := of_decide_eq_true (by first | (with_reducible assumption) | assumption)
                            have q112 : x15_1 < (l0.length : Int) := of_decide_eq_true (by first | (with_reducible assumption) | assumption)
                            obtain ⟨ad112, A112_0, c112_0, e112, hx112_0, hl112_0, hi112_0⟩ := at_L1 HR0.out x15_1 p112 q112
                            cases e112
                            replace hx112_0 := (HB.out.cell (World.block_lt_of_cell? w _ hx112_0)).trans hx112_0
                            have HR112_0 := Aside0.mk hi112_0
                            have HC112_0 := Aside0.mk hl112_0
                            clear hi112_0 hl112_0
                            replace p112 := eq_true p112
                            replace q112 := eq_true q112
                            go_wp2_with (first | ((with_reducible refine gate_builtin (b := .append) (xs := #[.tmp 23, .tmp 25]) rfl ?_); (try (refine gate_guard (by rfl) ?_; dsimp only)); at_builtin; refine Kd.R_append (Kd.int .i64) (w0 := w) w.heap.size rfl (.tmp 23) (.tmp 25) 37 3 (.int .i64 0) 8 rfl Try.underlying37 info3 rfl (by decide) (by omega) u6 x6_1 x15_1 [.int .i64 x15_1] (fun _ => True) (fun _ => False) rfl rfl ?aP (fun _ hk => hk.elim) ?aF ?aO ?aB ?aS ?aL ?_; (case aP => exact rfl); (case aB => exact (by repeat (first | (with_reducible first | exact HB.out | apply below_alloc | apply pw_below_drewN | apply below_drew1) | exact HB.out))); (case aF => exact (fun _ _ => trivial)); (case aO => exact (by (with_reducible repeat (first | apply Kd.R_alloc | apply Kd.R_drewN | apply Kd.R_drew)); exact HO_6.out)); (case aS => exact (below_size (by repeat (first | (with_reducible first | exact HB.out | apply below_alloc | apply pw_below_drewN | apply below_drew1) | exact HB.out)))); (case aL => have := LMc8.out; omega); intro v114 w17 ho hb hg hat; rw [← Ny113.out] at ho; have n0_ := Aside0.mk (hb); have n1_ := Aside0.mk (ho); clear HB; clear HO_6; have HB := n0_; have HO115 := n1_; clear n0_ n1_; clear ho hb hg hat; obtain ⟨Ao18, co18, eo18⟩ := Kd.R_slice HO115.out; subst eo18; have p116 : 0 ≤ (0 : Int) := (by omega); have q116 : 0 < (y113.length : Int) := of_decide_eq_true (by first | (with_reducible assumption) | assumption); obtain ⟨ad116, e116, hx116_0⟩ := Kd.at_int (Kd.R_reads' HO115.out).2.2 0 p116 q116; cases e116; have qi116 : (0 < y113.length) = True := eq_true (by omega); (try rw [show ((0 : Int)).toNat = 0 from rfl] at hx116_0); (try rw [Addr.add_zero'] at hx116_0); replace p116 := eq_true p116; replace q116 := eq_true q116; have p117 : 0 ≤ ((rd y113 0) : Int) := of_decide_eq_true (by first | (with_reducible assumption) | assumption); have q117 : (rd y113 0) < (l0.length : Int) := of_decide_eq_true (by first | (with_reducible assumption) | assumption); obtain ⟨ad117, A117_0, c117_0, e117, hx117_0, hl117_0, hi117_0⟩ := at_L1 HR0.out (rd y113 0) p117 q117; obtain rfl : ad112 = ad117 := (by injection e117); replace hx117_0 := (HB.out.cell (World.block_lt_of_cell? w _ hx117_0)).trans hx117_0; have HR117_0 := Aside0.mk hi117_0; have HC117_0 := Aside0.mk hl117_0; clear hi117_0 hl117_0; replace p117 := eq_true p117; replace q117 := eq_true q117))
                            go_ret2
                            exact ⟨_, by first | rfl | (simp [errW_none, errW_some] <;> rfl) | (simp [*, errW_none, errW_some] <;> rfl), by first | exact Kd.R_nil _ _ _ _ _ | exact Kd.N_nil _ _ _ _ _ | exact Kd.V_nil _ _ _ _ _ | exact Kd.Q_nil _ _ _ _ _ | exact Kd.S_nil _ _ _ _ _, by repeat (first | (with_reducible first | exact HB.out | apply below_alloc | apply pw_below_drewN | apply below_drew1) | exact HB.out)⟩
                        · rw [if_neg c13] at H
                          exact absurd H (by simp)
                      · rw [if_neg c12] at H
                        exact absurd H (by simp)
                    · rw [if_neg c11] at H
                      exact absurd H (by simp)
                · rw [if_neg c8] at H
                  exact absurd H (by simp)
            · rw [if_neg c6] at H
              exact absurd H (by simp)
          · rw [if_neg c5] at H
            exact absurd H (by simp)
        · rw [if_neg c4] at H
          have c4b0 : decide (x15_1 < (l0.length : Int)) = false := decide_eq_false c4
          clear c4
          simp only [Option.some.injEq, Prod.mk.injEq] at H
          obtain ⟨rfl, rfl⟩ := H
          go_wp2
          go_ret2
          exact ⟨_, by first | rfl | (simp [errW_none, errW_some] <;> rfl) | (simp [*, errW_none, errW_some] <;> rfl), by (with_reducible repeat (first | apply Kd.R_alloc | apply Kd.R_drewN | apply Kd.R_drew)); exact HO_6.out, by repeat (first | (with_reducible first | exact HB.out | apply below_alloc | apply pw_below_drewN | apply below_drew1) | exact HB.out)⟩
  · rw [if_neg c3] at H
    have c3b0 : ((l0.length : Int) == a1) = false := beq_eq_false_iff_ne.mpr c3
    have c3b1 : ((l0.length : Int) != a1) = true := bne_iff_ne.mpr c3
    simp only [Option.some.injEq, Prod.mk.injEq] at H
    obtain ⟨rfl, rfl⟩ := H
    go_enter Try.func24, Try.ntmps24
    go_wp2
    go_ret2
    exact ⟨_, by first | rfl | (simp [errW_none, errW_some] <;> rfl) | (simp [*, errW_none, errW_some] <;> rfl), by first | exact Kd.R_nil _ _ _ _ _ | exact Kd.N_nil _ _ _ _ _ | exact Kd.V_nil _ _ _ _ _ | exact Kd.Q_nil _ _ _ _ _ | exact Kd.S_nil _ _ _ _ _, by repeat (first | (with_reducible first | exact HB.out | apply below_alloc | apply pw_below_drewN | apply below_drew1) | exact HB.out)⟩

-- NOT PRINTED: function 25 (codec_rows_cells)

end Go.Proofs.Ythhncoogmncdkaa.PA
-- written by the session's own program (wip/prt.py) over the kit's print: not print.sh's own text
namespace Go.Proofs.Ythhncoogmncdkaa.PA
open Go.RowKit Go.Proofs.YthhncoogmncdkaaW.PrintWords Go.Proofs.YthhncoogmncdkaaW.PrintLast Go.Proofs.YthhncoogmncdkaaW.PrintMore
attribute [local go_sem] max2_int min2_int max_two min_two max_three min_three max_four min_four   -- for this text's walks alone
set_option linter.unusedVariables false
set_option linter.unusedSimpArgs false

/-! ### codec_Encode: function 9 -/
theorem codec_Encode.i2 : (Try.prog.info? 23).map (fun i => (i.zero, i.size, i.bytes)) = some (some (.slice none 0 0), 1, 24) := by kernel_rfl
/-- cells by their rows -/
def codec_Encode.dots (K : Nat) : List (List Int) → List (List Int) → List (List Int) → Option (List (List Int) × Int)
  | [], _, out => some (out, 0)
  | row :: rs, data, out => (kernel_Dot.f K row data).bind fun c => if c.2 ≠ 0 then some ([], c.2) else codec_Encode.dots K rs data (out ++ [c.1])
theorem codec_Encode.dots_mono {K : Nat} : ∀ (rs data out : List (List Int)), LeO (codec_Encode.dots K rs data out) (codec_Encode.dots (K + 1) rs data out)
  | [], _, _ => LeO.refl _
  | _ :: rs, _, _ => LeO.bind (kernel_Dot.mono _ _ _) (fun _ => LeO.ite (LeO.refl _) (codec_Encode.dots_mono rs _ _))
def codec_Encode.f (K : Nat) (a0 a1 : Int) (data : List (List Int)) : Option (List (List Int) × Int) :=
  if codec_Row.bad a0 a1 then some ([], 2) else if codec_Row.inv a0 a1 then (codec_there.f K data a0).bind fun t => if t.2 = false then some ([], 40) else if (t.1.length : Int) < a0 then some ([], 40) else codec_Encode.dots K ((codec_Row.M a0.toNat a1.toNat).drop a0.toNat) data [] else none
theorem codec_Encode.mono : ∀ a0 a1 a2 k, LeO (codec_Encode.f k a0 a1 a2) (codec_Encode.f (k + 1) a0 a1 a2) := fun _ _ _ _ => LeO.ite (LeO.refl _) (LeO.ite (LeO.bind (codec_there.mono _ _ _) (fun _ => LeO.ite (LeO.refl _) (LeO.ite (LeO.refl _) (codec_Encode.dots_mono _ _ _)))) (LeO.refl _))
set_option maxHeartbeats 4000000 in
/-- from row k on -/
theorem codec_Encode.cells (K k r : Nat) (hk : k ≤ 12) (hr : r ≤ 4) (g : Nat) (val : Nat → Value) (A : Option Addr) (c : Nat) (data : List (List Int)) (r1 : List (List Int)) (r2 : Int) (W : World) (hmp : MapIs W g (k + r) (fun i => pk k r i) val) (hv : ∀ i, i < k + r → RowC W (val i) (rw_ (codec_Row.M k r) i))
    (hC : Kd.C (Kd.slice 5 (Kd.int .u8)) W A data.length data) (hc : data.length ≤ c) (h : codec_Encode.dots K ((codec_Row.M k r).drop k) data [] = some (r1, r2)) :
    Calls Try.prog 25 #[.map (some g), .int .i64 k, .int .i64 r, .int .i64 k, .int .i64 ((k : Int) + r), .slice A data.length c] W fun e w' => ∃ v, e = .returned (.tuple #[v, .int .i64 r2]) ∧ Kd.S (Kd.slice 5 (Kd.int .u8)) 23 w' W.heap.size (fun _ => True) v r1 ∧ Below W.heap.size W w' := by
  have H := Lib.hid h
  have HMP := Lib.hid hmp
  have HV := Lib.hid hv
  have HC := Lib.hid hC
  have HCL := Lib.hid hc
  have HK := Lib.hid hk
  have HR := Lib.hid hr
  have HB := Lib.hid (Below.refl W.heap.size W)
  clear h hmp hv hC hc hk hr
  go_enter Try.func25, Try.ntmps25
  go_wp2_with fail
  go_loopg [14, 15, 16, 17] r (fun gk s14 s15 s16 s17 wx => ∃ (i : Nat) (out : List (List Int)), i + gk = r ∧ s15 = .int .i64 ((k : Int) + i) ∧ Hid (out.length = i) ∧ Hid (codec_Encode.dots K ((codec_Row.M k r).drop (k + i)) data out = some (r1, r2)) ∧ Hid (Kd.S (Kd.slice 5 (Kd.int .u8)) 23 wx W.heap.size (fun _ => True) s14 out) ∧ Hid (Below W.heap.size W wx))
  case atStart => exact ⟨0, [], by omega, by simp, Lib.hid rfl, H, Lib.hid (Kd.S_nil _ _ _ _ _), HB⟩
  case round =>
    clear H HB
    obtain ⟨i, out, hig, rfl, HOL, H, HS, HB⟩ := hrel
    cases gk with
    | zero =>
      obtain rfl : i = r := by omega
      have h := H.out
      rw [List.drop_of_length_le (by rw [codec_Row.M_len]; exact Nat.le_refl _), codec_Encode.dots] at h
      injection h with h; injection h with ha hc; subst ha hc
      have hd : decide ((k : Int) + (i : Int) < (k : Int) + (i : Int)) = false := decide_eq_false (Int.lt_irrefl _)
      clear H hig
      go_wp2_with fail
      go_ret2
      exact ⟨_, rfl, HS.out, HB.out⟩
    | succ d =>
      have hlt : (k : Int) + (i : Int) < (k : Int) + (r : Int) := by omega
      have hin : k + i < (codec_Row.M k r).length := by rw [codec_Row.M_len]; omega
      have h := H.out
      rw [List.drop_eq_getElem_cons hin, codec_Encode.dots] at h
      have hrow : (codec_Row.M k r)[k + i] = rw_ (codec_Row.M k r) (k + i) := by simp [rw_, hin]
      rw [hrow] at h
      obtain ⟨⟨y, ye⟩, hdot, h⟩ := Option.bind_eq_some_iff.mp h
      obtain ⟨Ar, cr, hval, hcr, hCr⟩ := HV.out (k + i) (by omega)
      have HD := Lib.hid hdot
      have H2 := Lib.hid h
      have HCR := Lib.hid (Kd.C_below hCr HB.out)
      have HCRL := Lib.hid hcr
      have hlook : (Instr.lookup 44 (.map (some g)) (.agg #[.int .i64 (k : Int), .int .i64 (r : Int), .int .i64 ((k : Int) + (i : Int))]) false).run Try.prog wr = .ok (.slice Ar (rw_ (codec_Row.M k r) (k + i)).length cr) wr := by
        have hkey := fun q (hq : q < k + r) => codec_Row.keys (n := 0) (i := q) HK.out HR.out (by have := HK.out; have := HR.out; omega)
        have e1 : ((k + i : Nat) : Int) = (k : Int) + (i : Int) := by omega
        rcases (HMP.out.below HB.out).look hkey (.slice none 0 0) (codec_Row.zero wr) false (hkey (k + i) (by omega)) with ⟨j, hj, hx, hl⟩ | ⟨hno, -⟩
        · have := pk_inj hx
          obtain rfl : k + i = j := by omega
          simp only [pk, e1, Bool.false_eq_true, if_false, hval] at hl
          exact hl
        · exact absurd rfl (hno (k + i) (by omega))
      have HIN := Lib.hid hin
      clear h hdot hrow H hval hcr hCr hin
      go_wp2_with fail
      refine (kernel_Dot.calls K Ar cr (rw_ (codec_Row.M k r) (k + i)) A c data y ye _ HCR.out HCRL.out (Kd.C_below HC.out HB.out) HCL.out HD.out).mono ?_
      rintro e w1 ⟨v1, rfl, ho, hb⟩
      have HY := Lib.hid ho
      have HB1 := Lib.hid (below_step HB.out hb)
      have HW := Lib.hid hb
      clear ho hb hlook HCR HCRL HD
      by_cases h0 : ye = 0
      case neg =>
        have h := H2.out
        try dsimp only at h
        rw [if_pos h0] at h
        injection h with h; injection h with ha hc; subst ha hc
        have e1 : (ye != 0) = true := bne_iff_ne.mpr h0
        clear h0 H2
        go_wp2_with fail
        go_ret2
        exact ⟨_, rfl, Kd.S_nil _ _ _ _ _, HB1.out⟩
      subst h0
      have h := H2.out
      try dsimp only at h
      rw [if_neg (fun z => z rfl)] at h
      have HN := Lib.hid (show codec_Encode.dots K ((codec_Row.M k r).drop (k + (i + 1))) data (out ++ [y]) = some (r1, r2) from h)
      obtain ⟨Ay, cy, rfl⟩ := Kd.R_slice HY.out
      have hw : wrap64 ((k : Int) + (i : Int) + 1) = (k : Int) + ((i + 1 : Nat) : Int) := by have := HK.out; have := HR.out; unfold wrap64; omega
      have HWR := Lib.hid hw
      have HOLD := Lib.hid (Kd.S_mono (Kd.S_old HS.out HW.out) (ok' := fun k_ => True ∧ ¬ wr.heap.size ≤ k_) (fun k_ hk_ => ⟨trivial, by have := hk_.2; omega⟩))
      have HLT := Lib.hid (Kd.S_lt HS.out)
      have HYM := Lib.hid (Kd.M_row (Kd.R_lower (Kd.R_mono (Kd.R_bound HY.out) (ok' := fun k_ => wr.heap.size ≤ k_) (fun k_ hk_ => hk_.2.1)) HB.out.size))
      have HRB := Lib.hid (show r ≤ 4 from HR.out)
      clear h H2 hw HS HY HW
      go_wp2_with ((with_reducible refine gate_builtin (b := .append) (xs := #[.tmp 38, .tmp 40]) rfl ?_); at_builtin; refine Kd.S_append (Kd.slice 5 (Kd.int .u8)) (w0 := W) W.heap.size rfl (.tmp 38) (.tmp 40) 24 23 (.slice none 0 0) 24 rfl Try.underlying24 codec_Encode.i2 rfl (by decide) (by omega) _ out y [.slice Ay y.length cy] (fun _ => True) (fun k_ => wr.heap.size ≤ k_) rfl rfl HYM.out (fun k_ hk_ => ⟨trivial, fun e_ => by have := HLT.out k_ e_.symm; omega⟩) (fun _ _ => trivial) HOLD.out HB1.out HB1.out.size (by have := HOL.out; have := HRB.out; omega) ?_; intro v5 w5 ho hb hg hat; have HS := Lib.hid ho; have HB := Lib.hid hb; clear ho hb hg hat)
      go_roundg d
      case measure => omega
      case rel => exact ⟨i + 1, out ++ [y], by omega, by first | rw [HWR.out] | (simp [Int.add_assoc]; done), Lib.hid (by rw [List.length_append, HOL.out]; rfl), HN, HS, HB⟩
theorem codec_Encode.calls (k : Nat) (a0 a1 : Int) (A2 : Option Addr) (c2 : Nat) (l2 : List (List Int)) (r1 : List (List Int)) (r2 : Int) (w : World) (hr2 : Kd.C (Kd.slice 5 (Kd.int .u8)) w A2 l2.length l2) (hc2 : l2.length ≤ c2) (h : codec_Encode.f k a0 a1 l2 = some (r1, r2)) :
    Calls Try.prog 9 #[.int .i64 a0, .int .i64 a1, .slice A2 l2.length c2] w fun e w' => ∃ v0_ : Value, e = .returned (.tuple #[v0_, .int .i64 r2]) ∧ Kd.S (Kd.slice 5 (Kd.int .u8)) 23 w' w.heap.size (fun _ => True) v0_ r1 ∧ Below w.heap.size w w' := by
  unfold codec_Encode.f at h
  have HR2 := Lib.hid hr2
  have HC2 := Lib.hid hc2
  clear hr2 hc2
  by_cases hbad : codec_Row.bad a0 a1
  case pos =>
    rw [if_pos hbad] at h
    injection h with h; injection h with ha hc; subst ha hc
    have HBAD := Lib.hid hbad
    clear hbad
    go_enter Try.func9, Try.ntmps9
    go_wp2_with fail
    refine (codec_Row.bad1 a0 a1 HBAD.out _).mono ?_
    rintro e w1 ⟨rfl, rfl⟩
    have heq := map_eql_nil none w
    go_wp2_with fail
    go_ret2
    exact ⟨_, rfl, Kd.S_nil _ _ _ _ _, Below.refl _ _⟩
  rw [if_neg hbad] at h
  by_cases hinv : codec_Row.inv a0 a1
  case neg => rw [if_neg hinv] at h; cases h
  rw [if_pos hinv] at h
  unfold codec_Row.bad at hbad
  obtain ⟨n, rfl⟩ := Int.eq_ofNat_of_zero_le (show 0 ≤ a0 by omega)
  obtain ⟨m, rfl⟩ := Int.eq_ofNat_of_zero_le (show 0 ≤ a1 by omega)
  simp only [Int.toNat_natCast] at h
  have hk0 : 1 ≤ n := by omega
  have hk : n ≤ 12 := by omega
  have hr : m ≤ 4 := by omega
  obtain ⟨⟨tl, tb⟩, hth, h⟩ := Option.bind_eq_some_iff.mp h
  have HI := Lib.hid hinv
  have HK0 := Lib.hid hk0
  have HK := Lib.hid hk
  have HR := Lib.hid hr
  have HTH := Lib.hid hth
  have H := Lib.hid h
  clear hbad hinv hk0 hk hr hth h
  go_enter Try.func9, Try.ntmps9
  go_wp2_with fail
  refine (codec_Row.made n m HK0.out HK.out HR.out HI.out _).mono ?_
  rintro e w1 ⟨g, val, rfl, hmp, hrow, hb⟩
  have heq := map_eql_nil (some g) w1
  have HB := Lib.hid hb
  have HMP := Lib.hid hmp
  have HRW := Lib.hid (fun i (hi : i < n + m) => RowC.of_R (hrow i hi))
  clear hmp hrow hb
  go_wp2_with fail
  refine (codec_there.calls k A2 c2 l2 (n : Int) tl tb _ (Kd.C_below HR2.out HB.out) HC2.out HTH.out).mono ?_
  rintro e w2 ⟨v2, rfl, ho, hb⟩
  obtain ⟨At, ct, rfl⟩ := Kd.R_slice ho
  replace HMP := Lib.hid (HMP.out.below hb)
  replace HRW := Lib.hid (fun i (hi : i < n + m) => (HRW.out i hi).below hb)
  replace HB := Lib.hid (below_step HB.out hb)
  clear ho hb HTH heq
  have h := H.out
  try dsimp only at h
  cases tb with
  | false =>
    rw [if_pos rfl] at h
    injection h with h; injection h with ha hc; subst ha hc
    clear H
    go_wp2_with fail
    go_ret2
    exact ⟨_, rfl, Kd.S_nil _ _ _ _ _, HB.out⟩
  | true =>
    rw [if_neg (by decide)] at h
    by_cases hlt : (tl.length : Int) < (n : Int)
    case pos =>
      rw [if_pos hlt] at h
      injection h with h; injection h with ha hc; subst ha hc
      have hd : decide ((tl.length : Int) < (n : Int)) = true := decide_eq_true hlt
      clear H
      go_wp2_with fail
      go_ret2
      exact ⟨_, rfl, Kd.S_nil _ _ _ _ _, HB.out⟩
    rw [if_neg hlt] at h
    have hd : decide ((tl.length : Int) < (n : Int)) = false := decide_eq_false hlt
    have HD := Lib.hid h
    have hb1 : (n : Int) ≤ 12 := by have := HK.out; omega
    have hb2 : (m : Int) ≤ 4 := by have := HR.out; omega
    clear H h
    go_wp2_with fail
    refine (codec_Encode.cells k n m HK.out HR.out g val A2 c2 l2 r1 r2 _ HMP.out HRW.out (Kd.C_below HR2.out HB.out) HC2.out HD.out).mono ?_
    rintro e w3 ⟨v3, rfl, ho, hb⟩
    have HO := Lib.hid (Kd.S_lower ho HB.out.size)
    have HB3 := Lib.hid (below_step HB.out hb)
    clear ho hb
    go_wp2_with fail
    go_ret2
    exact ⟨_, rfl, HO.out, HB3.out⟩

/-! ### bytes_Equal: function 28 -/
def bytes_Equal.f (l0 : List Int) (l1 : List Int) : Option (Bool) := some ((strOfNums l0).toList == (strOfNums l1).toList)
set_option maxHeartbeats 8000000 in
set_option maxRecDepth 100000 in
theorem bytes_Equal.calls (A0 : Option Addr) (c0 : Nat) (l0 : List Int) (A1 : Option Addr) (c1 : Nat) (l1 : List Int) (r : Bool) (w : World) (hr0 : Kd.C (Kd.int .u8) w A0 l0.length l0) (hc0 : l0.length ≤ c0) (hr1 : Kd.C (Kd.int .u8) w A1 l1.length l1) (hc1 : l1.length ≤ c1) (h : bytes_Equal.f l0 l1 = some r) :
    Calls Try.prog 28 #[.slice A0 l0.length c0, .slice A1 l1.length c1] w fun e w' => e = .returned (.bool r) ∧ Drawn0 w w' := by
  have HR0 := Aside0.mk hr0
  have HC0 := Aside0.mk hc0
  clear hr0 hc0
  have HR1 := Aside0.mk hr1
  have HC1 := Aside0.mk hc1
  clear hr1 hc1
  have H : (some ((strOfNums l0).toList == (strOfNums l1).toList)) = some r := h
  clear h
  obtain rfl := Option.some.inj H
  have hcv3 := Kd.C_string (P := Try.prog) (A := A0) (c := c0) Try.underlying23 Try.underlying5 Try.underlying9 HR0.out
  have hcv4 := fun n_ : Nat => Kd.C_string (P := Try.prog) (A := A0) (c := c0) Try.underlying23 Try.underlying5 Try.underlying9 (Kd.C_drewN (HR0.out) n_)
  have hcv5 := Kd.C_string (P := Try.prog) (A := A1) (c := c1) Try.underlying23 Try.underlying5 Try.underlying9 HR1.out
  have hcv6 := fun n_ : Nat => Kd.C_string (P := Try.prog) (A := A1) (c := c1) Try.underlying23 Try.underlying5 Try.underlying9 (Kd.C_drewN (HR1.out) n_)
  go_enter Try.func28, Try.ntmps28
  go_wp2
  go_ret
  exact ⟨by first | rfl | (simp; done) | (simp [*]; done), by repeat (first | exact Drawn0.refl _ | apply Drawn0.step)⟩

-- NOT PRINTED: function 27 (slices_EqualFunc_byte_byte_byte_byte)

end Go.Proofs.Ythhncoogmncdkaa.PA
namespace Go.Proofs.Ythhncoogmncdkaa.Pure
open Go Go.RowKit Go.TwoGf Go.Proofs.Ythhncoogmncdkaa Go.Proofs.Ythhncoogmncdkaa.PA Go.Proofs.YthhncoogmncdkaaW.PrintWords Go.Proofs.YthhncoogmncdkaaW.PrintLast Go.Proofs.YthhncoogmncdkaaW.PrintMore
set_option linter.unusedVariables false
/-- numbers of the rows that are not empty -/
def posI : List (List Int) → Nat → List Int
  | [], _ => []
  | x :: xs, i => if x.length = 0 then posI xs (i + 1) else (i : Int) :: posI xs (i + 1)
def like (m : Nat) (l : List (List Int)) : Prop := ∀ x ∈ l, x.length = 0 ∨ x.length = m
instance likeDec (m : Nat) (l : List (List Int)) : Decidable (like m l) := by unfold like; infer_instance
def thv : List (List Int) → Nat → List Int × Bool
  | [], _ => ([], true)
  | x :: xs, i => if x.length = 0 then thv xs (i + 1) else if x.length > 65536 then ([], false) else if like x.length xs then ((i : Int) :: posI xs (i + 1), true) else ([], false)
theorem there_a (l : List (List Int)) (hl : l.length ≤ 100000) {a : Int} (ha : 0 ≤ a ∧ a < l.length) {m : Nat} (hm : (rd_L1 l a).length = m) (h1 : 1 ≤ m) (h2 : m ≤ 65536) :
    ∀ (d K i : Nat) (t : List Int), i + d = l.length → d < K → t.length + 1 ≤ i → codec_there.l0 K l (a :: t) l (l.length : Int) (i : Int) = some (if like m (l.drop i) then (a :: t ++ posI (l.drop i) i, true) else ([], false))
  | 0, K, i, t, hi, hK, ht => by
    obtain ⟨K, rfl⟩ : ∃ m, K = m + 1 := ⟨K - 1, by omega⟩
    obtain rfl : i = l.length := by omega
    simp only [codec_there.l0]
    rw [if_neg (by omega), List.drop_length, if_pos (show like m [] from fun x hx => by cases hx)]
    simp [posI]
  | d + 1, K, i, t, hi, hK, ht => by
    obtain ⟨K, rfl⟩ : ∃ m, K = m + 1 := ⟨K - 1, by omega⟩
    have hlt : i < l.length := by omega
    simp only [codec_there.l0]
    rw [if_pos (by omega), if_pos (by omega), if_pos (by omega), rd_L1_nat hlt, wrap_s (by omega) (by omega), List.drop_eq_getElem_cons hlt]
    rw [show (i : Int) + 1 = ((i + 1 : Nat) : Int) by omega]
    by_cases h0 : l[i].length = 0
    · rw [if_pos (by omega), there_a l hl ha hm h1 h2 d K (i + 1) t (by omega) (by omega) (by omega), posI, if_pos h0]
      by_cases h3 : like m (l.drop (i + 1))
      · rw [if_pos h3, if_pos (show like m (l[i] :: l.drop (i + 1)) from fun x hx => (List.mem_cons.1 hx).elim (fun e => .inl (by rw [e]; exact h0)) (h3 x))]
      · rw [if_neg h3, if_neg (fun z : like m (l[i] :: l.drop (i + 1)) => h3 fun x hx => z x (List.mem_cons_of_mem _ hx))]
    · rw [if_neg (by omega), if_pos (by simp only [List.length_cons]; omega), posI, if_neg h0]
      simp only [Option.bind_some]
      have e0 : rd (a :: t ++ [(i : Int)]) 0 = a := rfl
      rw [e0, hm]
      by_cases h3 : l[i].length = m
      · rw [if_neg (by omega), if_pos (by simp only [List.length_cons, List.cons_append]; omega), if_pos ha.1, if_pos ha.2, if_pos (by omega)]
        have := there_a l hl ha hm h1 h2 d K (i + 1) (t ++ [(i : Int)]) (by omega) (by omega) (by simp; omega)
        rw [List.cons_append, this]
        by_cases h4 : like m (l.drop (i + 1))
        · rw [if_pos h4, if_pos (show like m (l[i] :: l.drop (i + 1)) from fun x hx => (List.mem_cons.1 hx).elim (fun e => .inr (by rw [e]; exact h3)) (h4 x))]
          simp
        · rw [if_neg h4, if_neg (fun z : like m (l[i] :: l.drop (i + 1)) => h4 fun x hx => z x (List.mem_cons_of_mem _ hx))]
      · have h5 : ¬ like m (l[i] :: l.drop (i + 1)) := fun z => (z l[i] List.mem_cons_self).elim h0 h3
        rw [if_neg h5]
        by_cases h6 : (l[i].length : Int) > 65536
        · rw [if_pos h6]
        · rw [if_neg h6, if_pos (by simp only [List.length_cons, List.cons_append]; omega), if_pos ha.1, if_pos ha.2, if_neg (by omega)]
theorem there_b (l : List (List Int)) (hl : l.length ≤ 100000) :
    ∀ (d K i : Nat), i + d = l.length → d < K → codec_there.l0 K l [] l (l.length : Int) (i : Int) = some (thv (l.drop i) i)
  | 0, K, i, hi, hK => by
    obtain ⟨K, rfl⟩ : ∃ m, K = m + 1 := ⟨K - 1, by omega⟩
    obtain rfl : i = l.length := by omega
    simp only [codec_there.l0]
    rw [if_neg (by omega), List.drop_length]; rfl
  | d + 1, K, i, hi, hK => by
    obtain ⟨K, rfl⟩ : ∃ m, K = m + 1 := ⟨K - 1, by omega⟩
    have hlt : i < l.length := by omega
    simp only [codec_there.l0]
    rw [if_pos (by omega), if_pos (by omega), if_pos (by omega), rd_L1_nat hlt, wrap_s (by omega) (by omega), List.drop_eq_getElem_cons hlt, thv]
    rw [show (i : Int) + 1 = ((i + 1 : Nat) : Int) by omega]
    by_cases h0 : l[i].length = 0
    · rw [if_pos (by omega), if_pos h0, there_b l hl d K (i + 1) (by omega) (by omega)]
    · rw [if_neg (by omega), if_neg h0, if_pos (by simp)]
      simp only [Option.bind_some]
      have e0 : rd ([] ++ [(i : Int)]) 0 = (i : Int) := rfl
      rw [e0, rd_L1_nat hlt]
      by_cases h3 : l[i].length > 65536
      · rw [if_pos (by omega), if_pos h3]
      · rw [if_neg (by omega), if_neg h3, if_pos (by simp), if_pos (by omega), if_pos (by omega), if_pos rfl]
        have := there_a l hl (a := (i : Int)) ⟨by omega, by omega⟩ (m := l[i].length) (by rw [rd_L1_nat hlt]) (by omega) (by omega) d K (i + 1) [] (by omega) (by omega) (by simp)
        rw [List.nil_append, this]
        rfl
theorem there_f {K : Nat} {l : List (List Int)} {n : Int} (hK : 200 ≤ K) (hn : n ≤ 100) : codec_there.f K l n = some (if (l.length : Int) = n then thv l 0 else ([], false)) := by
  unfold codec_there.f
  by_cases h : (l.length : Int) = n
  · rw [if_pos h, if_pos h]
    exact there_b l (by omega) l.length K 0 (by omega) (by omega)
  · rw [if_neg h, if_neg h]
theorem posI_le : ∀ (l : List (List Int)) (i : Nat), (posI l i).length ≤ l.length
  | [], _ => Nat.le_refl _
  | x :: xs, i => by
    have := posI_le xs (i + 1)
    unfold posI
    split
    · simp; omega
    · simp; omega
theorem thv_le : ∀ (l : List (List Int)) (i : Nat), (thv l i).1.length ≤ l.length
  | [], _ => Nat.le_refl _
  | x :: xs, i => by
    have := thv_le xs (i + 1)
    have := posI_le xs (i + 1)
    unfold thv
    split
    · simp; omega
    · split
      · simp
      · split
        · simp; omega
        · simp
theorem posI_full : ∀ (l : List (List Int)) (i : Nat), (posI l i).length = l.length → ∀ x ∈ l, x.length ≠ 0
  | [], _, _, x, hx => by cases hx
  | y :: ys, i, h, x, hx => by
    have h1 := posI_le ys (i + 1)
    unfold posI at h
    by_cases e : y.length = 0
    · rw [if_pos e] at h; simp at h; omega
    · rw [if_neg e] at h
      rcases List.mem_cons.1 hx with rfl | hx
      · exact e
      · exact posI_full ys (i + 1) (by simpa using h) x hx
theorem posI_all : ∀ (l : List (List Int)) (i : Nat), (∀ x ∈ l, x.length ≠ 0) → (posI l i).length = l.length
  | [], _, _ => rfl
  | y :: ys, i, h => by
    unfold posI
    rw [if_neg (h y (by simp))]
    simp [posI_all ys (i + 1) (fun x hx => h x (by simp [hx]))]
theorem thv_full {l : List (List Int)} (h1 : 1 ≤ l.length) (h : (thv l 0).2 = true) (h2 : l.length ≤ (thv l 0).1.length) : ∃ n, Alk n l := by
  cases l with
  | nil => simp at h1
  | cons x xs =>
    have hle := thv_le xs (0 + 1)
    unfold thv at h h2
    by_cases e : x.length = 0
    · rw [if_pos e] at h2; simp at h2 hle; omega
    · rw [if_neg e] at h h2
      by_cases e2 : x.length > 65536
      · rw [if_pos e2] at h; cases h
      · rw [if_neg e2] at h h2
        by_cases e3 : like x.length xs
        · rw [if_pos e3] at h2
          have hp := posI_le xs (0 + 1)
          have h3 := posI_full xs (0 + 1) (by simp only [List.length_cons] at h2; omega)
          refine ⟨x.length, fun y hy => ?_⟩
          rcases List.mem_cons.1 hy with rfl | hy
          · omega
          · have := h3 y hy
            have := e3 y hy
            omega
        · rw [if_neg e3] at h; cases h
theorem thv_alk {n : Nat} {l : List (List Int)} (h1 : 1 ≤ l.length) (h : Alk n l) : (thv l 0).2 = true ∧ (thv l 0).1.length = l.length := by
  cases l with
  | nil => simp at h1
  | cons x xs =>
    have hx := h x (by simp)
    have hp := posI_all xs (0 + 1) (fun y hy => by have := h y (by simp [hy]); omega)
    unfold thv
    rw [if_neg (by omega), if_neg (by omega), if_pos (show like x.length xs from fun y hy => by have := h y (by simp [hy]); omega)]
    exact ⟨rfl, by simp [hp]⟩
theorem dot_v {K : Nat} (hK : 60 ≤ K) {n : Nat} {row : List Int} {data : List (List Int)} (hr : isB row) (hd : ∀ b ∈ data, isB b) (ha : Alk n data) (h1 : 1 ≤ data.length) (h2 : data.length ≤ 16) (h3 : row.length = data.length) :
    kernel_Dot.f K row data = some (dacc (List.replicate n 0) row data, 0) := by
  rw [dot_f (by omega) (by omega) hr hd]
  unfold dotv
  rw [if_pos ⟨by omega, by omega, alk_dots ha⟩, if_neg (by omega), show (rd_L1 data 0).length = n from rd_L1_n ha (i := 0) (by omega)]
/-- the cells of rows -/
def coded (n : Nat) (rs : List (List Int)) (data : List (List Int)) : List (List Int) := rs.map fun row => dacc (List.replicate n 0) row data
theorem dots_v {K : Nat} (hK : 60 ≤ K) {n : Nat} {data : List (List Int)} (hd : ∀ b ∈ data, isB b) (ha : Alk n data) (h1 : 1 ≤ data.length) (h2 : data.length ≤ 16) :
    ∀ (rs out : List (List Int)), (∀ row ∈ rs, isB row ∧ row.length = data.length) → codec_Encode.dots K rs data out = some (out ++ coded n rs data, 0)
  | [], out, _ => by simp [codec_Encode.dots, coded]
  | row :: rs, out, h => by
    obtain ⟨b1, b2⟩ := h row (by simp)
    rw [codec_Encode.dots, dot_v hK b1 hd ha h1 h2 b2]
    simp only [Option.bind_some]
    rw [if_neg (by simp), dots_v hK hd ha h1 h2 rs _ (fun r hr => h r (by simp [hr]))]
    simp [coded]
theorem mem_dropM {k r : Int} (h : okK k r) {data : List (List Int)} (hl : (data.length : Int) = k) : ∀ row ∈ (codec_Row.M k.toNat r.toNat).drop k.toNat, isB row ∧ row.length = data.length := fun row hr => by
  have hm := List.mem_of_mem_drop hr
  obtain ⟨h1, h2, h3, h4⟩ := h
  exact ⟨allM_B (by omega) (by omega) row hm, by rw [(allM_rect k.toNat r.toNat).2 row hm]; omega⟩
theorem enc_ok {K : Nat} (hK : 200 ≤ K) {k r : Int} (h : okK k r) {data : List (List Int)} (hl : (data.length : Int) = k) {n : Nat} (ha : Alk n data) (hd : ∀ b ∈ data, isB b) :
    codec_Encode.f K k r data = some (coded n ((codec_Row.M k.toNat r.toNat).drop k.toNat) data, 0) := by
  obtain ⟨h1, h2, h3, h4⟩ := h
  unfold codec_Encode.f
  obtain ⟨t1, t2⟩ := thv_alk (by omega) ha
  rw [if_neg (by unfold codec_Row.bad; omega), if_pos (row_inv h1 h2 h4), there_f hK (by omega), if_pos hl]
  simp only [Option.bind_some]
  rw [if_neg (by rw [t1]; simp), if_neg (by omega), dots_v (by omega) hd ha (by omega) (by omega) _ _ (mem_dropM ⟨h1, h2, h3, h4⟩ hl), List.nil_append]
theorem enc_any {K : Nat} (hK : 200 ≤ K) {k r : Int} (data : List (List Int)) : (okK k r ∧ (data.length : Int) = k ∧ ∃ n, Alk n data) ∨ ∃ e, e ≠ 0 ∧ codec_Encode.f K k r data = some ([], e) := by
  by_cases h : okK k r
  case neg => exact .inr ⟨2, by decide, by unfold codec_Encode.f; rw [if_pos (by unfold codec_Row.bad; unfold okK at h; omega)]⟩
  have hk := h
  obtain ⟨h1, h2, h3, h4⟩ := h
  have e : ∀ {x}, (codec_there.f K data k).bind (fun t => if t.2 = false then some ([], 40) else if (t.1.length : Int) < k then some ([], 40) else codec_Encode.dots K ((codec_Row.M k.toNat r.toNat).drop k.toNat) data []) = some x → codec_Encode.f K k r data = some x := fun hx => by
    unfold codec_Encode.f
    rw [if_neg (by unfold codec_Row.bad; omega), if_pos (row_inv h1 h2 h4)]
    exact hx
  by_cases hl : (data.length : Int) = k
  case neg => exact .inr ⟨40, by decide, e (by rw [there_f hK (by omega), if_neg hl]; rfl)⟩
  cases ht : (thv data 0).2 with
  | false => exact .inr ⟨40, by decide, e (by rw [there_f hK (by omega), if_pos hl]; simp only [Option.bind_some]; rw [if_pos ht])⟩
  | true =>
    by_cases hc : ((thv data 0).1.length : Int) < k
    · exact .inr ⟨40, by decide, e (by rw [there_f hK (by omega), if_pos hl]; simp only [Option.bind_some]; rw [if_neg (by rw [ht]; simp), if_pos hc])⟩
    · exact .inl ⟨hk, hl, thv_full (by omega) ht (by omega)⟩
end Go.Proofs.Ythhncoogmncdkaa.Pure
