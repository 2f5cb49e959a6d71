/- Digits and what they are worth: plain arithmetic, no program. Conditions: as each statement says. -/
import Derived.Test.YtfccpnpocfjbcaaDoorEv
set_option linter.unusedVariables false
set_option linter.unusedSimpArgs false
namespace Go.Proofs.YtfccpnpocfjbcaaDoor.Dig
/-- What digits are worth, the last one first. -/
def L : List Int → Int
  | [] => 0
  | x :: xs => x + 10 * L xs
def Lw : List Int → Int → Int
  | [], W => W
  | x :: xs, W => x + 10 * Lw xs W
def Dg (l : List Int) : Prop := ∀ x ∈ l, 0 ≤ x ∧ x ≤ 9
def q : Int → Nat → Int
  | B, 0 => B
  | B, i + 1 => q (B / 10) i
def m10 : Int → Nat → Int
  | B, 0 => B
  | B, i + 1 => m10 (10 * B) i
def mulLow (sc : Int) : List Int → Int → List Int
  | [], _ => []
  | x :: xs, c => ((x * sc + c) % 10) :: mulLow sc xs ((x * sc + c) / 10)
def carry (sc : Int) : List Int → Int → Int
  | [], c => c
  | x :: xs, c => carry sc xs ((x * sc + c) / 10)
theorem Dg.tail {x : Int} {xs : List Int} (h : Dg (x :: xs)) : Dg xs := fun y hy => h y (List.mem_cons_of_mem _ hy)
theorem Dg.head {x : Int} {xs : List Int} (h : Dg (x :: xs)) : 0 ≤ x ∧ x ≤ 9 := h x (List.mem_cons_self)
theorem Dg.nil : Dg [] := fun x h => by cases h
theorem Dg.cons {x : Int} {xs : List Int} (h : 0 ≤ x ∧ x ≤ 9) (k : Dg xs) : Dg (x :: xs) := fun y hy => by
  rcases List.mem_cons.1 hy with rfl | hy
  · exact h
  · exact k y hy
theorem Dg.app {xs ys : List Int} (h : Dg xs) (k : Dg ys) : Dg (xs ++ ys) := fun y hy => by
  rcases List.mem_append.1 hy with hy | hy
  · exact h y hy
  · exact k y hy
theorem Dg.rev {xs : List Int} (h : Dg xs) : Dg xs.reverse := fun y hy => h y (List.mem_reverse.1 hy)
theorem Dg.drop {xs : List Int} (h : Dg xs) (i : Nat) : Dg (xs.drop i) := fun y hy => h y (List.mem_of_mem_drop hy)
theorem Dg.take {xs : List Int} (h : Dg xs) (i : Nat) : Dg (xs.take i) := fun y hy => h y (List.mem_of_mem_take hy)
theorem Dg.zeros (n : Nat) : Dg (List.replicate n 0) := fun y hy => by
  obtain rfl := List.eq_of_mem_replicate hy
  decide
theorem Dg.get {xs : List Int} (h : Dg xs) (i : Nat) : 0 ≤ xs.getD i 0 ∧ xs.getD i 0 ≤ 9 := by
  by_cases hi : i < xs.length
  · rw [List.getD_eq_getElem?_getD, List.getElem?_eq_getElem hi]
    exact h _ (List.getElem_mem hi)
  · rw [List.getD_eq_getElem?_getD, List.getElem?_eq_none (by omega)]
    decide
theorem L_nonneg : ∀ {l : List Int}, Dg l → 0 ≤ L l
  | [], _ => by decide
  | x :: xs, h => by
    have h1 := h.head
    have h2 := L_nonneg h.tail
    unfold L
    omega
theorem q_zero : ∀ i, q 0 i = 0
  | 0 => rfl
  | i + 1 => q_zero i
theorem q_nonneg : ∀ i {B : Int}, 0 ≤ B → 0 ≤ q B i
  | 0, B, h => h
  | i + 1, B, h => q_nonneg i (by omega)
theorem q_mono : ∀ i {A B : Int}, A ≤ B → q A i ≤ q B i
  | 0, A, B, h => h
  | i + 1, A, B, h => q_mono i (by omega)
theorem q_add : ∀ i j (B : Int), q B (i + j) = q (q B i) j
  | 0, j, B => by rw [Nat.zero_add]; rfl
  | i + 1, j, B => by
    rw [show i + 1 + j = (i + j) + 1 by omega]
    exact q_add i j (B / 10)
theorem q_one (B : Int) (i : Nat) : q B (i + 1) = q B i / 10 := q_add i 1 B
theorem m10_nonneg : ∀ i {B : Int}, 0 ≤ B → 0 ≤ m10 B i
  | 0, B, h => h
  | i + 1, B, h => m10_nonneg i (by omega)
theorem m10_mono : ∀ i {A B : Int}, A ≤ B → m10 A i ≤ m10 B i
  | 0, A, B, h => h
  | i + 1, A, B, h => m10_mono i (by omega)
theorem m10_le : ∀ i {B : Int}, 0 ≤ B → B ≤ m10 B i
  | 0, B, h => Int.le_refl _
  | i + 1, B, h => by
    have := m10_le i (B := 10 * B) (by omega)
    show B ≤ m10 (10 * B) i
    omega
theorem m10_add : ∀ i j (B : Int), m10 B (i + j) = m10 (m10 B i) j
  | 0, j, B => by rw [Nat.zero_add]; rfl
  | i + 1, j, B => by
    rw [show i + 1 + j = (i + j) + 1 by omega]
    exact m10_add i j (10 * B)
theorem m10_one (B : Int) (i : Nat) : m10 B (i + 1) = 10 * m10 B i := m10_add i 1 B
theorem m10_mul (c : Int) : ∀ i (B : Int), m10 (B * c) i = m10 B i * c
  | 0, B => rfl
  | i + 1, B => by
    show m10 (10 * (B * c)) i = m10 (10 * B) i * c
    rw [← Int.mul_assoc]
    exact m10_mul c i (10 * B)
theorem q_m10 : ∀ i (B : Int), q (m10 B i) i = B
  | 0, B => rfl
  | i + 1, B => by
    rw [q_one, show m10 B (i + 1) = m10 (10 * B) i from rfl, q_m10 i]
    omega
theorem L_drop : ∀ {l : List Int}, Dg l → ∀ i, L (l.drop i) = q (L l) i
  | l, _, 0 => rfl
  | [], _, i + 1 => by
    show (0 : Int) = q 0 (i + 1)
    rw [q_zero]
  | x :: xs, h, i + 1 => by
    show L (xs.drop i) = q ((x + 10 * L xs) / 10) i
    have h1 := h.head
    rw [show (x + 10 * L xs) / 10 = L xs by omega]
    exact L_drop h.tail i
theorem L_get : ∀ {l : List Int}, Dg l → ∀ i, l.getD i 0 = q (L l) i % 10
  | [], _, i => by
    show (0 : Int) = q 0 i % 10
    rw [q_zero]
    decide
  | x :: xs, h, 0 => by
    show x = (x + 10 * L xs) % 10
    have h1 := h.head
    omega
  | x :: xs, h, i + 1 => by
    show xs.getD i 0 = q ((x + 10 * L xs) / 10) i % 10
    have h1 := h.head
    rw [show (x + 10 * L xs) / 10 = L xs by omega]
    exact L_get h.tail i
theorem Lw_zero : ∀ l, Lw l 0 = L l
  | [] => rfl
  | x :: xs => by
    show x + 10 * Lw xs 0 = x + 10 * L xs
    rw [Lw_zero xs]
theorem L_app : ∀ lo hi, L (lo ++ hi) = Lw lo (L hi)
  | [], hi => rfl
  | x :: xs, hi => by
    show x + 10 * L (xs ++ hi) = x + 10 * Lw xs (L hi)
    rw [L_app xs hi]
theorem L_zeros : ∀ n, L (List.replicate n 0) = 0
  | 0 => rfl
  | n + 1 => by
    show (0 : Int) + 10 * L (List.replicate n 0) = 0
    rw [L_zeros n]
    decide
theorem L_app_zeros (l : List Int) (n : Nat) : L (l ++ List.replicate n 0) = L l := by rw [L_app, L_zeros, Lw_zero]
theorem L_zeros_app : ∀ n (l : List Int), L (List.replicate n 0 ++ l) = m10 (L l) n
  | 0, l => rfl
  | n + 1, l => by
    show (0 : Int) + 10 * L (List.replicate n 0 ++ l) = m10 (L l) (n + 1)
    rw [L_zeros_app n l, m10_one]
    omega
/-- The step of a product. -/
theorem mul_step (x Y sc c : Int) : (x + 10 * Y) * sc + c = (x * sc + c) + 10 * (Y * sc) := by
  rw [Int.add_mul, Int.mul_assoc]
  omega
theorem carry_q (sc W : Int) : ∀ (lo : List Int) (c : Int), q (Lw lo W * sc + c) lo.length = W * sc + carry sc lo c
  | [], c => rfl
  | x :: xs, c => by
    show q (((x + 10 * Lw xs W) * sc + c) / 10) xs.length = W * sc + carry sc xs ((x * sc + c) / 10)
    rw [mul_step, show ((x * sc + c) + 10 * (Lw xs W * sc)) / 10 = Lw xs W * sc + (x * sc + c) / 10 by omega]
    exact carry_q sc W xs _
theorem mulLow_get (sc W : Int) : ∀ (lo : List Int) (c : Int) (i : Nat), i < lo.length → (mulLow sc lo c).getD i 0 = q (Lw lo W * sc + c) i % 10
  | [], c, i, h => by cases h
  | x :: xs, c, 0, h => by
    show (x * sc + c) % 10 = ((x + 10 * Lw xs W) * sc + c) % 10
    rw [mul_step]
    omega
  | x :: xs, c, i + 1, h => by
    show (mulLow sc xs ((x * sc + c) / 10)).getD i 0 = q (((x + 10 * Lw xs W) * sc + c) / 10) i % 10
    rw [mul_step, show ((x * sc + c) + 10 * (Lw xs W * sc)) / 10 = Lw xs W * sc + (x * sc + c) / 10 by omega]
    exact mulLow_get sc W xs _ i (by simpa using h)
theorem mulLow_len (sc : Int) : ∀ (lo : List Int) (c : Int), (mulLow sc lo c).length = lo.length
  | [], c => rfl
  | x :: xs, c => by
    show (mulLow sc xs _).length + 1 = xs.length + 1
    rw [mulLow_len sc xs]
theorem mulLow_dg (sc : Int) : ∀ (lo : List Int) (c : Int), Dg (mulLow sc lo c)
  | [], c => Dg.nil
  | x :: xs, c => Dg.cons (by omega) (mulLow_dg sc xs _)
theorem mulLow_L (sc W : Int) : ∀ (lo : List Int) (c : Int), Lw (mulLow sc lo c) (W * sc + carry sc lo c) = Lw lo W * sc + c
  | [], c => rfl
  | x :: xs, c => by
    show (x * sc + c) % 10 + 10 * Lw (mulLow sc xs ((x * sc + c) / 10)) (W * sc + carry sc xs ((x * sc + c) / 10)) = (x + 10 * Lw xs W) * sc + c
    rw [mulLow_L sc W xs, mul_step]
    omega
theorem mul_bd {x sc : Int} (hx : 0 ≤ x ∧ x ≤ 9) (hs : 0 ≤ sc) : 0 ≤ x * sc ∧ x * sc ≤ 9 * sc := ⟨Int.mul_nonneg hx.1 hs, Int.mul_le_mul_of_nonneg_right hx.2 hs⟩
theorem carry_bd {sc : Int} (hs : 1 ≤ sc) : ∀ {lo : List Int}, Dg lo → ∀ {c : Int}, 0 ≤ c → c < sc → 0 ≤ carry sc lo c ∧ carry sc lo c < sc
  | [], _, c, h0, h1 => ⟨h0, h1⟩
  | x :: xs, h, c, h0, h1 => by
    have h2 := mul_bd h.head (show 0 ≤ sc by omega)
    exact carry_bd hs h.tail (c := (x * sc + c) / 10) (by omega) (by omega)
/-- The digits of what is left over. -/
def cdig : Nat → Int → List Int
  | 0, _ => []
  | n + 1, c => if c > 0 then c % 10 :: cdig n (c / 10) else []
theorem cdig_dg : ∀ n c, Dg (cdig n c)
  | 0, c => Dg.nil
  | n + 1, c => by
    unfold cdig
    split
    · exact Dg.cons (by omega) (cdig_dg n _)
    · exact Dg.nil
theorem cdig_len : ∀ n c, (cdig n c).length ≤ n
  | 0, c => Nat.le_refl _
  | n + 1, c => by
    unfold cdig
    split
    · have := cdig_len n (c / 10)
      simp only [List.length_cons]
      omega
    · simp
theorem cdig_L {c : Int} (h0 : 0 ≤ c) (h1 : c < 1000) : L (cdig 3 c) = c := by
  have h2 : ∀ d : Int, 0 ≤ d → d < 10 → L (cdig 1 d) = d := by
    intro d a b
    unfold cdig
    split
    · show d % 10 + 10 * 0 = d
      omega
    · show (0 : Int) = d
      omega
  have h3 : ∀ d : Int, 0 ≤ d → d < 100 → L (cdig 2 d) = d := by
    intro d a b
    unfold cdig
    split
    · show d % 10 + 10 * L (cdig 1 (d / 10)) = d
      rw [h2 _ (by omega) (by omega)]
      omega
    · show (0 : Int) = d
      omega
  unfold cdig
  split
  · show c % 10 + 10 * L (cdig 2 (c / 10)) = c
    rw [h3 _ (by omega) (by omega)]
    omega
  · show (0 : Int) = c
    omega
/-- The digits of a product, the last one first. -/
def prod (sc : Int) (d : List Int) : List Int := mulLow sc d 0 ++ cdig 3 (carry sc d 0)
theorem prod_dg (sc : Int) (d : List Int) : Dg (prod sc d) := (mulLow_dg sc d 0).app (cdig_dg 3 _)
theorem prod_L {sc : Int} (hs : 1 ≤ sc) (hs2 : sc ≤ 1000) {d : List Int} (hd : Dg d) : L (prod sc d) = L d * sc := by
  have hc := carry_bd hs hd (c := 0) (by omega) (by omega)
  unfold prod
  rw [L_app, cdig_L hc.1 (by omega)]
  have := mulLow_L sc 0 d 0
  rw [Lw_zero d] at this
  rw [Int.zero_mul, Int.zero_add] at this
  omega
theorem prod_len (sc : Int) (d : List Int) : (prod sc d).length ≤ d.length + 3 := by
  unfold prod
  rw [List.length_append, mulLow_len]
  have := cdig_len 3 (carry sc d 0)
  omega
/-- The rounded value: B, of which so many digits stand behind the point (below 0: as many noughts behind them). -/
def S (B b : Int) : Int := if b < 0 then m10 B (-b).toNat else q B b.toNat + (if 0 < b ∧ q B (b.toNat - 1) % 10 ≥ 5 then 1 else 0)
/-- The first digits, and noughts behind them. -/
def hv (l : List Int) : Nat → Int
  | 0 => 0
  | i + 1 => 10 * hv l i + l.getD i 0
theorem hv_nonneg {l : List Int} (h : Dg l) : ∀ i, 0 ≤ hv l i
  | 0 => Int.le_refl _
  | i + 1 => by
    have h1 := hv_nonneg h i
    have h2 := h.get i
    show 0 ≤ 10 * hv l i + l.getD i 0
    omega
theorem hv_lt {l : List Int} (h : Dg l) : ∀ i, hv l i + 1 ≤ m10 1 i
  | 0 => Int.le_refl _
  | i + 1 => by
    have h1 := hv_lt h i
    have h2 := h.get i
    rw [m10_one]
    show 10 * hv l i + l.getD i 0 + 1 ≤ 10 * m10 1 i
    omega
theorem m10_13 {i : Nat} (h : i ≤ 13) : m10 1 i ≤ 10000000000000 := by
  have : ∀ j, j ≤ 13 → m10 1 j ≤ 10000000000000 := by decide
  exact this i h
theorem hv_take {l : List Int} : ∀ i, i ≤ l.length → hv l i = L ((l.take i).reverse)
  | 0, h => rfl
  | i + 1, h => by
    show 10 * hv l i + l.getD i 0 = _
    rw [hv_take i (by omega), List.take_succ_eq_append_getElem (by omega), List.reverse_append]
    show _ = l[i] + 10 * L ((l.take i).reverse)
    rw [List.getD_eq_getElem?_getD, List.getElem?_eq_getElem (by omega)]
    simp only [Option.getD_some]
    omega
theorem hv_more {l : List Int} : ∀ j, hv l (l.length + j) = m10 (hv l l.length) j
  | 0 => rfl
  | j + 1 => by
    rw [m10_one, ← hv_more j]
    show 10 * hv l (l.length + j) + l.getD (l.length + j) 0 = _
    rw [List.getD_eq_getElem?_getD, List.getElem?_eq_none (by omega)]
    simp
theorem L_big : ∀ {l : List Int}, Dg l → (h : l ≠ []) → 1 ≤ l.getLast h → m10 1 (l.length - 1) ≤ L l
  | [x], hd, h, h1 => by
    show (1 : Int) ≤ x + 10 * 0
    have : 1 ≤ x := h1
    omega
  | x :: y :: ys, hd, h, h1 => by
    have hi := L_big hd.tail (by simp) (by rw [List.getLast_cons (by simp)] at h1; exact h1)
    have hx := hd.head
    show m10 1 (ys.length + 1) ≤ x + 10 * L (y :: ys)
    have hi2 : m10 1 ys.length ≤ L (y :: ys) := hi
    rw [m10_one]
    omega
theorem m10_11 {i : Nat} (h : 11 ≤ i) : 100000000000 ≤ m10 1 i := by
  obtain ⟨j, rfl⟩ := Nat.exists_eq_add_of_le h
  rw [m10_add]
  exact m10_le j (by decide)
/-- What is beyond all lengths. -/
theorem S_big {sc : Int} (hs : 1 ≤ sc) {d : List Int} (hd : Dg d) (hne : d ≠ []) (h1 : 1 ≤ d.getLast hne) {point : Int} (hp : 13 < point) : 68719476736 < S (L d * sc) ((d.length : Int) - point) := by
  have hL := L_big hd hne h1
  have hlen : 0 < d.length := List.length_pos_iff.2 hne
  have hL0 := L_nonneg hd
  have hmul : L d ≤ L d * sc := by
    have := Int.mul_le_mul_of_nonneg_left hs hL0
    omega
  unfold S
  by_cases hb : (d.length : Int) - point < 0
  · rw [if_pos hb]
    have e := m10_mono (-((d.length : Int) - point)).toNat hmul
    have e2 := m10_mono (-((d.length : Int) - point)).toNat hL
    rw [← m10_add] at e2
    have e3 := m10_11 (i := d.length - 1 + (-((d.length : Int) - point)).toNat) (by omega)
    omega
  · rw [if_neg hb]
    have e := q_mono ((d.length : Int) - point).toNat hmul
    rw [← L_drop hd] at e
    have hdl : ((d.drop ((d.length : Int) - point).toNat)).length = d.length - ((d.length : Int) - point).toNat := List.length_drop
    have hne2 : d.drop ((d.length : Int) - point).toNat ≠ [] := by
      intro k
      rw [k] at hdl
      simp only [List.length_nil] at hdl
      omega
    have e2 := L_big (hd.drop _) hne2 (by rw [List.getLast_drop]; exact h1)
    have e3 := m10_11 (i := (d.drop ((d.length : Int) - point).toNat).length - 1) (by omega)
    split <;> omega
theorem S_small {sc : Int} (hs : 1 ≤ sc) (hs2 : sc ≤ 1000) {d : List Int} (hd : Dg d) {point : Int} (hp : point < -5) : S (L d * sc) ((d.length : Int) - point) = 0 := by
  have hc := carry_bd hs hd (c := 0) (by omega) (by omega)
  have h0 : q (L d * sc) d.length = carry sc d 0 := by
    have := carry_q sc 0 d 0
    rw [Lw_zero, Int.zero_mul, Int.zero_add, Int.add_zero] at this
    exact this
  have h3 : ∀ j, 3 ≤ j → q (L d * sc) (d.length + j) = 0 := by
    intro j hj
    obtain ⟨i, rfl⟩ := Nat.exists_eq_add_of_le hj
    rw [q_add, h0, q_add]
    have : q (carry sc d 0) 3 = 0 := by
      show carry sc d 0 / 10 / 10 / 10 = 0
      omega
    rw [this, q_zero]
  unfold S
  rw [if_neg (by omega)]
  have e1 := h3 (((d.length : Int) - point).toNat - d.length) (by omega)
  have e2 := h3 (((d.length : Int) - point).toNat - 1 - d.length) (by omega)
  rw [show d.length + (((d.length : Int) - point).toNat - d.length) = ((d.length : Int) - point).toNat by omega] at e1
  rw [show d.length + (((d.length : Int) - point).toNat - 1 - d.length) = ((d.length : Int) - point).toNat - 1 by omega] at e2
  rw [e1, e2, if_neg (by omega)]
  rfl
theorem S_zero (b : Int) : S 0 b = 0 := by
  have : ∀ i, m10 0 i = 0 := by
    intro i
    induction i with
    | zero => rfl
    | succ i ih => rw [m10_one, ih]; rfl
  unfold S
  split
  · exact this _
  · rw [q_zero, q_zero, if_neg (by omega)]
    rfl
end Go.Proofs.YtfccpnpocfjbcaaDoor.Dig
