/- The library's stable sort in plain Lean, function by function (blocks by insertion, one merge by rotations), and that it sorts: no program in sight. Condition of the last theorem: at most 40 places, as the jobs of a plan have. -/
import Derived.Sort.LotA
set_option linter.unusedVariables false
set_option linter.unusedSimpArgs false
namespace Go.Proofs.YtdniejjhkkepcaaDoorW.Stab
open Go.Sort
section
variable {α : Type}
variable (key idx : α → Int)
def ltK (x y : α) : Bool := decide (key x < key y)
def ltX (x y : α) : Bool := decide (key x < key y ∨ key x = key y ∧ idx x < idx y)
theorem swo_ltX : SWO (ltX key idx) := by
  constructor
  · intro x; simp [ltX]
  · intro x y z; simp only [ltX, decide_eq_true_eq]; omega
  · intro x y z; simp only [ltX, decide_eq_false_iff_not]; omega
theorem ltK_X {x y : α} (h : idx y < idx x) : ltK key x y = ltX key idx x y := by
  unfold ltK ltX
  congr 1
  apply propext
  constructor
  · intro g; exact .inl g
  · intro g; omega
end
section
variable {α : Type} [Inhabited α]
theorem getCongr (d : Array α) {x y : Nat} (h : x = y) : d[x]! = d[y]! := by rw [h]
/-- n swaps of the places a + i and b + i, from i on. -/
def swapR (a b : Nat) : Nat → Nat → Array α → Array α
  | 0, _, d => d
  | n + 1, i, d => swapR a b n (i + 1) (swp d (a + i) (b + i))
theorem swapR_size (a b : Nat) : ∀ (n i : Nat) (d : Array α), (swapR a b n i d).size = d.size := by
  intro n
  induction n with
  | zero => intro i d; rfl
  | succ n ih => intro i d; rw [swapR, ih, swp_size]
theorem swapR_get (a b : Nat) : ∀ (n i : Nat) (d : Array α), a + n ≤ b → b + i + n ≤ d.size → ∀ k, (swapR a b n i d)[k]! = if a + i ≤ k ∧ k < a + i + n then d[k + (b - a)]! else if b + i ≤ k ∧ k < b + i + n then d[k - (b - a)]! else d[k]! := by
  intro n
  induction n with
  | zero => intro i d h1 h2 k; rw [swapR, if_neg (by omega), if_neg (by omega)]
  | succ n ih =>
    intro i d h1 h2 k
    have g := swp_get d (show a + i < d.size by omega) (show b + i < d.size by omega)
    rw [swapR, ih (i + 1) _ (by omega) (by rw [swp_size]; omega), g, g, g]
    repeat' split
    all_goals first | rfl | (exfalso; omega) | exact getCongr d (by omega)
theorem swapR_perm (a b lo hi : Nat) : ∀ (n i : Nat) (d : Array α), lo ≤ a + i → lo ≤ b + i → a + i + n ≤ hi → b + i + n ≤ hi → hi ≤ d.size → PermIn lo hi d (swapR a b n i d) := by
  intro n
  induction n with
  | zero => intro i d _ _ _ _ _; exact permIn_refl d lo hi
  | succ n ih =>
    intro i d h1 h2 h3 h4 h5
    rw [swapR]
    exact permIn_trans _ _ _ lo hi (swp_permIn d lo hi (a + i) (b + i) h1 (by omega) h2 (by omega) h5) (ih (i + 1) _ (by omega) (by omega) (by omega) (by omega) (by rw [swp_size]; exact h5))
/-- The rotation's loop. -/
def rotL (m : Nat) : Nat → Nat → Nat → Array α → Array α
  | 0, _, _, d => d
  | f + 1, i, j, d => if i = j then swapR (m - i) m i 0 d else if j < i then rotL m f (i - j) j (swapR (m - i) m j 0 d) else rotL m f i (j - i) (swapR (m - i) (m + j - i) i 0 d)
def rot (d : Array α) (a m b : Nat) : Array α := rotL m (b - a) (m - a) (b - m) d
theorem rotL_size (m : Nat) : ∀ (f i j : Nat) (d : Array α), (rotL m f i j d).size = d.size := by
  intro f
  induction f with
  | zero => intro i j d; rfl
  | succ f ih =>
    intro i j d
    rw [rotL]
    split
    · exact swapR_size _ _ _ _ _
    · split
      · rw [ih, swapR_size]
      · rw [ih, swapR_size]
theorem rotL_get (m : Nat) : ∀ (f i j : Nat) (d : Array α), 1 ≤ i → 1 ≤ j → i + j ≤ f + 1 → i ≤ m → m + j ≤ d.size →
    ∀ k, (rotL m f i j d)[k]! = if m - i ≤ k ∧ k < m - i + j then d[k + i]! else if m - i + j ≤ k ∧ k < m + j then d[k - j]! else d[k]! := by
  intro f
  induction f with
  | zero => intro i j d h1 h2 h3 h4 h5 k; exfalso; omega
  | succ f ih =>
    intro i j d h1 h2 h3 h4 h5 k
    rw [rotL]
    by_cases c1 : i = j
    · rw [if_pos c1, swapR_get _ _ _ _ _ (by omega) (by omega)]
      repeat' split
      all_goals first | rfl | (exfalso; omega) | exact getCongr d (by omega)
    · rw [if_neg c1]
      by_cases c2 : j < i
      · rw [if_pos c2]
        have g := swapR_get (m - i) m j 0 d (by omega) (by omega)
        rw [ih (i - j) j _ (by omega) h2 (by omega) (by omega) (by rw [swapR_size]; exact h5), g, g, g]
        repeat' split
        all_goals first | rfl | (exfalso; omega) | exact getCongr d (by omega)
      · rw [if_neg c2]
        have g := swapR_get (m - i) (m + j - i) i 0 d (by omega) (by omega)
        rw [ih i (j - i) _ h1 (by omega) (by omega) h4 (by rw [swapR_size]; omega), g, g, g]
        repeat' split
        all_goals first | rfl | (exfalso; omega) | exact getCongr d (by omega)
theorem rotL_perm (m lo hi : Nat) : ∀ (f i j : Nat) (d : Array α), 1 ≤ i → 1 ≤ j → i ≤ m → lo ≤ m - i → m + j ≤ hi → hi ≤ d.size → PermIn lo hi d (rotL m f i j d) := by
  intro f
  induction f with
  | zero => intro i j d _ _ _ _ _ _; exact permIn_refl d lo hi
  | succ f ih =>
    intro i j d h1 h2 h3 h4 h5 h6
    rw [rotL]
    by_cases c1 : i = j
    · rw [if_pos c1]; exact swapR_perm _ _ _ _ _ _ _ (by omega) (by omega) (by omega) (by omega) h6
    · rw [if_neg c1]
      by_cases c2 : j < i
      · rw [if_pos c2]
        exact permIn_trans _ _ _ lo hi (swapR_perm (m - i) m lo hi j 0 d (by omega) (by omega) (by omega) (by omega) h6) (ih (i - j) j _ (by omega) h2 (by omega) (by omega) h5 (by rw [swapR_size]; exact h6))
      · rw [if_neg c2]
        exact permIn_trans _ _ _ lo hi (swapR_perm (m - i) (m + j - i) lo hi i 0 d (by omega) (by omega) (by omega) (by omega) h6) (ih i (j - i) _ h1 (by omega) h3 h4 (by omega) (by rw [swapR_size]; exact h6))
/-- Half by half: the first place from i on at which p is false. -/
def bs (p : Nat → Bool) : Nat → Nat → Nat → Nat
  | 0, i, _ => i
  | f + 1, i, j => if i < j then (if p ((i + j) / 2) = true then bs p f ((i + j) / 2 + 1) j else bs p f i ((i + j) / 2)) else i
theorem bs_spec (p : Nat → Bool) (lo hi : Nat) (hm : ∀ x y, lo ≤ x → x ≤ y → y < hi → p y = true → p x = true) : ∀ (f i j : Nat), lo ≤ i → i ≤ j → j ≤ hi → j - i ≤ f → (∀ x, lo ≤ x → x < i → p x = true) → (∀ x, j ≤ x → x < hi → p x = false) →
    i ≤ bs p f i j ∧ bs p f i j ≤ j ∧ (∀ x, lo ≤ x → x < bs p f i j → p x = true) ∧ (∀ x, bs p f i j ≤ x → x < hi → p x = false) := by
  intro f
  induction f with
  | zero =>
    intro i j h1 h2 h3 h4 h5 h6
    obtain rfl : i = j := by omega
    exact ⟨Nat.le_refl _, Nat.le_refl _, h5, h6⟩
  | succ f ih =>
    intro i j h1 h2 h3 h4 h5 h6
    rw [bs]
    by_cases c : i < j
    · rw [if_pos c]
      by_cases q : p ((i + j) / 2) = true
      · rw [if_pos q]
        have := ih ((i + j) / 2 + 1) j (by omega) (by omega) h3 (by omega) (fun x hx hx2 => hm x _ hx (by omega) (by omega) q) h6
        exact ⟨by omega, this.2⟩
      · rw [if_neg q]
        have qf : p ((i + j) / 2) = false := by simpa using q
        have := ih i ((i + j) / 2) h1 (by omega) (by omega) (by omega) h5 (fun x hx hx2 => by
          cases e : p x with
          | false => rfl
          | true => exact absurd (hm _ x (by omega) hx hx2 e) q)
        exact ⟨this.1, by omega, this.2.2⟩
    · rw [if_neg c]
      obtain rfl : i = j := by omega
      exact ⟨Nat.le_refl _, Nat.le_refl _, h5, h6⟩
def slideUp : Nat → Nat → Array α → Array α
  | 0, _, d => d
  | n + 1, k, d => slideUp n (k + 1) (swp d k (k + 1))
theorem slideUp_size : ∀ (n k : Nat) (d : Array α), (slideUp n k d).size = d.size := by
  intro n
  induction n with
  | zero => intro k d; rfl
  | succ n ih => intro k d; rw [slideUp, ih, swp_size]
theorem slideUp_get : ∀ (n k : Nat) (d : Array α), k + n < d.size → ∀ x, (slideUp n k d)[x]! = if x = k + n then d[k]! else if k ≤ x ∧ x < k + n then d[x + 1]! else d[x]! := by
  intro n
  induction n with
  | zero =>
    intro k d h x
    rw [slideUp]
    repeat' split
    all_goals first | rfl | (exfalso; omega) | exact getCongr d (by omega)
  | succ n ih =>
    intro k d h x
    have g := swp_get d (show k < d.size by omega) (show k + 1 < d.size by omega)
    rw [slideUp, ih (k + 1) _ (by rw [swp_size]; omega), g, g, g]
    repeat' split
    all_goals first | rfl | (exfalso; omega) | exact getCongr d (by omega)
theorem slideUp_perm (lo hi : Nat) : ∀ (n k : Nat) (d : Array α), lo ≤ k → k + n < hi → hi ≤ d.size → PermIn lo hi d (slideUp n k d) := by
  intro n
  induction n with
  | zero => intro k d _ _ _; exact permIn_refl d lo hi
  | succ n ih =>
    intro k d h1 h2 h3
    rw [slideUp]
    exact permIn_trans _ _ _ lo hi (swp_permIn d lo hi k (k + 1) h1 (by omega) (by omega) (by omega) h3) (ih (k + 1) _ (by omega) (by omega) (by rw [swp_size]; exact h3))
def slideDn : Nat → Nat → Array α → Array α
  | 0, _, d => d
  | n + 1, k, d => slideDn n (k - 1) (swp d k (k - 1))
theorem slideDn_size : ∀ (n k : Nat) (d : Array α), (slideDn n k d).size = d.size := by
  intro n
  induction n with
  | zero => intro k d; rfl
  | succ n ih => intro k d; rw [slideDn, ih, swp_size]
theorem slideDn_get : ∀ (n k : Nat) (d : Array α), n ≤ k → k < d.size → ∀ x, (slideDn n k d)[x]! = if x = k - n then d[k]! else if k - n < x ∧ x ≤ k then d[x - 1]! else d[x]! := by
  intro n
  induction n with
  | zero =>
    intro k d h h2 x
    rw [slideDn]
    repeat' split
    all_goals first | rfl | (exfalso; omega) | exact getCongr d (by omega)
  | succ n ih =>
    intro k d h h2 x
    have g := swp_get d (show k < d.size by omega) (show k - 1 < d.size by omega)
    rw [slideDn, ih (k - 1) _ (by omega) (by rw [swp_size]; omega), g, g, g]
    repeat' split
    all_goals first | rfl | (exfalso; omega) | exact getCongr d (by omega)
theorem slideDn_perm (lo hi : Nat) : ∀ (n k : Nat) (d : Array α), lo + n ≤ k → k < hi → hi ≤ d.size → PermIn lo hi d (slideDn n k d) := by
  intro n
  induction n with
  | zero => intro k d _ _ _; exact permIn_refl d lo hi
  | succ n ih =>
    intro k d h1 h2 h3
    rw [slideDn]
    exact permIn_trans _ _ _ lo hi (swp_permIn d lo hi k (k - 1) (by omega) (by omega) (by omega) (by omega) h3) (ih (k - 1) _ (by omega) (by omega) (by rw [swp_size]; exact h3))
/-- Where the merge's search ends. -/
def cutAt (lt : α → α → Bool) (d : Array α) (a m b : Nat) : Nat :=
  if (a + b) / 2 < m then bs (fun c => !lt d[(a + b) / 2 + m - 1 - c]! d[c]!) (b - a) ((a + b) / 2 + m - b) ((a + b) / 2) else bs (fun c => !lt d[(a + b) / 2 + m - 1 - c]! d[c]!) (b - a) a m
/-- The merge of two sorted runs, in place. -/
def symM (lt : α → α → Bool) : Nat → Nat → Nat → Nat → Array α → Array α
  | 0, _, _, _, d => d
  | f + 1, a, m, b, d =>
    if m - a = 1 then slideUp (bs (fun h => lt d[h]! d[a]!) (b - a) m b - 1 - a) a d
    else if b - m = 1 then slideDn (m - bs (fun h => !lt d[m]! d[h]!) (b - a) a m) m d
    else
      let s := cutAt lt d a m b
      let e := (a + b) / 2 + m - s
      let d1 := if s < m ∧ m < e then rot d s m e else d
      let d2 := if a < s ∧ s < (a + b) / 2 then symM lt f a s ((a + b) / 2) d1 else d1
      if (a + b) / 2 < e ∧ e < b then symM lt f ((a + b) / 2) e b d2 else d2
theorem rot_size (d : Array α) (a m b : Nat) : (rot d a m b).size = d.size := rotL_size _ _ _ _ _
theorem symM_size (lt : α → α → Bool) : ∀ (f a m b : Nat) (d : Array α), (symM lt f a m b d).size = d.size := by
  intro f
  induction f with
  | zero => intro a m b d; rfl
  | succ f ih =>
    intro a m b d
    rw [symM]
    by_cases c1 : m - a = 1
    · rw [if_pos c1, slideUp_size]
    · rw [if_neg c1]
      by_cases c2 : b - m = 1
      · rw [if_pos c2, slideDn_size]
      · rw [if_neg c2]
        dsimp only
        repeat' split
        all_goals simp only [ih, rot_size]
variable {lx : α → α → Bool}
/-- What the search finds. -/
theorem cutAt_spec (hS : SWO lx) (lt : α → α → Bool) (d : Array α) (a m b : Nat) (h1 : a + 1 < m) (h2 : m + 1 < b) (hl : SortedIn lx a m d) (hr : SortedIn lx m b d)
    (hx : ∀ i j, a ≤ i → i < m → m ≤ j → j < b → lt d[j]! d[i]! = lx d[j]! d[i]!) :
    a ≤ cutAt lt d a m b ∧ cutAt lt d a m b ≤ m ∧ cutAt lt d a m b ≤ (a + b) / 2 ∧ (a + b) / 2 + m ≤ b + cutAt lt d a m b ∧
    (∀ x y, a ≤ x → x < cutAt lt d a m b → (a + b) / 2 + m - cutAt lt d a m b ≤ y → y < b → lx d[y]! d[x]! = false) ∧
    (∀ x y, m ≤ x → x < (a + b) / 2 + m - cutAt lt d a m b → cutAt lt d a m b ≤ y → y < m → lx d[y]! d[x]! = false) := by
  obtain ⟨lo, hi, hlo, hhi, hlh, hc, w1, w2⟩ : ∃ lo hi, a ≤ lo ∧ hi ≤ m ∧ lo ≤ hi ∧ cutAt lt d a m b = bs (fun c => !lt d[(a + b) / 2 + m - 1 - c]! d[c]!) (b - a) lo hi ∧ (lo = a ∧ (a + b) / 2 + m ≤ b + a ∨ lo + b = (a + b) / 2 + m) ∧ (hi = m ∧ m ≤ (a + b) / 2 ∨ hi = (a + b) / 2 ∧ hi < m) := by
    unfold cutAt
    by_cases c : (a + b) / 2 < m
    · rw [if_pos c]; exact ⟨(a + b) / 2 + m - b, (a + b) / 2, by omega, by omega, by omega, rfl, .inr (by omega), .inr ⟨rfl, c⟩⟩
    · rw [if_neg c]; exact ⟨a, m, by omega, by omega, by omega, rfl, .inl ⟨rfl, by omega⟩, .inl ⟨rfl, by omega⟩⟩
  have pc : ∀ c, lo ≤ c → c < hi → (!lt d[(a + b) / 2 + m - 1 - c]! d[c]!) = !lx d[(a + b) / 2 + m - 1 - c]! d[c]! := fun c g1 g2 => by rw [hx c _ (by omega) (by omega) (by omega) (by omega)]
  have le_r : ∀ x y, m ≤ x → x ≤ y → y < b → lx d[y]! d[x]! = false := fun x y g1 g2 g3 => by
    rcases Nat.lt_or_ge x y with g | g
    · exact hr x y g1 g g3
    · obtain rfl : x = y := by omega
      exact hS.irrefl _
  have le_l : ∀ x y, a ≤ x → x ≤ y → y < m → lx d[y]! d[x]! = false := fun x y g1 g2 g3 => by
    rcases Nat.lt_or_ge x y with g | g
    · exact hl x y g1 g g3
    · obtain rfl : x = y := by omega
      exact hS.irrefl _
  have mono : ∀ x y, lo ≤ x → x ≤ y → y < hi → (!lt d[(a + b) / 2 + m - 1 - y]! d[y]!) = true → (!lt d[(a + b) / 2 + m - 1 - x]! d[x]!) = true := fun x y g1 g2 g3 g4 => by
    rw [pc x g1 (by omega)]
    rw [pc y (by omega) g3] at g4
    simp only [Bool.not_eq_true'] at g4 ⊢
    exact hS.ntrans _ _ _ (le_r ((a + b) / 2 + m - 1 - y) ((a + b) / 2 + m - 1 - x) (by omega) (by omega) (by omega)) (hS.ntrans _ _ _ g4 (le_l x y (by omega) g2 (by omega)))
  obtain ⟨g1, g2, g3, g4⟩ := bs_spec _ lo hi mono (b - a) lo hi (Nat.le_refl _) hlh (Nat.le_refl _) (by omega) (fun x h3 h4 => by omega) (fun x h3 h4 => by omega)
  rw [← hc] at g1 g2 g3 g4
  generalize cutAt lt d a m b = s at g1 g2 g3 g4 ⊢
  refine ⟨by omega, by omega, by omega, by omega, ?_, ?_⟩
  · intro x y h3 h4 h5 h6
    have hs : lo < s := by omega
    have q := g3 (s - 1) (by omega) (by omega)
    rw [pc (s - 1) (by omega) (by omega)] at q
    simp only [Bool.not_eq_true'] at q
    rw [getCongr d (show (a + b) / 2 + m - 1 - (s - 1) = (a + b) / 2 + m - s by omega)] at q
    exact hS.ntrans _ _ _ (le_r ((a + b) / 2 + m - s) y (by omega) h5 h6) (hS.ntrans _ _ _ q (le_l x (s - 1) h3 (by omega) (by omega)))
  · intro x y h3 h4 h5 h6
    have hs : s < hi := by omega
    have q := g4 s (Nat.le_refl _) hs
    rw [pc s (by omega) hs] at q
    simp only [Bool.not_eq_false'] at q
    have q2 := hS.asymmA q
    rw [getCongr d (show (a + b) / 2 + m - 1 - s = (a + b) / 2 + m - s - 1 by omega)] at q2
    exact hS.ntrans _ _ _ (le_l s y (by omega) h5 h6) (hS.ntrans _ _ _ q2 (le_r x ((a + b) / 2 + m - s - 1) h3 (by omega) (by omega)))
theorem permIn_size {lo hi : Nat} {d d' : Array α} (h : PermIn lo hi d d') : d'.size = d.size := h.1
theorem permIn_out {lo hi : Nat} {d d' : Array α} (h : PermIn lo hi d d') {i : Nat} (hi2 : i < lo ∨ hi ≤ i) : d'[i]! = d[i]! := h.2.1 i hi2
theorem symM_spec (hS : SWO lx) (lt : α → α → Bool) : ∀ (f a m b : Nat) (d : Array α), a < m → m < b → b ≤ d.size → b - a ≤ f → SortedIn lx a m d → SortedIn lx m b d →
    (∀ i j, a ≤ i → i < m → m ≤ j → j < b → lt d[j]! d[i]! = lx d[j]! d[i]!) → PermIn a b d (symM lt f a m b d) ∧ SortedIn lx a b (symM lt f a m b d) := by
  intro f
  induction f with
  | zero => intro a m b d h1 h2 h3 h4; exfalso; omega
  | succ f ih =>
    intro a m b d h1 h2 h3 h4 hl hr hx
    have le_r : ∀ x y, m ≤ x → x ≤ y → y < b → lx d[y]! d[x]! = false := fun x y g1 g2 g3 => by
      rcases Nat.lt_or_ge x y with g | g
      · exact hr x y g1 g g3
      · obtain rfl : x = y := by omega
        exact hS.irrefl _
    have le_l : ∀ x y, a ≤ x → x ≤ y → y < m → lx d[y]! d[x]! = false := fun x y g1 g2 g3 => by
      rcases Nat.lt_or_ge x y with g | g
      · exact hl x y g1 g g3
      · obtain rfl : x = y := by omega
        exact hS.irrefl _
    rw [symM]
    by_cases c1 : m - a = 1
    · rw [if_pos c1]
      have mono : ∀ x y, m ≤ x → x ≤ y → y < b → lt d[y]! d[a]! = true → lt d[x]! d[a]! = true := fun x y g1 g2 g3 g4 => by
        rw [hx a x (by omega) (by omega) g1 (by omega)]
        rw [hx a y (by omega) (by omega) (by omega) g3] at g4
        cases e : lx d[x]! d[a]! with
        | true => rfl
        | false => rw [hS.ntrans _ _ _ (le_r x y g1 g2 g3) e] at g4; exact absurd g4 (by simp)
      obtain ⟨g1, g2, g3, g4⟩ := bs_spec (fun h => lt d[h]! d[a]!) m b mono (b - a) m b (Nat.le_refl _) (by omega) (Nat.le_refl _) (by omega) (fun x h3 h4 => by omega) (fun x h3 h4 => by omega)
      generalize bs (fun h => lt d[h]! d[a]!) (b - a) m b = i at g1 g2 g3 g4 ⊢
      refine ⟨slideUp_perm a b _ a d (Nat.le_refl _) (by omega) h3, ?_⟩
      have g := slideUp_get (i - 1 - a) a d (by omega)
      intro x y hx1 hxy hy
      rw [g, g]
      have up : ∀ z, m ≤ z → z < i → lx d[a]! d[z]! = false := fun z q1 q2 => hS.asymmA (by rw [← hx a z (by omega) (by omega) q1 (by omega)]; exact g3 z q1 q2)
      have dn : ∀ z, i ≤ z → z < b → lx d[z]! d[a]! = false := fun z q1 q2 => by rw [← hx a z (by omega) (by omega) (by omega) q2]; exact g4 z q1 q2
      by_cases e1 : y = a + (i - 1 - a)
      · rw [if_pos e1, if_neg (by omega), if_pos (by omega)]
        exact up (x + 1) (by omega) (by omega)
      · rw [if_neg e1]
        by_cases e2 : a ≤ y ∧ y < a + (i - 1 - a)
        · rw [if_pos e2, if_neg (by omega), if_pos (by omega)]
          exact le_r _ _ (by omega) (by omega) (by omega)
        · rw [if_neg e2]
          by_cases e3 : x = a + (i - 1 - a)
          · rw [if_pos e3]; exact dn y (by omega) hy
          · rw [if_neg e3]
            by_cases e4 : a ≤ x ∧ x < a + (i - 1 - a)
            · rw [if_pos e4]; exact le_r _ _ (by omega) (by omega) hy
            · rw [if_neg e4]; exact le_r _ _ (by omega) (by omega) hy
    · rw [if_neg c1]
      by_cases c2 : b - m = 1
      · rw [if_pos c2]
        have mono : ∀ x y, a ≤ x → x ≤ y → y < m → (!lt d[m]! d[y]!) = true → (!lt d[m]! d[x]!) = true := fun x y g1 g2 g3 g4 => by
          rw [hx x m g1 (by omega) (Nat.le_refl _) h2]
          rw [hx y m (by omega) g3 (Nat.le_refl _) h2] at g4
          simp only [Bool.not_eq_true'] at g4 ⊢
          exact hS.ntrans _ _ _ g4 (le_l x y g1 g2 g3)
        obtain ⟨g1, g2, g3, g4⟩ := bs_spec (fun h => !lt d[m]! d[h]!) a m mono (b - a) a m (Nat.le_refl _) (by omega) (Nat.le_refl _) (by omega) (fun x h3 h4 => by omega) (fun x h3 h4 => by omega)
        generalize bs (fun h => !lt d[m]! d[h]!) (b - a) a m = i at g1 g2 g3 g4 ⊢
        refine ⟨slideDn_perm a b _ m d (by omega) (by omega) h3, ?_⟩
        have g := slideDn_get (m - i) m d (by omega) (by omega)
        intro x y hx1 hxy hy
        rw [g, g]
        have up : ∀ z, a ≤ z → z < i → lx d[m]! d[z]! = false := fun z q1 q2 => by
          have := g3 z q1 q2
          simp only [Bool.not_eq_true'] at this
          rw [← hx z m q1 (by omega) (Nat.le_refl _) h2]; exact this
        have dn : ∀ z, i ≤ z → z < m → lx d[z]! d[m]! = false := fun z q1 q2 => by
          have := g4 z q1 q2
          simp only [Bool.not_eq_false'] at this
          exact hS.asymmA (by rw [← hx z m (by omega) q2 (Nat.le_refl _) h2]; exact this)
        by_cases e1 : y = m - (m - i)
        · rw [if_pos e1, if_neg (by omega), if_neg (by omega)]
          exact up x hx1 (by omega)
        · rw [if_neg e1]
          by_cases e2 : m - (m - i) < y ∧ y ≤ m
          · rw [if_pos e2]
            by_cases e3 : x = m - (m - i)
            · rw [if_pos e3]; exact dn _ (by omega) (by omega)
            · rw [if_neg e3]
              by_cases e4 : m - (m - i) < x ∧ x ≤ m
              · rw [if_pos e4]; exact le_l _ _ (by omega) (by omega) (by omega)
              · rw [if_neg e4]; exact le_l _ _ (by omega) (by omega) (by omega)
          · rw [if_neg e2, if_neg (by omega), if_neg (by omega)]
            exact le_l _ _ (by omega) (by omega) (by omega)
      · rw [if_neg c2]
        obtain ⟨s1, s2, s3, s4, s5, s6⟩ := cutAt_spec hS lt d a m b (by omega) (by omega) hl hr hx
        generalize cutAt lt d a m b = s at s1 s2 s3 s4 s5 s6 ⊢
        obtain ⟨md, hmd⟩ : ∃ q, q = (a + b) / 2 := ⟨_, rfl⟩
        have hm1 : a + 2 ≤ md := by omega
        have hm2 : md + 2 ≤ b := by omega
        rw [← hmd] at s3 s4 s5 s6 ⊢
        clear hmd
        dsimp only
        obtain ⟨e, he⟩ : ∃ q, q = md + m - s := ⟨_, rfl⟩
        have he1 : m ≤ e := by omega
        have he2 : md ≤ e := by omega
        have he3 : e ≤ b := by omega
        rw [← he] at s5 s6 ⊢
        have R : ∃ d1, d1 = (if s < m ∧ m < e then rot d s m e else d) ∧ PermIn a b d d1 ∧ ∀ x, d1[x]! = if s ≤ x ∧ x < md then d[x + (m - s)]! else if md ≤ x ∧ x < e then d[x - (e - m)]! else d[x]! := by
          refine ⟨_, rfl, ?_, ?_⟩
          · by_cases c : s < m ∧ m < e
            · rw [if_pos c]; exact rotL_perm m a b _ _ _ d (by omega) (by omega) (by omega) (by omega) (by omega) h3
            · rw [if_neg c]; exact permIn_refl d a b
          · intro x
            by_cases c : s < m ∧ m < e
            · rw [if_pos c]
              unfold rot
              rw [rotL_get m _ _ _ d (by omega) (by omega) (by omega) (by omega) (by omega)]
              repeat' split
              all_goals first | rfl | (exfalso; omega) | exact getCongr d (by omega)
            · rw [if_neg c]
              repeat' split
              all_goals first | rfl | (exfalso; omega) | exact getCongr d (by omega)
        obtain ⟨d1, e1, p1, g1⟩ := R
        rw [← e1]
        clear e1
        have z1 := permIn_size p1
        -- whatever lies in the first half is not above what lies in the second
        have cross : ∀ x y, a ≤ x → x < md → md ≤ y → y < b → lx d1[y]! d1[x]! = false := by
          intro x y q1 q2 q3 q4
          rw [g1, g1, if_neg (by omega)]
          by_cases c : s ≤ x ∧ x < md
          · rw [if_pos c]
            by_cases c' : md ≤ y ∧ y < e
            · rw [if_pos c']; exact s6 _ _ (by omega) (by omega) (by omega) (by omega)
            · rw [if_neg c']; exact le_r _ _ (by omega) (by omega) q4
          · rw [if_neg c, if_neg (show ¬ (md ≤ x ∧ x < e) by omega)]
            by_cases c' : md ≤ y ∧ y < e
            · rw [if_pos c']; exact le_l _ _ q1 (by omega) (by omega)
            · rw [if_neg c']; exact s5 _ _ q1 (by omega) (by omega) q4
        have A : ∃ d2, d2 = (if a < s ∧ s < md then symM lt f a s md d1 else d1) ∧ PermIn a md d1 d2 ∧ SortedIn lx a md d2 := by
          refine ⟨_, rfl, ?_⟩
          have k1 : SortedIn lx a s d1 := fun x y q1 q2 q3 => by
            rw [g1, g1, if_neg (by omega), if_neg (by omega), if_neg (by omega), if_neg (by omega)]
            exact le_l _ _ q1 (by omega) (by omega)
          have k2 : SortedIn lx s md d1 := fun x y q1 q2 q3 => by
            rw [g1, g1, if_pos (by omega), if_pos (by omega)]
            exact le_r _ _ (by omega) (by omega) (by omega)
          by_cases c : a < s ∧ s < md
          · rw [if_pos c]
            refine ih a s md d1 c.1 c.2 (by omega) (by omega) k1 k2 ?_
            intro i j q1 q2 q3 q4
            rw [g1, g1, if_pos (by omega), if_neg (by omega), if_neg (by omega)]
            exact hx _ _ (by omega) (by omega) (by omega) (by omega)
          · rw [if_neg c]
            refine ⟨permIn_refl _ _ _, ?_⟩
            by_cases c' : a < s
            · have : s = md := by omega
              rw [← this]; exact k1
            · have : s = a := by omega
              rw [this] at k2; exact k2
        obtain ⟨d2, e2, p2, k2⟩ := A
        rw [← e2]
        clear e2
        have z2 := permIn_size p2
        have o2 : ∀ x, md ≤ x → d2[x]! = d1[x]! := fun x q => permIn_out p2 (.inr q)
        have C : PermIn md b d2 (if md < e ∧ e < b then symM lt f md e b d2 else d2) ∧ SortedIn lx md b (if md < e ∧ e < b then symM lt f md e b d2 else d2) := by
          have k3 : SortedIn lx md e d2 := fun x y q1 q2 q3 => by
            rw [o2 x (by omega), o2 y (by omega), g1, g1, if_neg (by omega), if_pos (by omega), if_neg (by omega), if_pos (by omega)]
            exact le_l _ _ (by omega) (by omega) (by omega)
          have k4 : SortedIn lx e b d2 := fun x y q1 q2 q3 => by
            rw [o2 x (by omega), o2 y (by omega), g1, g1, if_neg (by omega), if_neg (by omega), if_neg (by omega), if_neg (by omega)]
            exact le_r _ _ (by omega) (by omega) (by omega)
          by_cases c : md < e ∧ e < b
          · rw [if_pos c]
            refine ih md e b d2 c.1 c.2 (by omega) (by omega) k3 k4 ?_
            intro i j q1 q2 q3 q4
            rw [o2 i (by omega), o2 j (by omega), g1, g1, if_neg (by omega), if_neg (by omega), if_neg (by omega), if_pos (by omega)]
            exact hx _ _ (by omega) (by omega) (by omega) (by omega)
          · rw [if_neg c]
            refine ⟨permIn_refl _ _ _, ?_⟩
            by_cases c' : md < e
            · have : e = b := by omega
              rw [← this]; exact k3
            · have : e = md := by omega
              rw [this] at k4; exact k4
        obtain ⟨p3, k3⟩ := C
        generalize (if md < e ∧ e < b then symM lt f md e b d2 else d2) = d3 at p3 k3 ⊢
        have z3 := permIn_size p3
        refine ⟨permIn_trans _ _ _ a b p1 (permIn_trans _ _ _ a b (permIn_mono d1 d2 a md a b (Nat.le_refl _) (by omega) (by omega) p2) (permIn_mono d2 d3 md b a b (by omega) (Nat.le_refl _) (by omega) p3)), ?_⟩
        intro x y q1 q2 q3
        by_cases c : y < md
        · rw [permIn_out p3 (.inl (show x < md by omega)), permIn_out p3 (.inl c)]
          exact k2 x y q1 q2 c
        · by_cases c' : md ≤ x
          · exact k3 x y c' q2 q3
          · rw [permIn_out p3 (.inl (show x < md by omega))]
            have w1 : ∀ y0, md ≤ y0 → y0 < b → ∀ x0, a ≤ x0 → x0 < md → lx d1[y0]! d2[x0]! = false := fun y0 r1 r2 =>
              permIn_all d1 d2 a md (fun z => lx d1[y0]! z = false) (by omega) p2 (fun x0 r3 r4 => cross x0 y0 r3 r4 r1 r2)
            exact permIn_all d2 d3 md b (fun z => lx z d2[x]! = false) (by omega) p3 (fun y0 r1 r2 => by rw [o2 y0 r1]; exact w1 y0 r1 r2 x q1 (by omega)) y (by omega) q3
/-! ### the whole, at 40 places or fewer -/
theorem insInner_same (lt : α → α → Bool) (a : Nat) : ∀ (j : Nat) (d : Array α), j < d.size → (∀ p, a ≤ p → p < j → lt d[j]! d[p]! = lx d[j]! d[p]!) → insInner lt a j d = insInner lx a j d := by
  intro j
  induction j with
  | zero => intro d _ _; rfl
  | succ j ih =>
    intro d hj h
    rw [insInner, insInner]
    by_cases c : j + 1 > a
    · rw [h j (by omega) (by omega)]
      have g := swp_get d hj (show j < d.size by omega)
      rw [ih (swp d (j + 1) j) (by rw [swp_size]; omega) (fun p q1 q2 => by
        rw [g, g, if_pos rfl, if_neg (by omega), if_neg (by omega)]
        exact h p q1 (by omega))]
    · simp [c]
variable (key idx : α → Int)
theorem ins_same (a b : Nat) : ∀ (n i : Nat) (d : Array α), b - i = n → a ≤ i → b ≤ d.size → (∀ p q, a ≤ p → p < q → i ≤ q → q < b → idx d[p]! < idx d[q]!) → insOuter (ltK key) a b i d = insOuter (ltX key idx) a b i d := by
  intro n
  induction n with
  | zero => intro i d h1 h2 h3 h4; rw [insOuter, if_neg (by omega), insOuter, if_neg (by omega)]
  | succ n ih =>
    intro i d h1 h2 h3 h4
    have hib : i < b := by omega
    have u1 : ∀ l : α → α → Bool, insOuter l a b i d = insOuter l a b (i + 1) (insInner l a i d) := fun l => by rw [insOuter, if_pos hib]
    rw [u1, u1, insInner_same (lx := ltX key idx) (ltK key) a i d (by omega) (fun p q1 q2 => ltK_X key idx (h4 p i q1 q2 (Nat.le_refl _) (by omega)))]
    have P : PermIn a (i + 1) d (insInner (ltX key idx) a i d) := by
      clear ih h4
      have : ∀ (j : Nat) (d : Array α), i + 1 ≤ d.size → j ≤ i → PermIn a (i + 1) d (insInner (ltX key idx) a j d) := by
        intro j
        induction j with
        | zero => intro d _ _; exact permIn_refl _ _ _
        | succ j ihj =>
          intro d hd hji
          rw [insInner]
          split
          · rename_i hc
            simp only [Bool.and_eq_true, decide_eq_true_eq] at hc
            exact permIn_trans _ _ _ a (i + 1) (swp_permIn d a (i + 1) (j + 1) j (by omega) (by omega) (by omega) (by omega) hd) (ihj _ (by rw [swp_size]; exact hd) (by omega))
          · exact permIn_refl _ _ _
      exact this i d (by omega) (Nat.le_refl _)
    refine ih (i + 1) _ (by omega) (by omega) (by rw [permIn_size P]; exact h3) ?_
    intro p q q1 q2 q3 q4
    rw [permIn_out P (.inr (show i + 1 ≤ q by omega))]
    by_cases c : p < i + 1
    · exact permIn_all d _ a (i + 1) (fun z => idx z < idx d[q]!) (by omega) P (fun r r1 r2 => h4 r q r1 (by omega) (by omega) q4) p q1 c
    · rw [permIn_out P (.inr (show i + 1 ≤ p by omega))]; exact h4 p q q1 q2 (by omega) q4
theorem insInner_size (lt : α → α → Bool) (a : Nat) : ∀ (j : Nat) (d : Array α), (insInner lt a j d).size = d.size := by
  intro j
  induction j with
  | zero => intro d; rfl
  | succ j ih =>
    intro d
    rw [insInner]
    split
    · rw [ih, swp_size]
    · rfl
theorem insOuter_size (lt : α → α → Bool) (a b : Nat) : ∀ (n i : Nat) (d : Array α), b - i = n → (insOuter lt a b i d).size = d.size := by
  intro n
  induction n with
  | zero => intro i d h; rw [insOuter, if_neg (by omega)]
  | succ n ih => intro i d h; rw [insOuter, if_pos (by omega), ih (i + 1) _ (by omega), insInner_size]
theorem ins_size (lt : α → α → Bool) (d : Array α) (a b : Nat) : (insertionSort lt d a b).size = d.size := insOuter_size lt a b _ _ d rfl
theorem ins_triv (lt : α → α → Bool) (d : Array α) (a b : Nat) (h : b ≤ a + 1) : insertionSort lt d a b = d := by
  unfold insertionSort
  rw [insOuter, if_neg (by omega)]
/-- The blocks of twenty, the first k of them sorted. -/
def insB (lt : α → α → Bool) (d : Array α) : Nat → Array α
  | 0 => d
  | k + 1 => insertionSort lt (insB lt d k) (20 * k) (20 * k + 20)
theorem insB_size (lt : α → α → Bool) (d : Array α) : ∀ k, (insB lt d k).size = d.size := by
  intro k
  induction k with
  | zero => rfl
  | succ k ih => rw [insB, ins_size, ih]
/-- What the merge finds. -/
def preD (lt : α → α → Bool) (d : Array α) : Array α := if d.size ≤ 20 then insertionSort lt d 0 d.size else insertionSort lt (insertionSort lt d 0 20) 20 d.size
theorem preD_size (lt : α → α → Bool) (d : Array α) : (preD lt d).size = d.size := by
  unfold preD
  split
  · rw [ins_size]
  · rw [ins_size, ins_size]
theorem preD_of (lt : α → α → Bool) (d : Array α) (k : Nat) (h1 : 20 * k ≤ d.size) (h2 : d.size < 20 * k + 20) (h3 : d.size ≤ 40) : insertionSort lt (insB lt d k) (20 * k) d.size = preD lt d := by
  unfold preD
  by_cases c : d.size ≤ 20
  · rw [if_pos c]
    by_cases c0 : k = 0
    · subst c0; rfl
    · obtain rfl : k = 1 := by omega
      rw [ins_triv _ _ _ _ (by omega)]
      show insertionSort lt d (20 * 0) (20 * 0 + 20) = _
      rw [show d.size = 20 by omega]
  · rw [if_neg c]
    by_cases c1 : k = 1
    · subst c1; rfl
    · obtain rfl : k = 2 := by omega
      rw [ins_triv _ _ _ _ (by omega)]
      show insertionSort lt (insertionSort lt d (20 * 0) (20 * 0 + 20)) (20 * 1) (20 * 1 + 20) = _
      rw [show d.size = 40 by omega]
/-- The stable sort of at most 40 places. -/
def stab (lt : α → α → Bool) (d : Array α) : Array α :=
  if d.size ≤ 20 then insertionSort lt d 0 d.size else symM lt d.size 0 20 d.size (insertionSort lt (insertionSort lt d 0 20) 20 d.size)
theorem insertion_same (a b : Nat) (d : Array α) (hab : a ≤ b) (hb : b ≤ d.size) (h : ∀ p q, a ≤ p → p < q → q < b → idx d[p]! < idx d[q]!) : insertionSort (ltK key) d a b = insertionSort (ltX key idx) d a b :=
  ins_same key idx a b _ (a + 1) d rfl (by omega) hb (fun p q q1 q2 _ q4 => h p q q1 q2 q4)
theorem stab_spec (d : Array α) (h : ∀ p q, p < q → q < d.size → idx d[p]! < idx d[q]!) : PermIn 0 d.size d (stab (ltK key) d) ∧ SortedIn (ltX key idx) 0 d.size (stab (ltK key) d) := by
  have hS := swo_ltX key idx
  unfold stab
  by_cases c : d.size ≤ 20
  · rw [if_pos c, insertion_same key idx 0 d.size d (by omega) (Nat.le_refl _) (fun p q _ q2 q3 => h p q q2 q3)]
    exact insertionSort_holds hS d 0 d.size (by omega) (Nat.le_refl _)
  · rw [if_neg c, insertion_same key idx 0 20 d (by omega) (by omega) (fun p q _ q2 q3 => h p q q2 (by omega))]
    obtain ⟨p1, k1⟩ := insertionSort_holds hS d 0 20 (by omega) (by omega)
    generalize insertionSort (ltX key idx) d 0 20 = d1 at p1 k1 ⊢
    have z1 := permIn_size p1
    have o1 : ∀ x, 20 ≤ x → d1[x]! = d[x]! := fun x q => permIn_out p1 (.inr q)
    rw [insertion_same key idx 20 d.size d1 (by omega) (by omega) (fun p q q1 q2 q3 => by rw [o1 p q1, o1 q (by omega)]; exact h p q q2 q3)]
    obtain ⟨p2, k2⟩ := insertionSort_holds hS d1 20 d.size (by omega) (by omega)
    generalize insertionSort (ltX key idx) d1 20 d.size = d2 at p2 k2 ⊢
    have z2 := permIn_size p2
    have o2 : ∀ x, x < 20 → d2[x]! = d1[x]! := fun x q => permIn_out p2 (.inl q)
    have w1 : ∀ i, 0 ≤ i → i < 20 → idx d1[i]! < idx d[20]! := permIn_all d d1 0 20 (fun z => idx z < idx d[20]!) (by omega) p1 (fun i _ q => h i 20 q (by omega))
    have w2 : ∀ i, 20 ≤ i → i < d.size → idx d[20]! ≤ idx d2[i]! := permIn_all d1 d2 20 d.size (fun z => idx d[20]! ≤ idx z) (by omega) p2 (fun i q1 q2 => by
      rw [o1 i q1]
      rcases Nat.lt_or_ge 20 i with g | g
      · exact Int.le_of_lt (h 20 i g q2)
      · obtain rfl : i = 20 := by omega
        exact Int.le_refl _)
    obtain ⟨p3, k3⟩ := symM_spec (lx := ltX key idx) hS (ltK key) d.size 0 20 d.size d2 (by omega) (by omega) (by omega) (by omega) (fun i j q1 q2 q3 => by rw [o2 i (by omega), o2 j q3]; exact k1 i j q1 q2 q3) k2 (fun i j q1 q2 q3 q4 => ltK_X key idx (by
      have a1 := w1 i q1 q2
      have a2 := w2 j q3 q4
      rw [o2 i q2]
      omega))
    exact ⟨permIn_trans _ _ _ 0 d.size (permIn_mono d d1 0 20 0 d.size (Nat.le_refl _) (by omega) (Nat.le_refl _) p1) (permIn_trans _ _ _ 0 d.size (permIn_mono d1 d2 20 d.size 0 d.size (by omega) (Nat.le_refl _) (by omega) p2) p3), k3⟩
theorem stab_pre (lt : α → α → Bool) (d : Array α) : stab lt d = if d.size ≤ 20 then preD lt d else symM lt d.size 0 20 d.size (preD lt d) := by
  unfold stab preD
  by_cases c : d.size ≤ 20
  · rw [if_pos c, if_pos c, if_pos c]
  · rw [if_neg c, if_neg c, if_neg c]
end
end Go.Proofs.YtdniejjhkkepcaaDoorW.Stab
