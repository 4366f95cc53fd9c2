/-
  Plain mathematics of the distribution of an amount by weights: the shares rounded down, then one unit each for those with the greatest remainders; no Go in sight.
-/
namespace Go.Proofs.YtieklkpjlbpnbaaDoor.Sp

/-- The sum of a list. -/
def sm : List Int → Int
  | [] => 0
  | x :: l => x + sm l
theorem sm_append (a b : List Int) : sm (a ++ b) = sm a + sm b := by
  induction a with
  | nil => simp [sm]
  | cons x l ih => simp [sm, ih]; omega
theorem sm_set : ∀ (l : List Int) (k : Nat) (v : Int), k < l.length → sm (l.set k v) = sm l - l.getD k 0 + v
  | [], k, v, h => by simp at h
  | x :: l, 0, v, h => by simp [sm]; omega
  | x :: l, k + 1, v, h => by
    have := sm_set l k v (by simpa using h)
    simp only [List.set_cons_succ, sm, List.getD_cons_succ, this]
    omega
theorem sm_nonneg : ∀ (l : List Int), (∀ x ∈ l, 0 ≤ x) → 0 ≤ sm l
  | [], _ => by simp [sm]
  | x :: l, h => by
    have := sm_nonneg l fun y hy => h y (List.mem_cons_of_mem _ hy)
    have := h x (List.mem_cons_self ..)
    simp only [sm]; omega
theorem sm_ge : ∀ (l : List Int) (k : Nat), (∀ x ∈ l, 0 ≤ x) → k < l.length → l.getD k 0 ≤ sm l
  | [], k, _, h => by simp at h
  | x :: l, 0, hn, h => by
    have := sm_nonneg l fun y hy => hn y (List.mem_cons_of_mem _ hy)
    simp [sm]; omega
  | x :: l, k + 1, hn, h => by
    have := sm_ge l k (fun y hy => hn y (List.mem_cons_of_mem _ hy)) (by simpa using h)
    have := hn x (List.mem_cons_self ..)
    simp only [sm, List.getD_cons_succ]; omega
theorem sm_pos : ∀ (l : List Int), 0 < sm l → ∃ k, k < l.length ∧ 0 < l.getD k 0
  | [], h => by simp [sm] at h
  | x :: l, h => by
    by_cases hx : 0 < x
    · exact ⟨0, by simp, by simpa using hx⟩
    · obtain ⟨k, h1, h2⟩ := sm_pos l (by simp only [sm] at h; omega)
      exact ⟨k + 1, by simpa using h1, by simpa using h2⟩

/-- Where the first of the greatest stands: the search from place length - g on, the best so far at k. -/
def amF (rs : List Int) : Nat → Nat → Nat
  | 0, k => k
  | g + 1, k => amF rs g (if rs.getD k 0 < rs.getD (rs.length - (g + 1)) 0 then rs.length - (g + 1) else k)
def amax (rs : List Int) : Nat := amF rs rs.length 0
theorem amF_spec (rs : List Int) : ∀ (g k : Nat), g ≤ rs.length → k < rs.length → (∀ j, j < rs.length - g → rs.getD j 0 ≤ rs.getD k 0) → amF rs g k < rs.length ∧ ∀ j, j < rs.length → rs.getD j 0 ≤ rs.getD (amF rs g k) 0
  | 0, k, _, hk, h => ⟨hk, fun j hj => h j (by omega)⟩
  | g + 1, k, hg, hk, h => by
    unfold amF
    split
    · rename_i hlt
      refine amF_spec rs g _ (by omega) (by omega) fun j hj => ?_
      by_cases e : j = rs.length - (g + 1)
      · subst e; exact Int.le_refl _
      · have := h j (by omega); omega
    · rename_i hlt
      refine amF_spec rs g k (by omega) hk fun j hj => ?_
      by_cases e : j = rs.length - (g + 1)
      · subst e; omega
      · exact h j (by omega)
theorem amax_spec {rs : List Int} (h : 0 < rs.length) : amax rs < rs.length ∧ ∀ j, j < rs.length → rs.getD j 0 ≤ rs.getD (amax rs) 0 :=
  amF_spec rs rs.length 0 (Nat.le_refl _) h fun j hj => by omega
/-- The reference begins at place 1. -/
theorem amax_one {rs : List Int} (h : 0 < rs.length) : amax rs = amF rs (rs.length - 1) 0 := by
  unfold amax
  obtain ⟨n, hn⟩ : ∃ n, rs.length = n + 1 := ⟨rs.length - 1, by omega⟩
  rw [hn]
  conv => lhs; unfold amF
  rw [hn, Nat.sub_self, if_neg (by omega)]
  rfl
/-- The distribution of what is left. -/
def give : Nat → List Int → List Int → List Int
  | 0, ps, _ => ps
  | n + 1, ps, rs => give n (ps.set (amax rs) (ps.getD (amax rs) 0 + 1)) (rs.set (amax rs) (-1))
/-- The remainders that are not used up. -/
def pos (l : List Int) : List Int := l.map fun x => if x < 0 then 0 else x
theorem pos_set (l : List Int) (k : Nat) : pos (l.set k (-1)) = (pos l).set k 0 := by simp [pos, List.map_set]
theorem pos_nonneg (l : List Int) : ∀ x ∈ pos l, 0 ≤ x := by
  intro x hx
  simp only [pos, List.mem_map] at hx
  obtain ⟨y, _, rfl⟩ := hx
  split <;> omega
theorem pos_get (l : List Int) (k : Nat) : (pos l).getD k 0 = if l.getD k 0 < 0 then 0 else l.getD k 0 := by
  unfold pos
  rcases Nat.lt_or_ge k l.length with h | h
  · simp [List.getD_eq_getElem?_getD, h]
  · simp [List.getD_eq_getElem?_getD, h]
theorem getD_set_ne {l : List Int} {k j : Nat} {v : Int} (h : k ≠ j) : (l.set k v).getD j 0 = l.getD j 0 := by
  simp [List.getD_eq_getElem?_getD, List.getElem?_set_ne h]
theorem getD_set_eq {l : List Int} {k : Nat} {v : Int} (h : k < l.length) : (l.set k v).getD k 0 = v := by
  simp [List.getD_eq_getElem?_getD, h]

/-- The state while what is left is given: qs, os: the shares rounded down and their remainders. -/
structure GRel (S : Int) (qs os ps rs : List Int) (n : Nat) : Prop where
  l1 : ps.length = qs.length
  l2 : rs.length = qs.length
  l3 : os.length = qs.length
  each : ∀ j, j < qs.length → (rs.getD j 0 = os.getD j 0 ∧ ps.getD j 0 = qs.getD j 0) ∨ (rs.getD j 0 = -1 ∧ 0 < os.getD j 0 ∧ ps.getD j 0 = qs.getD j 0 + 1)
  enough : n * S ≤ sm (pos rs)
  small : ∀ j, j < qs.length → 0 ≤ os.getD j 0 ∧ os.getD j 0 < S
theorem GRel.step {S : Int} {qs os ps rs : List Int} {n : Nat} (hS : 0 < S) (h : GRel S qs os ps rs (n + 1)) :
    GRel S qs os (ps.set (amax rs) (ps.getD (amax rs) 0 + 1)) (rs.set (amax rs) (-1)) n ∧ sm (ps.set (amax rs) (ps.getD (amax rs) 0 + 1)) = sm ps + 1 ∧ amax rs < qs.length := by
  have he := h.enough
  have hpos : 0 < sm (pos rs) := by
    have : (1 : Int) * S ≤ ((n + 1 : Nat) : Int) * S := Int.mul_le_mul_of_nonneg_right (by omega) (by omega)
    omega
  obtain ⟨k, hk, hk0⟩ := sm_pos _ hpos
  have hklen : k < rs.length := by simpa [pos] using hk
  obtain ⟨ha, hmax⟩ := amax_spec (rs := rs) (by omega)
  have hA : 0 < rs.getD (amax rs) 0 := by
    have h1 := hmax k hklen
    rw [pos_get] at hk0
    split at hk0
    · omega
    · omega
  have hlt : amax rs < qs.length := by rw [← h.l2]; exact ha
  have hold : rs.getD (amax rs) 0 = os.getD (amax rs) 0 ∧ ps.getD (amax rs) 0 = qs.getD (amax rs) 0 := by
    rcases h.each _ hlt with e | ⟨e, _⟩
    · exact e
    · omega
  have hsm := h.small _ hlt
  generalize amax rs = a at *
  refine ⟨⟨by simpa using h.l1, by simpa using h.l2, h.l3, fun j hj => ?_, ?_, h.small⟩, ?_, hlt⟩
  · by_cases e : a = j
    · subst e
      exact .inr ⟨getD_set_eq ha, by omega, by rw [getD_set_eq (by rw [h.l1]; exact hlt)]; omega⟩
    · rw [getD_set_ne e, getD_set_ne e]
      exact h.each j hj
  · rw [pos_set, sm_set _ _ _ (by simpa [pos] using ha), pos_get, if_neg (by omega)]
    have : ((n + 1 : Nat) : Int) * S = (n : Int) * S + S := by rw [Int.natCast_add, Int.add_mul]; simp
    omega
  · rw [sm_set _ _ _ (by rw [h.l1]; exact hlt)]
    omega
theorem give_spec {S : Int} {qs os : List Int} (hS : 0 < S) : ∀ (n : Nat) (ps rs : List Int), GRel S qs os ps rs n →
    (give n ps rs).length = qs.length ∧ sm (give n ps rs) = sm ps + n ∧ ∀ j, j < qs.length → (give n ps rs).getD j 0 = qs.getD j 0 ∨ (0 < os.getD j 0 ∧ (give n ps rs).getD j 0 = qs.getD j 0 + 1)
  | 0, ps, rs, h => ⟨h.l1, by simp [give], fun j hj => by
    rcases h.each j hj with ⟨_, e⟩ | ⟨_, e1, e2⟩
    · exact .inl e
    · exact .inr ⟨e1, e2⟩⟩
  | n + 1, ps, rs, h => by
    obtain ⟨h1, h2, _⟩ := h.step hS
    obtain ⟨a, b, c⟩ := give_spec hS n _ _ h1
    refine ⟨a, ?_, c⟩
    show sm (give n _ _) = _
    rw [b, h2]
    omega
/-- The shares rounded down, and their remainders. -/
def quos (A S : Int) (ws : List Int) : List Int := ws.map fun w => A * w / S
def rems (A S : Int) (ws : List Int) : List Int := ws.map fun w => A * w % S
theorem shares_sum {A S : Int} : ∀ ws : List Int, sm (quos A S ws) * S + sm (rems A S ws) = A * sm ws
  | [] => by simp [quos, rems, sm]
  | w :: ws => by
    have ih := shares_sum (A := A) (S := S) ws
    have e := Int.mul_ediv_add_emod (A * w) S
    rw [Int.mul_comm] at e
    simp only [quos, rems, List.map_cons, sm] at *
    rw [Int.add_mul, Int.mul_add]
    omega
theorem quos_len (A S : Int) (ws : List Int) : (quos A S ws).length = ws.length ∧ (rems A S ws).length = ws.length := by simp [quos, rems]
theorem get_quos {A S : Int} {ws : List Int} {j : Nat} (h : j < ws.length) : (quos A S ws).getD j 0 = A * ws.getD j 0 / S ∧ (rems A S ws).getD j 0 = A * ws.getD j 0 % S := by
  simp [quos, rems, List.getD_eq_getElem?_getD, h]
theorem pos_same : ∀ {l : List Int}, (∀ x ∈ l, 0 ≤ x) → pos l = l
  | [], _ => rfl
  | x :: l, h => by
    have := pos_same fun y hy => h y (List.mem_cons_of_mem _ hy)
    have hx := h x (List.mem_cons_self ..)
    simp only [pos, List.map_cons] at *
    rw [this, if_neg (by omega)]
/-- How much is left, and the parts of the absolute amount. -/
def left (A S : Int) (ws : List Int) : Int := A - sm (quos A S ws)
def parts (A S : Int) (ws : List Int) : List Int := give (left A S ws).toNat (quos A S ws) (rems A S ws)
theorem GRel.start {A : Int} {ws : List Int} (hS : 0 < sm ws) : 0 ≤ left A (sm ws) ws ∧ GRel (sm ws) (quos A (sm ws) ws) (rems A (sm ws) ws) (quos A (sm ws) ws) (rems A (sm ws) ws) (left A (sm ws) ws).toNat := by
  have hsum := shares_sum (A := A) (S := sm ws) ws
  have hr : ∀ x ∈ rems A (sm ws) ws, 0 ≤ x ∧ x < sm ws := by
    intro x hx
    simp only [rems, List.mem_map] at hx
    obtain ⟨y, _, rfl⟩ := hx
    exact ⟨Int.emod_nonneg _ (by omega), Int.emod_lt_of_pos _ hS⟩
  have hrn := sm_nonneg _ fun x hx => (hr x hx).1
  have hl : left A (sm ws) ws * sm ws = sm (rems A (sm ws) ws) := by
    unfold left
    rw [Int.sub_mul]
    omega
  have hl0 : 0 ≤ left A (sm ws) ws := by
    rcases Classical.em (0 ≤ left A (sm ws) ws) with h | h
    · exact h
    · have : left A (sm ws) ws * sm ws ≤ (-1) * sm ws := Int.mul_le_mul_of_nonneg_right (by omega) (by omega)
      omega
  obtain ⟨k1, k2⟩ := quos_len A (sm ws) ws
  refine ⟨hl0, rfl, by omega, by omega, fun j hj => .inl ⟨rfl, rfl⟩, ?_, fun j hj => ?_⟩
  · rw [pos_same fun x hx => (hr x hx).1, ← hl, Int.toNat_of_nonneg hl0]
    exact Int.le_refl _
  · rw [k1] at hj
    rw [(get_quos hj).2]
    exact ⟨Int.emod_nonneg _ (by omega), Int.emod_lt_of_pos _ hS⟩
/-- The law of a distribution: all parts together are the amount, and each is its exact share rounded down or up. -/
theorem parts_spec {A : Int} {ws : List Int} (hS : 0 < sm ws) :
    (parts A (sm ws) ws).length = ws.length ∧ sm (parts A (sm ws) ws) = A ∧ ∀ j, j < ws.length → -sm ws < (parts A (sm ws) ws).getD j 0 * sm ws - A * ws.getD j 0 ∧ (parts A (sm ws) ws).getD j 0 * sm ws - A * ws.getD j 0 < sm ws := by
  obtain ⟨h0, h⟩ := GRel.start (A := A) hS
  obtain ⟨a, b, c⟩ := give_spec hS _ _ _ h
  obtain ⟨k1, _⟩ := quos_len A (sm ws) ws
  refine ⟨by rw [← k1]; exact a, ?_, fun j hj => ?_⟩
  · show sm (give _ _ _) = A
    rw [b, Int.toNat_of_nonneg h0]
    unfold left
    omega
  · obtain ⟨e1, e2⟩ := get_quos (A := A) (S := sm ws) hj
    have e := Int.mul_ediv_add_emod (A * ws.getD j 0) (sm ws)
    rw [Int.mul_comm] at e
    have r0 := Int.emod_nonneg (A * ws.getD j 0) (show sm ws ≠ 0 by omega)
    have r1 := Int.emod_lt_of_pos (A * ws.getD j 0) hS
    rcases c j (by omega) with hh | ⟨h1, hh⟩
    · show -sm ws < (give _ _ _).getD j 0 * sm ws - _ ∧ (give _ _ _).getD j 0 * sm ws - _ < sm ws
      rw [hh, e1]
      omega
    · show -sm ws < (give _ _ _).getD j 0 * sm ws - _ ∧ (give _ _ _).getD j 0 * sm ws - _ < sm ws
      rw [hh, e1, Int.add_mul]
      rw [e2] at h1
      omega
end Go.Proofs.YtieklkpjlbpnbaaDoor.Sp
