/-
  Standing orders, plain: valid orders, their next day, what Add, Cancel, Due and Done answer; the laws of the chapter.
-/
import Derived.Test.YtdlmoijeflchgaaKm
namespace Go.Proofs.Ytdlmoijeflchgaa.So
open Go.Proofs.Ytdlmoijeflchgaa.Cal
open Go.Proofs.Ytdlmoijeflchgaa.Kl (upto upto_yes upto_no upto_iff byt Cl adj adj_in addM addM_civ addM_in mend oV oE)

/-- A standing order. -/
structure Od where
  (id fr too am day ev an un tr : Int) (tx : ByteArray)
instance : Inhabited Od := ⟨⟨0, 0, 0, 0, 0, 0, 0, 0, 0, .empty⟩⟩
def prB (c : Nat) : Bool := decide (32 ≤ c ∧ c ≤ 126)
def txB (s : ByteArray) : Bool := decide (s.size ≤ 64) && upto s.size fun j => prB (byt s j)
/-- The parts of Check. -/
def idB (o : Od) : Bool := decide (1 ≤ o.id ∧ 1000 ≤ o.fr ∧ 1000 ≤ o.too ∧ o.fr ≠ o.too ∧ 1 ≤ o.am ∧ o.am ≤ 1000000000000)
def dyB (o : Od) : Bool := decide ((0 ≤ o.day ∧ o.day ≤ 73048) ∧ (0 ≤ o.un ∧ o.un ≤ 73048) ∧ o.day ≤ o.un)
def evB (o : Od) : Bool := decide (o.ev = 0 ∨ o.ev = 1 ∨ o.ev = 3 ∨ o.ev = 6 ∨ o.ev = 12) && decide (1 ≤ o.an ∧ o.an ≤ 31)
def trB (o : Od) : Bool := decide (0 ≤ o.tr ∧ o.tr ≤ 3) && txB o.tx
def odE (o : Od) : Int := if idB o && dyB o && evB o && trB o then 0 else 1
theorem odE_id {o : Od} (h : ¬ (1 ≤ o.id ∧ 1000 ≤ o.fr ∧ 1000 ≤ o.too ∧ o.fr ≠ o.too ∧ 1 ≤ o.am ∧ o.am ≤ 1000000000000)) : odE o = 1 := by
  have : idB o = false := decide_eq_false h
  unfold odE
  rw [this]; rfl
theorem odE_dy {o : Od} (h : ¬ ((0 ≤ o.day ∧ o.day ≤ 73048) ∧ (0 ≤ o.un ∧ o.un ≤ 73048) ∧ o.day ≤ o.un)) : odE o = 1 := by
  have : dyB o = false := decide_eq_false h
  unfold odE
  rw [this]; simp
theorem odE_ev {o : Od} (h : ¬ ((o.ev = 0 ∨ o.ev = 1 ∨ o.ev = 3 ∨ o.ev = 6 ∨ o.ev = 12) ∧ (1 ≤ o.an ∧ o.an ≤ 31))) : odE o = 1 := by
  have : evB o = false := by
    unfold evB
    by_cases h1 : o.ev = 0 ∨ o.ev = 1 ∨ o.ev = 3 ∨ o.ev = 6 ∨ o.ev = 12
    · rw [decide_eq_true h1, decide_eq_false (fun h2 => h ⟨h1, h2⟩)]; rfl
    · rw [decide_eq_false h1]; rfl
  unfold odE
  rw [this]; simp
theorem odE_tr {o : Od} (h : ¬ (0 ≤ o.tr ∧ o.tr ≤ 3)) : odE o = 1 := by
  have : trB o = false := by unfold trB; rw [decide_eq_false h]; rfl
  unfold odE
  rw [this]; simp
theorem odE_tx {o : Od} (h : txB o.tx = false) : odE o = 1 := by
  have : trB o = false := by unfold trB; rw [h]; simp
  unfold odE
  rw [this]; simp
/-- A valid order. -/
structure Ok (o : Od) : Prop where
  nums : 1 ≤ o.id ∧ 1000 ≤ o.fr ∧ 1000 ≤ o.too ∧ o.fr ≠ o.too ∧ 1 ≤ o.am ∧ o.am ≤ 1000000000000
  days : (0 ≤ o.day ∧ o.day ≤ 73048) ∧ (0 ≤ o.un ∧ o.un ≤ 73048) ∧ o.day ≤ o.un
  evs : o.ev = 0 ∨ o.ev = 1 ∨ o.ev = 3 ∨ o.ev = 6 ∨ o.ev = 12
  an : 1 ≤ o.an ∧ o.an ≤ 31
  tr : 0 ≤ o.tr ∧ o.tr ≤ 3
  tx : txB o.tx = true
theorem Ok.odE {o : Od} (h : Ok o) : odE o = 0 := by
  unfold So.odE idB dyB evB trB
  rw [decide_eq_true h.nums, decide_eq_true h.days, decide_eq_true h.evs, decide_eq_true h.an, decide_eq_true h.tr, h.tx]
  rfl
theorem ok_of {o : Od} (h : odE o = 0) : Ok o := by
  unfold odE at h
  split at h
  · rename_i hb
    simp only [idB, dyB, evB, trB, Bool.and_eq_true, decide_eq_true_eq] at hb
    exact ⟨hb.1.1.1, hb.1.1.2, hb.1.2.1, hb.1.2.2, hb.2.1, hb.2.2⟩
  · omega
theorem odE_01 (o : Od) : odE o = 0 ∨ odE o = 1 := by unfold odE; split <;> simp
/-- A day moved to a business day of its month, if there is one; the next day. -/
noncomputable def mvd (c : Cl) (n : Int) : Int := match adj c n with
  | some x => if mend x = mend n then x else n
  | none => n
noncomputable def nx (o : Od) (c : Cl) : Option Int := if o.ev = 0 then none else match addM o.day o.ev o.an with
  | none => none
  | some n => if mvd c n ≤ o.un then some (mvd c n) else none
noncomputable def nxE (o : Od) (c : Cl) : Int := if odE o ≠ 0 then 1 else oE (nx o c) 23
noncomputable def nxV (o : Od) (c : Cl) : Int := if odE o ≠ 0 then 0 else oV (nx o c)
/-- The number of a month. -/
noncomputable def mo (d : Int) : Int := 12 * cy d + cm d
theorem mo_of {d y m k : Int} (h : IsCivil d y m k) : mo d = 12 * y + m := by
  have := civ_eq h
  unfold mo
  rw [this.1, this.2.1]
theorem mend_civ {d : Int} (h0 : 0 ≤ d) (h1 : d ≤ 73048) : IsCivil (mend d) (cy d) (cm d) (mlen (cy d) (cm d)) := by
  have h := civ_spec d h0 h1
  have ml := mlen_bd (cy d) (cm d) h.m0 h.m1
  have := h.at_
  exact ⟨h.y0, h.y1, h.m0, h.m1, by omega, by omega, by unfold mend; omega⟩
theorem mvd_in {c : Cl} {n : Int} (h0 : 0 ≤ n) (h1 : n ≤ 73048) : (0 ≤ mvd c n ∧ mvd c n ≤ 73048) ∧ mo (mvd c n) = mo n := by
  unfold mvd
  split
  · rename_i x hx
    have hb := adj_in h0 h1 hx
    split
    · rename_i he
      have a := mend_civ hb.1 hb.2
      have b := mend_civ h0 h1
      rw [he] at a
      have u := a.uniq b
      refine ⟨hb, ?_⟩
      unfold mo
      rw [u.1, u.2.1]
    · exact ⟨⟨h0, h1⟩, rfl⟩
  · exact ⟨⟨h0, h1⟩, rfl⟩
theorem addM_mo {d n a x : Int} (ha : 1 ≤ a) (h : addM d n a = some x) : mo x = mo d + n := by
  have hc := addM_civ ha h
  rw [mo_of hc.2.2]
  unfold mo
  omega
theorem nx_mo {o : Od} {c : Cl} {x : Int} (ha : 1 ≤ o.an) (h : nx o c = some x) : o.ev ≠ 0 ∧ (0 ≤ x ∧ x ≤ 73048) ∧ x ≤ o.un ∧ mo x = mo o.day + o.ev := by
  unfold nx at h
  split at h
  · cases h
  · rename_i h0
    split at h
    · cases h
    · rename_i n hn
      have hb := addM_in ha hn
      have hm := addM_mo ha hn
      have hv := mvd_in (c := c) hb.1 hb.2
      split at h
      · rename_i hu
        cases h
        exact ⟨h0, hv.1, hu, by rw [hv.2, hm]⟩
      · cases h
theorem nxE_0 {o : Od} {c : Cl} (h : nxE o c = 0) : Ok o ∧ ∃ x, nx o c = some x ∧ nxV o c = x := by
  unfold nxE at h
  split at h
  · omega
  · rename_i h0
    have h0' : odE o = 0 := Classical.byContradiction h0
    refine ⟨ok_of h0', ?_⟩
    unfold nxV
    rw [if_neg h0]
    cases hx : nx o c with
    | none => rw [hx] at h; cases h
    | some x => exact ⟨x, rfl, rfl⟩
theorem day_le_mo {a b : Int} (ha0 : 0 ≤ a) (ha1 : a ≤ 73048) (hb0 : 0 ≤ b) (hb1 : b ≤ 73048) (h : mo a < mo b) : a < b := by
  have ca := civ_spec a ha0 ha1
  have cb := civ_spec b hb0 hb1
  have ya := ca.year
  have yb := cb.year
  have ma := ca.month
  have mb := cb.month
  have := ca.m0; have := ca.m1; have := cb.m0; have := cb.m1
  unfold mo at h
  by_cases hy : cy a = cy b
  · have hm : cm a + 1 ≤ cm b := by omega
    have := cum_mono (cy b) (cm a + 1) (cm b) (by omega) hm
    rw [hy] at ma ya
    omega
  · have hy' : cy a + 1 ≤ cy b := by omega
    have := begin_mono (cy a + 1) (cy b) (by have := ca.y0; omega) hy'
    omega
/-- Months are 28 days at least. -/
noncomputable def mstart (d : Int) : Int := begin_ (cy d) + cum (cy d) (cm d)
theorem mstart_le {y m y' m' : Int} (hy : 2000 ≤ y) (hm0 : 1 ≤ m) (hm1 : m ≤ 12) (hy1 : y' ≤ 2199) (hm0' : 1 ≤ m') (hm1' : m' ≤ 12) : ∀ n : Nat, 12 * y' + m' = 12 * y + m + n → begin_ y + cum y m + 28 * n ≤ begin_ y' + cum y' m' := by
  intro n
  induction n generalizing y' m' with
  | zero =>
    intro h
    have e1 : y' = y := by omega
    have e2 : m' = m := by omega
    subst e1; subst e2
    omega
  | succ n ih =>
    intro h
    by_cases h1 : m' = 1
    · subst h1
      have hi := ih (y' := y' - 1) (m' := 12) (by omega) (by omega) (by omega) (by omega)
      have hb := begin_succ (y' - 1) (by omega) (by omega)
      have hs := cum_succ (y' - 1) 12
      have ml := mlen_bd (y' - 1) 12 (by omega) (by omega)
      have h13 := cum_13 (y' - 1)
      have hc1 := cum_1 y'
      simp only [show (12 : Int) + 1 = 13 from rfl, show y' - 1 + 1 = y' by omega] at *
      omega
    · have hi := ih (y' := y') (m' := m' - 1) hy1 (by omega) (by omega) (by omega)
      have hs := cum_succ y' (m' - 1)
      have ml := mlen_bd y' (m' - 1) (by omega) (by omega)
      simp only [show m' - 1 + 1 = m' by omega] at *
      omega
theorem months_far {a b : Int} (ha0 : 0 ≤ a) (ha1 : a ≤ 73048) (hb0 : 0 ≤ b) (hb1 : b ≤ 73048) {n : Nat} (h : mo b = mo a + (n + 1 : Nat)) : a + 28 * n + 1 ≤ b := by
  have ca := civ_spec a ha0 ha1
  have cb := civ_spec b hb0 hb1
  unfold mo at h
  have := mstart_le (y := cy a) (m := cm a) (y' := cy b) (m' := cm b) ca.y0 ca.m0 ca.m1 cb.y1 cb.m0 cb.m1 (n + 1) (by omega)
  -- the month behind a's
  by_cases hm : cm a = 12
  · have hy : cy a + 1 ≤ 2199 := by
      have := cb.y1; have := cb.m1
      omega
    have h2 := mstart_le (y := cy a + 1) (m := 1) (y' := cy b) (m' := cm b) (by have := ca.y0; omega) (by omega) (by omega) cb.y1 cb.m0 cb.m1 n (by omega)
    have := ca.year
    have := cb.month
    have hc1 := cum_1 (cy a + 1)
    omega
  · have h2 := mstart_le (y := cy a) (m := cm a + 1) (y' := cy b) (m' := cm b) ca.y0 (by have := ca.m0; omega) (by have := ca.m1; omega) cb.y1 cb.m0 cb.m1 n (by omega)
    have := ca.month
    have := cb.month
    omega
/-- The place of the order with a number; the length, if there is none. -/
def ix (l : List Od) (id : Int) : Nat := l.findIdx fun o => o.id == id
theorem ix_at {l : List Od} {id : Int} (h : ix l id < l.length) : l[ix l id]!.id = id := by
  have := List.findIdx_getElem (p := fun o : Od => o.id == id) (w := h)
  rw [getElem!_pos l _ h]
  exact beq_iff_eq.1 this
theorem ix_lt {l : List Od} {id : Int} {k : Nat} (h : k < ix l id) : l[k]!.id ≠ id := by
  have hl : k < l.length := Nat.lt_of_lt_of_le h List.findIdx_le_length
  have := List.not_of_lt_findIdx (p := fun o : Od => o.id == id) h
  rw [getElem!_pos l _ hl]
  simpa using this
theorem ix_eq {l : List Od} {id : Int} {k : Nat} (h : k < l.length) (he : l[k]!.id = id) (hb : ∀ j, j < k → l[j]!.id ≠ id) : ix l id = k := by
  rcases Nat.lt_trichotomy (ix l id) k with c | c | c
  · exact absurd (ix_at (Nat.lt_trans c h)) (hb _ c)
  · exact c
  · exact absurd he (ix_lt c)
theorem ix_none {l : List Od} {id : Int} (hb : ∀ j, j < l.length → l[j]!.id ≠ id) : ix l id = l.length := by
  rcases Nat.lt_or_ge (ix l id) l.length with c | c
  · exact absurd (ix_at c) (hb _ c)
  · exact Nat.le_antisymm List.findIdx_le_length c
/-- Add, Cancel, Due, Done. -/
def adE (l : List Od) (o : Od) : Int := if 0 < l.length ∧ o.id ≤ l[l.length - 1]!.id then 10 else if 64 ≤ l.length then 5 else odE o
def caE (l : List Od) (id : Int) : Int := if ix l id < l.length then 0 else 11
def caL (l : List Od) (id : Int) : List Od := l.eraseIdx (ix l id)
def duL (l : List Od) (day : Int) : List Od := l.filter fun o => !decide (day < o.day)
def dnE (l : List Od) (id day : Int) : Int := if ix l id < l.length then (if day < l[ix l id]!.day then 17 else 0) else 11
noncomputable def dnL (l : List Od) (id : Int) (ok : Bool) (c : Cl) : List Od :=
  if ok = false ∧ l[ix l id]!.tr < 2 then l.set (ix l id) { l[ix l id]! with tr := l[ix l id]!.tr + 1 }
  else if nxE l[ix l id]! c = 0 then l.set (ix l id) { l[ix l id]! with tr := 0, day := nxV l[ix l id]! c }
  else l.eraseIdx (ix l id)
theorem dnL_1 {l : List Od} {id : Int} {ok : Bool} {c : Cl} (h : ok = false ∧ l[ix l id]!.tr < 2) : dnL l id ok c = l.set (ix l id) { l[ix l id]! with tr := l[ix l id]!.tr + 1 } := if_pos h
theorem dnL_2 {l : List Od} {id : Int} {ok : Bool} {c : Cl} (h : ¬ (ok = false ∧ l[ix l id]!.tr < 2)) (h2 : nxE l[ix l id]! c = 0) : dnL l id ok c = l.set (ix l id) { l[ix l id]! with tr := 0, day := nxV l[ix l id]! c } := (if_neg h).trans (if_pos h2)
theorem dnL_3 {l : List Od} {id : Int} {ok : Bool} {c : Cl} (h : ¬ (ok = false ∧ l[ix l id]!.tr < 2)) (h2 : ¬ nxE l[ix l id]! c = 0) : dnL l id ok c = l.eraseIdx (ix l id) := (if_neg h).trans (if_neg h2)
/-- All orders are valid, with ascending numbers; each order but those with a number is in another list. -/
structure Right (l : List Od) : Prop where
  ok : ∀ o ∈ l, Ok o
  asc : l.Pairwise fun a b => a.id < b.id
  len : l.length ≤ 64
def Others (l m : List Od) (id : Int) : Prop := ∀ o ∈ l, o.id = id ∨ o ∈ m
theorem set_mem {l : List Od} {i : Nat} {x y : Od} (h : y ∈ l.set i x) : y ∈ l ∨ y = x := by
  rcases List.mem_or_eq_of_mem_set h with a | a
  · exact .inl a
  · exact .inr a
theorem mem_set {l : List Od} {i : Nat} {x y : Od} (hi : i < l.length) (h : y ∈ l) : y = l[i]! ∨ y ∈ l.set i x := by
  obtain ⟨j, hj, rfl⟩ := List.mem_iff_getElem.1 h
  by_cases e : j = i
  · subst e
    exact .inl (by rw [getElem!_pos l _ hj])
  · refine .inr (List.mem_iff_getElem.2 ⟨j, by simpa using hj, ?_⟩)
    rw [List.getElem_set_ne (Ne.symm e)]
theorem mem_erase {l : List Od} {i : Nat} {y : Od} (hi : i < l.length) (h : y ∈ l) : y = l[i]! ∨ y ∈ l.eraseIdx i := by
  obtain ⟨j, hj, rfl⟩ := List.mem_iff_getElem.1 h
  by_cases e : j = i
  · subst e
    exact .inl (by rw [getElem!_pos l _ hj])
  · refine .inr (List.mem_eraseIdx_iff_getElem.2 ⟨j, hj, e, rfl⟩)
theorem pairwise_set {l : List Od} (h : l.Pairwise fun a b => a.id < b.id) {i : Nat} {x : Od} (hx : x.id = l[i]!.id) : (l.set i x).Pairwise fun a b => a.id < b.id := by
  rw [List.pairwise_iff_getElem] at h ⊢
  intro a b ha hb hab
  have ha' : a < l.length := by simpa using ha
  have hb' : b < l.length := by simpa using hb
  have hh := h a b ha' hb' hab
  rw [List.getElem_set, List.getElem_set]
  split
  · rename_i e
    subst e
    rw [if_neg (by omega), hx, getElem!_pos l _ ha']
    exact hh
  · split
    · rename_i e
      subst e
      rw [hx, getElem!_pos l _ hb']
      exact hh
    · exact hh
theorem right_erase {l : List Od} {i : Nat} (h : Right l) : Right (l.eraseIdx i) :=
  ⟨fun o ho => h.ok o (List.mem_of_mem_eraseIdx ho), h.asc.sublist (List.eraseIdx_sublist ..), Nat.le_trans (List.length_eraseIdx_le ..) h.len⟩
theorem others_erase {l : List Od} {id : Int} (hi : ix l id < l.length) : Others l (l.eraseIdx (ix l id)) id ∧ Others (l.eraseIdx (ix l id)) l id :=
  ⟨fun o ho => (mem_erase hi ho).elim (fun e => .inl (by rw [e]; exact ix_at hi)) .inr, fun _ ho => .inr (List.mem_of_mem_eraseIdx ho)⟩
theorem right_set {l : List Od} {i : Nat} {x : Od} (h : Right l) (hx : Ok x) (he : x.id = l[i]!.id) : Right (l.set i x) :=
  ⟨fun o ho => (set_mem ho).elim (h.ok o) (fun e => e ▸ hx), pairwise_set h.asc he, by simpa using h.len⟩
theorem others_set {l : List Od} {id : Int} {x : Od} (hi : ix l id < l.length) (hx : x.id = id) : Others l (l.set (ix l id) x) id ∧ Others (l.set (ix l id) x) l id :=
  ⟨fun o ho => (mem_set hi ho).elim (fun e => .inl (by rw [e]; exact ix_at hi)) .inr, fun o ho => (set_mem ho).elim .inr (fun e => .inl (e ▸ hx))⟩
theorem right_mem {l : List Od} (h : Right l) {i : Nat} (hi : i < l.length) : Ok l[i]! := h.ok _ (by rw [getElem!_pos l _ hi]; exact List.getElem_mem _)
theorem add_keeps {l : List Od} {o : Od} (h : Right l) (he : adE l o = 0) : Right (l ++ [o]) ∧ Others l (l ++ [o]) o.id ∧ Others (l ++ [o]) l o.id := by
  unfold adE at he
  split at he
  · omega
  · rename_i h1
    split at he
    · omega
    · rename_i h2
      have hok := ok_of he
      refine ⟨⟨fun x hx => ?_, ?_, by simp; omega⟩, fun x hx => .inr (by simp [hx]), fun x hx => ?_⟩
      · rw [List.mem_append] at hx
        rcases hx with hx | hx
        · exact h.ok x hx
        · rw [List.mem_singleton] at hx; rw [hx]; exact hok
      · rw [List.pairwise_append]
        refine ⟨h.asc, List.pairwise_singleton .., fun a ha b hb => ?_⟩
        rw [List.mem_singleton] at hb
        subst hb
        have h0 : 0 < l.length := List.length_pos_of_mem ha
        have h3 : l[l.length - 1]!.id < b.id := by
          apply Classical.byContradiction
          intro hn
          exact h1 ⟨h0, by omega⟩
        obtain ⟨j, hj, rfl⟩ := List.mem_iff_getElem.1 ha
        by_cases e : j = l.length - 1
        · subst e
          rw [getElem!_pos l _ hj] at h3
          exact h3
        · have := (List.pairwise_iff_getElem.1 h.asc) j (l.length - 1) hj (by omega) (by omega)
          rw [getElem!_pos l _ (by omega)] at h3
          omega
      · rw [List.mem_append, List.mem_singleton] at hx
        rcases hx with hx | hx
        · exact .inr hx
        · exact .inl (by rw [hx])
theorem cancel_keeps {l : List Od} {id : Int} (h : Right l) (he : caE l id = 0) : Right (caL l id) ∧ Others l (caL l id) id ∧ Others (caL l id) l id := by
  unfold caE at he
  split at he
  · rename_i hi
    exact ⟨right_erase h, others_erase hi⟩
  · omega
theorem ok_next {o : Od} {c : Cl} (h : nxE o c = 0) : Ok { o with tr := 0, day := nxV o c } := by
  obtain ⟨ho, x, hx, hv⟩ := nxE_0 h
  have hm := nx_mo ho.an.1 hx
  have hd := ho.days
  rw [hv]
  exact ⟨ho.nums, ⟨hm.2.1, hd.2.1, hm.2.2.1⟩, ho.evs, ho.an, ⟨by simp, by simp⟩, ho.tx⟩
theorem done_keeps {l : List Od} {id day : Int} {ok : Bool} {c : Cl} (h : Right l) (he : dnE l id day = 0) : Right (dnL l id ok c) ∧ Others l (dnL l id ok c) id ∧ Others (dnL l id ok c) l id := by
  unfold dnE at he
  split at he
  · rename_i hi
    have hk := right_mem h hi
    have hid := ix_at hi
    by_cases h1 : ok = false ∧ l[ix l id]!.tr < 2
    · rw [dnL_1 h1]
      exact ⟨right_set h ⟨hk.nums, hk.days, hk.evs, hk.an, by have := hk.tr; simp only; omega, hk.tx⟩ rfl, others_set hi hid⟩
    · by_cases h2 : nxE l[ix l id]! c = 0
      · rw [dnL_2 h1 h2]
        exact ⟨right_set h (ok_next h2) rfl, others_set hi hid⟩
      · rw [dnL_3 h1 h2]
        exact ⟨right_erase h, others_erase hi⟩
  · omega
/-- A list of one order. -/
theorem ix_one (x : Od) : ix [x] x.id = 0 := by simp [ix]
theorem dnE_one (x : Od) : dnE [x] x.id x.day = 0 := by
  unfold dnE
  rw [ix_one]
  simp
theorem dnL_one {x : Od} {ok : Bool} {c : Cl} : dnL [x] x.id ok c = if ok = false ∧ x.tr < 2 then [{ x with tr := x.tr + 1 }] else if nxE x c = 0 then [{ x with tr := 0, day := nxV x c }] else [] := by
  unfold dnL
  rw [ix_one]
  rfl
/-- Where StandingAdvances stands. -/
structure Adv (o : Od) (n : Nat) (x : Od) : Prop where
  ok : Ok x
  id : x.id = o.id
  ev : x.ev = o.ev
  un : x.un = o.un
  mo : mo x.day = mo o.day + n * o.ev
  ev0 : n = 0 ∨ o.ev ≠ 0
theorem Adv.start {o : Od} (h : Ok o) : Adv o 0 o := ⟨h, rfl, rfl, rfl, by simp, .inl rfl⟩
theorem Adv.step {o x : Od} {n : Nat} {c : Cl} (h : Adv o n x) (he : nxE x c = 0) : Adv o (n + 1) { x with tr := 0, day := nxV x c } ∧ So.mo (nxV x c) = So.mo x.day + o.ev ∧ o.ev ≠ 0 ∧ nxV x c ≤ o.un ∧ (0 ≤ nxV x c ∧ nxV x c ≤ 73048) := by
  obtain ⟨ho, y, hy, hv⟩ := nxE_0 he
  have hm := nx_mo ho.an.1 hy
  have hne : o.ev ≠ 0 := by rw [← h.ev]; exact hm.1
  have e : So.mo y = So.mo x.day + o.ev := by rw [hm.2.2.2, h.ev]
  refine ⟨⟨ok_next he, h.id, h.ev, h.un, ?_, .inr hne⟩, ?_, hne, ?_, ?_⟩
  · show So.mo (nxV x c) = _
    rw [hv, e, h.mo]
    rw [Int.natCast_add, Int.add_mul]
    omega
  · rw [hv, e]
  · rw [hv, ← h.un]; exact hm.2.2.1
  · rw [hv]; exact hm.2.1
theorem Adv.few {o x : Od} {n : Nat} (ho : Ok o) (h : Adv o n x) (hg : ¬ (0 < o.ev ∧ 40 * o.ev < (o.un - o.day) / 28)) : n ≤ 49 := by
  rcases h.ev0 with h0 | h0
  · omega
  · have hev := ho.evs
    have hm := h.mo
    have hd := ho.days
    have hx := h.ok.days
    rw [h.un] at hx
    by_cases hn : n = 0
    · omega
    · obtain ⟨k, rfl⟩ : ∃ k : Nat, n = k + 1 := ⟨n - 1, by omega⟩
      have key : ∀ e : Nat, o.ev = e + 1 → o.day + 28 * (((k + 1) * (e + 1) - 1 : Nat) : Int) + 1 ≤ x.day := fun e he => by
        refine months_far hd.1.1 hd.1.2 hx.1.1 hx.1.2 ?_
        rw [hm, he]
        have : 1 ≤ (k + 1) * (e + 1) := Nat.le_trans (by omega) (Nat.le_mul_of_pos_right (k + 1) (by omega))
        have hh : (((k + 1) * (e + 1) - 1 + 1 : Nat) : Int) = ((k + 1 : Nat) : Int) * ((e : Int) + 1) := by
          rw [Nat.sub_add_cancel this]
          simp
        rw [hh]
      rcases hev with h1 | h1 | h1 | h1 | h1
      · exact absurd h1 h0
      · have := key 0 (by omega); omega
      · have := key 2 (by omega); omega
      · have := key 5 (by omega); omega
      · have := key 11 (by omega); omega
/-- Where StandingGivesUp stands. -/
structure Giv (o : Od) (n : Nat) (x : Od) : Prop where
  ok : Ok x
  id : x.id = o.id
  at_ : (x.day = o.day ∧ x.tr = o.tr + n ∧ (n = 0 ∨ x.tr ≤ 2)) ∨ o.day < x.day
theorem Giv.start {o : Od} (h : Ok o) : Giv o 0 o := ⟨h, rfl, .inl ⟨rfl, by simp, .inl rfl⟩⟩
theorem Giv.try_ {o x : Od} {n : Nat} (h : Giv o n x) (hx : x.day = o.day) (ht : x.tr < 2) : Giv o (n + 1) { x with tr := x.tr + 1 } := by
  have hk := h.ok
  refine ⟨⟨hk.nums, hk.days, hk.evs, hk.an, by have := hk.tr; simp only; omega, hk.tx⟩, h.id, .inl ⟨hx, ?_, .inr (by simp only; omega)⟩⟩
  rcases h.at_ with ha | ha
  · simp only; omega
  · omega
theorem Giv.step {o x : Od} {n : Nat} {c : Cl} (h : Giv o n x) (hx : x.day = o.day) (he : nxE x c = 0) : Giv o (n + 1) { x with tr := 0, day := nxV x c } ∧ o.day < nxV x c := by
  obtain ⟨ho, y, hy, hv⟩ := nxE_0 he
  have hm := nx_mo ho.an.1 hy
  have hlt : o.day < nxV x c := by
    rw [hv, ← hx]
    have hev := ho.evs
    refine day_le_mo ho.days.1.1 ho.days.1.2 hm.2.1.1 hm.2.1.2 ?_
    rw [hm.2.2.2]
    have := hm.1
    omega
  exact ⟨⟨ok_next he, h.id, .inr hlt⟩, hlt⟩
theorem Giv.done {o x : Od} (ho : Ok o) (h : Giv o 3 x) : o.day < x.day := by
  have := ho.tr
  rcases h.at_ with ha | ha
  · omega
  · exact ha
end Go.Proofs.Ytdlmoijeflchgaa.So
