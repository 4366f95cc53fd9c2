/-
  Arrears, plain: what is overdue, the penalty of a span, a charge.
-/
import Derived.Test.YtjmgahdjojdanaaDoorLnm
import Derived.Test.YtjmgahdjojdanaaDoorDcm
namespace Go.Proofs.YtjmgahdjojdanaaDoor.Ln
open Go.RowKit
open Go.Proofs.YtjmgahdjojdanaaDoor

/-- What is overdue. -/
def ovL (l : Lo) (on : Int) : Int := max (oP l on) 0
/-- The grains of a day; of n days from a day on. -/
noncomputable def penT (l : Lo) (d : Int) : Int := ovL l d * l.tm.pen * Cal.wei 3 d
noncomputable def penS (l : Lo) (a : Int) : Nat → Int
  | 0 => 0
  | n + 1 => penS l a n + penT l (a + n)
def penOk (l : Lo) (a b : Int) : Prop := chk l = 0 ∧ dayB a = true ∧ dayB b = true ∧ a ≤ b ∧ b - a ≤ 4000
instance (l : Lo) (a b : Int) : Decidable (penOk l a b) := by unfold penOk; infer_instance
def penE (l : Lo) (a b : Int) : Int := if penOk l a b then 0 else 1
noncomputable def penV (l : Lo) (a b : Int) : Int := if penOk l a b then penS l a (b - a).toNat else 0
theorem penS_add (l : Lo) (a : Int) (m : Nat) : ∀ n : Nat, penS l a (m + n) = penS l a m + penS l (a + m) n
  | 0 => by rw [Nat.add_zero]; simp [penS]
  | n + 1 => by
    show penS l a (m + n) + penT l (a + ((m + n : Nat) : Int)) = penS l a m + (penS l (a + m) n + penT l (a + m + n))
    rw [penS_add l a m n, show a + ((m + n : Nat) : Int) = a + m + n by omega]
    exact Int.add_assoc _ _ _
theorem dayB_iff {n : Int} : dayB n = true ↔ 0 ≤ n ∧ n ≤ 73048 := by unfold dayB; exact decide_eq_true_iff
theorem rateB_iff {n : Int} : rateB n = true ↔ 0 ≤ n ∧ n ≤ 1000000 := by unfold rateB; exact decide_eq_true_iff
theorem wei_bd (d : Int) : 0 ≤ Cal.wei 3 d ∧ Cal.wei 3 d ≤ 4392 := by
  by_cases h : 0 ≤ d ∧ d ≤ 73048
  · rw [Cal.wei_in h.1 h.2]
    have := Cal.wt_bd (Cal.cy d)
    have := Cal.lp_bd (Cal.cy d)
    unfold Cal.wgt
    rw [if_neg (by omega), if_neg (by omega), if_pos rfl]
    unfold Cal.wt at *
    omega
  · rw [Cal.wei_out (by omega)]
    omega
theorem Ok.ov {l : Lo} (h : Ok l) (d : Int) : ovL l d = max (P (due l.ds d) - l.pp) 0 ∧ 0 ≤ ovL l d ∧ ovL l d ≤ 240000000000000 := by
  have hs := h.sums d
  have hp := h.pp
  have h1 := hs.p1
  have h2 := hs.p2
  have h0 := hs.p0
  unfold ovL
  rw [h.oP]
  omega
theorem Ok.penT {l : Lo} (h : Ok l) (d : Int) : 0 ≤ Ln.penT l d ∧ Ln.penT l d ≤ 1054080000000000000000000 := by
  have h1 := (h.ov d).2
  have h2 := rateB_iff.1 h.rp
  have h3 := wei_bd d
  unfold Ln.penT
  have a1 : 0 ≤ ovL l d * l.tm.pen := Int.mul_nonneg h1.1 h2.1
  have a2 : ovL l d * l.tm.pen ≤ 240000000000000 * 1000000 := Int.mul_le_mul h1.2 h2.2 h2.1 (by omega)
  exact ⟨Int.mul_nonneg a1 h3.1, Int.mul_le_mul a2 h3.2 h3.1 (by omega)⟩
theorem Ok.penS {l : Lo} (h : Ok l) (a : Int) : ∀ n : Nat, 0 ≤ Ln.penS l a n ∧ Ln.penS l a n ≤ n * 1054080000000000000000000
  | 0 => by simp [Ln.penS]
  | n + 1 => by
    have h1 := h.penS a n
    have h2 := h.penT (a + n)
    unfold Ln.penS
    omega
theorem pen_ways (l : Lo) (a b : Int) : (chk l ≠ 0 ∧ penE l a b = 1 ∧ penV l a b = 0) ∨ (chk l = 0 ∧ dayB a = false ∧ penE l a b = 1 ∧ penV l a b = 0) ∨ (chk l = 0 ∧ dayB a = true ∧ dayB b = false ∧ penE l a b = 1 ∧ penV l a b = 0) ∨
    (chk l = 0 ∧ dayB a = true ∧ dayB b = true ∧ b < a ∧ penE l a b = 1 ∧ penV l a b = 0) ∨ (chk l = 0 ∧ dayB a = true ∧ dayB b = true ∧ a ≤ b ∧ 4000 < b - a ∧ penE l a b = 1 ∧ penV l a b = 0) ∨
    (chk l = 0 ∧ dayB a = true ∧ dayB b = true ∧ a ≤ b ∧ b - a ≤ 4000 ∧ penE l a b = 0 ∧ penV l a b = penS l a (b - a).toNat) := by
  have no : ¬ penOk l a b → penE l a b = 1 ∧ penV l a b = 0 := fun h => ⟨if_neg h, if_neg h⟩
  by_cases h1 : chk l = 0
  · cases h2 : dayB a
    · exact .inr (.inl ⟨h1, rfl, no (fun h => absurd (h2.symm.trans h.2.1) (by decide))⟩)
    · cases h3 : dayB b
      · exact .inr (.inr (.inl ⟨h1, rfl, rfl, no (fun h => absurd (h3.symm.trans h.2.2.1) (by decide))⟩))
      · by_cases h4 : b < a
        · exact .inr (.inr (.inr (.inl ⟨h1, rfl, rfl, h4, no (fun h => by have := h.2.2.2.1; omega)⟩)))
        · by_cases h5 : 4000 < b - a
          · exact .inr (.inr (.inr (.inr (.inl ⟨h1, rfl, rfl, by omega, h5, no (fun h => by have := h.2.2.2.2; omega)⟩))))
          · have hy : penOk l a b := ⟨h1, h2, h3, by omega, by omega⟩
            exact .inr (.inr (.inr (.inr (.inr ⟨h1, rfl, rfl, by omega, by omega, if_pos hy, if_pos hy⟩))))
  · exact .inl ⟨h1, no (fun h => h1 h.1)⟩
theorem ord_at {ds : List Du} (h : ordB ds = true) {i : Nat} (hi : i + 1 < ds.length) : ds[i]!.day ≤ ds[i + 1]!.day := by
  unfold ordB at h
  rw [List.all_eq_true] at h
  have := h (i + 1) (List.mem_range.2 hi)
  rw [Bool.and_eq_true, Bool.or_eq_true] at this
  rcases this.2 with h1 | h1
  · exact absurd (of_decide_eq_true h1) (by omega)
  · exact of_decide_eq_true h1
theorem ord_far {ds : List Du} (h : ordB ds = true) {i : Nat} : ∀ k, i + k < ds.length → ds[i]!.day ≤ ds[i + k]!.day
  | 0, _ => Int.le_refl _
  | k + 1, hk => Int.le_trans (ord_far h k (by omega)) (ord_at h (i := i + k) (by omega))
theorem ord_pw {ds : List Du} (h : ordB ds = true) : ds.Pairwise (fun a b => a.day ≤ b.day) := by
  rw [List.pairwise_iff_getElem]
  intro i j hi hj hij
  have := ord_far h (i := i) (j - i) (by omega)
  rw [show i + (j - i) = j by omega, getElem!_pos ds i hi, getElem!_pos ds j hj] at this
  exact this
theorem dys_far {pp pi on : Int} : ∀ (ds : List Du) (p i : Int), (∀ d ∈ ds, on < d.day) → dys pp pi on ds p i = 0
  | [], _, _, _ => rfl
  | d :: ds, p, i, h => by
    unfold dys
    rw [if_neg (fun hh => by have := h d List.mem_cons_self; omega)]
    exact dys_far ds _ _ (fun x hx => h x (List.mem_cons_of_mem _ hx))
theorem Ok.day {l : Lo} (h : Ok l) : ∀ d ∈ l.ds, 0 ≤ d.day ∧ d.day ≤ 73048 := by
  intro d hd
  have := List.all_eq_true.1 h.each d hd
  unfold dueB dayB at this
  simp only [Bool.and_eq_true] at this
  exact of_decide_eq_true this.1.1
end Go.Proofs.YtjmgahdjojdanaaDoor.Ln
