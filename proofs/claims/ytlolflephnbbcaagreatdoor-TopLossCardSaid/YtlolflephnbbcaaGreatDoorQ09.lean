/-
  Parts of the proof: Lnm, Am.
-/
import Derived.RowKit
import Derived.Test.YtlolflephnbbcaaGreatDoorQ20
namespace Go.Proofs.YtlolflephnbbcaaGreatDoor.Ln
open Go Go.RowKit

structure Tm where
  (me pr ppm stt ev ct ba mo pen fe : Int) (cal cur : ByteArray)
structure Ch where
  (day amt : Int) (old : Tm)
structure Du where
  (no day pr it : Int)
structure Lo where
  (id ac st pp pi fee pen chg prov loss rcv : Int) (tm : Tm) (ds : List Du) (cs : List Ch)
instance : Inhabited Du := ⟨⟨0, 0, 0, 0⟩⟩
instance : Inhabited Ch := ⟨⟨0, 0, ⟨0, 0, 0, 0, 0, 0, 0, 0, 0, 0, .empty, .empty⟩⟩⟩

def sum : List Int → Int
  | [] => 0
  | x :: l => x + sum l
theorem sum_append (a b : List Int) : sum (a ++ b) = sum a + sum b := by
  induction a with
  | nil => simp [sum]
  | cons x l ih => simp only [List.cons_append, sum, ih]; omega
theorem sum_nonneg : ∀ (l : List Int), (∀ x ∈ l, 0 ≤ x) → 0 ≤ sum l
  | [], _ => by simp [sum]
  | x :: l, h => by
    have := sum_nonneg l fun y hy => h y (List.mem_cons_of_mem _ hy)
    have := h x (List.mem_cons_self ..)
    simp only [sum]; omega
theorem sum_le : ∀ (l : List Int) (m : Int), (∀ x ∈ l, x ≤ m) → sum l ≤ l.length * m
  | [], m, _ => by simp [sum]
  | x :: l, m, h => by
    have h1 := sum_le l m fun y hy => h y (List.mem_cons_of_mem _ hy)
    have h2 := h x (List.mem_cons_self ..)
    simp only [sum, List.length_cons]
    rw [show ((l.length + 1 : Nat) : Int) * m = l.length * m + m by rw [Int.natCast_add, Int.add_mul]; simp]
    omega
theorem wrap_add (a b : Int) : wrap64 (wrap64 a + b) = wrap64 (a + b) := by unfold wrap64; omega
theorem wrap_in {n : Int} (h : -9223372036854775808 ≤ n) (h2 : n ≤ 9223372036854775807) : wrap64 n = n := by unfold wrap64; omega

def prs (ds : List Du) : List Int := ds.map Du.pr
def its (ds : List Du) : List Int := ds.map Du.it
def P (ds : List Du) : Int := wrap64 (sum (prs ds))
def I (ds : List Du) : Int := wrap64 (sum (its ds))
def due (ds : List Du) (day : Int) : List Du := ds.filter fun d => decide (d.day ≤ day)
theorem P_nil : P [] = 0 := by decide
theorem I_nil : I [] = 0 := by decide
theorem P_succ {ds : List Du} {k : Nat} (h : k < ds.length) : P (ds.take (k + 1)) = wrap64 (P (ds.take k) + ds[k]!.pr) := by
  unfold P prs
  rw [List.take_add_one, List.map_append, sum_append, wrap_add]
  simp [h, sum]
theorem I_succ {ds : List Du} {k : Nat} (h : k < ds.length) : I (ds.take (k + 1)) = wrap64 (I (ds.take k) + ds[k]!.it) := by
  unfold I its
  rw [List.take_add_one, List.map_append, sum_append, wrap_add]
  simp [h, sum]
def leftB (l : Lo) : Bool := decide (l.pp ≠ P l.ds) || decide (l.pi ≠ I l.ds) || decide (l.fee ≠ 0) || decide (l.pen ≠ 0)
def amt (n : Int) : Bool := decide (0 ≤ n ∧ n ≤ 1000000000000)
def dayB (n : Int) : Bool := decide (0 ≤ n ∧ n ≤ 73048)
def rateB (n : Int) : Bool := decide (0 ≤ n ∧ n ≤ 1000000)
def dueB (d : Du) : Bool := dayB d.day && amt d.pr && amt d.it
def rangedB (l : Lo) : Bool :=
  decide (1 ≤ l.id) && decide (1000 ≤ l.ac) && decide (1 ≤ l.st) && decide (l.st ≤ 3) && decide (0 ≤ l.pp) && decide (0 ≤ l.pi) && decide (0 ≤ l.rcv) && dayB l.chg && rateB l.tm.pen && rateB l.tm.fe &&
  decide (1 ≤ l.ds.length) && decide (l.ds.length ≤ 240) && decide (l.cs.length ≤ 64) && amt l.fee && amt l.pen && amt l.prov && amt l.loss && l.ds.all dueB
def ordB (ds : List Du) : Bool := (List.range ds.length).all fun i => decide (ds[i]!.no = (i : Int) + 1) && (decide (i = 0) || decide (ds[i - 1]!.day ≤ ds[i]!.day))
def sumsB (l : Lo) : Bool :=
  decide (l.pp ≤ P l.ds) && decide (l.pi ≤ I l.ds) && decide (l.rcv ≤ l.loss) && (decide (l.cs.length ≠ 0) || decide (P l.ds = l.tm.pr)) &&
  (decide (l.st = 3) || (leftB l == decide (l.st = 1))) && (decide (l.st = 3) || (decide (l.loss = 0) && decide (l.rcv = 0)))
def chk (l : Lo) : Int := if rangedB l then (if ordB l.ds then (if sumsB l then 0 else 25) else 10) else 1

/-! ### payments -/
def pos (n : Int) : Int := if 0 < n then n else 0
def give (n o : Int) : Int := if pos o < n then pos o else n
structure Dist where
  (a b c d r : Int)
def dist (n oa ob oc od : Int) : Dist :=
  ⟨give n oa, give (n - give n oa) ob, give (n - give n oa - give (n - give n oa) ob) oc,
   give (n - give n oa - give (n - give n oa) ob - give (n - give n oa - give (n - give n oa) ob) oc) od,
   n - give n oa - give (n - give n oa) ob - give (n - give n oa - give (n - give n oa) ob) oc - give (n - give n oa - give (n - give n oa) ob - give (n - give n oa - give (n - give n oa) ob) oc) od⟩
theorem give_bd {n o : Int} (hn : 0 ≤ n) : 0 ≤ give n o ∧ give n o ≤ n ∧ give n o ≤ pos o := by
  unfold give pos
  split <;> split <;> omega
def parts (l : List (Int × Int)) : List (Int × Int) := l.filter fun p => decide (0 < p.2)
def Dist.parts (x : Dist) : List (Int × Int) := Ln.parts [(1, x.a), (2, x.b), (3, x.c), (4, x.d), (5, x.r)]
def oI (l : Lo) (day : Int) : Int := wrap64 (I (due l.ds day) - l.pi)
def oP (l : Lo) (day : Int) : Int := wrap64 (P (due l.ds day) - l.pp)
def owed (l : Lo) (day : Int) : List (Int × Int) := parts [(1, l.fee), (2, l.pen), (3, oI l day), (4, oP l day)]
def Lo.take (l : Lo) (x : Dist) : Lo := { l with fee := l.fee - x.a, pen := l.pen - x.b, pi := l.pi + x.c, pp := l.pp + x.d }
def Lo.done (l : Lo) : Lo := if leftB l then l else { l with st := 2 }
def payD (l : Lo) (n day : Int) : Dist := dist n l.fee l.pen (oI l day) (oP l day)
def payL (l : Lo) (n day : Int) : Lo := (l.take (payD l n day)).done
structure Ok (l : Lo) : Prop where
  id : 1 ≤ l.id
  ac : 1000 ≤ l.ac
  st1 : 1 ≤ l.st
  st3 : l.st ≤ 3
  pp : 0 ≤ l.pp
  pi : 0 ≤ l.pi
  rcv : 0 ≤ l.rcv
  chg : dayB l.chg = true
  rp : rateB l.tm.pen = true
  rf : rateB l.tm.fe = true
  n1 : 1 ≤ l.ds.length
  n2 : l.ds.length ≤ 240
  cs : l.cs.length ≤ 64
  fee : amt l.fee = true
  pen : amt l.pen = true
  prov : amt l.prov = true
  loss : amt l.loss = true
  each : l.ds.all dueB = true
  ord : ordB l.ds = true
  pp' : l.pp ≤ P l.ds
  pi' : l.pi ≤ I l.ds
  rcv' : l.rcv ≤ l.loss
  tm : l.cs.length ≠ 0 ∨ P l.ds = l.tm.pr
  left : l.st = 3 ∨ (leftB l = decide (l.st = 1))
  los : l.st = 3 ∨ (l.loss = 0 ∧ l.rcv = 0)
theorem ok_iff {l : Lo} : chk l = 0 ↔ Ok l := by
  unfold chk
  constructor
  · intro h
    split at h
    · rename_i h1
      split at h
      · rename_i h2
        split at h
        · rename_i h3
          simp only [rangedB, Bool.and_eq_true, decide_eq_true_eq] at h1
          simp only [sumsB, Bool.and_eq_true, Bool.or_eq_true, decide_eq_true_eq, beq_iff_eq] at h3
          obtain ⟨⟨⟨⟨⟨⟨⟨⟨⟨⟨⟨⟨⟨⟨⟨⟨⟨a1, a2⟩, a3⟩, a4⟩, a5⟩, a6⟩, a7⟩, a8⟩, a9⟩, b1⟩, b2⟩, b3⟩, b4⟩, b5⟩, b6⟩, b7⟩, b8⟩, b9⟩ := h1
          obtain ⟨⟨⟨⟨⟨c1, c2⟩, c3⟩, c4⟩, c5⟩, c6⟩ := h3
          exact ⟨a1, a2, a3, a4, a5, a6, a7, a8, a9, b1, b2, b3, b4, b5, b6, b7, b8, b9, h2, c1, c2, c3, c4, c5, c6⟩
        · omega
      · omega
    · omega
  · rintro ⟨a1, a2, a3, a4, a5, a6, a7, a8, a9, b1, b2, b3, b4, b5, b6, b7, b8, b9, h2, c1, c2, c3, c4, c5, c6⟩
    have h1 : rangedB l = true := by
      simp only [rangedB, Bool.and_eq_true, decide_eq_true_eq]
      exact ⟨⟨⟨⟨⟨⟨⟨⟨⟨⟨⟨⟨⟨⟨⟨⟨⟨a1, a2⟩, a3⟩, a4⟩, a5⟩, a6⟩, a7⟩, a8⟩, a9⟩, b1⟩, b2⟩, b3⟩, b4⟩, b5⟩, b6⟩, b7⟩, b8⟩, b9⟩
    have h3 : sumsB l = true := by
      simp only [sumsB, Bool.and_eq_true, Bool.or_eq_true, decide_eq_true_eq, beq_iff_eq]
      exact ⟨⟨⟨⟨⟨c1, c2⟩, c3⟩, c4⟩, c5⟩, c6⟩
    rw [if_pos h1, if_pos h2, if_pos h3]
theorem sum_filter (p : Du → Bool) (f : Du → Int) : ∀ (l : List Du), (∀ d ∈ l, 0 ≤ f d) → 0 ≤ sum ((l.filter p).map f) ∧ sum ((l.filter p).map f) ≤ sum (l.map f)
  | [], _ => by simp [sum]
  | d :: l, h => by
    have ih := sum_filter p f l fun y hy => h y (List.mem_cons_of_mem _ hy)
    have h0 := h d (List.mem_cons_self ..)
    rw [List.filter_cons]
    split
    · simp only [List.map_cons, sum]; omega
    · simp only [List.map_cons, sum]; omega
structure Sums (l : Lo) (day : Int) : Prop where
  p0 : 0 ≤ P (due l.ds day)
  p1 : P (due l.ds day) ≤ P l.ds
  p2 : P l.ds ≤ 240000000000000
  i0 : 0 ≤ I (due l.ds day)
  i1 : I (due l.ds day) ≤ I l.ds
  i2 : I l.ds ≤ 240000000000000
theorem sums_of {l : Lo} (day : Int) (h : l.ds.all dueB = true) (hn : l.ds.length ≤ 240) : Sums l day := by
  have he : ∀ d ∈ l.ds, (0 ≤ d.pr ∧ d.pr ≤ 1000000000000) ∧ (0 ≤ d.it ∧ d.it ≤ 1000000000000) := by
    intro d hd
    have := List.all_eq_true.1 h d hd
    simp only [dueB, amt, Bool.and_eq_true, decide_eq_true_eq] at this
    exact ⟨this.1.2, this.2⟩
  have hp := sum_filter (fun d => decide (d.day ≤ day)) Du.pr l.ds fun d hd => (he d hd).1.1
  have hi := sum_filter (fun d => decide (d.day ≤ day)) Du.it l.ds fun d hd => (he d hd).2.1
  have hp2 := sum_le (prs l.ds) 1000000000000 fun x hx => by
    simp only [prs, List.mem_map] at hx; obtain ⟨d, hd, rfl⟩ := hx; exact (he d hd).1.2
  have hi2 := sum_le (its l.ds) 1000000000000 fun x hx => by
    simp only [its, List.mem_map] at hx; obtain ⟨d, hd, rfl⟩ := hx; exact (he d hd).2.2
  have hlp : (prs l.ds).length = l.ds.length := by simp [prs]
  have hli : (its l.ds).length = l.ds.length := by simp [its]
  rw [hlp] at hp2
  rw [hli] at hi2
  have e1 : P (due l.ds day) = sum ((l.ds.filter fun d => decide (d.day ≤ day)).map Du.pr) := by
    show wrap64 _ = _
    rw [show sum (prs (due l.ds day)) = sum ((l.ds.filter fun d => decide (d.day ≤ day)).map Du.pr) from rfl]
    exact wrap_in (by omega) (by unfold prs at hp2; omega)
  have e2 : P l.ds = sum (prs l.ds) := wrap_in (by unfold prs; omega) (by omega)
  have e3 : I (due l.ds day) = sum ((l.ds.filter fun d => decide (d.day ≤ day)).map Du.it) := by
    show wrap64 _ = _
    rw [show sum (its (due l.ds day)) = sum ((l.ds.filter fun d => decide (d.day ≤ day)).map Du.it) from rfl]
    exact wrap_in (by omega) (by unfold its at hi2; omega)
  have e4 : I l.ds = sum (its l.ds) := wrap_in (by unfold its; omega) (by omega)
  refine ⟨?_, ?_, ?_, ?_, ?_, ?_⟩
  · rw [e1]; exact hp.1
  · rw [e1, e2]; exact hp.2
  · rw [e2]; omega
  · rw [e3]; exact hi.1
  · rw [e3, e4]; exact hi.2
  · rw [e4]; omega
theorem Ok.sums {l : Lo} (h : Ok l) (day : Int) : Sums l day := sums_of day h.each h.n2
theorem amt_iff {n : Int} : amt n = true ↔ 0 ≤ n ∧ n ≤ 1000000000000 := by unfold amt; exact decide_eq_true_iff
theorem Ok.oI {l : Lo} (h : Ok l) (day : Int) : oI l day = I (due l.ds day) - l.pi := by
  have s := h.sums day
  have := h.pi; have := h.pi'; have := s.i0; have := s.i1; have := s.i2
  exact wrap_in (by omega) (by omega)
theorem Ok.oP {l : Lo} (h : Ok l) (day : Int) : oP l day = P (due l.ds day) - l.pp := by
  have s := h.sums day
  have := h.pp; have := h.pp'; have := s.p0; have := s.p1; have := s.p2
  exact wrap_in (by omega) (by omega)
structure DistOk (n oa ob oc od : Int) (x : Dist) : Prop where
  a0 : 0 ≤ x.a
  a1 : x.a ≤ pos oa
  b0 : 0 ≤ x.b
  b1 : x.b ≤ pos ob
  c0 : 0 ≤ x.c
  c1 : x.c ≤ pos oc
  d0 : 0 ≤ x.d
  d1 : x.d ≤ pos od
  r0 : 0 ≤ x.r
  s : x.a + x.b + x.c + x.d + x.r = n
  rest : 0 < x.r → x.a = pos oa ∧ x.b = pos ob ∧ x.c = pos oc ∧ x.d = pos od
theorem give_rest {n o : Int} (h : give n o < n) : give n o = pos o := by
  unfold give at h ⊢
  by_cases hh : pos o < n
  · rw [if_pos hh]
  · rw [if_neg hh] at h; omega
theorem dist_ok {n oa ob oc od : Int} (hn : 0 ≤ n) : DistOk n oa ob oc od (dist n oa ob oc od) := by
  unfold dist
  have g1 := give_bd (o := oa) hn
  have r1 := give_rest (n := n) (o := oa)
  generalize give n oa = a at *
  have g2 := give_bd (n := n - a) (o := ob) (by omega)
  have r2 := give_rest (n := n - a) (o := ob)
  generalize give (n - a) ob = b at *
  have g3 := give_bd (n := n - a - b) (o := oc) (by omega)
  have r3 := give_rest (n := n - a - b) (o := oc)
  generalize give (n - a - b) oc = c at *
  have g4 := give_bd (n := n - a - b - c) (o := od) (by omega)
  have r4 := give_rest (n := n - a - b - c) (o := od)
  generalize give (n - a - b - c) od = d at *
  refine ⟨?_, ?_, ?_, ?_, ?_, ?_, ?_, ?_, ?_, ?_, ?_⟩ <;> dsimp only <;> first | omega | (intro hr; exact ⟨r1 (by omega), r2 (by omega), r3 (by omega), r4 (by omega)⟩)
theorem pos_of {o : Int} : (0 < o ∧ pos o = o) ∨ (o ≤ 0 ∧ pos o = 0) := by unfold pos; split <;> omega
theorem left_iff {l : Lo} : leftB l = true ↔ (l.pp ≠ P l.ds ∨ l.pi ≠ I l.ds ∨ l.fee ≠ 0 ∨ l.pen ≠ 0) := by
  unfold leftB
  simp only [Bool.or_eq_true, decide_eq_true_eq]
  constructor
  · rintro (((h | h) | h) | h)
    · exact .inl h
    · exact .inr (.inl h)
    · exact .inr (.inr (.inl h))
    · exact .inr (.inr (.inr h))
  · rintro (h | h | h | h)
    · exact .inl (.inl (.inl h))
    · exact .inl (.inl (.inr h))
    · exact .inl (.inr h)
    · exact .inr h
theorem Ok.pay {l : Lo} (h : Ok l) (hst : l.st = 1) {n day : Int} (hn : 0 ≤ n) : Ok (payL l n day) := by
  have hd := dist_ok (n := n) (oa := l.fee) (ob := l.pen) (oc := Ln.oI l day) (od := Ln.oP l day) hn
  rw [h.oI, h.oP] at hd
  have s := h.sums day
  have hx : payD l n day = dist n l.fee l.pen (I (due l.ds day) - l.pi) (P (due l.ds day) - l.pp) := by unfold payD; rw [h.oI, h.oP]
  unfold payL
  rw [hx]
  generalize dist n l.fee l.pen (I (due l.ds day) - l.pi) (P (due l.ds day) - l.pp) = x at *
  obtain ⟨a0, a1, b0, b1, c0, c1, d0, d1, r0, sm, _⟩ := hd
  obtain ⟨f0, f1⟩ := amt_iff.1 h.fee
  obtain ⟨e0, e1⟩ := amt_iff.1 h.pen
  have hpp := h.pp; have hpp' := h.pp'; have hpi := h.pi; have hpi' := h.pi'
  have p1 := s.p1; have i1 := s.i1
  have q1 := pos_of (o := l.fee); have q2 := pos_of (o := l.pen); have q3 := pos_of (o := I (due l.ds day) - l.pi); have q4 := pos_of (o := P (due l.ds day) - l.pp)
  have hlos := h.los
  have hl2 : (l.take x).st = 1 := hst
  have hok : ∀ k : Lo, k = (l.take x).done → (leftB k = decide (k.st = 1)) ∧ k.ds = l.ds ∧ k.cs = l.cs ∧ k.tm = l.tm ∧ k.id = l.id ∧ k.ac = l.ac ∧ k.chg = l.chg ∧ k.prov = l.prov ∧ k.loss = l.loss ∧ k.rcv = l.rcv ∧ k.fee = l.fee - x.a ∧ k.pen = l.pen - x.b ∧ k.pi = l.pi + x.c ∧ k.pp = l.pp + x.d ∧ 1 ≤ k.st ∧ k.st ≤ 2 := by
    intro k hk
    unfold Lo.done at hk
    split at hk
    · rename_i hle
      subst hk
      exact ⟨by rw [hle, hl2]; rfl, rfl, rfl, rfl, rfl, rfl, rfl, rfl, rfl, rfl, rfl, rfl, rfl, rfl, by omega, by omega⟩
    · rename_i hle
      subst hk
      refine ⟨?_, rfl, rfl, rfl, rfl, rfl, rfl, rfl, rfl, rfl, rfl, rfl, rfl, rfl, (show (1 : Int) ≤ 2 by decide), (show (2 : Int) ≤ 2 by decide)⟩
      rw [show leftB { l.take x with st := 2 } = leftB (l.take x) from rfl]
      cases hv : leftB (l.take x)
      · rfl
      · exact absurd hv hle
  obtain ⟨k1, k2, k3, k4, k5, k6, k7, k8, k9, m1, m2, m3, m4, m5, m6, m7⟩ := hok _ rfl
  generalize (l.take x).done = k at *
  refine ⟨by rw [k5]; exact h.id, by rw [k6]; exact h.ac, m6, by omega, by omega, by omega, by rw [m1]; exact h.rcv, by rw [k7]; exact h.chg, by rw [k4]; exact h.rp, by rw [k4]; exact h.rf, by rw [k2]; exact h.n1, by rw [k2]; exact h.n2, by rw [k3]; exact h.cs,
    amt_iff.2 (by omega), amt_iff.2 (by omega), by rw [k8]; exact h.prov, by rw [k9]; exact h.loss, by rw [k2]; exact h.each, by rw [k2]; exact h.ord, by rw [k2]; omega, by rw [k2]; omega, by rw [m1, k9]; exact h.rcv', by rw [k3, k2, k4]; exact h.tm, .inr k1, .inr (by rw [k9, m1]; omega)⟩
def payE (l : Lo) (n day : Int) : Int := if chk l = 0 ∧ 1 ≤ n ∧ n ≤ 1000000000000 ∧ 0 ≤ day ∧ day ≤ 73048 then (if l.st = 1 then 0 else 17) else 1
end Go.Proofs.YtlolflephnbbcaaGreatDoor.Ln

namespace Go.Proofs.YtlolflephnbbcaaGreatDoor.Ln
open Go.RowKit
open Go.Proofs.YtlolflephnbbcaaGreatDoor

def dys (pp pi on : Int) : List Du → Int → Int → Int
  | [], _, _ => 0
  | d :: ds, p, i => if d.day ≤ on ∧ (pp < wrap64 (p + d.pr) ∨ pi < wrap64 (i + d.it)) then wrap64 (on - d.day) else dys pp pi on ds (wrap64 (p + d.pr)) (wrap64 (i + d.it))
def daysL (l : Lo) (on : Int) : Int := dys l.pp l.pi on l.ds 0 0
theorem dys_step {pp pi on p i : Int} {ds : List Du} {k : Nat} (h : k < ds.length) : dys pp pi on (ds.drop k) p i = if ds[k]!.day ≤ on ∧ (pp < wrap64 (p + ds[k]!.pr) ∨ pi < wrap64 (i + ds[k]!.it)) then wrap64 (on - ds[k]!.day) else dys pp pi on (ds.drop (k + 1)) (wrap64 (p + ds[k]!.pr)) (wrap64 (i + ds[k]!.it)) := by
  rw [List.drop_eq_getElem_cons h, getElem!_pos ds k h]
  rfl
theorem dys_end {pp pi on p i : Int} {ds : List Du} {k : Nat} (h : ¬k < ds.length) : dys pp pi on (ds.drop k) p i = 0 := by
  rw [List.drop_eq_nil_of_le (by omega)]
  rfl
def bkt (d : Int) : Int := if d ≤ 0 then 0 else if d ≤ 30 then 1 else if d ≤ 60 then 2 else if d ≤ 90 then 3 else 4
theorem bkt_ways (d : Int) : (d ≤ 0 ∧ bkt d = 0) ∨ (0 < d ∧ d ≤ 30 ∧ bkt d = 1) ∨ (30 < d ∧ d ≤ 60 ∧ bkt d = 2) ∨ (60 < d ∧ d ≤ 90 ∧ bkt d = 3) ∨ (90 < d ∧ bkt d = 4) := by
  unfold bkt
  split
  · exact .inl ⟨by assumption, rfl⟩
  · split
    · exact .inr (.inl ⟨by omega, by assumption, rfl⟩)
    · split
      · exact .inr (.inr (.inl ⟨by omega, by assumption, rfl⟩))
      · split
        · exact .inr (.inr (.inr (.inl ⟨by omega, by assumption, rfl⟩)))
        · exact .inr (.inr (.inr (.inr ⟨by omega, rfl⟩)))
def stgB (b : Int) : Int := if b ≤ 1 then 1 else if b ≤ 3 then 2 else 3
def stgL (l : Lo) (on : Int) : Int := if l.st = 1 then stgB (bkt (daysL l on)) else 0
def rteS (s : Int) : Int := if s = 1 then 10000 else if s = 2 then 100000 else if s = 3 then 450000 else 0
theorem rteS_ways (s : Int) : (s = 1 ∧ rteS s = 10000) ∨ (s = 2 ∧ rteS s = 100000) ∨ (s = 3 ∧ rteS s = 450000) ∨ (s ≠ 1 ∧ s ≠ 2 ∧ s ≠ 3 ∧ rteS s = 0) := by
  unfold rteS
  split
  · exact .inl ⟨by assumption, rfl⟩
  · split
    · exact .inr (.inl ⟨by assumption, rfl⟩)
    · split
      · exact .inr (.inr (.inl ⟨by assumption, rfl⟩))
      · exact .inr (.inr (.inr ⟨by assumption, by assumption, by assumption, rfl⟩))
end Go.Proofs.YtlolflephnbbcaaGreatDoor.Ln
namespace Go.Proofs.YtlolflephnbbcaaGreatDoor.Ln
open Go.RowKit
open Go.Proofs.YtlolflephnbbcaaGreatDoor

def ovL (l : Lo) (on : Int) : Int := max (oP l on) 0
noncomputable def penT (l : Lo) (d : Int) : Int := ovL l d * l.tm.pen * Cal.wei 3 d
noncomputable def penS (l : Lo) (a : Int) : Nat → Int
 | 0 => 0
 | n + 1 => penS l a n + penT l (a + n)
def penOk (l : Lo) (a b : Int) : Prop := chk l = 0 ∧ dayB a = true ∧ dayB b = true ∧ a ≤ b ∧ b - a ≤ 4000
instance (l : Lo) (a b : Int) : Decidable (penOk l a b) := by unfold penOk; infer_instance
def penE (l : Lo) (a b : Int) : Int := if penOk l a b then 0 else 1
noncomputable def penV (l : Lo) (a b : Int) : Int := if penOk l a b then penS l a (b - a).toNat else 0
theorem rateB_iff {n : Int} : rateB n = true ↔ 0 ≤ n ∧ n ≤ 1000000 := by unfold rateB; exact decide_eq_true_iff
theorem wei_bd (d : Int) : 0 ≤ Cal.wei 3 d ∧ Cal.wei 3 d ≤ 4392 := by
 by_cases h : 0 ≤ d ∧ d ≤ 73048
 ·rw [Cal.wei_in h.1 h.2]
  have := Cal.wt_bd (Cal.cy d)
  have := Cal.lp_bd (Cal.cy d)
  unfold Cal.wgt
  rw [if_neg (by omega), if_neg (by omega), if_pos rfl]
  unfold Cal.wt at *
  omega
 ·rw [Cal.wei_out (by omega)]
  omega
theorem Ok.ov {l : Lo} (h : Ok l) (d : Int) : ovL l d = max (P (due l.ds d) - l.pp) 0 ∧ 0 ≤ ovL l d ∧ ovL l d ≤ 240000000000000 := by
 have hs := h.sums d
 have hp := h.pp
 have h1 := hs.p1
 have h2 := hs.p2
 have h0 := hs.p0
 unfold ovL
 rw [h.oP]
 omega
theorem Ok.penT {l : Lo} (h : Ok l) (d : Int) : 0 ≤ Ln.penT l d ∧ Ln.penT l d ≤ 1054080000000000000000000 := by
 have h1 := (h.ov d).2
 have h2 := rateB_iff.1 h.rp
 have h3 := wei_bd d
 unfold Ln.penT
 have a1 : 0 ≤ ovL l d * l.tm.pen := Int.mul_nonneg h1.1 h2.1
 have a2 : ovL l d * l.tm.pen ≤ 240000000000000 * 1000000 := Int.mul_le_mul h1.2 h2.2 h2.1 (by omega)
 exact ⟨Int.mul_nonneg a1 h3.1, Int.mul_le_mul a2 h3.2 h3.1 (by omega)⟩
theorem Ok.penS {l : Lo} (h : Ok l) (a : Int) : ∀ n : Nat, 0 ≤ Ln.penS l a n ∧ Ln.penS l a n ≤ n * 1054080000000000000000000
 | 0 => by simp [Ln.penS]
 | n + 1 => by
  have h1 := h.penS a n
  have h2 := h.penT (a + n)
  unfold Ln.penS
  omega
theorem ord_at {ds : List Du} (h : ordB ds = true) {i : Nat} (hi : i + 1 < ds.length) : ds[i]!.day ≤ ds[i + 1]!.day := by
 unfold ordB at h
 rw [List.all_eq_true] at h
 have := h (i + 1) (List.mem_range.2 hi)
 rw [Bool.and_eq_true, Bool.or_eq_true] at this
 rcases this.2 with h1 | h1
 ·exact absurd (of_decide_eq_true h1) (by omega)
 ·exact of_decide_eq_true h1
theorem ord_far {ds : List Du} (h : ordB ds = true) {i : Nat} : ∀ k, i + k < ds.length → ds[i]!.day ≤ ds[i + k]!.day
 | 0, _ => Int.le_refl _
 | k + 1, hk => Int.le_trans (ord_far h k (by omega)) (ord_at h (i := i + k) (by omega))
theorem ord_pw {ds : List Du} (h : ordB ds = true) : ds.Pairwise (fun a b => a.day ≤ b.day) := by
 rw [List.pairwise_iff_getElem]
 intro i j hi hj hij
 have := ord_far h (i := i) (j - i) (by omega)
 rw [show i + (j - i) = j by omega, getElem!_pos ds i hi, getElem!_pos ds j hj] at this
 exact this
theorem dys_far {pp pi on : Int} : ∀ (ds : List Du) (p i : Int), (∀ d ∈ ds, on < d.day) → dys pp pi on ds p i = 0
 | [], _, _, _ => rfl
 | d :: ds, p, i, h => by
  unfold dys
  rw [if_neg (fun hh => by have := h d List.mem_cons_self; omega)]
  exact dys_far ds _ _ (fun x hx => h x (List.mem_cons_of_mem _ hx))
theorem Ok.day {l : Lo} (h : Ok l) : ∀ d ∈ l.ds, 0 ≤ d.day ∧ d.day ≤ 73048 := by
 intro d hd
 have := List.all_eq_true.1 h.each d hd
 unfold dueB dayB at this
 simp only [Bool.and_eq_true] at this
 exact of_decide_eq_true this.1.1
end Go.Proofs.YtlolflephnbbcaaGreatDoor.Ln
