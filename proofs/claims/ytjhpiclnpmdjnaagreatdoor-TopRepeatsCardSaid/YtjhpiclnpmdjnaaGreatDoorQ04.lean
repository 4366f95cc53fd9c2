/-
  Parts of the proof: Lnm.
-/
import Derived.RowKit
namespace Go.Proofs.YtjhpiclnpmdjnaaGreatDoor.Ln
open Go Go.RowKit

structure Tm where
  (me pr ppm stt ev ct ba mo pen fe : Int) (cal cur : ByteArray)
structure Ch where
  (day amt : Int) (old : Tm)
structure Du where
  (no day pr it : Int)
structure Lo where
  (id ac st pp pi fee pen chg prov loss rcv : Int) (tm : Tm) (ds : List Du) (cs : List Ch)
instance : Inhabited Du := ⟨⟨0, 0, 0, 0⟩⟩
instance : Inhabited Ch := ⟨⟨0, 0, ⟨0, 0, 0, 0, 0, 0, 0, 0, 0, 0, .empty, .empty⟩⟩⟩

def sum : List Int → Int
  | [] => 0
  | x :: l => x + sum l
theorem sum_append (a b : List Int) : sum (a ++ b) = sum a + sum b := by
  induction a with
  | nil => simp [sum]
  | cons x l ih => simp only [List.cons_append, sum, ih]; omega
theorem sum_le : ∀ (l : List Int) (m : Int), (∀ x ∈ l, x ≤ m) → sum l ≤ l.length * m
  | [], m, _ => by simp [sum]
  | x :: l, m, h => by
    have h1 := sum_le l m fun y hy => h y (List.mem_cons_of_mem _ hy)
    have h2 := h x (List.mem_cons_self ..)
    simp only [sum, List.length_cons]
    rw [show ((l.length + 1 : Nat) : Int) * m = l.length * m + m by rw [Int.natCast_add, Int.add_mul]; simp]
    omega
theorem wrap_in {n : Int} (h : -9223372036854775808 ≤ n) (h2 : n ≤ 9223372036854775807) : wrap64 n = n := by unfold wrap64; omega

def prs (ds : List Du) : List Int := ds.map Du.pr
def its (ds : List Du) : List Int := ds.map Du.it
def P (ds : List Du) : Int := wrap64 (sum (prs ds))
def I (ds : List Du) : Int := wrap64 (sum (its ds))
def due (ds : List Du) (day : Int) : List Du := ds.filter fun d => decide (d.day ≤ day)
def leftB (l : Lo) : Bool := decide (l.pp ≠ P l.ds) || decide (l.pi ≠ I l.ds) || decide (l.fee ≠ 0) || decide (l.pen ≠ 0)
def amt (n : Int) : Bool := decide (0 ≤ n ∧ n ≤ 1000000000000)
def dayB (n : Int) : Bool := decide (0 ≤ n ∧ n ≤ 73048)
def rateB (n : Int) : Bool := decide (0 ≤ n ∧ n ≤ 1000000)
def dueB (d : Du) : Bool := dayB d.day && amt d.pr && amt d.it
def rangedB (l : Lo) : Bool :=
  decide (1 ≤ l.id) && decide (1000 ≤ l.ac) && decide (1 ≤ l.st) && decide (l.st ≤ 3) && decide (0 ≤ l.pp) && decide (0 ≤ l.pi) && decide (0 ≤ l.rcv) && dayB l.chg && rateB l.tm.pen && rateB l.tm.fe &&
  decide (1 ≤ l.ds.length) && decide (l.ds.length ≤ 240) && decide (l.cs.length ≤ 64) && amt l.fee && amt l.pen && amt l.prov && amt l.loss && l.ds.all dueB
def ordB (ds : List Du) : Bool := (List.range ds.length).all fun i => decide (ds[i]!.no = (i : Int) + 1) && (decide (i = 0) || decide (ds[i - 1]!.day ≤ ds[i]!.day))
def sumsB (l : Lo) : Bool :=
  decide (l.pp ≤ P l.ds) && decide (l.pi ≤ I l.ds) && decide (l.rcv ≤ l.loss) && (decide (l.cs.length ≠ 0) || decide (P l.ds = l.tm.pr)) &&
  (decide (l.st = 3) || (leftB l == decide (l.st = 1))) && (decide (l.st = 3) || (decide (l.loss = 0) && decide (l.rcv = 0)))
def chk (l : Lo) : Int := if rangedB l then (if ordB l.ds then (if sumsB l then 0 else 25) else 10) else 1

/-! ### payments -/
def pos (n : Int) : Int := if 0 < n then n else 0
def give (n o : Int) : Int := if pos o < n then pos o else n
structure Dist where
  (a b c d r : Int)
def dist (n oa ob oc od : Int) : Dist :=
  ⟨give n oa, give (n - give n oa) ob, give (n - give n oa - give (n - give n oa) ob) oc,
   give (n - give n oa - give (n - give n oa) ob - give (n - give n oa - give (n - give n oa) ob) oc) od,
   n - give n oa - give (n - give n oa) ob - give (n - give n oa - give (n - give n oa) ob) oc - give (n - give n oa - give (n - give n oa) ob - give (n - give n oa - give (n - give n oa) ob) oc) od⟩
def parts (l : List (Int × Int)) : List (Int × Int) := l.filter fun p => decide (0 < p.2)
def Dist.parts (x : Dist) : List (Int × Int) := Ln.parts [(1, x.a), (2, x.b), (3, x.c), (4, x.d), (5, x.r)]
def oI (l : Lo) (day : Int) : Int := wrap64 (I (due l.ds day) - l.pi)
def oP (l : Lo) (day : Int) : Int := wrap64 (P (due l.ds day) - l.pp)
def owed (l : Lo) (day : Int) : List (Int × Int) := parts [(1, l.fee), (2, l.pen), (3, oI l day), (4, oP l day)]
def Lo.take (l : Lo) (x : Dist) : Lo := { l with fee := l.fee - x.a, pen := l.pen - x.b, pi := l.pi + x.c, pp := l.pp + x.d }
def Lo.done (l : Lo) : Lo := if leftB l then l else { l with st := 2 }
def payD (l : Lo) (n day : Int) : Dist := dist n l.fee l.pen (oI l day) (oP l day)
def payL (l : Lo) (n day : Int) : Lo := (l.take (payD l n day)).done
structure Ok (l : Lo) : Prop where
  id : 1 ≤ l.id
  ac : 1000 ≤ l.ac
  st1 : 1 ≤ l.st
  st3 : l.st ≤ 3
  pp : 0 ≤ l.pp
  pi : 0 ≤ l.pi
  rcv : 0 ≤ l.rcv
  chg : dayB l.chg = true
  rp : rateB l.tm.pen = true
  rf : rateB l.tm.fe = true
  n1 : 1 ≤ l.ds.length
  n2 : l.ds.length ≤ 240
  cs : l.cs.length ≤ 64
  fee : amt l.fee = true
  pen : amt l.pen = true
  prov : amt l.prov = true
  loss : amt l.loss = true
  each : l.ds.all dueB = true
  ord : ordB l.ds = true
  pp' : l.pp ≤ P l.ds
  pi' : l.pi ≤ I l.ds
  rcv' : l.rcv ≤ l.loss
  tm : l.cs.length ≠ 0 ∨ P l.ds = l.tm.pr
  left : l.st = 3 ∨ (leftB l = decide (l.st = 1))
  los : l.st = 3 ∨ (l.loss = 0 ∧ l.rcv = 0)
theorem sum_filter (p : Du → Bool) (f : Du → Int) : ∀ (l : List Du), (∀ d ∈ l, 0 ≤ f d) → 0 ≤ sum ((l.filter p).map f) ∧ sum ((l.filter p).map f) ≤ sum (l.map f)
  | [], _ => by simp [sum]
  | d :: l, h => by
    have ih := sum_filter p f l fun y hy => h y (List.mem_cons_of_mem _ hy)
    have h0 := h d (List.mem_cons_self ..)
    rw [List.filter_cons]
    split
    · simp only [List.map_cons, sum]; omega
    · simp only [List.map_cons, sum]; omega
structure Sums (l : Lo) (day : Int) : Prop where
  p0 : 0 ≤ P (due l.ds day)
  p1 : P (due l.ds day) ≤ P l.ds
  p2 : P l.ds ≤ 240000000000000
  i0 : 0 ≤ I (due l.ds day)
  i1 : I (due l.ds day) ≤ I l.ds
  i2 : I l.ds ≤ 240000000000000
theorem sums_of {l : Lo} (day : Int) (h : l.ds.all dueB = true) (hn : l.ds.length ≤ 240) : Sums l day := by
  have he : ∀ d ∈ l.ds, (0 ≤ d.pr ∧ d.pr ≤ 1000000000000) ∧ (0 ≤ d.it ∧ d.it ≤ 1000000000000) := by
    intro d hd
    have := List.all_eq_true.1 h d hd
    simp only [dueB, amt, Bool.and_eq_true, decide_eq_true_eq] at this
    exact ⟨this.1.2, this.2⟩
  have hp := sum_filter (fun d => decide (d.day ≤ day)) Du.pr l.ds fun d hd => (he d hd).1.1
  have hi := sum_filter (fun d => decide (d.day ≤ day)) Du.it l.ds fun d hd => (he d hd).2.1
  have hp2 := sum_le (prs l.ds) 1000000000000 fun x hx => by
    simp only [prs, List.mem_map] at hx; obtain ⟨d, hd, rfl⟩ := hx; exact (he d hd).1.2
  have hi2 := sum_le (its l.ds) 1000000000000 fun x hx => by
    simp only [its, List.mem_map] at hx; obtain ⟨d, hd, rfl⟩ := hx; exact (he d hd).2.2
  have hlp : (prs l.ds).length = l.ds.length := by simp [prs]
  have hli : (its l.ds).length = l.ds.length := by simp [its]
  rw [hlp] at hp2
  rw [hli] at hi2
  have e1 : P (due l.ds day) = sum ((l.ds.filter fun d => decide (d.day ≤ day)).map Du.pr) := by
    show wrap64 _ = _
    rw [show sum (prs (due l.ds day)) = sum ((l.ds.filter fun d => decide (d.day ≤ day)).map Du.pr) from rfl]
    exact wrap_in (by omega) (by unfold prs at hp2; omega)
  have e2 : P l.ds = sum (prs l.ds) := wrap_in (by unfold prs; omega) (by omega)
  have e3 : I (due l.ds day) = sum ((l.ds.filter fun d => decide (d.day ≤ day)).map Du.it) := by
    show wrap64 _ = _
    rw [show sum (its (due l.ds day)) = sum ((l.ds.filter fun d => decide (d.day ≤ day)).map Du.it) from rfl]
    exact wrap_in (by omega) (by unfold its at hi2; omega)
  have e4 : I l.ds = sum (its l.ds) := wrap_in (by unfold its; omega) (by omega)
  refine ⟨?_, ?_, ?_, ?_, ?_, ?_⟩
  · rw [e1]; exact hp.1
  · rw [e1, e2]; exact hp.2
  · rw [e2]; omega
  · rw [e3]; exact hi.1
  · rw [e3, e4]; exact hi.2
  · rw [e4]; omega
theorem Ok.sums {l : Lo} (h : Ok l) (day : Int) : Sums l day := sums_of day h.each h.n2
theorem Ok.oI {l : Lo} (h : Ok l) (day : Int) : oI l day = I (due l.ds day) - l.pi := by
  have s := h.sums day
  have := h.pi; have := h.pi'; have := s.i0; have := s.i1; have := s.i2
  exact wrap_in (by omega) (by omega)
theorem Ok.oP {l : Lo} (h : Ok l) (day : Int) : oP l day = P (due l.ds day) - l.pp := by
  have s := h.sums day
  have := h.pp; have := h.pp'; have := s.p0; have := s.p1; have := s.p2
  exact wrap_in (by omega) (by omega)
structure DistOk (n oa ob oc od : Int) (x : Dist) : Prop where
  a0 : 0 ≤ x.a
  a1 : x.a ≤ pos oa
  b0 : 0 ≤ x.b
  b1 : x.b ≤ pos ob
  c0 : 0 ≤ x.c
  c1 : x.c ≤ pos oc
  d0 : 0 ≤ x.d
  d1 : x.d ≤ pos od
  r0 : 0 ≤ x.r
  s : x.a + x.b + x.c + x.d + x.r = n
  rest : 0 < x.r → x.a = pos oa ∧ x.b = pos ob ∧ x.c = pos oc ∧ x.d = pos od
def payE (l : Lo) (n day : Int) : Int := if chk l = 0 ∧ 1 ≤ n ∧ n ≤ 1000000000000 ∧ 0 ≤ day ∧ day ≤ 73048 then (if l.st = 1 then 0 else 17) else 1
end Go.Proofs.YtjhpiclnpmdjnaaGreatDoor.Ln

namespace Go.Proofs.YtjhpiclnpmdjnaaGreatDoor.Ln
open Go.RowKit
open Go.Proofs.YtjhpiclnpmdjnaaGreatDoor

def dys (pp pi on : Int) : List Du → Int → Int → Int
  | [], _, _ => 0
  | d :: ds, p, i => if d.day ≤ on ∧ (pp < wrap64 (p + d.pr) ∨ pi < wrap64 (i + d.it)) then wrap64 (on - d.day) else dys pp pi on ds (wrap64 (p + d.pr)) (wrap64 (i + d.it))
def daysL (l : Lo) (on : Int) : Int := dys l.pp l.pi on l.ds 0 0
def bkt (d : Int) : Int := if d ≤ 0 then 0 else if d ≤ 30 then 1 else if d ≤ 60 then 2 else if d ≤ 90 then 3 else 4
def stgB (b : Int) : Int := if b ≤ 1 then 1 else if b ≤ 3 then 2 else 3
def stgL (l : Lo) (on : Int) : Int := if l.st = 1 then stgB (bkt (daysL l on)) else 0
def rteS (s : Int) : Int := if s = 1 then 10000 else if s = 2 then 100000 else if s = 3 then 450000 else 0
end Go.Proofs.YtjhpiclnpmdjnaaGreatDoor.Ln
