/-
  Parts of the proof: Lb, Sr, Lrz.
-/
import Derived.Test.YtlolflephnbbcaaGreatDoorQ10
import Derived.Test.YtlolflephnbbcaaGreatDoorQ03
import Derived.Maps.AppendAt
namespace Go.Proofs.YtlolflephnbbcaaGreatDoor.Ln
open Go.RowKit
open Go.Proofs.YtlolflephnbbcaaGreatDoor

def Dok (ds : List Du) : Prop := ∀ d ∈ ds, d.day ≤ 9223372036854775807
def rprinR (W0 : World) (ds : List Du) (day : Int) (g : Nat) (s5 s6 : Value) (W : World) : Prop := ∃ k : Nat, k + g = ds.length ∧ s6 = .int .i64 k ∧ s5 = .int .i64 (P (due (ds.take k) day)) ∧ W = W0
def rintR (W0 : World) (ds : List Du) (day : Int) (g : Nat) (s5 s6 : Value) (W : World) : Prop := ∃ k : Nat, k + g = ds.length ∧ s6 = .int .i64 k ∧ s5 = .int .i64 (I (due (ds.take k) day)) ∧ W = W0
end Go.Proofs.YtlolflephnbbcaaGreatDoor.Ln

namespace Go.Proofs.YtlolflephnbbcaaGreatDoor.Ln
open Go.RowKit
open Go.Proofs.YtlolflephnbbcaaGreatDoor

theorem quiet_load_row {P : Program} {C : World → Prop} {a : Act} {o : Oper} {K : Act → Prop} (ty : TypeId) (x : Operand) (ho : o.op = .load ty x)
  (g : Nat) (hx : a.eval x = .pointer (some ⟨g, 0, none⟩)) (t : TypeId) (cs : Array Value) (fr : Nat × Nat) (d : TypeDesc) (hg : ∀ w, C w → w.heap[g]? = some (.cells cs t fr))
  (hu : P.underlying ty = some d) (hd : (match d with | .struct _ | .array _ _ => true | _ => false) = true) (hi : (P.info? ty).map (·.size) = some cs.size)
  (hk : K (a.put o.dst (.agg cs))) : o.quiet P a C K :=
 Reg.quiet_run (v := .agg cs) (fun w hw => by
  unfold execOp
  simp only [ho, hx, Instr.loadAt, Instr.sureAddr, Sem.run_bind, Sem.run_pure, Result.andThen_ok, run_loadVar_row w g t ty cs fr d (hg w hw) hu hd hi]) hk
def greatB (l : Lo) : Bool := decide (300 < l.ds.length) || decide (100 < l.cs.length)
end Go.Proofs.YtlolflephnbbcaaGreatDoor.Ln
namespace Go.Proofs.YtlolflephnbbcaaGreatDoor.Sr
open Go Go.RowKit
open Go.Proofs.YtlolflephnbbcaaGreatDoor
open Go.Proofs.YtlolflephnbbcaaGreatDoor.Ln (flat flat_len flat_get RowIn OwnR Du denc denc_one denc_len)

section
variable {α : Type} {enc : α → List Value} {k : Nat} {T : TypeId}
def GV (enc : α → List Value) (k : Nat) (T : TypeId) (W : World) (B : Nat) (v : Value) (xs : List α) : Prop := W.ownsRow B T k v xs.length (flat enc xs) ∧ ∃ a c, v = .slice a xs.length c
theorem GV.nil (W : World) (B : Nat) : GV enc k T W B (.slice none 0 0) [] := ⟨⟨by simp [flat], .inl ⟨rfl, rfl⟩⟩, none, 0, rfl⟩
theorem GV.row {W : World} {B : Nat} {v : Value} {xs : List α} (h : GV enc k T W B v xs) : ∃ a c, v = .slice a xs.length c ∧ RowIn enc W a xs ∧ (∀ ad, a = some ad → B ≤ ad.block) := by
 obtain ⟨ho, a, c, rfl⟩ := h
 by_cases hn : (Value.slice a xs.length c) = .slice none 0 0
 ·obtain ⟨rfl, h0, rfl⟩ := by simpa using hn
  exact ⟨none, 0, rfl, fun h => by simp [h0] at h, fun ad h => by cases h⟩
 ·obtain ⟨g, c', he, hr⟩ := OwnR.of ho hn
  obtain ⟨rfl, _, rfl⟩ := by simpa using he
  exact ⟨_, _, rfl, hr.row, fun ad h => by cases h; exact hr.1⟩
theorem GV.later {W w1 : World} {B : Nat} {v : Value} {xs : List α} (hb : Below W.heap.size W w1) (h : GV enc k T W B v xs) : GV enc k T w1 B v xs := by
 obtain ⟨⟨hl, ho⟩, hs⟩ := h
 refine ⟨⟨hl, ?_⟩, hs⟩
 rcases ho with ho | ⟨g, cap, cur, h1, h2, h3, h4⟩
 ·exact .inl ho
 ·exact .inr ⟨g, cap, cur, h1, h2, Bk.Blk.later hb h3, h4⟩
theorem GV.lt {W : World} {B : Nat} {v : Value} {xs : List α} (h : GV enc k T W B v xs) : ∀ j, v.ownBlock = some j → j < W.heap.size ∧ B ≤ j := by
 obtain ⟨⟨hl, ho⟩, hs⟩ := h
 rcases ho with ho | ⟨g, cap, cur, rfl, h2, h3, h4⟩
 ·intro j hj; rw [ho.1] at hj; cases hj
 ·intro j hj
  obtain rfl : g = j := by simpa [Value.ownBlock] using hj
  exact ⟨Bk.Blk.lt h3, h2⟩
theorem GV.len {W : World} {B : Nat} {v : Value} {xs : List α} (h : GV enc k T W B v xs) : ∃ a c, v = .slice a xs.length c := h.2
theorem app_gv {ST : TypeId} {z : Value} {bytes : Nat} (hk : ∀ x, (enc x).length = k) (he : ∀ x, ∀ u ∈ enc x, u.oneCell' = true) (k0 : 0 < k) (kb : bytes ≤ 1024) (hzs : z.cells.size = k)
  (hinfo : (Tryz.prog.info? T).map (fun i => (i.zero, i.size, i.bytes)) = some (some z, k, bytes)) (hu : Tryz.prog.underlying ST = some (.slice T))
  {ops : Array Oper} {rest : List Oper} {o : Oper} {a : Act} {Q : Exit → Act → World → Prop} {W : World} {B : Nat} {v : Value} {xs : List α} (x : α) (hgd : o.guard = none) (s y : Operand)
  (ho : o.op = .call { callee := .builtin .append, args := #[s, y], argTypes := #[ST, ST] }) (hs : a.eval s = v) (hr : GV enc k T W B v xs)
  (hy : a.eval y = .slice (some ⟨W.heap.size, 0, none⟩) 1 1) (hl : xs.length ≤ 1000000) (hB : B ≤ W.heap.size)
  (h : ∀ v' w', GV enc k T w' B v' (xs ++ [x]) → (W.alloc (.cells (enc x).toArray T)).grownBy w' v.ownBlock → (v'.ownBlock = v.ownBlock ∨ v'.ownBlock = some (W.heap.size + 1)) → wpList Tryz.prog ops Q rest (a.put o.dst v') w') :
  wpList Tryz.prog ops Q (o :: rest) a (W.alloc (.cells (enc x).toArray T)) := by
 obtain ⟨i, hi, hzz⟩ := Option.map_eq_some_iff.1 hinfo
 simp only [Prod.mk.injEq] at hzz
 obtain ⟨hz, hsz, hby⟩ := hzz
 refine wpList_append_own_at _ hgd s y ST ho B T i z k bytes hu hi hz hsz hby hzs k0 v xs.length (flat enc xs) hs (hr.1.alloc _) ⟨W.heap.size, 0, none⟩ 1 1 (enc x) hy (by rw [hk, Nat.one_mul]) ?_ (he x) (by unfold maxLen; omega) ?_ (by simp; omega) ?_
 ·intro j u hj
  rw [show (⟨W.heap.size, 0, none⟩ : Addr).add j = ⟨W.heap.size, 0 + j, none⟩ from Go.WideShapes.add_plain .., Nat.zero_add]
  have hk := Bk.Blk.nw10 (W := W) (cs := (enc x).toArray) (t := T)
  rw [hk.cell]
  simpa using hj
 ·calc (xs.length + 1) * bytes ≤ 1000001 * 1024 := Nat.mul_le_mul (by omega) kb
   _ ≤ 140737488355328 := by decide
 ·intro v' w' hown hgr hnil hat
  refine h v' w' ?_ hgr (by simpa using hat)
  have e : flat enc xs ++ enc x = flat enc (xs ++ [x]) := by simp [flat]
  rw [e, show xs.length + 1 = (xs ++ [x]).length by simp] at hown
  refine ⟨hown, ?_⟩
  have hn : v' ≠ .slice none 0 0 := fun hv => by have := (hnil.1 hv).2; omega
  obtain ⟨g, c, rfl, _⟩ := OwnR.of hown hn
  exact ⟨_, _, rfl⟩
theorem grown_below {W w1 : World} {v : Value} {xs : List α} {w : World} {cs : Array Value} (hb : Below w.heap.size w W) (hr : GV enc k T W w.heap.size v xs) (hg : (W.alloc (.cells cs T)).grownBy w1 v.ownBlock) : Below w.heap.size w w1 :=
 (hb.alloc hb.size _).grown hg (by have := hb.size; simp; omega) (fun j hj => (hr.lt j hj).2)
end
/-! ### numbers -/
def ienc (n : Int) : List Value := [.int .i64 n]
theorem ienc_len (n : Int) : (ienc n).length = 1 := rfl
theorem ienc_one (n : Int) : ∀ u ∈ ienc n, u.oneCell' = true := by
 intro u hu
 simp only [ienc, List.mem_cons, List.not_mem_nil, or_false] at hu
 subst hu; rfl
theorem flat_ienc (l : List Int) : flat ienc l = l.map (Value.int .i64) := by
 induction l with
 | nil => rfl
 | cons x l ih =>
  unfold flat at ih ⊢
  rw [List.flatMap_cons, ih]
  rfl
theorem ints_of_row {W : World} {a : Option Addr} {l : List Int} (hn : l.length ≤ 9223372036854775807) (h : RowIn ienc W a l) : Bk.IntsIn W a l := ⟨hn, fun h0 => by
 obtain ⟨b, off, ha, hc⟩ := h h0
 refine ⟨b, off, ha, fun j hj => hc j _ ?_⟩
 rw [flat_ienc]
 simp [hj, List.getD_eq_getElem?_getD]⟩
theorem int_info : (Tryz.prog.info? 3).map (fun i => (i.zero, i.size, i.bytes)) = some (some (.int .i64 0), 1, 8) := by kernel_rfl
abbrev IV (W : World) (B : Nat) (v : Value) (l : List Int) : Prop := GV ienc 1 3 W B v l
abbrev DV (W : World) (B : Nat) (v : Value) (l : List Du) : Prop := GV denc 4 47 W B v l
theorem app_int {ops : Array Oper} {rest : List Oper} {o : Oper} {a : Act} {Q : Exit → Act → World → Prop} {W : World} {B : Nat} {v : Value} {xs : List Int} (x : Int) (hgd : o.guard = none) (s y : Operand)
  (ho : o.op = .call { callee := .builtin .append, args := #[s, y], argTypes := #[24, 24] }) (hs : a.eval s = v) (hr : IV W B v xs)
  (hy : a.eval y = .slice (some ⟨W.heap.size, 0, none⟩) 1 1) (hl : xs.length ≤ 1000000) (hB : B ≤ W.heap.size)
  (h : ∀ v' w', IV w' B v' (xs ++ [x]) → (W.alloc (.cells #[.int .i64 x] 3)).grownBy w' v.ownBlock → (v'.ownBlock = v.ownBlock ∨ v'.ownBlock = some (W.heap.size + 1)) → wpList Tryz.prog ops Q rest (a.put o.dst v') w') :
  wpList Tryz.prog ops Q (o :: rest) a (W.alloc (.cells #[.int .i64 x] 3)) :=
 app_gv ienc_len ienc_one (by decide) (by decide) rfl int_info Tryz.underlying24 x hgd s y ho hs hr hy hl hB h
theorem app_due {ops : Array Oper} {rest : List Oper} {o : Oper} {a : Act} {Q : Exit → Act → World → Prop} {W : World} {B : Nat} {v : Value} {xs : List Du} (x : Du) (hgd : o.guard = none) (s y : Operand)
  (ho : o.op = .call { callee := .builtin .append, args := #[s, y], argTypes := #[29, 29] }) (hs : a.eval s = v) (hr : DV W B v xs)
  (hy : a.eval y = .slice (some ⟨W.heap.size, 0, none⟩) 1 1) (hl : xs.length ≤ 1000000) (hB : B ≤ W.heap.size)
  (h : ∀ v' w', DV w' B v' (xs ++ [x]) → (W.alloc (.cells #[.int .i64 x.no, .int .i64 x.day, .int .i64 x.pr, .int .i64 x.it] 47)).grownBy w' v.ownBlock → (v'.ownBlock = v.ownBlock ∨ v'.ownBlock = some (W.heap.size + 1)) → wpList Tryz.prog ops Q rest (a.put o.dst v') w') :
  wpList Tryz.prog ops Q (o :: rest) a (W.alloc (.cells #[.int .i64 x.no, .int .i64 x.day, .int .i64 x.pr, .int .i64 x.it] 47)) :=
 app_gv denc_len denc_one (by decide) (by decide) rfl Ln.due_info Tryz.underlying29 x hgd s y ho hs hr hy hl hB h
end Go.Proofs.YtlolflephnbbcaaGreatDoor.Sr
namespace Go.Proofs.YtlolflephnbbcaaGreatDoor.Ln
open Go.RowKit
open Go.Proofs.YtlolflephnbbcaaGreatDoor

def RGR (A0 : Option Addr) (D0 : Nat) (w : World) (ds : List Du) (g : Nat) (s3 : Value) (W : World) : Prop := ∃ k : Nat, k + g = ds.length ∧ s3 = .int .i64 k ∧ (∀ j, j < k → dueB ds[j]! = true) ∧ Below w.heap.size w W ∧ W.cell? ⟨w.heap.size, 23, none⟩ = some (.slice A0 ds.length D0)
end Go.Proofs.YtlolflephnbbcaaGreatDoor.Ln

namespace Go.Proofs.YtlolflephnbbcaaGreatDoor.Ln
open Go.RowKit
open Go.Proofs.YtlolflephnbbcaaGreatDoor

def RCR (w : World) (ds : List Du) (C0 : Array Value) (g : Nat) (s3 : Value) (W : World) : Prop := ∃ k : Nat, k + g = ds.length ∧ s3 = .int .i64 k ∧ (∀ i, i < k → ds[i]!.no = (i : Int) + 1 ∧ (i = 0 ∨ ds[i - 1]!.day ≤ ds[i]!.day)) ∧ Below w.heap.size w W ∧ Bk.Blk W w.heap.size C0 32

end Go.Proofs.YtlolflephnbbcaaGreatDoor.Ln
