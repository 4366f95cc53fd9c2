/-
  A block of memory that is known whole: what its cells hold; it stays behind a call that leaves old memory alone, behind new blocks and behind stores. No Go in sight.
-/
import Derived.Below
import Derived.WalkSpells
import Derived.WalkKit
import Derived.Test.YtmdomlfkehhleaaReg
namespace Go.Proofs.Ytmdomlfkehhleaa.Bk
open Go Go.RowKit
open Go.Proofs.Ytmdomlfkehhleaa

/-- Block g of the world holds these cells, and may be written. -/
def Blk (W : World) (g : Nat) (cs : Array Value) (t : TypeId) : Prop := W.heap[g]? = some (.cells cs t (0, 0))
section
variable {W w1 : World} {g i : Nat} {cs : Array Value} {t : TypeId} {u : Value}
theorem Blk.lt (h : Blk W g cs t) : g < W.heap.size := by
  rcases Nat.lt_or_ge g W.heap.size with h' | h'
  · exact h'
  · unfold Blk at h; simp [Array.getElem?_eq_none h'] at h
theorem Blk.cell (h : Blk W g cs t) (i : Nat) : W.cell? ⟨g, i, none⟩ = cs[i]? := by unfold Blk at h; simp [World.cell?, h]
theorem Blk.free (h : Blk W g cs t) (i : Nat) : W.frozen? ⟨g, i, none⟩ = false := by unfold Blk at h; simp [World.frozen?, h]
theorem Blk.below {B : Nat} (hb : Below B W w1) (hg : g < B) (h : Blk W g cs t) : Blk w1 g cs t := (hb.block g hg).trans h
theorem Blk.later (hb : Below W.heap.size W w1) (h : Blk W g cs t) : Blk w1 g cs t := h.below hb h.lt
theorem Blk.new (h : g = W.heap.size) : Blk (W.alloc (.cells cs t)) g cs t := by
  subst h
  show (W.heap.push _)[W.heap.size]? = _
  simp
theorem Blk.alloc {o : Obj} (h : Blk W g cs t) : Blk (W.alloc o) g cs t := (Below.heap_alloc W o g h.lt).trans h
theorem Blk.drew (h : Blk W g cs t) : Blk W.drew g cs t := h
theorem Blk.set_other {a : Addr} (h : Blk W g cs t) (hne : g ≠ a.block) : Blk (W.setCell a u) g cs t := (Below.heap_setCell W a u g hne).trans h
theorem Blk.set_same (h : Blk W g cs t) : Blk (W.setCell ⟨g, i, none⟩ u) g (cs.setIfInBounds i u) t := by
  have hlt := h.lt
  have h' : W.heap[g] = .cells cs t (0, 0) := by unfold Blk at h; simpa [Array.getElem?_eq_getElem hlt] using h
  show (W.heap.modify g _)[g]? = _
  rw [Array.getElem?_eq_getElem (by simpa using hlt), Array.getElem_modify_self, h']
  rfl
/-- A known block, behind what came between and a call: it holds what it held. -/
theorem Blk.carry {W0 : World} (_ : Blk W0 g cs t) (hb : Below W.heap.size W w1) (h : Blk W g cs t) : Blk w1 g cs t := h.later hb
theorem Blk.set_ne {g' j : Nat} (h : Blk W g cs t) (hne : g ≠ g') : Blk (W.setCell ⟨g', j, none⟩ u) g cs t := h.set_other hne
/-- A fact that is laid aside. -/
structure Kept (p : Prop) : Prop where mk ::
  out : p
theorem Blk.nw10 : Blk (W.alloc (.cells cs t)) W.heap.size cs t := (Blk.new (by simp))
theorem Blk.nw20 {o1 : Obj} : Blk ((W.alloc (.cells cs t)).alloc o1) W.heap.size cs t := (Blk.alloc (Blk.new (by simp)))
theorem Blk.nw21 {o0 : Obj} : Blk ((W.alloc o0).alloc (.cells cs t)) (W.heap.size + 1) cs t := (Blk.new (by simp))
theorem Blk.nw30 {o1 o2 : Obj} : Blk (((W.alloc (.cells cs t)).alloc o1).alloc o2) W.heap.size cs t := (Blk.alloc (Blk.alloc (Blk.new (by simp))))
theorem Blk.nw31 {o0 o2 : Obj} : Blk (((W.alloc o0).alloc (.cells cs t)).alloc o2) (W.heap.size + 1) cs t := (Blk.alloc (Blk.new (by simp)))
theorem Blk.nw32 {o0 o1 : Obj} : Blk (((W.alloc o0).alloc o1).alloc (.cells cs t)) (W.heap.size + 2) cs t := (Blk.new (by simp))
theorem Blk.nw40 {o1 o2 o3 : Obj} : Blk ((((W.alloc (.cells cs t)).alloc o1).alloc o2).alloc o3) W.heap.size cs t := (Blk.alloc (Blk.alloc (Blk.alloc (Blk.new (by simp)))))
theorem Blk.nw41 {o0 o2 o3 : Obj} : Blk ((((W.alloc o0).alloc (.cells cs t)).alloc o2).alloc o3) (W.heap.size + 1) cs t := (Blk.alloc (Blk.alloc (Blk.new (by simp))))
theorem Blk.nw42 {o0 o1 o3 : Obj} : Blk ((((W.alloc o0).alloc o1).alloc (.cells cs t)).alloc o3) (W.heap.size + 2) cs t := (Blk.alloc (Blk.new (by simp)))
theorem Blk.nw43 {o0 o1 o2 : Obj} : Blk ((((W.alloc o0).alloc o1).alloc o2).alloc (.cells cs t)) (W.heap.size + 3) cs t := (Blk.new (by simp))
theorem Blk.nw50 {o1 o2 o3 o4 : Obj} : Blk (((((W.alloc (.cells cs t)).alloc o1).alloc o2).alloc o3).alloc o4) W.heap.size cs t := (Blk.alloc (Blk.alloc (Blk.alloc (Blk.alloc (Blk.new (by simp))))))
theorem Blk.nw51 {o0 o2 o3 o4 : Obj} : Blk (((((W.alloc o0).alloc (.cells cs t)).alloc o2).alloc o3).alloc o4) (W.heap.size + 1) cs t := (Blk.alloc (Blk.alloc (Blk.alloc (Blk.new (by simp)))))
theorem Blk.nw52 {o0 o1 o3 o4 : Obj} : Blk (((((W.alloc o0).alloc o1).alloc (.cells cs t)).alloc o3).alloc o4) (W.heap.size + 2) cs t := (Blk.alloc (Blk.alloc (Blk.new (by simp))))
theorem Blk.nw53 {o0 o1 o2 o4 : Obj} : Blk (((((W.alloc o0).alloc o1).alloc o2).alloc (.cells cs t)).alloc o4) (W.heap.size + 3) cs t := (Blk.alloc (Blk.new (by simp)))
theorem Blk.nw54 {o0 o1 o2 o3 : Obj} : Blk (((((W.alloc o0).alloc o1).alloc o2).alloc o3).alloc (.cells cs t)) (W.heap.size + 4) cs t := (Blk.new (by simp))
theorem Blk.nw60 {o1 o2 o3 o4 o5 : Obj} : Blk ((((((W.alloc (.cells cs t)).alloc o1).alloc o2).alloc o3).alloc o4).alloc o5) W.heap.size cs t := (Blk.alloc (Blk.alloc (Blk.alloc (Blk.alloc (Blk.alloc (Blk.new (by simp)))))))
theorem Blk.nw61 {o0 o2 o3 o4 o5 : Obj} : Blk ((((((W.alloc o0).alloc (.cells cs t)).alloc o2).alloc o3).alloc o4).alloc o5) (W.heap.size + 1) cs t := (Blk.alloc (Blk.alloc (Blk.alloc (Blk.alloc (Blk.new (by simp))))))
theorem Blk.nw62 {o0 o1 o3 o4 o5 : Obj} : Blk ((((((W.alloc o0).alloc o1).alloc (.cells cs t)).alloc o3).alloc o4).alloc o5) (W.heap.size + 2) cs t := (Blk.alloc (Blk.alloc (Blk.alloc (Blk.new (by simp)))))
theorem Blk.nw63 {o0 o1 o2 o4 o5 : Obj} : Blk ((((((W.alloc o0).alloc o1).alloc o2).alloc (.cells cs t)).alloc o4).alloc o5) (W.heap.size + 3) cs t := (Blk.alloc (Blk.alloc (Blk.new (by simp))))
theorem Blk.nw64 {o0 o1 o2 o3 o5 : Obj} : Blk ((((((W.alloc o0).alloc o1).alloc o2).alloc o3).alloc (.cells cs t)).alloc o5) (W.heap.size + 4) cs t := (Blk.alloc (Blk.new (by simp)))
theorem Blk.nw65 {o0 o1 o2 o3 o4 : Obj} : Blk ((((((W.alloc o0).alloc o1).alloc o2).alloc o3).alloc o4).alloc (.cells cs t)) (W.heap.size + 5) cs t := (Blk.new (by simp))
theorem Blk.conv {cs' : Array Value} (h : Blk W g cs t) (e : cs = cs') : Blk W g cs' t := e ▸ h
end
section
variable {W : World} {g : Nat} {t : TypeId} {l : List Value} {va vb vc vd ve vf vj vk vm vn vo vp vq vr vv vx vy vz ya yb yc yd ye yf yj yk ym yn yo yp yq yr : Value}
theorem Blk.c0 (h : Blk W g (List.toArray (va :: l)) t) : W.cell? ⟨g, 0, none⟩ = some va := (h.cell 0).trans (by simp)
theorem Blk.f0 (h : Blk W g (List.toArray (va :: l)) t) : W.frozen? ⟨g, 0, none⟩ = false := h.free 0
theorem Blk.c1 (h : Blk W g (List.toArray (va :: vb :: l)) t) : W.cell? ⟨g, 1, none⟩ = some vb := (h.cell 1).trans (by simp)
theorem Blk.f1 (h : Blk W g (List.toArray (va :: vb :: l)) t) : W.frozen? ⟨g, 1, none⟩ = false := h.free 1
theorem Blk.c2 (h : Blk W g (List.toArray (va :: vb :: vc :: l)) t) : W.cell? ⟨g, 2, none⟩ = some vc := (h.cell 2).trans (by simp)
theorem Blk.f2 (h : Blk W g (List.toArray (va :: vb :: vc :: l)) t) : W.frozen? ⟨g, 2, none⟩ = false := h.free 2
theorem Blk.c3 (h : Blk W g (List.toArray (va :: vb :: vc :: vd :: l)) t) : W.cell? ⟨g, 3, none⟩ = some vd := (h.cell 3).trans (by simp)
theorem Blk.f3 (h : Blk W g (List.toArray (va :: vb :: vc :: vd :: l)) t) : W.frozen? ⟨g, 3, none⟩ = false := h.free 3
theorem Blk.c4 (h : Blk W g (List.toArray (va :: vb :: vc :: vd :: ve :: l)) t) : W.cell? ⟨g, 4, none⟩ = some ve := (h.cell 4).trans (by simp)
theorem Blk.f4 (h : Blk W g (List.toArray (va :: vb :: vc :: vd :: ve :: l)) t) : W.frozen? ⟨g, 4, none⟩ = false := h.free 4
theorem Blk.c5 (h : Blk W g (List.toArray (va :: vb :: vc :: vd :: ve :: vf :: l)) t) : W.cell? ⟨g, 5, none⟩ = some vf := (h.cell 5).trans (by simp)
theorem Blk.f5 (h : Blk W g (List.toArray (va :: vb :: vc :: vd :: ve :: vf :: l)) t) : W.frozen? ⟨g, 5, none⟩ = false := h.free 5
theorem Blk.c6 (h : Blk W g (List.toArray (va :: vb :: vc :: vd :: ve :: vf :: vj :: l)) t) : W.cell? ⟨g, 6, none⟩ = some vj := (h.cell 6).trans (by simp)
theorem Blk.f6 (h : Blk W g (List.toArray (va :: vb :: vc :: vd :: ve :: vf :: vj :: l)) t) : W.frozen? ⟨g, 6, none⟩ = false := h.free 6
theorem Blk.c7 (h : Blk W g (List.toArray (va :: vb :: vc :: vd :: ve :: vf :: vj :: vk :: l)) t) : W.cell? ⟨g, 7, none⟩ = some vk := (h.cell 7).trans (by simp)
theorem Blk.f7 (h : Blk W g (List.toArray (va :: vb :: vc :: vd :: ve :: vf :: vj :: vk :: l)) t) : W.frozen? ⟨g, 7, none⟩ = false := h.free 7
theorem Blk.c8 (h : Blk W g (List.toArray (va :: vb :: vc :: vd :: ve :: vf :: vj :: vk :: vm :: l)) t) : W.cell? ⟨g, 8, none⟩ = some vm := (h.cell 8).trans (by simp)
theorem Blk.f8 (h : Blk W g (List.toArray (va :: vb :: vc :: vd :: ve :: vf :: vj :: vk :: vm :: l)) t) : W.frozen? ⟨g, 8, none⟩ = false := h.free 8
theorem Blk.c9 (h : Blk W g (List.toArray (va :: vb :: vc :: vd :: ve :: vf :: vj :: vk :: vm :: vn :: l)) t) : W.cell? ⟨g, 9, none⟩ = some vn := (h.cell 9).trans (by simp)
theorem Blk.f9 (h : Blk W g (List.toArray (va :: vb :: vc :: vd :: ve :: vf :: vj :: vk :: vm :: vn :: l)) t) : W.frozen? ⟨g, 9, none⟩ = false := h.free 9
theorem Blk.c10 (h : Blk W g (List.toArray (va :: vb :: vc :: vd :: ve :: vf :: vj :: vk :: vm :: vn :: vo :: l)) t) : W.cell? ⟨g, 10, none⟩ = some vo := (h.cell 10).trans (by simp)
theorem Blk.f10 (h : Blk W g (List.toArray (va :: vb :: vc :: vd :: ve :: vf :: vj :: vk :: vm :: vn :: vo :: l)) t) : W.frozen? ⟨g, 10, none⟩ = false := h.free 10
theorem Blk.c11 (h : Blk W g (List.toArray (va :: vb :: vc :: vd :: ve :: vf :: vj :: vk :: vm :: vn :: vo :: vp :: l)) t) : W.cell? ⟨g, 11, none⟩ = some vp := (h.cell 11).trans (by simp)
theorem Blk.f11 (h : Blk W g (List.toArray (va :: vb :: vc :: vd :: ve :: vf :: vj :: vk :: vm :: vn :: vo :: vp :: l)) t) : W.frozen? ⟨g, 11, none⟩ = false := h.free 11
theorem Blk.c12 (h : Blk W g (List.toArray (va :: vb :: vc :: vd :: ve :: vf :: vj :: vk :: vm :: vn :: vo :: vp :: vq :: l)) t) : W.cell? ⟨g, 12, none⟩ = some vq := (h.cell 12).trans (by simp)
theorem Blk.f12 (h : Blk W g (List.toArray (va :: vb :: vc :: vd :: ve :: vf :: vj :: vk :: vm :: vn :: vo :: vp :: vq :: l)) t) : W.frozen? ⟨g, 12, none⟩ = false := h.free 12
theorem Blk.c13 (h : Blk W g (List.toArray (va :: vb :: vc :: vd :: ve :: vf :: vj :: vk :: vm :: vn :: vo :: vp :: vq :: vr :: l)) t) : W.cell? ⟨g, 13, none⟩ = some vr := (h.cell 13).trans (by simp)
theorem Blk.f13 (h : Blk W g (List.toArray (va :: vb :: vc :: vd :: ve :: vf :: vj :: vk :: vm :: vn :: vo :: vp :: vq :: vr :: l)) t) : W.frozen? ⟨g, 13, none⟩ = false := h.free 13
theorem Blk.c14 (h : Blk W g (List.toArray (va :: vb :: vc :: vd :: ve :: vf :: vj :: vk :: vm :: vn :: vo :: vp :: vq :: vr :: vv :: l)) t) : W.cell? ⟨g, 14, none⟩ = some vv := (h.cell 14).trans (by simp)
theorem Blk.f14 (h : Blk W g (List.toArray (va :: vb :: vc :: vd :: ve :: vf :: vj :: vk :: vm :: vn :: vo :: vp :: vq :: vr :: vv :: l)) t) : W.frozen? ⟨g, 14, none⟩ = false := h.free 14
theorem Blk.c15 (h : Blk W g (List.toArray (va :: vb :: vc :: vd :: ve :: vf :: vj :: vk :: vm :: vn :: vo :: vp :: vq :: vr :: vv :: vx :: l)) t) : W.cell? ⟨g, 15, none⟩ = some vx := (h.cell 15).trans (by simp)
theorem Blk.f15 (h : Blk W g (List.toArray (va :: vb :: vc :: vd :: ve :: vf :: vj :: vk :: vm :: vn :: vo :: vp :: vq :: vr :: vv :: vx :: l)) t) : W.frozen? ⟨g, 15, none⟩ = false := h.free 15
theorem Blk.c16 (h : Blk W g (List.toArray (va :: vb :: vc :: vd :: ve :: vf :: vj :: vk :: vm :: vn :: vo :: vp :: vq :: vr :: vv :: vx :: vy :: l)) t) : W.cell? ⟨g, 16, none⟩ = some vy := (h.cell 16).trans (by simp)
theorem Blk.f16 (h : Blk W g (List.toArray (va :: vb :: vc :: vd :: ve :: vf :: vj :: vk :: vm :: vn :: vo :: vp :: vq :: vr :: vv :: vx :: vy :: l)) t) : W.frozen? ⟨g, 16, none⟩ = false := h.free 16
theorem Blk.c17 (h : Blk W g (List.toArray (va :: vb :: vc :: vd :: ve :: vf :: vj :: vk :: vm :: vn :: vo :: vp :: vq :: vr :: vv :: vx :: vy :: vz :: l)) t) : W.cell? ⟨g, 17, none⟩ = some vz := (h.cell 17).trans (by simp)
theorem Blk.f17 (h : Blk W g (List.toArray (va :: vb :: vc :: vd :: ve :: vf :: vj :: vk :: vm :: vn :: vo :: vp :: vq :: vr :: vv :: vx :: vy :: vz :: l)) t) : W.frozen? ⟨g, 17, none⟩ = false := h.free 17
theorem Blk.c18 (h : Blk W g (List.toArray (va :: vb :: vc :: vd :: ve :: vf :: vj :: vk :: vm :: vn :: vo :: vp :: vq :: vr :: vv :: vx :: vy :: vz :: ya :: l)) t) : W.cell? ⟨g, 18, none⟩ = some ya := (h.cell 18).trans (by simp)
theorem Blk.f18 (h : Blk W g (List.toArray (va :: vb :: vc :: vd :: ve :: vf :: vj :: vk :: vm :: vn :: vo :: vp :: vq :: vr :: vv :: vx :: vy :: vz :: ya :: l)) t) : W.frozen? ⟨g, 18, none⟩ = false := h.free 18
theorem Blk.c19 (h : Blk W g (List.toArray (va :: vb :: vc :: vd :: ve :: vf :: vj :: vk :: vm :: vn :: vo :: vp :: vq :: vr :: vv :: vx :: vy :: vz :: ya :: yb :: l)) t) : W.cell? ⟨g, 19, none⟩ = some yb := (h.cell 19).trans (by simp)
theorem Blk.f19 (h : Blk W g (List.toArray (va :: vb :: vc :: vd :: ve :: vf :: vj :: vk :: vm :: vn :: vo :: vp :: vq :: vr :: vv :: vx :: vy :: vz :: ya :: yb :: l)) t) : W.frozen? ⟨g, 19, none⟩ = false := h.free 19
theorem Blk.c20 (h : Blk W g (List.toArray (va :: vb :: vc :: vd :: ve :: vf :: vj :: vk :: vm :: vn :: vo :: vp :: vq :: vr :: vv :: vx :: vy :: vz :: ya :: yb :: yc :: l)) t) : W.cell? ⟨g, 20, none⟩ = some yc := (h.cell 20).trans (by simp)
theorem Blk.f20 (h : Blk W g (List.toArray (va :: vb :: vc :: vd :: ve :: vf :: vj :: vk :: vm :: vn :: vo :: vp :: vq :: vr :: vv :: vx :: vy :: vz :: ya :: yb :: yc :: l)) t) : W.frozen? ⟨g, 20, none⟩ = false := h.free 20
theorem Blk.c21 (h : Blk W g (List.toArray (va :: vb :: vc :: vd :: ve :: vf :: vj :: vk :: vm :: vn :: vo :: vp :: vq :: vr :: vv :: vx :: vy :: vz :: ya :: yb :: yc :: yd :: l)) t) : W.cell? ⟨g, 21, none⟩ = some yd := (h.cell 21).trans (by simp)
theorem Blk.f21 (h : Blk W g (List.toArray (va :: vb :: vc :: vd :: ve :: vf :: vj :: vk :: vm :: vn :: vo :: vp :: vq :: vr :: vv :: vx :: vy :: vz :: ya :: yb :: yc :: yd :: l)) t) : W.frozen? ⟨g, 21, none⟩ = false := h.free 21
theorem Blk.c22 (h : Blk W g (List.toArray (va :: vb :: vc :: vd :: ve :: vf :: vj :: vk :: vm :: vn :: vo :: vp :: vq :: vr :: vv :: vx :: vy :: vz :: ya :: yb :: yc :: yd :: ye :: l)) t) : W.cell? ⟨g, 22, none⟩ = some ye := (h.cell 22).trans (by simp)
theorem Blk.f22 (h : Blk W g (List.toArray (va :: vb :: vc :: vd :: ve :: vf :: vj :: vk :: vm :: vn :: vo :: vp :: vq :: vr :: vv :: vx :: vy :: vz :: ya :: yb :: yc :: yd :: ye :: l)) t) : W.frozen? ⟨g, 22, none⟩ = false := h.free 22
theorem Blk.c23 (h : Blk W g (List.toArray (va :: vb :: vc :: vd :: ve :: vf :: vj :: vk :: vm :: vn :: vo :: vp :: vq :: vr :: vv :: vx :: vy :: vz :: ya :: yb :: yc :: yd :: ye :: yf :: l)) t) : W.cell? ⟨g, 23, none⟩ = some yf := (h.cell 23).trans (by simp)
theorem Blk.f23 (h : Blk W g (List.toArray (va :: vb :: vc :: vd :: ve :: vf :: vj :: vk :: vm :: vn :: vo :: vp :: vq :: vr :: vv :: vx :: vy :: vz :: ya :: yb :: yc :: yd :: ye :: yf :: l)) t) : W.frozen? ⟨g, 23, none⟩ = false := h.free 23
theorem Blk.c24 (h : Blk W g (List.toArray (va :: vb :: vc :: vd :: ve :: vf :: vj :: vk :: vm :: vn :: vo :: vp :: vq :: vr :: vv :: vx :: vy :: vz :: ya :: yb :: yc :: yd :: ye :: yf :: yj :: l)) t) : W.cell? ⟨g, 24, none⟩ = some yj := (h.cell 24).trans (by simp)
theorem Blk.f24 (h : Blk W g (List.toArray (va :: vb :: vc :: vd :: ve :: vf :: vj :: vk :: vm :: vn :: vo :: vp :: vq :: vr :: vv :: vx :: vy :: vz :: ya :: yb :: yc :: yd :: ye :: yf :: yj :: l)) t) : W.frozen? ⟨g, 24, none⟩ = false := h.free 24
theorem Blk.c25 (h : Blk W g (List.toArray (va :: vb :: vc :: vd :: ve :: vf :: vj :: vk :: vm :: vn :: vo :: vp :: vq :: vr :: vv :: vx :: vy :: vz :: ya :: yb :: yc :: yd :: ye :: yf :: yj :: yk :: l)) t) : W.cell? ⟨g, 25, none⟩ = some yk := (h.cell 25).trans (by simp)
theorem Blk.f25 (h : Blk W g (List.toArray (va :: vb :: vc :: vd :: ve :: vf :: vj :: vk :: vm :: vn :: vo :: vp :: vq :: vr :: vv :: vx :: vy :: vz :: ya :: yb :: yc :: yd :: ye :: yf :: yj :: yk :: l)) t) : W.frozen? ⟨g, 25, none⟩ = false := h.free 25
theorem Blk.c26 (h : Blk W g (List.toArray (va :: vb :: vc :: vd :: ve :: vf :: vj :: vk :: vm :: vn :: vo :: vp :: vq :: vr :: vv :: vx :: vy :: vz :: ya :: yb :: yc :: yd :: ye :: yf :: yj :: yk :: ym :: l)) t) : W.cell? ⟨g, 26, none⟩ = some ym := (h.cell 26).trans (by simp)
theorem Blk.f26 (h : Blk W g (List.toArray (va :: vb :: vc :: vd :: ve :: vf :: vj :: vk :: vm :: vn :: vo :: vp :: vq :: vr :: vv :: vx :: vy :: vz :: ya :: yb :: yc :: yd :: ye :: yf :: yj :: yk :: ym :: l)) t) : W.frozen? ⟨g, 26, none⟩ = false := h.free 26
theorem Blk.c27 (h : Blk W g (List.toArray (va :: vb :: vc :: vd :: ve :: vf :: vj :: vk :: vm :: vn :: vo :: vp :: vq :: vr :: vv :: vx :: vy :: vz :: ya :: yb :: yc :: yd :: ye :: yf :: yj :: yk :: ym :: yn :: l)) t) : W.cell? ⟨g, 27, none⟩ = some yn := (h.cell 27).trans (by simp)
theorem Blk.f27 (h : Blk W g (List.toArray (va :: vb :: vc :: vd :: ve :: vf :: vj :: vk :: vm :: vn :: vo :: vp :: vq :: vr :: vv :: vx :: vy :: vz :: ya :: yb :: yc :: yd :: ye :: yf :: yj :: yk :: ym :: yn :: l)) t) : W.frozen? ⟨g, 27, none⟩ = false := h.free 27
theorem Blk.c28 (h : Blk W g (List.toArray (va :: vb :: vc :: vd :: ve :: vf :: vj :: vk :: vm :: vn :: vo :: vp :: vq :: vr :: vv :: vx :: vy :: vz :: ya :: yb :: yc :: yd :: ye :: yf :: yj :: yk :: ym :: yn :: yo :: l)) t) : W.cell? ⟨g, 28, none⟩ = some yo := (h.cell 28).trans (by simp)
theorem Blk.f28 (h : Blk W g (List.toArray (va :: vb :: vc :: vd :: ve :: vf :: vj :: vk :: vm :: vn :: vo :: vp :: vq :: vr :: vv :: vx :: vy :: vz :: ya :: yb :: yc :: yd :: ye :: yf :: yj :: yk :: ym :: yn :: yo :: l)) t) : W.frozen? ⟨g, 28, none⟩ = false := h.free 28
theorem Blk.c29 (h : Blk W g (List.toArray (va :: vb :: vc :: vd :: ve :: vf :: vj :: vk :: vm :: vn :: vo :: vp :: vq :: vr :: vv :: vx :: vy :: vz :: ya :: yb :: yc :: yd :: ye :: yf :: yj :: yk :: ym :: yn :: yo :: yp :: l)) t) : W.cell? ⟨g, 29, none⟩ = some yp := (h.cell 29).trans (by simp)
theorem Blk.f29 (h : Blk W g (List.toArray (va :: vb :: vc :: vd :: ve :: vf :: vj :: vk :: vm :: vn :: vo :: vp :: vq :: vr :: vv :: vx :: vy :: vz :: ya :: yb :: yc :: yd :: ye :: yf :: yj :: yk :: ym :: yn :: yo :: yp :: l)) t) : W.frozen? ⟨g, 29, none⟩ = false := h.free 29
theorem Blk.c30 (h : Blk W g (List.toArray (va :: vb :: vc :: vd :: ve :: vf :: vj :: vk :: vm :: vn :: vo :: vp :: vq :: vr :: vv :: vx :: vy :: vz :: ya :: yb :: yc :: yd :: ye :: yf :: yj :: yk :: ym :: yn :: yo :: yp :: yq :: l)) t) : W.cell? ⟨g, 30, none⟩ = some yq := (h.cell 30).trans (by simp)
theorem Blk.f30 (h : Blk W g (List.toArray (va :: vb :: vc :: vd :: ve :: vf :: vj :: vk :: vm :: vn :: vo :: vp :: vq :: vr :: vv :: vx :: vy :: vz :: ya :: yb :: yc :: yd :: ye :: yf :: yj :: yk :: ym :: yn :: yo :: yp :: yq :: l)) t) : W.frozen? ⟨g, 30, none⟩ = false := h.free 30
theorem Blk.c31 (h : Blk W g (List.toArray (va :: vb :: vc :: vd :: ve :: vf :: vj :: vk :: vm :: vn :: vo :: vp :: vq :: vr :: vv :: vx :: vy :: vz :: ya :: yb :: yc :: yd :: ye :: yf :: yj :: yk :: ym :: yn :: yo :: yp :: yq :: yr :: l)) t) : W.cell? ⟨g, 31, none⟩ = some yr := (h.cell 31).trans (by simp)
theorem Blk.f31 (h : Blk W g (List.toArray (va :: vb :: vc :: vd :: ve :: vf :: vj :: vk :: vm :: vn :: vo :: vp :: vq :: vr :: vv :: vx :: vy :: vz :: ya :: yb :: yc :: yd :: ye :: yf :: yj :: yk :: ym :: yn :: yo :: yp :: yq :: yr :: l)) t) : W.frozen? ⟨g, 31, none⟩ = false := h.free 31
theorem Blk.q0 (h : Blk W g (List.toArray (va :: l)) t) : ∀ W', Reg.Cls W W' → W'.cell? ⟨g, 0, none⟩ = some va := fun _ hW => (h.later hW).c0
theorem Blk.q1 (h : Blk W g (List.toArray (va :: vb :: l)) t) : ∀ W', Reg.Cls W W' → W'.cell? ⟨g, 1, none⟩ = some vb := fun _ hW => (h.later hW).c1
theorem Blk.q2 (h : Blk W g (List.toArray (va :: vb :: vc :: l)) t) : ∀ W', Reg.Cls W W' → W'.cell? ⟨g, 2, none⟩ = some vc := fun _ hW => (h.later hW).c2
theorem Blk.q3 (h : Blk W g (List.toArray (va :: vb :: vc :: vd :: l)) t) : ∀ W', Reg.Cls W W' → W'.cell? ⟨g, 3, none⟩ = some vd := fun _ hW => (h.later hW).c3
theorem Blk.q4 (h : Blk W g (List.toArray (va :: vb :: vc :: vd :: ve :: l)) t) : ∀ W', Reg.Cls W W' → W'.cell? ⟨g, 4, none⟩ = some ve := fun _ hW => (h.later hW).c4
theorem Blk.q5 (h : Blk W g (List.toArray (va :: vb :: vc :: vd :: ve :: vf :: l)) t) : ∀ W', Reg.Cls W W' → W'.cell? ⟨g, 5, none⟩ = some vf := fun _ hW => (h.later hW).c5
theorem Blk.q6 (h : Blk W g (List.toArray (va :: vb :: vc :: vd :: ve :: vf :: vj :: l)) t) : ∀ W', Reg.Cls W W' → W'.cell? ⟨g, 6, none⟩ = some vj := fun _ hW => (h.later hW).c6
theorem Blk.q7 (h : Blk W g (List.toArray (va :: vb :: vc :: vd :: ve :: vf :: vj :: vk :: l)) t) : ∀ W', Reg.Cls W W' → W'.cell? ⟨g, 7, none⟩ = some vk := fun _ hW => (h.later hW).c7
theorem Blk.q8 (h : Blk W g (List.toArray (va :: vb :: vc :: vd :: ve :: vf :: vj :: vk :: vm :: l)) t) : ∀ W', Reg.Cls W W' → W'.cell? ⟨g, 8, none⟩ = some vm := fun _ hW => (h.later hW).c8
theorem Blk.q9 (h : Blk W g (List.toArray (va :: vb :: vc :: vd :: ve :: vf :: vj :: vk :: vm :: vn :: l)) t) : ∀ W', Reg.Cls W W' → W'.cell? ⟨g, 9, none⟩ = some vn := fun _ hW => (h.later hW).c9
theorem Blk.q10 (h : Blk W g (List.toArray (va :: vb :: vc :: vd :: ve :: vf :: vj :: vk :: vm :: vn :: vo :: l)) t) : ∀ W', Reg.Cls W W' → W'.cell? ⟨g, 10, none⟩ = some vo := fun _ hW => (h.later hW).c10
theorem Blk.q11 (h : Blk W g (List.toArray (va :: vb :: vc :: vd :: ve :: vf :: vj :: vk :: vm :: vn :: vo :: vp :: l)) t) : ∀ W', Reg.Cls W W' → W'.cell? ⟨g, 11, none⟩ = some vp := fun _ hW => (h.later hW).c11
theorem Blk.q12 (h : Blk W g (List.toArray (va :: vb :: vc :: vd :: ve :: vf :: vj :: vk :: vm :: vn :: vo :: vp :: vq :: l)) t) : ∀ W', Reg.Cls W W' → W'.cell? ⟨g, 12, none⟩ = some vq := fun _ hW => (h.later hW).c12
theorem Blk.q13 (h : Blk W g (List.toArray (va :: vb :: vc :: vd :: ve :: vf :: vj :: vk :: vm :: vn :: vo :: vp :: vq :: vr :: l)) t) : ∀ W', Reg.Cls W W' → W'.cell? ⟨g, 13, none⟩ = some vr := fun _ hW => (h.later hW).c13
theorem Blk.q14 (h : Blk W g (List.toArray (va :: vb :: vc :: vd :: ve :: vf :: vj :: vk :: vm :: vn :: vo :: vp :: vq :: vr :: vv :: l)) t) : ∀ W', Reg.Cls W W' → W'.cell? ⟨g, 14, none⟩ = some vv := fun _ hW => (h.later hW).c14
theorem Blk.q15 (h : Blk W g (List.toArray (va :: vb :: vc :: vd :: ve :: vf :: vj :: vk :: vm :: vn :: vo :: vp :: vq :: vr :: vv :: vx :: l)) t) : ∀ W', Reg.Cls W W' → W'.cell? ⟨g, 15, none⟩ = some vx := fun _ hW => (h.later hW).c15
theorem Blk.q16 (h : Blk W g (List.toArray (va :: vb :: vc :: vd :: ve :: vf :: vj :: vk :: vm :: vn :: vo :: vp :: vq :: vr :: vv :: vx :: vy :: l)) t) : ∀ W', Reg.Cls W W' → W'.cell? ⟨g, 16, none⟩ = some vy := fun _ hW => (h.later hW).c16
theorem Blk.q17 (h : Blk W g (List.toArray (va :: vb :: vc :: vd :: ve :: vf :: vj :: vk :: vm :: vn :: vo :: vp :: vq :: vr :: vv :: vx :: vy :: vz :: l)) t) : ∀ W', Reg.Cls W W' → W'.cell? ⟨g, 17, none⟩ = some vz := fun _ hW => (h.later hW).c17
theorem Blk.q18 (h : Blk W g (List.toArray (va :: vb :: vc :: vd :: ve :: vf :: vj :: vk :: vm :: vn :: vo :: vp :: vq :: vr :: vv :: vx :: vy :: vz :: ya :: l)) t) : ∀ W', Reg.Cls W W' → W'.cell? ⟨g, 18, none⟩ = some ya := fun _ hW => (h.later hW).c18
theorem Blk.q19 (h : Blk W g (List.toArray (va :: vb :: vc :: vd :: ve :: vf :: vj :: vk :: vm :: vn :: vo :: vp :: vq :: vr :: vv :: vx :: vy :: vz :: ya :: yb :: l)) t) : ∀ W', Reg.Cls W W' → W'.cell? ⟨g, 19, none⟩ = some yb := fun _ hW => (h.later hW).c19
theorem Blk.q20 (h : Blk W g (List.toArray (va :: vb :: vc :: vd :: ve :: vf :: vj :: vk :: vm :: vn :: vo :: vp :: vq :: vr :: vv :: vx :: vy :: vz :: ya :: yb :: yc :: l)) t) : ∀ W', Reg.Cls W W' → W'.cell? ⟨g, 20, none⟩ = some yc := fun _ hW => (h.later hW).c20
theorem Blk.q21 (h : Blk W g (List.toArray (va :: vb :: vc :: vd :: ve :: vf :: vj :: vk :: vm :: vn :: vo :: vp :: vq :: vr :: vv :: vx :: vy :: vz :: ya :: yb :: yc :: yd :: l)) t) : ∀ W', Reg.Cls W W' → W'.cell? ⟨g, 21, none⟩ = some yd := fun _ hW => (h.later hW).c21
theorem Blk.q22 (h : Blk W g (List.toArray (va :: vb :: vc :: vd :: ve :: vf :: vj :: vk :: vm :: vn :: vo :: vp :: vq :: vr :: vv :: vx :: vy :: vz :: ya :: yb :: yc :: yd :: ye :: l)) t) : ∀ W', Reg.Cls W W' → W'.cell? ⟨g, 22, none⟩ = some ye := fun _ hW => (h.later hW).c22
theorem Blk.q23 (h : Blk W g (List.toArray (va :: vb :: vc :: vd :: ve :: vf :: vj :: vk :: vm :: vn :: vo :: vp :: vq :: vr :: vv :: vx :: vy :: vz :: ya :: yb :: yc :: yd :: ye :: yf :: l)) t) : ∀ W', Reg.Cls W W' → W'.cell? ⟨g, 23, none⟩ = some yf := fun _ hW => (h.later hW).c23
theorem Blk.q24 (h : Blk W g (List.toArray (va :: vb :: vc :: vd :: ve :: vf :: vj :: vk :: vm :: vn :: vo :: vp :: vq :: vr :: vv :: vx :: vy :: vz :: ya :: yb :: yc :: yd :: ye :: yf :: yj :: l)) t) : ∀ W', Reg.Cls W W' → W'.cell? ⟨g, 24, none⟩ = some yj := fun _ hW => (h.later hW).c24
theorem Blk.q25 (h : Blk W g (List.toArray (va :: vb :: vc :: vd :: ve :: vf :: vj :: vk :: vm :: vn :: vo :: vp :: vq :: vr :: vv :: vx :: vy :: vz :: ya :: yb :: yc :: yd :: ye :: yf :: yj :: yk :: l)) t) : ∀ W', Reg.Cls W W' → W'.cell? ⟨g, 25, none⟩ = some yk := fun _ hW => (h.later hW).c25
theorem Blk.q26 (h : Blk W g (List.toArray (va :: vb :: vc :: vd :: ve :: vf :: vj :: vk :: vm :: vn :: vo :: vp :: vq :: vr :: vv :: vx :: vy :: vz :: ya :: yb :: yc :: yd :: ye :: yf :: yj :: yk :: ym :: l)) t) : ∀ W', Reg.Cls W W' → W'.cell? ⟨g, 26, none⟩ = some ym := fun _ hW => (h.later hW).c26
theorem Blk.q27 (h : Blk W g (List.toArray (va :: vb :: vc :: vd :: ve :: vf :: vj :: vk :: vm :: vn :: vo :: vp :: vq :: vr :: vv :: vx :: vy :: vz :: ya :: yb :: yc :: yd :: ye :: yf :: yj :: yk :: ym :: yn :: l)) t) : ∀ W', Reg.Cls W W' → W'.cell? ⟨g, 27, none⟩ = some yn := fun _ hW => (h.later hW).c27
theorem Blk.q28 (h : Blk W g (List.toArray (va :: vb :: vc :: vd :: ve :: vf :: vj :: vk :: vm :: vn :: vo :: vp :: vq :: vr :: vv :: vx :: vy :: vz :: ya :: yb :: yc :: yd :: ye :: yf :: yj :: yk :: ym :: yn :: yo :: l)) t) : ∀ W', Reg.Cls W W' → W'.cell? ⟨g, 28, none⟩ = some yo := fun _ hW => (h.later hW).c28
theorem Blk.q29 (h : Blk W g (List.toArray (va :: vb :: vc :: vd :: ve :: vf :: vj :: vk :: vm :: vn :: vo :: vp :: vq :: vr :: vv :: vx :: vy :: vz :: ya :: yb :: yc :: yd :: ye :: yf :: yj :: yk :: ym :: yn :: yo :: yp :: l)) t) : ∀ W', Reg.Cls W W' → W'.cell? ⟨g, 29, none⟩ = some yp := fun _ hW => (h.later hW).c29
theorem Blk.q30 (h : Blk W g (List.toArray (va :: vb :: vc :: vd :: ve :: vf :: vj :: vk :: vm :: vn :: vo :: vp :: vq :: vr :: vv :: vx :: vy :: vz :: ya :: yb :: yc :: yd :: ye :: yf :: yj :: yk :: ym :: yn :: yo :: yp :: yq :: l)) t) : ∀ W', Reg.Cls W W' → W'.cell? ⟨g, 30, none⟩ = some yq := fun _ hW => (h.later hW).c30
theorem Blk.q31 (h : Blk W g (List.toArray (va :: vb :: vc :: vd :: ve :: vf :: vj :: vk :: vm :: vn :: vo :: vp :: vq :: vr :: vv :: vx :: vy :: vz :: ya :: yb :: yc :: yd :: ye :: yf :: yj :: yk :: ym :: yn :: yo :: yp :: yq :: yr :: l)) t) : ∀ W', Reg.Cls W W' → W'.cell? ⟨g, 31, none⟩ = some yr := fun _ hW => (h.later hW).c31
end
end Go.Proofs.Ytmdomlfkehhleaa.Bk
