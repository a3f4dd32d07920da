/- A clean semantics of the model's memory: blocks, values related to the model's own, and what is kept. -/
import Derived.Laws.Sem
import Derived.Laws.World
import Derived.Below
import Derived.Orders
import Derived.LoopN
import Derived.Laws.StructEq
import Derived.Laws.BytesString
import Derived.Laws.Append
import Derived.Lib.UnsafeStr
set_option linter.unusedVariables false
set_option linter.unusedSimpArgs false

namespace Go.Proofs.YtcfjimhbachmlaaGreatDoor.E
open Go

/-- a capacity that is not known -/
def unk : Nat := 18446744073709551616

/-- a block, as far as it is known: its first cells, the type of its elements; `w`: it may be written; `fz`: some of it may be frozen -/
inductive Blk where
  | cells (vs : List Value) (e : TypeId) (w fz : Bool)
  | map (es : List MapEntry) (clock : Nat) (w : Bool)

def Blk.w : Blk → Bool
  | .cells _ _ w _ => w
  | .map _ _ w => w

/-- `used`: the numbers that have been given out (a ghost: nothing is computed of it) -/
structure Heap where
  get : Nat → Option Blk
  nxt : Nat
  used : Nat → Prop

def Heap.set (h : Heap) (id : Nat) (b : Blk) : Heap := { get := fun i => if i = id then some b else h.get i, nxt := if id < h.nxt then h.nxt else id + 1, used := fun i => i = id ∨ h.used i }
def Heap.kill (h : Heap) (id : Nat) : Heap := { get := fun i => if i = id then none else h.get i, nxt := h.nxt, used := h.used }
/-- a number that is given out for nothing -/
def Heap.ghost (h : Heap) (id : Nat) : Heap := { h with nxt := if id < h.nxt then h.nxt else id + 1, used := fun i => i = id ∨ h.used i }
def Heap.reserve (h : Heap) (n : Nat) : Heap := { h with nxt := h.nxt + n }

theorem Heap.get_set (h : Heap) (id i : Nat) (b : Blk) : (h.set id b).get i = if i = id then some b else h.get i := rfl
theorem Heap.get_set_same (h : Heap) (id : Nat) (b : Blk) : (h.set id b).get id = some b := by simp [Heap.set]
theorem Heap.get_set_ne (h : Heap) {id i : Nat} (b : Blk) (hi : i ≠ id) : (h.set id b).get i = h.get i := by simp [Heap.set, hi]
theorem Heap.get_kill (h : Heap) (id i : Nat) : (h.kill id).get i = if i = id then none else h.get i := rfl

def Heap.live (h : Heap) (id : Nat) : Prop := h.get id ≠ none

/-- where the known blocks lie in the world; `cap`: of a block that append has made, how many elements it has room for -/
structure Mp where
  to : Nat → Nat
  cap : Nat → Nat

instance : CoeFun Mp fun _ => Nat → Nat := ⟨Mp.to⟩

/-! values -/

structure AR (H : Heap) (φ : Mp) (a a' : Addr) : Prop where
  old : H.used a.block
  loc : H.live a.block → a'.block = φ a.block ∧ a'.off = a.off ∧ a'.spot = a.spot

def CapR (H : Heap) (φ : Mp) (a : Addr) (n c c' : Nat) : Prop := n ≤ c' ∧ ((c < unk ∧ c = c') ∨ (c = unk ∧ (H.live a.block → a.off = 0 → c' ≤ φ.cap a.block)))

inductive VR (H : Heap) (φ : Mp) : Value → Value → Prop where
  | bool (b : Bool) : VR H φ (.bool b) (.bool b)
  | int (k : IntKind) (n : Int) : VR H φ (.int k n) (.int k n)
  | float (k : FloatKind) (n : Nat) : VR H φ (.float k n) (.float k n)
  | complex (k : FloatKind) (n m : Nat) : VR H φ (.complex k n m) (.complex k n m)
  | string (s : ByteArray) : VR H φ (.string s) (.string s)
  | ptr0 : VR H φ (.pointer none) (.pointer none)
  | ptr {a a' : Addr} (h : AR H φ a a') : VR H φ (.pointer (some a)) (.pointer (some a'))
  | slice0 (n c : Nat) : VR H φ (.slice none n c) (.slice none n c)
  | slice {a a' : Addr} {n c c' : Nat} (h : AR H φ a a') (hc : CapR H φ a n c c') : VR H φ (.slice (some a) n c) (.slice (some a') n c')
  | map0 : VR H φ (.map none) (.map none)
  | map {r r' : Nat} (ho : H.used r) (h : H.live r → r' = φ r) : VR H φ (.map (some r)) (.map (some r'))
  | chan0 : VR H φ (.chan none) (.chan none)
  | chan {r r' : Nat} (ho : H.used r) (h : H.live r → r' = φ r) : VR H φ (.chan (some r)) (.chan (some r'))
  | func (fn : Fn) {xs xs' ys ys' : Array Value} (hx : xs.size = xs'.size) (hy : ys.size = ys'.size)
      (h : ∀ i (h : i < xs.size) (h' : i < xs'.size), VR H φ xs[i] xs'[i]) (g : ∀ i (h : i < ys.size) (h' : i < ys'.size), VR H φ ys[i] ys'[i]) :
      VR H φ (.func fn xs ys) (.func fn xs' ys')
  | nilFunc : VR H φ .nilFunc .nilFunc
  | nilIface : VR H φ .nilIface .nilIface
  | iface (t : TypeId) {v v' : Value} (h : VR H φ v v') : VR H φ (.iface t v) (.iface t v')
  | agg {xs xs' : Array Value} (hx : xs.size = xs'.size) (h : ∀ i (h : i < xs.size) (h' : i < xs'.size), VR H φ xs[i] xs'[i]) : VR H φ (.agg xs) (.agg xs')
  | tuple {xs xs' : Array Value} (hx : xs.size = xs'.size) (h : ∀ i (h : i < xs.size) (h' : i < xs'.size), VR H φ xs[i] xs'[i]) : VR H φ (.tuple xs) (.tuple xs')

/-- lists of values, related one by one -/
def LR (H : Heap) (φ : Mp) (xs ys : List Value) : Prop := xs.length = ys.length ∧ ∀ i (h : i < xs.length) (h' : i < ys.length), VR H φ xs[i] ys[i]

def ArrR (H : Heap) (φ : Mp) (xs ys : Array Value) : Prop := xs.size = ys.size ∧ ∀ i (h : i < xs.size) (h' : i < ys.size), VR H φ xs[i] ys[i]

section
variable {H : Heap} {φ : Mp}

theorem LR.nil : LR H φ [] [] := ⟨rfl, fun i h => by simp at h⟩
theorem LR.cons {x y : Value} {xs ys : List Value} (h : VR H φ x y) (hs : LR H φ xs ys) : LR H φ (x :: xs) (y :: ys) := by
  refine ⟨by simp [hs.1], fun i hi hi' => ?_⟩
  cases i with
  | zero => exact h
  | succ i => exact hs.2 i (by simpa using hi) (by simpa using hi')
theorem LR.cons_inv {x : Value} {xs zs : List Value} (h : LR H φ (x :: xs) zs) : ∃ y ys, zs = y :: ys ∧ VR H φ x y ∧ LR H φ xs ys := by
  cases zs with
  | nil => have := h.1; simp at this
  | cons y ys =>
    refine ⟨y, ys, rfl, h.2 0 (by simp) (by simp), by simpa using h.1, fun i hi hi' => ?_⟩
    exact h.2 (i + 1) (by simpa using hi) (by simpa using hi')
theorem LR.nil_inv {zs : List Value} (h : LR H φ [] zs) : zs = [] := by
  cases zs with
  | nil => rfl
  | cons y ys => have := h.1; simp at this
theorem LR.append {xs ys xs' ys' : List Value} (h : LR H φ xs ys) (h' : LR H φ xs' ys') : LR H φ (xs ++ xs') (ys ++ ys') := by
  induction xs generalizing ys with
  | nil => rw [h.nil_inv]; exact h'
  | cons x xs ih =>
    obtain ⟨y, ys1, rfl, hv, hs⟩ := h.cons_inv
    exact LR.cons hv (ih hs)
theorem LR.drop {xs ys : List Value} (n : Nat) (h : LR H φ xs ys) : LR H φ (xs.drop n) (ys.drop n) := by
  refine ⟨by simp [h.1], fun i hi hi' => ?_⟩
  simp only [List.getElem_drop]
  exact h.2 _ _ _
theorem LR.take {xs ys : List Value} (n : Nat) (h : LR H φ xs ys) : LR H φ (xs.take n) (ys.take n) := by
  refine ⟨by simp [h.1], fun i hi hi' => ?_⟩
  simp only [List.getElem_take]
  exact h.2 _ _ _
theorem LR.set {xs ys : List Value} {x y : Value} (n : Nat) (h : LR H φ xs ys) (hv : VR H φ x y) : LR H φ (xs.set n x) (ys.set n y) := by
  refine ⟨by simp [h.1], fun i hi hi' => ?_⟩
  simp only [List.getElem_set]
  split
  · exact hv
  · exact h.2 _ _ _
theorem ArrR.toList {xs ys : Array Value} (h : ArrR H φ xs ys) : LR H φ xs.toList ys.toList := ⟨by simpa using h.1, fun i hi hi' => by simpa using h.2 i (by simpa using hi) (by simpa using hi')⟩
theorem LR.toArr {xs ys : List Value} (h : LR H φ xs ys) : ArrR H φ xs.toArray ys.toArray := ⟨by simpa using h.1, fun i hi hi' => by simpa using h.2 i (by simpa using hi) (by simpa using hi')⟩
theorem ArrR.ofList {xs ys : Array Value} (h : LR H φ xs.toList ys.toList) : ArrR H φ xs ys := by
  have := h.toArr
  simpa using this
theorem ArrR.append {xs ys xs' ys' : Array Value} (h : ArrR H φ xs ys) (h' : ArrR H φ xs' ys') : ArrR H φ (xs ++ xs') (ys ++ ys') := by
  apply ArrR.ofList
  simp only [Array.toList_append]
  exact h.toList.append h'.toList
theorem ArrR.push {xs ys : Array Value} {x y : Value} (h : ArrR H φ xs ys) (hv : VR H φ x y) : ArrR H φ (xs.push x) (ys.push y) := by
  apply ArrR.ofList
  simp only [Array.toList_push]
  exact h.toList.append (LR.cons hv LR.nil)


/-- a later heap and map: what was known and is still alive is where it was -/
structure Later (H : Heap) (φ : Mp) (H' : Heap) (φ' : Mp) : Prop where
  nxt : H.nxt ≤ H'.nxt
  used : ∀ i, H.used i → H'.used i
  live : ∀ i, H.used i → H'.live i → H.live i
  map : ∀ i, H.used i → H'.live i → φ' i = φ i
  cap : ∀ i, H.used i → H'.live i → φ'.cap i = φ.cap i

variable {H' H'' : Heap} {φ' φ'' : Mp}

theorem Later.refl (H : Heap) (φ : Mp) : Later H φ H φ := ⟨Nat.le_refl _, fun _ h => h, fun _ _ h => h, fun _ _ _ => rfl, fun _ _ _ => rfl⟩
theorem Later.trans (h : Later H φ H' φ') (g : Later H' φ' H'' φ'') : Later H φ H'' φ'' :=
  ⟨Nat.le_trans h.nxt g.nxt, fun i hi => g.used i (h.used i hi), fun i hi hl => h.live i hi (g.live i (h.used i hi) hl),
   fun i hi hl => by rw [g.map i (h.used i hi) hl]; exact h.map i hi (g.live i (h.used i hi) hl),
   fun i hi hl => by rw [g.cap i (h.used i hi) hl]; exact h.cap i hi (g.live i (h.used i hi) hl)⟩

theorem CapR.mono (l : Later H φ H' φ') {a : Addr} {n c c' : Nat} (hu : H.used a.block) (h : CapR H φ a n c c') : CapR H' φ' a n c c' :=
  ⟨h.1, h.2.imp id fun ⟨h1, h2⟩ => ⟨h1, fun hl h0 => by rw [l.cap _ hu hl]; exact h2 (l.live _ hu hl) h0⟩⟩

theorem AR.mono (l : Later H φ H' φ') {a a' : Addr} (h : AR H φ a a') : AR H' φ' a a' :=
  ⟨l.used _ h.old, fun hl => by rw [l.map _ h.old hl]; exact h.loc (l.live _ h.old hl)⟩

theorem VR.mono (l : Later H φ H' φ') {v v' : Value} (h : VR H φ v v') : VR H' φ' v v' := by
  induction h with
  | bool b => exact .bool b
  | int k n => exact .int k n
  | float k n => exact .float k n
  | complex k n m => exact .complex k n m
  | string s => exact .string s
  | ptr0 => exact .ptr0
  | ptr h => exact .ptr (h.mono l)
  | slice0 n c => exact .slice0 n c
  | slice h hc => exact .slice (h.mono l) (hc.mono l h.old)
  | map0 => exact .map0
  | map ho h => exact .map (l.used _ ho) fun hl => by rw [l.map _ ho hl]; exact h (l.live _ ho hl)
  | chan0 => exact .chan0
  | chan ho h => exact .chan (l.used _ ho) fun hl => by rw [l.map _ ho hl]; exact h (l.live _ ho hl)
  | func fn hx hy _ _ ih ig => exact .func fn hx hy (fun i h h' => ih i h h') (fun i h h' => ig i h h')
  | nilFunc => exact .nilFunc
  | nilIface => exact .nilIface
  | iface t _ ih => exact .iface t ih
  | agg hx _ ih => exact .agg hx (fun i h h' => ih i h h')
  | tuple hx _ ih => exact .tuple hx (fun i h h' => ih i h h')

theorem LR.mono (l : Later H φ H' φ') {xs ys : List Value} (h : LR H φ xs ys) : LR H' φ' xs ys := ⟨h.1, fun i a b => (h.2 i a b).mono l⟩
theorem ArrR.mono (l : Later H φ H' φ') {xs ys : Array Value} (h : ArrR H φ xs ys) : ArrR H' φ' xs ys := ⟨h.1, fun i a b => (h.2 i a b).mono l⟩

theorem VR.cells {v v' : Value} (h : VR H φ v v') : ArrR H φ v.cells v'.cells := by
  have one : ∀ {x y : Value}, VR H φ x y → ArrR H φ #[x] #[y] := fun {x y} hv => ArrR.ofList (by simpa using LR.cons hv LR.nil)
  cases h with
  | agg hx h => exact ⟨hx, h⟩
  | _ => exact one (by constructor <;> assumption)

end

/-- a cell of which nothing is known -/
def isHole : Value → Bool
  | .tuple _ => true
  | _ => false

/-- what is known of a cell -/
def CR (H : Heap) (φ : Mp) (v v' : Value) : Prop := isHole v = true ∨ VR H φ v v'

theorem CR.mono {H H' : Heap} {φ φ' : Mp} (l : Later H φ H' φ') {v v' : Value} (h : CR H φ v v') : CR H' φ' v v' := h.imp id fun h => h.mono l

/-- a cell, if it is known -/
def nh : Option Value → Option Value
  | some v => bif isHole v then none else some v
  | none => none

theorem nh_some {o : Option Value} {v : Value} (h : nh o = some v) : o = some v ∧ isHole v = false := by
  cases o with
  | none => simp [nh] at h
  | some x =>
    unfold nh at h
    cases hx : isHole x with
    | true => simp [hx] at h
    | false => simp only [hx, cond_false, Option.some.injEq] at h; subst h; exact ⟨rfl, hx⟩

theorem nh_of {v : Value} (h : isHole v = false) : nh (some v) = some v := by simp [nh, h]

/-- what a block of the world has to do with a block as it is known -/
def BR (P : Program) (H : Heap) (φ : Mp) (w : World) (k q : Nat) : Blk → Prop
  | .cells vs e wr fz => ∃ c fr, w.heap[k]? = some (.cells c e fr) ∧ vs.length ≤ c.size ∧ (∀ i (h : i < vs.length) (h' : i < c.size), CR H φ vs[i] c[i]) ∧ (fz = false → fr.2 ≤ fr.1) ∧ (wr = true → fz = false) ∧ q * P.cellsOf e ≤ c.size
  | .map es clock _ => ∃ es', w.heap[k]? = some (.map es' clock) ∧ es.length = es'.size ∧ ∀ i (h : i < es.length) (h' : i < es'.size), VR H φ es[i].key es'[i].key ∧ VR H φ es[i].val es'[i].val ∧ es[i].born = es'[i].born

/-- the heap as it is known, and the world: `B` blocks were there when it began, of which none is written -/
structure HR (B : Nat) (P : Program) (H : Heap) (φ : Mp) (w : World) : Prop where
  size : B ≤ w.heap.size
  lt : ∀ i, H.used i → i < H.nxt
  liv : ∀ i, H.live i → H.used i
  glob : ∀ i, i < P.globals.size → H.used i
  gid : ∀ i, i < P.globals.size → φ i = i
  blk : ∀ i b, H.get i = some b → BR P H φ w (φ i) (φ.cap i) b
  own : ∀ i b, H.get i = some b → b.w = true → B ≤ φ i
  inj : ∀ i j, H.live i → H.live j → φ i = φ j → i = j
  dead : H.used P.globals.size ∧ ¬ H.live P.globals.size

/-- a later world -/
structure Ext (H : Heap) (φ : Mp) (w : World) (H' : Heap) (φ' : Mp) (w' : World) : Prop extends Later H φ H' φ' where
  os : w'.os = w.os
  tape : w'.tape = w.tape
  output : w'.output = w.output
  size : w.heap.size ≤ w'.heap.size
  kept : ∀ k, k < w.heap.size → (∀ i b, H.get i = some b → b.w = true → φ i ≠ k) → w'.heap[k]? = w.heap[k]?
  mine : ∀ i b, H'.get i = some b → (∃ c, H.get i = some c ∧ φ' i = φ i ∧ (b.w = true → c.w = true)) ∨ w.heap.size ≤ φ' i ∨ ∃ j c, H.get j = some c ∧ c.w = true ∧ φ j = φ' i

theorem Ext.refl (H : Heap) (φ : Mp) (w : World) : Ext H φ w H φ w :=
  { Later.refl H φ with os := rfl, tape := rfl, output := rfl, size := Nat.le_refl _, kept := fun _ _ _ => rfl, mine := fun _ b h => .inl ⟨b, h, rfl, id⟩ }

theorem Ext.trans {H H' H'' : Heap} {φ φ' φ'' : Mp} {w w' w'' : World} (h : Ext H φ w H' φ' w') (g : Ext H' φ' w' H'' φ'' w'') : Ext H φ w H'' φ'' w'' :=
  { Later.trans h.toLater g.toLater with
    os := g.os.trans h.os, tape := g.tape.trans h.tape, output := g.output.trans h.output, size := Nat.le_trans h.size g.size
    kept := fun k hk hn => by
      rw [g.kept k (Nat.lt_of_lt_of_le hk h.size) ?_, h.kept k hk hn]
      intro i b hi hb he
      rcases h.mine i b hi with ⟨c, hc, hm, hw⟩ | hm | ⟨j, c, hj, hc, hjc⟩
      · exact hn i c hc (hw hb) (hm ▸ he)
      · omega
      · exact hn j c hj hc (hjc.trans he)
    mine := fun i b hi => by
      rcases g.mine i b hi with ⟨c, hc, hm, hw⟩ | hm | ⟨j, c, hj, hc, hjc⟩
      · rcases h.mine i c hc with ⟨c', hc', hm', hw'⟩ | hm' | ⟨j', c', hj', hc', hjc'⟩
        · exact .inl ⟨c', hc', hm.trans hm', fun hb => hw' (hw hb)⟩
        · exact .inr (.inl (by rw [hm]; exact hm'))
        · exact .inr (.inr ⟨j', c', hj', hc', hjc'.trans hm.symm⟩)
      · exact .inr (.inl (Nat.le_trans h.size hm))
      · rcases h.mine j c hj with ⟨c', hc', hm', hw'⟩ | hm' | ⟨j', c', hj', hc', hjc'⟩
        · exact .inr (.inr ⟨j, c', hc', hw' hc, by rw [← hm']; exact hjc⟩)
        · exact .inr (.inl (by rw [← hjc]; exact hm'))
        · exact .inr (.inr ⟨j', c', hj', hc', hjc'.trans hjc⟩) }

/-- below the blocks that were there nothing has turned -/
theorem Ext.below {B : Nat} {P : Program} {H H' : Heap} {φ φ' : Mp} {w w' : World} (hr : HR B P H φ w) (h : Ext H φ w H' φ' w') : RowKit.Below B w w' :=
  ⟨h.os, h.tape, h.output, h.size, fun k hk => h.kept k (Nat.lt_of_lt_of_le hk hr.size) fun i b hi hb he => by have := hr.own i b hi hb; omega⟩

end Go.Proofs.YtcfjimhbachmlaaGreatDoor.E

/- The clean semantics: reading, writing and making cells, against the model's own operations. -/
namespace Go.Proofs.YtcfjimhbachmlaaGreatDoor.E
open Go

def upd (φ : Mp) (id k : Nat) (q : Nat := 0) : Mp := { to := fun i => if i = id then k else φ i, cap := fun i => if i = id then q else φ.cap i }

variable {B : Nat} {H : Heap} {φ : Mp} {w : World} {P : Program}

theorem BR.lt {b : Blk} {k q : Nat} (h : BR P H φ w k q b) : k < w.heap.size := by
  cases b with
  | cells vs e wr fz =>
    obtain ⟨c, fr, hc, _⟩ := h
    rcases Nat.lt_or_ge k w.heap.size with h' | h'
    · exact h'
    · rw [Array.getElem?_eq_none h'] at hc; simp at hc
  | map es clock wr =>
    obtain ⟨c, hc, _⟩ := h
    rcases Nat.lt_or_ge k w.heap.size with h' | h'
    · exact h'
    · rw [Array.getElem?_eq_none h'] at hc; simp at hc

/-- a block that is the same in a later world is known as before -/
theorem BR.mono {H' : Heap} {φ' : Mp} {w' : World} {b : Blk} {k q : Nat} (l : Later H φ H' φ') (hk : w'.heap[k]? = w.heap[k]?) (h : BR P H φ w k q b) : BR P H' φ' w' k q b := by
  cases b with
  | cells vs e wr fz =>
    obtain ⟨c, fr, hc, h1, h2, h3⟩ := h
    exact ⟨c, fr, by rw [hk]; exact hc, h1, fun i a b => (h2 i a b).mono l, h3⟩
  | map es clock wr =>
    obtain ⟨es', hc, h1, h2⟩ := h
    exact ⟨es', by rw [hk]; exact hc, h1, fun i a b => ⟨(h2 i a b).1.mono l, (h2 i a b).2.1.mono l, (h2 i a b).2.2⟩⟩

theorem later_set {id k q : Nat} {b : Blk} (hu : ¬ H.used id) : Later H φ (H.set id b) (upd φ id k q) := by
  refine ⟨?_, fun i hi => .inr hi, fun i hi hl => ?_, fun i hi _ => ?_, fun i hi _ => ?_⟩
  · simp only [Heap.set]; split <;> omega
  · have : i ≠ id := fun e => hu (e ▸ hi)
    unfold Heap.live at *
    rwa [Heap.get_set_ne _ _ this] at hl
  · have : i ≠ id := fun e => hu (e ▸ hi)
    simp [upd, this]
  · have : i ≠ id := fun e => hu (e ▸ hi)
    simp [upd, this]

theorem HR.lt_size (hr : HR B P H φ w) {i : Nat} (h : H.get i ≠ none) : φ i < w.heap.size := by
  cases hg : H.get i with
  | none => exact absurd hg h
  | some b => exact (hr.blk i b hg).lt

/-- the number that stands for nothing goes on standing for nothing -/
theorem HR.dead_set (hr : HR B P H φ w) {id : Nat} {b : Blk} (h : P.globals.size ≠ id) : (H.set id b).used P.globals.size ∧ ¬ (H.set id b).live P.globals.size :=
  ⟨.inr hr.dead.1, by unfold Heap.live; rw [Heap.get_set_ne _ _ h]; exact hr.dead.2⟩

/-- a new block of the world, known under a new number -/
theorem HR.alloc (hr : HR B P H φ w) {id q : Nat} (hu : ¬ H.used id) {o : Obj} {b : Blk}
    (hb : BR P (H.set id b) (upd φ id w.heap.size q) (w.alloc o) w.heap.size q b) :
    HR B P (H.set id b) (upd φ id w.heap.size q) (w.alloc o) ∧ Ext H φ w (H.set id b) (upd φ id w.heap.size q) (w.alloc o) := by
  have hl : Later H φ (H.set id b) (upd φ id w.heap.size q) := later_set hu
  have hold : ∀ k, k < w.heap.size → (w.alloc o).heap[k]? = w.heap[k]? := fun k hk => RowKit.Below.heap_alloc w o k hk
  have hne : ∀ i, H.live i → i ≠ id := fun i hi e => hu (e ▸ hr.liv i hi)
  have hlive : ∀ {i c}, H.get i = some c → H.live i := fun {i c} h => by unfold Heap.live; rw [h]; simp
  refine ⟨⟨?_, ?_, ?_, ?_, ?_, ?_, ?_, ?_, hr.dead_set fun e => hu (e ▸ hr.dead.1)⟩, ⟨hl, rfl, rfl, rfl, ?_, ?_, ?_⟩⟩
  · rw [World.size_alloc]; exact Nat.le_succ_of_le hr.size
  · intro i hi
    simp only [Heap.set]
    rcases hi with rfl | hi
    · split <;> omega
    · have := hr.lt i hi; split <;> omega
  · intro i hi
    by_cases e : i = id
    · exact .inl e
    · unfold Heap.live at hi; rw [Heap.get_set_ne _ _ e] at hi; exact .inr (hr.liv i hi)
  · intro i hi; exact .inr (hr.glob i hi)
  · intro i hi
    have : i ≠ id := fun e => hu (e ▸ hr.glob i hi)
    simp [upd, this]; exact hr.gid i hi
  · intro i c hi
    by_cases e : i = id
    · subst e; rw [Heap.get_set_same] at hi; cases hi; simpa [upd] using hb
    · rw [Heap.get_set_ne _ _ e] at hi
      have hbr := hr.blk i c hi
      simp only [upd, e, if_false]
      exact hbr.mono hl (hold _ hbr.lt)
  · intro i c hi hw
    by_cases e : i = id
    · simp [upd, e]; exact hr.size
    · rw [Heap.get_set_ne _ _ e] at hi
      simp only [upd, e, if_false]; exact hr.own i c hi hw
  · intro i j hi hj he
    unfold Heap.live at hi hj
    by_cases ei : i = id <;> by_cases ej : j = id
    · rw [ei, ej]
    · rw [Heap.get_set_ne _ _ ej] at hj
      have := hr.lt_size hj
      simp [upd, ei, ej] at he; omega
    · rw [Heap.get_set_ne _ _ ei] at hi
      have := hr.lt_size hi
      simp [upd, ei, ej] at he; omega
    · rw [Heap.get_set_ne _ _ ei] at hi
      rw [Heap.get_set_ne _ _ ej] at hj
      simp [upd, ei, ej] at he
      exact hr.inj i j hi hj he
  · rw [World.size_alloc]; omega
  · exact fun k hk _ => hold k hk
  · intro i c hi
    by_cases e : i = id
    · right; left; simp [upd, e]
    · rw [Heap.get_set_ne _ _ e] at hi
      exact .inl ⟨c, hi, by simp [upd, e], fun h => h⟩

/-- a draw turns nothing -/
theorem HR.drew (hr : HR B P H φ w) : HR B P H φ w.drew :=
  ⟨hr.size, hr.lt, hr.liv, hr.glob, hr.gid, fun i b hi => (hr.blk i b hi).mono (Later.refl _ _) rfl, hr.own, hr.inj, hr.dead⟩
theorem ext_drew : Ext H φ w H φ w.drew := { Ext.refl H φ w with }

/-- a block of the world that is written, known under its number -/
theorem HR.write (hr : HR B P H φ w) {id : Nat} {b0 b : Blk} (hg : H.get id = some b0) (hw0 : b0.w = true) {w' : World}
    (hos : w'.os = w.os) (htape : w'.tape = w.tape) (hout : w'.output = w.output) (hsize : w'.heap.size = w.heap.size)
    (hother : ∀ k, k ≠ φ id → w'.heap[k]? = w.heap[k]?) (hb : BR P (H.set id b) φ w' (φ id) (φ.cap id) b) :
    HR B P (H.set id b) φ w' ∧ Ext H φ w (H.set id b) φ w' := by
  have hlive : ∀ {i c}, H.get i = some c → H.live i := fun {i c} h => by unfold Heap.live; rw [h]; simp
  have hused : H.used id := hr.liv id (hlive hg)
  have hl : Later H φ (H.set id b) φ := by
    refine ⟨by simp only [Heap.set]; split <;> omega, fun i hi => .inr hi, fun i hi hl => ?_, fun i hi _ => rfl, fun i hi _ => rfl⟩
    by_cases e : i = id
    · subst e; exact hlive hg
    · unfold Heap.live at *; rwa [Heap.get_set_ne _ _ e] at hl
  refine ⟨⟨by rw [hsize]; exact hr.size, ?_, ?_, fun i hi => .inr (hr.glob i hi), hr.gid, ?_, ?_, ?_, hr.dead_set fun e => hr.dead.2 (e ▸ hlive hg)⟩, ⟨hl, hos, htape, hout, by omega, ?_, ?_⟩⟩
  · intro i hi
    simp only [Heap.set]
    rcases hi with rfl | hi
    · split <;> omega
    · have := hr.lt i hi; split <;> omega
  · intro i hi
    by_cases e : i = id
    · exact .inl e
    · unfold Heap.live at hi; rw [Heap.get_set_ne _ _ e] at hi; exact .inr (hr.liv i hi)
  · intro i c hi
    by_cases e : i = id
    · subst e; rw [Heap.get_set_same] at hi; cases hi; exact hb
    · rw [Heap.get_set_ne _ _ e] at hi
      have hne : φ i ≠ φ id := fun he => e (hr.inj i id (hlive hi) (hlive hg) he)
      exact (hr.blk i c hi).mono hl (hother _ hne)
  · intro i c hi hw
    by_cases e : i = id
    · subst e; exact hr.own i b0 hg hw0
    · rw [Heap.get_set_ne _ _ e] at hi; exact hr.own i c hi hw
  · intro i j hi hj he
    unfold Heap.live at hi hj
    by_cases ei : i = id <;> by_cases ej : j = id
    · rw [ei, ej]
    · rw [Heap.get_set_ne _ _ ej] at hj
      subst ei; exact hr.inj i j (hlive hg) hj he
    · rw [Heap.get_set_ne _ _ ei] at hi
      subst ej; exact hr.inj i j hi (hlive hg) he
    · rw [Heap.get_set_ne _ _ ei] at hi
      rw [Heap.get_set_ne _ _ ej] at hj
      exact hr.inj i j hi hj he
  · intro k hk hn
    exact hother k fun e => hn id b0 hg hw0 e.symm
  · intro i c hi
    by_cases e : i = id
    · subst e; exact .inl ⟨b0, hg, rfl, fun _ => hw0⟩
    · rw [Heap.get_set_ne _ _ e] at hi; exact .inl ⟨c, hi, rfl, fun h => h⟩

/-! cells -/

def Heap.cell (H : Heap) (a : Addr) : Option Value :=
  if a.spot.isSome then none else match H.get a.block with
    | some (.cells vs _ _ _) => nh vs[a.off]?
    | _ => none

theorem cell_ok (hr : HR B P H φ w) {a a' : Addr} {v : Value} (h : H.cell a = some v) (ha : AR H φ a a') : ∃ v', w.cell? a' = some v' ∧ VR H φ v v' := by
  unfold Heap.cell at h
  split at h
  · simp at h
  · rename_i hs
    split at h
    · rename_i vs e wr fz hg
      obtain ⟨c, fr, hc, hlen, hv, _⟩ := hr.blk _ _ hg
      obtain ⟨hblock, hoff, hspot⟩ := ha.loc (by unfold Heap.live; rw [hg]; simp)
      obtain ⟨h, hnh⟩ := nh_some h
      obtain ⟨hi, hvi⟩ := List.getElem?_eq_some_iff.1 h
      have hi' : a.off < c.size := by omega
      refine ⟨c[a.off], ?_, hvi ▸ (hv a.off hi hi').resolve_left (by rw [hvi, hnh]; simp)⟩
      unfold World.cell?
      rw [hblock, hc, hspot, hoff]
      simp [hs, hi']
    · simp at h

theorem AR.add {a a' : Addr} (h : AR H φ a a') (n : Nat) : AR H φ (a.add n) (a'.add n) := by
  unfold Addr.add
  split
  · exact h
  · exact ⟨h.old, fun hl => ⟨(h.loc hl).1, by simp [(h.loc hl).2.1], rfl⟩⟩

def Heap.cellsFrom (H : Heap) (a : Addr) : Nat → Nat → Option (List Value)
  | _, 0 => some []
  | i, n + 1 => match H.cell (a.add i) with
    | none => none
    | some v => match H.cellsFrom a (i + 1) n with
      | none => none
      | some r => some (v :: r)

theorem loadCellsFrom_ok (hr : HR B P H φ w) {a a' : Addr} (ha : AR H φ a a') (n : Nat) : ∀ (i : Nat) (vs : List Value) (acc : Array Value), H.cellsFrom a i n = some vs →
    ∃ vs', (loadCellsFrom a' i n acc).run P w = .ok (acc ++ vs'.toArray) w ∧ LR H φ vs vs' := by
  induction n with
  | zero =>
    intro i vs acc h
    cases h
    exact ⟨[], by simp [loadCellsFrom], LR.nil⟩
  | succ n ih =>
    intro i vs acc h
    simp only [Heap.cellsFrom] at h
    split at h
    · simp at h
    · rename_i v hv
      split at h
      · simp at h
      · rename_i r hrest
        cases h
        obtain ⟨v', hv', hvr⟩ := cell_ok hr hv (ha.add i)
        obtain ⟨vs', hrun, hl⟩ := ih (i + 1) r (acc.push v') hrest
        refine ⟨v' :: vs', ?_, LR.cons hvr hl⟩
        simp only [loadCellsFrom, Sem.run_bind, run_load, hv', Result.andThen_ok]
        rw [hrun]
        simp

theorem loadCells_ok (hr : HR B P H φ w) {a a' : Addr} (ha : AR H φ a a') {n : Nat} {vs : List Value} (h : H.cellsFrom a 0 n = some vs) :
    ∃ vs', (loadCells a' n).run P w = .ok vs'.toArray w ∧ LR H φ vs vs' := by
  obtain ⟨vs', h1, h2⟩ := loadCellsFrom_ok (P := P) hr ha n 0 vs #[] h
  exact ⟨vs', by simpa [loadCells] using h1, h2⟩

def Heap.putCell (H : Heap) (a : Addr) (v : Value) : Option Heap :=
  if a.spot.isSome then none else match H.get a.block with
    | some (.cells vs e true _) => if a.off < vs.length then (if v.oneCell' then some (H.set a.block (.cells (vs.set a.off v) e true false)) else none) else none
    | _ => none

theorem oneCell'_of_VR {v v' : Value} (h : VR H φ v v') : v'.oneCell' = v.oneCell' := by cases h <;> rfl

theorem putCell_ok (hr : HR B P H φ w) {a a' : Addr} {v v' : Value} {H' : Heap} (h : H.putCell a v = some H') (ha : AR H φ a a') (hv : VR H φ v v') (m : Go.Mode) :
    (store a' v' m).run P w = .ok () (w.setCell a' v') ∧ HR B P H' φ (w.setCell a' v') ∧ Ext H φ w H' φ (w.setCell a' v') := by
  unfold Heap.putCell at h
  split at h
  · simp at h
  · rename_i hs
    split at h
    · rename_i vs e fz hg
      split at h
      · rename_i hlt
        split at h
        · rename_i hone
          cases h
          obtain ⟨c, fr, hc, hlen, hvs, hfz, hwf, hq⟩ := hr.blk _ _ hg
          have hfz' : fr.2 ≤ fr.1 := hfz (hwf rfl)
          obtain ⟨hblock, hoff, hspot⟩ := ha.loc (by unfold Heap.live; rw [hg]; simp)
          have hi' : a.off < c.size := by omega
          have hs' : a'.spot.isSome = false := by rw [hspot]; simpa using hs
          have hcell : w.cell? a' = some c[a.off] := by
            unfold World.cell?
            rw [hblock, hc, hspot, hoff]
            simp [hs, hi']
          have hfrozen : w.frozen? a' = false := by
            obtain ⟨lo, hi⟩ := fr
            unfold World.frozen?
            rw [hblock, hc]
            simp at hfz' ⊢
            omega
          refine ⟨?_, ?_⟩
          · rw [run_store _ _ _ _ _ (by rw [oneCell'_of_VR hv]; exact hone)]
            simp [hcell, hfrozen]
          · have hl : Later H φ (H.set a.block (.cells (vs.set a.off v) e true false)) φ := by
              refine ⟨by simp only [Heap.set]; split <;> omega, fun i hi => .inr hi, fun i hi hl => ?_, fun i hi _ => rfl, fun i hi _ => rfl⟩
              by_cases e : i = a.block
              · subst e; unfold Heap.live; rw [hg]; simp
              · unfold Heap.live at *; rwa [Heap.get_set_ne _ _ e] at hl
            refine hr.write hg rfl rfl rfl rfl (by simp) (fun k hk => RowKit.Below.heap_setCell _ _ _ _ (by rw [hblock]; exact hk)) ?_
            refine ⟨c.setIfInBounds a.off v', fr, ?_, by simpa using hlen, ?_, fun _ => hfz', fun _ => rfl, by simpa using hq⟩
            · simp only [World.setCell, Array.getElem?_modify, hblock, ↓reduceIte, hc, Option.map_some, hoff]
              simp [hs']
            · intro i hi hi2
              have hi3 : i < c.size := by simpa using hi2
              rw [List.getElem_set, Array.getElem_setIfInBounds hi3]
              split
              · exact .inr (hv.mono hl)
              · exact (hvs i (by simpa using hi) hi3).mono hl
        · simp at h
      · simp at h
    · simp at h

def Heap.putCells (H : Heap) (a : Addr) : Nat → List Value → Option Heap
  | _, [] => some H
  | i, v :: rest => match H.putCell (a.add i) v with
    | none => none
    | some H1 => H1.putCells a (i + 1) rest

theorem storeCells_ok {a a' : Addr} : ∀ (vs vs' : List Value) (i : Nat) (H : Heap) (w : World) (H' : Heap), HR B P H φ w → AR H φ a a' → LR H φ vs vs' → H.putCells a i vs = some H' →
    ∃ w', (storeCells a' vs' i).run P w = .ok () w' ∧ HR B P H' φ w' ∧ Ext H φ w H' φ w' := by
  intro vs
  induction vs with
  | nil =>
    intro vs' i H w H' hr ha hv h
    cases h
    rw [hv.nil_inv]
    exact ⟨w, by simp [storeCells], hr, Ext.refl _ _ _⟩
  | cons v vs ih =>
    intro vs' i H w H' hr ha hv h
    obtain ⟨v', vs1, rfl, hv1, hvs⟩ := hv.cons_inv
    simp only [Heap.putCells] at h
    split at h
    · simp at h
    · rename_i H1 h1
      obtain ⟨hrun, hr1, he1⟩ := putCell_ok (P := P) hr h1 (ha.add i) hv1 .plain
      obtain ⟨w', hrun', hr', he'⟩ := ih vs1 (i + 1) H1 _ H' hr1 (ha.mono he1.toLater) (hvs.mono he1.toLater) h
      refine ⟨w', ?_, hr', he1.trans he'⟩
      simp only [storeCells, Sem.run_bind]
      rw [hrun]
      simpa using hrun'

end Go.Proofs.YtcfjimhbachmlaaGreatDoor.E

/- The clean semantics: what one operation does. -/
namespace Go.Proofs.YtcfjimhbachmlaaGreatDoor.E
open Go

/-- a type, as far as an operation asks: of a struct's fields the type, the place, whether it is blank -/
inductive TK where
  | bool | int (k : IntKind) | string | pointer (e : TypeId) | slice (e : TypeId) | map (k v : TypeId) | struct (fs : List (TypeId × Nat × Bool)) | array (n : Nat) (e : TypeId) | upointer | other

def TKof : TypeDesc → TK
  | .bool => .bool
  | .int k => .int k
  | .string => .string
  | .pointer e => .pointer e
  | .slice e => .slice e
  | .map k v => .map k v
  | .struct fs => .struct (fs.toList.map fun f => (f.type, f.offset, f.name == "_"))
  | .array n e => .array n e
  | .unsafePointer => .upointer
  | _ => .other

structure TI where
  k : TK
  size : Nat
  bytes : Nat
  zero : Option Value

/-- the zero has as many cells as the type -/
def TI.fits (t : TI) : Bool :=
  match t.zero with
  | some z => z.cells.size == t.size
  | none => false

def TK.agg : TK → Bool
  | .struct _ | .array _ _ => true
  | _ => false

/-- a value without addresses -/
def scalarNA : Value → Bool
  | .bool _ | .int _ _ | .float _ _ | .complex _ _ _ | .string _ | .pointer none | .slice none _ _ | .map none | .chan none | .nilFunc | .nilIface => true
  | _ => false
def noAddr1 : Value → Bool
  | .agg cs => cs.toList.all scalarNA
  | v => scalarNA v
def noAddr : Value → Bool
  | .tuple vs => vs.toList.all noAddr1
  | v => noAddr1 v

structure Env where
  ty : TypeId → Option TI
  plain : TypeId → Bool
  lies : TypeId → TypeId → Bool
  same : FuncId → Bool
  dead : Nat

structure Env.ok (Y : Env) (P : Program) : Prop where
  ty : ∀ t ti, Y.ty t = some ti → ∃ u i, P.underlying t = some u ∧ P.info? t = some i ∧ TKof u = ti.k ∧ i.size = ti.size ∧ i.bytes = ti.bytes ∧ i.zero = ti.zero
  zero : ∀ t ti z, Y.ty t = some ti → ti.zero = some z → noAddr z = true
  plain : ∀ t, Y.plain t = true → P.eqGuardType P.depth t = false ∧ P.stoodInHeld t = false
  lies : ∀ e u, Y.lies e u = true → ∀ n m, n ≤ m → 0 < P.cellsOf e ∧ ∀ c, m * P.cellsOf e ≤ c → liesAt P P.depth e (c / P.cellsOf e) 0 u n = true
  dead : Y.dead = P.globals.size
  same : ∀ f, Y.same f = true → ∀ (v : Value) (w : World), (callFunc f #[v]).run P w = .ok (.value v) w

/-! reading and writing variables -/

def eload (Y : Env) (H : Heap) (t : TypeId) (p : Value) : Option Value :=
  match p with
  | .pointer (some a) => match Y.ty t with
    | some ti => if ti.k.agg then (match H.cellsFrom a 0 ti.size with | some l => some (.agg l.toArray) | none => none) else H.cell a
    | none => none
  | _ => none

def estore (Y : Env) (H : Heap) (t : TypeId) (p v : Value) : Option Heap :=
  match p with
  | .pointer (some a) => match Y.ty t with
    | some ti => if v.cells.size = ti.size then H.putCells a 0 v.cells.toList else none
    | none => none
  | _ => none

def enew (H : Heap) (id : Nat) (e : TypeId) (cs : List Value) : Heap := H.set id (.cells cs e true false)

/-- cells with a part put into them -/
def splice (cs : List Value) (off : Nat) (l : List Value) : List Value := cs.take off ++ l ++ cs.drop (off + l.length)

def efill (place : Nat → Option (Nat × Nat)) : List Value → List (Nat × Value) → Option (List Value)
  | cs, [] => some cs
  | cs, (i, v) :: rest => match place i with
    | none => none
    | some (off, size) => if v.cells.size = size ∧ off + size ≤ cs.length then efill place (splice cs off v.cells.toList) rest else none

def sizesOf (Y : Env) : List (TypeId × Nat × Bool) → Option (List (Nat × Nat))
  | [] => some []
  | (t, off, _) :: fs => match Y.ty t, sizesOf Y fs with
    | some ti, some l => some ((off, ti.size) :: l)
    | _, _ => none

def ebuild (Y : Env) (t : TypeId) (parts : List (Nat × Value)) : Option Value :=
  match Y.ty t with
  | some ti => match ti.k, ti.zero with
    | .struct fs, some z => match sizesOf Y fs with
      | some pl => match efill (fun i => pl[i]?) z.cells.toList parts with
        | some cs => some (.agg cs.toArray)
        | none => none
      | none => none
    | _, _ => none
  | none => none

def ebuildSlice (Y : Env) (H : Heap) (id : Nat) (t : TypeId) (len : Nat) (parts : List (Nat × Value)) : Option (Value × Heap) :=
  match Y.ty t with
  | some ti => match ti.k with
    | .slice e => match Y.ty e with
      | some te => match te.zero with
        | some z => if len * te.size ≤ 16777216 ∧ 0 < z.cells.size ∧ len < unk then
            match efill (fun i => some (i * te.size, te.size)) ((List.range (len * te.size)).map fun i => z.cells[i % z.cells.size]!) parts with
            | some cs => some (.slice (some ⟨id, 0, none⟩) len len, enew H id e cs)
            | none => none
          else none
        | none => none
      | none => none
    | _ => none
  | none => none

def emakeSlice (Y : Env) (H : Heap) (id : Nat) (t : TypeId) (len cap : Value) : Option (Value × Heap) :=
  match len, cap with
  | .int .i64 l, .int .i64 c => match Y.ty t with
    | some ti => match ti.k with
      | .slice e => match Y.ty e with
        | some te => match te.zero with
          | some z => if 0 ≤ l ∧ l ≤ c ∧ c ≤ 281474976710656 ∧ te.bytes * c ≤ 281474976710656 ∧ 0 < z.cells.size then
              some (.slice (some ⟨id, 0, none⟩) l.toNat c.toNat, enew H id e ((List.range (c.toNat * te.size)).map fun i => z.cells[i % z.cells.size]!))
            else none
          | none => none
        | none => none
      | _ => none
    | none => none
  | _, _ => none

/-! equality -/

def epart (Y : Env) (t : TypeId) (cs : Array Value) (off : Nat) : Option Value :=
  match Y.ty t with
  | some ti => if ti.k.agg then some (.agg (cs.extract off (off + ti.size))) else cs[off]?
  | none => none

/-- two addresses: both must be known; if they are in two blocks, none of which may be frozen, they differ -/
def eaddr (H : Heap) (a b : Addr) : Option Bool :=
  match H.get a.block, H.get b.block with
  | some (.cells _ _ _ fa), some (.cells _ _ _ fb) => if a.block = b.block then some (a == b) else if fa || fb then none else some false
  | _, _ => none

def eeqFields (Y : Env) (eq : TypeId → Value → Value → Option Bool) (xs ys : Array Value) : List (TypeId × Nat × Bool) → Option Bool
  | [] => some true
  | (t, off, blank) :: fs => if blank then eeqFields Y eq xs ys fs else match epart Y t xs off, epart Y t ys off with
    | some a, some b => match eq t a b with
      | some true => eeqFields Y eq xs ys fs
      | some false => some false
      | none => none
    | _, _ => none

def eeqIn (Y : Env) (H : Heap) : Nat → TypeId → Value → Value → Option Bool
  | 0, _, _, _ => none
  | d + 1, t, x, y => match Y.ty t with
    | none => none
    | some ti => match ti.k, x, y with
      | .bool, .bool a, .bool b => some (a == b)
      | .int _, .int k a, .int k' b => if k = k' then some (a == b) else none
      | .string, .string a, .string b => some (a.data.toList == b.data.toList)
      | .pointer _, .pointer none, .pointer b => some b.isNone
      | .pointer _, .pointer (some _), .pointer none => some false
      | .pointer e, .pointer (some a), .pointer (some b) => match Y.ty e with
        | some te => if te.size ≠ 0 then eaddr H a b else none
        | none => none
      | .slice _, .slice none _ _, .slice b _ _ => some b.isNone
      | .slice _, .slice (some _) _ _, .slice none _ _ => some false
      | .struct fs, .agg xs, .agg ys => if Y.plain t then eeqFields Y (eeqIn Y H d) xs ys fs else none
      | _, _, _ => none

/-! numbers and strings -/

def ebits (op : BinOp) (k : IntKind) (x y : Int) : Option Value :=
  let a := BitVec.ofInt k.bits x
  let b := BitVec.ofInt k.bits y
  match op with
  | .and => some (.int k (k.wrap (a &&& b).toNat))
  | .or => some (.int k (k.wrap (a ||| b).toNat))
  | .xor => some (.int k (k.wrap (a ^^^ b).toNat))
  | .andNot => some (.int k (k.wrap (a &&& ~~~b).toNat))
  | _ => none

def eint (op : BinOp) (k : IntKind) (a b : Int) : Option Value :=
  match op with
  | .add => some (.int k (k.wrap (a + b)))
  | .sub => some (.int k (k.wrap (a - b)))
  | .mul => some (.int k (k.wrap (a * b)))
  | .quo => if b = 0 then none else some (.int k (k.wrap (a.tdiv b)))
  | .rem => if b = 0 then none else some (.int k (a.tmod b))
  | .eql => some (.bool (a == b))
  | .neq => some (.bool (a != b))
  | .lss => some (.bool (decide (a < b)))
  | .leq => some (.bool (decide (a ≤ b)))
  | .gtr => some (.bool (decide (a > b)))
  | .geq => some (.bool (decide (a ≥ b)))
  | op => ebits op k a b

def eshift (op : BinOp) (k : IntKind) (x y : Int) : Option Value :=
  if y < 0 then none else match op with
    | .shl => some (.int k (k.wrap (x * 2 ^ (min y.toNat k.bits))))
    | .shr => some (.int k (x.fdiv (2 ^ (min y.toNat k.bits))))
    | _ => none

def estr (op : BinOp) (x y : ByteArray) : Option Value :=
  match op with
  | .add => if ((x.size + y.size : Nat) : Int) ≤ 9223372036854775807 then some (.string (x ++ y)) else none
  | .eql => some (.bool (x.data.toList == y.data.toList))
  | .neq => some (.bool !(x.data.toList == y.data.toList))
  | _ => none

def eqShape : Value → Value → Bool
  | .bool _, .bool _ | .pointer _, .pointer _ | .slice _ _ _, .slice _ _ _ | .agg _, .agg _ => true
  | _, _ => false

def ebin (Y : Env) (H : Heap) (op : BinOp) (t : TypeId) (x y : Value) : Option Value :=
  match op, x, y with
  | .shl, .int k a, .int _ b => eshift .shl k a b
  | .shr, .int k a, .int _ b => eshift .shr k a b
  | op, .int k a, .int k' b => if k = k' then eint op k a b else none
  | op, .string a, .string b => estr op a b
  | .eql, x, y => if eqShape x y then (match eeqIn Y H 4 t x y with | some b => some (.bool b) | none => none) else none
  | .neq, x, y => if eqShape x y then (match eeqIn Y H 4 t x y with | some b => some (.bool !b) | none => none) else none
  | _, _, _ => none

def eun (op : UnOp) (x : Value) : Option Value :=
  match op, x with
  | .neg, .int k n => some (.int k (k.wrap (0 - n)))
  | .not, .bool b => some (.bool !b)
  | _, _ => none

/-! slices -/

/-- what is known of a capacity from below -/
def capLow (len cap : Nat) : Nat := if cap = unk then min len unk else cap

def ebound (x : Option Value) (dflt y : Nat) : Option Nat :=
  match x with
  | none => some dflt
  | some (.int _ i) => if 0 ≤ i ∧ i ≤ y then some i.toNat else none
  | some _ => none

/-- the third bound, as far as it is known -/
def eknown (mx : Option Value) (len cap : Nat) : Option (Option Nat) :=
  match mx with
  | none => if cap = unk then some none else if cap < unk then some (some cap) else none
  | some (.int _ i) => if 0 ≤ i ∧ i ≤ capLow len cap ∧ i.toNat < unk then some (some i.toNat) else none
  | some _ => none

/-- a slice of something; true: the address of what is empty is not known -/
def esliceG (Y : Env) (id : Nat) (t : TypeId) (x : Value) (lo hi mx : Option Value) : Option (Value × Bool) :=
  match Y.ty t with
  | none => none
  | some ti => match ti.k, x with
    | .string, .string s => if mx.isSome then none else match ebound hi s.size s.size with
      | none => none
      | some h => match ebound lo 0 h with
        | none => none
        | some l => some (.string (s.extract l h), false)
    | .slice e, .slice a len cap => match Y.ty e with
      | none => none
      | some te => if mx.isSome && hi.isNone then none else match eknown mx len cap with
        | none => none
        | some none => match a with
          | none => none
          | some b => match ebound hi len len with
            | none => none
            | some h => match ebound lo 0 h with
              | none => none
              | some l =>
                if l = 0 then some (.slice a h unk, false)
                else if l < len then (if 0 < te.size then some (.slice (some (b.add (l * te.size))) (h - l) unk, false) else none)
                else some (.slice (some ⟨Y.dead, 0, none⟩) 0 unk, false)
        | some (some m) => match ebound hi len m with
          | none => none
          | some h => match ebound lo 0 h with
            | none => none
            | some l => some (.slice (if m = l then a else a.map (·.add (l * te.size))) (h - l) (m - l), false)
    | _, _ => none

def eslice (Y : Env) (H : Heap) (id : Nat) (t : TypeId) (x : Value) (lo hi mx : Option Value) : Option (Value × Heap) :=
  match esliceG Y id t x lo hi mx with
  | some (v, true) => some (v, H.ghost id)
  | some (v, false) => some (v, H)
  | none => none

def efirst (H : Heap) (size n : Nat) : Value → Option (List Value)
  | .slice (some a) _ _ => H.cellsFrom a 0 (n * size)
  | .slice none _ _ => some []
  | .string s => some ((s.extract 0 n).data.toList.map fun b => .int .u8 b.toNat)
  | _ => none

def elen : Value → Option Nat
  | .slice _ n _ => some n
  | .string s => some s.size
  | _ => none

/-- the second argument of append is a slice or a string (and no number of zeros) -/
def noZeros (Y : Env) (xt : Option TypeId) : Bool :=
  match xt with
  | none => true
  | some u => match Y.ty u with
    | some tu => (match tu.k with | .slice _ | .string => true | _ => false)
    | none => false

/-- append: with a capacity that is known, as Go does it; with one that is not, the old block is given up, and a new one takes its place -/
def eappend (Y : Env) (H : Heap) (id : Nat) (t : TypeId) (xt : Option TypeId) (s x : Value) : Option (Value × Heap) :=
  match Y.ty t with
  | none => none
  | some ti => match ti.k, s with
    | .slice e, .slice base sLen sCap => match Y.ty e with
      | none => none
      | some te =>
        if noZeros Y xt = false then none
        else match elen x with
          | none => none
          | some n => match efirst H te.size n x with
            | none => none
            | some new =>
              if sCap = unk then
                match base with
                | some ⟨b, 0, none⟩ =>
                  if n * te.size = 0 then (if n = 0 then some (s, H) else none)
                  else match H.get b with
                    | some (.cells vs el true _) =>
                      if vs.length = sLen * te.size ∧ el = e ∧ new.length = n * te.size ∧ new.all Value.oneCell' = true ∧ vs.all (fun v => !isHole v) = true ∧ te.fits = true ∧ sLen + n ≤ 140737488355328 ∧ (sLen + n) * te.bytes ≤ 140737488355328 then some (.slice (some ⟨id, 0, none⟩) (sLen + n) unk, (H.kill b).set id (.cells (vs ++ new) e true false))
                      else none
                    | _ => none
                | _ => none
              else if sLen + n ≤ sCap then
                match base with
                | some a => match H.putCells (a.add (sLen * te.size)) 0 new with
                  | some H' => some (.slice base (sLen + n) sCap, H')
                  | none => none
                | none => some (.slice base (sLen + n) sCap, H)
              else if te.fits = true ∧ new.length = n * te.size ∧ sLen + n ≤ 140737488355328 ∧ (sLen + n) * te.bytes ≤ 140737488355328 then
                match efirst H te.size sLen s with
                | some old => if old.length = sLen * te.size then some (.slice (some ⟨id, 0, none⟩) (sLen + n) unk, enew H id e (old ++ new)) else none
                | none => none
              else none
    | _, _ => none

/-! maps -/

def ekeyok (Y : Env) : Nat → TypeId → Value → Bool
  | 0, _, _ => false
  | d + 1, t, v => match Y.ty t with
    | none => false
    | some ti => match ti.k, v with
      | .bool, .bool _ | .int _, .int _ _ | .string, .string _ | .pointer _, .pointer _ => true
      | .struct fs, .agg cs => fs.all fun f => f.2.2 || (match epart Y f.1 cs f.2.1 with | some x => ekeyok Y d f.1 x | none => false)
      | _, _ => false

/-- the first entry with a key -/
def efind (Y : Env) (H : Heap) (t : TypeId) (k : Value) : List MapEntry → Nat → Option (Option (Nat × Value))
  | [], _ => some none
  | e :: es, i => match eeqIn Y H 4 t k e.key with
    | some true => some (some (i, e.val))
    | some false => efind Y H t k es (i + 1)
    | none => none

def esame1 (H : Heap) : Value → Value → Bool
  | .bool a, .bool b => a == b
  | .int j a, .int k b => j == k && a == b
  | .string a, .string b => a.data.toList == b.data.toList
  | .pointer none, .pointer none => true
  | .pointer (some a), .pointer (some b) => a == b && (H.get a.block).isSome
  | _, _ => false
def esameL (H : Heap) : List Value → List Value → Bool
  | [], [] => true
  | x :: xs, y :: ys => esame1 H x y && esameL H xs ys
  | _, _ => false
def esame (H : Heap) : Value → Value → Bool
  | .agg a, .agg b => esameL H a.toList b.toList
  | a, b => esame1 H a b

/-- the key of an entry is the same as a key, sign for sign -/
def eold (H : Heap) (es : List MapEntry) (i : Nat) (k : Value) : Bool :=
  match es[i]? with
  | some e => esame H e.key k
  | none => false

def elookup (Y : Env) (H : Heap) (t : TypeId) (m k : Value) (ok : Bool) : Option Value :=
  match Y.ty t with
  | none => none
  | some ti => match ti.k with
    | .map kt vt => match Y.ty vt with
      | none => none
      | some tv => if ekeyok Y 3 kt k then
          match m with
          | .map none => match tv.zero with
            | some z => some (if ok then .tuple #[z, .bool false] else z)
            | none => none
          | .map (some r) => match H.get r with
            | some (.map es _ _) => match efind Y H kt k es 0 with
              | some (some (_, v)) => some (if ok then .tuple #[v, .bool true] else v)
              | some none => match tv.zero with
                | some z => some (if ok then .tuple #[z, .bool false] else z)
                | none => none
              | none => none
            | _ => none
          | _ => none
        else none
    | _ => none

def emapUpdate (Y : Env) (H : Heap) (t : TypeId) (m k v : Value) : Option Heap :=
  match Y.ty t with
  | none => none
  | some ti => match ti.k with
    | .map kt _ => if ekeyok Y 3 kt k then
        match m with
        | .map (some r) => match H.get r with
          | some (.map es clock true) => match efind Y H kt k es 0 with
            | some (some (i, _)) => if eold H es i k then
                some (H.set r (.map (es.modify i fun e => { e with key := k, val := v }) clock true))
              else none
            | some none => some (H.set r (.map (es ++ [{ key := k, val := v, born := clock }]) (clock + 1) true))
            | none => none
          | _ => none
        | _ => none
      else none
    | _ => none

/-! the rest -/

def eindexAddr (Y : Env) (t : TypeId) (x ix : Value) : Option Value :=
  match ix with
  | .int _ i => match Y.ty t with
    | none => none
    | some ti => match ti.k, x with
      | .slice e, .slice (some a) len _ => match Y.ty e with
        | some te => if 0 ≤ i ∧ i < len then some (.pointer (some (a.add (i.toNat * te.size)))) else none
        | none => none
      | .array len e, .pointer (some a) => match Y.ty e with
        | some te => if 0 ≤ i ∧ i < len then some (.pointer (some (a.add (i.toNat * te.size)))) else none
        | none => none
      | _, _ => none
  | _ => none

def eindex (Y : Env) (t : TypeId) (x ix : Value) : Option Value :=
  match ix with
  | .int _ i => match Y.ty t with
    | none => none
    | some ti => match ti.k, x with
      | .string, .string s => if 0 ≤ i then (match s.data.toList[i.toNat]? with | some b => some (.int .u8 b.toNat) | none => none) else none
      | _, _ => none
  | _ => none

def efieldAddr (Y : Env) (t : TypeId) (x : Value) (n : Nat) : Option Value :=
  match x with
  | .pointer (some a) => match Y.ty t with
    | none => none
    | some ti => match ti.k with
      | .struct fs => match fs[n]? with
        | some (ft, off, _) => match Y.ty ft with
          | some tf => if tf.size ≠ 0 then some (.pointer (some (a.add off))) else none
          | none => none
        | none => none
      | _ => none
  | _ => none

def bytesOf : List Value → Option (List UInt8)
  | [] => some []
  | .int .u8 n :: l => if 0 ≤ n ∧ n < 256 then (match bytesOf l with
    | some r => some (UInt8.ofNat n.toNat :: r)
    | none => none) else none
  | _ :: _ => none

def econvert (Y : Env) (H : Heap) (src dst : TypeId) (x : Value) : Option Value :=
  match Y.ty src, Y.ty dst with
  | some ts, some td => match ts.k, td.k, x with
    | .int _, .int k, .int _ n => some (.int k (k.wrap n))
    | .slice e, .string, .slice b len _ => match Y.ty e with
      | some te => match te.k with
        | .int .u8 => match b with
          | none => some (.string .empty)
          | some a => match H.cellsFrom a 0 len with
            | some cs => match bytesOf cs with
              | some l => some (.string ⟨l.toArray⟩)
              | none => none
            | none => none
        | _ => none
      | none => none
    | .pointer t, .upointer, .pointer (some a) => match Y.ty t, H.get a.block with
      | some tt, some (.cells vs _ _ _) => if tt.size ≠ 0 ∧ a.off < vs.length then some x else none
      | _, _ => none
    | .upointer, .pointer u, .pointer (some a) => match Y.ty u, H.get a.block with
      | some tu, some (.cells vs e _ _) => match Y.ty e with
        | some te => if tu.size ≠ 0 ∧ Y.lies e u ∧ a.off = 0 ∧ te.size ≤ vs.length then some x else none
        | none => none
      | _, _ => none
    | _, _, _ => none
  | _, _ => none

def elenB (H : Heap) (Y : Env) (t : TypeId) (x : Value) : Option Value :=
  match Y.ty t with
  | none => none
  | some ti => match ti.k, x with
    | .string, .string s => some (.int .i64 s.size)
    | .slice _, .slice _ n _ => some (.int .i64 n)
    | .map _ _, .map none => some (.int .i64 0)
    | .map _ _, .map (some r) => match H.get r with
      | some (.map es _ _) => some (.int .i64 es.length)
      | _ => none
    | _, _ => none

def emax : Value → List Value → Option Value
  | v, [] => some v
  | .int k x, .int _ y :: rest => emax (.int k (if y > x then y else x)) rest
  | _, _ => none
def emin : Value → List Value → Option Value
  | v, [] => some v
  | .int k x, .int _ y :: rest => emin (.int k (if y < x then y else x)) rest
  | _, _ => none

def eusdata : Value → Option Value
  | .slice none _ _ => some (.pointer none)
  | .slice (some a) n c => if 0 < n ∧ (c = unk ∨ c ≠ 0) then some (.pointer (some a)) else none
  | _ => none

def eustring (Y : Env) (H : Heap) (pt : TypeId) (p n : Value) : Option (Value × Heap) :=
  match p, n with
  | .pointer none, .int .i64 n => if n = 0 then some (.string .empty, H) else none
  | .pointer (some a), .int .i64 n => if n = 0 then some (.string .empty, H) else match Y.ty pt with
    | some tp => match tp.k, H.get a.block with
      | .pointer el, some (.cells vs e true _) => if 0 < n ∧ n ≤ 9223372036854775807 ∧ el = e ∧ a.off = 0 ∧ a.spot = none ∧ n.toNat ≤ vs.length then
          match Y.ty e, H.cellsFrom a 0 n.toNat with
          | some te, some cs => match bytesOf cs with
            | some l => if te.size = 1 then some (.string ⟨l.toArray⟩, H.set a.block (.cells vs e false true)) else none
            | none => none
          | _, _ => none
        else none
      | _, _ => none
    | none => none
  | _, _ => none

inductive EN where
  | val (v : Value)
  | enter (f : FuncId) (args : Array Value)

def ebuiltin (Y : Env) (H : Heap) (id : Nat) (b : Builtin) (ts : Array TypeId) (args : List Value) : Option (Value × Heap) :=
  match b, args with
  | .append, [s, x] => match ts[0]? with
    | some t => eappend Y H id t ts[1]? s x
    | none => none
  | .len, [x] => match ts[0]? with
    | some t => match elenB H Y t x with | some v => some (v, H) | none => none
    | none => none
  | .max, x :: rest => match emax x rest with | some v => some (v, H) | none => none
  | .min, x :: rest => match emin x rest with | some v => some (v, H) | none => none
  | .unsafeSliceData, [x] => match eusdata x with | some v => some (v, H) | none => none
  | .unsafeString, [p, n] => match ts.toList with
    | [t, _] => eustring Y H t p n
    | _ => none
  | _, _ => none

def lift1 (H : Heap) : Option Value → Option (EN × Heap)
  | some v => some (.val v, H)
  | none => none
def lift2 : Option (Value × Heap) → Option (EN × Heap)
  | some (v, H) => some (.val v, H)
  | none => none
def lift3 : Option Heap → Option (EN × Heap)
  | some H => some (.val undef, H)
  | none => none

/-- an operation; `id`: the number that a new block gets -/
def eop (Y : Env) (ρ : Operand → Value) (id : Nat) (o : Op) (H : Heap) : Option (EN × Heap) :=
  match o with
  | .move x | .assign x => some (.val (ρ x), H)
  | .pick c a b => match ρ c with
    | .bool t => some (.val (if t then ρ a else ρ b), H)
    | _ => none
  | .alloc t => match Y.ty t with
    | some ti => match ti.zero with
      | some z => some (.val (.pointer (some ⟨id, 0, none⟩)), enew H id t z.cells.toList)
      | none => none
    | none => none
  | .box t x => some (.val (.pointer (some ⟨id, 0, none⟩)), enew H id t (ρ x).cells.toList)
  | .build t parts => lift1 H (ebuild Y t (parts.toList.map fun p => (p.1, ρ p.2)))
  | .buildSlice t len parts => lift2 (ebuildSlice Y H id t len (parts.toList.map fun p => (p.1, ρ p.2)))
  | .load t a => lift1 H (eload Y H t (ρ a))
  | .store t a x => lift3 (estore Y H t (ρ a) (ρ x))
  | .nilCheck x => match ρ x with
    | .pointer (some a) => some (.val (.pointer (some a)), H)
    | _ => none
  | .binOp op t x y _ => lift1 H (ebin Y H op t (ρ x) (ρ y))
  | .unOp op _ x => lift1 H (eun op (ρ x))
  | .convert s d x => lift1 H (econvert Y H s d (ρ x))
  | .makeFunc fn first cap => some (.val (.func fn (first.map ρ) (cap.map ρ)), H)
  | .makeMap t r => match r with
    | none => match Y.ty t with
      | some _ => some (.val (.map (some id)), H.set id (.map [] 0 true))
      | none => none
    | some _ => none
  | .makeSlice t l c => lift2 (emakeSlice Y H id t (ρ l) (ρ c))
  | .slice t x lo hi mx => lift2 (eslice Y H id t (ρ x) (lo.map ρ) (hi.map ρ) (mx.map ρ))
  | .fieldAddr t x f => lift1 H (efieldAddr Y t (ρ x) f)
  | .indexAddr t x ix => lift1 H (eindexAddr Y t (ρ x) (ρ ix))
  | .index t x ix => lift1 H (eindex Y t (ρ x) (ρ ix))
  | .lookup t x ix ok => lift1 H (elookup Y H t (ρ x) (ρ ix) ok)
  | .mapUpdate t m k x => lift3 (emapUpdate Y H t (ρ m) (ρ k) (ρ x))
  | .extract x n => match ρ x with
    | .tuple vs => lift1 H vs[n]?
    | _ => none
  | .call c => match c.callee with
    | .value f => match ρ f with
      | .func (.func g) first cap => if Y.same g then (match first.toList, c.args.toList, cap.toList with | [], [x], [] => some (.val (ρ x), H) | _, _, _ => none) else some (.enter g (first ++ c.args.map ρ ++ cap), H)
      | _ => none
    | .builtin b => lift2 (ebuiltin Y H id b c.argTypes (c.args.toList.map ρ))
    | _ => none
  | _ => none

end Go.Proofs.YtcfjimhbachmlaaGreatDoor.E

/- The clean semantics: each operation is what the model's own does (1: types, variables, parts, equality). -/
namespace Go.Proofs.YtcfjimhbachmlaaGreatDoor.E
open Go

variable {B : Nat} {H : Heap} {φ : Mp} {w : World} {P : Program} {Y : Env}

/-- a computation comes to a value that is related to `v`, in a world related to `H'` -/
def Sim (P : Program) (B : Nat) (H : Heap) (φ : Mp) (w : World) (s : Sem Value) (v : Value) (H' : Heap) : Prop :=
  ∃ v' φ' w', s.run P w = .ok v' w' ∧ VR H' φ' v v' ∧ HR B P H' φ' w' ∧ Ext H φ w H' φ' w'

theorem Sim.same (hr : HR B P H φ w) {s : Sem Value} {v v' : Value} (h : s.run P w = .ok v' w) (hv : VR H φ v v') : Sim P B H φ w s v H :=
  ⟨v', φ, w, h, hv, hr, Ext.refl _ _ _⟩

/-- a value, and nothing turns -/
def Sim0 (P : Program) (H : Heap) (φ : Mp) (w : World) (s : Sem Value) (v : Value) : Prop := ∃ v', s.run P w = .ok v' w ∧ VR H φ v v'

theorem Sim0.same {s : Sem Value} {v v' : Value} (h : s.run P w = .ok v' w) (hv : VR H φ v v') : Sim0 P H φ w s v := ⟨v', h, hv⟩
theorem Sim0.sim {s : Sem Value} {v : Value} (h : Sim0 P H φ w s v) (hr : HR B P H φ w) : Sim P B H φ w s v H :=
  let ⟨v', h1, h2⟩ := h
  ⟨v', φ, w, h1, h2, hr, Ext.refl _ _ _⟩

theorem scalar_VR {v : Value} (h : scalarNA v = true) : VR H φ v v := by
  cases v with
  | bool b => exact .bool b
  | int k n => exact .int k n
  | float k n => exact .float k n
  | complex k n m => exact .complex k n m
  | string s => exact .string s
  | pointer a => cases a with | none => exact .ptr0 | some a => simp [scalarNA] at h
  | slice a n c => cases a with | none => exact .slice0 n c | some a => simp [scalarNA] at h
  | map a => cases a with | none => exact .map0 | some a => simp [scalarNA] at h
  | chan a => cases a with | none => exact .chan0 | some a => simp [scalarNA] at h
  | nilFunc => exact .nilFunc
  | nilIface => exact .nilIface
  | _ => simp [scalarNA] at h
theorem scalarL_VR : ∀ (l : List Value), l.all scalarNA = true → LR H φ l l := by
  intro l h
  exact ⟨rfl, fun i hi _ => scalar_VR (List.all_eq_true.1 h _ (List.getElem_mem hi))⟩
theorem noAddr1_VR {v : Value} (h : noAddr1 v = true) : VR H φ v v := by
  cases v with
  | agg cs => exact .agg rfl (ArrR.ofList (scalarL_VR cs.toList h)).2
  | _ => exact scalar_VR h
theorem noAddr_VR {v : Value} (h : noAddr v = true) : VR H φ v v := by
  cases v with
  | tuple vs =>
    have hl : LR H φ vs.toList vs.toList := ⟨rfl, fun i hi _ => noAddr1_VR (List.all_eq_true.1 h _ (List.getElem_mem hi))⟩
    exact .tuple rfl (ArrR.ofList hl).2
  | _ => exact noAddr1_VR h

section types
variable (hY : Y.ok P)
include hY

theorem und_run {t : TypeId} {ti : TI} (h : Y.ty t = some ti) (w : World) : ∃ u, P.underlying t = some u ∧ (underlying t).run P w = .ok u w ∧ TKof u = ti.k := by
  obtain ⟨u, i, h1, _, h3, _⟩ := hY.ty t ti h
  exact ⟨u, h1, run_underlying h1 w, h3⟩
theorem info_run {t : TypeId} {ti : TI} (h : Y.ty t = some ti) (w : World) : ∃ i, P.info? t = some i ∧ (typeInfo t).run P w = .ok i w ∧ i.size = ti.size ∧ i.bytes = ti.bytes ∧ i.zero = ti.zero := by
  obtain ⟨u, i, _, h2, _, h4⟩ := hY.ty t ti h
  exact ⟨i, h2, by simp [typeInfo, h2], h4⟩
theorem size_run {t : TypeId} {ti : TI} (h : Y.ty t = some ti) (w : World) : (sizeOf t).run P w = .ok ti.size w := by
  obtain ⟨i, _, h2, h3, _⟩ := info_run hY h w
  simp [sizeOf, h2, h3]
theorem zero_run {t : TypeId} {ti : TI} {z : Value} (h : Y.ty t = some ti) (hz : ti.zero = some z) (w : World) : (zeroValue t).run P w = .ok z w ∧ ∀ H φ, VR H φ z z := by
  obtain ⟨i, _, h2, _, _, h5⟩ := info_run hY h w
  refine ⟨?_, fun _ _ => noAddr_VR (hY.zero t ti z h hz)⟩
  simp [zeroValue, h2, h5, hz]
theorem isAgg_run {t : TypeId} {ti : TI} (h : Y.ty t = some ti) (w : World) : (isAgg t).run P w = .ok ti.k.agg w := by
  obtain ⟨u, _, h2, h3⟩ := und_run hY h w
  simp only [isAgg, Sem.run_bind, h2, Result.andThen_ok, ← h3]
  cases u <;> rfl

/-! loads and stores -/

theorem load_sim (hr : HR B P H φ w) {t : TypeId} {p p' v : Value} (h : eload Y H t p = some v) (hp : VR H φ p p') : Sim0 P H φ w (Instr.loadAt t p') v := by
  unfold eload at h
  cases hp with
  | ptr ha =>
    rename_i a a'
    simp only at h
    split at h
    · rename_i ti hti
      simp only [Instr.loadAt, Instr.sureAddr, loadVar]
      split at h
      · rename_i hagg
        split at h
        · rename_i l hl
          cases h
          obtain ⟨vs', hrun, hvs⟩ := loadCells_ok (P := P) hr ha hl
          refine Sim0.same (v' := .agg vs'.toArray) ?_ (.agg hvs.toArr.1 hvs.toArr.2)
          simp [isAgg_run hY hti, hagg, size_run hY hti, hrun]
        · simp at h
      · rename_i hagg
        obtain ⟨v', hv', hvr⟩ := cell_ok hr h ha
        refine Sim0.same (v' := v') ?_ hvr
        simp [isAgg_run hY hti, hagg, hv']
    · simp at h
  | _ => simp at h

theorem store_sim (hr : HR B P H φ w) {t : TypeId} {p p' v v' : Value} {H' : Heap} (h : estore Y H t p v = some H') (hp : VR H φ p p') (hv : VR H φ v v') :
    ∃ w', (Instr.storeAt t p' v').run P w = .ok () w' ∧ HR B P H' φ w' ∧ Ext H φ w H' φ w' := by
  unfold estore at h
  cases hp with
  | ptr ha =>
    rename_i a a'
    simp only at h
    split at h
    · rename_i ti hti
      split at h
      · rename_i hsz
        have hc := hv.cells
        obtain ⟨w', hrun, hr', he⟩ := storeCells_ok (P := P) _ _ 0 H w H' hr ha hc.toList h
        refine ⟨w', ?_, hr', he⟩
        simp [Instr.storeAt, Instr.sureAddr, storeVar, size_run hY hti, ← hsz, hc.1, hrun]
      · simp at h
    · simp at h
  | _ => simp at h

omit hY in
theorem new_sim (hr : HR B P H φ w) {id : Nat} (hu : ¬ H.used id) (e : TypeId) {cs : List Value} {cs' : Array Value} (extra : List Value) (hc : LR H φ cs cs'.toList) :
    HR B P (enew H id e cs) (upd φ id w.heap.size) (w.alloc (.cells (cs' ++ extra.toArray) e)) ∧ Ext H φ w (enew H id e cs) (upd φ id w.heap.size) (w.alloc (.cells (cs' ++ extra.toArray) e)) ∧
      AR (enew H id e cs) (upd φ id w.heap.size) ⟨id, 0, none⟩ ⟨w.heap.size, 0, none⟩ := by
  have hb := hr.alloc hu (q := 0) (o := .cells (cs' ++ extra.toArray) e) (b := .cells cs e true false) ?_
  · exact ⟨hb.1, hb.2, ⟨.inl rfl, fun _ => ⟨by simp [upd], rfl, rfl⟩⟩⟩
  · have hl : Later H φ (H.set id (.cells cs e true false)) (upd φ id w.heap.size) := later_set hu
    have hlen : cs.length = cs'.size := by simpa using hc.1
    refine ⟨cs' ++ extra.toArray, (0, 0), Array.getElem?_push_size, by simp [hlen], ?_, fun _ => Nat.le_refl _, fun _ => rfl, by simp⟩
    intro i hi hi'
    have hi2 : i < cs'.size := by omega
    rw [Array.getElem_append_left hi2]
    have := hc.2 i hi (by simpa using hi2)
    exact .inr (by simpa using this.mono hl)

omit hY in
theorem new_sim0 (hr : HR B P H φ w) {id : Nat} (hu : ¬ H.used id) (e : TypeId) {cs : List Value} {cs' : Array Value} (hc : LR H φ cs cs'.toList) :
    HR B P (enew H id e cs) (upd φ id w.heap.size) (w.alloc (.cells cs' e)) ∧ Ext H φ w (enew H id e cs) (upd φ id w.heap.size) (w.alloc (.cells cs' e)) ∧
      AR (enew H id e cs) (upd φ id w.heap.size) ⟨id, 0, none⟩ ⟨w.heap.size, 0, none⟩ := by
  have h := new_sim hr hu e [] hc
  simpa using h

theorem alloc_sim (hr : HR B P H φ w) {id : Nat} (hu : ¬ H.used id) {t : TypeId} {ti : TI} {z : Value} (h : Y.ty t = some ti) (hz : ti.zero = some z) :
    Sim P B H φ w (Instr.alloc t true (.tuple #[])) (.pointer (some ⟨id, 0, none⟩)) (enew H id t z.cells.toList) := by
  obtain ⟨h1, h2⟩ := zero_run hY h hz w
  obtain ⟨a, b, c⟩ := new_sim0 hr hu t (h2 H φ).cells.toList
  exact ⟨_, _, _, by simp [Instr.alloc, h1, newVar, newRow], .ptr c, a, b⟩

omit hY in
theorem box_sim (hr : HR B P H φ w) {id : Nat} (hu : ¬ H.used id) (t : TypeId) {v v' : Value} (hv : VR H φ v v') :
    Sim P B H φ w (Instr.box t v') (.pointer (some ⟨id, 0, none⟩)) (enew H id t v.cells.toList) := by
  obtain ⟨a, b, c⟩ := new_sim0 hr hu t hv.cells.toList
  exact ⟨_, _, _, by simp [Instr.box, newVar, newRow], .ptr c, a, b⟩

/-! parts -/

theorem part_ok {t : TypeId} {xs xs' : Array Value} {off : Nat} {v : Value} (h : epart Y t xs off = some v) (hx : ArrR H φ xs xs') : ∃ v', (∀ w, (part t xs' off).run P w = .ok v' w) ∧ VR H φ v v' := by
  unfold epart at h
  split at h
  · rename_i ti hti
    split at h
    · rename_i hagg
      cases h
      refine ⟨.agg (xs'.extract off (off + ti.size)), fun w => ?_, ?_⟩
      · simp [part, isAgg_run hY hti, hagg, size_run hY hti]
      · have : ArrR H φ (xs.extract off (off + ti.size)) (xs'.extract off (off + ti.size)) := by
          refine ⟨by simp [hx.1], fun i hi hi' => ?_⟩
          simp only [Array.getElem_extract]
          exact hx.2 _ _ _
        exact .agg this.1 this.2
    · rename_i hagg
      obtain ⟨hi, hv⟩ := Array.getElem?_eq_some_iff.1 h
      have hi' : off < xs'.size := by rw [← hx.1]; exact hi
      refine ⟨xs'[off], fun w => ?_, hv ▸ hx.2 off hi hi'⟩
      simp [part, isAgg_run hY hti, hagg, hi']
  · simp at h

/-! equality -/

omit hY in
theorem addr_ok (hr : HR B P H φ w) {a b a' b' : Addr} {r : Bool} (h : eaddr H a b = some r) (ha : AR H φ a a') (hb : AR H φ b b') : (sameAddr a' b').run P w = .ok r w := by
  unfold eaddr at h
  split at h
  · rename_i vs e wr fa ws f wr' fb hga hgb
    obtain ⟨ha1, ha2, ha3⟩ := ha.loc (by unfold Heap.live; rw [hga]; simp)
    obtain ⟨hb1, hb2, hb3⟩ := hb.loc (by unfold Heap.live; rw [hgb]; simp)
    split at h
    · rename_i heq
      cases h
      have hbl : a'.block = b'.block := by rw [ha1, hb1, heq]
      have : (a' == b') = (a == b) := by
        obtain ⟨x, y, z⟩ := a
        obtain ⟨x1, y1, z1⟩ := b
        obtain ⟨x2, y2, z2⟩ := a'
        obtain ⟨x3, y3, z3⟩ := b'
        simp only at *
        subst heq ha2 hb2 ha3 hb3 hbl
        rw [Bool.eq_iff_iff]
        simp
      simp [sameAddr, hbl, this]
    · rename_i hne
      split at h
      · simp at h
      · rename_i hfz
        cases h
        simp only [Bool.or_eq_true, not_or, Bool.not_eq_true] at hfz
        obtain ⟨c, fr, hc, hlen, _, hf, _⟩ := hr.blk _ _ hga
        obtain ⟨c2, fr2, hc2, hlen2, _, hf2, _⟩ := hr.blk _ _ hgb
        have hbl : a'.block ≠ b'.block := by
          rw [ha1, hb1]
          intro he
          exact hne (hr.inj _ _ (by unfold Heap.live; rw [hga]; simp) (by unfold Heap.live; rw [hgb]; simp) he)
        have hnf : ∀ o s, w.frozen? ⟨a'.block, o, s⟩ = false := by
          intro o s
          unfold World.frozen?
          rw [ha1]
          simp only [hc]
          have := hf hfz.1
          obtain ⟨l, u⟩ := fr
          simp at this ⊢
          omega
        have hnf2 : ∀ o s, w.frozen? ⟨b'.block, o, s⟩ = false := by
          intro o s
          unfold World.frozen?
          rw [hb1]
          simp only [hc2]
          have := hf2 hfz.2
          obtain ⟨l, u⟩ := fr2
          simp at this ⊢
          omega
        have hs1 : w.shape? a'.block = some (e, c.size) := by unfold World.shape?; rw [ha1, hc]
        have hs2 : w.shape? b'.block = some (f, c2.size) := by unfold World.shape?; rw [hb1, hc2]
        have hfa : w.frozen? a' = false := hnf a'.off a'.spot
        have hfb : w.frozen? b' = false := hnf2 b'.off b'.spot
        have v1 : (viewAt a'.block).run P w = .ok none w := by simp [viewAt, hs1]
        have v2 : (viewAt b'.block).run P w = .ok none w := by simp [viewAt, hs2]
        have s1 : (stringish a').run P w = .ok false w := by simp [stringish, hfa, hs1, hnf]
        have s2 : (stringish b').run P w = .ok false w := by simp [stringish, hfb, hs2, hnf2]
        simp [sameAddr, hbl, hfa, noView, v1, v2, mayBeOne, s1, s2, hs2]
  · simp at h

end types
end Go.Proofs.YtcfjimhbachmlaaGreatDoor.E

/- The clean semantics: each operation is what the model's own does (2: equality, numbers, strings, made values). -/
namespace Go.Proofs.YtcfjimhbachmlaaGreatDoor.E
open Go

variable {B : Nat} {H : Heap} {φ : Mp} {w : World} {P : Program} {Y : Env}

theorem TKof_bool {u : TypeDesc} (h : TKof u = .bool) : u = .bool := by cases u <;> simp_all [TKof]
theorem TKof_int {u : TypeDesc} {k : IntKind} (h : TKof u = .int k) : u = .int k := by cases u <;> simp_all [TKof]
theorem TKof_string {u : TypeDesc} (h : TKof u = .string) : u = .string := by cases u <;> simp_all [TKof]
theorem TKof_pointer {u : TypeDesc} {e : TypeId} (h : TKof u = .pointer e) : u = .pointer e := by cases u <;> simp_all [TKof]
theorem TKof_slice {u : TypeDesc} {e : TypeId} (h : TKof u = .slice e) : u = .slice e := by cases u <;> simp_all [TKof]
theorem TKof_map {u : TypeDesc} {k e : TypeId} (h : TKof u = .map k e) : u = .map k e := by cases u <;> simp_all [TKof]
theorem TKof_array {u : TypeDesc} {n : Nat} {e : TypeId} (h : TKof u = .array n e) : u = .array n e := by cases u <;> simp_all [TKof]
theorem TKof_upointer {u : TypeDesc} (h : TKof u = .upointer) : u = .unsafePointer := by cases u <;> simp_all [TKof]
theorem TKof_struct {u : TypeDesc} {fs : List (TypeId × Nat × Bool)} (h : TKof u = .struct fs) : ∃ g, u = .struct g ∧ fs = g.toList.map fun f => (f.type, f.offset, f.name == "_") := by
  cases u <;> simp_all [TKof]

section types
variable (hY : Y.ok P)
include hY

theorem eqFields_ok {d : Nat} {eq : TypeId → Value → Value → Option Bool} (heq : ∀ t x y x' y' r, eq t x y = some r → VR H φ x x' → VR H φ y y' → (Op.equalIn d t x' y').run P w = .ok r w)
    {xs ys xs' ys' : Array Value} (hx : ArrR H φ xs xs') (hy : ArrR H φ ys ys') : ∀ (g : List Field) (r : Bool), eeqFields Y eq xs ys (g.map fun f => (f.type, f.offset, f.name == "_")) = some r →
      (Op.eqFields d xs' ys' g).run P w = .ok r w := by
  intro g
  induction g with
  | nil => intro r h; cases h; rfl
  | cons f g ih =>
    intro r h
    simp only [List.map_cons, eeqFields] at h
    simp only [Op.eqFields]
    by_cases hb : f.name = "_"
    · simp only [hb, beq_self_eq_true, if_true] at h
      simp [hb, ih r h]
    · have hb' : (f.name == "_") = false := by simpa using hb
      simp only [hb', Bool.false_eq_true, if_false] at h
      split at h
      · rename_i a b ha hb2
        obtain ⟨a', ha', hva⟩ := part_ok hY ha hx
        obtain ⟨b', hb', hvb⟩ := part_ok hY hb2 hy
        simp only [ne_eq, hb, not_false_eq_true, if_true, Sem.run_bind, ha', hb', Result.andThen_ok]
        split at h
        · rename_i he
          rw [heq _ _ _ _ _ _ he hva hvb]
          simp [ih r h]
        · rename_i he
          cases h
          rw [heq _ _ _ _ _ _ he hva hvb]
          simp
        · simp at h
      · simp at h

theorem eqIn_ok (hr : HR B P H φ w) (d : Nat) : ∀ (m : Nat) (t : TypeId) (x y x' y' : Value) (r : Bool), d ≤ m → eeqIn Y H d t x y = some r → VR H φ x x' → VR H φ y y' → (Op.equalIn m t x' y').run P w = .ok r w := by
  induction d with
  | zero => intro m t x y x' y' r _ h; simp [eeqIn] at h
  | succ d ih =>
    intro m t x y x' y' r hm h hx hy
    obtain ⟨m, rfl⟩ : ∃ k, m = k + 1 := ⟨m - 1, by omega⟩
    simp only [eeqIn] at h
    split at h
    · simp at h
    · rename_i ti hti
      obtain ⟨u, hu, hurun, hk⟩ := und_run hY hti w
      split at h
      · rename_i hk2
        have := TKof_bool (hk.trans hk2); subst this
        cases h; cases hx; cases hy
        simp [Op.equalIn, hurun]
      · rename_i k0 k1 n1 k2 n2 hk2
        have := TKof_int (hk.trans hk2); subst this
        split at h
        · rename_i hkk
          cases h; cases hx; cases hy
          subst hkk
          simp [Op.equalIn, hurun]
        · simp at h
      · rename_i s1 s2 hk2
        have := TKof_string (hk.trans hk2); subst this
        cases h; cases hx; cases hy
        rw [run_equalIn_string w m t _ _ hu, ByteArray.toList_eq, ByteArray.toList_eq]
      · rename_i hk2
        have := TKof_pointer (hk.trans hk2); subst this
        cases h; cases hx
        cases hy <;> simp [Op.equalIn, hurun]
      · rename_i hk2
        have := TKof_pointer (hk.trans hk2); subst this
        cases h; cases hx; cases hy
        simp [Op.equalIn, hurun]
      · rename_i e a b hk2
        have := TKof_pointer (hk.trans hk2); subst this
        split at h
        · rename_i te hte
          split at h
          · rename_i hsz
            cases hx; cases hy
            rename_i ha _ hb
            have := addr_ok (P := P) hr h ha hb
            simp only [Op.equalIn, Sem.run_bind, hurun, Result.andThen_ok, size_run hY hte, ne_eq, hsz, not_false_eq_true, Sem.run_ite, if_true]
            exact this
          · simp at h
        · simp at h
      · rename_i hk2
        have := TKof_slice (hk.trans hk2); subst this
        cases h; cases hx
        cases hy <;> simp [Op.equalIn, hurun]
      · rename_i hk2
        have := TKof_slice (hk.trans hk2); subst this
        cases h; cases hx; cases hy
        simp [Op.equalIn, hurun]
      · rename_i fs xs ys hk2
        obtain ⟨g, rfl, hg⟩ := TKof_struct (hk.trans hk2)
        split at h
        · rename_i hpl
          cases hx; cases hy
          rename_i xs' hx1 hx2 ys' hy1 hy2
          have hf : P.fieldsOf t = g := by simp [Program.fieldsOf, hu]
          rw [run_equalIn_struct w m t _ _ (by rw [hf]; exact hu) (hY.plain t hpl).2, hf]
          rw [hg] at h
          exact eqFields_ok hY (fun t x y x' y' r he h1 h2 => ih m t x y x' y' r (by omega) he h1 h2) ⟨hx1, hx2⟩ ⟨hy1, hy2⟩ g.toList r h
        · simp at h
      · simp at h

theorem equal_ok (hr : HR B P H φ w) {t : TypeId} {x y x' y' : Value} {r : Bool} (h : eeqIn Y H 4 t x y = some r) (hx : VR H φ x x') (hy : VR H φ y y') : (Op.equal t x' y').run P w = .ok r w :=
  eqIn_ok hY hr 4 10000 t x y x' y' r (by omega) h hx hy

/-- a comparison is let by: it speaks of no two nil interfaces -/
theorem guard_ok (op : BinOp) {t : TypeId} {x y : Operand} {a b a' b' : Value} {d : Nat} {r : Bool} (h : eeqIn Y H d t a b = some r) (ha : VR H φ a a') (hb : VR H φ b b') : (eqGuard op t x y a' b').run P w = .ok () w := by
  cases d with
  | zero => simp [eeqIn] at h
  | succ d =>
    simp only [eeqIn] at h
    split at h
    · simp at h
    · rename_i ti hti
      split at h
      all_goals (try (cases ha; cases hb; cases op <;> simp [eqGuard]; done))
      · cases ha; cases hb <;> cases op <;> simp [eqGuard]
      · cases ha; cases hb <;> cases op <;> simp [eqGuard]
      · split at h
        · rename_i hpl
          cases ha; cases hb
          exact run_eqGuard_agg w op t x y _ _ (hY.plain t hpl).1
        · simp at h
      · simp at h

omit hY in
theorem eint_ok {op : BinOp} {k : IntKind} {a b : Int} {v : Value} (h : eint op k a b = some v) (hs : op ≠ .shl ∧ op ≠ .shr) (t : TypeId) : (binOp op t (.int k a) (.int k b)).run P w = .ok v w ∧ scalarNA v = true := by
  cases op <;> simp only [eint, ebits] at h <;>
    first
      | (cases h; exact ⟨by simp [binOp, Op.intArith, Op.intBits, Op.intCmp], rfl⟩)
      | (split at h
         · simp at h
         · rename_i hb; cases h; exact ⟨by simp [binOp, Op.intDiv, hb], rfl⟩)
      | (simp at hs; done)
      | (simp at h; done)

omit hY in
theorem eshift_ok {op : BinOp} {k yk : IntKind} {a b : Int} {v : Value} (h : eshift op k a b = some v) (hs : op = .shl ∨ op = .shr) (t : TypeId) : (binOp op t (.int k a) (.int yk b)).run P w = .ok v w ∧ scalarNA v = true := by
  unfold eshift at h
  split at h
  · simp at h
  · rename_i hb
    rcases hs with rfl | rfl <;> (cases h; exact ⟨by simp [binOp, Op.shift, hb], rfl⟩)

omit hY in
theorem estr_ok {op : BinOp} {a b : ByteArray} {v : Value} (h : estr op a b = some v) (t : TypeId) : (binOp op t (.string a) (.string b)).run P w = .ok v w ∧ scalarNA v = true := by
  have hm : IntKind.i64.max = 9223372036854775807 := by decide
  cases op <;> simp only [estr] at h <;>
    first
      | (cases h; exact ⟨by simp [binOp, Op.stringOp, ByteArray.toList_eq], rfl⟩)
      | (split at h
         · rename_i hb
           cases h
           refine ⟨?_, rfl⟩
           have : ¬ (((a.size + b.size : Nat) : Int) > IntKind.i64.max) := by rw [hm]; omega
           simp only [binOp, Op.stringOp, this, if_false]; rfl
         · simp at h)
      | (simp at h; done)

theorem bin_sim (hr : HR B P H φ w) {op : BinOp} {t : TypeId} {x y : Operand} {a b a' b' v : Value} (h : ebin Y H op t a b = some v) (ha : VR H φ a a') (hb : VR H φ b b') :
    Sim0 P H φ w (do eqGuard op t x y a' b'; binOp op t a' b') v := by
  have int_guard : ∀ (k k' : IntKind) (m n : Int), (eqGuard op t x y (.int k m) (.int k' n)).run P w = .ok () w := by intro k k' m n; cases op <;> simp [eqGuard]
  have str_guard : ∀ (m n : ByteArray), (eqGuard op t x y (.string m) (.string n)).run P w = .ok () w := by intro m n; cases op <;> simp [eqGuard]
  unfold ebin at h
  split at h
  · cases ha; cases hb
    obtain ⟨h1, h2⟩ := eshift_ok (P := P) (w := w) (yk := by assumption) h (.inl rfl) t
    exact Sim0.same (by simp [int_guard, h1]) (scalar_VR h2)
  · cases ha; cases hb
    obtain ⟨h1, h2⟩ := eshift_ok (P := P) (w := w) (yk := by assumption) h (.inr rfl) t
    exact Sim0.same (by simp [int_guard, h1]) (scalar_VR h2)
  · rename_i hn1 hn2
    cases ha; cases hb
    split at h
    · rename_i hk
      subst hk
      obtain ⟨h1, h2⟩ := eint_ok (P := P) (w := w) h ⟨hn1, hn2⟩ t
      exact Sim0.same (by simp [int_guard, h1]) (scalar_VR h2)
    · simp at h
  · cases ha; cases hb
    obtain ⟨h1, h2⟩ := estr_ok (P := P) (w := w) h t
    exact Sim0.same (by simp [str_guard, h1]) (scalar_VR h2)
  · split at h
    · rename_i hsh
      split at h
      · rename_i r hq
        cases h
        have h1 := equal_ok hY hr hq ha hb
        have h2 := guard_ok hY .eql (x := x) (y := y) (w := w) hq ha hb
        refine Sim0.same (v' := .bool r) ?_ (.bool r)
        simp only [Sem.run_bind, h2, Result.andThen_ok]
        cases ha <;> cases hb <;> first | (simp [eqShape] at hsh; done) | (simp [binOp, h1]; done)
      · simp at h
    · simp at h
  · split at h
    · rename_i hsh
      split at h
      · rename_i r hq
        cases h
        have h1 := equal_ok hY hr hq ha hb
        have h2 := guard_ok hY .neq (x := x) (y := y) (w := w) hq ha hb
        refine Sim0.same (v' := .bool !r) ?_ (.bool _)
        simp only [Sem.run_bind, h2, Result.andThen_ok]
        cases ha <;> cases hb <;> first | (simp [eqShape] at hsh; done) | (simp [binOp, h1]; done)
      · simp at h
    · simp at h
  · simp at h

omit hY in
theorem un_sim (hr : HR B P H φ w) {op : UnOp} {a a' v : Value} (h : eun op a = some v) (ha : VR H φ a a') : Sim0 P H φ w (Op.unary op a') v := by
  unfold eun at h
  split at h
  · cases ha; cases h
    exact Sim0.same (by simp [Op.unary, Op.intArith]) (.int _ _)
  · cases ha; cases h
    exact Sim0.same (by simp [Op.unary]) (.bool _)
  · simp at h

end types
end Go.Proofs.YtcfjimhbachmlaaGreatDoor.E

/- The clean semantics: each operation is what the model's own does (3: built values, places, slices). -/
namespace Go.Proofs.YtcfjimhbachmlaaGreatDoor.E
open Go

variable {B : Nat} {H : Heap} {φ : Mp} {w : World} {P : Program} {Y : Env}

theorem foldl_set (off : Nat) : ∀ (l : List Value) (k : Nat) (cs : Array Value), off + k + l.length ≤ cs.size →
    ((l.zipIdx k).foldl (fun cs (p : Value × Nat) => cs.setIfInBounds (off + p.2) p.1) cs).toList = splice cs.toList (off + k) l := by
  intro l
  induction l with
  | nil => intro k cs _; simp [splice]
  | cons x l ih =>
    intro k cs h
    simp only [List.length_cons] at h
    simp only [List.zipIdx_cons, List.foldl_cons]
    rw [ih (k + 1) _ (by simp; omega)]
    simp only [splice, Array.toList_setIfInBounds]
    have h1 : off + k < cs.toList.length := by simp; omega
    rw [List.set_eq_take_append_cons_drop, if_pos h1]
    have e1 : off + (k + 1) = (off + k) + 1 := by omega
    have e2 : (cs.toList.take (off + k)).length = off + k := by simp; omega
    rw [e1]
    rw [List.take_append, List.drop_append]
    rw [e2]
    have : (off + k + 1 + l.length) - (off + k) = l.length + 1 := by omega
    rw [this]
    simp only [List.drop_succ_cons]
    have e3 : off + k + 1 - (off + k) = 1 := by omega
    rw [e3]
    simp only [List.take_succ_cons, List.take_zero]
    rw [List.take_of_length_le (by omega), List.drop_eq_nil_of_le (by omega)]
    simp only [List.drop_drop, List.length_cons, List.nil_append, List.append_assoc, List.cons_append]
    congr 3
    congr 1
    omega

theorem LR.splice {cs cs' l l' : List Value} (off : Nat) (h : LR H φ cs cs') (hl : LR H φ l l') : LR H φ (splice cs off l) (splice cs' off l') := by
  unfold E.splice
  rw [← hl.1]
  exact ((h.take off).append hl).append (h.drop _)

/-- parts of the same places, with related values -/
def PartsR (H : Heap) (φ : Mp) : List (Nat × Value) → List (Nat × Value) → Prop
  | [], [] => True
  | (i, v) :: l, (j, u) :: m => i = j ∧ VR H φ v u ∧ PartsR H φ l m
  | _, _ => False

theorem fill_ok {place : Nat → Option (Nat × Nat)} : ∀ (parts parts' : List (Nat × Value)) (cs r : List Value) (cs' : Array Value), efill place cs parts = some r → LR H φ cs cs'.toList → PartsR H φ parts parts' →
    ∃ r', Instr.fill place cs' parts' = some r' ∧ LR H φ r r'.toList := by
  intro parts
  induction parts with
  | nil =>
    intro parts' cs r cs' h hc hp
    cases parts' with
    | nil => cases h; exact ⟨cs', rfl, hc⟩
    | cons _ _ => exact hp.elim
  | cons p parts ih =>
    intro parts' cs r cs' h hc hp
    obtain ⟨i, v⟩ := p
    cases parts' with
    | nil => exact hp.elim
    | cons q parts' =>
      obtain ⟨j, u⟩ := q
      obtain ⟨rfl, hv, hp⟩ := hp
      simp only [efill] at h
      simp only [Instr.fill]
      split at h
      · simp at h
      · rename_i off size hpl
        split at h
        · rename_i hcond
          have hvc := hv.cells
          have hlen : cs.length = cs'.size := by simpa using hc.1
          have hsz : u.cells.size = size := by rw [← hvc.1]; exact hcond.1
          have hb : off + u.cells.size ≤ cs'.size := by omega
          have hsp := foldl_set off u.cells.toList 0 cs' (by simp; omega)
          simp only [Nat.add_zero] at hsp
          have hcond2 : ¬ ((u.cells.size ≠ size || decide (off + u.cells.size > cs'.size)) = true) := by simp [hsz]; omega
          simp only [hpl]
          have hz : Array.foldl (fun cs (x : Value × Nat) => cs.setIfInBounds (off + x.2) x.1) cs' u.cells.zipIdx = (u.cells.toList.zipIdx 0).foldl (fun cs (p : Value × Nat) => cs.setIfInBounds (off + p.2) p.1) cs' := by
            rw [← Array.foldl_toList]; simp
          obtain ⟨r', hr', hl'⟩ := ih parts' _ r ((u.cells.toList.zipIdx 0).foldl (fun cs (p : Value × Nat) => cs.setIfInBounds (off + p.2) p.1) cs') h (by rw [hsp]; exact hc.splice off hvc.toList) hp
          refine ⟨r', ?_, hl'⟩
          rw [← hr', ← hz]
          simp only [ne_eq, decide_not, hsz, decide_true, Bool.not_true, Bool.false_or, decide_eq_true_eq]
          rw [if_neg (by omega)]
        · simp at h

theorem run_mapM_list {α β : Type} {f : α → Sem β} {g : α → β} {w : World} : ∀ (l : List α), (∀ x ∈ l, (f x).run P w = .ok (g x) w) → (l.mapM f).run P w = .ok (l.map g) w := by
  intro l
  induction l with
  | nil => intro _; rfl
  | cons x l ih =>
    intro h
    rw [List.mapM_cons]
    simp only [Sem.run_bind, h x (by simp), Result.andThen_ok, ih (fun y hy => h y (by simp [hy]))]
    rfl

theorem run_mapM_array {α β : Type} {f : α → Sem β} {g : α → β} {w : World} (l : Array α) (h : ∀ x ∈ l.toList, (f x).run P w = .ok (g x) w) : (l.mapM f).run P w = .ok (l.map g) w := by
  have h1 : (Array.toList <$> l.mapM f).run P w = .ok (l.toList.map g) w := by
    rw [Array.toList_mapM]
    exact run_mapM_list l.toList h
  simp only [Sem.run_map] at h1
  generalize hr : (l.mapM f).run P w = r at h1 ⊢
  cases r with
  | halt x w' => simp [Result.andThen] at h1
  | ok a w' =>
    simp only [Result.andThen_ok, Result.ok.injEq] at h1
    obtain ⟨h1, rfl⟩ := h1
    congr 1
    apply Array.toList_inj.1
    rw [h1]; simp

section types
variable (hY : Y.ok P)
include hY

theorem cellsOf_eq {t : TypeId} {ti : TI} (h : Y.ty t = some ti) : P.cellsOf t = ti.size := by
  obtain ⟨u, i, _, h2, _, h4, _⟩ := hY.ty t ti h
  simp [Program.cellsOf, h2, h4]

theorem sizesOf_ok : ∀ (g : List Field) (pl : List (Nat × Nat)), sizesOf Y (g.map fun f => (f.type, f.offset, f.name == "_")) = some pl →
    (∀ f ∈ g, ∀ w, (sizeOf f.type).run P w = .ok (P.cellsOf f.type) w) ∧ pl = g.map fun f => (f.offset, P.cellsOf f.type) := by
  intro g
  induction g with
  | nil => intro pl h; cases h; exact ⟨by simp, rfl⟩
  | cons f g ih =>
    intro pl h
    simp only [List.map_cons, sizesOf] at h
    split at h
    · rename_i ti l hti hl
      cases h
      obtain ⟨hsz, rfl⟩ := ih l hl
      refine ⟨fun x hx w => ?_, by rw [List.map_cons, cellsOf_eq hY hti]⟩
      rcases List.mem_cons.1 hx with he | hx
      · rw [he, cellsOf_eq hY hti]; exact size_run hY hti w
      · exact hsz x hx w
    · simp at h

theorem build_sim (hr : HR B P H φ w) {t : TypeId} {parts : List (Nat × Value)} {parts' : Array (Nat × Value)} {v : Value} (h : ebuild Y t parts = some v) (hp : PartsR H φ parts parts'.toList) :
    Sim0 P H φ w (Instr.build t parts') v := by
  unfold ebuild at h
  split at h
  · rename_i ti hti
    split at h
    · rename_i fs z hk hz
      obtain ⟨u, hu, hurun, hk2⟩ := und_run hY hti w
      obtain ⟨g, rfl, hg⟩ := TKof_struct (hk2.trans hk)
      obtain ⟨hzr, hzv⟩ := zero_run hY hti hz w
      split at h
      · rename_i pl hpl
        rw [hg] at hpl
        obtain ⟨hsz, rfl⟩ := sizesOf_ok hY g.toList pl hpl
        split at h
        · rename_i cs hcs
          cases h
          obtain ⟨r', hr', hl'⟩ := fill_ok parts parts'.toList _ cs z.cells hcs (hzv H φ).cells.toList hp
          have hm : (g.mapM fun f => do pure (f.offset, ← sizeOf f.type) : Sem (Array (Nat × Nat))).run P w = .ok (g.map fun f => (f.offset, P.cellsOf f.type)) w :=
            run_mapM_array g fun x hx => by simp [hsz x hx]
          refine Sim0.same (v' := .agg r') ?_ (.agg (by simpa using hl'.toArr.1) (by simpa using hl'.toArr.2))
          have hpl2 : (fun (i : Nat) => (g.map fun f => (f.offset, P.cellsOf f.type))[i]?) = (fun (i : Nat) => (g.toList.map fun f => (f.offset, P.cellsOf f.type))[i]?) := by
            funext i; simp
          simp only [Instr.build, Sem.run_bind, hzr, hurun, Result.andThen_ok, hm]
          have hr2 : Instr.fill (fun x => (g.map fun f => (f.offset, P.cellsOf f.type))[x]?) z.cells parts'.toList = some r' := by rw [hpl2]; exact hr'
          rw [hr2]
          rfl
        · simp at h
      · simp at h
    · simp at h
  · simp at h

omit hY in
theorem range_arr (n : Nat) (z : Array Value) : ((Array.range n).map (fun i => z[i % z.size]!)).toList = (List.range n).map fun i => z[i % z.size]! := by simp

omit hY in
theorem range_LR {z z' : Array Value} (h : ArrR H φ z z') (hz : 0 < z.size) (n : Nat) : LR H φ ((List.range n).map fun i => z[i % z.size]!) ((List.range n).map fun i => z'[i % z'.size]!) := by
  refine ⟨by simp, fun i hi hi' => ?_⟩
  simp only [List.getElem_map, List.getElem_range]
  have h1 : i % z.size < z.size := Nat.mod_lt _ hz
  have h2 : i % z.size < z'.size := by rw [← h.1]; exact h1
  rw [← h.1]
  rw [getElem!_pos z _ h1, getElem!_pos z' _ h2]
  exact h.2 _ _ _

theorem buildSlice_sim (hr : HR B P H φ w) {id : Nat} (hu : ¬ H.used id) {t : TypeId} {len : Nat} {parts : List (Nat × Value)} {parts' : Array (Nat × Value)} {v : Value} {H' : Heap}
    (h : ebuildSlice Y H id t len parts = some (v, H')) (hp : PartsR H φ parts parts'.toList) : Sim P B H φ w (Instr.buildSlice t len parts') v H' := by
  unfold ebuildSlice at h
  split at h
  · rename_i ti hti
    split at h
    · rename_i e hk
      obtain ⟨u, hu2, hurun, hk2⟩ := und_run hY hti w
      have := TKof_slice (hk2.trans hk); subst this
      split at h
      · rename_i te hte
        split at h
        · rename_i z hz
          obtain ⟨hzr, hzv⟩ := zero_run hY hte hz w
          split at h
          · rename_i hc
            split at h
            · rename_i cs hcs
              cases h
              have hzc := (hzv H φ).cells
              obtain ⟨r', hr', hl'⟩ := fill_ok parts parts'.toList _ cs ((Array.range (len * te.size)).map fun i => z.cells[i % z.cells.size]!) hcs (by rw [range_arr]; exact range_LR hzc hc.2.1 _) hp
              obtain ⟨a, b, c⟩ := new_sim0 hr hu e hl'
              refine ⟨.slice (some ⟨w.heap.size, 0, none⟩) len len, _, _, ?_, .slice c ⟨Nat.le_refl _, .inl ⟨hc.2.2, rfl⟩⟩, a, b⟩
              have hgt : ¬ (len * te.size > 2 ^ 24) := by omega
              by_cases h0 : len * te.size = 0
              · have e0 : (Array.range (len * te.size)).map (fun i => (#[] : Array Value)[i % (#[] : Array Value).size]!) = (Array.range (len * te.size)).map fun i => z.cells[i % z.cells.size]! := by rw [h0]; simp
                simp only [Instr.buildSlice, Sem.run_bind, hurun, Result.andThen_ok, size_run hY hte, if_neg hgt, if_pos h0, Sem.run_pure]
                rw [e0, hr']
                simp [newRow]
              · simp only [Instr.buildSlice, Sem.run_bind, hurun, Result.andThen_ok, size_run hY hte, if_neg hgt, if_neg h0, Sem.run_pure, hzr]
                rw [hr']
                simp [newRow]
            · simp at h
          · simp at h
        · simp at h
      · simp at h
    · simp at h
  · simp at h

omit hY in
theorem wrap_i64 {n : Int} (h0 : 0 ≤ n) (h : n ≤ 9223372036854775807) : IntKind.i64.wrap n = n := by
  have e : n % (2 ^ 64 : Int) = n := Int.emod_eq_of_lt h0 (by omega)
  simp only [IntKind.wrap, IntKind.bits, IntKind.signed, e, Bool.true_and]
  rw [if_neg (by simp; omega)]

theorem makeSlice_sim (hr : HR B P H φ w) {id : Nat} (hu : ¬ H.used id) {t : TypeId} {l c l' c' : Value} {v : Value} {H' : Heap}
    (h : emakeSlice Y H id t l c = some (v, H')) (hl : VR H φ l l') (hc : VR H φ c c') : Sim P B H φ w (Instr.makeSlice t l' c') v H' := by
  unfold emakeSlice at h
  split at h
  · rename_i n m
    cases hl; cases hc
    split at h
    · rename_i ti hti
      split at h
      · rename_i e hk
        obtain ⟨u, hu2, hurun, hk2⟩ := und_run hY hti w
        have := TKof_slice (hk2.trans hk); subst this
        split at h
        · rename_i te hte
          split at h
          · rename_i z hz
            obtain ⟨hzr, hzv⟩ := zero_run hY hte hz w
            obtain ⟨i, hi, hirun, hsz, hby, _⟩ := info_run hY hte w
            split at h
            · rename_i hcond
              obtain ⟨h1, h2, h3, h4, h5⟩ := hcond
              cases h
              have wn : IntKind.i64.wrap n = n := wrap_i64 h1 (by omega)
              have wm : IntKind.i64.wrap m = m := wrap_i64 (by omega) (by omega)
              have hzc := (hzv H φ).cells
              obtain ⟨a, b, cc⟩ := new_sim0 hr hu e (cs := (List.range (m.toNat * te.size)).map fun i => z.cells[i % z.cells.size]!) (cs' := (Array.range (m.toNat * te.size)).map fun i => z.cells[i % z.cells.size]!) (by rw [range_arr]; exact range_LR hzc h5 _)
              refine ⟨.slice (some ⟨w.heap.size, 0, none⟩) n.toNat m.toNat, _, _, ?_, .slice cc ⟨by omega, .inl ⟨by unfold unk; omega, rfl⟩⟩, a, b⟩
              have t1 : (m < 0 || decide ((i.bytes : Int) * m > 2 ^ 48)) = false := by rw [hby]; simp; omega
              have t2 : (decide (n < 0)) = false := by simp; omega
              have t3 : (decide (n > m)) = false := by simp; omega
              by_cases h0 : m.toNat * te.size = 0
              · have e0 : (Array.range (m.toNat * te.size)).map (fun i => (#[] : Array Value)[i % (#[] : Array Value).size]!) = (Array.range (m.toNat * te.size)).map fun i => z.cells[i % z.cells.size]! := by rw [h0]; simp
                simp only [Instr.makeSlice, Sem.run_bind, hurun, Result.andThen_ok, asInt, asIntOf, Sem.run_pure, hirun, wn, wm, t1, t2, t3, Bool.or_self, Bool.false_eq_true, if_false, run_askRoom, size_run hY hte, if_pos h0]
                rw [e0]
                simp [newRow]
              · simp only [Instr.makeSlice, Sem.run_bind, hurun, Result.andThen_ok, asInt, asIntOf, Sem.run_pure, hirun, wn, wm, t1, t2, t3, Bool.or_self, Bool.false_eq_true, if_false, run_askRoom, size_run hY hte, if_neg h0, hzr]
                simp [newRow]
            · simp at h
          · simp at h
        · simp at h
      · simp at h
    · simp at h
  · simp at h

end types
end Go.Proofs.YtcfjimhbachmlaaGreatDoor.E

/- The clean semantics: each operation is what the model's own does (4: slices, places, conversions). -/
namespace Go.Proofs.YtcfjimhbachmlaaGreatDoor.E
open Go

variable {B : Nat} {H : Heap} {φ : Mp} {w : World} {P : Program} {Y : Env}

theorem HR.ghost (hr : HR B P H φ w) {id : Nat} (hu : ¬ H.used id) : HR B P (H.ghost id) φ w ∧ Ext H φ w (H.ghost id) φ w := by
  have hl : Later H φ (H.ghost id) φ := ⟨by simp only [Heap.ghost]; split <;> omega, fun i hi => .inr hi, fun i _ h => h, fun _ _ _ => rfl, fun _ _ _ => rfl⟩
  refine ⟨⟨hr.size, ?_, fun i hi => .inr (hr.liv i hi), fun i hi => .inr (hr.glob i hi), hr.gid, fun i b hi => (hr.blk i b hi).mono hl rfl, hr.own, hr.inj, ⟨.inr hr.dead.1, hr.dead.2⟩⟩,
    { Ext.refl H φ w with nxt := hl.nxt, used := hl.used, live := hl.live, map := hl.map, cap := hl.cap }⟩
  intro i hi
  simp only [Heap.ghost]
  rcases hi with rfl | hi
  · split <;> omega
  · have := hr.lt i hi; split <;> omega

/-- a bound that may be absent -/
def OptR (H : Heap) (φ : Mp) : Option Value → Option Value → Prop
  | none, none => True
  | some v, some v' => VR H φ v v'
  | _, _ => False

theorem ebound_some {v v' : Value} {d y y' r : Nat} (h : ebound (some v) d y = some r) (hv : VR H φ v v') (hy : y ≤ y') (code : BoundsCode) : (Instr.sliceBound v' y' code).run P w = .ok r w ∧ r ≤ y := by
  unfold ebound at h
  split at h
  · simp_all
  · rename_i k i heq
    cases heq
    cases hv
    split at h
    · rename_i hc
      cases h
      refine ⟨?_, by omega⟩
      have : 0 ≤ i ∧ i ≤ (y' : Int) := ⟨hc.1, by omega⟩
      simp [Instr.sliceBound, asIntOf, this]
    · simp at h
  · simp at h

theorem ebound_none {d y r : Nat} (h : ebound none d y = some r) : r = d := by
  simp [ebound] at h; exact h.symm

section types
variable (hY : Y.ok P)
include hY

theorem slice_simG (hr : HR B P H φ w) {id : Nat} (hu : ¬ H.used id) {t : TypeId} {x x' : Value} {lo hi mx lo' hi' mx' : Option Value} {v : Value}
    {gb : Bool} (h : esliceG Y id t x lo hi mx = some (v, gb)) (hx : VR H φ x x') (hlo : OptR H φ lo lo') (hhi : OptR H φ hi hi') (hmx : OptR H φ mx mx') : (gb = false → Sim0 P H φ w (Instr.sliceAt t x' lo' hi' mx') v) ∧ (gb = true → Sim P B H φ w (Instr.sliceAt t x' lo' hi' mx') v (H.ghost id)) := by
  unfold esliceG at h
  split at h
  · simp at h
  · rename_i ti hti
    obtain ⟨u, hu2, hurun, hk2⟩ := und_run hY hti w
    split at h
    · rename_i s hk
      have := TKof_string (hk2.trans hk); subst this
      cases hx
      split at h
      · simp at h
      · rename_i hm
        cases mx with
        | some m => simp at hm
        | none =>
          cases mx' with
          | some _ => exact hmx.elim
          | none =>
            split at h
            · simp at h
            · rename_i hh hhe
              split at h
              · simp at h
              · rename_i l hle
                cases h
                refine ⟨fun _ => ?_, (fun h => nomatch h)⟩
                have hH : (Instr.sliceBounds false s.size s.size lo' hi' none).run P w = .ok (l, hh, s.size) w := by
                  cases hi with
                  | none =>
                    cases hi' with
                    | some _ => exact hhi.elim
                    | none =>
                      have := ebound_none hhe; subst this
                      cases lo with
                      | none =>
                        cases lo' with
                        | some _ => exact hlo.elim
                        | none => have := ebound_none hle; subst this; simp [Instr.sliceBounds]
                      | some b =>
                        cases lo' with
                        | none => exact hlo.elim
                        | some b' => simp [Instr.sliceBounds, (ebound_some (P := P) (w := w) hle hlo (Nat.le_refl _) .sliceB).1]
                  | some c =>
                    cases hi' with
                    | none => exact hhi.elim
                    | some c' =>
                      have e1 := (ebound_some (P := P) (w := w) hhe hhi (Nat.le_refl _) .sliceAlen).1
                      cases lo with
                      | none =>
                        cases lo' with
                        | some _ => exact hlo.elim
                        | none => have := ebound_none hle; subst this; simp [Instr.sliceBounds, e1]
                      | some b =>
                        cases lo' with
                        | none => exact hlo.elim
                        | some b' => simp [Instr.sliceBounds, e1, (ebound_some (P := P) (w := w) hle hlo (Nat.le_refl _) .sliceB).1]
                refine Sim0.same (v' := .string (s.extract l hh)) ?_ (.string _)
                simp [Instr.sliceAt, hurun, Instr.slice, hH]
    · rename_i e a len cap hk
      have := TKof_slice (hk2.trans hk); subst this
      split at h
      · simp at h
      · rename_i te hte
        split at h
        · simp at h
        · rename_i hmh
          -- the bounds in the model
          have bounds : ∀ (c' m y l hh : Nat), ((mx = none ∧ m = c') ∨ (∃ mv, mx = some mv ∧ ebound (some mv) 0 c' = some m)) → y ≤ m → ebound hi len y = some hh → ebound lo 0 hh = some l →
              (Instr.sliceBounds true len c' lo' hi' mx').run P w = .ok (l, hh, m) w := by
            intro c' m y l hh hmm hym hhe hle
            rcases hmm with ⟨rfl, rfl⟩ | ⟨mv, rfl, hmv⟩
            · cases mx' with
              | some _ => exact hmx.elim
              | none =>
                cases hi with
                | none =>
                  cases hi' with
                  | some _ => exact hhi.elim
                  | none =>
                    have := ebound_none hhe; subst this
                    simp only [Instr.sliceBounds, Sem.run_bind, Sem.run_pure, Result.andThen_ok, Option.isSome_none, Bool.false_eq_true, if_false]
                    cases lo with
                    | none =>
                      cases lo' with
                      | some _ => exact hlo.elim
                      | none => have := ebound_none hle; subst this; rfl
                    | some b =>
                      cases lo' with
                      | none => exact hlo.elim
                      | some b' => simp only [Sem.run_bind]; rw [(ebound_some (P := P) (w := w) hle hlo (Nat.le_refl _) .sliceB).1]; rfl
                | some c =>
                  cases hi' with
                  | none => exact hhi.elim
                  | some c2 =>
                    have e1 := (ebound_some (P := P) (w := w) hhe hhi hym .sliceAcap).1
                    simp only [Instr.sliceBounds, Sem.run_bind, Sem.run_pure, Result.andThen_ok, Option.isSome_none, Bool.false_eq_true, if_false, if_true, e1]
                    cases lo with
                    | none =>
                      cases lo' with
                      | some _ => exact hlo.elim
                      | none => have := ebound_none hle; subst this; rfl
                    | some b =>
                      cases lo' with
                      | none => exact hlo.elim
                      | some b' => simp only [Sem.run_bind]; rw [(ebound_some (P := P) (w := w) hle hlo (Nat.le_refl _) .sliceB).1]; rfl
            · cases mx' with
              | none => exact hmx.elim
              | some mv' =>
                have e0 := (ebound_some (P := P) (w := w) hmv hmx (Nat.le_refl _) .slice3Acap).1
                cases hi with
                | none => simp at hmh
                | some c =>
                  cases hi' with
                  | none => exact hhi.elim
                  | some c2 =>
                    have e1 := (ebound_some (P := P) (w := w) hhe hhi hym .slice3B).1
                    simp only [Instr.sliceBounds, Sem.run_bind, Result.andThen_ok, Option.isSome_some, if_true, e0, e1]
                    cases lo with
                    | none =>
                      cases lo' with
                      | some _ => exact hlo.elim
                      | none => have := ebound_none hle; subst this; rfl
                    | some b =>
                      cases lo' with
                      | none => exact hlo.elim
                      | some b' => simp only [Sem.run_bind]; rw [(ebound_some (P := P) (w := w) hle hlo (Nat.le_refl _) .slice3C).1]; rfl
          have loLe : ∀ hh l, ebound lo 0 hh = some l → l ≤ hh := by
            intro hh l hl
            cases lo with
            | none => have := ebound_none hl; omega
            | some b =>
              cases lo' with
              | none => exact hlo.elim
              | some b' => exact (ebound_some (P := P) (w := w) hl hlo (Nat.le_refl _) .sliceB).2
          split at h
          · simp at h
          · -- the capacity is not known
            rename_i hkn
            have hmx0 : mx = none ∧ cap = unk := by
              unfold eknown at hkn
              split at hkn
              · split at hkn
                · rename_i hc; exact ⟨rfl, hc⟩
                · split at hkn <;> simp at hkn
              · split at hkn <;> simp at hkn
              · simp at hkn
            obtain ⟨hmx1, hcu⟩ := hmx0
            split at h
            · simp at h
            · rename_i b
              cases hx with
              | slice ha hc =>
                rename_i b' c'
                split at h
                · simp at h
                · rename_i hh hhe
                  have hhl : hh ≤ len := by
                    cases hi with
                    | none => have := ebound_none hhe; omega
                    | some c =>
                      cases hi' with
                      | none => exact hhi.elim
                      | some c2 => exact (ebound_some (P := P) (w := w) hhe hhi (Nat.le_refl _) .sliceB).2
                  split at h
                  · simp at h
                  · rename_i l hle
                    have hcap : H.live b.block → b.off = 0 → c' ≤ φ.cap b.block := by
                      intro h1 h2
                      rcases hc.2 with h3 | h3
                      · omega
                      · exact h3.2 h1 h2
                    have hll := loLe hh l hle
                    have hb := bounds c' c' len l hh (.inl ⟨hmx1, rfl⟩) hc.1 hhe hle
                    have hres : (Instr.sliceAt t (.slice (some b') len c') lo' hi' mx').run P w = .ok (.slice (if c' = l then some b' else some (b'.add (l * te.size))) (hh - l) (c' - l)) w := by
                      simp [Instr.sliceAt, hurun, Instr.slice, hb, size_run hY hte]
                    split at h
                    · rename_i hl0
                      cases h
                      refine ⟨fun _ => ?_, (fun h => nomatch h)⟩
                      subst hl0
                      refine Sim0.same hres ?_
                      have : (if c' = 0 then some b' else some (b'.add (0 * te.size))) = some b' := by simp [Addr.add]
                      rw [this]
                      exact .slice ha ⟨by have := hc.1; omega, .inr ⟨rfl, fun h1 h2 => by simpa using hcap h1 h2⟩⟩
                    · rename_i hl0
                      split at h
                      · rename_i hlt
                        split at h
                        · rename_i hsz
                          cases h
                          refine ⟨fun _ => ?_, (fun h => nomatch h)⟩
                          refine Sim0.same hres ?_
                          have := hc.1
                          rw [if_neg (by omega)]
                          have hpos : 0 < l * te.size := Nat.mul_pos (by omega) hsz
                          exact .slice (ha.add _) ⟨by omega, .inr ⟨rfl, fun h1 h2 => by unfold Addr.add at h2; rw [if_neg (by omega)] at h2; simp at h2; omega⟩⟩
                        · simp at h
                      · rename_i hlt
                        cases h
                        refine ⟨fun _ => ?_, (fun h => nomatch h)⟩
                        refine Sim0.same hres ?_
                        rw [hY.dead]
                        have h0 : hh - l = 0 := by omega
                        rw [h0]
                        have hdead := hr.dead.2
                        split
                        · exact .slice ⟨hr.dead.1, fun hl => (hdead hl).elim⟩ ⟨Nat.zero_le _, .inr ⟨rfl, fun hl => (hdead hl).elim⟩⟩
                        · exact .slice ⟨hr.dead.1, fun hl => (hdead hl).elim⟩ ⟨Nat.zero_le _, .inr ⟨rfl, fun hl => (hdead hl).elim⟩⟩
          · -- it is
            rename_i m hkn
            split at h
            · simp at h
            · rename_i hh hhe
              split at h
              · simp at h
              · rename_i l hle
                cases h
                refine ⟨fun _ => ?_, (fun h => nomatch h)⟩
                have hll := loLe hh l hle
                have key : ∀ c', (len ≤ c' ∧ (cap = c' ∨ cap = unk)) ∨ (cap = c') → ((mx = none ∧ m = c') ∨ (∃ mv, mx = some mv ∧ ebound (some mv) 0 c' = some m)) := by
                  intro c' hc
                  unfold eknown at hkn
                  split at hkn
                  · split at hkn
                    · simp at hkn
                    · rename_i hcu
                      split at hkn
                      · left
                        refine ⟨rfl, ?_⟩
                        cases hkn
                        rcases hc with hc | hc
                        · exact hc.2.resolve_right hcu
                        · exact hc
                      · simp at hkn
                  · rename_i k i
                    right
                    refine ⟨_, rfl, ?_⟩
                    split at hkn
                    · rename_i hcond
                      cases hkn
                      have : i ≤ (c' : Int) := by
                        have h1 := hcond.2.1
                        unfold capLow at h1
                        split at h1
                        · rcases hc with hc | hc
                          · have := hc.1; omega
                          · rename_i hcu; omega
                        · rename_i hcu
                          rcases hc with hc | hc
                          · have := hc.2.resolve_right hcu; omega
                          · omega
                      simp [ebound, hcond.1, this]
                    · simp at hkn
                  · simp at hkn
                have hmu : m < unk := by
                  unfold eknown at hkn
                  split at hkn
                  · split at hkn
                    · simp at hkn
                    · split at hkn
                      · rename_i h1; cases hkn; exact h1
                      · simp at hkn
                  · split at hkn
                    · rename_i h1; cases hkn; exact h1.2.2
                    · simp at hkn
                  · simp at hkn
                have hhm : hi = none → mx = none := by
                  intro h1; subst h1
                  cases mx with
                  | none => rfl
                  | some _ => simp at hmh
                cases hx with
                | slice0 =>
                  have hb := bounds cap m m l hh (key cap (.inr rfl)) (Nat.le_refl _) hhe hle
                  refine Sim0.same (v' := .slice none (hh - l) (m - l)) ?_ (by simp; exact .slice0 _ _)
                  simp [Instr.sliceAt, hurun, Instr.slice, hb, size_run hY hte]
                | slice ha hc =>
                  rename_i b b' c'
                  have hb := bounds c' m m l hh (key c' (.inl ⟨hc.1, hc.2.imp (fun h => h.2) fun h => h.1⟩)) (Nat.le_refl _) hhe hle
                  have hhle : hh ≤ m := by
                    cases hi with
                    | none =>
                      have := ebound_none hhe; subst this
                      have := hhm rfl; subst this
                      rcases key c' (.inl ⟨hc.1, hc.2.imp (fun h => h.2) fun h => h.1⟩) with ⟨_, rfl⟩ | ⟨_, h1, _⟩
                      · exact hc.1
                      · simp at h1
                    | some c =>
                      cases hi' with
                      | none => exact hhi.elim
                      | some c2 => exact (ebound_some (P := P) (w := w) hhe hhi (Nat.le_refl _) .sliceB).2
                  refine Sim0.same (v' := .slice (if m = l then some b' else some (b'.add (l * te.size))) (hh - l) (m - l)) ?_ ?_
                  · simp [Instr.sliceAt, hurun, Instr.slice, hb, size_run hY hte]
                  · simp only [Option.map_some]
                    split
                    · exact .slice ha ⟨by omega, .inl ⟨by omega, rfl⟩⟩
                    · exact .slice (ha.add _) ⟨by omega, .inl ⟨by omega, rfl⟩⟩
    · simp at h

theorem slice_sim (hr : HR B P H φ w) {id : Nat} (hu : ¬ H.used id) {t : TypeId} {x x' : Value} {lo hi mx lo' hi' mx' : Option Value} {v : Value} {H' : Heap}
    (h : eslice Y H id t x lo hi mx = some (v, H')) (hx : VR H φ x x') (hlo : OptR H φ lo lo') (hhi : OptR H φ hi hi') (hmx : OptR H φ mx mx') : Sim P B H φ w (Instr.sliceAt t x' lo' hi' mx') v H' := by
  unfold eslice at h
  split at h
  · rename_i v0 he; cases h; exact (slice_simG hY hr hu he hx hlo hhi hmx).2 rfl
  · rename_i v0 he; cases h; exact ((slice_simG hY hr hu he hx hlo hhi hmx).1 rfl).sim hr
  · simp at h

/-! places -/

theorem indexAddr_sim (hr : HR B P H φ w) {t : TypeId} {x x' ix ix' v : Value} (h : eindexAddr Y t x ix = some v) (hx : VR H φ x x') (hi : VR H φ ix ix') : Sim0 P H φ w (Instr.indexAt t x' ix') v := by
  unfold eindexAddr at h
  split at h
  · rename_i k i
    cases hi
    split at h
    · simp at h
    · rename_i ti hti
      obtain ⟨u, hu2, hurun, hk2⟩ := und_run hY hti w
      split at h
      · rename_i e a len cap hk
        have := TKof_slice (hk2.trans hk); subst this
        split at h
        · rename_i te hte
          split at h
          · rename_i hc
            cases h
            cases hx with
            | slice ha hcc =>
              refine Sim0.same ?_ (.ptr (ha.add _))
              simp [Instr.indexAt, asIntOf, hurun, hc, size_run hY hte]
          · simp at h
        · simp at h
      · rename_i len e a hk
        have := TKof_array (hk2.trans hk); subst this
        split at h
        · rename_i te hte
          split at h
          · rename_i hc
            cases h
            cases hx with
            | ptr ha =>
              refine Sim0.same ?_ (.ptr (ha.add _))
              simp [Instr.indexAt, Instr.sureAddr, asIntOf, hurun, hc, size_run hY hte]
          · simp at h
        · simp at h
      · simp at h
  · simp at h

theorem index_sim (hr : HR B P H φ w) {t : TypeId} {x x' ix ix' v : Value} (h : eindex Y t x ix = some v) (hx : VR H φ x x') (hi : VR H φ ix ix') : Sim0 P H φ w (Instr.index t x' ix') v := by
  unfold eindex at h
  split at h
  · rename_i k i
    cases hi
    split at h
    · simp at h
    · rename_i ti hti
      obtain ⟨u, hu2, hurun, hk2⟩ := und_run hY hti w
      split at h
      · rename_i s hk
        have := TKof_string (hk2.trans hk); subst this
        split at h
        · rename_i h0
          split at h
          · rename_i b hb
            cases h
            cases hx
            refine Sim0.same (v' := .int .u8 b.toNat) ?_ (.int _ _)
            have hb2 : s[i.toNat]? = some b := by
              obtain ⟨hlt, he⟩ := List.getElem?_eq_some_iff.1 hb
              have hlt2 : i.toNat < s.size := by simpa using hlt
              rw [getElem?_pos s i.toNat hlt2]
              congr 1
            simp [Instr.index, asIntOf, hurun, h0, hb2]
          · simp at h
        · simp at h
      · simp at h
  · simp at h

theorem fieldAddr_sim (hr : HR B P H φ w) {t : TypeId} {x x' v : Value} {n : Nat} (h : efieldAddr Y t x n = some v) (hx : VR H φ x x') : Sim0 P H φ w (Instr.fieldAt t x' n) v := by
  unfold efieldAddr at h
  split at h
  · rename_i a
    split at h
    · simp at h
    · rename_i ti hti
      obtain ⟨u, hu2, hurun, hk2⟩ := und_run hY hti w
      split at h
      · rename_i fs hk
        obtain ⟨g, rfl, hg⟩ := TKof_struct (hk2.trans hk)
        split at h
        · rename_i ft off bl hf
          split at h
          · rename_i tf htf
            split at h
            · rename_i hsz
              cases h
              cases hx with
              | ptr ha =>
                rename_i a'
                rw [hg] at hf
                simp only [List.getElem?_map, Option.map_eq_some_iff, Array.getElem?_toList] at hf
                obtain ⟨f, hf1, hf2⟩ := hf
                simp only [Prod.mk.injEq] at hf2
                obtain ⟨rfl, rfl, _⟩ := hf2
                refine Sim0.same (v' := .pointer (some (a'.add f.offset))) ?_ (.ptr (ha.add _))
                simp [Instr.fieldAt, hurun, hf1, Instr.sureAddr, fieldPlace, size_run hY htf, hsz]
            · simp at h
          · simp at h
        · simp at h
      · simp at h
  · simp at h

/-! lengths, least and greatest -/

theorem len_sim (hr : HR B P H φ w) {t : TypeId} {x x' v : Value} (ts : Array TypeId) (ht : ts[0]? = some t) (ty : TypeId) (h : elenB H Y t x = some v) (hx : VR H φ x x') : Sim0 P H φ w (Builtin.len_ ts ty #[x']) v := by
  unfold elenB at h
  split at h
  · simp at h
  · rename_i ti hti
    obtain ⟨u, hu2, hurun, hk2⟩ := und_run hY hti w
    split at h
    · rename_i hk
      have := TKof_string (hk2.trans hk); subst this
      cases h; cases hx
      exact Sim0.same (by simp [Builtin.len_, ht, hurun]; rfl) (.int _ _)
    · rename_i hk
      have := TKof_slice (hk2.trans hk); subst this
      cases h
      cases hx
      · exact Sim0.same (by simp [Builtin.len_, ht, hurun]; rfl) (.int _ _)
      · exact Sim0.same (by simp [Builtin.len_, ht, hurun]; rfl) (.int _ _)
    · rename_i hk
      have := TKof_map (hk2.trans hk); subst this
      cases h; cases hx
      exact Sim0.same (by simp [Builtin.len_, ht, hurun]; rfl) (.int _ _)
    · rename_i r hk
      have := TKof_map (hk2.trans hk); subst this
      split at h
      · rename_i es cl wr hg
        cases h
        cases hx with
        | map ho hl =>
          have hrr := hl (by unfold Heap.live; rw [hg]; simp)
          obtain ⟨es', hc, hlen, _⟩ := hr.blk _ _ hg
          subst hrr
          refine Sim0.same (v' := .int .i64 es.length) ?_ (.int _ _)
          have hobj : (getObj (φ r)).run P w = .ok (.map es' cl) w := by simp [getObj, Sem.run, hc]
          simp [Builtin.len_, ht, hurun, hobj, hlen, goInt]
      · simp at h
    · simp at h

omit hY in
theorem max_sim (hr : HR B P H φ w) (ts : Array TypeId) (ty : TypeId) : ∀ (l l' : List Value) (x x' v : Value), emax x l = some v → VR H φ x x' → LR H φ l l' → Sim0 P H φ w (Builtin.max_ ts ty (x' :: l').toArray) v := by
  have main : ∀ (l l' : List Value) (x x' v : Value), emax x l = some v → VR H φ x x' → LR H φ l l' → ∃ v', (l'.foldlM Builtin.max2 x').run P w = .ok v' w ∧ VR H φ v v' := by
    intro l
    induction l with
    | nil => intro l' x x' v h hx hl; rw [hl.nil_inv]; simp [emax] at h; subst h; exact ⟨x', rfl, hx⟩
    | cons y l ih =>
      intro l' x x' v h hx hl
      obtain ⟨y', l1, rfl, hy, hl2⟩ := hl.cons_inv
      unfold emax at h
      split at h
      · simp_all
      · rename_i k n k2 m rest heq
        cases heq
        cases hx; cases hy
        obtain ⟨v', h1, h2⟩ := ih l1 _ _ v h (.int _ _) hl2
        exact ⟨v', by simp [List.foldlM_cons, Builtin.max2, h1], h2⟩
      · simp at h
  intro l l' x x' v h hx hl
  obtain ⟨v', h1, h2⟩ := main l l' x x' v h hx hl
  exact Sim0.same (by simpa [Builtin.max_] using h1) h2

omit hY in
theorem min_sim (hr : HR B P H φ w) (ts : Array TypeId) (ty : TypeId) : ∀ (l l' : List Value) (x x' v : Value), emin x l = some v → VR H φ x x' → LR H φ l l' → Sim0 P H φ w (Builtin.min_ ts ty (x' :: l').toArray) v := by
  have main : ∀ (l l' : List Value) (x x' v : Value), emin x l = some v → VR H φ x x' → LR H φ l l' → ∃ v', (l'.foldlM Builtin.min2 x').run P w = .ok v' w ∧ VR H φ v v' := by
    intro l
    induction l with
    | nil => intro l' x x' v h hx hl; rw [hl.nil_inv]; simp [emin] at h; subst h; exact ⟨x', rfl, hx⟩
    | cons y l ih =>
      intro l' x x' v h hx hl
      obtain ⟨y', l1, rfl, hy, hl2⟩ := hl.cons_inv
      unfold emin at h
      split at h
      · simp_all
      · rename_i k n k2 m rest heq
        cases heq
        cases hx; cases hy
        obtain ⟨v', h1, h2⟩ := ih l1 _ _ v h (.int _ _) hl2
        exact ⟨v', by simp [List.foldlM_cons, Builtin.min2, h1], h2⟩
      · simp at h
  intro l l' x x' v h hx hl
  obtain ⟨v', h1, h2⟩ := main l l' x x' v h hx hl
  exact Sim0.same (by simpa [Builtin.min_] using h1) h2

end types
end Go.Proofs.YtcfjimhbachmlaaGreatDoor.E

/- The clean semantics: each operation is what the model's own does (5: conversions, append). -/
namespace Go.Proofs.YtcfjimhbachmlaaGreatDoor.E
open Go

variable {B : Nat} {H : Heap} {φ : Mp} {w : World} {P : Program} {Y : Env}

theorem bytesOf_ok : ∀ (cs cs' : List Value) (l : List UInt8), bytesOf cs = some l → LR H φ cs cs' → cs' = l.map fun x => Value.int .u8 x.toNat := by
  intro cs
  induction cs with
  | nil => intro cs' l h hc; rw [hc.nil_inv]; simp [bytesOf] at h; subst h; rfl
  | cons c cs ih =>
    intro cs' l h hc
    obtain ⟨c', cs1, rfl, hv, hcs⟩ := hc.cons_inv
    unfold bytesOf at h
    split at h
    · simp_all
    · rename_i n rest heq
      cases heq
      split at h
      · rename_i hn
        split at h
        · rename_i r hr
          cases h
          cases hv
          rw [List.map_cons, ← ih cs1 r hr hcs]
          congr 2
          have : n.toNat < 256 := by omega
          simp [Nat.mod_eq_of_lt this]
          omega
        · simp at h
      · simp at h
    · simp at h

theorem shape_ok (hr : HR B P H φ w) {a a' : Addr} {vs : List Value} {e : TypeId} {wr fz : Bool} (hg : H.get a.block = some (.cells vs e wr fz)) (ha : AR H φ a a') :
    ∃ n, w.shape? a'.block = some (e, n) ∧ vs.length ≤ n ∧ a'.block = φ a.block ∧ a'.off = a.off ∧ a'.spot = a.spot := by
  obtain ⟨c, fr, hc, hlen, _⟩ := hr.blk _ _ hg
  obtain ⟨h1, h2, h3⟩ := ha.loc (by unfold Heap.live; rw [hg]; simp)
  exact ⟨c.size, by unfold World.shape?; rw [h1, hc], hlen, h1, h2, h3⟩

section types
variable (hY : Y.ok P)
include hY

theorem convert_sim (hr : HR B P H φ w) {s d : TypeId} {x x' v : Value} (h : econvert Y H s d x = some v) (hx : VR H φ x x') : Sim0 P H φ w (convert s d x') v := by
  unfold econvert at h
  split at h
  · rename_i ts td hts htd
    obtain ⟨us, hus, husr, hks⟩ := und_run hY hts w
    obtain ⟨ud, hud, hudr, hkd⟩ := und_run hY htd w
    split at h
    · rename_i hk1 hk2
      have := TKof_int (hks.trans hk1); subst this
      have := TKof_int (hkd.trans hk2); subst this
      cases h; cases hx
      exact Sim0.same (by simp [convert, husr, hudr, Conv.intToInt]) (.int _ _)
    · rename_i e b len cap hk1 hk2
      have := TKof_slice (hks.trans hk1); subst this
      have := TKof_string (hkd.trans hk2); subst this
      split at h
      · rename_i te hte
        obtain ⟨ue, hue, huer, hke⟩ := und_run hY hte w
        split at h
        · rename_i hk3
          have := TKof_int (hke.trans hk3); subst this
          split at h
          · cases h
            cases hx
            refine Sim0.same (v' := .string .empty) ?_ (.string _)
            rw [run_convert_bytes_string w s d e none len cap hus hue hud]
            simp [Conv.bytesToString]
          · rename_i a
            split at h
            · rename_i cs hcs
              split at h
              · rename_i l hl
                cases h
                cases hx with
                | slice ha hc =>
                  obtain ⟨vs', hrun, hvs⟩ := loadCells_ok (P := P) hr ha hcs
                  have hvs2 := bytesOf_ok cs vs' l hl hvs
                  refine Sim0.same (v' := .string ⟨l.toArray⟩) ?_ (.string _)
                  rw [run_convert_bytes_string w s d e _ len _ hus hue hud, run_bytesToString w _ len _ (l.map fun x => (x.toNat : Int)) (by rw [hrun, hvs2]; simp)]
                  congr 2
                  have key : ∀ (l : List UInt8) (acc : ByteArray), (l.map fun x => (x.toNat : Int)).foldl (fun r n => r.push (UInt8.ofNat n.toNat)) acc = ⟨acc.data ++ l.toArray⟩ := by
                    intro l
                    induction l with
                    | nil => intro acc; simp
                    | cons y l ih =>
                      intro acc
                      simp only [List.map_cons, List.foldl_cons]
                      rw [ih]
                      apply ByteArray.ext
                      simp [ByteArray.push]
                  rw [key]
                  apply ByteArray.ext
                  simp
              · simp at h
            · simp at h
        · simp at h
      · simp at h
    · rename_i t a hk1 hk2
      have := TKof_pointer (hks.trans hk1); subst this
      have := TKof_upointer (hkd.trans hk2); subst this
      split at h
      · rename_i tt vs e wr fz htt hg
        split at h
        · rename_i hc
          cases h
          cases hx with
          | ptr ha =>
            rename_i a'
            obtain ⟨n, hsh, hlen, h1, h2, h3⟩ := shape_ok hr hg ha
            refine Sim0.same (v' := .pointer (some a')) ?_ (.ptr ha)
            have hv : (viewAt a'.block).run P w = .ok none w := by simp [viewAt, hsh]
            have hcells : (cellsIn a'.block).run P w = .ok (some n) w := by simp [cellsIn, hsh]
            have hno : (decide (a'.off ≥ n) && a'.spot.isNone) = false := by
              rw [h2]
              simp
              omega
            simp [convert, husr, hudr, Conv.unsafePointer, Conv.seenAt, hv, hcells, hno, size_run hY htt, hc.1]
        · simp at h
      · simp at h
    · rename_i t a hk1 hk2
      have := TKof_upointer (hks.trans hk1); subst this
      have := TKof_pointer (hkd.trans hk2); subst this
      split at h
      · rename_i tu vs e wr fz htu hg
        split at h
        · rename_i te hte
          split at h
          · rename_i hc
            cases h
            cases hx with
            | ptr ha =>
              rename_i a'
              obtain ⟨n, hsh, hlen, h1, h2, h3⟩ := shape_ok hr hg ha
              refine Sim0.same (v' := .pointer (some a')) ?_ (.ptr ha)
              have hv : (viewAt a'.block).run P w = .ok none w := by simp [viewAt, hsh]
              have hl := hY.lies e t hc.2.1 1 1 (Nat.le_refl _)
              have hl2 := hl.2 n (by rw [cellsOf_eq hY hte]; omega)
              have hvar : (variablesAt a' t 1).run P w = .ok true w := by
                simp [variablesAt, hsh, h2, hc.2.2.1, hl2]
              simp [convert, husr, hudr, Conv.unsafePointer, Conv.seenAt, hv, size_run hY htu, hvar]
          · simp at h
        · simp at h
      · simp at h
    · simp at h
  · simp at h

omit hY in
theorem usdata_sim (hr : HR B P H φ w) {x x' v : Value} (ts : Array TypeId) (ty : TypeId) (h : eusdata x = some v) (hx : VR H φ x x') : Sim0 P H φ w (Builtin.unsafeSliceData_ ts ty #[x']) v := by
  unfold eusdata at h
  split at h
  · cases h; cases hx
    exact Sim0.same (Lib.run_unsafeSliceData_nil w ts ty _ _) .ptr0
  · rename_i a n c
    split at h
    · rename_i hc
      cases h
      cases hx with
      | slice ha hcr =>
        rename_i a' c'
        have : c' ≠ 0 := by have := hcr.1; omega
        exact Sim0.same (Lib.run_unsafeSliceData_row w ts ty a' n c' this) (.ptr ha)
    · simp at h
  · simp at h

theorem ustring_sim (hr : HR B P H φ w) {pt it ty : TypeId} {p n p' n' v : Value} {H' : Heap} (h : eustring Y H pt p n = some (v, H')) (hp : VR H φ p p') (hn : VR H φ n n') :
    Sim P B H φ w (Builtin.unsafeString_ #[pt, it] ty #[p', n']) v H' := by
  unfold eustring at h
  split at h
  · cases hp; cases hn
    split at h
    · rename_i h0
      cases h; subst h0
      exact Sim.same hr (Lib.run_unsafeString_none w pt it ty none) (.string _)
    · simp at h
  · rename_i a n
    cases hn
    split at h
    · rename_i h0
      cases h; subst h0
      cases hp
      exact Sim.same hr (Lib.run_unsafeString_none w pt it ty _) (.string _)
    · split at h
      · rename_i tp htp
        split at h
        · rename_i el vs e fz hk hg
          split at h
          · rename_i hc
            obtain ⟨c1, c2, c3, c4, c5, c6⟩ := hc
            subst c3
            split at h
            · rename_i te cs hte hcs
              split at h
              · rename_i l hl
                split at h
                · rename_i hsz
                  cases h
                  cases hp with
                  | ptr ha =>
                    rename_i a'
                    obtain ⟨m, hsh, hlen, h1, h2, h3⟩ := shape_ok hr hg ha
                    obtain ⟨up, hup, _, hkp⟩ := und_run hY htp w
                    have := TKof_pointer (hkp.trans hk); subst this
                    have ha' : a' = ⟨φ a.block, 0, none⟩ := by
                      obtain ⟨x1, x2, x3⟩ := a'
                      simp only at h1 h2 h3
                      subst h1 h2 h3
                      rw [c4, c5]
                    -- the cells that are read
                    have cells : ∀ (n i : Nat) (cs : List Value), H.cellsFrom a i n = some cs → cs.length = n ∧ ∀ j, j < n → ∃ u, cs[j]? = some u ∧ H.cell (a.add (i + j)) = some u := by
                      intro n
                      induction n with
                      | zero => intro i cs h; cases h; exact ⟨rfl, fun j hj => by omega⟩
                      | succ n ih =>
                        intro i cs h
                        simp only [Heap.cellsFrom] at h
                        split at h
                        · simp at h
                        · rename_i u hu
                          split at h
                          · simp at h
                          · rename_i r hrr
                            cases h
                            obtain ⟨e1, e2⟩ := ih (i + 1) r hrr
                            refine ⟨by simp [e1], fun j hj => ?_⟩
                            cases j with
                            | zero => exact ⟨u, rfl, hu⟩
                            | succ j =>
                              obtain ⟨u2, hu2, hu3⟩ := e2 j (by omega)
                              exact ⟨u2, by simpa using hu2, by rw [show i + (j + 1) = i + 1 + j by omega]; exact hu3⟩
                    obtain ⟨hcl, hcj⟩ := cells n.toNat 0 cs hcs
                    obtain ⟨vs', hrun, hvs⟩ := loadCells_ok (P := P) hr ha hcs
                    have hvs2 := bytesOf_ok cs vs' l hl hvs
                    have hll : l.length = n.toNat := by
                      have : vs'.length = l.length := by rw [hvs2]; simp
                      rw [← this, ← hvs.1, hcl]
                    have hcell : ∀ j x, l[j]? = some x → w.cell? ((⟨φ a.block, 0, none⟩ : Addr).add j) = some (.int .u8 x.toNat) := by
                      intro j x hj
                      have hjl : j < l.length := by
                        rcases Nat.lt_or_ge j l.length with h | h
                        · exact h
                        · rw [List.getElem?_eq_none h] at hj; simp at hj
                      obtain ⟨u, hu, hu2⟩ := hcj j (by omega)
                      rw [Nat.zero_add] at hu2
                      obtain ⟨u', hu', hvr⟩ := cell_ok hr hu2 (ha.add j)
                      rw [← ha', hu']
                      have hvl : j < vs'.length := by rw [hvs2]; simpa using hjl
                      have hcsl : j < cs.length := by omega
                      have e3 := hvs.2 j hcsl hvl
                      have e4 : cs[j] = u := by
                        have := List.getElem?_eq_getElem hcsl
                        rw [this] at hu; simpa using hu
                      have e5 : vs'[j] = .int .u8 x.toNat := by
                        have hx2 : l[j] = x := by
                          have := List.getElem?_eq_getElem hjl
                          rw [this] at hj; simpa using hj
                        subst hvs2
                        simp [hx2]
                      rw [e4, e5] at e3
                      cases e3
                      cases hvr
                      rfl
                    have hne : l ≠ [] := by intro e0; rw [e0] at hll; simp at hll; omega
                    have hmain := Lib.run_unsafeString_row (P := P) w pt it ty el hup (by rw [cellsOf_eq hY hte]; exact hsz) (φ a.block) m (by rw [← h1]; exact hsh) l hne (by omega) (by omega) hcell
                    have hnn : ((l.length : Nat) : Int) = n := by omega
                    rw [hnn] at hmain
                    obtain ⟨cc, fr, hcc, hlen2, hvv, _, _, hq⟩ := hr.blk _ _ hg
                    have hlt : φ a.block < w.heap.size := (hr.blk _ _ hg).lt
                    have hl' : Later H φ (H.set a.block (.cells vs el false true)) φ := by
                      refine ⟨by simp only [Heap.set]; split <;> omega, fun i hi => .inr hi, fun i hi hl => ?_, fun i hi _ => rfl, fun i hi _ => rfl⟩
                      by_cases e : i = a.block
                      · subst e; unfold Heap.live; rw [hg]; simp
                      · unfold Heap.live at *; rwa [Heap.get_set_ne _ _ e] at hl
                    have hfz : ∃ fr', (w.freeze ⟨φ a.block, 0, none⟩ l.length).heap[φ a.block]? = some (.cells cc el fr') := by
                      unfold World.freeze
                      split
                      · exact ⟨fr, hcc⟩
                      · simp only [Array.getElem?_modify, ↓reduceIte, hcc, Option.map_some]
                        exact ⟨_, rfl⟩
                    obtain ⟨fr', hfz⟩ := hfz
                    have hother : ∀ k, k ≠ φ a.block → (w.freeze ⟨φ a.block, 0, none⟩ l.length).heap[k]? = w.heap[k]? := by
                      intro k hk
                      unfold World.freeze
                      split
                      · rfl
                      · simp only [Array.getElem?_modify]
                        rw [if_neg (by omega)]
                    have := hr.write hg (b := .cells vs el false true) rfl (w' := w.freeze ⟨φ a.block, 0, none⟩ l.length)
                      (by unfold World.freeze; split <;> rfl) (by unfold World.freeze; split <;> rfl) (by unfold World.freeze; split <;> rfl) (by unfold World.freeze; split <;> simp) hother
                      ⟨cc, fr', hfz, hlen2, fun i h1 h2 => (hvv i h1 h2).mono hl', by simp, by simp, hq⟩
                    refine ⟨_, φ, _, ?_, .string _, this.1, this.2⟩
                    rw [ha']; exact hmain
                · simp at h
              · simp at h
            · simp at h
          · simp at h
        · simp at h
      · simp at h
  · simp at h

end types
end Go.Proofs.YtcfjimhbachmlaaGreatDoor.E

/- The clean semantics: each operation is what the model's own does (6: append). -/
namespace Go.Proofs.YtcfjimhbachmlaaGreatDoor.E
open Go

variable {B : Nat} {H : Heap} {φ : Mp} {w : World} {P : Program} {Y : Env}

theorem first_ok (hr : HR B P H φ w) {size n : Nat} {x x' : Value} {new : List Value} (h : efirst H size n x = some new) (hx : VR H φ x x') :
    ∃ new', (Builtin.firstCells size n x').run P w = .ok new'.toArray w ∧ LR H φ new new' := by
  unfold efirst at h
  split at h
  · cases hx with
    | slice ha hc =>
      obtain ⟨vs', h1, h2⟩ := loadCells_ok (P := P) hr ha h
      exact ⟨vs', by simpa [Builtin.firstCells] using h1, h2⟩
  · cases hx; cases h
    exact ⟨[], by simp [Builtin.firstCells], LR.nil⟩
  · rename_i s
    cases hx; cases h
    refine ⟨(s.extract 0 n).data.toList.map fun b => .int .u8 b.toNat, ?_, ?_⟩
    · simp only [Builtin.firstCells, Sem.run_pure]
      congr 1
      apply Array.toList_inj.1
      simp
    · exact ⟨rfl, fun i hi _ => by simp only [List.getElem_map]; exact .int _ _⟩
  · simp at h

theorem len_ok {x x' : Value} {n : Nat} (h : elen x = some n) (hx : VR H φ x x') (w : World) : (Builtin.lenOf x').run P w = .ok n w := by
  unfold elen at h
  split at h
  · cases h; cases hx <;> rfl
  · cases h; cases hx; rfl
  · simp at h

theorem zeroCells_size (z : Array Value) (n : Nat) : (Builtin.zeroCells z n).size = n * z.size := by simp [Builtin.zeroCells]

section types
variable (hY : Y.ok P)
include hY

theorem zeros_run {xt : Option TypeId} (h : noZeros Y xt = true) : xt = none ∨ ∃ u d, xt = some u ∧ (∀ w, (underlying u).run P w = .ok d w) ∧ (d = .string ∨ ∃ e, d = .slice e) := by
  cases xt with
  | none => exact .inl rfl
  | some u =>
    right
    unfold noZeros at h
    simp only at h
    cases hu : Y.ty u with
    | none => simp [hu] at h
    | some tu =>
      simp only [hu] at h
      obtain ⟨d, hd, _, hk⟩ := und_run (P := P) hY hu default
      refine ⟨u, d, rfl, fun w => run_underlying hd w, ?_⟩
      split at h
      · rename_i e he
        exact .inr ⟨e, TKof_slice (hk.trans he)⟩
      · rename_i he
        exact .inl (TKof_string (hk.trans he))
      · simp at h

theorem append_room {t e : TypeId} {ti te : TI} (ts : Array TypeId) (ht : ts[0]? = some t) (hti : Y.ty t = some ti) (hk : ti.k = .slice e) (hte : Y.ty e = some te)
    (hz : noZeros Y ts[1]? = true) (ty : TypeId) (base : Option Addr) (sLen sCap n : Nat) (x' : Value) (new' : List Value) (hn : (Builtin.lenOf x').run P w = .ok n w)
    (hnew : (Builtin.firstCells te.size n x').run P w = .ok new'.toArray w) (hroom : sLen + n ≤ sCap) :
    (Builtin.append_ ts ty #[.slice base sLen sCap, x']).run P w =
        ((match base with | some a => storeCells (a.add (sLen * te.size)) new' 0 | none => pure () : Sem Unit).run P w).andThen fun _ w' => .ok (.slice base (sLen + n) sCap) w' := by
  obtain ⟨u, hu2, hurun, hk2⟩ := und_run hY hti w
  have := TKof_slice (hk2.trans hk); subst this
  rcases zeros_run (P := P) hY hz with h1 | ⟨v, d, h1, h2, h3⟩
  · cases base <;> simp [Builtin.append_, ht, h1, hurun, size_run hY hte, hn, hnew, hroom]
  · rcases h3 with rfl | ⟨e2, rfl⟩ <;> cases base <;> simp [Builtin.append_, ht, h1, h2, hurun, size_run hY hte, hn, hnew, hroom]

theorem append_grow {t e : TypeId} {ti te : TI} {z : Value} (ts : Array TypeId) (ht : ts[0]? = some t) (hti : Y.ty t = some ti) (hk : ti.k = .slice e) (hte : Y.ty e = some te)
    (hz : noZeros Y ts[1]? = true) (hzero : te.zero = some z) (ty : TypeId) (base : Option Addr) (sLen sCap n : Nat) (x' : Value) (old' new' : List Value) (hn : (Builtin.lenOf x').run P w = .ok n w)
    (hold : (Builtin.firstCells te.size sLen (.slice base sLen sCap)).run P w.drew = .ok old'.toArray w.drew)
    (hnew : (Builtin.firstCells te.size n x').run P w.drew = .ok new'.toArray w.drew) (hroom : sCap < sLen + n) (h63 : sLen + n ≤ 140737488355328) (hfit : (sLen + n) * te.bytes ≤ 140737488355328) :
    ∃ q, sLen + n ≤ q ∧ (Builtin.append_ ts ty #[.slice base sLen sCap, x']).run P w =
      .ok (.slice (some ⟨w.heap.size, 0, none⟩) (sLen + n) q) (w.drew.alloc (.cells (old'.toArray ++ new'.toArray ++ Builtin.zeroCells z.cells (q - (sLen + n))) e)) := by
  obtain ⟨u, hu2, hurun, hk2⟩ := und_run hY hti w
  have := TKof_slice (hk2.trans hk); subst this
  obtain ⟨i, hi, hirun, hsz, hby, _⟩ := info_run hY hte w
  obtain ⟨i2, hi2, hirun2, _, _, _⟩ := info_run hY hte w.drew
  obtain ⟨hzr, _⟩ := zero_run hY hte hzero w.drew
  have hf := growslice_fits (bytes := te.bytes) hroom hfit
  refine ⟨grownCap w (sLen + n) sCap e, ?_, ?_⟩
  · unfold grownCap Question.cut; simp
  have h2 : ¬ (sLen + n ≤ sCap) := by omega
  have h3 : ¬ (9223372036854775807 < ((sLen : Int) + (n : Int))) := by omega
  have h4 : ¬ (281474976710656 < Builtin.nextslicecap (sLen + n) sCap * te.bytes) := by omega
  rcases zeros_run (P := P) hY hz with g1 | ⟨v, d, g1, g2, g3⟩
  · simp [Builtin.append_, ht, g1, hurun, size_run hY hte, hn, h2, hirun, hby, h3, h4, Question.forced, hirun2, hold, hnew, hzr, newRow, grownCap] <;> (congr 2; apply Array.ext'; simp [List.append_assoc])
  · rcases g3 with rfl | ⟨e2, rfl⟩ <;> simp [Builtin.append_, ht, g1, g2, hurun, size_run hY hte, hn, h2, hirun, hby, h3, h4, Question.forced, hirun2, hold, hnew, hzr, newRow, grownCap] <;> (congr 2; apply Array.ext'; simp [List.append_assoc])

omit hY in
theorem le_set (h : Heap) (id : Nat) (b : Blk) : h.nxt ≤ (h.set id b).nxt := by simp only [Heap.set]; split <;> omega
omit hY in
theorem lt_set (h : Heap) (id : Nat) (b : Blk) : id < (h.set id b).nxt := by simp only [Heap.set]; split <;> omega

omit hY in
/-- cells stored into a block of the world, side by side -/
theorem raw_store : ∀ (vs : List Value) (i : Nat) (w : World) (a : Addr) (c : Array Value) (e : TypeId) (fr : Nat × Nat), w.heap[a.block]? = some (.cells c e fr) → fr.2 ≤ fr.1 → a.spot = none → a.off + i + vs.length ≤ c.size → vs.all Value.oneCell' = true →
    ∃ w' c', (storeCells a vs i).run P w = .ok () w' ∧ w'.os = w.os ∧ w'.tape = w.tape ∧ w'.output = w.output ∧ w'.heap.size = w.heap.size ∧ (∀ k, k ≠ a.block → w'.heap[k]? = w.heap[k]?) ∧
      w'.heap[a.block]? = some (.cells c' e fr) ∧ c'.size = c.size ∧ ∀ j, c'[j]? = if a.off + i ≤ j ∧ j < a.off + i + vs.length then vs[j - (a.off + i)]? else c[j]? := by
  intro vs
  induction vs with
  | nil =>
    intro i w a c e fr hc _ _ _ _
    exact ⟨w, c, rfl, rfl, rfl, rfl, rfl, fun _ _ => rfl, hc, rfl, fun j => by simp; intro h1 h2; omega⟩
  | cons v vs ih =>
    intro i w a c e fr hc hfr hs hlen hone
    simp only [List.length_cons] at hlen
    simp only [List.all_cons, Bool.and_eq_true] at hone
    have hadd : a.add i = ⟨a.block, a.off + i, none⟩ := by
      unfold Addr.add
      split
      · rename_i h0; subst h0; obtain ⟨x, y, z⟩ := a; simp only at hs; subst hs; rfl
      · rfl
    have hlt : a.off + i < c.size := by omega
    have hcell : w.cell? (a.add i) = some c[a.off + i] := by
      rw [hadd]; unfold World.cell?; simp [hc, hlt]
    have hfz : w.frozen? (a.add i) = false := by
      obtain ⟨l, u⟩ := fr
      rw [hadd]; unfold World.frozen?; simp [hc] at hfr ⊢; omega
    have hrun : (store (a.add i) v).run P w = .ok () (w.setCell (a.add i) v) := by
      rw [run_store _ _ _ _ _ hone.1]; simp [hcell, hfz]
    have hc1 : (w.setCell (a.add i) v).heap[a.block]? = some (.cells (c.setIfInBounds (a.off + i) v) e fr) := by
      rw [hadd]; simp [World.setCell, Array.getElem?_modify, hc]
    obtain ⟨w', c', h1, h2, h3, h4, h5, h6, h7, h8, h9⟩ := ih (i + 1) (w.setCell (a.add i) v) a _ e fr hc1 hfr hs (by simp; omega) hone.2
    refine ⟨w', c', ?_, h2, h3, h4, by rw [h5]; simp, ?_, h7, by rw [h8]; simp, ?_⟩
    · simp only [storeCells, Sem.run_bind, hrun, Result.andThen_ok]; exact h1
    · intro k hk
      rw [h6 k hk, RowKit.Below.heap_setCell _ _ _ _ (by rw [hadd]; exact hk)]
    · intro j
      rw [h9 j]
      by_cases hj : a.off + (i + 1) ≤ j ∧ j < a.off + (i + 1) + vs.length
      · rw [if_pos hj, if_pos (by simp only [List.length_cons]; omega)]
        have : j - (a.off + i) = (j - (a.off + (i + 1))) + 1 := by omega
        rw [this, List.getElem?_cons_succ]
      · rw [if_neg hj]
        by_cases hj2 : j = a.off + i
        · subst hj2
          rw [if_pos (by simp only [List.length_cons]; omega)]
          simp [hlt]
        · rw [if_neg (by simp only [List.length_cons]; omega), Array.getElem?_setIfInBounds_ne (by omega)]

omit hY in
/-- a block is given up; the world's block that it stood for, or a new one, goes on under a new number -/
theorem HR.rename (hr : HR B P H φ w) {b id k q : Nat} {bb nb : Blk} (hg : H.get b = some bb) (hbw : bb.w = true) (hu : ¬ H.used id) {w' : World}
    (hos : w'.os = w.os) (htape : w'.tape = w.tape) (hout : w'.output = w.output) (hsize : w.heap.size ≤ w'.heap.size)
    (hk : k = φ b ∨ (w.heap.size ≤ k))
    (hother : ∀ i, i < w.heap.size → i ≠ φ b → w'.heap[i]? = w.heap[i]?)
    (hnb : ∀ (_ : Later H φ ((H.kill b).set id nb) (upd φ id k q)), BR P ((H.kill b).set id nb) (upd φ id k q) w' k q nb) :
    HR B P ((H.kill b).set id nb) (upd φ id k q) w' ∧ Ext H φ w ((H.kill b).set id nb) (upd φ id k q) w' := by
  have hlive : ∀ {i c}, H.get i = some c → H.live i := fun {i c} h => by unfold Heap.live; rw [h]; simp
  have hbid : b ≠ id := fun e => hu (e ▸ hr.liv b (hlive hg))
  have hget : ∀ i, i ≠ id → ((H.kill b).set id nb).get i = if i = b then none else H.get i := by
    intro i hi; rw [Heap.get_set_ne _ _ hi, Heap.get_kill]
  have hl : Later H φ ((H.kill b).set id nb) (upd φ id k q) := by
    refine ⟨le_set (H.kill b) id nb, fun i hi => .inr hi, fun i hi hl => ?_, fun i hi _ => ?_, fun i hi _ => ?_⟩
    · have hne : i ≠ id := fun e => hu (e ▸ hi)
      unfold Heap.live at *
      rw [hget i hne] at hl
      split at hl
      · exact absurd rfl hl
      · exact hl
    · have hne : i ≠ id := fun e => hu (e ▸ hi)
      simp [upd, hne]
    · have hne : i ≠ id := fun e => hu (e ▸ hi)
      simp [upd, hne]
  have old : ∀ i c, i ≠ id → ((H.kill b).set id nb).get i = some c → i ≠ b ∧ H.get i = some c := by
    intro i c hi h
    rw [hget i hi] at h
    split at h
    · simp at h
    · rename_i h1; exact ⟨h1, h⟩
  have oldne : ∀ i c, i ≠ id → ((H.kill b).set id nb).get i = some c → φ i ≠ φ b ∧ φ i < w.heap.size := by
    intro i c hi h
    obtain ⟨h1, h2⟩ := old i c hi h
    exact ⟨fun he => h1 (hr.inj i b (hlive h2) (hlive hg) he), (hr.blk i c h2).lt⟩
  have nbr := hnb hl
  have hkB : B ≤ k := by
    rcases hk with rfl | hk
    · exact hr.own b bb hg hbw
    · exact Nat.le_trans hr.size hk
  refine ⟨⟨Nat.le_trans hr.size hsize, ?_, ?_, fun i hi => .inr (hr.glob i hi), ?_, ?_, ?_, ?_, ⟨.inr hr.dead.1, ?_⟩⟩, { toLater := hl, os := hos, tape := htape, output := hout, size := hsize, kept := ?_, mine := ?_ }⟩
  · intro i hi
    rcases hi with rfl | hi
    · exact lt_set (H.kill b) i nb
    · exact Nat.lt_of_lt_of_le (hr.lt i hi) (le_set (H.kill b) id nb)
  · intro i hi
    by_cases e : i = id
    · exact .inl e
    · unfold Heap.live at hi
      cases hgi : ((H.kill b).set id nb).get i with
      | none => exact absurd hgi hi
      | some c => exact .inr (hr.liv i (hlive (old i c e hgi).2))
  · intro i hi
    have : i ≠ id := fun e => hu (e ▸ hr.glob i hi)
    simp [upd, this]; exact hr.gid i hi
  · intro i c hi
    by_cases e : i = id
    · subst e; rw [Heap.get_set_same] at hi; cases hi; simpa [upd] using nbr
    · obtain ⟨h1, h2⟩ := old i c e hi
      obtain ⟨h3, h4⟩ := oldne i c e hi
      simp only [upd, e, if_false]
      exact (hr.blk i c h2).mono hl (hother _ h4 h3)
  · intro i c hi hw
    by_cases e : i = id
    · simp [upd, e]; exact hkB
    · simp only [upd, e, if_false]; exact hr.own i c (old i c e hi).2 hw
  · intro i j hi hj he
    unfold Heap.live at hi hj
    have some_of : ∀ x, ((H.kill b).set id nb).get x ≠ none → ∃ c, ((H.kill b).set id nb).get x = some c := fun x hx => by
      cases h : ((H.kill b).set id nb).get x with
      | none => exact absurd h hx
      | some c => exact ⟨c, rfl⟩
    obtain ⟨ci, hci⟩ := some_of i hi
    obtain ⟨cj, hcj⟩ := some_of j hj
    by_cases ei : i = id <;> by_cases ej : j = id
    · rw [ei, ej]
    · obtain ⟨h3, h4⟩ := oldne j cj ej hcj
      simp [upd, ei, ej] at he
      rcases hk with rfl | hk
      · exact absurd he.symm h3
      · omega
    · obtain ⟨h3, h4⟩ := oldne i ci ei hci
      simp [upd, ei, ej] at he
      rcases hk with rfl | hk
      · exact absurd he h3
      · omega
    · simp [upd, ei, ej] at he
      exact hr.inj i j (hlive (old i ci ei hci).2) (hlive (old j cj ej hcj).2) he
  · have hne : P.globals.size ≠ id := fun e => hu (e ▸ hr.dead.1)
    intro hl2
    cases hgi : ((H.kill b).set id nb).get P.globals.size with
    | none => exact hl2 hgi
    | some c => exact hr.dead.2 (hlive (old _ c hne hgi).2)
  · intro i hi hn
    exact hother i hi fun e => hn b bb hg hbw e.symm
  · intro i c hi
    by_cases e : i = id
    · right
      simp only [upd, e, if_true]
      rcases hk with rfl | hk
      · exact .inr ⟨b, bb, hg, hbw, rfl⟩
      · exact .inl hk
    · left
      exact ⟨c, (old i c e hi).2, by simp [upd, e], fun h => h⟩

theorem append_sim (hr : HR B P H φ w) {id : Nat} (hu : ¬ H.used id) {t : TypeId} (ts : Array TypeId) (ht : ts[0]? = some t) (ty : TypeId) {s x s' x' v : Value} {H' : Heap}
    (h : eappend Y H id t ts[1]? s x = some (v, H')) (hs : VR H φ s s') (hx : VR H φ x x') : Sim P B H φ w (Builtin.append_ ts ty #[s', x']) v H' := by
  unfold eappend at h
  split at h
  · simp at h
  · rename_i ti hti
    split at h
    · rename_i e base sLen sCap hk
      split at h
      · simp at h
      · rename_i te hte
        split at h
        · simp at h
        · rename_i hz
          have hz : noZeros Y ts[1]? = true := by simpa using hz
          split at h
          · simp at h
          · rename_i n hn
            have hnr := len_ok (P := P) hn hx w
            split at h
            · simp at h
            · rename_i new hnew
              obtain ⟨new', hnewr, hnewl⟩ := first_ok (P := P) hr hnew hx
              obtain ⟨new2, hnewr2, hnewl2⟩ := first_ok (P := P) hr.drew hnew hx
              split at h
              · -- the capacity is not known
                rename_i hcu
                split at h
                · rename_i b
                  cases hs with
                  | slice ha hc =>
                    rename_i a' c'
                    split at h
                    · rename_i h0
                      split at h
                      · rename_i hn0
                        cases h
                        subst hn0
                        have hnl : new' = [] := by
                          have h1 : new = [] := by
                            have : efirst H te.size 0 x = some new := hnew
                            unfold efirst at this
                            split at this
                            · simpa [Heap.cellsFrom] using this
                            · cases this; rfl
                            · cases this
                              apply List.map_eq_nil_iff.2
                              simp
                            · simp at this
                          rw [h1] at hnewl
                          exact hnewl.nil_inv
                        subst hnl
                        have hrun := append_room (P := P) hY ts ht hti hk hte hz ty (some a') sLen c' 0 x' [] hnr hnewr (by have := hc.1; omega)
                        refine Sim.same hr (v' := .slice (some a') sLen c') ?_ (.slice ha hc)
                        rw [hrun]; simp [storeCells]
                      · simp at h
                    · rename_i h0
                      split at h
                      · rename_i vs el fz hg
                        split at h
                        · rename_i hcond
                          obtain ⟨c1, c2, c3, c4, cnh, c5, c6, c7⟩ := hcond
                          cases h
                          subst c2
                          have hlive : H.live b := by unfold Heap.live; rw [hg]; simp
                          obtain ⟨hb1, hb2, hb3⟩ := ha.loc hlive
                          have hcap : c' ≤ φ.cap b := by
                            rcases hc.2 with h3 | h3
                            · omega
                            · exact h3.2 hlive rfl
                          have ha' : a' = ⟨φ b, 0, none⟩ := by
                            obtain ⟨x1, x2, x3⟩ := a'
                            simp only at hb1 hb2 hb3
                            subst hb1 hb2 hb3
                            rfl
                          obtain ⟨c, fr, hcc, hlen, hvs, hfz, hwf, hq⟩ := hr.blk _ _ hg
                          have hfr : fr.2 ≤ fr.1 := hfz (hwf rfl)
                          rw [cellsOf_eq hY hte] at hq
                          by_cases hroom : sLen + n ≤ c'
                          · -- in place
                            have hrun := append_room (P := P) hY ts ht hti hk hte hz ty (some a') sLen c' n x' new' hnr hnewr hroom
                            have hnl : new'.length = n * te.size := by rw [← hnewl.1]; exact c3
                            have hone : new'.all Value.oneCell' = true := by
                              rw [List.all_eq_true] at c4 ⊢
                              intro y hy
                              obtain ⟨j, hj, rfl⟩ := List.getElem_of_mem hy
                              have hj2 : j < new.length := by rw [hnewl.1]; exact hj
                              rw [oneCell'_of_VR (hnewl.2 j hj2 hj)]
                              exact c4 _ (List.getElem_mem hj2)
                            have hsz : sLen * te.size + n * te.size ≤ c.size := by
                              have h1 : (sLen + n) * te.size ≤ φ.cap b * te.size := Nat.mul_le_mul_right _ (by omega)
                              rw [Nat.add_mul] at h1
                              omega
                            have haddr : a'.add (sLen * te.size) = ⟨φ b, sLen * te.size, none⟩ := by
                              rw [ha']
                              unfold Addr.add
                              split
                              · rename_i h9; rw [h9]
                              · simp
                            obtain ⟨w', cc, r1, r2, r3, r4, r5, r6, r7, r8, r9⟩ := raw_store (P := P) new' 0 w (a'.add (sLen * te.size)) c el fr (by rw [haddr]; exact hcc) hfr (by rw [haddr]) (by rw [haddr]; simp; omega) hone
                            rw [haddr] at r6 r7 r9
                            have hmain := hr.rename hg (by rfl) hu (nb := .cells (vs ++ new) el true false) (k := φ b) (q := φ.cap b) r2 r3 r4 (by omega) (.inl rfl) (fun i _ hi => r6 i hi) ?_
                            · refine ⟨.slice (some a') (sLen + n) c', _, w', ?_, ?_, hmain.1, hmain.2⟩
                              · rw [hrun]; simp [r1]
                              · refine .slice ⟨.inl rfl, fun _ => ⟨by simp [upd, hb1], hb2, hb3⟩⟩ ⟨hroom, .inr ⟨rfl, fun _ _ => by simp [upd]; exact hcap⟩⟩
                            · intro hl
                              refine ⟨cc, fr, r7, by simp [c1, c3, r8]; omega, ?_, fun _ => hfr, fun _ => rfl, by rw [cellsOf_eq hY hte, r8]; exact hq⟩
                              intro i hi hi'
                              have h9 := r9 i
                              rw [Array.getElem?_eq_getElem hi'] at h9
                              simp only [Nat.add_zero] at h9
                              by_cases hiv : i < vs.length
                              · rw [if_neg (by omega)] at h9
                                have hic : i < c.size := by omega
                                rw [Array.getElem?_eq_getElem hic] at h9
                                rw [List.getElem_append_left hiv]
                                have : cc[i] = c[i] := by simpa using h9
                                rw [this]
                                exact (hvs i hiv hic).mono hl
                              · simp only [List.length_append] at hi
                                rw [if_pos (by omega)] at h9
                                rw [List.getElem_append_right (by omega)]
                                have hin : i - vs.length < new'.length := by omega
                                rw [← c1, List.getElem?_eq_getElem hin] at h9
                                have : cc[i] = new'[i - vs.length] := by simpa using h9
                                rw [this]
                                exact .inr ((hnewl.2 _ (by omega) hin).mono hl)
                          · -- anew
                            cases hzz : te.zero with
                            | none => unfold TI.fits at c5; rw [hzz] at c5; simp at c5
                            | some z =>
                              have hold : efirst H te.size sLen (.slice (some ⟨b, 0, none⟩) sLen sCap) = some vs := by
                                unfold efirst
                                simp only
                                have cf : ∀ (n i : Nat) (l : List Value), l.length = n → i + n = vs.length → l = vs.drop i → H.cellsFrom ⟨b, 0, none⟩ i n = some l := by
                                  intro n
                                  induction n with
                                  | zero =>
                                    intro i l hl1 hl2 hl3
                                    rw [List.length_eq_zero_iff.1 hl1]; rfl
                                  | succ n ih =>
                                    intro i l hl1 hl2 hl3
                                    cases l with
                                    | nil => simp at hl1
                                    | cons y l =>
                                      have hi : i < vs.length := by omega
                                      have hd := List.drop_eq_getElem_cons hi
                                      rw [hd] at hl3
                                      simp only [List.cons.injEq] at hl3
                                      have hcell : H.cell ((⟨b, 0, none⟩ : Addr).add i) = some y := by
                                        have : (⟨b, 0, none⟩ : Addr).add i = ⟨b, i, none⟩ := by
                                          unfold Addr.add
                                          split
                                          · rename_i h9; rw [h9]
                                          · simp
                                        rw [this]
                                        unfold Heap.cell
                                        simp only [hg]
                                        have hyn : isHole vs[i] = false := by
                                          have := List.all_eq_true.1 cnh vs[i] (List.getElem_mem hi)
                                          simpa using this
                                        simp [hl3.1, hi, nh_of hyn]
                                      simp only [Heap.cellsFrom, hcell]
                                      rw [ih (i + 1) l (by simpa using hl1) (by omega) hl3.2]
                                exact cf _ 0 vs c1 (by omega) (by simp)
                              obtain ⟨old', holdr, holdl⟩ := first_ok (P := P) hr.drew hold (.slice ha hc)
                              obtain ⟨q, hq1, hrun⟩ := append_grow (P := P) hY ts ht hti hk hte hz hzz ty (some a') sLen c' n x' old' new2 hnr holdr hnewr2 (by omega) c6 c7
                              obtain ⟨hzr, hzv⟩ := zero_run hY hte hzz w
                              have hol : old'.length = sLen * te.size := by rw [← holdl.1]; exact c1
                              have hnl : new2.length = n * te.size := by rw [← hnewl2.1]; exact c3
                              have hzs : z.cells.size = te.size := by unfold TI.fits at c5; rw [hzz] at c5; simpa using c5
                              have hmain := hr.drew.rename hg (by rfl) hu (nb := .cells (vs ++ new) el true false) (k := w.heap.size) (q := q) (w' := w.drew.alloc (.cells (old'.toArray ++ new2.toArray ++ Builtin.zeroCells z.cells (q - (sLen + n))) el)) rfl rfl rfl (by simp) (.inr (by simp)) (fun i hi _ => RowKit.Below.heap_alloc _ _ _ hi) ?_
                              · refine ⟨_, _, _, hrun, ?_, hmain.1, ext_drew.trans hmain.2⟩
                                refine .slice ⟨.inl rfl, fun _ => ⟨by simp [upd], rfl, rfl⟩⟩ ⟨hq1, .inr ⟨rfl, fun _ _ => by simp [upd]⟩⟩
                              · intro hl
                                refine ⟨old'.toArray ++ new2.toArray ++ Builtin.zeroCells z.cells (q - (sLen + n)), (0, 0), ?_, ?_, ?_, fun _ => Nat.le_refl _, fun _ => rfl, ?_⟩
                                · exact Array.getElem?_push_size
                                · simp [c1, c3, hol, hnl]
                                · intro i hi hi'
                                  have hin : i < (old' ++ new2).length := by simp only [List.length_append] at hi ⊢; omega
                                  have e1 : (old'.toArray ++ new2.toArray ++ Builtin.zeroCells z.cells (q - (sLen + n)))[i] = (old' ++ new2)[i] := by
                                    rw [Array.getElem_append_left (by simpa using hin)]
                                    simp
                                  rw [e1]
                                  exact .inr (((holdl.append hnewl2).2 i hi hin).mono hl)
                                · rw [cellsOf_eq hY hte]
                                  simp only [Array.size_append, List.size_toArray, hol, hnl, zeroCells_size, hzs]
                                  have : q * te.size = sLen * te.size + n * te.size + (q - (sLen + n)) * te.size := by
                                    rw [← Nat.add_mul, ← Nat.add_mul]; congr 1; omega
                                  omega
                        · simp at h
                      · simp at h
                · simp at h
              · rename_i hcu
                split at h
                · rename_i hroom
                  split at h
                  · rename_i a
                    split at h
                    · rename_i H1 hput
                      cases h
                      cases hs with
                      | slice ha hc =>
                        rename_i a' c'
                        have hcc : sCap = c' := by
                          rcases hc.2 with h3 | h3
                          · exact h3.2
                          · exact absurd h3.1 hcu
                        subst hcc
                        have hrun := append_room (P := P) hY ts ht hti hk hte hz ty (some a') sLen sCap n x' new' hnr hnewr hroom
                        obtain ⟨w', hst, hr', he'⟩ := storeCells_ok (P := P) new new' 0 H w H' hr (ha.add _) hnewl hput
                        refine ⟨.slice (some a') (sLen + n) sCap, φ, w', ?_, ?_, hr', he'⟩
                        · rw [hrun]; simp [hst]
                        · have hsu : sCap < unk := by
                            rcases hc.2 with h3 | h3
                            · exact h3.1
                            · exact absurd h3.1 hcu
                          exact .slice (ha.mono he'.toLater) ⟨hroom, .inl ⟨hsu, rfl⟩⟩
                    · simp at h
                  · cases h
                    cases hs
                    have hrun := append_room (P := P) hY ts ht hti hk hte hz ty none sLen sCap n x' new' hnr hnewr hroom
                    exact Sim.same hr (by rw [hrun]; simp) (.slice0 _ _)
                · rename_i hroom
                  split at h
                  · rename_i hcond
                    obtain ⟨c5, c3, c6, c7⟩ := hcond
                    split at h
                    · rename_i old hold
                      split at h
                      · rename_i c1
                        cases h
                        cases hzz : te.zero with
                        | none => unfold TI.fits at c5; rw [hzz] at c5; simp at c5
                        | some z =>
                          have hzs : z.cells.size = te.size := by unfold TI.fits at c5; rw [hzz] at c5; simpa using c5
                          -- what stands in the model
                          obtain ⟨base', hs2⟩ : ∃ base', s' = .slice base' sLen sCap := by
                            cases hs with
                            | slice0 => exact ⟨none, rfl⟩
                            | slice ha hc =>
                              rename_i a a' c'
                              refine ⟨some a', ?_⟩
                              rcases hc.2 with h3 | h3
                              · rw [h3.2]
                              · exact absurd h3.1 hcu
                          subst hs2
                          obtain ⟨old', holdr, holdl⟩ := first_ok (P := P) hr.drew hold hs
                          obtain ⟨q, hq1, hrun⟩ := append_grow (P := P) hY ts ht hti hk hte hz hzz ty base' sLen sCap n x' old' new2 hnr holdr hnewr2 (by omega) c6 c7
                          have hol : old'.length = sLen * te.size := by rw [← holdl.1]; exact c1
                          have hnl : new2.length = n * te.size := by rw [← hnewl2.1]; exact c3
                          have hmain := hr.drew.alloc hu (q := q) (b := .cells (old ++ new) e true false) (o := .cells (old'.toArray ++ new2.toArray ++ Builtin.zeroCells z.cells (q - (sLen + n))) e) ?_
                          · refine ⟨_, _, _, hrun, ?_, hmain.1, ext_drew.trans hmain.2⟩
                            refine .slice ⟨.inl rfl, fun _ => ⟨by simp [upd], rfl, rfl⟩⟩ ⟨hq1, .inr ⟨rfl, fun _ _ => by simp [upd]⟩⟩
                          · have hl : Later H φ (H.set id (.cells (old ++ new) e true false)) (upd φ id w.drew.heap.size q) := later_set hu
                            refine ⟨old'.toArray ++ new2.toArray ++ Builtin.zeroCells z.cells (q - (sLen + n)), (0, 0), ?_, ?_, ?_, fun _ => Nat.le_refl _, fun _ => rfl, ?_⟩
                            · exact Array.getElem?_push_size
                            · simp [c1, c3, hol, hnl]
                            · intro i hi hi'
                              have hin : i < (old' ++ new2).length := by simp only [List.length_append] at hi ⊢; omega
                              have e1 : (old'.toArray ++ new2.toArray ++ Builtin.zeroCells z.cells (q - (sLen + n)))[i] = (old' ++ new2)[i] := by
                                rw [Array.getElem_append_left (by simpa using hin)]
                                simp
                              rw [e1]
                              exact .inr (((holdl.append hnewl2).2 i hi hin).mono hl)
                            · rw [cellsOf_eq hY hte]
                              simp only [Array.size_append, List.size_toArray, hol, hnl, zeroCells_size, hzs]
                              have : q * te.size = sLen * te.size + n * te.size + (q - (sLen + n)) * te.size := by
                                rw [← Nat.add_mul, ← Nat.add_mul]; congr 1; omega
                              omega
                      · simp at h
                    · simp at h
                  · simp at h
    · simp at h

end types
end Go.Proofs.YtcfjimhbachmlaaGreatDoor.E

/- The clean semantics: each operation is what the model's own does (7: maps). -/
namespace Go.Proofs.YtcfjimhbachmlaaGreatDoor.E
open Go

variable {B : Nat} {H : Heap} {φ : Mp} {w : World} {P : Program} {Y : Env}

/-- entries, related one by one -/
def EL (H : Heap) (φ : Mp) : List MapEntry → List MapEntry → Prop
  | [], [] => True
  | e :: l, e' :: l' => VR H φ e.key e'.key ∧ VR H φ e.val e'.val ∧ e.born = e'.born ∧ EL H φ l l'
  | _, _ => False

theorem EL.of : ∀ (l l' : List MapEntry), l.length = l'.length → (∀ i (h : i < l.length) (h' : i < l'.length), VR H φ l[i].key l'[i].key ∧ VR H φ l[i].val l'[i].val ∧ l[i].born = l'[i].born) → EL H φ l l'
  | [], [], _, _ => trivial
  | [], _ :: _, h, _ => by simp at h
  | _ :: _, [], h, _ => by simp at h
  | e :: l, e' :: l', h, g => by
    have h0 := g 0 (by simp) (by simp)
    exact ⟨h0.1, h0.2.1, h0.2.2, EL.of l l' (by simpa using h) fun i a b => g (i + 1) (by simpa using a) (by simpa using b)⟩

theorem EL.get : ∀ (l l' : List MapEntry), EL H φ l l' → l.length = l'.length ∧ ∀ i (h : i < l.length) (h' : i < l'.length), VR H φ l[i].key l'[i].key ∧ VR H φ l[i].val l'[i].val ∧ l[i].born = l'[i].born
  | [], [], _ => ⟨rfl, fun i h => by simp at h⟩
  | [], _ :: _, h => h.elim
  | _ :: _, [], h => h.elim
  | e :: l, e' :: l', h => by
    obtain ⟨h1, h2, h3, h4⟩ := h
    obtain ⟨g1, g2⟩ := EL.get l l' h4
    refine ⟨by simp [g1], fun i a b => ?_⟩
    cases i with
    | zero => exact ⟨h1, h2, h3⟩
    | succ i => exact g2 i (by simpa using a) (by simpa using b)

/-- what a search finds -/
def FdR (H : Heap) (φ : Mp) : Option (Nat × Value) → Option (Nat × Value) → Prop
  | none, none => True
  | some (i, v), some (j, u) => i = j ∧ VR H φ v u
  | _, _ => False

theorem run_forIn_unit {α : Type} {F : α → PUnit → Sem (ForInStep PUnit)} : ∀ (l : List α), (∀ f ∈ l, ∀ u, (F f u).run P w = .ok (.yield PUnit.unit) w) → (forIn l PUnit.unit F).run P w = .ok PUnit.unit w := by
  intro l
  induction l with
  | nil => intro _; rfl
  | cons f l ih =>
    intro h
    rw [List.forIn_cons]
    simp [h f (by simp), ih fun g hg => h g (by simp [hg])]

section types
variable (hY : Y.ok P)
include hY

theorem keyok_run (d : Nat) : ∀ (n : Nat) (t : TypeId) (v v' : Value) (b : Bool), d ≤ n → ekeyok Y d t v = true → VR H φ v v' → (Instr.checkKey b n t v').run P w = .ok () w := by
  induction d with
  | zero => intro n t v v' b _ h; simp [ekeyok] at h
  | succ d ih =>
    intro n t v v' b hn h hv
    obtain ⟨n, rfl⟩ : ∃ k, n = k + 1 := ⟨n - 1, by omega⟩
    simp only [ekeyok] at h
    split at h
    · simp at h
    · rename_i ti hti
      obtain ⟨u, hu, hurun, hk⟩ := und_run hY hti w
      split at h
      · rename_i hk2
        have := TKof_bool (hk.trans hk2); subst this
        cases hv; simp [Instr.checkKey, hurun]
      · rename_i hk2
        have := TKof_int (hk.trans hk2); subst this
        cases hv; simp [Instr.checkKey, hurun]
      · rename_i hk2
        have := TKof_string (hk.trans hk2); subst this
        cases hv; simp [Instr.checkKey, hurun]
      · rename_i hk2
        have := TKof_pointer (hk.trans hk2); subst this
        cases hv <;> simp [Instr.checkKey, hurun]
      · rename_i fs cs hk2
        obtain ⟨g, rfl, hg⟩ := TKof_struct (hk.trans hk2)
        cases hv with
        | agg hx1 hx2 =>
          rename_i cs'
          subst hg
          simp only [Instr.checkKey, Sem.run_bind, hurun, Result.andThen_ok]
          rw [← Array.forIn_toList]
          rw [run_forIn_unit g.toList ?_]
          · rfl
          intro f hf u
          have h1 := List.all_eq_true.1 h (f.type, f.offset, f.name == "_") (List.mem_map.2 ⟨f, hf, rfl⟩)
          by_cases hb : f.name = "_"
          · simp [hb]
          · have hb' : (f.name == "_") = false := by simpa using hb
            simp only [hb', Bool.false_or] at h1
            split at h1
            · rename_i x hx
              obtain ⟨x', hx', hxv⟩ := part_ok hY hx ⟨hx1, hx2⟩
              have := ih n f.type x x' b (by omega) h1 hxv
              simp [hb, hx', this]
            · simp at h1
      · simp at h

omit hY in
theorem sameNow_ok {t : TypeId} {ti : TI} {u : TypeDesc} (hti : Y.ty t = some ti) (hk : TKof u = ti.k) {x x' y y' : Value} (hx : VR H φ x x') (hy : VR H φ y y') {b b2 : Bool}
    (hb : Instr.sameNow u x' y' = some b) (hb2 : eeqIn Y H 4 t x y = some b2) : b = b2 := by
  simp only [eeqIn, hti, ← hk] at hb2
  unfold Instr.sameNow at hb
  split at hb
  · cases hx; cases hy
    simp only [TKof] at hb2
    split at hb
    · rename_i hkk
      simp only [hkk, if_true] at hb2
      cases hb; cases hb2; rfl
    · simp at hb
  · cases hx; cases hy
    simp only [TKof] at hb2
    cases hb; cases hb2
    rw [beq_toListBytes, ByteArray.toList_eq, ByteArray.toList_eq]
  · cases hx; cases hy
    simp only [TKof] at hb2
    cases hb; cases hb2; rfl
  · simp at hb

omit hY in
/-- the search by what is seen at once -/
theorem findNow_ok {t : TypeId} {ti : TI} {u : TypeDesc} (hti : Y.ty t = some ti) (hk : TKof u = ti.k) {k k' : Value} (hkv : VR H φ k k') : ∀ (es es' : List MapEntry) (i : Nat) (r : Option (Nat × Value)) (r' : Option (Nat × Value)),
    efind Y H t k es i = some r → EL H φ es es' → Instr.findNow u k' es' i = some r' → FdR H φ r r' := by
  intro es
  induction es with
  | nil =>
    intro es' i r r' h he h'
    cases es' with
    | nil => cases h; cases h'; trivial
    | cons _ _ => exact he.elim
  | cons e es ih =>
    intro es' i r r' h he h'
    cases es' with
    | nil => exact he.elim
    | cons e' es' =>
      obtain ⟨h1, h2, _, h4⟩ := he
      simp only [efind] at h
      simp only [Instr.findNow] at h'
      split at h'
      · rename_i hs
        cases h'
        split at h
        · cases h; exact ⟨rfl, h2⟩
        · rename_i he2; have := sameNow_ok hti hk hkv h1 hs he2; simp at this
        · simp at h
      · rename_i hs
        split at h
        · rename_i he2; have := sameNow_ok hti hk hkv h1 hs he2; simp at this
        · exact ih es' (i + 1) r r' h h4 h'
        · simp at h
      · simp at h'

theorem findAsking_ok (hr : HR B P H φ w) {t : TypeId} {k k' : Value} (hkv : VR H φ k k') : ∀ (es es' : List MapEntry) (i : Nat) (r : Option (Nat × Value)),
    efind Y H t k es i = some r → EL H φ es es' → ∃ r', (Instr.findAsking t k' es' i).run P w = .ok r' w ∧ FdR H φ r r' := by
  intro es
  induction es with
  | nil =>
    intro es' i r h he
    cases es' with
    | nil => cases h; exact ⟨none, rfl, trivial⟩
    | cons _ _ => exact he.elim
  | cons e es ih =>
    intro es' i r h he
    cases es' with
    | nil => exact he.elim
    | cons e' es' =>
      obtain ⟨h1, h2, _, h4⟩ := he
      simp only [efind] at h
      split at h
      · rename_i he2
        cases h
        have := equal_ok hY hr he2 hkv h1
        exact ⟨some (i, e'.val), by simp [Instr.findAsking, this], rfl, h2⟩
      · rename_i he2
        have := equal_ok hY hr he2 hkv h1
        obtain ⟨r', g1, g2⟩ := ih es' (i + 1) r h h4
        exact ⟨r', by simp [Instr.findAsking, this, g1], g2⟩
      · simp at h

theorem find_ok (hr : HR B P H φ w) {t : TypeId} {ti : TI} (hti : Y.ty t = some ti) {k k' : Value} (hkv : VR H φ k k') {es es' : List MapEntry} {r : Option (Nat × Value)}
    (h : efind Y H t k es 0 = some r) (he : EL H φ es es') : ∃ r', (Instr.findKey t k' es').run P w = .ok r' w ∧ FdR H φ r r' := by
  obtain ⟨u, hu, hurun, hk⟩ := und_run hY hti w
  cases hn : Instr.findNow u k' es' 0 with
  | some r' => exact ⟨r', by simp [Instr.findKey, hurun, hn], findNow_ok hti hk hkv es es' 0 r r' h he hn⟩
  | none =>
    obtain ⟨r', g1, g2⟩ := findAsking_ok hY hr hkv es es' 0 r h he
    exact ⟨r', by simp [Instr.findKey, hurun, hn, g1], g2⟩

omit hY in
theorem getObj_map (hr : HR B P H φ w) {r r' : Nat} {es : List MapEntry} {cl : Nat} {wr : Bool} (hg : H.get r = some (.map es cl wr)) (hl : H.live r → r' = φ r) :
    r' = φ r ∧ ∃ es', w.heap[φ r]? = some (.map es' cl) ∧ (getObj (φ r)).run P w = .ok (.map es' cl) w ∧ EL H φ es es'.toList ∧ es.length = es'.size := by
  have h1 := hl (by unfold Heap.live; rw [hg]; simp)
  obtain ⟨es', hc, hlen, hv⟩ := hr.blk _ _ hg
  refine ⟨h1, es', hc, by simp [getObj, Sem.run, hc], EL.of _ _ (by simpa using hlen) (fun i a b => by simpa using hv i a (by simpa using b)), hlen⟩

theorem lookup_sim (hr : HR B P H φ w) {t : TypeId} {m m' k k' v : Value} {ok : Bool} (h : elookup Y H t m k ok = some v) (hm : VR H φ m m') (hk : VR H φ k k') : Sim0 P H φ w (Instr.lookup t m' k' ok) v := by
  unfold elookup at h
  split at h
  · simp at h
  · rename_i ti hti
    obtain ⟨u, hu, hurun, hk2⟩ := und_run hY hti w
    split at h
    · rename_i kt vt hkk
      have := TKof_map (hk2.trans hkk); subst this
      split at h
      · simp at h
      · rename_i tv htv
        have zero : ∀ z, tv.zero = some z → (zeroValue vt).run P w = .ok z w ∧ VR H φ z z := fun z hz => ⟨(zero_run hY htv hz w).1, (zero_run hY htv hz w).2 H φ⟩
        have tup : ∀ {a a' : Value} (b : Bool), VR H φ a a' → VR H φ (if ok then .tuple #[a, .bool b] else a) (if ok then .tuple #[a', .bool b] else a') := by
          intro a a' b ha
          cases ok with
          | false => exact ha
          | true =>
            have hl : LR H φ [a, .bool b] [a', .bool b] := LR.cons ha (LR.cons (.bool b) LR.nil)
            exact .tuple rfl (ArrR.ofList (xs := #[a, .bool b]) (ys := #[a', .bool b]) hl).2
        split at h
        · rename_i hko
          have kty : ∃ tk, Y.ty kt = some tk := by
            simp only [ekeyok] at hko
            split at hko
            · simp at hko
            · rename_i tk htk; exact ⟨tk, htk⟩
          obtain ⟨tk, htk⟩ := kty
          split at h
          · cases hm
            split at h
            · rename_i z hz
              cases h
              obtain ⟨z1, z2⟩ := zero z hz
              obtain ⟨uk, _, huk, _⟩ := und_run hY htk w
              have hck := keyok_run (P := P) (w := w) hY 3 10000 kt k k' true (by omega) hko hk
              refine Sim0.same (v' := if ok then .tuple #[z, .bool false] else z) ?_ (tup false z2)
              simp [Instr.lookup, hurun, hck, Instr.findKey, huk, Instr.findNow, z1]
            · simp at h
          · rename_i r
            cases hm with
            | map ho hl =>
              split at h
              · rename_i es cl wr hg
                obtain ⟨hr1, es', hc, hobj, hel, hlen⟩ := getObj_map (P := P) hr hg hl
                subst hr1
                have hck := keyok_run (P := P) (w := w) hY 3 10000 kt k k' es'.isEmpty (by omega) hko hk
                split at h
                · rename_i i v0 hf
                  cases h
                  obtain ⟨r', g1, g2⟩ := find_ok hY hr htk hk hf hel
                  cases r' with
                  | none => exact g2.elim
                  | some q =>
                    obtain ⟨j, u2⟩ := q
                    obtain ⟨rfl, g3⟩ := g2
                    refine Sim0.same (v' := if ok then .tuple #[u2, .bool true] else u2) ?_ (tup true g3)
                    simp [Instr.lookup, hurun, hobj, hck, g1]
                · rename_i hf
                  obtain ⟨r', g1, g2⟩ := find_ok hY hr htk hk hf hel
                  cases r' with
                  | some q => exact g2.elim
                  | none =>
                    split at h
                    · rename_i z hz
                      cases h
                      obtain ⟨z1, z2⟩ := zero z hz
                      refine Sim0.same (v' := if ok then .tuple #[z, .bool false] else z) ?_ (tup false z2)
                      simp [Instr.lookup, hurun, hobj, hck, g1, z1]
                    · simp at h
                · simp at h
              · simp at h
          · simp at h
        · simp at h
    · simp at h

omit hY in
theorem esame1_ok {x y x' y' : Value} (h : esame1 H x y = true) (hx : VR H φ x x') (hy : VR H φ y y') (n : Nat) : Instr.sameBits n x' y' = true := by
  unfold esame1 at h
  split at h
  · cases hx; cases hy; cases n <;> simpa [Instr.sameBits] using h
  · cases hx; cases hy; cases n <;> simpa [Instr.sameBits] using h
  · cases hx; cases hy
    have : ∀ (a b : ByteArray), (a.data.toList == b.data.toList) = true → (a == b) = true := fun a b h => by rw [beq_toListBytes, ByteArray.toList_eq, ByteArray.toList_eq]; exact h
    cases n <;> (simp only [Instr.sameBits]; exact this _ _ h)
  · cases hx; cases hy; cases n <;> simp [Instr.sameBits]
  · cases hx; cases hy
    rename_i a b a' ha b' hb
    simp only [Bool.and_eq_true, beq_iff_eq] at h
    obtain ⟨rfl, hl⟩ := h
    have hlive : H.live a.block := by unfold Heap.live; intro h0; rw [h0] at hl; simp at hl
    obtain ⟨a1, a2, a3⟩ := ha.loc hlive
    obtain ⟨b1, b2, b3⟩ := hb.loc hlive
    have : a' = b' := by
      obtain ⟨x1, x2, x3⟩ := a'
      obtain ⟨y1, y2, y3⟩ := b'
      simp only at *
      subst a1 a2 a3 b1 b2 b3
      rfl
    subst this
    cases n <;> simp [Instr.sameBits]
  · simp at h

omit hY in
theorem esameL_ok (n : Nat) : ∀ (xs ys xs' ys' : List Value), esameL H xs ys = true → LR H φ xs xs' → LR H φ ys ys' → xs'.length = ys'.length ∧ ((xs'.zip ys').all fun (x, y) => Instr.sameBits n x y) = true := by
  intro xs
  induction xs with
  | nil =>
    intro ys xs' ys' h hx hy
    cases ys with
    | nil => rw [hx.nil_inv, hy.nil_inv]; exact ⟨rfl, rfl⟩
    | cons _ _ => simp [esameL] at h
  | cons x xs ih =>
    intro ys xs' ys' h hx hy
    cases ys with
    | nil => simp [esameL] at h
    | cons y ys =>
      obtain ⟨x', xs1, rfl, hx1, hx2⟩ := hx.cons_inv
      obtain ⟨y', ys1, rfl, hy1, hy2⟩ := hy.cons_inv
      simp only [esameL, Bool.and_eq_true] at h
      obtain ⟨h1, h2⟩ := ih ys xs1 ys1 h.2 hx2 hy2
      refine ⟨by simp [h1], ?_⟩
      simp only [List.zip_cons_cons, List.all_cons, Bool.and_eq_true]
      exact ⟨esame1_ok h.1 hx1 hy1 n, h2⟩

omit hY in
theorem esame_ok {x y x' y' : Value} (h : esame H x y = true) (hx : VR H φ x x') (hy : VR H φ y y') : Instr.sameBits 10000 x' y' = true := by
  unfold esame at h
  split at h
  · rename_i a b
    cases hx with
    | agg hx1 hx2 =>
      cases hy with
      | agg hy1 hy2 =>
        rename_i a' b'
        obtain ⟨h1, h2⟩ := esameL_ok 9999 _ _ _ _ h (ArrR.toList ⟨hx1, hx2⟩) (ArrR.toList ⟨hy1, hy2⟩)
        have h1' : a'.size = b'.size := by simpa using h1
        simp only [Instr.sameBits, h1', beq_self_eq_true, Bool.true_and]
        exact h2
  · exact esame1_ok h hx hy 10000

theorem mapUpdate_sim (hr : HR B P H φ w) {t : TypeId} {m m' k k' v v' : Value} {H' : Heap} (h : emapUpdate Y H t m k v = some H') (hm : VR H φ m m') (hk : VR H φ k k') (hv : VR H φ v v') :
    ∃ w', (Instr.mapUpdate t m' k' v').run P w = .ok () w' ∧ HR B P H' φ w' ∧ Ext H φ w H' φ w' := by
  unfold emapUpdate at h
  split at h
  · simp at h
  · rename_i ti hti
    obtain ⟨u, hu, hurun, hk2⟩ := und_run hY hti w
    split at h
    · rename_i kt vt hkk
      have := TKof_map (hk2.trans hkk); subst this
      split at h
      · rename_i hko
        have kty : ∃ tk, Y.ty kt = some tk := by
          simp only [ekeyok] at hko
          split at hko
          · simp at hko
          · rename_i tk htk; exact ⟨tk, htk⟩
        obtain ⟨tk, htk⟩ := kty
        split at h
        · rename_i r
          cases hm with
          | map ho hl =>
            split at h
            · rename_i es cl hg
              obtain ⟨hr1, es', hc, hobj, hel, hlen⟩ := getObj_map (P := P) hr hg hl
              subst hr1
              have hlt := (hr.blk _ _ hg).lt
              have hck := keyok_run (P := P) (w := w) hY 3 10000 kt k k' false (by omega) hko hk
              have hset : ∀ es2 cl2, (setObj (φ r) (.map es2 cl2)).run P w = .ok () { w with heap := w.heap.setIfInBounds (φ r) (.map es2 cl2) } := by
                intro es2 cl2; simp [setObj, Sem.run, hc]
              have hw2 : ∀ (nb : Blk) (o : Obj), BR P (H.set r nb) φ { w with heap := w.heap.setIfInBounds (φ r) o } (φ r) (φ.cap r) nb → HR B P (H.set r nb) φ { w with heap := w.heap.setIfInBounds (φ r) o } ∧ Ext H φ w (H.set r nb) φ { w with heap := w.heap.setIfInBounds (φ r) o } := by
                intro nb o hb
                refine hr.write hg rfl rfl rfl rfl (by simp) (fun i hi => ?_) hb
                simp only [Array.getElem?_setIfInBounds]
                rw [if_neg (by omega)]
              have hl' : ∀ nb, Later H φ (H.set r nb) φ := by
                intro nb
                refine ⟨le_set _ _ _, fun i hi => .inr hi, fun i hi hl => ?_, fun i hi _ => rfl, fun i hi _ => rfl⟩
                by_cases e : i = r
                · subst e; unfold Heap.live; rw [hg]; simp
                · unfold Heap.live at *; rwa [Heap.get_set_ne _ _ e] at hl
              split at h
              · rename_i i v0 hf
                split at h
                · rename_i hsame
                  cases h
                  obtain ⟨r', g1, g2⟩ := find_ok hY hr htk hk hf hel
                  cases r' with
                  | none => exact g2.elim
                  | some q =>
                    obtain ⟨j, u2⟩ := q
                    obtain ⟨rfl, g3⟩ := g2
                    obtain ⟨q1, q2⟩ := EL.get _ _ hel
                    unfold eold at hsame
                    split at hsame
                    · rename_i e0 he0
                      obtain ⟨hi, rfl⟩ := List.getElem?_eq_some_iff.1 he0
                      have hi' : i < es'.size := by omega
                      have hkeys := (q2 i hi (by simpa using hi')).1
                      have hkeys' : VR H φ es[i].key es'[i].key := by simpa using hkeys
                      have hsb := esame_ok hsame hkeys' hk
                      have hkts : (Instr.keyThatStays es'[i].key k').run P w = .ok k' w := by simp [Instr.keyThatStays, hsb]
                      obtain ⟨m1, m2⟩ := hw2 (.map (es.modify i fun e => { e with key := k, val := v }) cl true) (.map (es'.modify i fun e => { e with key := k', val := v' }) cl) (by
                        refine ⟨es'.modify i fun e => { e with key := k', val := v' }, by simp [hlt], by simpa using hlen, fun j hj hj' => ?_⟩
                        have hj1 : j < es.length := by simpa using hj
                        have hj2 : j < es'.size := by simpa using hj'
                        have hq := q2 j hj1 (by simpa using hj2)
                        simp only [List.getElem_modify, Array.getElem_modify]
                        by_cases e : i = j
                        · subst e
                          simp only [if_true]
                          exact ⟨hk.mono (hl' _), hv.mono (hl' _), by simpa using hq.2.2⟩
                        · simp only [e, if_false]
                          simp only [Array.getElem_toList] at hq
                          exact ⟨hq.1.mono (hl' _), hq.2.1.mono (hl' _), hq.2.2⟩)
                      refine ⟨_, ?_, m1, m2⟩
                      simp [Instr.mapUpdate, hurun, hobj, hck, g1, hi', hkts, hset]
                    · simp at hsame
                · simp at h
              · rename_i hf
                cases h
                obtain ⟨r', g1, g2⟩ := find_ok hY hr htk hk hf hel
                cases r' with
                | some q => exact g2.elim
                | none =>
                  obtain ⟨q1, q2⟩ := EL.get _ _ hel
                  obtain ⟨m1, m2⟩ := hw2 (.map (es ++ [{ key := k, val := v, born := cl }]) (cl + 1) true) (.map (es'.push { key := k', val := v', born := cl }) (cl + 1)) (by
                    refine ⟨es'.push { key := k', val := v', born := cl }, by simp [hlt], by simp [hlen], fun j hj hj' => ?_⟩
                    simp only [List.length_append, List.length_cons, List.length_nil] at hj
                    by_cases e : j < es.length
                    · have hj2 : j < es'.size := by omega
                      have hq := q2 j e (by simpa using hj2)
                      rw [List.getElem_append_left e, Array.getElem_push_lt hj2]
                      simp only [Array.getElem_toList] at hq
                      exact ⟨hq.1.mono (hl' _), hq.2.1.mono (hl' _), hq.2.2⟩
                    · have hje : j = es.length := by omega
                      subst hje
                      rw [List.getElem_append_right (Nat.le_refl _)]
                      simp only [hlen, Array.getElem_push_eq]
                      simp only [Nat.sub_self, List.getElem_cons_zero]
                      exact ⟨hk.mono (hl' _), hv.mono (hl' _), trivial⟩)
                  refine ⟨_, ?_, m1, m2⟩
                  simp [Instr.mapUpdate, hurun, hobj, hck, g1, hset]
              · simp at h
            · simp at h
        · simp at h
      · simp at h
    · simp at h

end types
end Go.Proofs.YtcfjimhbachmlaaGreatDoor.E
