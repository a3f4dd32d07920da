/- The clean semantics: contracts of functions that read what is given; what is given, in plain terms. -/
import Derived.Test.YtcfjimhbachmlaaGreatDoorM4
import Derived.Test.YtcfjimhbachmlaaGreatDoorM3
set_option linter.unusedVariables false
set_option linter.unusedSimpArgs false

namespace Go.Proofs.YtcfjimhbachmlaaGreatDoor.E
open Go Go.Proofs
open Go.Proofs.YtcfjimhbachmlaaGreatDoor.L

/-- the end of a function whose results are such -/
def REnd (Y : Env) (rs : List ResultVar) (Post : Value → Heap → Prop) : EPost := fun e g H =>
  match e with
  | .normal | .ret => match eres Y rs g H with
    | some vs => Post (etuple vs) H
    | none => False
  | _ => False

/-- a function of this program: its code in small, its results, its slots -/
noncomputable def facts (f : FuncId) : Option (C2 × List ResultVar × Nat) :=
  match Tryz.prog.funcs[f]? with
  | some fn => match fn.body with
    | some c => match conv TY c with
      | some c2 => some (c2, fn.results.toList, fn.ntmps)
      | none => none
    | none => none
  | none => none

/-- blocks that are known have numbers that were given -/
def Wf (H : Heap) : Prop := ∀ i b, H.get i = some b → i < H.nxt

theorem SC.wf {P : Program} {f : FuncId} {args : Array Value} {H : Heap} {Post : Value → Heap → Prop} (hf : ∃ fn, P.funcs[f]? = some fn ∧ (fn.name == "runtime.NumGoroutine") = false ∧ fn.body.isNone = false)
    (h : Wf H → SC P f args H Post) : SC P f args H Post :=
  ⟨hf, fun B φ w args' hr ha => (h fun i b hi => hr.lt i (hr.liv i (by unfold Heap.live; rw [hi]; simp))).2 B φ w args' hr ha⟩

theorem SC.post_wf {P : Program} {f : FuncId} {args : Array Value} {H : Heap} {Post : Value → Heap → Prop} (h : SC P f args H Post) : SC P f args H (fun v H' => Post v H' ∧ Wf H') :=
  ⟨h.1, fun B φ w args' hr ha => (h.2 B φ w args' hr ha).mono fun e w' ⟨v, H', φ', v', h1, h2, h3, h4, h5⟩ =>
    ⟨v, H', φ', v', ⟨h1, fun i b hi => h4.lt i (h4.liv i (by unfold Heap.live; rw [hi]; simp))⟩, h2, h3, h4, h5⟩⟩

theorem SC_of_W {f : FuncId} {c2 : C2} {rs : List ResultVar} {n : Nat} {args : Array Value} {H : Heap} {Post : Value → Heap → Prop} (hf : facts f = some (c2, rs, n)) (ha : args.size ≤ n)
    (h : Wf H → W TY Tryz.prog c2 [] (REnd TY rs Post) (frame0 args) H) : SC Tryz.prog f args H Post := by
  refine SC.wf ?_ fun hwf => ?_
  · unfold facts at hf
    split at hf
    · rename_i fn hfn
      split at hf
      · rename_i c hb
        exact ⟨fn, hfn, ((fok f).ok fn c hfn hb).1, by simp [hb]⟩
      · simp at hf
    · simp at hf
  have h := h hwf
  unfold facts at hf
  split at hf
  · rename_i fn hfn
    split at hf
    · rename_i c hb
      split at hf
      · rename_i c3 hc
        simp only [Option.some.injEq, Prod.mk.injEq] at hf
        obtain ⟨rfl, rfl, rfl⟩ := hf
        obtain ⟨h1, h2, h3⟩ := (fok f).ok fn c hfn hb
        exact SC_of_ew ty_ok (drawSim ty_ok prog_mixed) hfn h1 hb h2 h3 ha (ew_of_cw c c3 hc _ _ _ h)
      · simp at hf
    · simp at hf
  · simp at hf

/-! heaps that go on -/

/-- what was there is as it was -/
structure Fr (H H' : Heap) : Prop where
  nxt : H.nxt ≤ H'.nxt
  old : ∀ i, i < H.nxt → H'.get i = H.get i

theorem Fr.refl (H : Heap) : Fr H H := ⟨Nat.le_refl _, fun _ _ => rfl⟩
theorem Fr.trans {H H' H'' : Heap} (h : Fr H H') (g : Fr H' H'') : Fr H H'' := ⟨Nat.le_trans h.nxt g.nxt, fun i hi => by rw [g.old i (Nat.lt_of_lt_of_le hi h.nxt), h.old i hi]⟩
theorem set_nxt_le (H : Heap) (id : Nat) (b : Blk) : H.nxt ≤ (H.set id b).nxt := by simp only [Heap.set]; split <;> omega
theorem set_nxt_lt (H : Heap) (id : Nat) (b : Blk) : id < (H.set id b).nxt := by simp only [Heap.set]; split <;> omega
theorem Fr.set {H H' : Heap} (h : Fr H H') {id : Nat} (hid : H.nxt ≤ id) (b : Blk) : Fr H (H'.set id b) :=
  ⟨Nat.le_trans h.nxt (set_nxt_le _ _ _), fun i hi => by rw [Heap.get_set_ne _ _ (by omega)]; exact h.old i hi⟩
theorem Fr.reserve {H H' : Heap} (h : Fr H H') (n : Nat) : Fr H (H'.reserve n) := ⟨by simp only [Heap.reserve]; have := h.nxt; omega, fun i hi => h.old i hi⟩
theorem Fr.put {H H' H'' : Heap} (h : Fr H H') {a : Addr} {vs : List Value} {k : Nat} (ha : H.nxt ≤ a.block) (hn : H'.nxt ≤ H''.nxt) (hp : H'.putCells a k vs = some H'') : Fr H H'' :=
  ⟨Nat.le_trans h.nxt hn, fun i hi => by rw [putCells_frame vs k H' H'' hp (by omega)]; exact h.old i hi⟩

/-- what is given: some blocks, all below a number, are in a heap -/
structure Kn (G : Nat → Option Blk) (m : Nat) (H : Heap) : Prop where
  le : m ≤ H.nxt
  lt : ∀ i b, G i = some b → i < m
  get : ∀ i b, G i = some b → H.get i = some b

theorem Kn.fr {G : Nat → Option Blk} {m : Nat} {H H' : Heap} (h : Kn G m H) (g : Fr H H') : Kn G m H' :=
  ⟨Nat.le_trans h.le g.nxt, h.lt, fun i b hi => by rw [g.old i (Nat.lt_of_lt_of_le (h.lt i b hi) h.le)]; exact h.get i b hi⟩
theorem Kn.set {G : Nat → Option Blk} {m : Nat} {H : Heap} (h : Kn G m H) {id : Nat} (hid : m ≤ id) (b : Blk) : Kn G m (H.set id b) :=
  ⟨Nat.le_trans h.le (set_nxt_le _ _ _), h.lt, fun i c hi => by rw [Heap.get_set_ne _ _ (by have := h.lt i c hi; omega)]; exact h.get i c hi⟩
theorem Kn.reserve {G : Nat → Option Blk} {m : Nat} {H : Heap} (h : Kn G m H) (n : Nat) : Kn G m (H.reserve n) := ⟨by simp only [Heap.reserve]; have := h.le; omega, h.lt, h.get⟩

theorem Kn.self {H : Heap} (h : Wf H) : Kn H.get H.nxt H := ⟨Nat.le_refl _, h, fun _ _ h => h⟩
def Sub (G G' : Nat → Option Blk) : Prop := ∀ i b, G i = some b → G' i = some b
theorem Kn.sub {G : Nat → Option Blk} {m : Nat} {H : Heap} (h : Kn G m H) : Sub G H.get := h.get
theorem Fr.sub {H H' : Heap} (h : Fr H H') (hw : Wf H) : Sub H.get H'.get := fun i b hi => by rw [h.old i (hw i b hi)]; exact hi

def GH (G : Nat → Option Blk) : Heap := ⟨G, 0, fun _ => True⟩

theorem Kn.cell {G : Nat → Option Blk} {m : Nat} {H : Heap} (h : Kn G m H) {a : Addr} {v : Value} (hc : (GH G).cell a = some v) : H.cell a = some v := by
  unfold Heap.cell at hc ⊢
  split at hc
  · simp at hc
  · rename_i hs
    rw [if_neg hs]
    split at hc
    · rename_i vs e w f hg
      rw [h.get _ _ hg]; exact hc
    · simp at hc

theorem Kn.cells {G : Nat → Option Blk} {m : Nat} {H : Heap} (h : Kn G m H) {a : Addr} : ∀ {n i : Nat} {vs : List Value}, (GH G).cellsFrom a i n = some vs → H.cellsFrom a i n = some vs
  | 0, i, vs, hc => hc
  | n + 1, i, vs, hc => by
    simp only [Heap.cellsFrom] at hc ⊢
    split at hc
    · simp at hc
    · rename_i v hv
      rw [h.cell hv]
      split at hc
      · simp at hc
      · rename_i r hr
        rw [h.cells hr]; exact hc

/-! what is given, in plain terms -/

def Sees (G : Nat → Option Blk) (a : Addr) (k : Nat) (cs : List Value) : Prop := (GH G).cellsFrom a 0 k = some cs

theorem Sees.mono {G G' : Nat → Option Blk} (h : Sub G G') {a : Addr} {k : Nat} {cs : List Value} (ha : Sees G a k cs) : Sees G' a k cs := by
  have kn : Kn G 0 ⟨G', 0, fun _ => True⟩ → True := fun _ => trivial
  have cell : ∀ {a : Addr} {v : Value}, (GH G).cell a = some v → (GH G').cell a = some v := by
    intro a v hc
    unfold Heap.cell at hc ⊢
    split at hc
    · simp at hc
    · rename_i hs
      rw [if_neg hs]
      split at hc
      · rename_i vs e w f hg
        rw [show (GH G').get a.block = some (.cells vs e w f) from h _ _ hg]; exact hc
      · simp at hc
  have cells : ∀ (n i : Nat) (vs : List Value), (GH G).cellsFrom a i n = some vs → (GH G').cellsFrom a i n = some vs := by
    intro n
    induction n with
    | zero => intro i vs hc; exact hc
    | succ n ih =>
      intro i vs hc
      simp only [Heap.cellsFrom] at hc ⊢
      split at hc
      · simp at hc
      · rename_i v hv
        rw [cell hv]
        split at hc
        · simp at hc
        · rename_i r hr
          rw [ih _ _ hr]; exact hc
  exact cells k 0 cs ha

/-- a slice of such elements, of `k` cells each -/
def IsSl {α : Type} (G : Nat → Option Blk) (k : Nat) (R : List Value → α → Prop) (v : Value) (l : List α) : Prop :=
  ∃ a c, v = .slice a l.length c ∧ l.length < 4294967296 ∧ ∀ i x, l[i]? = some x → ∃ b cs, a = some b ∧ Sees G (b.add (i * k)) k cs ∧ R cs x

def IsI (cs : List Value) (x : Int) : Prop := cs = [.int .i64 x]
def IsNd (cs : List Value) (x : Nd) : Prop := cs = [.int .i64 x.1, .int .i64 x.2]
def Is1 {α : Type} (R : Value → α → Prop) (cs : List Value) (x : α) : Prop := ∃ u, cs = [u] ∧ R u x
def IsInts (G : Nat → Option Blk) : Value → List Int → Prop := IsSl G 1 IsI
def IsAlt (G : Nat → Option Blk) : Value → List Nd → Prop := IsSl G 2 IsNd
def IsAlts (G : Nat → Option Blk) : Value → List (List Nd) → Prop := IsSl G 1 (Is1 (IsAlt G))
def IsRow (G : Nat → Option Blk) : Value → List (List (List Nd)) → Prop := IsSl G 1 (Is1 (IsAlts G))
def IsMoves (G : Nat → Option Blk) : Value → List (List (List (List Nd))) → Prop := IsSl G 1 (Is1 (IsRow G))

/-- a tree, as cells -/
inductive IsT (G : Nat → Option Blk) : List Value → T → Prop where
  | mk {s : Int} {ks : List T} {a : Option Addr} {c : Nat} (cs : Nat → List Value) (hn : ks.length < 4294967296) (ha : ∀ i, i < ks.length → ∃ b, a = some b ∧ Sees G (b.add (i * 2)) 2 (cs i))
      (hk : ∀ i x, ks[i]? = some x → IsT G (cs i) x) : IsT G [.int .i64 s, .slice a ks.length c] (.mk s ks)

theorem IsT.inv {G : Nat → Option Blk} {cs : List Value} {s : Int} {ks : List T} (h : IsT G cs (.mk s ks)) : ∃ v, cs = [.int .i64 s, v] ∧ IsSl G 2 (IsT G) v ks := by
  cases h with
  | mk cs hn ha hk =>
    refine ⟨_, rfl, _, _, rfl, hn, fun i x hx => ?_⟩
    obtain ⟨b, hb, hat⟩ := ha i (List.getElem?_eq_some_iff.1 hx).1
    exact ⟨b, cs i, hb, hat, hk i x hx⟩

section
variable {G G' : Nat → Option Blk} (h : Sub G G')
include h
theorem IsSl.mono {α : Type} {k : Nat} {R R' : List Value → α → Prop} {v : Value} {l : List α} (hR : ∀ cs x, R cs x → R' cs x) (hs : IsSl G k R v l) : IsSl G' k R' v l := by
  obtain ⟨a, c, h1, h2, h3⟩ := hs
  refine ⟨a, c, h1, h2, fun i x hx => ?_⟩
  obtain ⟨b, cs, h4, h5, h6⟩ := h3 i x hx
  exact ⟨b, cs, h4, h5.mono h, hR _ _ h6⟩
theorem IsInts.mono {v : Value} {l : List Int} (hs : IsInts G v l) : IsInts G' v l := IsSl.mono h (fun _ _ x => x) hs
theorem IsAlt.mono {v : Value} {l : List Nd} (hs : IsAlt G v l) : IsAlt G' v l := IsSl.mono h (fun _ _ x => x) hs
theorem IsAlts.mono {v : Value} {l} (hs : IsAlts G v l) : IsAlts G' v l := IsSl.mono h (fun _ _ ⟨u, h1, h2⟩ => ⟨u, h1, IsAlt.mono h h2⟩) hs
theorem IsRow.mono {v : Value} {l} (hs : IsRow G v l) : IsRow G' v l := IsSl.mono h (fun _ _ ⟨u, h1, h2⟩ => ⟨u, h1, IsAlts.mono h h2⟩) hs
theorem IsMoves.mono {v : Value} {l} (hs : IsMoves G v l) : IsMoves G' v l := IsSl.mono h (fun _ _ ⟨u, h1, h2⟩ => ⟨u, h1, IsRow.mono h h2⟩) hs
theorem IsT.mono {cs : List Value} {t : T} (hs : IsT G cs t) : IsT G' cs t := by
  induction hs with
  | mk cs hn ha hk ih => exact .mk cs hn (fun i hi => let ⟨b, h1, h2⟩ := ha i hi; ⟨b, h1, h2.mono h⟩) ih
end

/-- an automaton, as a value -/
def IsAu (G : Nat → Option Blk) (v : Value) (a : Au) : Prop := ∃ r m, v = .agg #[r, .int .i64 a.start, m] ∧ IsInts G r a.ranks ∧ IsMoves G m a.moves

theorem cells1 {H : Heap} {a : Addr} {cs : List Value} (h : H.cellsFrom a 0 1 = some cs) : ∃ v, cs = [v] ∧ H.cell a = some v := by
  simp only [Heap.cellsFrom] at h
  split at h
  · simp at h
  · rename_i v hv
    simp only [Option.some.injEq] at h
    exact ⟨v, h.symm, by simpa [Addr.add] using hv⟩

theorem cells2 {H : Heap} {a : Addr} {x y : Value} (h : H.cellsFrom a 0 2 = some [x, y]) : H.cell a = some x ∧ H.cell (a.add 1) = some y := by
  simp only [Heap.cellsFrom] at h
  split at h
  · simp at h
  · rename_i v hv
    split at h
    · simp at h
    · rename_i r hr
      split at hr
      · simp at hr
      · rename_i w hw
        simp only [Option.some.injEq] at hr h
        subst hr
        simp only [List.cons.injEq] at h
        obtain ⟨rfl, rfl, _⟩ := h
        exact ⟨by simpa [Addr.add] using hv, by simpa using hw⟩

/-- cells put one after another -/
def putL : List Value → Nat → List Value → List Value
  | vs, _, [] => vs
  | vs, o, v :: r => putL (vs.set o v) (o + 1) r

theorem putCells_own {id off : Nat} {e : TypeId} : ∀ (l : List Value) (i : Nat) (H : Heap) (vs : List Value) (f : Bool), id < H.nxt → H.get id = some (.cells vs e true f) → off + i + l.length ≤ vs.length → (∀ v ∈ l, v.oneCell' = true) →
    ∃ H1, H.putCells ⟨id, off, none⟩ i l = some H1 ∧ H1.nxt = H.nxt ∧ (∀ j, j ≠ id → H1.get j = H.get j) ∧ ∃ f', H1.get id = some (.cells (putL vs (off + i) l) e true f') ∧ (l ≠ [] → f' = false)
  | [], i, H, vs, f, hlt, hg, _, _ => ⟨H, rfl, rfl, fun _ _ => rfl, f, hg, fun h => absurd rfl h⟩
  | v :: l, i, H, vs, f, hlt, hg, hl, ho => by
    simp only [List.length_cons] at hl
    have ha : (⟨id, off, none⟩ : Addr).add i = ⟨id, off + i, none⟩ := by
      unfold Addr.add
      split
      · rename_i h0; subst h0; rfl
      · rfl
    have hc : H.putCell ⟨id, off + i, none⟩ v = some (H.set id (.cells (vs.set (off + i) v) e true false)) := by
      simp only [Heap.putCell, hg, Option.isSome_none, Bool.false_eq_true, ↓reduceIte]
      rw [if_pos (by omega), if_pos (ho v (by simp))]
    have hn : (H.set id (.cells (vs.set (off + i) v) e true false)).nxt = H.nxt := by simp [Heap.set, hlt]
    obtain ⟨H1, h1, h2, h3, f', h4, h5⟩ := putCells_own (off := off) l (i + 1) (H.set id (.cells (vs.set (off + i) v) e true false)) (vs.set (off + i) v) false (by rw [hn]; exact hlt) (Heap.get_set_same _ _ _)
      (by simp only [List.length_set]; omega) (fun x hx => ho x (by simp [hx]))
    refine ⟨H1, ?_, h2.trans hn, fun j hj => by rw [h3 j hj, Heap.get_set_ne _ _ hj], f', h4, fun _ => ?_⟩
    · simp only [Heap.putCells, ha, hc, h1]
    · cases l with
      | nil =>
        simp only [Heap.putCells, Option.some.injEq] at h1
        subst h1
        rw [Heap.get_set_same] at h4
        simp only [Option.some.injEq, Blk.cells.injEq] at h4
        exact h4.2.2.2.symm
      | cons _ _ => exact h5 (by simp)

section
variable {Y : Env} {P : Program} {K : List KF} {Q : EPost} {g : Fm} {H : Heap}

theorem set_new (H : Heap) (b : Blk) : (H.set H.nxt b).nxt = H.nxt + 1 := by simp [Heap.set]

/-- a new block -/
theorem S_alloc {t : TypeId} {z : List Value} {d : Option Nat} {rest : List (Option Nat × Option (Nat × Bool) × SO)}
    (h : ∀ H1, Fr H H1 → H1.nxt = H.nxt + 1 → H1.get H.nxt = some (.cells z t true false) → S Y P rest K Q (eput g d (.pointer (some ⟨H.nxt, 0, none⟩))) H1) : S Y P ((d, none, .alloc t z) :: rest) K Q g H := by
  rw [S_cons]
  simp only [sop, fin_val]
  exact h _ ((Fr.refl H).set (Nat.le_refl _) _) (set_new _ _) (Heap.get_set_same _ _ _)

/-- a value put into a block of one's own -/
theorem S_store {k : Nat} {p x : Operand} {d : Option Nat} {rest : List (Option Nat × Option (Nat × Bool) × SO)} {id off : Nat} {vs : List Value} {e : TypeId} {f : Bool} (hp : ev g p = .pointer (some ⟨id, off, none⟩)) (hk : (ev g x).cells.size = k)
    (hlt : id < H.nxt) (hg : H.get id = some (.cells vs e true f)) (hl : off + k ≤ vs.length) (h0 : k ≠ 0) (ho : ∀ v ∈ (ev g x).cells.toList, v.oneCell' = true)
    (h : ∀ H1, H1.nxt = H.nxt → (∀ j, j ≠ id → H1.get j = H.get j) → H1.get id = some (.cells (putL vs off (ev g x).cells.toList) e true false) → S Y P rest K Q (eput g d undef) H1) :
    S Y P ((d, none, .st k p x) :: rest) K Q g H := by
  rw [S_cons]
  obtain ⟨H1, h1, h2, h3, f', h4, h5⟩ := putCells_own (off := off) (ev g x).cells.toList 0 H vs f hlt hg (by simp [hk]; omega) ho
  have : f' = false := h5 (by intro hn; have := congrArg List.length hn; simp [hk] at this; exact h0 this)
  subst this
  simp only [sop, hp, hk, ↓reduceIte, h1, lift3, fin_val]
  exact h H1 h2 h3 h4
end

theorem wrap64 {x : Int} (h1 : -9223372036854775808 ≤ x) (h2 : x ≤ 9223372036854775807) : IntKind.wrap .i64 x = x := by
  have e1 : (2 : Int) ^ IntKind.i64.bits = 18446744073709551616 := by decide
  have e2 : (2 : Int) ^ (IntKind.i64.bits - 1) = 9223372036854775808 := by decide
  unfold IntKind.wrap
  rw [e1, e2]
  simp only [IntKind.signed, Bool.true_and, decide_eq_true_eq]
  split <;> omega

theorem eput_app {g : Fm} {d i : Nat} {v : Value} : eput g (some d) v i = if i = d then v else g i := (rfl)
theorem eput_none {g : Fm} {v : Value} : eput g none v = g := (rfl)
theorem ev_tmp {g : Fm} {i : Nat} : ev g (.tmp i) = g i := (rfl)
theorem ev_const {g : Fm} {v : Value} : ev g (.const v) = v := (rfl)
theorem ev_func {g : Fm} {f : Nat} : ev g (.func f) = .func (.func f) #[] #[] := (rfl)

end Go.Proofs.YtcfjimhbachmlaaGreatDoor.E

/- The clean semantics: the words of a walk. -/
namespace Go.Proofs.YtcfjimhbachmlaaGreatDoor.E
open Go Go.Proofs

section
variable {Y : Env} {P : Program} {K : List KF} {Q : EPost} {g : Fm} {H : Heap} {ρ : Operand → Value} {id : Nat}

/-- an operation with a guard -/
def gdo (Y : Env) (P : Program) (x : Value) (b : Bool) (d : Option Nat) (o : SO) (l : List (Option Nat × Option (Nat × Bool) × SO)) (K : List KF) (Q : EPost) (g : Fm) (H : Heap) : Prop :=
  on x b (fin Y P d l K Q g (sop Y (ev g) H.nxt o H)) (S Y P l K Q (eput g d undef) H)

theorem S_gd {d s b o l} : S Y P ((d, some (s, b), o) :: l) K Q g H = gdo Y P (g s) b d o l K Q g H := S_guard
theorem gdo_tt {d o l} : gdo Y P (.bool true) true d o l K Q g H = S Y P ((d, none, o) :: l) K Q g H := by rw [S_cons]; rfl
theorem gdo_ff {d o l} : gdo Y P (.bool false) false d o l K Q g H = S Y P ((d, none, o) :: l) K Q g H := by rw [S_cons]; rfl
theorem gdo_tf {d o l} : gdo Y P (.bool true) false d o l K Q g H = S Y P l K Q (eput g d undef) H := (rfl)
theorem gdo_ft {d o l} : gdo Y P (.bool false) true d o l K Q g H = S Y P l K Q (eput g d undef) H := (rfl)
theorem gdo_of {t b d o l} (h1 : t = true → gdo Y P (.bool true) b d o l K Q g H) (h2 : t = false → gdo Y P (.bool false) b d o l K Q g H) : gdo Y P (.bool t) b d o l K Q g H := by
  cases t
  · exact h2 rfl
  · exact h1 rfl

def ldV (H : Heap) : Value → Option (EN × Heap)
  | .pointer (some a) => lift1 H (H.cell a)
  | _ => none
def ldaV (H : Heap) (k : Nat) : Value → Option (EN × Heap)
  | .pointer (some a) => match H.cellsFrom a 0 k with
    | some l => some (.val (.agg l.toArray), H)
    | none => none
  | _ => none
def fldV (H : Heap) (off : Nat) : Value → Option (EN × Heap)
  | .pointer (some a) => some (.val (.pointer (some (a.add off))), H)
  | _ => none
def lenV (H : Heap) : Value → Option (EN × Heap)
  | .slice _ n _ => some (.val (.int .i64 n), H)
  | _ => none
def ixV (H : Heap) (sz : Nat) : Value → Value → Option (EN × Heap)
  | .slice (some a) n _, .int _ i => if 0 ≤ i ∧ i < n then some (.val (.pointer (some (a.add (i.toNat * sz)))), H) else none
  | _, _ => none
def pickV (H : Heap) : Value → Value → Value → Option (EN × Heap)
  | .bool t, a, b => some (.val (if t then a else b), H)
  | _, _, _ => none

theorem sop_ld {p} : sop Y ρ id (.ld p) H = ldV H (ρ p) := (rfl)
theorem sop_lda {k p} : sop Y ρ id (.lda k p) H = ldaV H k (ρ p) := (rfl)
theorem sop_fld {k p} : sop Y ρ id (.fld k p) H = fldV H k (ρ p) := (rfl)
theorem sop_len {p} : sop Y ρ id (.len p) H = lenV H (ρ p) := (rfl)
theorem sop_ix {k x i} : sop Y ρ id (.ix k x i) H = ixV H k (ρ x) (ρ i) := (rfl)
theorem sop_call {f l} : sop Y ρ id (.call f l) H = some (.enter f (l.map ρ).toArray, H) := (rfl)
theorem ldV_ptr {a} : ldV H (.pointer (some a)) = lift1 H (H.cell a) := (rfl)
theorem ldaV_ptr {a k} : ldaV H k (.pointer (some a)) = match H.cellsFrom a 0 k with | some l => some (.val (.agg l.toArray), H) | none => none := (rfl)
theorem fldV_ptr {a k} : fldV H k (.pointer (some a)) = some (.val (.pointer (some (a.add k))), H) := (rfl)
theorem lenV_slice {a n c} : lenV H (.slice a n c) = some (.val (.int .i64 n), H) := (rfl)
theorem ixV_at {a sz c n j} {k : IntKind} (h : j < n) : ixV H sz (.slice (some a) n c) (.int k (j : Nat)) = some (.val (.pointer (some (a.add (j * sz)))), H) := by
  unfold ixV
  simp only
  rw [if_pos ⟨by omega, by omega⟩]
  simp
theorem o_move {x} : sop Y ρ id (.raw (.move x)) H = some (.val (ρ x), H) := (rfl)
theorem o_assign {x} : sop Y ρ id (.raw (.assign x)) H = some (.val (ρ x), H) := (rfl)
theorem o_pick {c a b} : sop Y ρ id (.raw (.pick c a b)) H = pickV H (ρ c) (ρ a) (ρ b) := by
  simp only [sop, eop]; cases ρ c <;> rfl
theorem o_bin {op t x y yt} : sop Y ρ id (.raw (.binOp op t x y yt)) H = lift1 H (ebin Y H op t (ρ x) (ρ y)) := (rfl)
theorem o_not {t x} : sop Y ρ id (.raw (.unOp .not t x)) H = lift1 H (eun .not (ρ x)) := (rfl)
theorem S_ld {d p l} : S Y P ((d, none, .ld p) :: l) K Q g H = fin Y P d l K Q g (ldV H (ev g p)) := S_cons
theorem S_lda {d k p l} : S Y P ((d, none, .lda k p) :: l) K Q g H = fin Y P d l K Q g (ldaV H k (ev g p)) := S_cons
theorem S_fld {d k p l} : S Y P ((d, none, .fld k p) :: l) K Q g H = fin Y P d l K Q g (fldV H k (ev g p)) := S_cons
theorem S_len {d p l} : S Y P ((d, none, .len p) :: l) K Q g H = fin Y P d l K Q g (lenV H (ev g p)) := S_cons
theorem S_ix {d k x i l} : S Y P ((d, none, .ix k x i) :: l) K Q g H = fin Y P d l K Q g (ixV H k (ev g x) (ev g i)) := S_cons
theorem S_call {d f a l} : S Y P ((d, none, .call f a) :: l) K Q g H = SC P f (a.map (ev g)).toArray H (cont Y P d l K Q g) := S_cons
theorem S_move {d x l} : S Y P ((d, none, .raw (.move x)) :: l) K Q g H = S Y P l K Q (eput g d (ev g x)) H := S_cons
theorem S_assign {d x l} : S Y P ((d, none, .raw (.assign x)) :: l) K Q g H = S Y P l K Q (eput g d (ev g x)) H := S_cons
theorem S_pick {d a b c l} : S Y P ((d, none, .raw (.pick c a b)) :: l) K Q g H = fin Y P d l K Q g (pickV H (ev g c) (ev g a) (ev g b)) := by rw [S_cons, o_pick]
theorem S_bin {d op t x y yt l} : S Y P ((d, none, .raw (.binOp op t x y yt)) :: l) K Q g H = fin Y P d l K Q g (lift1 H (ebin Y H op t (ev g x) (ev g y))) := S_cons
theorem S_not {d t x l} : S Y P ((d, none, .raw (.unOp .not t x)) :: l) K Q g H = fin Y P d l K Q g (lift1 H (eun .not (ev g x))) := S_cons
def callW (Y : Env) (P : Program) (d : Option Nat) (a : List Operand) (l : List (Option Nat × Option (Nat × Bool) × SO)) (K : List KF) (Q : EPost) (g : Fm) (H : Heap) : Value → Prop
  | .func (.func f) first cap => if Y.same f then False else SC P f (first.toList ++ a.map (ev g) ++ cap.toList).toArray H (cont Y P d l K Q g)
  | _ => False
theorem S_callv {d x a l} : S Y P ((d, none, .callv x a) :: l) K Q g H = callW Y P d a l K Q g H (ev g x) := by
  rw [S_cons]
  simp only [sop]
  unfold callW
  cases ev g x with
  | func fn first cap =>
    cases fn with
    | func f => simp only; split <;> rfl
    | _ => rfl
  | _ => rfl
theorem callW_func {d a l f first cap} (h : Y.same f = false) : callW Y P d a l K Q g H (.func (.func f) first cap) = SC P f (first.toList ++ a.map (ev g) ++ cap.toList).toArray H (cont Y P d l K Q g) := by
  simp only [callW, h, Bool.false_eq_true, ↓reduceIte]
theorem S_func {d f a b l} : S Y P ((d, none, .raw (.makeFunc f a b)) :: l) K Q g H = S Y P l K Q (eput g d (.func f (a.map (ev g)) (b.map (ev g)))) H := S_cons
theorem not_bool {b} : eun .not (.bool b) = some (.bool !b) := (rfl)
theorem pick_true {a b} : pickV H (.bool true) a b = some (.val a, H) := (rfl)
theorem pick_false {a b} : pickV H (.bool false) a b = some (.val b, H) := (rfl)
theorem b_lss {t k x y} : ebin Y H .lss t (.int k x) (.int k y) = some (.bool (decide (x < y))) := by simp [ebin, eint]
theorem b_leq {t k x y} : ebin Y H .leq t (.int k x) (.int k y) = some (.bool (decide (x ≤ y))) := by simp [ebin, eint]
theorem b_gtr {t k x y} : ebin Y H .gtr t (.int k x) (.int k y) = some (.bool (decide (y < x))) := by simp [ebin, eint]
theorem b_geq {t k x y} : ebin Y H .geq t (.int k x) (.int k y) = some (.bool (decide (y ≤ x))) := by simp [ebin, eint]
theorem b_eql {t k x y} : ebin Y H .eql t (.int k x) (.int k y) = some (.bool (decide (x = y))) := by
  simp only [ebin, eint, ↓reduceIte]; rfl
theorem b_neq {t k x y} : ebin Y H .neq t (.int k x) (.int k y) = some (.bool !(decide (x = y))) := by
  simp only [ebin, eint, ↓reduceIte]; rfl
theorem b_add {t k x y} : ebin Y H .add t (.int k x) (.int k y) = some (.int k (k.wrap (x + y))) := by simp [ebin, eint]
theorem b_sub {t k x y} : ebin Y H .sub t (.int k x) (.int k y) = some (.int k (k.wrap (x - y))) := by simp [ebin, eint]
theorem lift1_some {v} : lift1 H (some v) = some (.val v, H) := (rfl)

theorem f1_0 {a} : frame0 #[a] 0 = a := (rfl)
theorem f2_0 {a b} : frame0 #[a, b] 0 = a := (rfl)
theorem f2_1 {a b} : frame0 #[a, b] 1 = b := (rfl)
theorem f3_0 {a b c} : frame0 #[a, b, c] 0 = a := (rfl)
theorem f3_1 {a b c} : frame0 #[a, b, c] 1 = b := (rfl)
theorem f3_2 {a b c} : frame0 #[a, b, c] 2 = c := (rfl)

/-- one more round of a count -/
theorem wrap_succ {j : Nat} (h : j < 4294967296) : IntKind.wrap .i64 ((j : Int) + 1) = ((j + 1 : Nat) : Int) := by
  rw [wrap64 (by omega) (by omega)]; simp

theorem wrap_pred {j : Nat} (h0 : 0 < j) (h : j < 4294967296) : IntKind.wrap .i64 ((j : Int) - 1) = ((j - 1 : Nat) : Int) := by
  rw [wrap64 (by omega) (by omega)]; omega

/-- the end of a function with one result -/
theorem end1 {t : Nat} {Post : Value → Heap → Prop} {e : Exit} (he : e = .ret ∨ e = .normal) : REnd Y [.tmp t] Post e g H = Post (g t) H := by
  rcases he with rfl | rfl <;> rfl

theorem Kn.see1 {G : Nat → Option Blk} {m : Nat} (h : Kn G m H) {b : Addr} {v : Value} (hs : Sees G b 1 [v]) : H.cell b = some v := by
  obtain ⟨w, h1, h2⟩ := cells1 (h.cells hs)
  cases h1; exact h2
theorem Kn.see2 {G : Nat → Option Blk} {m : Nat} (h : Kn G m H) {b : Addr} {v w : Value} (hs : Sees G b 2 [v, w]) : H.cellsFrom b 0 2 = some [v, w] := h.cells hs

theorem own_add {b o k : Nat} : (⟨b, o, none⟩ : Addr).add k = ⟨b, o + k, none⟩ := by
  unfold Addr.add
  split
  · rename_i h; subst h; rfl
  · rfl

/-- what lies in a block of one's own -/
theorem own_cell {b : Nat} {vs : List Value} {e : TypeId} {w f : Bool} (o : Nat) (hg : H.get b = some (.cells vs e w f)) {v : Value} (hv : vs[o]? = some v) (hh : isHole v = false) : H.cell ⟨b, o, none⟩ = some v := by
  unfold Heap.cell
  simp only [hg, hv]
  exact nh_of hh
theorem own_cells2 {b : Nat} {x y : Value} {e : TypeId} {w f : Bool} (hg : H.get b = some (.cells [x, y] e w f)) (hx : isHole x = false) (hy : isHole y = false) : H.cellsFrom ⟨b, 0, none⟩ 0 2 = some [x, y] := by
  simp only [Heap.cellsFrom, own_add]
  rw [own_cell 0 hg rfl hx, own_cell 1 hg rfl hy]
theorem own_cells3 {b : Nat} {x y z : Value} {e : TypeId} {w f : Bool} (hg : H.get b = some (.cells [x, y, z] e w f)) (hx : isHole x = false) (hy : isHole y = false) (hz : isHole z = false) : H.cellsFrom ⟨b, 0, none⟩ 0 3 = some [x, y, z] := by
  simp only [Heap.cellsFrom, own_add]
  rw [own_cell 0 hg rfl hx, own_cell 1 hg rfl hy, own_cell 2 hg rfl hz]

/-- a block about a value -/
theorem S_box {t : TypeId} {x : Operand} {d : Option Nat} {l : List (Option Nat × Option (Nat × Bool) × SO)}
    (h : ∀ H1, Fr H H1 → H1.nxt = H.nxt + 1 → H1.get H.nxt = some (.cells (ev g x).cells.toList t true false) → S Y P l K Q (eput g d (.pointer (some ⟨H.nxt, 0, none⟩))) H1) : S Y P ((d, none, .raw (.box t x)) :: l) K Q g H := by
  rw [S_cons]
  exact h _ ((Fr.refl H).set (Nat.le_refl _) _) (set_new _ _) (Heap.get_set_same _ _ _)

/-- a slice about one value -/
theorem S_one {t e : TypeId} {x : Operand} {d : Option Nat} {l : List (Option Nat × Option (Nat × Bool) × SO)} {ti te : TI} {z : Value} (ht : Y.ty t = some ti) (hk : ti.k = .slice e) (he : Y.ty e = some te) (hz : te.zero = some z)
    (hs : te.size = z.cells.size) (hp : 0 < z.cells.size) (hb : te.size ≤ 16777216) (hc : (ev g x).cells.size = te.size)
    (h : ∀ H1, Fr H H1 → H1.nxt = H.nxt + 1 → H1.get H.nxt = some (.cells (ev g x).cells.toList e true false) → S Y P l K Q (eput g d (.slice (some ⟨H.nxt, 0, none⟩) 1 1)) H1) : S Y P ((d, none, .raw (.buildSlice t 1 #[(0, x)])) :: l) K Q g H := by
  rw [S_cons]
  have hl : ((List.range te.size).map fun i => z.cells[i % z.cells.size]!).length = te.size := by simp
  have key : sop Y (ev g) H.nxt (.raw (.buildSlice t 1 #[(0, x)])) H = some (.val (.slice (some ⟨H.nxt, 0, none⟩) 1 1), enew H H.nxt e (ev g x).cells.toList) := by
    simp only [sop, eop, ebuildSlice, ht, hk, he, hz, Nat.one_mul]
    rw [if_pos ⟨hb, hp, by decide⟩]
    have hf : efill (fun i => some (i * te.size, te.size)) ((List.range te.size).map fun i => z.cells[i % z.cells.size]!) [(0, ev g x)] = some (ev g x).cells.toList := by
      simp only [efill]
      rw [if_pos ⟨hc, by rw [hl]; omega⟩]
      have hlen : (ev g x).cells.toList.length = te.size := by rw [Array.length_toList]; exact hc
      simp only [splice, Nat.zero_mul, List.take_zero, List.nil_append, Nat.zero_add, hlen]
      rw [List.drop_eq_nil_of_le (by rw [hl]; omega), List.append_nil]
    simp only [List.map_cons, List.map_nil]
    rw [hf]
    rfl
  rw [key, fin_val]
  exact h _ ((Fr.refl H).set (Nat.le_refl _) _) (set_new _ _) (Heap.get_set_same _ _ _)

theorem Fr.upd {H H2 H3 : Heap} (h : Fr H H2) {i : Nat} (hi : H.nxt ≤ i) (hn : H3.nxt = H2.nxt) (ho : ∀ j, j ≠ i → H3.get j = H2.get j) : Fr H H3 :=
  ⟨by rw [hn]; exact h.nxt, fun j hj => by rw [ho j (by omega)]; exact h.old j hj⟩

/-- behind a call -/
theorem call_then {f : FuncId} {args : Array Value} {Post Post' : Value → Heap → Prop} (h : SC P f args H Post) (hp : ∀ v H', Post v H' → Wf H' → Post' v H') : SC P f args H Post' := h.post_wf.mono fun v H' ⟨h1, h2⟩ => hp v H' h1 h2

theorem sop_callv {x l} {f : FuncId} {first cap : Array Value} (hx : ρ x = .func (.func f) first cap) (hs : Y.same f = false) : sop Y ρ id (.callv x l) H = some (.enter f (first.toList ++ l.map ρ ++ cap.toList).toArray, H) := by
  simp only [sop, hx, hs, Bool.false_eq_true, ↓reduceIte]
theorem o_extract0 {x} {a b : Value} (hx : ρ x = .tuple #[a, b]) : sop Y ρ id (.raw (.extract x 0)) H = some (.val a, H) := by
  simp only [sop, eop, hx]; rfl
theorem o_extract1 {x} {a b : Value} (hx : ρ x = .tuple #[a, b]) : sop Y ρ id (.raw (.extract x 1)) H = some (.val b, H) := by
  simp only [sop, eop, hx]; rfl

theorem U_ret2 {s t : Nat} {Post : Value → Heap → Prop} : U Y P .ret [] (REnd Y [.tmp s, .tmp t] Post) g H = Post (.tuple #[g s, g t]) H := (rfl)
theorem U_ret1 {t : Nat} {Post : Value → Heap → Prop} : U Y P .ret [] (REnd Y [.tmp t] Post) g H = Post (g t) H := (rfl)
theorem unw_nil : unw Y P [] Q = Q := (rfl)
end

/-! types -/

theorem ty3 : TY.ty 3 = some { k := .int .i64, size := 1, bytes := 8, zero := some (.int .i64 0) } := by kernel_rfl

end Go.Proofs.YtcfjimhbachmlaaGreatDoor.E

/- Contracts: the ranks. -/
namespace Go.Proofs.YtcfjimhbachmlaaGreatDoor.E
open Go Go.Proofs
open Go.Proofs.YtcfjimhbachmlaaGreatDoor.L

/-- virgationref06.Ranks -/
def c113 : C2 :=
  .seq (.ops [(some 2, none, .raw (.assign (.const (.bool false))))]) (
  .seq (.seq (.ops [(some 5, none, .raw (.move (.tmp 0))),
    (some 6, none, .len (.tmp 5)),
    (some 7, none, .raw (.move (.const (.int .i64 0))))]) (
  .block 0 (
    .loop (
      .seq (.ops [(some 8, none, .raw (.binOp .lss 3 (.tmp 7) (.tmp 6) 3))]) (
      .seq (.cond (.tmp 8) (
        .skip) (
        .exit 0)) (
      .seq (.block 1 (
        .seq (.ops [(some 9, none, .ix 1 (.tmp 5) (.tmp 7)),
          (some 10, none, .ld (.tmp 9)),
          (some 4, none, .raw (.assign (.tmp 10)))]) (
        .seq (.ops [(some 11, none, .raw (.move (.tmp 4))),
          (some 12, none, .raw (.binOp .lss 3 (.tmp 11) (.const (.int .i64 0)) 3)),
          (some 13, none, .raw (.move (.tmp 12))),
          (some 14, some (13, false), .raw (.move (.tmp 4))),
          (some 15, some (13, false), .raw (.binOp .gtr 3 (.tmp 14) (.const (.int .i64 4)) 3)),
          (some 16, none, .raw (.pick (.tmp 13) (.const (.bool true)) (.tmp 15)))]) (
        .cond (.tmp 16) (
          .seq (.ops [(some 2, none, .raw (.assign (.const (.bool false))))]) (
          .ret)) (
          .skip))))) (
      .ops [(some 17, none, .raw (.binOp .add 3 (.tmp 7) (.const (.int .i64 1)) 3)),
        (some 7, none, .raw (.move (.tmp 17)))]))))))) (
  .seq (.ops [(some 18, none, .raw (.move (.tmp 0))),
    (some 19, none, .len (.tmp 18)),
    (some 20, none, .raw (.binOp .leq 3 (.tmp 19) (.const (.int .i64 24)) 3)),
    (some 2, none, .raw (.assign (.tmp 20)))]) (
  .ret)))
theorem fc113 : facts 113 = some (c113, [.tmp 2], 21) := by kernel_rfl

theorem ranks113 {H : Heap} {v : Value} {l : List Int} (hv : IsInts H.get v l) : SC Tryz.prog 113 #[v] H (fun r H' => r = .bool (ranksOK l) ∧ Fr H H') := by
  refine SC_of_W fc113 (by simp) fun hwf => ?_
  obtain ⟨a, c, rfl, hlen, hat⟩ := hv
  have kn := Kn.self hwf
  unfold c113
  simp only [W_skip, W_ops, W_sops, W_seq, W_block, W_exit, W_ret, W_cond, U_seq, U_seq_exit, U_seq_ret, U_blk, U_blk_ret, U_blk_exit, again_exit', again_ret', again_normal', U_ret1, S_nil, S_gd, S_ld, S_lda, S_fld, S_len, S_ix, S_call, S_callv, S_func, S_move, S_assign, S_pick, S_bin, S_not, gdo_tt, gdo_ff, gdo_tf, gdo_ft, br_true, br_false, fin_val, ldV_ptr, ldaV_ptr, fldV_ptr, lenV_slice, not_bool, pick_true, pick_false, b_lss, b_leq, b_gtr, b_geq, b_eql, b_neq, b_add, b_sub, lift1_some, ev_tmp, ev_const, eput_app, eput_none, List.map_cons, List.map_nil, Nat.reduceEqDiff, Nat.succ_ne_self, Nat.reduceBEq, ↓reduceIte, reduceIte, decide_true, decide_false, Bool.not_true, Bool.not_false, if_true_left, Nat.one_ne_zero, Nat.zero_ne_one, not_true_eq_false, not_false_eq_true, f1_0]
  refine W_loop (fun k g H1 => ∃ j, k = l.length - j ∧ j ≤ l.length ∧ g 0 = .slice a l.length c ∧ g 5 = .slice a l.length c ∧ g 6 = .int .i64 l.length ∧ g 7 = .int .i64 (j : Nat) ∧ H1 = H ∧ (l.take j).all (fun n => decide (0 ≤ n) && decide (n ≤ 4)) = true) ?_ l.length ⟨0, ?_⟩
  · rintro k g H1 ⟨j, rfl, hj, h0, h5, h6, h7, hH, hall⟩
    subst hH
    simp only [W_skip, W_ops, W_sops, W_seq, W_block, W_exit, W_ret, W_cond, U_seq, U_seq_exit, U_seq_ret, U_blk, U_blk_ret, U_blk_exit, again_exit', again_ret', again_normal', U_ret1, S_nil, S_gd, S_ld, S_lda, S_fld, S_len, S_ix, S_call, S_callv, S_func, S_move, S_assign, S_pick, S_bin, S_not, gdo_tt, gdo_ff, gdo_tf, gdo_ft, br_true, br_false, fin_val, ldV_ptr, ldaV_ptr, fldV_ptr, lenV_slice, not_bool, pick_true, pick_false, b_lss, b_leq, b_gtr, b_geq, b_eql, b_neq, b_add, b_sub, lift1_some, ev_tmp, ev_const, eput_app, eput_none, List.map_cons, List.map_nil, Nat.reduceEqDiff, Nat.succ_ne_self, Nat.reduceBEq, ↓reduceIte, reduceIte, decide_true, decide_false, Bool.not_true, Bool.not_false, if_true_left, Nat.one_ne_zero, Nat.zero_ne_one, not_true_eq_false, not_false_eq_true, h0, h5, h6, h7]
    refine br_of ?_ ?_ <;> intro hA
    · have hj' : j < l.length := by simpa using hA
      obtain ⟨b, cs, rfl, hs, hI⟩ := hat j l[j] (by simp [hj'])
      cases hI
      have hc := kn.see1 hs
      simp only [W_skip, W_ops, W_sops, W_seq, W_block, W_exit, W_ret, W_cond, U_seq, U_seq_exit, U_seq_ret, U_blk, U_blk_ret, U_blk_exit, again_exit', again_ret', again_normal', U_ret1, S_nil, S_gd, S_ld, S_lda, S_fld, S_len, S_ix, S_call, S_callv, S_func, S_move, S_assign, S_pick, S_bin, S_not, gdo_tt, gdo_ff, gdo_tf, gdo_ft, br_true, br_false, fin_val, ldV_ptr, ldaV_ptr, fldV_ptr, lenV_slice, not_bool, pick_true, pick_false, b_lss, b_leq, b_gtr, b_geq, b_eql, b_neq, b_add, b_sub, lift1_some, ev_tmp, ev_const, eput_app, eput_none, List.map_cons, List.map_nil, Nat.reduceEqDiff, Nat.succ_ne_self, Nat.reduceBEq, ↓reduceIte, reduceIte, decide_true, decide_false, Bool.not_true, Bool.not_false, if_true_left, Nat.one_ne_zero, Nat.zero_ne_one, not_true_eq_false, not_false_eq_true, h0, h5, h6, h7, hc, ixV_at hj']
      refine gdo_of ?_ ?_ <;> intro hB
      · simp only [W_skip, W_ops, W_sops, W_seq, W_block, W_exit, W_ret, W_cond, U_seq, U_seq_exit, U_seq_ret, U_blk, U_blk_ret, U_blk_exit, again_exit', again_ret', again_normal', U_ret1, S_nil, S_gd, S_ld, S_lda, S_fld, S_len, S_ix, S_call, S_callv, S_func, S_move, S_assign, S_pick, S_bin, S_not, gdo_tt, gdo_ff, gdo_tf, gdo_ft, br_true, br_false, fin_val, ldV_ptr, ldaV_ptr, fldV_ptr, lenV_slice, not_bool, pick_true, pick_false, b_lss, b_leq, b_gtr, b_geq, b_eql, b_neq, b_add, b_sub, lift1_some, ev_tmp, ev_const, eput_app, eput_none, List.map_cons, List.map_nil, Nat.reduceEqDiff, Nat.succ_ne_self, Nat.reduceBEq, ↓reduceIte, reduceIte, decide_true, decide_false, Bool.not_true, Bool.not_false, if_true_left, Nat.one_ne_zero, Nat.zero_ne_one, not_true_eq_false, not_false_eq_true, hB]
        refine ⟨?_, Fr.refl _⟩
        have : ranksOK l = false := by
          simp only [ranksOK, Bool.and_eq_false_iff, List.all_eq_false]
          left
          exact ⟨l[j], List.getElem_mem hj', by simp at hB; simp; omega⟩
        rw [this]
      · simp only [W_skip, W_ops, W_sops, W_seq, W_block, W_exit, W_ret, W_cond, U_seq, U_seq_exit, U_seq_ret, U_blk, U_blk_ret, U_blk_exit, again_exit', again_ret', again_normal', U_ret1, S_nil, S_gd, S_ld, S_lda, S_fld, S_len, S_ix, S_call, S_callv, S_func, S_move, S_assign, S_pick, S_bin, S_not, gdo_tt, gdo_ff, gdo_tf, gdo_ft, br_true, br_false, fin_val, ldV_ptr, ldaV_ptr, fldV_ptr, lenV_slice, not_bool, pick_true, pick_false, b_lss, b_leq, b_gtr, b_geq, b_eql, b_neq, b_add, b_sub, lift1_some, ev_tmp, ev_const, eput_app, eput_none, List.map_cons, List.map_nil, Nat.reduceEqDiff, Nat.succ_ne_self, Nat.reduceBEq, ↓reduceIte, reduceIte, decide_true, decide_false, Bool.not_true, Bool.not_false, if_true_left, Nat.one_ne_zero, Nat.zero_ne_one, not_true_eq_false, not_false_eq_true, hB]
        refine br_of ?_ ?_ <;> intro hC
        · simp only [W_skip, W_ops, W_sops, W_seq, W_block, W_exit, W_ret, W_cond, U_seq, U_seq_exit, U_seq_ret, U_blk, U_blk_ret, U_blk_exit, again_exit', again_ret', again_normal', U_ret1, S_nil, S_gd, S_ld, S_lda, S_fld, S_len, S_ix, S_call, S_callv, S_func, S_move, S_assign, S_pick, S_bin, S_not, gdo_tt, gdo_ff, gdo_tf, gdo_ft, br_true, br_false, fin_val, ldV_ptr, ldaV_ptr, fldV_ptr, lenV_slice, not_bool, pick_true, pick_false, b_lss, b_leq, b_gtr, b_geq, b_eql, b_neq, b_add, b_sub, lift1_some, ev_tmp, ev_const, eput_app, eput_none, List.map_cons, List.map_nil, Nat.reduceEqDiff, Nat.succ_ne_self, Nat.reduceBEq, ↓reduceIte, reduceIte, decide_true, decide_false, Bool.not_true, Bool.not_false, if_true_left, Nat.one_ne_zero, Nat.zero_ne_one, not_true_eq_false, not_false_eq_true]
          refine ⟨?_, Fr.refl _⟩
          have : ranksOK l = false := by
            simp only [ranksOK, Bool.and_eq_false_iff, List.all_eq_false]
            left
            exact ⟨l[j], List.getElem_mem hj', by simp at hC; simp; omega⟩
          rw [this]
        · simp only [W_skip, W_ops, W_sops, W_seq, W_block, W_exit, W_ret, W_cond, U_seq, U_seq_exit, U_seq_ret, U_blk, U_blk_ret, U_blk_exit, again_exit', again_ret', again_normal', U_ret1, S_nil, S_gd, S_ld, S_lda, S_fld, S_len, S_ix, S_call, S_callv, S_func, S_move, S_assign, S_pick, S_bin, S_not, gdo_tt, gdo_ff, gdo_tf, gdo_ft, br_true, br_false, fin_val, ldV_ptr, ldaV_ptr, fldV_ptr, lenV_slice, not_bool, pick_true, pick_false, b_lss, b_leq, b_gtr, b_geq, b_eql, b_neq, b_add, b_sub, lift1_some, ev_tmp, ev_const, eput_app, eput_none, List.map_cons, List.map_nil, Nat.reduceEqDiff, Nat.succ_ne_self, Nat.reduceBEq, ↓reduceIte, reduceIte, decide_true, decide_false, Bool.not_true, Bool.not_false, if_true_left, Nat.one_ne_zero, Nat.zero_ne_one, not_true_eq_false, not_false_eq_true, h0, h5, h6, h7]
          refine ⟨l.length - (j + 1), by omega, j + 1, rfl, hj', trivial, trivial, trivial, ?_, trivial, ?_⟩
          · rw [wrap_succ (by omega)]
          · rw [List.take_add_one]
            simp only [List.all_append, hall, Bool.true_and]
            simp at hB hC
            simp [hj', hB, hC]
    · have hj' : j = l.length := by simp at hA; omega
      subst hj'
      simp only [W_skip, W_ops, W_sops, W_seq, W_block, W_exit, W_ret, W_cond, U_seq, U_seq_exit, U_seq_ret, U_blk, U_blk_ret, U_blk_exit, again_exit', again_ret', again_normal', U_ret1, S_nil, S_gd, S_ld, S_lda, S_fld, S_len, S_ix, S_call, S_callv, S_func, S_move, S_assign, S_pick, S_bin, S_not, gdo_tt, gdo_ff, gdo_tf, gdo_ft, br_true, br_false, fin_val, ldV_ptr, ldaV_ptr, fldV_ptr, lenV_slice, not_bool, pick_true, pick_false, b_lss, b_leq, b_gtr, b_geq, b_eql, b_neq, b_add, b_sub, lift1_some, ev_tmp, ev_const, eput_app, eput_none, List.map_cons, List.map_nil, Nat.reduceEqDiff, Nat.succ_ne_self, Nat.reduceBEq, ↓reduceIte, reduceIte, decide_true, decide_false, Bool.not_true, Bool.not_false, if_true_left, Nat.one_ne_zero, Nat.zero_ne_one, not_true_eq_false, not_false_eq_true, h0, h5, h6, h7]
      refine ⟨?_, Fr.refl _⟩
      rw [List.take_length] at hall
      simp [ranksOK, hall]
      omega
  · simp only [W_skip, W_ops, W_sops, W_seq, W_block, W_exit, W_ret, W_cond, U_seq, U_seq_exit, U_seq_ret, U_blk, U_blk_ret, U_blk_exit, again_exit', again_ret', again_normal', U_ret1, S_nil, S_gd, S_ld, S_lda, S_fld, S_len, S_ix, S_call, S_callv, S_func, S_move, S_assign, S_pick, S_bin, S_not, gdo_tt, gdo_ff, gdo_tf, gdo_ft, br_true, br_false, fin_val, ldV_ptr, ldaV_ptr, fldV_ptr, lenV_slice, not_bool, pick_true, pick_false, b_lss, b_leq, b_gtr, b_geq, b_eql, b_neq, b_add, b_sub, lift1_some, ev_tmp, ev_const, eput_app, eput_none, List.map_cons, List.map_nil, Nat.reduceEqDiff, Nat.succ_ne_self, Nat.reduceBEq, ↓reduceIte, reduceIte, decide_true, decide_false, Bool.not_true, Bool.not_false, if_true_left, Nat.one_ne_zero, Nat.zero_ne_one, not_true_eq_false, not_false_eq_true, f1_0]
    simp

/-- tree.Ranks -/
def c132 : C2 :=
  .seq (.ops [(some 2, none, .raw (.assign (.const (.bool false))))]) (
  .seq (.seq (.ops [(some 5, none, .raw (.move (.tmp 0))),
    (some 6, none, .len (.tmp 5)),
    (some 7, none, .raw (.move (.const (.int .i64 0))))]) (
  .block 0 (
    .loop (
      .seq (.ops [(some 8, none, .raw (.binOp .lss 3 (.tmp 7) (.tmp 6) 3))]) (
      .seq (.cond (.tmp 8) (
        .skip) (
        .exit 0)) (
      .seq (.block 1 (
        .seq (.ops [(some 9, none, .ix 1 (.tmp 5) (.tmp 7)),
          (some 10, none, .ld (.tmp 9)),
          (some 4, none, .raw (.assign (.tmp 10)))]) (
        .seq (.ops [(some 11, none, .raw (.move (.tmp 4))),
          (some 12, none, .raw (.binOp .lss 3 (.tmp 11) (.const (.int .i64 0)) 3)),
          (some 13, none, .raw (.move (.tmp 12))),
          (some 14, some (13, false), .raw (.move (.tmp 4))),
          (some 15, some (13, false), .raw (.binOp .gtr 3 (.tmp 14) (.const (.int .i64 4)) 3)),
          (some 16, none, .raw (.pick (.tmp 13) (.const (.bool true)) (.tmp 15)))]) (
        .cond (.tmp 16) (
          .seq (.ops [(some 2, none, .raw (.assign (.const (.bool false))))]) (
          .ret)) (
          .skip))))) (
      .ops [(some 17, none, .raw (.binOp .add 3 (.tmp 7) (.const (.int .i64 1)) 3)),
        (some 7, none, .raw (.move (.tmp 17)))]))))))) (
  .seq (.ops [(some 18, none, .raw (.move (.tmp 0))),
    (some 19, none, .len (.tmp 18)),
    (some 20, none, .raw (.binOp .leq 3 (.tmp 19) (.const (.int .i64 24)) 3)),
    (some 2, none, .raw (.assign (.tmp 20)))]) (
  .ret)))
theorem fc132 : facts 132 = some (c132, [.tmp 2], 21) := by kernel_rfl

theorem ranks132 {H : Heap} {v : Value} {l : List Int} (hv : IsInts H.get v l) : SC Tryz.prog 132 #[v] H (fun r H' => r = .bool (ranksOK l) ∧ Fr H H') := by
  refine SC_of_W fc132 (by simp) fun hwf => ?_
  obtain ⟨a, c, rfl, hlen, hat⟩ := hv
  have kn := Kn.self hwf
  unfold c132
  simp only [W_skip, W_ops, W_sops, W_seq, W_block, W_exit, W_ret, W_cond, U_seq, U_seq_exit, U_seq_ret, U_blk, U_blk_ret, U_blk_exit, again_exit', again_ret', again_normal', U_ret1, S_nil, S_gd, S_ld, S_lda, S_fld, S_len, S_ix, S_call, S_callv, S_func, S_move, S_assign, S_pick, S_bin, S_not, gdo_tt, gdo_ff, gdo_tf, gdo_ft, br_true, br_false, fin_val, ldV_ptr, ldaV_ptr, fldV_ptr, lenV_slice, not_bool, pick_true, pick_false, b_lss, b_leq, b_gtr, b_geq, b_eql, b_neq, b_add, b_sub, lift1_some, ev_tmp, ev_const, eput_app, eput_none, List.map_cons, List.map_nil, Nat.reduceEqDiff, Nat.succ_ne_self, Nat.reduceBEq, ↓reduceIte, reduceIte, decide_true, decide_false, Bool.not_true, Bool.not_false, if_true_left, Nat.one_ne_zero, Nat.zero_ne_one, not_true_eq_false, not_false_eq_true, f1_0]
  refine W_loop (fun k g H1 => ∃ j, k = l.length - j ∧ j ≤ l.length ∧ g 0 = .slice a l.length c ∧ g 5 = .slice a l.length c ∧ g 6 = .int .i64 l.length ∧ g 7 = .int .i64 (j : Nat) ∧ H1 = H ∧ (l.take j).all (fun n => decide (0 ≤ n) && decide (n ≤ 4)) = true) ?_ l.length ⟨0, ?_⟩
  · rintro k g H1 ⟨j, rfl, hj, h0, h5, h6, h7, hH, hall⟩
    subst hH
    simp only [W_skip, W_ops, W_sops, W_seq, W_block, W_exit, W_ret, W_cond, U_seq, U_seq_exit, U_seq_ret, U_blk, U_blk_ret, U_blk_exit, again_exit', again_ret', again_normal', U_ret1, S_nil, S_gd, S_ld, S_lda, S_fld, S_len, S_ix, S_call, S_callv, S_func, S_move, S_assign, S_pick, S_bin, S_not, gdo_tt, gdo_ff, gdo_tf, gdo_ft, br_true, br_false, fin_val, ldV_ptr, ldaV_ptr, fldV_ptr, lenV_slice, not_bool, pick_true, pick_false, b_lss, b_leq, b_gtr, b_geq, b_eql, b_neq, b_add, b_sub, lift1_some, ev_tmp, ev_const, eput_app, eput_none, List.map_cons, List.map_nil, Nat.reduceEqDiff, Nat.succ_ne_self, Nat.reduceBEq, ↓reduceIte, reduceIte, decide_true, decide_false, Bool.not_true, Bool.not_false, if_true_left, Nat.one_ne_zero, Nat.zero_ne_one, not_true_eq_false, not_false_eq_true, h0, h5, h6, h7]
    refine br_of ?_ ?_ <;> intro hA
    · have hj' : j < l.length := by simpa using hA
      obtain ⟨b, cs, rfl, hs, hI⟩ := hat j l[j] (by simp [hj'])
      cases hI
      have hc := kn.see1 hs
      simp only [W_skip, W_ops, W_sops, W_seq, W_block, W_exit, W_ret, W_cond, U_seq, U_seq_exit, U_seq_ret, U_blk, U_blk_ret, U_blk_exit, again_exit', again_ret', again_normal', U_ret1, S_nil, S_gd, S_ld, S_lda, S_fld, S_len, S_ix, S_call, S_callv, S_func, S_move, S_assign, S_pick, S_bin, S_not, gdo_tt, gdo_ff, gdo_tf, gdo_ft, br_true, br_false, fin_val, ldV_ptr, ldaV_ptr, fldV_ptr, lenV_slice, not_bool, pick_true, pick_false, b_lss, b_leq, b_gtr, b_geq, b_eql, b_neq, b_add, b_sub, lift1_some, ev_tmp, ev_const, eput_app, eput_none, List.map_cons, List.map_nil, Nat.reduceEqDiff, Nat.succ_ne_self, Nat.reduceBEq, ↓reduceIte, reduceIte, decide_true, decide_false, Bool.not_true, Bool.not_false, if_true_left, Nat.one_ne_zero, Nat.zero_ne_one, not_true_eq_false, not_false_eq_true, h0, h5, h6, h7, hc, ixV_at hj']
      refine gdo_of ?_ ?_ <;> intro hB
      · simp only [W_skip, W_ops, W_sops, W_seq, W_block, W_exit, W_ret, W_cond, U_seq, U_seq_exit, U_seq_ret, U_blk, U_blk_ret, U_blk_exit, again_exit', again_ret', again_normal', U_ret1, S_nil, S_gd, S_ld, S_lda, S_fld, S_len, S_ix, S_call, S_callv, S_func, S_move, S_assign, S_pick, S_bin, S_not, gdo_tt, gdo_ff, gdo_tf, gdo_ft, br_true, br_false, fin_val, ldV_ptr, ldaV_ptr, fldV_ptr, lenV_slice, not_bool, pick_true, pick_false, b_lss, b_leq, b_gtr, b_geq, b_eql, b_neq, b_add, b_sub, lift1_some, ev_tmp, ev_const, eput_app, eput_none, List.map_cons, List.map_nil, Nat.reduceEqDiff, Nat.succ_ne_self, Nat.reduceBEq, ↓reduceIte, reduceIte, decide_true, decide_false, Bool.not_true, Bool.not_false, if_true_left, Nat.one_ne_zero, Nat.zero_ne_one, not_true_eq_false, not_false_eq_true, hB]
        refine ⟨?_, Fr.refl _⟩
        have : ranksOK l = false := by
          simp only [ranksOK, Bool.and_eq_false_iff, List.all_eq_false]
          left
          exact ⟨l[j], List.getElem_mem hj', by simp at hB; simp; omega⟩
        rw [this]
      · simp only [W_skip, W_ops, W_sops, W_seq, W_block, W_exit, W_ret, W_cond, U_seq, U_seq_exit, U_seq_ret, U_blk, U_blk_ret, U_blk_exit, again_exit', again_ret', again_normal', U_ret1, S_nil, S_gd, S_ld, S_lda, S_fld, S_len, S_ix, S_call, S_callv, S_func, S_move, S_assign, S_pick, S_bin, S_not, gdo_tt, gdo_ff, gdo_tf, gdo_ft, br_true, br_false, fin_val, ldV_ptr, ldaV_ptr, fldV_ptr, lenV_slice, not_bool, pick_true, pick_false, b_lss, b_leq, b_gtr, b_geq, b_eql, b_neq, b_add, b_sub, lift1_some, ev_tmp, ev_const, eput_app, eput_none, List.map_cons, List.map_nil, Nat.reduceEqDiff, Nat.succ_ne_self, Nat.reduceBEq, ↓reduceIte, reduceIte, decide_true, decide_false, Bool.not_true, Bool.not_false, if_true_left, Nat.one_ne_zero, Nat.zero_ne_one, not_true_eq_false, not_false_eq_true, hB]
        refine br_of ?_ ?_ <;> intro hC
        · simp only [W_skip, W_ops, W_sops, W_seq, W_block, W_exit, W_ret, W_cond, U_seq, U_seq_exit, U_seq_ret, U_blk, U_blk_ret, U_blk_exit, again_exit', again_ret', again_normal', U_ret1, S_nil, S_gd, S_ld, S_lda, S_fld, S_len, S_ix, S_call, S_callv, S_func, S_move, S_assign, S_pick, S_bin, S_not, gdo_tt, gdo_ff, gdo_tf, gdo_ft, br_true, br_false, fin_val, ldV_ptr, ldaV_ptr, fldV_ptr, lenV_slice, not_bool, pick_true, pick_false, b_lss, b_leq, b_gtr, b_geq, b_eql, b_neq, b_add, b_sub, lift1_some, ev_tmp, ev_const, eput_app, eput_none, List.map_cons, List.map_nil, Nat.reduceEqDiff, Nat.succ_ne_self, Nat.reduceBEq, ↓reduceIte, reduceIte, decide_true, decide_false, Bool.not_true, Bool.not_false, if_true_left, Nat.one_ne_zero, Nat.zero_ne_one, not_true_eq_false, not_false_eq_true]
          refine ⟨?_, Fr.refl _⟩
          have : ranksOK l = false := by
            simp only [ranksOK, Bool.and_eq_false_iff, List.all_eq_false]
            left
            exact ⟨l[j], List.getElem_mem hj', by simp at hC; simp; omega⟩
          rw [this]
        · simp only [W_skip, W_ops, W_sops, W_seq, W_block, W_exit, W_ret, W_cond, U_seq, U_seq_exit, U_seq_ret, U_blk, U_blk_ret, U_blk_exit, again_exit', again_ret', again_normal', U_ret1, S_nil, S_gd, S_ld, S_lda, S_fld, S_len, S_ix, S_call, S_callv, S_func, S_move, S_assign, S_pick, S_bin, S_not, gdo_tt, gdo_ff, gdo_tf, gdo_ft, br_true, br_false, fin_val, ldV_ptr, ldaV_ptr, fldV_ptr, lenV_slice, not_bool, pick_true, pick_false, b_lss, b_leq, b_gtr, b_geq, b_eql, b_neq, b_add, b_sub, lift1_some, ev_tmp, ev_const, eput_app, eput_none, List.map_cons, List.map_nil, Nat.reduceEqDiff, Nat.succ_ne_self, Nat.reduceBEq, ↓reduceIte, reduceIte, decide_true, decide_false, Bool.not_true, Bool.not_false, if_true_left, Nat.one_ne_zero, Nat.zero_ne_one, not_true_eq_false, not_false_eq_true, h0, h5, h6, h7]
          refine ⟨l.length - (j + 1), by omega, j + 1, rfl, hj', trivial, trivial, trivial, ?_, trivial, ?_⟩
          · rw [wrap_succ (by omega)]
          · rw [List.take_add_one]
            simp only [List.all_append, hall, Bool.true_and]
            simp at hB hC
            simp [hj', hB, hC]
    · have hj' : j = l.length := by simp at hA; omega
      subst hj'
      simp only [W_skip, W_ops, W_sops, W_seq, W_block, W_exit, W_ret, W_cond, U_seq, U_seq_exit, U_seq_ret, U_blk, U_blk_ret, U_blk_exit, again_exit', again_ret', again_normal', U_ret1, S_nil, S_gd, S_ld, S_lda, S_fld, S_len, S_ix, S_call, S_callv, S_func, S_move, S_assign, S_pick, S_bin, S_not, gdo_tt, gdo_ff, gdo_tf, gdo_ft, br_true, br_false, fin_val, ldV_ptr, ldaV_ptr, fldV_ptr, lenV_slice, not_bool, pick_true, pick_false, b_lss, b_leq, b_gtr, b_geq, b_eql, b_neq, b_add, b_sub, lift1_some, ev_tmp, ev_const, eput_app, eput_none, List.map_cons, List.map_nil, Nat.reduceEqDiff, Nat.succ_ne_self, Nat.reduceBEq, ↓reduceIte, reduceIte, decide_true, decide_false, Bool.not_true, Bool.not_false, if_true_left, Nat.one_ne_zero, Nat.zero_ne_one, not_true_eq_false, not_false_eq_true, h0, h5, h6, h7]
      refine ⟨?_, Fr.refl _⟩
      rw [List.take_length] at hall
      simp [ranksOK, hall]
      omega
  · simp only [W_skip, W_ops, W_sops, W_seq, W_block, W_exit, W_ret, W_cond, U_seq, U_seq_exit, U_seq_ret, U_blk, U_blk_ret, U_blk_exit, again_exit', again_ret', again_normal', U_ret1, S_nil, S_gd, S_ld, S_lda, S_fld, S_len, S_ix, S_call, S_callv, S_func, S_move, S_assign, S_pick, S_bin, S_not, gdo_tt, gdo_ff, gdo_tf, gdo_ft, br_true, br_false, fin_val, ldV_ptr, ldaV_ptr, fldV_ptr, lenV_slice, not_bool, pick_true, pick_false, b_lss, b_leq, b_gtr, b_geq, b_eql, b_neq, b_add, b_sub, lift1_some, ev_tmp, ev_const, eput_app, eput_none, List.map_cons, List.map_nil, Nat.reduceEqDiff, Nat.succ_ne_self, Nat.reduceBEq, ↓reduceIte, reduceIte, decide_true, decide_false, Bool.not_true, Bool.not_false, if_true_left, Nat.one_ne_zero, Nat.zero_ne_one, not_true_eq_false, not_false_eq_true, f1_0]
    simp

end Go.Proofs.YtcfjimhbachmlaaGreatDoor.E

/- Contracts: needs compared. -/
namespace Go.Proofs.YtcfjimhbachmlaaGreatDoor.E
open Go Go.Proofs
open Go.Proofs.YtcfjimhbachmlaaGreatDoor.L

theorem ty182 : TY.ty 182 = some { k := .struct [(3, 0, false), (3, 1, false)], size := 2, bytes := 16, zero := some (.agg #[.int .i64 0, .int .i64 0]) } := by kernel_rfl
theorem plain182 : TY.plain 182 = true := by kernel_rfl

theorem b_eqNd {H : Heap} {a b c d : Int} : ebin TY H .eql 182 (.agg #[.int .i64 a, .int .i64 b]) (.agg #[.int .i64 c, .int .i64 d]) = some (.bool (decide (a = c) && decide (b = d))) := by
  have h1 : ∀ {x y : Int}, eeqIn TY H 3 3 (.int .i64 x) (.int .i64 y) = some (decide (x = y)) := by
    intro x y
    simp only [eeqIn, ty3, ↓reduceIte]; rfl
  have h2 : eeqIn TY H 4 182 (.agg #[.int .i64 a, .int .i64 b]) (.agg #[.int .i64 c, .int .i64 d]) = some (decide (a = c) && decide (b = d)) := by
    have p0 : ∀ {x y : Int}, epart TY 3 #[.int .i64 x, .int .i64 y] 0 = some (.int .i64 x) := by intros; simp [epart, ty3, TK.agg]
    have p1 : ∀ {x y : Int}, epart TY 3 #[.int .i64 x, .int .i64 y] 1 = some (.int .i64 y) := by intros; simp [epart, ty3, TK.agg]
    rw [eeqIn]
    simp only [ty182, plain182, ↓reduceIte, eeqFields, p0, p1, Bool.false_eq_true, h1]
    cases decide (a = c) <;> cases decide (b = d) <;> rfl
  simp only [ebin, eqShape, ↓reduceIte, h2]

/-- virgationref09.Before -/
def c204 : C2 :=
  .seq (.ops [(some 2, none, .raw (.box 182 (.tmp 0))),
    (some 3, none, .raw (.box 182 (.tmp 1))),
    (some 4, none, .raw (.assign (.const (.int .i64 0))))]) (
  .seq (.block 0 (
    .seq (.ops [(some 6, none, .fld 0 (.tmp 2)),
      (some 7, none, .ld (.tmp 6)),
      (some 8, none, .fld 0 (.tmp 3)),
      (some 9, none, .ld (.tmp 8)),
      (some 10, none, .raw (.binOp .neq 3 (.tmp 7) (.tmp 9) 3)),
      (some 11, none, .raw (.move (.tmp 10))),
      (some 12, some (11, true), .fld 0 (.tmp 2)),
      (some 13, some (11, true), .ld (.tmp 12)),
      (some 14, some (11, true), .fld 0 (.tmp 3)),
      (some 15, some (11, true), .ld (.tmp 14)),
      (some 16, some (11, true), .raw (.binOp .lss 3 (.tmp 13) (.tmp 15) 3)),
      (some 17, none, .raw (.pick (.tmp 11) (.tmp 16) (.const (.bool false)))),
      (some 18, none, .raw (.move (.tmp 17))),
      (some 19, some (18, false), .fld 0 (.tmp 2)),
      (some 20, some (18, false), .ld (.tmp 19)),
      (some 21, some (18, false), .fld 0 (.tmp 3)),
      (some 22, some (18, false), .ld (.tmp 21)),
      (some 23, some (18, false), .raw (.binOp .eql 3 (.tmp 20) (.tmp 22) 3)),
      (some 24, some (18, false), .raw (.move (.tmp 23))),
      (some 25, some (24, true), .fld 1 (.tmp 2)),
      (some 26, some (24, true), .ld (.tmp 25)),
      (some 27, some (24, true), .fld 1 (.tmp 3)),
      (some 28, some (24, true), .ld (.tmp 27)),
      (some 29, some (24, true), .raw (.binOp .lss 3 (.tmp 26) (.tmp 28) 3)),
      (some 30, some (18, false), .raw (.pick (.tmp 24) (.tmp 29) (.const (.bool false)))),
      (some 31, none, .raw (.pick (.tmp 18) (.const (.bool true)) (.tmp 30))),
      (some 5, none, .raw (.assign (.tmp 31)))]) (
    .cond (.tmp 5) (
      .seq (.ops [(some 4, none, .raw (.assign (.const (.int .i64 (-1)))))]) (
      .ret)) (
      .seq (.ops [(some 33, none, .lda 2 (.tmp 2)),
        (some 34, none, .lda 2 (.tmp 3)),
        (some 35, none, .raw (.binOp .eql 182 (.tmp 33) (.tmp 34) 182)),
        (some 32, none, .raw (.assign (.tmp 35)))]) (
      .cond (.tmp 32) (
        .seq (.ops [(some 4, none, .raw (.assign (.const (.int .i64 0))))]) (
        .ret)) (
        .skip)))))) (
  .seq (.ops [(some 4, none, .raw (.assign (.const (.int .i64 1))))]) (
  .ret)))
theorem fc204 : facts 204 = some (c204, [.tmp 4], 36) := by kernel_rfl

/-- auto.Before -/
def c136 : C2 :=
  .seq (.ops [(some 2, none, .raw (.box 182 (.tmp 0))),
    (some 3, none, .raw (.box 182 (.tmp 1))),
    (some 4, none, .raw (.assign (.const (.int .i64 0))))]) (
  .seq (.seq (.ops [(some 5, none, .fld 0 (.tmp 2)),
    (some 6, none, .ld (.tmp 5)),
    (some 7, none, .fld 0 (.tmp 3)),
    (some 8, none, .ld (.tmp 7)),
    (some 9, none, .raw (.binOp .neq 3 (.tmp 6) (.tmp 8) 3))]) (
  .cond (.tmp 9) (
    .seq (.ops [(some 10, none, .fld 0 (.tmp 2)),
      (some 11, none, .ld (.tmp 10)),
      (some 12, none, .fld 0 (.tmp 3)),
      (some 13, none, .ld (.tmp 12)),
      (some 14, none, .raw (.binOp .sub 3 (.tmp 11) (.tmp 13) 3)),
      (some 4, none, .raw (.assign (.tmp 14)))]) (
    .ret)) (
    .skip))) (
  .seq (.ops [(some 15, none, .fld 1 (.tmp 2)),
    (some 16, none, .ld (.tmp 15)),
    (some 17, none, .fld 1 (.tmp 3)),
    (some 18, none, .ld (.tmp 17)),
    (some 19, none, .raw (.binOp .sub 3 (.tmp 16) (.tmp 18) 3)),
    (some 4, none, .raw (.assign (.tmp 19)))]) (
  .ret)))
theorem fc136 : facts 136 = some (c136, [.tmp 4], 20) := by kernel_rfl

def ndV (x : Nd) : Value := .agg #[.int .i64 x.1, .int .i64 x.2]

/-- what a comparison tells -/
def Cmp (r : Int) (lt eq : Prop) : Prop := (r < 0 ↔ lt) ∧ (r = 0 ↔ eq)

theorem before204 {H : Heap} {a b : Nd} : SC Tryz.prog 204 #[ndV a, ndV b] H (fun v H' => (∃ r, v = .int .i64 r ∧ Cmp r (ltN a b = true) (a = b)) ∧ Fr H H') := by
  refine SC_of_W fc204 (by simp) fun hwf => ?_
  obtain ⟨a1, a2⟩ := a
  obtain ⟨b1, b2⟩ := b
  unfold c204
  simp only [W_skip, W_ops, W_sops, W_seq, W_block, W_exit, W_ret, W_cond, U_seq, U_seq_exit, U_seq_ret, U_blk, U_blk_ret, U_blk_exit, again_exit', again_ret', again_normal', U_ret1, S_nil, S_gd, S_ld, S_lda, S_fld, S_len, S_ix, S_call, S_callv, S_func, S_move, S_assign, S_pick, S_bin, S_not, gdo_tt, gdo_ff, gdo_tf, gdo_ft, br_true, br_false, fin_val, ldV_ptr, ldaV_ptr, fldV_ptr, lenV_slice, not_bool, pick_true, pick_false, b_lss, b_leq, b_gtr, b_geq, b_eql, b_neq, b_add, b_sub, lift1_some, ev_tmp, ev_const, eput_app, eput_none, List.map_cons, List.map_nil, Nat.reduceEqDiff, Nat.succ_ne_self, Nat.reduceBEq, ↓reduceIte, reduceIte, decide_true, decide_false, Bool.not_true, Bool.not_false, if_true_left, Nat.one_ne_zero, Nat.zero_ne_one, not_true_eq_false, not_false_eq_true, f2_0, f2_1]
  refine S_box fun H1 f1 n1 g1 => ?_
  refine S_box fun H2 f2 n2 g2 => ?_
  simp only [W_skip, W_ops, W_sops, W_seq, W_block, W_exit, W_ret, W_cond, U_seq, U_seq_exit, U_seq_ret, U_blk, U_blk_ret, U_blk_exit, again_exit', again_ret', again_normal', U_ret1, S_nil, S_gd, S_ld, S_lda, S_fld, S_len, S_ix, S_call, S_callv, S_func, S_move, S_assign, S_pick, S_bin, S_not, gdo_tt, gdo_ff, gdo_tf, gdo_ft, br_true, br_false, fin_val, ldV_ptr, ldaV_ptr, fldV_ptr, lenV_slice, not_bool, pick_true, pick_false, b_lss, b_leq, b_gtr, b_geq, b_eql, b_neq, b_add, b_sub, lift1_some, ev_tmp, ev_const, eput_app, eput_none, List.map_cons, List.map_nil, Nat.reduceEqDiff, Nat.succ_ne_self, Nat.reduceBEq, ↓reduceIte, reduceIte, decide_true, decide_false, Bool.not_true, Bool.not_false, if_true_left, Nat.one_ne_zero, Nat.zero_ne_one, not_true_eq_false, not_false_eq_true, f2_0, f2_1, ndV, Value.cells, own_add] at g1 g2 ⊢
  have g1' : H2.get H.nxt = _ := (f2.old _ (by omega)).trans g1
  have fr : Fr H H2 := f1.trans f2
  have p0 := own_cell 0 g1' rfl rfl
  have p1 := own_cell 1 g1' rfl rfl
  have q0 := own_cell 0 g2 rfl rfl
  have q1 := own_cell 1 g2 rfl rfl
  have pp := own_cells2 g1' rfl rfl
  have qq := own_cells2 g2 rfl rfl
  simp only [W_skip, W_ops, W_sops, W_seq, W_block, W_exit, W_ret, W_cond, U_seq, U_seq_exit, U_seq_ret, U_blk, U_blk_ret, U_blk_exit, again_exit', again_ret', again_normal', U_ret1, S_nil, S_gd, S_ld, S_lda, S_fld, S_len, S_ix, S_call, S_callv, S_func, S_move, S_assign, S_pick, S_bin, S_not, gdo_tt, gdo_ff, gdo_tf, gdo_ft, br_true, br_false, fin_val, ldV_ptr, ldaV_ptr, fldV_ptr, lenV_slice, not_bool, pick_true, pick_false, b_lss, b_leq, b_gtr, b_geq, b_eql, b_neq, b_add, b_sub, lift1_some, ev_tmp, ev_const, eput_app, eput_none, List.map_cons, List.map_nil, Nat.reduceEqDiff, Nat.succ_ne_self, Nat.reduceBEq, ↓reduceIte, reduceIte, decide_true, decide_false, Bool.not_true, Bool.not_false, if_true_left, Nat.one_ne_zero, Nat.zero_ne_one, not_true_eq_false, not_false_eq_true, p0, q0, own_add]
  have fin : ∀ r : Int, (r < 0 ↔ a1 < b1 ∨ a1 = b1 ∧ a2 < b2) ∧ (r = 0 ↔ a1 = b1 ∧ a2 = b2) → (∃ r', Value.int .i64 r = .int .i64 r' ∧ Cmp r' (ltN (a1, a2) (b1, b2) = true) ((a1, a2) = (b1, b2))) ∧ Fr H H2 := fun r hr =>
    ⟨⟨r, rfl, by simpa [ltN] using hr.1, by simpa using hr.2⟩, fr⟩
  refine gdo_of ?_ ?_ <;> intro hA
  · simp only [W_skip, W_ops, W_sops, W_seq, W_block, W_exit, W_ret, W_cond, U_seq, U_seq_exit, U_seq_ret, U_blk, U_blk_ret, U_blk_exit, again_exit', again_ret', again_normal', U_ret1, S_nil, S_gd, S_ld, S_lda, S_fld, S_len, S_ix, S_call, S_callv, S_func, S_move, S_assign, S_pick, S_bin, S_not, gdo_tt, gdo_ff, gdo_tf, gdo_ft, br_true, br_false, fin_val, ldV_ptr, ldaV_ptr, fldV_ptr, lenV_slice, not_bool, pick_true, pick_false, b_lss, b_leq, b_gtr, b_geq, b_eql, b_neq, b_add, b_sub, lift1_some, ev_tmp, ev_const, eput_app, eput_none, List.map_cons, List.map_nil, Nat.reduceEqDiff, Nat.succ_ne_self, Nat.reduceBEq, ↓reduceIte, reduceIte, decide_true, decide_false, Bool.not_true, Bool.not_false, if_true_left, Nat.one_ne_zero, Nat.zero_ne_one, not_true_eq_false, not_false_eq_true, hA, p0, q0, own_add]
    simp only [Bool.not_eq_true', decide_eq_false_iff_not] at hA
    refine gdo_of ?_ ?_ <;> intro hB
    · simp only [W_skip, W_ops, W_sops, W_seq, W_block, W_exit, W_ret, W_cond, U_seq, U_seq_exit, U_seq_ret, U_blk, U_blk_ret, U_blk_exit, again_exit', again_ret', again_normal', U_ret1, S_nil, S_gd, S_ld, S_lda, S_fld, S_len, S_ix, S_call, S_callv, S_func, S_move, S_assign, S_pick, S_bin, S_not, gdo_tt, gdo_ff, gdo_tf, gdo_ft, br_true, br_false, fin_val, ldV_ptr, ldaV_ptr, fldV_ptr, lenV_slice, not_bool, pick_true, pick_false, b_lss, b_leq, b_gtr, b_geq, b_eql, b_neq, b_add, b_sub, lift1_some, ev_tmp, ev_const, eput_app, eput_none, List.map_cons, List.map_nil, Nat.reduceEqDiff, Nat.succ_ne_self, Nat.reduceBEq, ↓reduceIte, reduceIte, decide_true, decide_false, Bool.not_true, Bool.not_false, if_true_left, Nat.one_ne_zero, Nat.zero_ne_one, not_true_eq_false, not_false_eq_true, hB]
      simp only [decide_eq_true_eq] at hB
      refine fin _ ?_
      omega
    · simp only [W_skip, W_ops, W_sops, W_seq, W_block, W_exit, W_ret, W_cond, U_seq, U_seq_exit, U_seq_ret, U_blk, U_blk_ret, U_blk_exit, again_exit', again_ret', again_normal', U_ret1, S_nil, S_gd, S_ld, S_lda, S_fld, S_len, S_ix, S_call, S_callv, S_func, S_move, S_assign, S_pick, S_bin, S_not, gdo_tt, gdo_ff, gdo_tf, gdo_ft, br_true, br_false, fin_val, ldV_ptr, ldaV_ptr, fldV_ptr, lenV_slice, not_bool, pick_true, pick_false, b_lss, b_leq, b_gtr, b_geq, b_eql, b_neq, b_add, b_sub, lift1_some, ev_tmp, ev_const, eput_app, eput_none, List.map_cons, List.map_nil, Nat.reduceEqDiff, Nat.succ_ne_self, Nat.reduceBEq, ↓reduceIte, reduceIte, decide_true, decide_false, Bool.not_true, Bool.not_false, if_true_left, Nat.one_ne_zero, Nat.zero_ne_one, not_true_eq_false, not_false_eq_true, hB, p0, q0, own_add]
      have e1 : decide (a1 = b1) = false := by simpa using hA
      simp only [W_skip, W_ops, W_sops, W_seq, W_block, W_exit, W_ret, W_cond, U_seq, U_seq_exit, U_seq_ret, U_blk, U_blk_ret, U_blk_exit, again_exit', again_ret', again_normal', U_ret1, S_nil, S_gd, S_ld, S_lda, S_fld, S_len, S_ix, S_call, S_callv, S_func, S_move, S_assign, S_pick, S_bin, S_not, gdo_tt, gdo_ff, gdo_tf, gdo_ft, br_true, br_false, fin_val, ldV_ptr, ldaV_ptr, fldV_ptr, lenV_slice, not_bool, pick_true, pick_false, b_lss, b_leq, b_gtr, b_geq, b_eql, b_neq, b_add, b_sub, lift1_some, ev_tmp, ev_const, eput_app, eput_none, List.map_cons, List.map_nil, Nat.reduceEqDiff, Nat.succ_ne_self, Nat.reduceBEq, ↓reduceIte, reduceIte, decide_true, decide_false, Bool.not_true, Bool.not_false, if_true_left, Nat.one_ne_zero, Nat.zero_ne_one, not_true_eq_false, not_false_eq_true, e1, pp, qq, b_eqNd, Bool.false_and]
      simp only [decide_eq_false_iff_not] at hB
      refine fin _ ?_
      omega
  · simp only [W_skip, W_ops, W_sops, W_seq, W_block, W_exit, W_ret, W_cond, U_seq, U_seq_exit, U_seq_ret, U_blk, U_blk_ret, U_blk_exit, again_exit', again_ret', again_normal', U_ret1, S_nil, S_gd, S_ld, S_lda, S_fld, S_len, S_ix, S_call, S_callv, S_func, S_move, S_assign, S_pick, S_bin, S_not, gdo_tt, gdo_ff, gdo_tf, gdo_ft, br_true, br_false, fin_val, ldV_ptr, ldaV_ptr, fldV_ptr, lenV_slice, not_bool, pick_true, pick_false, b_lss, b_leq, b_gtr, b_geq, b_eql, b_neq, b_add, b_sub, lift1_some, ev_tmp, ev_const, eput_app, eput_none, List.map_cons, List.map_nil, Nat.reduceEqDiff, Nat.succ_ne_self, Nat.reduceBEq, ↓reduceIte, reduceIte, decide_true, decide_false, Bool.not_true, Bool.not_false, if_true_left, Nat.one_ne_zero, Nat.zero_ne_one, not_true_eq_false, not_false_eq_true, hA, p0, q0, own_add]
    simp only [Bool.not_eq_false', decide_eq_true_eq] at hA
    subst hA
    simp only [W_skip, W_ops, W_sops, W_seq, W_block, W_exit, W_ret, W_cond, U_seq, U_seq_exit, U_seq_ret, U_blk, U_blk_ret, U_blk_exit, again_exit', again_ret', again_normal', U_ret1, S_nil, S_gd, S_ld, S_lda, S_fld, S_len, S_ix, S_call, S_callv, S_func, S_move, S_assign, S_pick, S_bin, S_not, gdo_tt, gdo_ff, gdo_tf, gdo_ft, br_true, br_false, fin_val, ldV_ptr, ldaV_ptr, fldV_ptr, lenV_slice, not_bool, pick_true, pick_false, b_lss, b_leq, b_gtr, b_geq, b_eql, b_neq, b_add, b_sub, lift1_some, ev_tmp, ev_const, eput_app, eput_none, List.map_cons, List.map_nil, Nat.reduceEqDiff, Nat.succ_ne_self, Nat.reduceBEq, ↓reduceIte, reduceIte, decide_true, decide_false, Bool.not_true, Bool.not_false, if_true_left, Nat.one_ne_zero, Nat.zero_ne_one, not_true_eq_false, not_false_eq_true, p0, q0, p1, q1, own_add]
    refine br_of ?_ ?_ <;> intro hB
    · simp only [W_skip, W_ops, W_sops, W_seq, W_block, W_exit, W_ret, W_cond, U_seq, U_seq_exit, U_seq_ret, U_blk, U_blk_ret, U_blk_exit, again_exit', again_ret', again_normal', U_ret1, S_nil, S_gd, S_ld, S_lda, S_fld, S_len, S_ix, S_call, S_callv, S_func, S_move, S_assign, S_pick, S_bin, S_not, gdo_tt, gdo_ff, gdo_tf, gdo_ft, br_true, br_false, fin_val, ldV_ptr, ldaV_ptr, fldV_ptr, lenV_slice, not_bool, pick_true, pick_false, b_lss, b_leq, b_gtr, b_geq, b_eql, b_neq, b_add, b_sub, lift1_some, ev_tmp, ev_const, eput_app, eput_none, List.map_cons, List.map_nil, Nat.reduceEqDiff, Nat.succ_ne_self, Nat.reduceBEq, ↓reduceIte, reduceIte, decide_true, decide_false, Bool.not_true, Bool.not_false, if_true_left, Nat.one_ne_zero, Nat.zero_ne_one, not_true_eq_false, not_false_eq_true]
      simp only [decide_eq_true_eq] at hB
      refine fin _ ?_
      omega
    · simp only [W_skip, W_ops, W_sops, W_seq, W_block, W_exit, W_ret, W_cond, U_seq, U_seq_exit, U_seq_ret, U_blk, U_blk_ret, U_blk_exit, again_exit', again_ret', again_normal', U_ret1, S_nil, S_gd, S_ld, S_lda, S_fld, S_len, S_ix, S_call, S_callv, S_func, S_move, S_assign, S_pick, S_bin, S_not, gdo_tt, gdo_ff, gdo_tf, gdo_ft, br_true, br_false, fin_val, ldV_ptr, ldaV_ptr, fldV_ptr, lenV_slice, not_bool, pick_true, pick_false, b_lss, b_leq, b_gtr, b_geq, b_eql, b_neq, b_add, b_sub, lift1_some, ev_tmp, ev_const, eput_app, eput_none, List.map_cons, List.map_nil, Nat.reduceEqDiff, Nat.succ_ne_self, Nat.reduceBEq, ↓reduceIte, reduceIte, decide_true, decide_false, Bool.not_true, Bool.not_false, if_true_left, Nat.one_ne_zero, Nat.zero_ne_one, not_true_eq_false, not_false_eq_true, pp, qq, b_eqNd, Bool.true_and]
      simp only [decide_eq_false_iff_not] at hB
      refine br_of ?_ ?_ <;> intro hC
      · simp only [W_skip, W_ops, W_sops, W_seq, W_block, W_exit, W_ret, W_cond, U_seq, U_seq_exit, U_seq_ret, U_blk, U_blk_ret, U_blk_exit, again_exit', again_ret', again_normal', U_ret1, S_nil, S_gd, S_ld, S_lda, S_fld, S_len, S_ix, S_call, S_callv, S_func, S_move, S_assign, S_pick, S_bin, S_not, gdo_tt, gdo_ff, gdo_tf, gdo_ft, br_true, br_false, fin_val, ldV_ptr, ldaV_ptr, fldV_ptr, lenV_slice, not_bool, pick_true, pick_false, b_lss, b_leq, b_gtr, b_geq, b_eql, b_neq, b_add, b_sub, lift1_some, ev_tmp, ev_const, eput_app, eput_none, List.map_cons, List.map_nil, Nat.reduceEqDiff, Nat.succ_ne_self, Nat.reduceBEq, ↓reduceIte, reduceIte, decide_true, decide_false, Bool.not_true, Bool.not_false, if_true_left, Nat.one_ne_zero, Nat.zero_ne_one, not_true_eq_false, not_false_eq_true]
        simp only [decide_eq_true_eq] at hC
        refine fin _ ?_
        omega
      · simp only [W_skip, W_ops, W_sops, W_seq, W_block, W_exit, W_ret, W_cond, U_seq, U_seq_exit, U_seq_ret, U_blk, U_blk_ret, U_blk_exit, again_exit', again_ret', again_normal', U_ret1, S_nil, S_gd, S_ld, S_lda, S_fld, S_len, S_ix, S_call, S_callv, S_func, S_move, S_assign, S_pick, S_bin, S_not, gdo_tt, gdo_ff, gdo_tf, gdo_ft, br_true, br_false, fin_val, ldV_ptr, ldaV_ptr, fldV_ptr, lenV_slice, not_bool, pick_true, pick_false, b_lss, b_leq, b_gtr, b_geq, b_eql, b_neq, b_add, b_sub, lift1_some, ev_tmp, ev_const, eput_app, eput_none, List.map_cons, List.map_nil, Nat.reduceEqDiff, Nat.succ_ne_self, Nat.reduceBEq, ↓reduceIte, reduceIte, decide_true, decide_false, Bool.not_true, Bool.not_false, if_true_left, Nat.one_ne_zero, Nat.zero_ne_one, not_true_eq_false, not_false_eq_true]
        simp only [decide_eq_false_iff_not] at hC
        refine fin _ ?_
        omega

theorem before136 {H : Heap} {a b : Nd} (ha : 0 ≤ a.1 ∧ a.1 < 4294967296 ∧ 0 ≤ a.2 ∧ a.2 < 4294967296) (hb : 0 ≤ b.1 ∧ b.1 < 4294967296 ∧ 0 ≤ b.2 ∧ b.2 < 4294967296) :
    SC Tryz.prog 136 #[ndV a, ndV b] H (fun v H' => (∃ r, v = .int .i64 r ∧ Cmp r (ltN a b = true) (a = b)) ∧ Fr H H') := by
  refine SC_of_W fc136 (by simp) fun hwf => ?_
  obtain ⟨a1, a2⟩ := a
  obtain ⟨b1, b2⟩ := b
  simp only at ha hb
  unfold c136
  simp only [W_skip, W_ops, W_sops, W_seq, W_block, W_exit, W_ret, W_cond, U_seq, U_seq_exit, U_seq_ret, U_blk, U_blk_ret, U_blk_exit, again_exit', again_ret', again_normal', U_ret1, S_nil, S_gd, S_ld, S_lda, S_fld, S_len, S_ix, S_call, S_callv, S_func, S_move, S_assign, S_pick, S_bin, S_not, gdo_tt, gdo_ff, gdo_tf, gdo_ft, br_true, br_false, fin_val, ldV_ptr, ldaV_ptr, fldV_ptr, lenV_slice, not_bool, pick_true, pick_false, b_lss, b_leq, b_gtr, b_geq, b_eql, b_neq, b_add, b_sub, lift1_some, ev_tmp, ev_const, eput_app, eput_none, List.map_cons, List.map_nil, Nat.reduceEqDiff, Nat.succ_ne_self, Nat.reduceBEq, ↓reduceIte, reduceIte, decide_true, decide_false, Bool.not_true, Bool.not_false, if_true_left, Nat.one_ne_zero, Nat.zero_ne_one, not_true_eq_false, not_false_eq_true, f2_0, f2_1]
  refine S_box fun H1 f1 n1 g1 => ?_
  refine S_box fun H2 f2 n2 g2 => ?_
  simp only [W_skip, W_ops, W_sops, W_seq, W_block, W_exit, W_ret, W_cond, U_seq, U_seq_exit, U_seq_ret, U_blk, U_blk_ret, U_blk_exit, again_exit', again_ret', again_normal', U_ret1, S_nil, S_gd, S_ld, S_lda, S_fld, S_len, S_ix, S_call, S_callv, S_func, S_move, S_assign, S_pick, S_bin, S_not, gdo_tt, gdo_ff, gdo_tf, gdo_ft, br_true, br_false, fin_val, ldV_ptr, ldaV_ptr, fldV_ptr, lenV_slice, not_bool, pick_true, pick_false, b_lss, b_leq, b_gtr, b_geq, b_eql, b_neq, b_add, b_sub, lift1_some, ev_tmp, ev_const, eput_app, eput_none, List.map_cons, List.map_nil, Nat.reduceEqDiff, Nat.succ_ne_self, Nat.reduceBEq, ↓reduceIte, reduceIte, decide_true, decide_false, Bool.not_true, Bool.not_false, if_true_left, Nat.one_ne_zero, Nat.zero_ne_one, not_true_eq_false, not_false_eq_true, f2_0, f2_1, ndV, Value.cells, own_add] at g1 g2 ⊢
  have g1' : H2.get H.nxt = _ := (f2.old _ (by omega)).trans g1
  have fr : Fr H H2 := f1.trans f2
  have p0 := own_cell 0 g1' rfl rfl
  have p1 := own_cell 1 g1' rfl rfl
  have q0 := own_cell 0 g2 rfl rfl
  have q1 := own_cell 1 g2 rfl rfl
  simp only [W_skip, W_ops, W_sops, W_seq, W_block, W_exit, W_ret, W_cond, U_seq, U_seq_exit, U_seq_ret, U_blk, U_blk_ret, U_blk_exit, again_exit', again_ret', again_normal', U_ret1, S_nil, S_gd, S_ld, S_lda, S_fld, S_len, S_ix, S_call, S_callv, S_func, S_move, S_assign, S_pick, S_bin, S_not, gdo_tt, gdo_ff, gdo_tf, gdo_ft, br_true, br_false, fin_val, ldV_ptr, ldaV_ptr, fldV_ptr, lenV_slice, not_bool, pick_true, pick_false, b_lss, b_leq, b_gtr, b_geq, b_eql, b_neq, b_add, b_sub, lift1_some, ev_tmp, ev_const, eput_app, eput_none, List.map_cons, List.map_nil, Nat.reduceEqDiff, Nat.succ_ne_self, Nat.reduceBEq, ↓reduceIte, reduceIte, decide_true, decide_false, Bool.not_true, Bool.not_false, if_true_left, Nat.one_ne_zero, Nat.zero_ne_one, not_true_eq_false, not_false_eq_true, p0, q0, own_add]
  have fin : ∀ r : Int, (r < 0 ↔ a1 < b1 ∨ a1 = b1 ∧ a2 < b2) ∧ (r = 0 ↔ a1 = b1 ∧ a2 = b2) → (∃ r', Value.int .i64 r = .int .i64 r' ∧ Cmp r' (ltN (a1, a2) (b1, b2) = true) ((a1, a2) = (b1, b2))) ∧ Fr H H2 := fun r hr =>
    ⟨⟨r, rfl, by simpa [ltN] using hr.1, by simpa using hr.2⟩, fr⟩
  refine br_of ?_ ?_ <;> intro hA
  · simp only [W_skip, W_ops, W_sops, W_seq, W_block, W_exit, W_ret, W_cond, U_seq, U_seq_exit, U_seq_ret, U_blk, U_blk_ret, U_blk_exit, again_exit', again_ret', again_normal', U_ret1, S_nil, S_gd, S_ld, S_lda, S_fld, S_len, S_ix, S_call, S_callv, S_func, S_move, S_assign, S_pick, S_bin, S_not, gdo_tt, gdo_ff, gdo_tf, gdo_ft, br_true, br_false, fin_val, ldV_ptr, ldaV_ptr, fldV_ptr, lenV_slice, not_bool, pick_true, pick_false, b_lss, b_leq, b_gtr, b_geq, b_eql, b_neq, b_add, b_sub, lift1_some, ev_tmp, ev_const, eput_app, eput_none, List.map_cons, List.map_nil, Nat.reduceEqDiff, Nat.succ_ne_self, Nat.reduceBEq, ↓reduceIte, reduceIte, decide_true, decide_false, Bool.not_true, Bool.not_false, if_true_left, Nat.one_ne_zero, Nat.zero_ne_one, not_true_eq_false, not_false_eq_true, p0, q0, own_add]
    rw [wrap64 (by omega) (by omega)]
    simp only [Bool.not_eq_true', decide_eq_false_iff_not] at hA
    refine fin _ ?_
    omega
  · simp only [W_skip, W_ops, W_sops, W_seq, W_block, W_exit, W_ret, W_cond, U_seq, U_seq_exit, U_seq_ret, U_blk, U_blk_ret, U_blk_exit, again_exit', again_ret', again_normal', U_ret1, S_nil, S_gd, S_ld, S_lda, S_fld, S_len, S_ix, S_call, S_callv, S_func, S_move, S_assign, S_pick, S_bin, S_not, gdo_tt, gdo_ff, gdo_tf, gdo_ft, br_true, br_false, fin_val, ldV_ptr, ldaV_ptr, fldV_ptr, lenV_slice, not_bool, pick_true, pick_false, b_lss, b_leq, b_gtr, b_geq, b_eql, b_neq, b_add, b_sub, lift1_some, ev_tmp, ev_const, eput_app, eput_none, List.map_cons, List.map_nil, Nat.reduceEqDiff, Nat.succ_ne_self, Nat.reduceBEq, ↓reduceIte, reduceIte, decide_true, decide_false, Bool.not_true, Bool.not_false, if_true_left, Nat.one_ne_zero, Nat.zero_ne_one, not_true_eq_false, not_false_eq_true, p1, q1, own_add]
    rw [wrap64 (by omega) (by omega)]
    simp only [Bool.not_eq_false', decide_eq_true_eq] at hA
    refine fin _ ?_
    omega

end Go.Proofs.YtcfjimhbachmlaaGreatDoor.E

/- Contracts: alternatives compared. -/
namespace Go.Proofs.YtcfjimhbachmlaaGreatDoor.E
open Go Go.Proofs
open Go.Proofs.YtcfjimhbachmlaaGreatDoor.L

theorem ltN_irrefl (x : Nd) : ltN x x = false := by simp [ltN]

theorem drop_cons {α : Type} {l : List α} {j : Nat} (h : j < l.length) : l.drop j = l[j] :: l.drop (j + 1) := List.drop_eq_getElem_cons h

theorem cmp_step {x y : Nd} {l m : List Nd} {r : Int} (h : Cmp r (ltN x y = true) (x = y)) (h0 : r = 0) : (ltL (x :: l) (y :: m) = ltL l m) ∧ ((x :: l = y :: m) ↔ l = m) := by
  have e := h.2.1 h0
  subst e
  simp [ltL, ltN_irrefl]
theorem cmp_found {x y : Nd} {l m : List Nd} {r : Int} (h : Cmp r (ltN x y = true) (x = y)) (h0 : r ≠ 0) : Cmp r (ltL (x :: l) (y :: m) = true) (x :: l = y :: m) := by
  have e : x ≠ y := fun e => h0 (h.2.2 e)
  exact ⟨by rw [h.1]; simp [ltL, e], by simp [e, h0]⟩

/-- virgationref09.Compare -/
def c143 : C2 :=
  .seq (.ops [(some 4, none, .raw (.assign (.const (.int .i64 0))))]) (
  .seq (.seq (.ops [(some 5, none, .raw (.assign (.const (.int .i64 0))))]) (
  .block 0 (
    .loop (
      .seq (.seq (.ops [(some 7, none, .raw (.move (.tmp 5))),
        (some 8, none, .raw (.move (.tmp 0))),
        (some 9, none, .len (.tmp 8)),
        (some 10, none, .raw (.binOp .lss 3 (.tmp 7) (.tmp 9) 3)),
        (some 11, none, .raw (.move (.tmp 10))),
        (some 12, some (11, true), .raw (.move (.tmp 5))),
        (some 13, some (11, true), .raw (.move (.tmp 1))),
        (some 14, some (11, true), .len (.tmp 13)),
        (some 15, some (11, true), .raw (.binOp .lss 3 (.tmp 12) (.tmp 14) 3)),
        (some 16, none, .raw (.pick (.tmp 11) (.tmp 15) (.const (.bool false))))]) (
      .cond (.tmp 16) (
        .skip) (
        .exit 0))) (
      .seq (.block 1 (
        .seq (.sops 10 [(some 19, none, .raw (.move (.tmp 0))),
          (some 20, none, .raw (.move (.tmp 5))),
          (some 21, none, .ix 2 (.tmp 19) (.tmp 20)),
          (some 22, none, .lda 2 (.tmp 21)),
          (some 23, none, .raw (.move (.tmp 1))),
          (some 24, none, .raw (.move (.tmp 5))),
          (some 25, none, .ix 2 (.tmp 23) (.tmp 24)),
          (some 26, none, .lda 2 (.tmp 25)),
          (some 27, none, .call 204 [(.tmp 22), (.tmp 26)]),
          (some 6, none, .raw (.assign (.tmp 27)))]) (
        .seq (.ops [(some 28, none, .raw (.move (.tmp 6))),
          (some 29, none, .raw (.binOp .neq 3 (.tmp 28) (.const (.int .i64 0)) 3))]) (
        .cond (.tmp 29) (
          .seq (.ops [(some 30, none, .raw (.move (.tmp 6))),
            (some 4, none, .raw (.assign (.tmp 30)))]) (
          .ret)) (
          .skip))))) (
      .ops [(some 17, none, .raw (.move (.tmp 5))),
        (some 18, none, .raw (.binOp .add 3 (.tmp 17) (.const (.int .i64 1)) 3)),
        (some 5, none, .raw (.assign (.tmp 18)))])))))) (
  .seq (.block 2 (
    .seq (.ops [(some 32, none, .raw (.move (.tmp 0))),
      (some 33, none, .len (.tmp 32)),
      (some 34, none, .raw (.move (.tmp 1))),
      (some 35, none, .len (.tmp 34)),
      (some 36, none, .raw (.binOp .lss 3 (.tmp 33) (.tmp 35) 3)),
      (some 31, none, .raw (.assign (.tmp 36)))]) (
    .cond (.tmp 31) (
      .seq (.ops [(some 4, none, .raw (.assign (.const (.int .i64 (-1)))))]) (
      .ret)) (
      .seq (.ops [(some 38, none, .raw (.move (.tmp 0))),
        (some 39, none, .len (.tmp 38)),
        (some 40, none, .raw (.move (.tmp 1))),
        (some 41, none, .len (.tmp 40)),
        (some 42, none, .raw (.binOp .gtr 3 (.tmp 39) (.tmp 41) 3)),
        (some 37, none, .raw (.assign (.tmp 42)))]) (
      .cond (.tmp 37) (
        .seq (.ops [(some 4, none, .raw (.assign (.const (.int .i64 1))))]) (
        .ret)) (
        .skip)))))) (
  .seq (.ops [(some 4, none, .raw (.assign (.const (.int .i64 0))))]) (
  .ret))))
theorem fc143 : facts 143 = some (c143, [.tmp 4], 43) := by kernel_rfl

theorem compare143 {H : Heap} {v w : Value} {a b : List Nd} (hv : IsAlt H.get v a) (hw : IsAlt H.get w b) :
    SC Tryz.prog 143 #[v, w] H (fun v H' => (∃ r, v = .int .i64 r ∧ Cmp r (ltL a b = true) (a = b)) ∧ Fr H H') := by
  refine SC_of_W fc143 (by simp) fun hwf => ?_
  obtain ⟨p, c, rfl, hlen, hat⟩ := hv
  obtain ⟨q, d, rfl, hlen2, hat2⟩ := hw
  have kn := Kn.self hwf
  unfold c143
  simp only [W_skip, W_ops, W_sops, W_seq, W_block, W_exit, W_ret, W_cond, U_seq, U_seq_exit, U_seq_ret, U_blk, U_blk_ret, U_blk_exit, again_exit', again_ret', again_normal', U_ret1, S_nil, S_gd, S_ld, S_lda, S_fld, S_len, S_ix, S_call, S_callv, S_func, S_move, S_assign, S_pick, S_bin, S_not, gdo_tt, gdo_ff, gdo_tf, gdo_ft, br_true, br_false, fin_val, ldV_ptr, ldaV_ptr, fldV_ptr, lenV_slice, not_bool, pick_true, pick_false, b_lss, b_leq, b_gtr, b_geq, b_eql, b_neq, b_add, b_sub, lift1_some, ev_tmp, ev_const, eput_app, eput_none, List.map_cons, List.map_nil, Nat.reduceEqDiff, Nat.succ_ne_self, Nat.reduceBEq, ↓reduceIte, reduceIte, decide_true, decide_false, Bool.not_true, Bool.not_false, if_true_left, Nat.one_ne_zero, Nat.zero_ne_one, not_true_eq_false, not_false_eq_true, f2_0, f2_1]
  refine W_loop (fun k g H1 => ∃ j, k = a.length - j ∧ j ≤ a.length ∧ j ≤ b.length ∧ g 0 = .slice p a.length c ∧ g 1 = .slice q b.length d ∧ g 5 = .int .i64 (j : Nat) ∧ Fr H H1 ∧ ltL a b = ltL (a.drop j) (b.drop j) ∧ (a = b ↔ a.drop j = b.drop j)) ?_ a.length ⟨0, ?_⟩
  · rintro k g H1 ⟨j, rfl, hj, hj2, h0, h1, h5, fr, e1, e2⟩
    have kn1 := kn.fr fr
    simp only [W_skip, W_ops, W_sops, W_seq, W_block, W_exit, W_ret, W_cond, U_seq, U_seq_exit, U_seq_ret, U_blk, U_blk_ret, U_blk_exit, again_exit', again_ret', again_normal', U_ret1, S_nil, S_gd, S_ld, S_lda, S_fld, S_len, S_ix, S_call, S_callv, S_func, S_move, S_assign, S_pick, S_bin, S_not, gdo_tt, gdo_ff, gdo_tf, gdo_ft, br_true, br_false, fin_val, ldV_ptr, ldaV_ptr, fldV_ptr, lenV_slice, not_bool, pick_true, pick_false, b_lss, b_leq, b_gtr, b_geq, b_eql, b_neq, b_add, b_sub, lift1_some, ev_tmp, ev_const, eput_app, eput_none, List.map_cons, List.map_nil, Nat.reduceEqDiff, Nat.succ_ne_self, Nat.reduceBEq, ↓reduceIte, reduceIte, decide_true, decide_false, Bool.not_true, Bool.not_false, if_true_left, Nat.one_ne_zero, Nat.zero_ne_one, not_true_eq_false, not_false_eq_true, h0, h1, h5]
    refine gdo_of ?_ ?_ <;> intro hA
    · have hj' : j < a.length := by simpa using hA
      simp only [W_skip, W_ops, W_sops, W_seq, W_block, W_exit, W_ret, W_cond, U_seq, U_seq_exit, U_seq_ret, U_blk, U_blk_ret, U_blk_exit, again_exit', again_ret', again_normal', U_ret1, S_nil, S_gd, S_ld, S_lda, S_fld, S_len, S_ix, S_call, S_callv, S_func, S_move, S_assign, S_pick, S_bin, S_not, gdo_tt, gdo_ff, gdo_tf, gdo_ft, br_true, br_false, fin_val, ldV_ptr, ldaV_ptr, fldV_ptr, lenV_slice, not_bool, pick_true, pick_false, b_lss, b_leq, b_gtr, b_geq, b_eql, b_neq, b_add, b_sub, lift1_some, ev_tmp, ev_const, eput_app, eput_none, List.map_cons, List.map_nil, Nat.reduceEqDiff, Nat.succ_ne_self, Nat.reduceBEq, ↓reduceIte, reduceIte, decide_true, decide_false, Bool.not_true, Bool.not_false, if_true_left, Nat.one_ne_zero, Nat.zero_ne_one, not_true_eq_false, not_false_eq_true, hA, h0, h1, h5]
      refine br_of ?_ ?_ <;> intro hB
      · have hj2' : j < b.length := by simpa using hB
        obtain ⟨x1, cs, rfl, hs, hI⟩ := hat j a[j] (by simp [hj'])
        obtain ⟨x2, cs2, rfl, hs2, hI2⟩ := hat2 j b[j] (by simp [hj2'])
        cases hI; cases hI2
        have hc := kn1.reserve 10 |>.see2 hs
        have hc2 := kn1.reserve 10 |>.see2 hs2
        simp only [W_skip, W_ops, W_sops, W_seq, W_block, W_exit, W_ret, W_cond, U_seq, U_seq_exit, U_seq_ret, U_blk, U_blk_ret, U_blk_exit, again_exit', again_ret', again_normal', U_ret1, S_nil, S_gd, S_ld, S_lda, S_fld, S_len, S_ix, S_call, S_callv, S_func, S_move, S_assign, S_pick, S_bin, S_not, gdo_tt, gdo_ff, gdo_tf, gdo_ft, br_true, br_false, fin_val, ldV_ptr, ldaV_ptr, fldV_ptr, lenV_slice, not_bool, pick_true, pick_false, b_lss, b_leq, b_gtr, b_geq, b_eql, b_neq, b_add, b_sub, lift1_some, ev_tmp, ev_const, eput_app, eput_none, List.map_cons, List.map_nil, Nat.reduceEqDiff, Nat.succ_ne_self, Nat.reduceBEq, ↓reduceIte, reduceIte, decide_true, decide_false, Bool.not_true, Bool.not_false, if_true_left, Nat.one_ne_zero, Nat.zero_ne_one, not_true_eq_false, not_false_eq_true, h0, h1, h5, ixV_at hj', ixV_at hj2', hc, hc2]
        refine call_then (before204 (a := a[j]) (b := b[j])) ?_
        rintro _ H2 ⟨⟨r, rfl, hr⟩, f2⟩ wf2
        have fr2 : Fr H H2 := (fr.reserve 10).trans f2
        rw [cont_app]
        simp only [W_skip, W_ops, W_sops, W_seq, W_block, W_exit, W_ret, W_cond, U_seq, U_seq_exit, U_seq_ret, U_blk, U_blk_ret, U_blk_exit, again_exit', again_ret', again_normal', U_ret1, S_nil, S_gd, S_ld, S_lda, S_fld, S_len, S_ix, S_call, S_callv, S_func, S_move, S_assign, S_pick, S_bin, S_not, gdo_tt, gdo_ff, gdo_tf, gdo_ft, br_true, br_false, fin_val, ldV_ptr, ldaV_ptr, fldV_ptr, lenV_slice, not_bool, pick_true, pick_false, b_lss, b_leq, b_gtr, b_geq, b_eql, b_neq, b_add, b_sub, lift1_some, ev_tmp, ev_const, eput_app, eput_none, List.map_cons, List.map_nil, Nat.reduceEqDiff, Nat.succ_ne_self, Nat.reduceBEq, ↓reduceIte, reduceIte, decide_true, decide_false, Bool.not_true, Bool.not_false, if_true_left, Nat.one_ne_zero, Nat.zero_ne_one, not_true_eq_false, not_false_eq_true]
        refine br_of ?_ ?_ <;> intro hC
        · simp only [W_skip, W_ops, W_sops, W_seq, W_block, W_exit, W_ret, W_cond, U_seq, U_seq_exit, U_seq_ret, U_blk, U_blk_ret, U_blk_exit, again_exit', again_ret', again_normal', U_ret1, S_nil, S_gd, S_ld, S_lda, S_fld, S_len, S_ix, S_call, S_callv, S_func, S_move, S_assign, S_pick, S_bin, S_not, gdo_tt, gdo_ff, gdo_tf, gdo_ft, br_true, br_false, fin_val, ldV_ptr, ldaV_ptr, fldV_ptr, lenV_slice, not_bool, pick_true, pick_false, b_lss, b_leq, b_gtr, b_geq, b_eql, b_neq, b_add, b_sub, lift1_some, ev_tmp, ev_const, eput_app, eput_none, List.map_cons, List.map_nil, Nat.reduceEqDiff, Nat.succ_ne_self, Nat.reduceBEq, ↓reduceIte, reduceIte, decide_true, decide_false, Bool.not_true, Bool.not_false, if_true_left, Nat.one_ne_zero, Nat.zero_ne_one, not_true_eq_false, not_false_eq_true]
          have hr0 : r ≠ 0 := by simpa using hC
          refine ⟨⟨r, rfl, ?_⟩, fr2⟩
          rw [e1, e2, drop_cons hj', drop_cons hj2']
          exact cmp_found hr hr0
        · simp only [W_skip, W_ops, W_sops, W_seq, W_block, W_exit, W_ret, W_cond, U_seq, U_seq_exit, U_seq_ret, U_blk, U_blk_ret, U_blk_exit, again_exit', again_ret', again_normal', U_ret1, S_nil, S_gd, S_ld, S_lda, S_fld, S_len, S_ix, S_call, S_callv, S_func, S_move, S_assign, S_pick, S_bin, S_not, gdo_tt, gdo_ff, gdo_tf, gdo_ft, br_true, br_false, fin_val, ldV_ptr, ldaV_ptr, fldV_ptr, lenV_slice, not_bool, pick_true, pick_false, b_lss, b_leq, b_gtr, b_geq, b_eql, b_neq, b_add, b_sub, lift1_some, ev_tmp, ev_const, eput_app, eput_none, List.map_cons, List.map_nil, Nat.reduceEqDiff, Nat.succ_ne_self, Nat.reduceBEq, ↓reduceIte, reduceIte, decide_true, decide_false, Bool.not_true, Bool.not_false, if_true_left, Nat.one_ne_zero, Nat.zero_ne_one, not_true_eq_false, not_false_eq_true, h0, h1, h5]
          have hr0 : r = 0 := by simpa using hC
          obtain ⟨s1, s2⟩ := cmp_step (l := a.drop (j + 1)) (m := b.drop (j + 1)) hr hr0
          refine ⟨a.length - (j + 1), by omega, j + 1, rfl, hj', hj2', trivial, trivial, by rw [wrap_succ (by omega)], fr2, ?_, ?_⟩
          · rw [e1, drop_cons hj', drop_cons hj2', s1]
          · rw [e2, drop_cons hj', drop_cons hj2', s2]
      · have hj2' : j = b.length := by simp at hB; omega
        subst hj2'
        rw [drop_cons hj', List.drop_length] at e1 e2
        simp only [W_skip, W_ops, W_sops, W_seq, W_block, W_exit, W_ret, W_cond, U_seq, U_seq_exit, U_seq_ret, U_blk, U_blk_ret, U_blk_exit, again_exit', again_ret', again_normal', U_ret1, S_nil, S_gd, S_ld, S_lda, S_fld, S_len, S_ix, S_call, S_callv, S_func, S_move, S_assign, S_pick, S_bin, S_not, gdo_tt, gdo_ff, gdo_tf, gdo_ft, br_true, br_false, fin_val, ldV_ptr, ldaV_ptr, fldV_ptr, lenV_slice, not_bool, pick_true, pick_false, b_lss, b_leq, b_gtr, b_geq, b_eql, b_neq, b_add, b_sub, lift1_some, ev_tmp, ev_const, eput_app, eput_none, List.map_cons, List.map_nil, Nat.reduceEqDiff, Nat.succ_ne_self, Nat.reduceBEq, ↓reduceIte, reduceIte, decide_true, decide_false, Bool.not_true, Bool.not_false, if_true_left, Nat.one_ne_zero, Nat.zero_ne_one, not_true_eq_false, not_false_eq_true, h0, h1, h5]
        refine br_of ?_ ?_ <;> intro hC
        · simp at hC; omega
        · simp only [W_skip, W_ops, W_sops, W_seq, W_block, W_exit, W_ret, W_cond, U_seq, U_seq_exit, U_seq_ret, U_blk, U_blk_ret, U_blk_exit, again_exit', again_ret', again_normal', U_ret1, S_nil, S_gd, S_ld, S_lda, S_fld, S_len, S_ix, S_call, S_callv, S_func, S_move, S_assign, S_pick, S_bin, S_not, gdo_tt, gdo_ff, gdo_tf, gdo_ft, br_true, br_false, fin_val, ldV_ptr, ldaV_ptr, fldV_ptr, lenV_slice, not_bool, pick_true, pick_false, b_lss, b_leq, b_gtr, b_geq, b_eql, b_neq, b_add, b_sub, lift1_some, ev_tmp, ev_const, eput_app, eput_none, List.map_cons, List.map_nil, Nat.reduceEqDiff, Nat.succ_ne_self, Nat.reduceBEq, ↓reduceIte, reduceIte, decide_true, decide_false, Bool.not_true, Bool.not_false, if_true_left, Nat.one_ne_zero, Nat.zero_ne_one, not_true_eq_false, not_false_eq_true, h0, h1, h5]
          refine br_of ?_ ?_ <;> intro hD
          · simp only [W_skip, W_ops, W_sops, W_seq, W_block, W_exit, W_ret, W_cond, U_seq, U_seq_exit, U_seq_ret, U_blk, U_blk_ret, U_blk_exit, again_exit', again_ret', again_normal', U_ret1, S_nil, S_gd, S_ld, S_lda, S_fld, S_len, S_ix, S_call, S_callv, S_func, S_move, S_assign, S_pick, S_bin, S_not, gdo_tt, gdo_ff, gdo_tf, gdo_ft, br_true, br_false, fin_val, ldV_ptr, ldaV_ptr, fldV_ptr, lenV_slice, not_bool, pick_true, pick_false, b_lss, b_leq, b_gtr, b_geq, b_eql, b_neq, b_add, b_sub, lift1_some, ev_tmp, ev_const, eput_app, eput_none, List.map_cons, List.map_nil, Nat.reduceEqDiff, Nat.succ_ne_self, Nat.reduceBEq, ↓reduceIte, reduceIte, decide_true, decide_false, Bool.not_true, Bool.not_false, if_true_left, Nat.one_ne_zero, Nat.zero_ne_one, not_true_eq_false, not_false_eq_true]
            refine ⟨⟨1, rfl, ?_, ?_⟩, fr⟩
            · rw [e1]; simp [ltL]
            · rw [e2]; simp; omega
          · simp at hD; omega
    · have hj' : j = a.length := by simp at hA; omega
      subst hj'
      rw [List.drop_length] at e1 e2
      simp only [W_skip, W_ops, W_sops, W_seq, W_block, W_exit, W_ret, W_cond, U_seq, U_seq_exit, U_seq_ret, U_blk, U_blk_ret, U_blk_exit, again_exit', again_ret', again_normal', U_ret1, S_nil, S_gd, S_ld, S_lda, S_fld, S_len, S_ix, S_call, S_callv, S_func, S_move, S_assign, S_pick, S_bin, S_not, gdo_tt, gdo_ff, gdo_tf, gdo_ft, br_true, br_false, fin_val, ldV_ptr, ldaV_ptr, fldV_ptr, lenV_slice, not_bool, pick_true, pick_false, b_lss, b_leq, b_gtr, b_geq, b_eql, b_neq, b_add, b_sub, lift1_some, ev_tmp, ev_const, eput_app, eput_none, List.map_cons, List.map_nil, Nat.reduceEqDiff, Nat.succ_ne_self, Nat.reduceBEq, ↓reduceIte, reduceIte, decide_true, decide_false, Bool.not_true, Bool.not_false, if_true_left, Nat.one_ne_zero, Nat.zero_ne_one, not_true_eq_false, not_false_eq_true, hA, h0, h1, h5]
      refine br_of ?_ ?_ <;> intro hC
      · simp only [W_skip, W_ops, W_sops, W_seq, W_block, W_exit, W_ret, W_cond, U_seq, U_seq_exit, U_seq_ret, U_blk, U_blk_ret, U_blk_exit, again_exit', again_ret', again_normal', U_ret1, S_nil, S_gd, S_ld, S_lda, S_fld, S_len, S_ix, S_call, S_callv, S_func, S_move, S_assign, S_pick, S_bin, S_not, gdo_tt, gdo_ff, gdo_tf, gdo_ft, br_true, br_false, fin_val, ldV_ptr, ldaV_ptr, fldV_ptr, lenV_slice, not_bool, pick_true, pick_false, b_lss, b_leq, b_gtr, b_geq, b_eql, b_neq, b_add, b_sub, lift1_some, ev_tmp, ev_const, eput_app, eput_none, List.map_cons, List.map_nil, Nat.reduceEqDiff, Nat.succ_ne_self, Nat.reduceBEq, ↓reduceIte, reduceIte, decide_true, decide_false, Bool.not_true, Bool.not_false, if_true_left, Nat.one_ne_zero, Nat.zero_ne_one, not_true_eq_false, not_false_eq_true]
        have hlt : a.length < b.length := by simpa using hC
        rw [drop_cons hlt] at e1 e2
        refine ⟨⟨-1, rfl, ?_, ?_⟩, fr⟩
        · rw [e1]; simp [ltL]
        · rw [e2]; simp; omega
      · simp only [W_skip, W_ops, W_sops, W_seq, W_block, W_exit, W_ret, W_cond, U_seq, U_seq_exit, U_seq_ret, U_blk, U_blk_ret, U_blk_exit, again_exit', again_ret', again_normal', U_ret1, S_nil, S_gd, S_ld, S_lda, S_fld, S_len, S_ix, S_call, S_callv, S_func, S_move, S_assign, S_pick, S_bin, S_not, gdo_tt, gdo_ff, gdo_tf, gdo_ft, br_true, br_false, fin_val, ldV_ptr, ldaV_ptr, fldV_ptr, lenV_slice, not_bool, pick_true, pick_false, b_lss, b_leq, b_gtr, b_geq, b_eql, b_neq, b_add, b_sub, lift1_some, ev_tmp, ev_const, eput_app, eput_none, List.map_cons, List.map_nil, Nat.reduceEqDiff, Nat.succ_ne_self, Nat.reduceBEq, ↓reduceIte, reduceIte, decide_true, decide_false, Bool.not_true, Bool.not_false, if_true_left, Nat.one_ne_zero, Nat.zero_ne_one, not_true_eq_false, not_false_eq_true, h0, h1, h5]
        refine br_of ?_ ?_ <;> intro hD
        · simp at hD; omega
        · simp only [W_skip, W_ops, W_sops, W_seq, W_block, W_exit, W_ret, W_cond, U_seq, U_seq_exit, U_seq_ret, U_blk, U_blk_ret, U_blk_exit, again_exit', again_ret', again_normal', U_ret1, S_nil, S_gd, S_ld, S_lda, S_fld, S_len, S_ix, S_call, S_callv, S_func, S_move, S_assign, S_pick, S_bin, S_not, gdo_tt, gdo_ff, gdo_tf, gdo_ft, br_true, br_false, fin_val, ldV_ptr, ldaV_ptr, fldV_ptr, lenV_slice, not_bool, pick_true, pick_false, b_lss, b_leq, b_gtr, b_geq, b_eql, b_neq, b_add, b_sub, lift1_some, ev_tmp, ev_const, eput_app, eput_none, List.map_cons, List.map_nil, Nat.reduceEqDiff, Nat.succ_ne_self, Nat.reduceBEq, ↓reduceIte, reduceIte, decide_true, decide_false, Bool.not_true, Bool.not_false, if_true_left, Nat.one_ne_zero, Nat.zero_ne_one, not_true_eq_false, not_false_eq_true]
          have heq : b.drop a.length = [] := by simp at hC; rw [List.drop_eq_nil_iff]; omega
          rw [heq] at e1 e2
          refine ⟨⟨0, rfl, ?_, ?_⟩, fr⟩
          · rw [e1]; simp [ltL]
          · rw [e2]; simp
  · simp only [W_skip, W_ops, W_sops, W_seq, W_block, W_exit, W_ret, W_cond, U_seq, U_seq_exit, U_seq_ret, U_blk, U_blk_ret, U_blk_exit, again_exit', again_ret', again_normal', U_ret1, S_nil, S_gd, S_ld, S_lda, S_fld, S_len, S_ix, S_call, S_callv, S_func, S_move, S_assign, S_pick, S_bin, S_not, gdo_tt, gdo_ff, gdo_tf, gdo_ft, br_true, br_false, fin_val, ldV_ptr, ldaV_ptr, fldV_ptr, lenV_slice, not_bool, pick_true, pick_false, b_lss, b_leq, b_gtr, b_geq, b_eql, b_neq, b_add, b_sub, lift1_some, ev_tmp, ev_const, eput_app, eput_none, List.map_cons, List.map_nil, Nat.reduceEqDiff, Nat.succ_ne_self, Nat.reduceBEq, ↓reduceIte, reduceIte, decide_true, decide_false, Bool.not_true, Bool.not_false, if_true_left, Nat.one_ne_zero, Nat.zero_ne_one, not_true_eq_false, not_false_eq_true, f2_0, f2_1]
    simp [Fr.refl]

end Go.Proofs.YtcfjimhbachmlaaGreatDoor.E

/- Contracts: alternatives. -/
namespace Go.Proofs.YtcfjimhbachmlaaGreatDoor.E
open Go Go.Proofs
open Go.Proofs.YtcfjimhbachmlaaGreatDoor.L

/-- virgationref09.alternative -/
def c178 : C2 :=
  .seq (.ops [(some 6, none, .raw (.assign (.const (.bool false))))]) (
  .seq (.seq (.ops [(some 9, none, .raw (.move (.tmp 0))),
    (some 10, none, .len (.tmp 9)),
    (some 11, none, .raw (.move (.const (.int .i64 0))))]) (
  .block 0 (
    .loop (
      .seq (.ops [(some 12, none, .raw (.binOp .lss 3 (.tmp 11) (.tmp 10) 3))]) (
      .seq (.cond (.tmp 12) (
        .skip) (
        .exit 0)) (
      .seq (.block 1 (
        .seq (.ops [(some 13, none, .raw (.move (.tmp 11))),
          (some 14, none, .ix 2 (.tmp 9) (.tmp 11)),
          (some 15, none, .lda 2 (.tmp 14)),
          (some 8, none, .alloc 182 [.int .i64 0, .int .i64 0]),
          (some 7, none, .raw (.assign (.tmp 13))),
          (none, none, .st 2 (.tmp 8) (.tmp 15))]) (
        .seq (.sops 34 [(some 16, none, .fld 0 (.tmp 8)),
          (some 17, none, .ld (.tmp 16)),
          (some 18, none, .raw (.binOp .lss 3 (.tmp 17) (.const (.int .i64 0)) 3)),
          (some 19, none, .raw (.move (.tmp 18))),
          (some 20, some (19, false), .fld 0 (.tmp 8)),
          (some 21, some (19, false), .ld (.tmp 20)),
          (some 22, some (19, false), .raw (.move (.tmp 1))),
          (some 23, some (19, false), .raw (.binOp .geq 3 (.tmp 21) (.tmp 22) 3)),
          (some 24, none, .raw (.pick (.tmp 19) (.const (.bool true)) (.tmp 23))),
          (some 25, none, .raw (.move (.tmp 24))),
          (some 26, some (25, false), .fld 1 (.tmp 8)),
          (some 27, some (25, false), .ld (.tmp 26)),
          (some 28, some (25, false), .raw (.binOp .lss 3 (.tmp 27) (.const (.int .i64 0)) 3)),
          (some 29, none, .raw (.pick (.tmp 25) (.const (.bool true)) (.tmp 28))),
          (some 30, none, .raw (.move (.tmp 29))),
          (some 31, some (30, false), .fld 1 (.tmp 8)),
          (some 32, some (30, false), .ld (.tmp 31)),
          (some 33, some (30, false), .raw (.move (.tmp 2))),
          (some 34, some (30, false), .raw (.binOp .geq 3 (.tmp 32) (.tmp 33) 3)),
          (some 35, none, .raw (.pick (.tmp 30) (.const (.bool true)) (.tmp 34))),
          (some 36, none, .raw (.move (.tmp 35))),
          (some 37, some (36, false), .raw (.move (.tmp 7))),
          (some 38, some (36, false), .raw (.binOp .gtr 3 (.tmp 37) (.const (.int .i64 0)) 3)),
          (some 39, some (36, false), .raw (.move (.tmp 38))),
          (some 40, some (39, true), .raw (.move (.tmp 0))),
          (some 41, some (39, true), .raw (.move (.tmp 7))),
          (some 42, some (39, true), .raw (.binOp .sub 3 (.tmp 41) (.const (.int .i64 1)) 3)),
          (some 43, some (39, true), .ix 2 (.tmp 40) (.tmp 42)),
          (some 44, some (39, true), .lda 2 (.tmp 43)),
          (some 45, some (39, true), .lda 2 (.tmp 8)),
          (some 46, some (39, true), .call 204 [(.tmp 44), (.tmp 45)]),
          (some 47, some (39, true), .raw (.binOp .geq 3 (.tmp 46) (.const (.int .i64 0)) 3)),
          (some 48, some (36, false), .raw (.pick (.tmp 39) (.tmp 47) (.const (.bool false)))),
          (some 49, none, .raw (.pick (.tmp 36) (.const (.bool true)) (.tmp 48)))]) (
        .cond (.tmp 49) (
          .seq (.ops [(some 6, none, .raw (.assign (.const (.bool false))))]) (
          .ret)) (
          .skip))))) (
      .ops [(some 50, none, .raw (.binOp .add 3 (.tmp 11) (.const (.int .i64 1)) 3)),
        (some 11, none, .raw (.move (.tmp 50)))]))))))) (
  .seq (.ops [(some 6, none, .raw (.assign (.const (.bool true))))]) (
  .ret)))
theorem fc178 : facts 178 = some (c178, [.tmp 6], 51) := by kernel_rfl

theorem alternative178 {H : Heap} {v : Value} {l : List Nd} {r n : Int} (hv : IsAlt H.get v l) : SC Tryz.prog 178 #[v, .int .i64 r, .int .i64 n] H (fun v H' => v = .bool (altOK r n l) ∧ Fr H H') := by
  refine SC_of_W fc178 (by simp) fun hwf => ?_
  obtain ⟨p, c, rfl, hlen, hat⟩ := hv
  have kn := Kn.self hwf
  unfold c178
  simp only [W_skip, W_ops, W_sops, W_seq, W_block, W_exit, W_ret, W_cond, U_seq, U_seq_exit, U_seq_ret, U_blk, U_blk_ret, U_blk_exit, again_exit', again_ret', again_normal', U_ret1, S_nil, S_gd, S_ld, S_lda, S_fld, S_len, S_ix, S_call, S_callv, S_func, S_move, S_assign, S_pick, S_bin, S_not, gdo_tt, gdo_ff, gdo_tf, gdo_ft, br_true, br_false, fin_val, ldV_ptr, ldaV_ptr, fldV_ptr, lenV_slice, not_bool, pick_true, pick_false, b_lss, b_leq, b_gtr, b_geq, b_eql, b_neq, b_add, b_sub, lift1_some, ev_tmp, ev_const, eput_app, eput_none, List.map_cons, List.map_nil, Nat.reduceEqDiff, Nat.succ_ne_self, Nat.reduceBEq, ↓reduceIte, reduceIte, decide_true, decide_false, Bool.not_true, Bool.not_false, if_true_left, Nat.one_ne_zero, Nat.zero_ne_one, not_true_eq_false, not_false_eq_true, f3_0]
  refine W_loop (fun k g H1 => ∃ j, k = l.length - j ∧ j ≤ l.length ∧ g 0 = .slice p l.length c ∧ g 1 = .int .i64 r ∧ g 2 = .int .i64 n ∧ g 9 = .slice p l.length c ∧ g 10 = .int .i64 l.length ∧ g 11 = .int .i64 (j : Nat) ∧ Fr H H1 ∧ altOK r n (l.take j) = true) ?_ l.length ⟨0, ?_⟩
  · rintro k g H1 ⟨j, rfl, hj, h0, h1, h2, h9, h10, h11, fr, ok⟩
    have kn1 := kn.fr fr
    simp only [W_skip, W_ops, W_sops, W_seq, W_block, W_exit, W_ret, W_cond, U_seq, U_seq_exit, U_seq_ret, U_blk, U_blk_ret, U_blk_exit, again_exit', again_ret', again_normal', U_ret1, S_nil, S_gd, S_ld, S_lda, S_fld, S_len, S_ix, S_call, S_callv, S_func, S_move, S_assign, S_pick, S_bin, S_not, gdo_tt, gdo_ff, gdo_tf, gdo_ft, br_true, br_false, fin_val, ldV_ptr, ldaV_ptr, fldV_ptr, lenV_slice, not_bool, pick_true, pick_false, b_lss, b_leq, b_gtr, b_geq, b_eql, b_neq, b_add, b_sub, lift1_some, ev_tmp, ev_const, eput_app, eput_none, List.map_cons, List.map_nil, Nat.reduceEqDiff, Nat.succ_ne_self, Nat.reduceBEq, ↓reduceIte, reduceIte, decide_true, decide_false, Bool.not_true, Bool.not_false, if_true_left, Nat.one_ne_zero, Nat.zero_ne_one, not_true_eq_false, not_false_eq_true, h0, h1, h2, h9, h10, h11]
    refine br_of ?_ ?_ <;> intro hA
    · have hj' : j < l.length := by simpa using hA
      obtain ⟨b, cs, rfl, hs, hI⟩ := hat j l[j] (by simp [hj'])
      cases hI
      have hc := kn1.see2 hs
      simp only [W_skip, W_ops, W_sops, W_seq, W_block, W_exit, W_ret, W_cond, U_seq, U_seq_exit, U_seq_ret, U_blk, U_blk_ret, U_blk_exit, again_exit', again_ret', again_normal', U_ret1, S_nil, S_gd, S_ld, S_lda, S_fld, S_len, S_ix, S_call, S_callv, S_func, S_move, S_assign, S_pick, S_bin, S_not, gdo_tt, gdo_ff, gdo_tf, gdo_ft, br_true, br_false, fin_val, ldV_ptr, ldaV_ptr, fldV_ptr, lenV_slice, not_bool, pick_true, pick_false, b_lss, b_leq, b_gtr, b_geq, b_eql, b_neq, b_add, b_sub, lift1_some, ev_tmp, ev_const, eput_app, eput_none, List.map_cons, List.map_nil, Nat.reduceEqDiff, Nat.succ_ne_self, Nat.reduceBEq, ↓reduceIte, reduceIte, decide_true, decide_false, Bool.not_true, Bool.not_false, if_true_left, Nat.one_ne_zero, Nat.zero_ne_one, not_true_eq_false, not_false_eq_true, h0, h1, h2, h9, h10, h11, ixV_at hj', hc]
      refine S_alloc fun H2 f2 n2 g2 => ?_
      simp only [W_skip, W_ops, W_sops, W_seq, W_block, W_exit, W_ret, W_cond, U_seq, U_seq_exit, U_seq_ret, U_blk, U_blk_ret, U_blk_exit, again_exit', again_ret', again_normal', U_ret1, S_nil, S_gd, S_ld, S_lda, S_fld, S_len, S_ix, S_call, S_callv, S_func, S_move, S_assign, S_pick, S_bin, S_not, gdo_tt, gdo_ff, gdo_tf, gdo_ft, br_true, br_false, fin_val, ldV_ptr, ldaV_ptr, fldV_ptr, lenV_slice, not_bool, pick_true, pick_false, b_lss, b_leq, b_gtr, b_geq, b_eql, b_neq, b_add, b_sub, lift1_some, ev_tmp, ev_const, eput_app, eput_none, List.map_cons, List.map_nil, Nat.reduceEqDiff, Nat.succ_ne_self, Nat.reduceBEq, ↓reduceIte, reduceIte, decide_true, decide_false, Bool.not_true, Bool.not_false, if_true_left, Nat.one_ne_zero, Nat.zero_ne_one, not_true_eq_false, not_false_eq_true]
      refine S_store (id := H1.nxt) (off := 0) (by simp only [W_skip, W_ops, W_sops, W_seq, W_block, W_exit, W_ret, W_cond, U_seq, U_seq_exit, U_seq_ret, U_blk, U_blk_ret, U_blk_exit, again_exit', again_ret', again_normal', U_ret1, S_nil, S_gd, S_ld, S_lda, S_fld, S_len, S_ix, S_call, S_callv, S_func, S_move, S_assign, S_pick, S_bin, S_not, gdo_tt, gdo_ff, gdo_tf, gdo_ft, br_true, br_false, fin_val, ldV_ptr, ldaV_ptr, fldV_ptr, lenV_slice, not_bool, pick_true, pick_false, b_lss, b_leq, b_gtr, b_geq, b_eql, b_neq, b_add, b_sub, lift1_some, ev_tmp, ev_const, eput_app, eput_none, List.map_cons, List.map_nil, Nat.reduceEqDiff, Nat.succ_ne_self, Nat.reduceBEq, ↓reduceIte, reduceIte, decide_true, decide_false, Bool.not_true, Bool.not_false, if_true_left, Nat.one_ne_zero, Nat.zero_ne_one, not_true_eq_false, not_false_eq_true]) (by simp only [W_skip, W_ops, W_sops, W_seq, W_block, W_exit, W_ret, W_cond, U_seq, U_seq_exit, U_seq_ret, U_blk, U_blk_ret, U_blk_exit, again_exit', again_ret', again_normal', U_ret1, S_nil, S_gd, S_ld, S_lda, S_fld, S_len, S_ix, S_call, S_callv, S_func, S_move, S_assign, S_pick, S_bin, S_not, gdo_tt, gdo_ff, gdo_tf, gdo_ft, br_true, br_false, fin_val, ldV_ptr, ldaV_ptr, fldV_ptr, lenV_slice, not_bool, pick_true, pick_false, b_lss, b_leq, b_gtr, b_geq, b_eql, b_neq, b_add, b_sub, lift1_some, ev_tmp, ev_const, eput_app, eput_none, List.map_cons, List.map_nil, Nat.reduceEqDiff, Nat.succ_ne_self, Nat.reduceBEq, ↓reduceIte, reduceIte, decide_true, decide_false, Bool.not_true, Bool.not_false, if_true_left, Nat.one_ne_zero, Nat.zero_ne_one, not_true_eq_false, not_false_eq_true]; rfl) (by omega) g2 (by simp) (by simp) (by simp only [W_skip, W_ops, W_sops, W_seq, W_block, W_exit, W_ret, W_cond, U_seq, U_seq_exit, U_seq_ret, U_blk, U_blk_ret, U_blk_exit, again_exit', again_ret', again_normal', U_ret1, S_nil, S_gd, S_ld, S_lda, S_fld, S_len, S_ix, S_call, S_callv, S_func, S_move, S_assign, S_pick, S_bin, S_not, gdo_tt, gdo_ff, gdo_tf, gdo_ft, br_true, br_false, fin_val, ldV_ptr, ldaV_ptr, fldV_ptr, lenV_slice, not_bool, pick_true, pick_false, b_lss, b_leq, b_gtr, b_geq, b_eql, b_neq, b_add, b_sub, lift1_some, ev_tmp, ev_const, eput_app, eput_none, List.map_cons, List.map_nil, Nat.reduceEqDiff, Nat.succ_ne_self, Nat.reduceBEq, ↓reduceIte, reduceIte, decide_true, decide_false, Bool.not_true, Bool.not_false, if_true_left, Nat.one_ne_zero, Nat.zero_ne_one, not_true_eq_false, not_false_eq_true]; simp [Value.cells, Value.oneCell']) fun H3 n3 o3 g3 => ?_
      simp only [W_skip, W_ops, W_sops, W_seq, W_block, W_exit, W_ret, W_cond, U_seq, U_seq_exit, U_seq_ret, U_blk, U_blk_ret, U_blk_exit, again_exit', again_ret', again_normal', U_ret1, S_nil, S_gd, S_ld, S_lda, S_fld, S_len, S_ix, S_call, S_callv, S_func, S_move, S_assign, S_pick, S_bin, S_not, gdo_tt, gdo_ff, gdo_tf, gdo_ft, br_true, br_false, fin_val, ldV_ptr, ldaV_ptr, fldV_ptr, lenV_slice, not_bool, pick_true, pick_false, b_lss, b_leq, b_gtr, b_geq, b_eql, b_neq, b_add, b_sub, lift1_some, ev_tmp, ev_const, eput_app, eput_none, List.map_cons, List.map_nil, Nat.reduceEqDiff, Nat.succ_ne_self, Nat.reduceBEq, ↓reduceIte, reduceIte, decide_true, decide_false, Bool.not_true, Bool.not_false, if_true_left, Nat.one_ne_zero, Nat.zero_ne_one, not_true_eq_false, not_false_eq_true, Value.cells, putL] at g3 ⊢
      have fr3 : Fr H H3 := (fr.trans f2).upd fr.nxt n3 o3
      have p0 := own_cell (H := H3.reserve 34) 0 g3 rfl rfl
      have p1 := own_cell (H := H3.reserve 34) 1 g3 rfl rfl
      have pp := own_cells2 (H := H3.reserve 34) g3 rfl rfl
      have fr4 : Fr H (H3.reserve 34) := fr3.reserve 34
      have kn4 := kn.fr fr4
      have bad : ∀ t, inR r n l[j] = t → t = false → Value.bool false = .bool (altOK r n l) := fun t h1 h2 => by
        rw [altOK_stop hj' (by rw [h1, h2]; rfl)]
      have inr : inR r n l[j] = (decide (0 ≤ l[j].1) && decide (l[j].1 < r) && decide (0 ≤ l[j].2) && decide (l[j].2 < n)) := rfl
      simp only [W_skip, W_ops, W_sops, W_seq, W_block, W_exit, W_ret, W_cond, U_seq, U_seq_exit, U_seq_ret, U_blk, U_blk_ret, U_blk_exit, again_exit', again_ret', again_normal', U_ret1, S_nil, S_gd, S_ld, S_lda, S_fld, S_len, S_ix, S_call, S_callv, S_func, S_move, S_assign, S_pick, S_bin, S_not, gdo_tt, gdo_ff, gdo_tf, gdo_ft, br_true, br_false, fin_val, ldV_ptr, ldaV_ptr, fldV_ptr, lenV_slice, not_bool, pick_true, pick_false, b_lss, b_leq, b_gtr, b_geq, b_eql, b_neq, b_add, b_sub, lift1_some, ev_tmp, ev_const, eput_app, eput_none, List.map_cons, List.map_nil, Nat.reduceEqDiff, Nat.succ_ne_self, Nat.reduceBEq, ↓reduceIte, reduceIte, decide_true, decide_false, Bool.not_true, Bool.not_false, if_true_left, Nat.one_ne_zero, Nat.zero_ne_one, not_true_eq_false, not_false_eq_true, p0, own_add]
      refine gdo_of ?_ ?_ <;> intro hB
      · simp only [W_skip, W_ops, W_sops, W_seq, W_block, W_exit, W_ret, W_cond, U_seq, U_seq_exit, U_seq_ret, U_blk, U_blk_ret, U_blk_exit, again_exit', again_ret', again_normal', U_ret1, S_nil, S_gd, S_ld, S_lda, S_fld, S_len, S_ix, S_call, S_callv, S_func, S_move, S_assign, S_pick, S_bin, S_not, gdo_tt, gdo_ff, gdo_tf, gdo_ft, br_true, br_false, fin_val, ldV_ptr, ldaV_ptr, fldV_ptr, lenV_slice, not_bool, pick_true, pick_false, b_lss, b_leq, b_gtr, b_geq, b_eql, b_neq, b_add, b_sub, lift1_some, ev_tmp, ev_const, eput_app, eput_none, List.map_cons, List.map_nil, Nat.reduceEqDiff, Nat.succ_ne_self, Nat.reduceBEq, ↓reduceIte, reduceIte, decide_true, decide_false, Bool.not_true, Bool.not_false, if_true_left, Nat.one_ne_zero, Nat.zero_ne_one, not_true_eq_false, not_false_eq_true, hB]
        exact ⟨bad _ inr (by simp at hB; simp; omega), fr4⟩
      simp only [W_skip, W_ops, W_sops, W_seq, W_block, W_exit, W_ret, W_cond, U_seq, U_seq_exit, U_seq_ret, U_blk, U_blk_ret, U_blk_exit, again_exit', again_ret', again_normal', U_ret1, S_nil, S_gd, S_ld, S_lda, S_fld, S_len, S_ix, S_call, S_callv, S_func, S_move, S_assign, S_pick, S_bin, S_not, gdo_tt, gdo_ff, gdo_tf, gdo_ft, br_true, br_false, fin_val, ldV_ptr, ldaV_ptr, fldV_ptr, lenV_slice, not_bool, pick_true, pick_false, b_lss, b_leq, b_gtr, b_geq, b_eql, b_neq, b_add, b_sub, lift1_some, ev_tmp, ev_const, eput_app, eput_none, List.map_cons, List.map_nil, Nat.reduceEqDiff, Nat.succ_ne_self, Nat.reduceBEq, ↓reduceIte, reduceIte, decide_true, decide_false, Bool.not_true, Bool.not_false, if_true_left, Nat.one_ne_zero, Nat.zero_ne_one, not_true_eq_false, not_false_eq_true, hB, p0, h1, own_add]
      refine gdo_of ?_ ?_ <;> intro hC
      · simp only [W_skip, W_ops, W_sops, W_seq, W_block, W_exit, W_ret, W_cond, U_seq, U_seq_exit, U_seq_ret, U_blk, U_blk_ret, U_blk_exit, again_exit', again_ret', again_normal', U_ret1, S_nil, S_gd, S_ld, S_lda, S_fld, S_len, S_ix, S_call, S_callv, S_func, S_move, S_assign, S_pick, S_bin, S_not, gdo_tt, gdo_ff, gdo_tf, gdo_ft, br_true, br_false, fin_val, ldV_ptr, ldaV_ptr, fldV_ptr, lenV_slice, not_bool, pick_true, pick_false, b_lss, b_leq, b_gtr, b_geq, b_eql, b_neq, b_add, b_sub, lift1_some, ev_tmp, ev_const, eput_app, eput_none, List.map_cons, List.map_nil, Nat.reduceEqDiff, Nat.succ_ne_self, Nat.reduceBEq, ↓reduceIte, reduceIte, decide_true, decide_false, Bool.not_true, Bool.not_false, if_true_left, Nat.one_ne_zero, Nat.zero_ne_one, not_true_eq_false, not_false_eq_true, hC]
        exact ⟨bad _ inr (by simp at hC; simp; omega), fr4⟩
      simp only [W_skip, W_ops, W_sops, W_seq, W_block, W_exit, W_ret, W_cond, U_seq, U_seq_exit, U_seq_ret, U_blk, U_blk_ret, U_blk_exit, again_exit', again_ret', again_normal', U_ret1, S_nil, S_gd, S_ld, S_lda, S_fld, S_len, S_ix, S_call, S_callv, S_func, S_move, S_assign, S_pick, S_bin, S_not, gdo_tt, gdo_ff, gdo_tf, gdo_ft, br_true, br_false, fin_val, ldV_ptr, ldaV_ptr, fldV_ptr, lenV_slice, not_bool, pick_true, pick_false, b_lss, b_leq, b_gtr, b_geq, b_eql, b_neq, b_add, b_sub, lift1_some, ev_tmp, ev_const, eput_app, eput_none, List.map_cons, List.map_nil, Nat.reduceEqDiff, Nat.succ_ne_self, Nat.reduceBEq, ↓reduceIte, reduceIte, decide_true, decide_false, Bool.not_true, Bool.not_false, if_true_left, Nat.one_ne_zero, Nat.zero_ne_one, not_true_eq_false, not_false_eq_true, hC, p1, own_add]
      refine gdo_of ?_ ?_ <;> intro hD
      · simp only [W_skip, W_ops, W_sops, W_seq, W_block, W_exit, W_ret, W_cond, U_seq, U_seq_exit, U_seq_ret, U_blk, U_blk_ret, U_blk_exit, again_exit', again_ret', again_normal', U_ret1, S_nil, S_gd, S_ld, S_lda, S_fld, S_len, S_ix, S_call, S_callv, S_func, S_move, S_assign, S_pick, S_bin, S_not, gdo_tt, gdo_ff, gdo_tf, gdo_ft, br_true, br_false, fin_val, ldV_ptr, ldaV_ptr, fldV_ptr, lenV_slice, not_bool, pick_true, pick_false, b_lss, b_leq, b_gtr, b_geq, b_eql, b_neq, b_add, b_sub, lift1_some, ev_tmp, ev_const, eput_app, eput_none, List.map_cons, List.map_nil, Nat.reduceEqDiff, Nat.succ_ne_self, Nat.reduceBEq, ↓reduceIte, reduceIte, decide_true, decide_false, Bool.not_true, Bool.not_false, if_true_left, Nat.one_ne_zero, Nat.zero_ne_one, not_true_eq_false, not_false_eq_true, hD]
        exact ⟨bad _ inr (by simp at hD; simp; omega), fr4⟩
      simp only [W_skip, W_ops, W_sops, W_seq, W_block, W_exit, W_ret, W_cond, U_seq, U_seq_exit, U_seq_ret, U_blk, U_blk_ret, U_blk_exit, again_exit', again_ret', again_normal', U_ret1, S_nil, S_gd, S_ld, S_lda, S_fld, S_len, S_ix, S_call, S_callv, S_func, S_move, S_assign, S_pick, S_bin, S_not, gdo_tt, gdo_ff, gdo_tf, gdo_ft, br_true, br_false, fin_val, ldV_ptr, ldaV_ptr, fldV_ptr, lenV_slice, not_bool, pick_true, pick_false, b_lss, b_leq, b_gtr, b_geq, b_eql, b_neq, b_add, b_sub, lift1_some, ev_tmp, ev_const, eput_app, eput_none, List.map_cons, List.map_nil, Nat.reduceEqDiff, Nat.succ_ne_self, Nat.reduceBEq, ↓reduceIte, reduceIte, decide_true, decide_false, Bool.not_true, Bool.not_false, if_true_left, Nat.one_ne_zero, Nat.zero_ne_one, not_true_eq_false, not_false_eq_true, hD, p1, h2, own_add]
      refine gdo_of ?_ ?_ <;> intro hE
      · simp only [W_skip, W_ops, W_sops, W_seq, W_block, W_exit, W_ret, W_cond, U_seq, U_seq_exit, U_seq_ret, U_blk, U_blk_ret, U_blk_exit, again_exit', again_ret', again_normal', U_ret1, S_nil, S_gd, S_ld, S_lda, S_fld, S_len, S_ix, S_call, S_callv, S_func, S_move, S_assign, S_pick, S_bin, S_not, gdo_tt, gdo_ff, gdo_tf, gdo_ft, br_true, br_false, fin_val, ldV_ptr, ldaV_ptr, fldV_ptr, lenV_slice, not_bool, pick_true, pick_false, b_lss, b_leq, b_gtr, b_geq, b_eql, b_neq, b_add, b_sub, lift1_some, ev_tmp, ev_const, eput_app, eput_none, List.map_cons, List.map_nil, Nat.reduceEqDiff, Nat.succ_ne_self, Nat.reduceBEq, ↓reduceIte, reduceIte, decide_true, decide_false, Bool.not_true, Bool.not_false, if_true_left, Nat.one_ne_zero, Nat.zero_ne_one, not_true_eq_false, not_false_eq_true, hE]
        exact ⟨bad _ inr (by simp at hE; simp; omega), fr4⟩
      have hin : inR r n l[j] = true := by
        rw [inr]; simp at hB hC hD hE; simp; omega
      simp only [W_skip, W_ops, W_sops, W_seq, W_block, W_exit, W_ret, W_cond, U_seq, U_seq_exit, U_seq_ret, U_blk, U_blk_ret, U_blk_exit, again_exit', again_ret', again_normal', U_ret1, S_nil, S_gd, S_ld, S_lda, S_fld, S_len, S_ix, S_call, S_callv, S_func, S_move, S_assign, S_pick, S_bin, S_not, gdo_tt, gdo_ff, gdo_tf, gdo_ft, br_true, br_false, fin_val, ldV_ptr, ldaV_ptr, fldV_ptr, lenV_slice, not_bool, pick_true, pick_false, b_lss, b_leq, b_gtr, b_geq, b_eql, b_neq, b_add, b_sub, lift1_some, ev_tmp, ev_const, eput_app, eput_none, List.map_cons, List.map_nil, Nat.reduceEqDiff, Nat.succ_ne_self, Nat.reduceBEq, ↓reduceIte, reduceIte, decide_true, decide_false, Bool.not_true, Bool.not_false, if_true_left, Nat.one_ne_zero, Nat.zero_ne_one, not_true_eq_false, not_false_eq_true, hE]
      refine gdo_of ?_ ?_ <;> intro hF
      · have hj0 : 0 < j := by simpa using hF
        have hjp : j - 1 < l.length := by omega
        obtain ⟨b2, cs2, hb2, hs2, hI2⟩ := hat (j - 1) l[j - 1] (by simp [hjp])
        cases hb2; cases hI2
        have hc2 := kn4.see2 hs2
        simp only [W_skip, W_ops, W_sops, W_seq, W_block, W_exit, W_ret, W_cond, U_seq, U_seq_exit, U_seq_ret, U_blk, U_blk_ret, U_blk_exit, again_exit', again_ret', again_normal', U_ret1, S_nil, S_gd, S_ld, S_lda, S_fld, S_len, S_ix, S_call, S_callv, S_func, S_move, S_assign, S_pick, S_bin, S_not, gdo_tt, gdo_ff, gdo_tf, gdo_ft, br_true, br_false, fin_val, ldV_ptr, ldaV_ptr, fldV_ptr, lenV_slice, not_bool, pick_true, pick_false, b_lss, b_leq, b_gtr, b_geq, b_eql, b_neq, b_add, b_sub, lift1_some, ev_tmp, ev_const, eput_app, eput_none, List.map_cons, List.map_nil, Nat.reduceEqDiff, Nat.succ_ne_self, Nat.reduceBEq, ↓reduceIte, reduceIte, decide_true, decide_false, Bool.not_true, Bool.not_false, if_true_left, Nat.one_ne_zero, Nat.zero_ne_one, not_true_eq_false, not_false_eq_true, hF, h0, wrap_pred hj0 (by omega), ixV_at hjp, hc2, pp]
        refine call_then (before204 (a := l[j - 1]) (b := l[j])) ?_
        rintro _ H5 ⟨⟨q, rfl, hq⟩, f5⟩ wf5
        have fr5 := fr4.trans f5
        rw [cont_app]
        simp only [W_skip, W_ops, W_sops, W_seq, W_block, W_exit, W_ret, W_cond, U_seq, U_seq_exit, U_seq_ret, U_blk, U_blk_ret, U_blk_exit, again_exit', again_ret', again_normal', U_ret1, S_nil, S_gd, S_ld, S_lda, S_fld, S_len, S_ix, S_call, S_callv, S_func, S_move, S_assign, S_pick, S_bin, S_not, gdo_tt, gdo_ff, gdo_tf, gdo_ft, br_true, br_false, fin_val, ldV_ptr, ldaV_ptr, fldV_ptr, lenV_slice, not_bool, pick_true, pick_false, b_lss, b_leq, b_gtr, b_geq, b_eql, b_neq, b_add, b_sub, lift1_some, ev_tmp, ev_const, eput_app, eput_none, List.map_cons, List.map_nil, Nat.reduceEqDiff, Nat.succ_ne_self, Nat.reduceBEq, ↓reduceIte, reduceIte, decide_true, decide_false, Bool.not_true, Bool.not_false, if_true_left, Nat.one_ne_zero, Nat.zero_ne_one, not_true_eq_false, not_false_eq_true, hF]
        refine br_of ?_ ?_ <;> intro hG
        · simp only [W_skip, W_ops, W_sops, W_seq, W_block, W_exit, W_ret, W_cond, U_seq, U_seq_exit, U_seq_ret, U_blk, U_blk_ret, U_blk_exit, again_exit', again_ret', again_normal', U_ret1, S_nil, S_gd, S_ld, S_lda, S_fld, S_len, S_ix, S_call, S_callv, S_func, S_move, S_assign, S_pick, S_bin, S_not, gdo_tt, gdo_ff, gdo_tf, gdo_ft, br_true, br_false, fin_val, ldV_ptr, ldaV_ptr, fldV_ptr, lenV_slice, not_bool, pick_true, pick_false, b_lss, b_leq, b_gtr, b_geq, b_eql, b_neq, b_add, b_sub, lift1_some, ev_tmp, ev_const, eput_app, eput_none, List.map_cons, List.map_nil, Nat.reduceEqDiff, Nat.succ_ne_self, Nat.reduceBEq, ↓reduceIte, reduceIte, decide_true, decide_false, Bool.not_true, Bool.not_false, if_true_left, Nat.one_ne_zero, Nat.zero_ne_one, not_true_eq_false, not_false_eq_true]
          have : ltN l[j - 1] l[j] = false := by
            cases h : ltN l[j - 1] l[j] with
            | false => rfl
            | true => have := hq.1.2 h; simp at hG; omega
          refine ⟨?_, fr5⟩
          rw [altOK_stop hj' (by rw [hin, if_neg (by omega), this]; rfl)]
        · simp only [W_skip, W_ops, W_sops, W_seq, W_block, W_exit, W_ret, W_cond, U_seq, U_seq_exit, U_seq_ret, U_blk, U_blk_ret, U_blk_exit, again_exit', again_ret', again_normal', U_ret1, S_nil, S_gd, S_ld, S_lda, S_fld, S_len, S_ix, S_call, S_callv, S_func, S_move, S_assign, S_pick, S_bin, S_not, gdo_tt, gdo_ff, gdo_tf, gdo_ft, br_true, br_false, fin_val, ldV_ptr, ldaV_ptr, fldV_ptr, lenV_slice, not_bool, pick_true, pick_false, b_lss, b_leq, b_gtr, b_geq, b_eql, b_neq, b_add, b_sub, lift1_some, ev_tmp, ev_const, eput_app, eput_none, List.map_cons, List.map_nil, Nat.reduceEqDiff, Nat.succ_ne_self, Nat.reduceBEq, ↓reduceIte, reduceIte, decide_true, decide_false, Bool.not_true, Bool.not_false, if_true_left, Nat.one_ne_zero, Nat.zero_ne_one, not_true_eq_false, not_false_eq_true, h0, h1, h2, h9, h10, h11]
          refine ⟨l.length - (j + 1), by omega, j + 1, rfl, hj', trivial, trivial, trivial, trivial, trivial, by rw [wrap_succ (by omega)], fr5, ?_⟩
          rw [altOK_take hj', ok, hin, if_neg (by omega)]
          simp at hG
          rw [hq.1.1 hG]; rfl
      · have hj0 : j = 0 := by simp at hF; omega
        simp only [W_skip, W_ops, W_sops, W_seq, W_block, W_exit, W_ret, W_cond, U_seq, U_seq_exit, U_seq_ret, U_blk, U_blk_ret, U_blk_exit, again_exit', again_ret', again_normal', U_ret1, S_nil, S_gd, S_ld, S_lda, S_fld, S_len, S_ix, S_call, S_callv, S_func, S_move, S_assign, S_pick, S_bin, S_not, gdo_tt, gdo_ff, gdo_tf, gdo_ft, br_true, br_false, fin_val, ldV_ptr, ldaV_ptr, fldV_ptr, lenV_slice, not_bool, pick_true, pick_false, b_lss, b_leq, b_gtr, b_geq, b_eql, b_neq, b_add, b_sub, lift1_some, ev_tmp, ev_const, eput_app, eput_none, List.map_cons, List.map_nil, Nat.reduceEqDiff, Nat.succ_ne_self, Nat.reduceBEq, ↓reduceIte, reduceIte, decide_true, decide_false, Bool.not_true, Bool.not_false, if_true_left, Nat.one_ne_zero, Nat.zero_ne_one, not_true_eq_false, not_false_eq_true, hF, h0, h1, h2, h9, h10, h11]
        refine ⟨l.length - (j + 1), by omega, j + 1, rfl, hj', trivial, trivial, trivial, trivial, trivial, by rw [wrap_succ (by omega)], fr4, ?_⟩
        rw [altOK_take hj', ok, hin, if_pos hj0]
        rfl
    · have hj' : j = l.length := by simp at hA; omega
      subst hj'
      rw [List.take_length] at ok
      simp only [W_skip, W_ops, W_sops, W_seq, W_block, W_exit, W_ret, W_cond, U_seq, U_seq_exit, U_seq_ret, U_blk, U_blk_ret, U_blk_exit, again_exit', again_ret', again_normal', U_ret1, S_nil, S_gd, S_ld, S_lda, S_fld, S_len, S_ix, S_call, S_callv, S_func, S_move, S_assign, S_pick, S_bin, S_not, gdo_tt, gdo_ff, gdo_tf, gdo_ft, br_true, br_false, fin_val, ldV_ptr, ldaV_ptr, fldV_ptr, lenV_slice, not_bool, pick_true, pick_false, b_lss, b_leq, b_gtr, b_geq, b_eql, b_neq, b_add, b_sub, lift1_some, ev_tmp, ev_const, eput_app, eput_none, List.map_cons, List.map_nil, Nat.reduceEqDiff, Nat.succ_ne_self, Nat.reduceBEq, ↓reduceIte, reduceIte, decide_true, decide_false, Bool.not_true, Bool.not_false, if_true_left, Nat.one_ne_zero, Nat.zero_ne_one, not_true_eq_false, not_false_eq_true]
      exact ⟨by rw [ok], fr⟩
  · simp only [W_skip, W_ops, W_sops, W_seq, W_block, W_exit, W_ret, W_cond, U_seq, U_seq_exit, U_seq_ret, U_blk, U_blk_ret, U_blk_exit, again_exit', again_ret', again_normal', U_ret1, S_nil, S_gd, S_ld, S_lda, S_fld, S_len, S_ix, S_call, S_callv, S_func, S_move, S_assign, S_pick, S_bin, S_not, gdo_tt, gdo_ff, gdo_tf, gdo_ft, br_true, br_false, fin_val, ldV_ptr, ldaV_ptr, fldV_ptr, lenV_slice, not_bool, pick_true, pick_false, b_lss, b_leq, b_gtr, b_geq, b_eql, b_neq, b_add, b_sub, lift1_some, ev_tmp, ev_const, eput_app, eput_none, List.map_cons, List.map_nil, Nat.reduceEqDiff, Nat.succ_ne_self, Nat.reduceBEq, ↓reduceIte, reduceIte, decide_true, decide_false, Bool.not_true, Bool.not_false, if_true_left, Nat.one_ne_zero, Nat.zero_ne_one, not_true_eq_false, not_false_eq_true, f3_0, f3_1, f3_2]
    simp [Fr.refl, altOK, sorted]

end Go.Proofs.YtcfjimhbachmlaaGreatDoor.E

/- Contracts: lists of alternatives; automata. -/
namespace Go.Proofs.YtcfjimhbachmlaaGreatDoor.E
open Go Go.Proofs
open Go.Proofs.YtcfjimhbachmlaaGreatDoor.L

theorem altsOK_eq {r n : Int} {l : List (List Nd)} : altsOK r n l = (decide (l.length ≤ 12) && altsIn r n l) := by
  unfold altsOK altsIn
  rw [Bool.and_assoc]

/-- virgationref09.alternatives -/
def c114 : C2 :=
  .seq (.ops [(some 6, none, .raw (.assign (.const (.bool false))))]) (
  .seq (.seq (.ops [(some 9, none, .raw (.move (.tmp 0))),
    (some 10, none, .len (.tmp 9)),
    (some 11, none, .raw (.binOp .gtr 3 (.tmp 10) (.const (.int .i64 12)) 3))]) (
  .cond (.tmp 11) (
    .seq (.ops [(some 6, none, .raw (.assign (.const (.bool false))))]) (
    .ret)) (
    .skip))) (
  .seq (.seq (.ops [(some 12, none, .raw (.move (.tmp 0))),
    (some 13, none, .len (.tmp 12)),
    (some 14, none, .raw (.move (.const (.int .i64 0))))]) (
  .block 0 (
    .loop (
      .seq (.ops [(some 15, none, .raw (.binOp .lss 3 (.tmp 14) (.tmp 13) 3))]) (
      .seq (.cond (.tmp 15) (
        .skip) (
        .exit 0)) (
      .seq (.block 1 (
        .seq (.ops [(some 16, none, .raw (.move (.tmp 14))),
          (some 17, none, .ix 1 (.tmp 12) (.tmp 14)),
          (some 18, none, .ld (.tmp 17)),
          (some 7, none, .raw (.assign (.tmp 16))),
          (some 8, none, .raw (.assign (.tmp 18)))]) (
        .seq (.ops [(some 19, none, .raw (.move (.tmp 8))),
          (some 20, none, .raw (.move (.tmp 1))),
          (some 21, none, .raw (.move (.tmp 2))),
          (some 22, none, .call 178 [(.tmp 19), (.tmp 20), (.tmp 21)]),
          (some 23, none, .raw (.unOp .not 4 (.tmp 22))),
          (some 24, none, .raw (.move (.tmp 23))),
          (some 25, some (24, false), .raw (.move (.tmp 7))),
          (some 26, some (24, false), .raw (.binOp .gtr 3 (.tmp 25) (.const (.int .i64 0)) 3)),
          (some 27, some (24, false), .raw (.move (.tmp 26))),
          (some 28, some (27, true), .raw (.move (.tmp 0))),
          (some 29, some (27, true), .raw (.move (.tmp 7))),
          (some 30, some (27, true), .raw (.binOp .sub 3 (.tmp 29) (.const (.int .i64 1)) 3)),
          (some 31, some (27, true), .ix 1 (.tmp 28) (.tmp 30)),
          (some 32, some (27, true), .ld (.tmp 31)),
          (some 33, some (27, true), .raw (.move (.tmp 8))),
          (some 34, some (27, true), .call 143 [(.tmp 32), (.tmp 33)]),
          (some 35, some (27, true), .raw (.binOp .geq 3 (.tmp 34) (.const (.int .i64 0)) 3)),
          (some 36, some (24, false), .raw (.pick (.tmp 27) (.tmp 35) (.const (.bool false)))),
          (some 37, none, .raw (.pick (.tmp 24) (.const (.bool true)) (.tmp 36)))]) (
        .cond (.tmp 37) (
          .seq (.ops [(some 6, none, .raw (.assign (.const (.bool false))))]) (
          .ret)) (
          .skip))))) (
      .ops [(some 38, none, .raw (.binOp .add 3 (.tmp 14) (.const (.int .i64 1)) 3)),
        (some 14, none, .raw (.move (.tmp 38)))]))))))) (
  .seq (.ops [(some 6, none, .raw (.assign (.const (.bool true))))]) (
  .ret))))
theorem fc114 : facts 114 = some (c114, [.tmp 6], 39) := by kernel_rfl

theorem alternatives114 {H : Heap} {v : Value} {l : List (List Nd)} {r n : Int} (hv : IsAlts H.get v l) : SC Tryz.prog 114 #[v, .int .i64 r, .int .i64 n] H (fun v H' => v = .bool (altsOK r n l) ∧ Fr H H') := by
  refine SC_of_W fc114 (by simp) fun hwf => ?_
  have hv0 := hv
  obtain ⟨p, c, rfl, hlen, hat⟩ := hv
  have kn := Kn.self hwf
  unfold c114
  simp only [W_skip, W_ops, W_sops, W_seq, W_block, W_exit, W_ret, W_cond, U_seq, U_seq_exit, U_seq_ret, U_blk, U_blk_ret, U_blk_exit, again_exit', again_ret', again_normal', U_ret1, S_nil, S_gd, S_ld, S_lda, S_fld, S_len, S_ix, S_call, S_callv, S_func, S_move, S_assign, S_pick, S_bin, S_not, gdo_tt, gdo_ff, gdo_tf, gdo_ft, br_true, br_false, fin_val, ldV_ptr, ldaV_ptr, fldV_ptr, lenV_slice, not_bool, pick_true, pick_false, b_lss, b_leq, b_gtr, b_geq, b_eql, b_neq, b_add, b_sub, lift1_some, ev_tmp, ev_const, eput_app, eput_none, List.map_cons, List.map_nil, Nat.reduceEqDiff, Nat.succ_ne_self, Nat.reduceBEq, ↓reduceIte, reduceIte, decide_true, decide_false, Bool.not_true, Bool.not_false, if_true_left, Nat.one_ne_zero, Nat.zero_ne_one, not_true_eq_false, not_false_eq_true, f3_0]
  refine br_of ?_ ?_ <;> intro hL
  · simp only [W_skip, W_ops, W_sops, W_seq, W_block, W_exit, W_ret, W_cond, U_seq, U_seq_exit, U_seq_ret, U_blk, U_blk_ret, U_blk_exit, again_exit', again_ret', again_normal', U_ret1, S_nil, S_gd, S_ld, S_lda, S_fld, S_len, S_ix, S_call, S_callv, S_func, S_move, S_assign, S_pick, S_bin, S_not, gdo_tt, gdo_ff, gdo_tf, gdo_ft, br_true, br_false, fin_val, ldV_ptr, ldaV_ptr, fldV_ptr, lenV_slice, not_bool, pick_true, pick_false, b_lss, b_leq, b_gtr, b_geq, b_eql, b_neq, b_add, b_sub, lift1_some, ev_tmp, ev_const, eput_app, eput_none, List.map_cons, List.map_nil, Nat.reduceEqDiff, Nat.succ_ne_self, Nat.reduceBEq, ↓reduceIte, reduceIte, decide_true, decide_false, Bool.not_true, Bool.not_false, if_true_left, Nat.one_ne_zero, Nat.zero_ne_one, not_true_eq_false, not_false_eq_true]
    refine ⟨?_, Fr.refl _⟩
    rw [altsOK_eq]
    simp at hL; simp; omega
  simp only [W_skip, W_ops, W_sops, W_seq, W_block, W_exit, W_ret, W_cond, U_seq, U_seq_exit, U_seq_ret, U_blk, U_blk_ret, U_blk_exit, again_exit', again_ret', again_normal', U_ret1, S_nil, S_gd, S_ld, S_lda, S_fld, S_len, S_ix, S_call, S_callv, S_func, S_move, S_assign, S_pick, S_bin, S_not, gdo_tt, gdo_ff, gdo_tf, gdo_ft, br_true, br_false, fin_val, ldV_ptr, ldaV_ptr, fldV_ptr, lenV_slice, not_bool, pick_true, pick_false, b_lss, b_leq, b_gtr, b_geq, b_eql, b_neq, b_add, b_sub, lift1_some, ev_tmp, ev_const, eput_app, eput_none, List.map_cons, List.map_nil, Nat.reduceEqDiff, Nat.succ_ne_self, Nat.reduceBEq, ↓reduceIte, reduceIte, decide_true, decide_false, Bool.not_true, Bool.not_false, if_true_left, Nat.one_ne_zero, Nat.zero_ne_one, not_true_eq_false, not_false_eq_true, f3_0]
  have hlen12 : l.length ≤ 12 := by simp at hL; omega
  have eok : altsOK r n l = altsIn r n l := by rw [altsOK_eq]; simp [hlen12]
  rw [eok]
  refine W_loop (fun k g H1 => ∃ j, k = l.length - j ∧ j ≤ l.length ∧ g 0 = .slice p l.length c ∧ g 1 = .int .i64 r ∧ g 2 = .int .i64 n ∧ g 12 = .slice p l.length c ∧ g 13 = .int .i64 l.length ∧ g 14 = .int .i64 (j : Nat) ∧ Fr H H1 ∧ altsIn r n (l.take j) = true) ?_ l.length ⟨0, ?_⟩
  · rintro k g H1 ⟨j, rfl, hj, h0, h1, h2, h9, h10, h11, fr, ok⟩
    have kn1 := kn.fr fr
    simp only [W_skip, W_ops, W_sops, W_seq, W_block, W_exit, W_ret, W_cond, U_seq, U_seq_exit, U_seq_ret, U_blk, U_blk_ret, U_blk_exit, again_exit', again_ret', again_normal', U_ret1, S_nil, S_gd, S_ld, S_lda, S_fld, S_len, S_ix, S_call, S_callv, S_func, S_move, S_assign, S_pick, S_bin, S_not, gdo_tt, gdo_ff, gdo_tf, gdo_ft, br_true, br_false, fin_val, ldV_ptr, ldaV_ptr, fldV_ptr, lenV_slice, not_bool, pick_true, pick_false, b_lss, b_leq, b_gtr, b_geq, b_eql, b_neq, b_add, b_sub, lift1_some, ev_tmp, ev_const, eput_app, eput_none, List.map_cons, List.map_nil, Nat.reduceEqDiff, Nat.succ_ne_self, Nat.reduceBEq, ↓reduceIte, reduceIte, decide_true, decide_false, Bool.not_true, Bool.not_false, if_true_left, Nat.one_ne_zero, Nat.zero_ne_one, not_true_eq_false, not_false_eq_true, h0, h1, h2, h9, h10, h11]
    refine br_of ?_ ?_ <;> intro hA
    · have hj' : j < l.length := by simpa using hA
      obtain ⟨b, cs, rfl, hs, u, rfl, hI⟩ := hat j l[j] (by simp [hj'])
      have hc := kn1.see1 hs
      simp only [W_skip, W_ops, W_sops, W_seq, W_block, W_exit, W_ret, W_cond, U_seq, U_seq_exit, U_seq_ret, U_blk, U_blk_ret, U_blk_exit, again_exit', again_ret', again_normal', U_ret1, S_nil, S_gd, S_ld, S_lda, S_fld, S_len, S_ix, S_call, S_callv, S_func, S_move, S_assign, S_pick, S_bin, S_not, gdo_tt, gdo_ff, gdo_tf, gdo_ft, br_true, br_false, fin_val, ldV_ptr, ldaV_ptr, fldV_ptr, lenV_slice, not_bool, pick_true, pick_false, b_lss, b_leq, b_gtr, b_geq, b_eql, b_neq, b_add, b_sub, lift1_some, ev_tmp, ev_const, eput_app, eput_none, List.map_cons, List.map_nil, Nat.reduceEqDiff, Nat.succ_ne_self, Nat.reduceBEq, ↓reduceIte, reduceIte, decide_true, decide_false, Bool.not_true, Bool.not_false, if_true_left, Nat.one_ne_zero, Nat.zero_ne_one, not_true_eq_false, not_false_eq_true, h0, h1, h2, h9, h10, h11, ixV_at hj', hc]
      refine call_then (alternative178 (hI.mono (fr.sub hwf))) ?_
      rintro _ H2 ⟨rfl, f2⟩ wf2
      have fr2 := fr.trans f2
      rw [cont_app]
      have bad : (altOK r n l[j] && (if j = 0 then true else ltL l[j - 1] l[j])) = false → Value.bool false = .bool (altsIn r n l) := fun h1 => by
        rw [altsIn_stop hj' h1]
      cases hok : altOK r n l[j] with
      | false =>
        simp only [W_skip, W_ops, W_sops, W_seq, W_block, W_exit, W_ret, W_cond, U_seq, U_seq_exit, U_seq_ret, U_blk, U_blk_ret, U_blk_exit, again_exit', again_ret', again_normal', U_ret1, S_nil, S_gd, S_ld, S_lda, S_fld, S_len, S_ix, S_call, S_callv, S_func, S_move, S_assign, S_pick, S_bin, S_not, gdo_tt, gdo_ff, gdo_tf, gdo_ft, br_true, br_false, fin_val, ldV_ptr, ldaV_ptr, fldV_ptr, lenV_slice, not_bool, pick_true, pick_false, b_lss, b_leq, b_gtr, b_geq, b_eql, b_neq, b_add, b_sub, lift1_some, ev_tmp, ev_const, eput_app, eput_none, List.map_cons, List.map_nil, Nat.reduceEqDiff, Nat.succ_ne_self, Nat.reduceBEq, ↓reduceIte, reduceIte, decide_true, decide_false, Bool.not_true, Bool.not_false, if_true_left, Nat.one_ne_zero, Nat.zero_ne_one, not_true_eq_false, not_false_eq_true]
        exact ⟨bad (by rw [hok]; rfl), fr2⟩
      | true =>
        simp only [W_skip, W_ops, W_sops, W_seq, W_block, W_exit, W_ret, W_cond, U_seq, U_seq_exit, U_seq_ret, U_blk, U_blk_ret, U_blk_exit, again_exit', again_ret', again_normal', U_ret1, S_nil, S_gd, S_ld, S_lda, S_fld, S_len, S_ix, S_call, S_callv, S_func, S_move, S_assign, S_pick, S_bin, S_not, gdo_tt, gdo_ff, gdo_tf, gdo_ft, br_true, br_false, fin_val, ldV_ptr, ldaV_ptr, fldV_ptr, lenV_slice, not_bool, pick_true, pick_false, b_lss, b_leq, b_gtr, b_geq, b_eql, b_neq, b_add, b_sub, lift1_some, ev_tmp, ev_const, eput_app, eput_none, List.map_cons, List.map_nil, Nat.reduceEqDiff, Nat.succ_ne_self, Nat.reduceBEq, ↓reduceIte, reduceIte, decide_true, decide_false, Bool.not_true, Bool.not_false, if_true_left, Nat.one_ne_zero, Nat.zero_ne_one, not_true_eq_false, not_false_eq_true]
        refine gdo_of ?_ ?_ <;> intro hF
        · have hj0 : 0 < j := by simpa using hF
          have hjp : j - 1 < l.length := by omega
          obtain ⟨b2, cs2, hb2, hs2, u2, rfl, hI2⟩ := hat (j - 1) l[j - 1] (by simp [hjp])
          cases hb2
          have hc2 := (kn.fr fr2).see1 hs2
          simp only [W_skip, W_ops, W_sops, W_seq, W_block, W_exit, W_ret, W_cond, U_seq, U_seq_exit, U_seq_ret, U_blk, U_blk_ret, U_blk_exit, again_exit', again_ret', again_normal', U_ret1, S_nil, S_gd, S_ld, S_lda, S_fld, S_len, S_ix, S_call, S_callv, S_func, S_move, S_assign, S_pick, S_bin, S_not, gdo_tt, gdo_ff, gdo_tf, gdo_ft, br_true, br_false, fin_val, ldV_ptr, ldaV_ptr, fldV_ptr, lenV_slice, not_bool, pick_true, pick_false, b_lss, b_leq, b_gtr, b_geq, b_eql, b_neq, b_add, b_sub, lift1_some, ev_tmp, ev_const, eput_app, eput_none, List.map_cons, List.map_nil, Nat.reduceEqDiff, Nat.succ_ne_self, Nat.reduceBEq, ↓reduceIte, reduceIte, decide_true, decide_false, Bool.not_true, Bool.not_false, if_true_left, Nat.one_ne_zero, Nat.zero_ne_one, not_true_eq_false, not_false_eq_true, hF, h0, wrap_pred hj0 (by omega), ixV_at hjp, hc2]
          refine call_then (compare143 (hI2.mono (fr2.sub hwf)) (hI.mono (fr2.sub hwf))) ?_
          rintro _ H5 ⟨⟨q, rfl, hq⟩, f5⟩ wf5
          have fr5 := fr2.trans f5
          rw [cont_app]
          simp only [W_skip, W_ops, W_sops, W_seq, W_block, W_exit, W_ret, W_cond, U_seq, U_seq_exit, U_seq_ret, U_blk, U_blk_ret, U_blk_exit, again_exit', again_ret', again_normal', U_ret1, S_nil, S_gd, S_ld, S_lda, S_fld, S_len, S_ix, S_call, S_callv, S_func, S_move, S_assign, S_pick, S_bin, S_not, gdo_tt, gdo_ff, gdo_tf, gdo_ft, br_true, br_false, fin_val, ldV_ptr, ldaV_ptr, fldV_ptr, lenV_slice, not_bool, pick_true, pick_false, b_lss, b_leq, b_gtr, b_geq, b_eql, b_neq, b_add, b_sub, lift1_some, ev_tmp, ev_const, eput_app, eput_none, List.map_cons, List.map_nil, Nat.reduceEqDiff, Nat.succ_ne_self, Nat.reduceBEq, ↓reduceIte, reduceIte, decide_true, decide_false, Bool.not_true, Bool.not_false, if_true_left, Nat.one_ne_zero, Nat.zero_ne_one, not_true_eq_false, not_false_eq_true, hF]
          refine br_of ?_ ?_ <;> intro hG
          · simp only [W_skip, W_ops, W_sops, W_seq, W_block, W_exit, W_ret, W_cond, U_seq, U_seq_exit, U_seq_ret, U_blk, U_blk_ret, U_blk_exit, again_exit', again_ret', again_normal', U_ret1, S_nil, S_gd, S_ld, S_lda, S_fld, S_len, S_ix, S_call, S_callv, S_func, S_move, S_assign, S_pick, S_bin, S_not, gdo_tt, gdo_ff, gdo_tf, gdo_ft, br_true, br_false, fin_val, ldV_ptr, ldaV_ptr, fldV_ptr, lenV_slice, not_bool, pick_true, pick_false, b_lss, b_leq, b_gtr, b_geq, b_eql, b_neq, b_add, b_sub, lift1_some, ev_tmp, ev_const, eput_app, eput_none, List.map_cons, List.map_nil, Nat.reduceEqDiff, Nat.succ_ne_self, Nat.reduceBEq, ↓reduceIte, reduceIte, decide_true, decide_false, Bool.not_true, Bool.not_false, if_true_left, Nat.one_ne_zero, Nat.zero_ne_one, not_true_eq_false, not_false_eq_true]
            have : ltL l[j - 1] l[j] = false := by
              cases h : ltL l[j - 1] l[j] with
              | false => rfl
              | true => have := hq.1.2 h; simp at hG; omega
            exact ⟨bad (by rw [hok, if_neg (by omega), this]; rfl), fr5⟩
          · simp only [W_skip, W_ops, W_sops, W_seq, W_block, W_exit, W_ret, W_cond, U_seq, U_seq_exit, U_seq_ret, U_blk, U_blk_ret, U_blk_exit, again_exit', again_ret', again_normal', U_ret1, S_nil, S_gd, S_ld, S_lda, S_fld, S_len, S_ix, S_call, S_callv, S_func, S_move, S_assign, S_pick, S_bin, S_not, gdo_tt, gdo_ff, gdo_tf, gdo_ft, br_true, br_false, fin_val, ldV_ptr, ldaV_ptr, fldV_ptr, lenV_slice, not_bool, pick_true, pick_false, b_lss, b_leq, b_gtr, b_geq, b_eql, b_neq, b_add, b_sub, lift1_some, ev_tmp, ev_const, eput_app, eput_none, List.map_cons, List.map_nil, Nat.reduceEqDiff, Nat.succ_ne_self, Nat.reduceBEq, ↓reduceIte, reduceIte, decide_true, decide_false, Bool.not_true, Bool.not_false, if_true_left, Nat.one_ne_zero, Nat.zero_ne_one, not_true_eq_false, not_false_eq_true, h0, h1, h2, h9, h10, h11]
            refine ⟨l.length - (j + 1), by omega, j + 1, rfl, hj', trivial, trivial, trivial, trivial, trivial, by rw [wrap_succ (by omega)], fr5, ?_⟩
            rw [altsIn_take hj', ok, hok, if_neg (by omega)]
            simp at hG
            rw [hq.1.1 hG]; rfl
        · have hj0 : j = 0 := by simp at hF; omega
          simp only [W_skip, W_ops, W_sops, W_seq, W_block, W_exit, W_ret, W_cond, U_seq, U_seq_exit, U_seq_ret, U_blk, U_blk_ret, U_blk_exit, again_exit', again_ret', again_normal', U_ret1, S_nil, S_gd, S_ld, S_lda, S_fld, S_len, S_ix, S_call, S_callv, S_func, S_move, S_assign, S_pick, S_bin, S_not, gdo_tt, gdo_ff, gdo_tf, gdo_ft, br_true, br_false, fin_val, ldV_ptr, ldaV_ptr, fldV_ptr, lenV_slice, not_bool, pick_true, pick_false, b_lss, b_leq, b_gtr, b_geq, b_eql, b_neq, b_add, b_sub, lift1_some, ev_tmp, ev_const, eput_app, eput_none, List.map_cons, List.map_nil, Nat.reduceEqDiff, Nat.succ_ne_self, Nat.reduceBEq, ↓reduceIte, reduceIte, decide_true, decide_false, Bool.not_true, Bool.not_false, if_true_left, Nat.one_ne_zero, Nat.zero_ne_one, not_true_eq_false, not_false_eq_true, hF, h0, h1, h2, h9, h10, h11]
          refine ⟨l.length - (j + 1), by omega, j + 1, rfl, hj', trivial, trivial, trivial, trivial, trivial, by rw [wrap_succ (by omega)], fr2, ?_⟩
          rw [altsIn_take hj', ok, hok, if_pos hj0]
          rfl
    · have hj' : j = l.length := by simp at hA; omega
      subst hj'
      rw [List.take_length] at ok
      simp only [W_skip, W_ops, W_sops, W_seq, W_block, W_exit, W_ret, W_cond, U_seq, U_seq_exit, U_seq_ret, U_blk, U_blk_ret, U_blk_exit, again_exit', again_ret', again_normal', U_ret1, S_nil, S_gd, S_ld, S_lda, S_fld, S_len, S_ix, S_call, S_callv, S_func, S_move, S_assign, S_pick, S_bin, S_not, gdo_tt, gdo_ff, gdo_tf, gdo_ft, br_true, br_false, fin_val, ldV_ptr, ldaV_ptr, fldV_ptr, lenV_slice, not_bool, pick_true, pick_false, b_lss, b_leq, b_gtr, b_geq, b_eql, b_neq, b_add, b_sub, lift1_some, ev_tmp, ev_const, eput_app, eput_none, List.map_cons, List.map_nil, Nat.reduceEqDiff, Nat.succ_ne_self, Nat.reduceBEq, ↓reduceIte, reduceIte, decide_true, decide_false, Bool.not_true, Bool.not_false, if_true_left, Nat.one_ne_zero, Nat.zero_ne_one, not_true_eq_false, not_false_eq_true]
      exact ⟨by rw [ok], fr⟩
  · simp only [W_skip, W_ops, W_sops, W_seq, W_block, W_exit, W_ret, W_cond, U_seq, U_seq_exit, U_seq_ret, U_blk, U_blk_ret, U_blk_exit, again_exit', again_ret', again_normal', U_ret1, S_nil, S_gd, S_ld, S_lda, S_fld, S_len, S_ix, S_call, S_callv, S_func, S_move, S_assign, S_pick, S_bin, S_not, gdo_tt, gdo_ff, gdo_tf, gdo_ft, br_true, br_false, fin_val, ldV_ptr, ldaV_ptr, fldV_ptr, lenV_slice, not_bool, pick_true, pick_false, b_lss, b_leq, b_gtr, b_geq, b_eql, b_neq, b_add, b_sub, lift1_some, ev_tmp, ev_const, eput_app, eput_none, List.map_cons, List.map_nil, Nat.reduceEqDiff, Nat.succ_ne_self, Nat.reduceBEq, ↓reduceIte, reduceIte, decide_true, decide_false, Bool.not_true, Bool.not_false, if_true_left, Nat.one_ne_zero, Nat.zero_ne_one, not_true_eq_false, not_false_eq_true, f3_0, f3_1, f3_2]
    simp [Fr.refl, altsIn, sorted]

end Go.Proofs.YtcfjimhbachmlaaGreatDoor.E

/- Contracts: the reference's check of an automaton. -/
namespace Go.Proofs.YtcfjimhbachmlaaGreatDoor.E
open Go Go.Proofs
open Go.Proofs.YtcfjimhbachmlaaGreatDoor.L

/-- what a row is -/
def RowP (n : Int) (rs : List Int) (row : List (List (List Nd))) : Prop := row.length = rs.length ∧ ∀ (f : Nat) (r : Int) (x : List (List Nd)), rs[f]? = some r → row[f]? = some x → altsOK r n x = true

theorem rowOK_iff {n : Int} : ∀ {rs : List Int} {row : List (List (List Nd))}, rowOK n rs row = true ↔ RowP n rs row
  | [], [] => by simp [rowOK, RowP]
  | [], _ :: _ => by simp [rowOK, RowP]
  | _ :: _, [] => by simp [rowOK, RowP]
  | r :: rs, x :: xs => by
    simp only [rowOK, Bool.and_eq_true, rowOK_iff (rs := rs) (row := xs)]
    constructor
    · rintro ⟨h1, h2, h3⟩
      refine ⟨by simp [h2], fun f r' x' hr hx => ?_⟩
      cases f with
      | zero => simp at hr hx; subst hr; subst hx; exact h1
      | succ f => exact h3 f r' x' (by simpa using hr) (by simpa using hx)
    · rintro ⟨h1, h2⟩
      exact ⟨h2 0 r x rfl rfl, by simpa using h1, fun f r' x' hr hx => h2 (f + 1) r' x' (by simpa using hr) (by simpa using hx)⟩

theorem ok_iff {a : Au} : a.ok = true ↔ ranksOK a.ranks = true ∧ 1 ≤ a.moves.length ∧ a.moves.length ≤ 6 ∧ 0 ≤ a.start ∧ a.start < a.moves.length ∧ ∀ (q : Nat) (row : List (List (List Nd))), a.moves[q]? = some row → RowP a.moves.length a.ranks row := by
  simp only [Au.ok, Bool.and_eq_true, decide_eq_true_eq, List.all_eq_true, and_assoc]
  constructor
  · rintro ⟨h1, h2, h3, h4, h5, h6⟩
    exact ⟨h1, h2, h3, h4, h5, fun q row hq => rowOK_iff.1 (h6 row (List.mem_of_getElem? hq))⟩
  · rintro ⟨h1, h2, h3, h4, h5, h6⟩
    refine ⟨h1, h2, h3, h4, h5, fun row hr => ?_⟩
    obtain ⟨q, hq, rfl⟩ := List.getElem_of_mem hr
    exact rowOK_iff.2 (h6 q _ (by simp [hq]))

theorem not_ok {a : Au} (h : a.ok = true → False) : Value.bool false = .bool a.ok := by
  cases e : a.ok with
  | false => rfl
  | true => exact (h e).elim

/-- virgationref09.Is -/
def c58 : C2 :=
  .seq (.ops [(some 1, none, .raw (.box 29 (.tmp 0))),
    (some 2, none, .raw (.assign (.const (.bool false))))]) (
  .seq (.ops [(some 8, none, .fld 2 (.tmp 1)),
    (some 9, none, .ld (.tmp 8)),
    (some 10, none, .len (.tmp 9)),
    (some 3, none, .raw (.assign (.tmp 10)))]) (
  .seq (.seq (.ops [(some 11, none, .fld 0 (.tmp 1)),
    (some 12, none, .ld (.tmp 11)),
    (some 13, none, .call 113 [(.tmp 12)]),
    (some 14, none, .raw (.unOp .not 4 (.tmp 13))),
    (some 15, none, .raw (.move (.tmp 14))),
    (some 16, some (15, false), .raw (.move (.tmp 3))),
    (some 17, some (15, false), .raw (.binOp .lss 3 (.tmp 16) (.const (.int .i64 1)) 3)),
    (some 18, none, .raw (.pick (.tmp 15) (.const (.bool true)) (.tmp 17))),
    (some 19, none, .raw (.move (.tmp 18))),
    (some 20, some (19, false), .raw (.move (.tmp 3))),
    (some 21, some (19, false), .raw (.binOp .gtr 3 (.tmp 20) (.const (.int .i64 6)) 3)),
    (some 22, none, .raw (.pick (.tmp 19) (.const (.bool true)) (.tmp 21))),
    (some 23, none, .raw (.move (.tmp 22))),
    (some 24, some (23, false), .fld 1 (.tmp 1)),
    (some 25, some (23, false), .ld (.tmp 24)),
    (some 26, some (23, false), .raw (.binOp .lss 3 (.tmp 25) (.const (.int .i64 0)) 3)),
    (some 27, none, .raw (.pick (.tmp 23) (.const (.bool true)) (.tmp 26))),
    (some 28, none, .raw (.move (.tmp 27))),
    (some 29, some (28, false), .fld 1 (.tmp 1)),
    (some 30, some (28, false), .ld (.tmp 29)),
    (some 31, some (28, false), .raw (.move (.tmp 3))),
    (some 32, some (28, false), .raw (.binOp .geq 3 (.tmp 30) (.tmp 31) 3)),
    (some 33, none, .raw (.pick (.tmp 28) (.const (.bool true)) (.tmp 32)))]) (
  .cond (.tmp 33) (
    .seq (.ops [(some 2, none, .raw (.assign (.const (.bool false))))]) (
    .ret)) (
    .skip))) (
  .seq (.seq (.ops [(some 34, none, .fld 2 (.tmp 1)),
    (some 35, none, .ld (.tmp 34)),
    (some 36, none, .len (.tmp 35)),
    (some 37, none, .raw (.move (.const (.int .i64 0))))]) (
  .block 0 (
    .loop (
      .seq (.ops [(some 38, none, .raw (.binOp .lss 3 (.tmp 37) (.tmp 36) 3))]) (
      .seq (.cond (.tmp 38) (
        .skip) (
        .exit 0)) (
      .seq (.block 1 (
        .seq (.ops [(some 39, none, .ix 1 (.tmp 35) (.tmp 37)),
          (some 40, none, .ld (.tmp 39)),
          (some 5, none, .raw (.assign (.tmp 40)))]) (
        .seq (.seq (.ops [(some 41, none, .raw (.move (.tmp 5))),
          (some 42, none, .len (.tmp 41)),
          (some 43, none, .fld 0 (.tmp 1)),
          (some 44, none, .ld (.tmp 43)),
          (some 45, none, .len (.tmp 44)),
          (some 46, none, .raw (.binOp .neq 3 (.tmp 42) (.tmp 45) 3))]) (
        .cond (.tmp 46) (
          .seq (.ops [(some 2, none, .raw (.assign (.const (.bool false))))]) (
          .ret)) (
          .skip))) (
        .seq (.ops [(some 47, none, .raw (.move (.tmp 5))),
          (some 48, none, .len (.tmp 47)),
          (some 49, none, .raw (.move (.const (.int .i64 0))))]) (
        .block 2 (
          .loop (
            .seq (.ops [(some 50, none, .raw (.binOp .lss 3 (.tmp 49) (.tmp 48) 3))]) (
            .seq (.cond (.tmp 50) (
              .skip) (
              .exit 2)) (
            .seq (.block 3 (
              .seq (.ops [(some 51, none, .raw (.move (.tmp 49))),
                (some 52, none, .ix 1 (.tmp 47) (.tmp 49)),
                (some 53, none, .ld (.tmp 52)),
                (some 6, none, .raw (.assign (.tmp 51))),
                (some 7, none, .raw (.assign (.tmp 53)))]) (
              .seq (.ops [(some 54, none, .raw (.move (.tmp 7))),
                (some 55, none, .fld 0 (.tmp 1)),
                (some 56, none, .ld (.tmp 55)),
                (some 57, none, .raw (.move (.tmp 6))),
                (some 58, none, .ix 1 (.tmp 56) (.tmp 57)),
                (some 59, none, .ld (.tmp 58)),
                (some 60, none, .raw (.move (.tmp 3))),
                (some 61, none, .call 114 [(.tmp 54), (.tmp 59), (.tmp 60)]),
                (some 62, none, .raw (.unOp .not 4 (.tmp 61)))]) (
              .cond (.tmp 62) (
                .seq (.ops [(some 2, none, .raw (.assign (.const (.bool false))))]) (
                .ret)) (
                .skip))))) (
            .ops [(some 63, none, .raw (.binOp .add 3 (.tmp 49) (.const (.int .i64 1)) 3)),
              (some 49, none, .raw (.move (.tmp 63)))])))))))))) (
      .ops [(some 64, none, .raw (.binOp .add 3 (.tmp 37) (.const (.int .i64 1)) 3)),
        (some 37, none, .raw (.move (.tmp 64)))]))))))) (
  .seq (.ops [(some 2, none, .raw (.assign (.const (.bool true))))]) (
  .ret)))))
theorem fc58 : facts 58 = some (c58, [.tmp 2], 65) := by kernel_rfl

theorem is58 {H : Heap} {v : Value} {a : Au} (hv : IsAu H.get v a) : SC Tryz.prog 58 #[v] H (fun v H' => v = .bool a.ok ∧ Fr H H') := by
  refine SC_of_W fc58 (by simp) fun hwf => ?_
  obtain ⟨rv, mv, rfl, hr, hm⟩ := hv
  have hr0 := hr
  obtain ⟨pr, cr, rfl, hrlen, hrat⟩ := hr
  obtain ⟨pm, cm, rfl, hmlen, hmat⟩ := hm
  have kn := Kn.self hwf
  unfold c58
  simp only [W_skip, W_ops, W_sops, W_seq, W_block, W_exit, W_ret, W_cond, U_seq, U_seq_exit, U_seq_ret, U_blk, U_blk_ret, U_blk_exit, again_exit', again_ret', again_normal', U_ret1, S_nil, S_gd, S_ld, S_lda, S_fld, S_len, S_ix, S_call, S_callv, S_func, S_move, S_assign, S_pick, S_bin, S_not, gdo_tt, gdo_ff, gdo_tf, gdo_ft, br_true, br_false, fin_val, ldV_ptr, ldaV_ptr, fldV_ptr, lenV_slice, not_bool, pick_true, pick_false, b_lss, b_leq, b_gtr, b_geq, b_eql, b_neq, b_add, b_sub, lift1_some, ev_tmp, ev_const, eput_app, eput_none, List.map_cons, List.map_nil, Nat.reduceEqDiff, Nat.succ_ne_self, Nat.reduceBEq, ↓reduceIte, reduceIte, decide_true, decide_false, Bool.not_true, Bool.not_false, if_true_left, Nat.one_ne_zero, Nat.zero_ne_one, not_true_eq_false, not_false_eq_true, f1_0]
  refine S_box fun HB fB nB gB => ?_
  simp only [W_skip, W_ops, W_sops, W_seq, W_block, W_exit, W_ret, W_cond, U_seq, U_seq_exit, U_seq_ret, U_blk, U_blk_ret, U_blk_exit, again_exit', again_ret', again_normal', U_ret1, S_nil, S_gd, S_ld, S_lda, S_fld, S_len, S_ix, S_call, S_callv, S_func, S_move, S_assign, S_pick, S_bin, S_not, gdo_tt, gdo_ff, gdo_tf, gdo_ft, br_true, br_false, fin_val, ldV_ptr, ldaV_ptr, fldV_ptr, lenV_slice, not_bool, pick_true, pick_false, b_lss, b_leq, b_gtr, b_geq, b_eql, b_neq, b_add, b_sub, lift1_some, ev_tmp, ev_const, eput_app, eput_none, List.map_cons, List.map_nil, Nat.reduceEqDiff, Nat.succ_ne_self, Nat.reduceBEq, ↓reduceIte, reduceIte, decide_true, decide_false, Bool.not_true, Bool.not_false, if_true_left, Nat.one_ne_zero, Nat.zero_ne_one, not_true_eq_false, not_false_eq_true, f1_0, Value.cells, own_add] at gB ⊢
  have cells : ∀ H1, Fr HB H1 → H1.cell ⟨H.nxt, 0, none⟩ = some (.slice pr a.ranks.length cr) ∧ H1.cell ⟨H.nxt, 1, none⟩ = some (.int .i64 a.start) ∧ H1.cell ⟨H.nxt, 2, none⟩ = some (.slice pm a.moves.length cm) := fun H1 f1 => by
    have g1 : H1.get H.nxt = _ := (f1.old _ (by omega)).trans gB
    exact ⟨own_cell 0 g1 rfl rfl, own_cell 1 g1 rfl rfl, own_cell 2 g1 rfl rfl⟩
  obtain ⟨q0, q1, q2⟩ := cells HB (Fr.refl _)
  simp only [W_skip, W_ops, W_sops, W_seq, W_block, W_exit, W_ret, W_cond, U_seq, U_seq_exit, U_seq_ret, U_blk, U_blk_ret, U_blk_exit, again_exit', again_ret', again_normal', U_ret1, S_nil, S_gd, S_ld, S_lda, S_fld, S_len, S_ix, S_call, S_callv, S_func, S_move, S_assign, S_pick, S_bin, S_not, gdo_tt, gdo_ff, gdo_tf, gdo_ft, br_true, br_false, fin_val, ldV_ptr, ldaV_ptr, fldV_ptr, lenV_slice, not_bool, pick_true, pick_false, b_lss, b_leq, b_gtr, b_geq, b_eql, b_neq, b_add, b_sub, lift1_some, ev_tmp, ev_const, eput_app, eput_none, List.map_cons, List.map_nil, Nat.reduceEqDiff, Nat.succ_ne_self, Nat.reduceBEq, ↓reduceIte, reduceIte, decide_true, decide_false, Bool.not_true, Bool.not_false, if_true_left, Nat.one_ne_zero, Nat.zero_ne_one, not_true_eq_false, not_false_eq_true, q0, q1, q2, own_add]
  refine call_then (ranks113 (hr0.mono (fB.sub hwf))) ?_
  rintro _ H2 ⟨rfl, f2⟩ wf2
  have fr2 := fB.trans f2
  obtain ⟨q0, q1, q2⟩ := cells H2 f2
  rw [cont_app]
  cases hk : ranksOK a.ranks with
  | false =>
    simp only [W_skip, W_ops, W_sops, W_seq, W_block, W_exit, W_ret, W_cond, U_seq, U_seq_exit, U_seq_ret, U_blk, U_blk_ret, U_blk_exit, again_exit', again_ret', again_normal', U_ret1, S_nil, S_gd, S_ld, S_lda, S_fld, S_len, S_ix, S_call, S_callv, S_func, S_move, S_assign, S_pick, S_bin, S_not, gdo_tt, gdo_ff, gdo_tf, gdo_ft, br_true, br_false, fin_val, ldV_ptr, ldaV_ptr, fldV_ptr, lenV_slice, not_bool, pick_true, pick_false, b_lss, b_leq, b_gtr, b_geq, b_eql, b_neq, b_add, b_sub, lift1_some, ev_tmp, ev_const, eput_app, eput_none, List.map_cons, List.map_nil, Nat.reduceEqDiff, Nat.succ_ne_self, Nat.reduceBEq, ↓reduceIte, reduceIte, decide_true, decide_false, Bool.not_true, Bool.not_false, if_true_left, Nat.one_ne_zero, Nat.zero_ne_one, not_true_eq_false, not_false_eq_true]
    exact ⟨not_ok fun h => (by rw [(ok_iff.1 h).1] at hk; cases hk), fr2⟩
  | true =>
    simp only [W_skip, W_ops, W_sops, W_seq, W_block, W_exit, W_ret, W_cond, U_seq, U_seq_exit, U_seq_ret, U_blk, U_blk_ret, U_blk_exit, again_exit', again_ret', again_normal', U_ret1, S_nil, S_gd, S_ld, S_lda, S_fld, S_len, S_ix, S_call, S_callv, S_func, S_move, S_assign, S_pick, S_bin, S_not, gdo_tt, gdo_ff, gdo_tf, gdo_ft, br_true, br_false, fin_val, ldV_ptr, ldaV_ptr, fldV_ptr, lenV_slice, not_bool, pick_true, pick_false, b_lss, b_leq, b_gtr, b_geq, b_eql, b_neq, b_add, b_sub, lift1_some, ev_tmp, ev_const, eput_app, eput_none, List.map_cons, List.map_nil, Nat.reduceEqDiff, Nat.succ_ne_self, Nat.reduceBEq, ↓reduceIte, reduceIte, decide_true, decide_false, Bool.not_true, Bool.not_false, if_true_left, Nat.one_ne_zero, Nat.zero_ne_one, not_true_eq_false, not_false_eq_true]
    refine gdo_of ?_ ?_ <;> intro hA
    · simp only [W_skip, W_ops, W_sops, W_seq, W_block, W_exit, W_ret, W_cond, U_seq, U_seq_exit, U_seq_ret, U_blk, U_blk_ret, U_blk_exit, again_exit', again_ret', again_normal', U_ret1, S_nil, S_gd, S_ld, S_lda, S_fld, S_len, S_ix, S_call, S_callv, S_func, S_move, S_assign, S_pick, S_bin, S_not, gdo_tt, gdo_ff, gdo_tf, gdo_ft, br_true, br_false, fin_val, ldV_ptr, ldaV_ptr, fldV_ptr, lenV_slice, not_bool, pick_true, pick_false, b_lss, b_leq, b_gtr, b_geq, b_eql, b_neq, b_add, b_sub, lift1_some, ev_tmp, ev_const, eput_app, eput_none, List.map_cons, List.map_nil, Nat.reduceEqDiff, Nat.succ_ne_self, Nat.reduceBEq, ↓reduceIte, reduceIte, decide_true, decide_false, Bool.not_true, Bool.not_false, if_true_left, Nat.one_ne_zero, Nat.zero_ne_one, not_true_eq_false, not_false_eq_true, hA]
      exact ⟨not_ok fun h => (by have := (ok_iff.1 h).2.1; simp at hA; omega), fr2⟩
    simp only [W_skip, W_ops, W_sops, W_seq, W_block, W_exit, W_ret, W_cond, U_seq, U_seq_exit, U_seq_ret, U_blk, U_blk_ret, U_blk_exit, again_exit', again_ret', again_normal', U_ret1, S_nil, S_gd, S_ld, S_lda, S_fld, S_len, S_ix, S_call, S_callv, S_func, S_move, S_assign, S_pick, S_bin, S_not, gdo_tt, gdo_ff, gdo_tf, gdo_ft, br_true, br_false, fin_val, ldV_ptr, ldaV_ptr, fldV_ptr, lenV_slice, not_bool, pick_true, pick_false, b_lss, b_leq, b_gtr, b_geq, b_eql, b_neq, b_add, b_sub, lift1_some, ev_tmp, ev_const, eput_app, eput_none, List.map_cons, List.map_nil, Nat.reduceEqDiff, Nat.succ_ne_self, Nat.reduceBEq, ↓reduceIte, reduceIte, decide_true, decide_false, Bool.not_true, Bool.not_false, if_true_left, Nat.one_ne_zero, Nat.zero_ne_one, not_true_eq_false, not_false_eq_true, hA]
    refine gdo_of ?_ ?_ <;> intro hB
    · simp only [W_skip, W_ops, W_sops, W_seq, W_block, W_exit, W_ret, W_cond, U_seq, U_seq_exit, U_seq_ret, U_blk, U_blk_ret, U_blk_exit, again_exit', again_ret', again_normal', U_ret1, S_nil, S_gd, S_ld, S_lda, S_fld, S_len, S_ix, S_call, S_callv, S_func, S_move, S_assign, S_pick, S_bin, S_not, gdo_tt, gdo_ff, gdo_tf, gdo_ft, br_true, br_false, fin_val, ldV_ptr, ldaV_ptr, fldV_ptr, lenV_slice, not_bool, pick_true, pick_false, b_lss, b_leq, b_gtr, b_geq, b_eql, b_neq, b_add, b_sub, lift1_some, ev_tmp, ev_const, eput_app, eput_none, List.map_cons, List.map_nil, Nat.reduceEqDiff, Nat.succ_ne_self, Nat.reduceBEq, ↓reduceIte, reduceIte, decide_true, decide_false, Bool.not_true, Bool.not_false, if_true_left, Nat.one_ne_zero, Nat.zero_ne_one, not_true_eq_false, not_false_eq_true, hB]
      exact ⟨not_ok fun h => (by have := (ok_iff.1 h).2.2.1; simp at hB; omega), fr2⟩
    simp only [W_skip, W_ops, W_sops, W_seq, W_block, W_exit, W_ret, W_cond, U_seq, U_seq_exit, U_seq_ret, U_blk, U_blk_ret, U_blk_exit, again_exit', again_ret', again_normal', U_ret1, S_nil, S_gd, S_ld, S_lda, S_fld, S_len, S_ix, S_call, S_callv, S_func, S_move, S_assign, S_pick, S_bin, S_not, gdo_tt, gdo_ff, gdo_tf, gdo_ft, br_true, br_false, fin_val, ldV_ptr, ldaV_ptr, fldV_ptr, lenV_slice, not_bool, pick_true, pick_false, b_lss, b_leq, b_gtr, b_geq, b_eql, b_neq, b_add, b_sub, lift1_some, ev_tmp, ev_const, eput_app, eput_none, List.map_cons, List.map_nil, Nat.reduceEqDiff, Nat.succ_ne_self, Nat.reduceBEq, ↓reduceIte, reduceIte, decide_true, decide_false, Bool.not_true, Bool.not_false, if_true_left, Nat.one_ne_zero, Nat.zero_ne_one, not_true_eq_false, not_false_eq_true, hB, q0, q1, q2, own_add]
    refine gdo_of ?_ ?_ <;> intro hC
    · simp only [W_skip, W_ops, W_sops, W_seq, W_block, W_exit, W_ret, W_cond, U_seq, U_seq_exit, U_seq_ret, U_blk, U_blk_ret, U_blk_exit, again_exit', again_ret', again_normal', U_ret1, S_nil, S_gd, S_ld, S_lda, S_fld, S_len, S_ix, S_call, S_callv, S_func, S_move, S_assign, S_pick, S_bin, S_not, gdo_tt, gdo_ff, gdo_tf, gdo_ft, br_true, br_false, fin_val, ldV_ptr, ldaV_ptr, fldV_ptr, lenV_slice, not_bool, pick_true, pick_false, b_lss, b_leq, b_gtr, b_geq, b_eql, b_neq, b_add, b_sub, lift1_some, ev_tmp, ev_const, eput_app, eput_none, List.map_cons, List.map_nil, Nat.reduceEqDiff, Nat.succ_ne_self, Nat.reduceBEq, ↓reduceIte, reduceIte, decide_true, decide_false, Bool.not_true, Bool.not_false, if_true_left, Nat.one_ne_zero, Nat.zero_ne_one, not_true_eq_false, not_false_eq_true, hC]
      exact ⟨not_ok fun h => (by have := (ok_iff.1 h).2.2.2.1; simp at hC; omega), fr2⟩
    simp only [W_skip, W_ops, W_sops, W_seq, W_block, W_exit, W_ret, W_cond, U_seq, U_seq_exit, U_seq_ret, U_blk, U_blk_ret, U_blk_exit, again_exit', again_ret', again_normal', U_ret1, S_nil, S_gd, S_ld, S_lda, S_fld, S_len, S_ix, S_call, S_callv, S_func, S_move, S_assign, S_pick, S_bin, S_not, gdo_tt, gdo_ff, gdo_tf, gdo_ft, br_true, br_false, fin_val, ldV_ptr, ldaV_ptr, fldV_ptr, lenV_slice, not_bool, pick_true, pick_false, b_lss, b_leq, b_gtr, b_geq, b_eql, b_neq, b_add, b_sub, lift1_some, ev_tmp, ev_const, eput_app, eput_none, List.map_cons, List.map_nil, Nat.reduceEqDiff, Nat.succ_ne_self, Nat.reduceBEq, ↓reduceIte, reduceIte, decide_true, decide_false, Bool.not_true, Bool.not_false, if_true_left, Nat.one_ne_zero, Nat.zero_ne_one, not_true_eq_false, not_false_eq_true, hC, q0, q1, q2, own_add]
    refine br_of ?_ ?_ <;> intro hD
    · simp only [W_skip, W_ops, W_sops, W_seq, W_block, W_exit, W_ret, W_cond, U_seq, U_seq_exit, U_seq_ret, U_blk, U_blk_ret, U_blk_exit, again_exit', again_ret', again_normal', U_ret1, S_nil, S_gd, S_ld, S_lda, S_fld, S_len, S_ix, S_call, S_callv, S_func, S_move, S_assign, S_pick, S_bin, S_not, gdo_tt, gdo_ff, gdo_tf, gdo_ft, br_true, br_false, fin_val, ldV_ptr, ldaV_ptr, fldV_ptr, lenV_slice, not_bool, pick_true, pick_false, b_lss, b_leq, b_gtr, b_geq, b_eql, b_neq, b_add, b_sub, lift1_some, ev_tmp, ev_const, eput_app, eput_none, List.map_cons, List.map_nil, Nat.reduceEqDiff, Nat.succ_ne_self, Nat.reduceBEq, ↓reduceIte, reduceIte, decide_true, decide_false, Bool.not_true, Bool.not_false, if_true_left, Nat.one_ne_zero, Nat.zero_ne_one, not_true_eq_false, not_false_eq_true]
      exact ⟨not_ok fun h => (by have := (ok_iff.1 h).2.2.2.2.1; simp at hD; omega), fr2⟩
    simp only [W_skip, W_ops, W_sops, W_seq, W_block, W_exit, W_ret, W_cond, U_seq, U_seq_exit, U_seq_ret, U_blk, U_blk_ret, U_blk_exit, again_exit', again_ret', again_normal', U_ret1, S_nil, S_gd, S_ld, S_lda, S_fld, S_len, S_ix, S_call, S_callv, S_func, S_move, S_assign, S_pick, S_bin, S_not, gdo_tt, gdo_ff, gdo_tf, gdo_ft, br_true, br_false, fin_val, ldV_ptr, ldaV_ptr, fldV_ptr, lenV_slice, not_bool, pick_true, pick_false, b_lss, b_leq, b_gtr, b_geq, b_eql, b_neq, b_add, b_sub, lift1_some, ev_tmp, ev_const, eput_app, eput_none, List.map_cons, List.map_nil, Nat.reduceEqDiff, Nat.succ_ne_self, Nat.reduceBEq, ↓reduceIte, reduceIte, decide_true, decide_false, Bool.not_true, Bool.not_false, if_true_left, Nat.one_ne_zero, Nat.zero_ne_one, not_true_eq_false, not_false_eq_true, hD, q0, q1, q2, own_add]
    simp at hA hB hC hD
    refine W_loop (fun k g H1 => ∃ j, k = a.moves.length - j ∧ j ≤ a.moves.length ∧ g 1 = .pointer (some ⟨H.nxt, 0, none⟩) ∧ g 3 = .int .i64 a.moves.length ∧ g 35 = .slice pm a.moves.length cm ∧ g 36 = .int .i64 a.moves.length ∧ g 37 = .int .i64 (j : Nat) ∧ Fr HB H1 ∧
      ∀ (q : Nat) (row : List (List (List Nd))), q < j → a.moves[q]? = some row → RowP a.moves.length a.ranks row) ?_ a.moves.length ⟨0, ?_⟩
    · rintro k g H1 ⟨j, rfl, hj, h1, h3, h35, h36, h37, fr, ok⟩
      have frH := fB.trans fr
      have kn1 := kn.fr frH
      obtain ⟨q0, q1, q2⟩ := cells H1 fr
      simp only [W_skip, W_ops, W_sops, W_seq, W_block, W_exit, W_ret, W_cond, U_seq, U_seq_exit, U_seq_ret, U_blk, U_blk_ret, U_blk_exit, again_exit', again_ret', again_normal', U_ret1, S_nil, S_gd, S_ld, S_lda, S_fld, S_len, S_ix, S_call, S_callv, S_func, S_move, S_assign, S_pick, S_bin, S_not, gdo_tt, gdo_ff, gdo_tf, gdo_ft, br_true, br_false, fin_val, ldV_ptr, ldaV_ptr, fldV_ptr, lenV_slice, not_bool, pick_true, pick_false, b_lss, b_leq, b_gtr, b_geq, b_eql, b_neq, b_add, b_sub, lift1_some, ev_tmp, ev_const, eput_app, eput_none, List.map_cons, List.map_nil, Nat.reduceEqDiff, Nat.succ_ne_self, Nat.reduceBEq, ↓reduceIte, reduceIte, decide_true, decide_false, Bool.not_true, Bool.not_false, if_true_left, Nat.one_ne_zero, Nat.zero_ne_one, not_true_eq_false, not_false_eq_true, h1, h3, h35, h36, h37]
      refine br_of ?_ ?_ <;> intro hE
      · have hj' : j < a.moves.length := by simpa using hE
        obtain ⟨b, cs, rfl, hs, u, rfl, hI⟩ := hmat j a.moves[j] (by simp [hj'])
        have hI0 := hI
        obtain ⟨pw, cw, rfl, hwlen, hwat⟩ := hI
        have hc := kn1.see1 hs
        simp only [W_skip, W_ops, W_sops, W_seq, W_block, W_exit, W_ret, W_cond, U_seq, U_seq_exit, U_seq_ret, U_blk, U_blk_ret, U_blk_exit, again_exit', again_ret', again_normal', U_ret1, S_nil, S_gd, S_ld, S_lda, S_fld, S_len, S_ix, S_call, S_callv, S_func, S_move, S_assign, S_pick, S_bin, S_not, gdo_tt, gdo_ff, gdo_tf, gdo_ft, br_true, br_false, fin_val, ldV_ptr, ldaV_ptr, fldV_ptr, lenV_slice, not_bool, pick_true, pick_false, b_lss, b_leq, b_gtr, b_geq, b_eql, b_neq, b_add, b_sub, lift1_some, ev_tmp, ev_const, eput_app, eput_none, List.map_cons, List.map_nil, Nat.reduceEqDiff, Nat.succ_ne_self, Nat.reduceBEq, ↓reduceIte, reduceIte, decide_true, decide_false, Bool.not_true, Bool.not_false, if_true_left, Nat.one_ne_zero, Nat.zero_ne_one, not_true_eq_false, not_false_eq_true, h1, h3, h35, h36, h37, ixV_at hj', hc, q0, own_add]
        refine br_of ?_ ?_ <;> intro hF
        · simp only [W_skip, W_ops, W_sops, W_seq, W_block, W_exit, W_ret, W_cond, U_seq, U_seq_exit, U_seq_ret, U_blk, U_blk_ret, U_blk_exit, again_exit', again_ret', again_normal', U_ret1, S_nil, S_gd, S_ld, S_lda, S_fld, S_len, S_ix, S_call, S_callv, S_func, S_move, S_assign, S_pick, S_bin, S_not, gdo_tt, gdo_ff, gdo_tf, gdo_ft, br_true, br_false, fin_val, ldV_ptr, ldaV_ptr, fldV_ptr, lenV_slice, not_bool, pick_true, pick_false, b_lss, b_leq, b_gtr, b_geq, b_eql, b_neq, b_add, b_sub, lift1_some, ev_tmp, ev_const, eput_app, eput_none, List.map_cons, List.map_nil, Nat.reduceEqDiff, Nat.succ_ne_self, Nat.reduceBEq, ↓reduceIte, reduceIte, decide_true, decide_false, Bool.not_true, Bool.not_false, if_true_left, Nat.one_ne_zero, Nat.zero_ne_one, not_true_eq_false, not_false_eq_true]
          exact ⟨not_ok fun h => (by have := ((ok_iff.1 h).2.2.2.2.2 j a.moves[j] (by simp [hj'])).1; simp at hF; omega), frH⟩
        have hrow : a.moves[j].length = a.ranks.length := by simp at hF; omega
        simp only [W_skip, W_ops, W_sops, W_seq, W_block, W_exit, W_ret, W_cond, U_seq, U_seq_exit, U_seq_ret, U_blk, U_blk_ret, U_blk_exit, again_exit', again_ret', again_normal', U_ret1, S_nil, S_gd, S_ld, S_lda, S_fld, S_len, S_ix, S_call, S_callv, S_func, S_move, S_assign, S_pick, S_bin, S_not, gdo_tt, gdo_ff, gdo_tf, gdo_ft, br_true, br_false, fin_val, ldV_ptr, ldaV_ptr, fldV_ptr, lenV_slice, not_bool, pick_true, pick_false, b_lss, b_leq, b_gtr, b_geq, b_eql, b_neq, b_add, b_sub, lift1_some, ev_tmp, ev_const, eput_app, eput_none, List.map_cons, List.map_nil, Nat.reduceEqDiff, Nat.succ_ne_self, Nat.reduceBEq, ↓reduceIte, reduceIte, decide_true, decide_false, Bool.not_true, Bool.not_false, if_true_left, Nat.one_ne_zero, Nat.zero_ne_one, not_true_eq_false, not_false_eq_true, h1, h3, h35, h36, h37]
        refine W_loop (fun k' g H1 => ∃ i, k' = a.ranks.length - i ∧ i ≤ a.ranks.length ∧ g 1 = .pointer (some ⟨H.nxt, 0, none⟩) ∧ g 3 = .int .i64 a.moves.length ∧ g 35 = .slice (some b) a.moves.length cm ∧ g 36 = .int .i64 a.moves.length ∧ g 37 = .int .i64 (j : Nat) ∧ g 47 = .slice pw a.moves[j].length cw ∧ g 48 = .int .i64 a.ranks.length ∧ g 49 = .int .i64 (i : Nat) ∧ Fr HB H1 ∧
          ∀ (f : Nat) (r : Int) (x : List (List Nd)), f < i → a.ranks[f]? = some r → a.moves[j][f]? = some x → altsOK r a.moves.length x = true) ?_ a.ranks.length ⟨0, ?_⟩
        · rintro k' g H1 ⟨i, rfl, hi, h1, h3, h35, h36, h37, h47, h48, h49, fr, ok2⟩
          have frH := fB.trans fr
          have kn1 := kn.fr frH
          obtain ⟨q0, q1, q2⟩ := cells H1 fr
          simp only [W_skip, W_ops, W_sops, W_seq, W_block, W_exit, W_ret, W_cond, U_seq, U_seq_exit, U_seq_ret, U_blk, U_blk_ret, U_blk_exit, again_exit', again_ret', again_normal', U_ret1, S_nil, S_gd, S_ld, S_lda, S_fld, S_len, S_ix, S_call, S_callv, S_func, S_move, S_assign, S_pick, S_bin, S_not, gdo_tt, gdo_ff, gdo_tf, gdo_ft, br_true, br_false, fin_val, ldV_ptr, ldaV_ptr, fldV_ptr, lenV_slice, not_bool, pick_true, pick_false, b_lss, b_leq, b_gtr, b_geq, b_eql, b_neq, b_add, b_sub, lift1_some, ev_tmp, ev_const, eput_app, eput_none, List.map_cons, List.map_nil, Nat.reduceEqDiff, Nat.succ_ne_self, Nat.reduceBEq, ↓reduceIte, reduceIte, decide_true, decide_false, Bool.not_true, Bool.not_false, if_true_left, Nat.one_ne_zero, Nat.zero_ne_one, not_true_eq_false, not_false_eq_true, h1, h3, h35, h36, h37, h47, h48, h49]
          refine br_of ?_ ?_ <;> intro hG
          · have hi' : i < a.ranks.length := by simpa using hG
            have hi2 : i < a.moves[j].length := by omega
            obtain ⟨b2, cs2, rfl, hs2, u2, rfl, hI2⟩ := hwat i a.moves[j][i] (by simp [hi2])
            obtain ⟨b3, cs3, rfl, hs3, hI3⟩ := hrat i a.ranks[i] (by simp [hi'])
            cases hI3
            have hc2 := kn1.see1 hs2
            have hc3 := kn1.see1 hs3
            simp only [W_skip, W_ops, W_sops, W_seq, W_block, W_exit, W_ret, W_cond, U_seq, U_seq_exit, U_seq_ret, U_blk, U_blk_ret, U_blk_exit, again_exit', again_ret', again_normal', U_ret1, S_nil, S_gd, S_ld, S_lda, S_fld, S_len, S_ix, S_call, S_callv, S_func, S_move, S_assign, S_pick, S_bin, S_not, gdo_tt, gdo_ff, gdo_tf, gdo_ft, br_true, br_false, fin_val, ldV_ptr, ldaV_ptr, fldV_ptr, lenV_slice, not_bool, pick_true, pick_false, b_lss, b_leq, b_gtr, b_geq, b_eql, b_neq, b_add, b_sub, lift1_some, ev_tmp, ev_const, eput_app, eput_none, List.map_cons, List.map_nil, Nat.reduceEqDiff, Nat.succ_ne_self, Nat.reduceBEq, ↓reduceIte, reduceIte, decide_true, decide_false, Bool.not_true, Bool.not_false, if_true_left, Nat.one_ne_zero, Nat.zero_ne_one, not_true_eq_false, not_false_eq_true, h1, h3, h35, h36, h37, h47, h48, h49, ixV_at hi2, ixV_at hi', hc2, hc3, q0, own_add]
            refine call_then (alternatives114 (hI2.mono (frH.sub hwf))) ?_
            rintro _ H5 ⟨rfl, f5⟩ wf5
            have fr5 := fr.trans f5
            rw [cont_app]
            cases hal : altsOK a.ranks[i] a.moves.length a.moves[j][i] with
            | false =>
              simp only [W_skip, W_ops, W_sops, W_seq, W_block, W_exit, W_ret, W_cond, U_seq, U_seq_exit, U_seq_ret, U_blk, U_blk_ret, U_blk_exit, again_exit', again_ret', again_normal', U_ret1, S_nil, S_gd, S_ld, S_lda, S_fld, S_len, S_ix, S_call, S_callv, S_func, S_move, S_assign, S_pick, S_bin, S_not, gdo_tt, gdo_ff, gdo_tf, gdo_ft, br_true, br_false, fin_val, ldV_ptr, ldaV_ptr, fldV_ptr, lenV_slice, not_bool, pick_true, pick_false, b_lss, b_leq, b_gtr, b_geq, b_eql, b_neq, b_add, b_sub, lift1_some, ev_tmp, ev_const, eput_app, eput_none, List.map_cons, List.map_nil, Nat.reduceEqDiff, Nat.succ_ne_self, Nat.reduceBEq, ↓reduceIte, reduceIte, decide_true, decide_false, Bool.not_true, Bool.not_false, if_true_left, Nat.one_ne_zero, Nat.zero_ne_one, not_true_eq_false, not_false_eq_true]
              exact ⟨not_ok fun h => (by rw [((ok_iff.1 h).2.2.2.2.2 j a.moves[j] (by simp [hj'])).2 i a.ranks[i] a.moves[j][i] (by simp [hi']) (by simp [hi2])] at hal; cases hal), fB.trans fr5⟩
            | true =>
              simp only [W_skip, W_ops, W_sops, W_seq, W_block, W_exit, W_ret, W_cond, U_seq, U_seq_exit, U_seq_ret, U_blk, U_blk_ret, U_blk_exit, again_exit', again_ret', again_normal', U_ret1, S_nil, S_gd, S_ld, S_lda, S_fld, S_len, S_ix, S_call, S_callv, S_func, S_move, S_assign, S_pick, S_bin, S_not, gdo_tt, gdo_ff, gdo_tf, gdo_ft, br_true, br_false, fin_val, ldV_ptr, ldaV_ptr, fldV_ptr, lenV_slice, not_bool, pick_true, pick_false, b_lss, b_leq, b_gtr, b_geq, b_eql, b_neq, b_add, b_sub, lift1_some, ev_tmp, ev_const, eput_app, eput_none, List.map_cons, List.map_nil, Nat.reduceEqDiff, Nat.succ_ne_self, Nat.reduceBEq, ↓reduceIte, reduceIte, decide_true, decide_false, Bool.not_true, Bool.not_false, if_true_left, Nat.one_ne_zero, Nat.zero_ne_one, not_true_eq_false, not_false_eq_true, h1, h3, h35, h36, h37, h47, h48, h49]
              refine ⟨a.ranks.length - (i + 1), by omega, i + 1, rfl, hi', trivial, trivial, trivial, trivial, trivial, trivial, trivial, by rw [wrap_succ (by omega)], fr5, fun f r x hf hr hx => ?_⟩
              by_cases e : f = i
              · subst e
                rw [List.getElem?_eq_getElem hi'] at hr
                rw [List.getElem?_eq_getElem hi2] at hx
                cases hr; cases hx; exact hal
              · exact ok2 f r x (by omega) hr hx
          · have hi' : i = a.ranks.length := by simp at hG; omega
            subst hi'
            simp only [W_skip, W_ops, W_sops, W_seq, W_block, W_exit, W_ret, W_cond, U_seq, U_seq_exit, U_seq_ret, U_blk, U_blk_ret, U_blk_exit, again_exit', again_ret', again_normal', U_ret1, S_nil, S_gd, S_ld, S_lda, S_fld, S_len, S_ix, S_call, S_callv, S_func, S_move, S_assign, S_pick, S_bin, S_not, gdo_tt, gdo_ff, gdo_tf, gdo_ft, br_true, br_false, fin_val, ldV_ptr, ldaV_ptr, fldV_ptr, lenV_slice, not_bool, pick_true, pick_false, b_lss, b_leq, b_gtr, b_geq, b_eql, b_neq, b_add, b_sub, lift1_some, ev_tmp, ev_const, eput_app, eput_none, List.map_cons, List.map_nil, Nat.reduceEqDiff, Nat.succ_ne_self, Nat.reduceBEq, ↓reduceIte, reduceIte, decide_true, decide_false, Bool.not_true, Bool.not_false, if_true_left, Nat.one_ne_zero, Nat.zero_ne_one, not_true_eq_false, not_false_eq_true, h1, h3, h35, h36, h37]
            refine ⟨a.moves.length - (j + 1), by omega, j + 1, rfl, hj', trivial, trivial, trivial, trivial, by rw [wrap_succ (by omega)], fr, fun q row hq hrw => ?_⟩
            by_cases e : q = j
            · subst e
              rw [List.getElem?_eq_getElem hj'] at hrw
              cases hrw
              refine ⟨hrow, fun f r x hr hx => ok2 f r x ?_ hr hx⟩
              exact (List.getElem?_eq_some_iff.1 hr).1
            · exact ok q row (by omega) hrw
        · simp only [W_skip, W_ops, W_sops, W_seq, W_block, W_exit, W_ret, W_cond, U_seq, U_seq_exit, U_seq_ret, U_blk, U_blk_ret, U_blk_exit, again_exit', again_ret', again_normal', U_ret1, S_nil, S_gd, S_ld, S_lda, S_fld, S_len, S_ix, S_call, S_callv, S_func, S_move, S_assign, S_pick, S_bin, S_not, gdo_tt, gdo_ff, gdo_tf, gdo_ft, br_true, br_false, fin_val, ldV_ptr, ldaV_ptr, fldV_ptr, lenV_slice, not_bool, pick_true, pick_false, b_lss, b_leq, b_gtr, b_geq, b_eql, b_neq, b_add, b_sub, lift1_some, ev_tmp, ev_const, eput_app, eput_none, List.map_cons, List.map_nil, Nat.reduceEqDiff, Nat.succ_ne_self, Nat.reduceBEq, ↓reduceIte, reduceIte, decide_true, decide_false, Bool.not_true, Bool.not_false, if_true_left, Nat.one_ne_zero, Nat.zero_ne_one, not_true_eq_false, not_false_eq_true, h1, h3, h35, h36, h37, hrow]
          simp [fr]
      · have hj' : j = a.moves.length := by simp at hE; omega
        subst hj'
        simp only [W_skip, W_ops, W_sops, W_seq, W_block, W_exit, W_ret, W_cond, U_seq, U_seq_exit, U_seq_ret, U_blk, U_blk_ret, U_blk_exit, again_exit', again_ret', again_normal', U_ret1, S_nil, S_gd, S_ld, S_lda, S_fld, S_len, S_ix, S_call, S_callv, S_func, S_move, S_assign, S_pick, S_bin, S_not, gdo_tt, gdo_ff, gdo_tf, gdo_ft, br_true, br_false, fin_val, ldV_ptr, ldaV_ptr, fldV_ptr, lenV_slice, not_bool, pick_true, pick_false, b_lss, b_leq, b_gtr, b_geq, b_eql, b_neq, b_add, b_sub, lift1_some, ev_tmp, ev_const, eput_app, eput_none, List.map_cons, List.map_nil, Nat.reduceEqDiff, Nat.succ_ne_self, Nat.reduceBEq, ↓reduceIte, reduceIte, decide_true, decide_false, Bool.not_true, Bool.not_false, if_true_left, Nat.one_ne_zero, Nat.zero_ne_one, not_true_eq_false, not_false_eq_true]
        refine ⟨?_, frH⟩
        rw [ok_iff.2 ⟨hk, by omega, by omega, by omega, by omega, fun q row hq => ok q row (List.getElem?_eq_some_iff.1 hq).1 hq⟩]
    · simp only [W_skip, W_ops, W_sops, W_seq, W_block, W_exit, W_ret, W_cond, U_seq, U_seq_exit, U_seq_ret, U_blk, U_blk_ret, U_blk_exit, again_exit', again_ret', again_normal', U_ret1, S_nil, S_gd, S_ld, S_lda, S_fld, S_len, S_ix, S_call, S_callv, S_func, S_move, S_assign, S_pick, S_bin, S_not, gdo_tt, gdo_ff, gdo_tf, gdo_ft, br_true, br_false, fin_val, ldV_ptr, ldaV_ptr, fldV_ptr, lenV_slice, not_bool, pick_true, pick_false, b_lss, b_leq, b_gtr, b_geq, b_eql, b_neq, b_add, b_sub, lift1_some, ev_tmp, ev_const, eput_app, eput_none, List.map_cons, List.map_nil, Nat.reduceEqDiff, Nat.succ_ne_self, Nat.reduceBEq, ↓reduceIte, reduceIte, decide_true, decide_false, Bool.not_true, Bool.not_false, if_true_left, Nat.one_ne_zero, Nat.zero_ne_one, not_true_eq_false, not_false_eq_true]
      simp [f2]

end Go.Proofs.YtcfjimhbachmlaaGreatDoor.E
