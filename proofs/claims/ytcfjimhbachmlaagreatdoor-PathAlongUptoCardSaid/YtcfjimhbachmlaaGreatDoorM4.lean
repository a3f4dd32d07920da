/- The clean semantics of this program: its types, its functions. -/
import Derived.Test.YtcfjimhbachmlaaGreatDoorM3
import Derived.Test.YtcfjimhbachmlaaGreatDoorProg
import Derived.KernelRfl
import Derived.Lib.Builder
import Derived.Laws.Externs
import Derived.Test.YtcfjimhbachmlaaGreatDoorM2
set_option linter.unusedVariables false
set_option linter.unusedSimpArgs false

namespace Go.Proofs.YtcfjimhbachmlaaGreatDoor.E
open Go Go.Proofs

theorem lies_self {P : Program} {e : TypeId} (hc : 0 < P.cellsOf e) (count n : Nat) (hn : n ≤ count) : liesAt P P.depth e count 0 e n = true := by
  have hd : P.depth = (2 * (P.types.size + Made.depth) + 1) + 1 := rfl
  rw [hd]
  simp only [liesAt, Bool.or_eq_true]
  left
  rw [hd]
  have : P.cellsOf e ≠ 0 := by omega
  simp [rowAt, this, hn, sameLayout]

noncomputable def liesT (a b : TypeId) : Bool := Nat.beq a 374 && Nat.beq b 374
noncomputable def sameT (f : FuncId) : Bool := Nat.beq f 333

noncomputable def TY : Env := envOf Tryz.prog liesT sameT

theorem ty_ok : Env.ok TY Tryz.prog := by
  refine ⟨?_, ?_, ?_, ?_, rfl, ?_⟩
  · intro t ti h
    simp only [TY, envOf] at h
    split at h
    · rename_i u i hu hi
      split at h
      · rename_i z hz
        cases hn : noAddr z with
        | false => rw [hn] at h; simp at h
        | true =>
          rw [hn] at h
          simp only [cond_true, Option.some.injEq] at h
          subst h
          exact ⟨u, i, hu, hi, rfl, rfl, rfl, hz⟩
      · rename_i hz
        simp only [Option.some.injEq] at h
        subst h
        exact ⟨u, i, hu, hi, rfl, rfl, rfl, hz⟩
    · simp at h
  · intro t ti z h hz
    simp only [TY, envOf] at h
    split at h
    · split at h
      · rename_i z' hz'
        cases hn : noAddr z' with
        | false => rw [hn] at h; simp at h
        | true =>
          rw [hn] at h
          simp only [cond_true, Option.some.injEq] at h
          subst h
          simp only [Option.some.injEq] at hz
          rw [← hz]; exact hn
      · simp only [Option.some.injEq] at h
        subst h
        simp at hz
    · simp at h
  · intro t h
    simp only [TY, envOf, Bool.and_eq_true, Bool.not_eq_true'] at h
    exact h
  · intro e u h n m hnm
    simp only [TY, envOf, liesT, Bool.and_eq_true] at h
    have he := Nat.eq_of_beq_eq_true h.1
    have hu := Nat.eq_of_beq_eq_true h.2
    subst he hu
    have hc : 0 < Tryz.prog.cellsOf 374 := by
      have : Tryz.prog.cellsOf 374 = 2 := by kernel_rfl
      omega
    refine ⟨hc, fun c hc2 => lies_self hc _ _ (Nat.le_trans hnm ((Nat.le_div_iff_mul_le hc).2 hc2))⟩
  · intro f h v w
    have hf := Nat.eq_of_beq_eq_true (h : Nat.beq f 333 = true)
    subst hf
    have h1 : Tryz.prog.funcs[333]? = some Tryz.f333 := by kernel_rfl
    rw [run_callFunc_extern h1 (by kernel_rfl) (by kernel_rfl) (by kernel_rfl) (e := Extern.AbiNoEscape.same) (by kernel_rfl)]
    rw [Lib.run_noEscape]; rfl

end Go.Proofs.YtcfjimhbachmlaaGreatDoor.E

/- The clean semantics of this program: its functions' texts are as they must be. -/
namespace Go.Proofs.YtcfjimhbachmlaaGreatDoor.E
open Go Go.Proofs

def fokF (G : Nat) (fn : Func) : Bool :=
  match fn.body with
  | none => true
  | some c => !(fn.name == "runtime.NumGoroutine") && codeOK fn.ntmps G c && resOK fn.ntmps fn.results.toList

def fokR (P : Program) (a n : Nat) : Bool := (List.range n).all fun i => match P.funcs[a + i]? with | some fn => fokF P.globals.size fn | none => true

theorem fok_of {P : Program} {a n f : Nat} (h : fokR P a n = true) (h1 : a ≤ f) (h2 : f < a + n) : FOK P f := by
  refine ⟨fun fn c hf hb => ?_⟩
  have := List.all_eq_true.1 h (f - a) (by simp; omega)
  have e : a + (f - a) = f := by omega
  rw [e, hf] at this
  simp only [fokF, hb, Bool.and_eq_true, Bool.not_eq_true'] at this
  exact ⟨this.1.1, this.1.2, this.2⟩

theorem fok0 : fokR Tryz.prog 0 60 = true := by kernel_rfl
theorem fok1 : fokR Tryz.prog 60 60 = true := by kernel_rfl
theorem fok2 : fokR Tryz.prog 120 60 = true := by kernel_rfl
theorem fok3 : fokR Tryz.prog 180 60 = true := by kernel_rfl
theorem fok4 : fokR Tryz.prog 240 60 = true := by kernel_rfl
theorem fok5 : fokR Tryz.prog 300 65 = true := by kernel_rfl

theorem fok (f : FuncId) : FOK Tryz.prog f := by
  rcases Nat.lt_or_ge f 60 with h | h
  · exact fok_of fok0 (Nat.zero_le _) (by omega)
  rcases Nat.lt_or_ge f 120 with h' | h'
  · exact fok_of fok1 h (by omega)
  rcases Nat.lt_or_ge f 180 with h | h
  · exact fok_of fok2 h' (by omega)
  rcases Nat.lt_or_ge f 240 with h' | h'
  · exact fok_of fok3 h (by omega)
  rcases Nat.lt_or_ge f 300 with h | h
  · exact fok_of fok4 h' (by omega)
  rcases Nat.lt_or_ge f 365 with h' | h'
  · exact fok_of fok5 h (by omega)
  · refine ⟨fun fn c hf _ => ?_⟩
    have hs : Tryz.prog.funcs.size = 365 := by kernel_rfl
    rw [Array.getElem?_eq_none (by omega)] at hf
    simp at hf

theorem prog_mixed : Tryz.prog.follows .mixedOrders = true := by kernel_rfl

/-- a closed call, carried out by the kernel -/
theorem call_of_run {okf : FuncId → Bool} {same : Value → Value → Bool} (hs : SameOK same) {fuel : Nat} {f : FuncId} {args : Array Value} {x x' : XH} {v : Value}
    (h : xcall Tryz.prog TY okf (xrun Tryz.prog TY okf same fuel) f args x = .ok v x') : SC Tryz.prog f args x.h (fun v0 H0 => v0 = v ∧ H0 = x'.h) :=
  xcall_ok ty_ok (drawSim ty_ok prog_mixed) (fun f _ => fok f) (xrun_ok ty_ok (drawSim ty_ok prog_mixed) (fun f _ => fok f) hs fuel) f args x v x' h

end Go.Proofs.YtcfjimhbachmlaaGreatDoor.E

/- The clean semantics, carried out: contracts of closed calls, at few blocks. -/
namespace Go.Proofs.YtcfjimhbachmlaaGreatDoor.E
open Go

variable {B : Nat} {P : Program} {H : Heap} {φ : Mp} {w : World}

/-- fewer blocks, more numbers: what is known goes on -/
theorem HR.fewer {H2 : Heap} (hr : HR B P H φ w) (hg : ∀ i b, H2.get i = some b → H.get i = some b) (hn : H2.nxt = H.nxt) (hu : ∀ i, H.used i → H2.used i) (hu2 : ∀ i, H2.used i → i < H2.nxt) :
    HR B P H2 φ w ∧ Ext H φ w H2 φ w := by
  have live : ∀ i, H2.live i → H.live i := fun i hi => by
    obtain ⟨b, hb⟩ := Option.ne_none_iff_exists'.1 hi
    unfold Heap.live; rw [hg i b hb]; simp
  have hl : Later H φ H2 φ := ⟨by rw [hn]; exact Nat.le_refl _, hu, fun i _ hi => live i hi, fun _ _ _ => rfl, fun _ _ _ => rfl⟩
  refine ⟨⟨hr.size, hu2, fun i hi => hu i (hr.liv i (live i hi)), fun i hi => hu i (hr.glob i hi), hr.gid, fun i b hi => (hr.blk i b (hg i b hi)).mono hl rfl, fun i b hi hw => hr.own i b (hg i b hi) hw,
    fun i j hi hj => hr.inj i j (live i hi) (live j hj), ⟨hu _ hr.dead.1, fun h => hr.dead.2 (live _ h)⟩⟩,
    { Ext.refl H φ w with nxt := hl.nxt, used := hl.used, live := hl.live, map := hl.map, cap := hl.cap, mine := fun i b hi => .inl ⟨b, hg i b hi, rfl, id⟩ }⟩

/-- a contract at fewer blocks serves at more -/
theorem SC.grow {f : FuncId} {args : Array Value} {H2 : Heap} {Post : Value → Heap → Prop} (h : SC P f args H2 Post) (hg : ∀ i b, H2.get i = some b → H.get i = some b) (hn : H2.nxt = H.nxt) (hu : ∀ i, H2.used i ↔ H.used i) :
    SC P f args H Post := by
  refine ⟨h.1, fun B φ w args' hr ha => ?_⟩
  obtain ⟨hr2, e2⟩ := hr.fewer hg hn (fun i hi => (hu i).2 hi) (fun i hi => by rw [hn]; exact hr.lt i ((hu i).1 hi))
  refine (h.2 B φ w args' hr2 (ha.mono e2.toLater)).mono ?_
  rintro e w' ⟨v, H', φ', v', h1, h2, h3, h4, h5, h6⟩
  exact ⟨v, H', φ', v', h1, h2, h3, h4, e2.trans h5, fun i hi => (h6 i hi).imp (hu i).1 (fun h => by rw [← hn]; exact h)⟩

/-- what is told of a heap may be told of fewer blocks, and of numbers in a row -/
theorem SC.canon {f : FuncId} {args : Array Value} {v : Value} {n : Nat} {t : Nat → Option Blk} (h : SC P f args H (fun v0 H0 => v0 = v ∧ H0.nxt = n ∧ ∀ i b, t i = some b → H0.get i = some b)) :
    SC P f args H (fun v0 H0 => v0 = v ∧ H0 = ⟨t, n, fun i => H.used i ∨ (H.nxt ≤ i ∧ i < n)⟩) := by
  refine ⟨h.1, fun B φ w args' hr ha => ?_⟩
  refine (h.2 B φ w args' hr ha).mono ?_
  rintro e w' ⟨v0, H0, φ', v', ⟨rfl, rfl, hg⟩, h2, h3, h4, h5, h6⟩
  obtain ⟨hr2, e2⟩ := h4.fewer (H2 := ⟨t, H0.nxt, fun i => H.used i ∨ (H.nxt ≤ i ∧ i < H0.nxt)⟩) hg rfl (fun i hi => (h6 i hi).imp id fun h => ⟨h, h4.lt i hi⟩)
    (fun i hi => hi.elim (fun h => Nat.lt_of_lt_of_le (hr.lt i h) h5.nxt) fun h => h.2)
  exact ⟨v0, _, φ', v', ⟨rfl, rfl⟩, h2, h3.mono e2.toLater, hr2, h5.trans e2, fun i hi => hi.imp id fun h => h.1⟩

end Go.Proofs.YtcfjimhbachmlaaGreatDoor.E

/- The clean semantics, carried out: how a closed call is shown by the kernel. -/
namespace Go.Proofs.YtcfjimhbachmlaaGreatDoor.E
open Go Go.Proofs

noncomputable def mk (l : List (Nat × Blk)) : Tr Blk := List.rec (motive := fun _ => Tr Blk) .nil (fun p _ ih => ih.set p.1 p.2) l

noncomputable def sameVs : List Value → List Value → Bool := sameL (sameV 8)
noncomputable def sameEs : List MapEntry → List MapEntry → Bool
  | [], [] => true
  | x :: xs, y :: ys => sameV 8 x.key y.key && sameV 8 x.val y.val && Nat.beq x.born y.born && sameEs xs ys
  | _, _ => false
noncomputable def sameBlk : Option Blk → Blk → Bool
  | some (.cells a e w f), .cells a' e' w' f' => sameVs a a' && Nat.beq e e' && (w == w') && (f == f')
  | some (.map a c w), .map a' c' w' => sameEs a a' && Nat.beq c c' && (w == w')
  | _, _ => false

theorem sameEs_ok : ∀ (a b : List MapEntry), sameEs a b = true → a = b
  | [], [], _ => rfl
  | [], _ :: _, h => by simp [sameEs] at h
  | _ :: _, [], h => by simp [sameEs] at h
  | x :: xs, y :: ys, h => by
    simp only [sameEs, Bool.and_eq_true] at h
    obtain ⟨⟨⟨h1, h2⟩, h3⟩, h4⟩ := h
    have e1 := sameV_ok _ _ _ h1
    have e2 := sameV_ok _ _ _ h2
    have e3 := Nat.eq_of_beq_eq_true h3
    cases x; cases y
    simp only at e1 e2 e3
    rw [e1, e2, e3, sameEs_ok xs ys h4]

theorem sameBlk_ok {o : Option Blk} {b : Blk} (h : sameBlk o b = true) : o = some b := by
  unfold sameBlk at h
  split at h
  · simp only [Bool.and_eq_true, beq_iff_eq] at h
    obtain ⟨⟨⟨h1, h2⟩, h3⟩, h4⟩ := h
    rw [sameL_ok (sameV_ok 8) _ _ h1, Nat.eq_of_beq_eq_true h2, h3, h4]
  · simp only [Bool.and_eq_true, beq_iff_eq] at h
    obtain ⟨⟨h1, h2⟩, h3⟩ := h
    rw [sameEs_ok _ _ h1, Nat.eq_of_beq_eq_true h2, h3]
  · simp at h

/-- the blocks of a list are in a heap -/
noncomputable def has (t : Tr Blk) : List (Nat × Blk) → Bool
  | [] => true
  | p :: l => sameBlk (t.get p.1) p.2 && has t l

theorem has_ok {t : Tr Blk} : ∀ {l : List (Nat × Blk)}, has t l = true → ∀ i b, (mk l).get i = some b → t.get i = some b
  | [], _, i, b, h => by simp [mk, Tr.get_nil] at h
  | p :: l, hh, i, b, h => by
    simp only [has, Bool.and_eq_true] at hh
    have he : mk (p :: l) = (mk l).set p.1 p.2 := rfl
    rw [he, Tr.get_set] at h
    split at h
    · rename_i e; cases h; rw [e]; exact sameBlk_ok hh.1
    · exact has_ok hh.2 i b h

noncomputable def chk (r : XV) (v : Value) (n : Nat) (l : List (Nat × Blk)) : Bool :=
  XV.rec (motive := fun _ => Bool) false (fun v0 x0 => sameV 8 v0 v && Nat.beq x0.n n && has x0.t l) r

noncomputable def same8 : Value → Value → Bool := sameV 8

noncomputable def okT : FuncId → Bool := fun _ => true

/-- what a contract of a closed call says -/
def Con (f : FuncId) (args : Array Value) (l : List (Nat × Blk)) (n : Nat) (v : Value) (n' : Nat) (l' : List (Nat × Blk)) : Prop :=
  ∀ u, SC Tryz.prog f args ⟨(mk l).get, n, u⟩ (fun v0 H0 => v0 = v ∧ H0 = ⟨(mk l').get, n', fun i => u i ∨ (n ≤ i ∧ i < n')⟩)

theorem con_of {f : FuncId} {args : Array Value} {l : List (Nat × Blk)} {n : Nat} {v : Value} {n' : Nat} {l' : List (Nat × Blk)} {fuel : Nat}
    (h : ∀ u, chk (xcall Tryz.prog TY okT (xrun Tryz.prog TY okT same8 fuel) f args ⟨mk l, n, u⟩) v n' l' = true) : Con f args l n v n' l' := by
  intro u
  refine SC.canon (t := (mk l').get) ?_
  have h := h u
  cases hx : xcall Tryz.prog TY okT (xrun Tryz.prog TY okT same8 fuel) f args ⟨mk l, n, u⟩ with
  | bad => rw [hx] at h; simp [chk] at h
  | ok v0 x0 =>
    rw [hx] at h
    have h : (sameV 8 v0 v && Nat.beq x0.n n' && has x0.t l') = true := h
    simp only [Bool.and_eq_true] at h
    obtain ⟨⟨h1, h2⟩, h3⟩ := h
    have hs : SameOK same8 := fun x y h => sameV_ok 8 x y h
    refine (call_of_run hs hx).mono ?_
    rintro v1 H1 ⟨rfl, rfl⟩
    exact ⟨sameV_ok _ _ _ h1, Nat.eq_of_beq_eq_true h2, has_ok h3⟩

end Go.Proofs.YtcfjimhbachmlaaGreatDoor.E

/- The clean semantics: a closed call that reads a few constant blocks answers alike wherever these are known. -/
namespace Go.Proofs.YtcfjimhbachmlaaGreatDoor.E
open Go

variable {P : Program}

/-- a closed call whose start knows only constant blocks of numbers, with a truth value as its answer -/
theorem SC.closed {f : FuncId} {t : Nat → Option Blk} {n : Nat} {b : Bool} (h : SC P f #[] ⟨t, n, fun i => i ≤ P.globals.size⟩ (fun v _ => v = .bool b)) (hn : P.globals.size < n)
    (ht : ∀ i c, t i = some c → i < P.globals.size ∧ ∃ vs e fz, c = .cells vs e false fz ∧ ∀ v ∈ vs, ∃ k m, v = .int k m) (H : Heap) (hH : ∀ i c, t i = some c → H.get i = some c) :
    SC P f #[] H (fun v H' => v = .bool b ∧ H' = H) := by
  refine ⟨h.1, fun B φ w args' hr ha => ?_⟩
  let H1 : Heap := ⟨t, n, fun i => i ≤ P.globals.size⟩
  let φ1 : Mp := ⟨fun i => i, φ.cap⟩
  have live : ∀ i, H1.live i → ∃ c, t i = some c := fun i hi => Option.ne_none_iff_exists'.1 hi
  have hw : ∀ i c, t i = some c → c.w = false := fun i c hc => by
    obtain ⟨_, vs, e, fz, rfl, _⟩ := ht i c hc
    rfl
  have hr1 : HR B P H1 φ1 w := by
    refine ⟨hr.size, fun i hi => Nat.lt_of_le_of_lt hi hn, fun i hi => ?_, fun i hi => Nat.le_of_lt hi, fun _ _ => rfl, fun i c hc => ?_, fun i c hc hcw => ?_, fun i j _ _ e => e, ⟨Nat.le_refl _, fun hl => ?_⟩⟩
    · obtain ⟨c, hc⟩ := live i hi
      exact Nat.le_of_lt (ht i c hc).1
    · obtain ⟨hi, vs, e, fz, rfl, hvs⟩ := ht i c hc
      have := hr.blk i _ (hH i _ hc)
      rw [hr.gid i hi] at this
      obtain ⟨c', fr, h1, h2, h3, h4⟩ := this
      refine ⟨c', fr, h1, h2, fun j hj hj' => ?_, h4⟩
      have hv := h3 j hj hj'
      obtain ⟨k, m, hkm⟩ := hvs vs[j] (List.getElem_mem hj)
      rw [hkm] at hv ⊢
      rcases hv with hv | hv
      · cases hv
      · generalize c'[j] = y at hv
        cases hv
        exact .inr (.int k m)
    · rw [hw i c hc] at hcw; cases hcw
    · obtain ⟨c, hc⟩ := live _ hl
      exact absurd (ht _ c hc).1 (Nat.lt_irrefl _)
  have ha1 : ArrR H1 φ1 #[] args' := ⟨ha.1, fun i hi => by simp at hi⟩
  refine (h.2 B φ1 w args' hr1 ha1).mono ?_
  rintro e w' ⟨v, H', φ', v', hv, h2, h3, h4, h5, h6⟩
  subst hv
  have kept : ∀ k, k < w.heap.size → w'.heap[k]? = w.heap[k]? := fun k hk => h5.kept k hk fun i c hc hcw => by rw [hw i c hc] at hcw; cases hcw
  refine ⟨.bool b, H, φ, v', ⟨rfl, rfl⟩, h2, ?_, hr.congr (fun _ _ => ⟨rfl, rfl⟩) h5.size kept, ?_, fun i hi => .inl hi⟩
  · cases h3; exact .bool b
  · exact { Later.refl H φ with os := h5.os, tape := h5.tape, output := h5.output, size := h5.size, kept := fun k hk _ => kept k hk, mine := fun i c hc => .inl ⟨c, hc, rfl, id⟩ }

end Go.Proofs.YtcfjimhbachmlaaGreatDoor.E

/- The clean semantics, carried out: a function without loops whose calls are answered by contracts. -/
namespace Go.Proofs.YtcfjimhbachmlaaGreatDoor.E
open Go Go.Proofs

variable {Y : Env} {P : Program}

/-- code without loops, with calls answered -/
noncomputable def xlin (Y : Env) (call : XCall) (same : Value → Value → Bool) : Code → Tr Value → XH → XR :=
  Code.rec (motive := fun _ => Tr Value → XH → XR)
    (fun g x => .ok .normal g x)
    (fun _ ops draw g x => Bool.rec (motive := fun _ => XR) (xseq Y call ops.toList ops.toList g x).normal
      (xdw Y call same ops.toList x.n g (plan ops.toList) .nil ⟨x.t, Nat.add x.n ops.toList.length, x.u⟩ .nil).normal draw)
    (fun _ _ a b g x => XR.rec (motive := fun _ => XR) .bad (fun e g' x' => XE.rec (motive := fun _ => XR) (b g' x') (fun i => .ok (.exit i) g' x') (.ok .ret g' x') e) (a g x))
    (fun c _ _ a b g x => match ev (frg g) c with
      | .bool t => Bool.rec (motive := fun _ => XR) (b g x) (a g x) t
      | _ => .bad)
    (fun id _ c g x => XR.rec (motive := fun _ => XR) .bad (fun e g' x' => XE.rec (motive := fun _ => XR) (.ok .normal g' x') (fun i => Bool.rec (motive := fun _ => XR) (.ok (.exit i) g' x') (.ok .normal g' x') (Nat.beq i id)) (.ok .ret g' x') e) (c g x))
    (fun _ _ _ _ => .bad)
    (fun _ _ _ _ _ _ _ _ => .bad)
    (fun id g x => .ok (.exit id) g x)
    (fun _ _ _ _ => .bad)
    (fun _ _ _ => .bad)
    (fun _ _ _ => .bad)
    (fun g x => .ok .ret g x)
    (fun _ _ _ => .bad)

theorem xlin_ok {call : XCall} (hcall : CallOK P call) {same : Value → Value → Bool} (hs : SameOK same) :
    ∀ (c : Code) (g : Tr Value) (x : XH) (e : XE) (g' : Tr Value) (x' : XH), xlin Y call same c g x = .ok e g' x' → ∀ Q : EPost, Q (exitOf e) (frg g') x'.h → ew Y P c Q (frg g) x.h := by
  intro c
  induction c with
  | skip => intro g x e g' x' h Q hq; cases (h : XR.ok .normal g x = .ok e g' x'); exact hq
  | region id ops draw =>
    intro g x e g' x' h Q hq
    cases draw with
    | false =>
      have h : (xseq Y call ops.toList ops.toList g x).normal = .ok e g' x' := h
      cases hx : xseq Y call ops.toList ops.toList g x with
      | bad => rw [hx] at h; simp [XG.normal] at h
      | ok g1 x1 =>
        rw [hx] at h
        simp only [XG.normal, XR.ok.injEq] at h
        obtain ⟨rfl, rfl, rfl⟩ := h
        exact xseq_ok hcall _ _ _ _ _ hx hq
    | true =>
      have h : (xdw Y call same ops.toList x.n g (plan ops.toList) .nil ⟨x.t, x.n + ops.toList.length, x.u⟩ .nil).normal = .ok e g' x' := h
      cases hx : xdw Y call same ops.toList x.n g (plan ops.toList) .nil ⟨x.t, x.n + ops.toList.length, x.u⟩ .nil with
      | bad => rw [hx] at h; simp [XG.normal] at h
      | ok g1 x1 =>
        rw [hx] at h
        simp only [XG.normal, XR.ok.injEq] at h
        obtain ⟨rfl, rfl, rfl⟩ := h
        exact xdw_ok hcall hs _ _ _ _ _ _ hx hq
  | seq a b iha ihb =>
    intro g x e g' x' h Q hq
    have h : XR.rec (motive := fun _ => XR) .bad (fun e g' x' => XE.rec (motive := fun _ => XR) (xlin Y call same b g' x') (fun i => .ok (.exit i) g' x') (.ok .ret g' x') e) (xlin Y call same a g x) = .ok e g' x' := h
    cases ha : xlin Y call same a g x with
    | bad => rw [ha] at h; simp at h
    | ok e1 g1 x1 =>
      rw [ha] at h
      refine iha g x e1 g1 x1 ha _ ?_
      cases e1 with
      | normal => exact ihb g1 x1 e g' x' h Q hq
      | exit i => cases (h : XR.ok (.exit i) g1 x1 = .ok e g' x'); exact hq
      | ret => cases (h : XR.ok .ret g1 x1 = .ok e g' x'); exact hq
  | cond o a b iha ihb =>
    intro g x e g' x' h Q hq
    have h : (match ev (frg g) o with | .bool t => Bool.rec (motive := fun _ => XR) (xlin Y call same b g x) (xlin Y call same a g x) t | _ => .bad) = XR.ok e g' x' := h
    simp only [ew]
    cases ho : ev (frg g) o with
    | bool t =>
      rw [ho] at h
      cases t with
      | true => exact iha g x e g' x' h Q hq
      | false => exact ihb g x e g' x' h Q hq
    | _ => rw [ho] at h; simp at h
  | block id c ihc =>
    intro g x e g' x' h Q hq
    have h : XR.rec (motive := fun _ => XR) .bad (fun e g' x' => XE.rec (motive := fun _ => XR) (.ok .normal g' x') (fun i => Bool.rec (motive := fun _ => XR) (.ok (.exit i) g' x') (.ok .normal g' x') (Nat.beq i id)) (.ok .ret g' x') e) (xlin Y call same c g x) = .ok e g' x' := h
    cases hc : xlin Y call same c g x with
    | bad => rw [hc] at h; simp at h
    | ok e1 g1 x1 =>
      rw [hc] at h
      refine ihc g x e1 g1 x1 hc _ ?_
      cases e1 with
      | normal => cases (h : XR.ok .normal g1 x1 = .ok e g' x'); exact hq
      | ret => cases (h : XR.ok .ret g1 x1 = .ok e g' x'); exact hq
      | exit i =>
        have h : Bool.rec (motive := fun _ => XR) (.ok (.exit i) g1 x1) (.ok .normal g1 x1) (Nat.beq i id) = .ok e g' x' := h
        simp only [exitOf]
        cases hb : Nat.beq i id with
        | true =>
          rw [hb] at h
          rw [if_pos (Nat.eq_of_beq_eq_true hb)]
          cases (h : XR.ok .normal g1 x1 = .ok e g' x'); exact hq
        | false =>
          rw [hb] at h
          rw [if_neg (Nat.ne_of_beq_eq_false hb)]
          cases (h : XR.ok (.exit i) g1 x1 = .ok e g' x'); exact hq
  | exit id => intro g x e g' x' h Q hq; cases (h : XR.ok (.exit id) g x = .ok e g' x'); exact hq
  | ret => intro g x e g' x' h Q hq; cases (h : XR.ok .ret g x = .ok e g' x'); exact hq
  | _ => intro g x e g' x' h Q hq; exact nomatch (h : XR.bad = .ok e g' x')

/-- a call that was carried out, told by its contract -/
structure Seg where
  f : FuncId
  args : Array Value
  l : List (Nat × Blk)
  n : Nat
  v : Value
  n' : Nat
  l' : List (Nat × Blk)

def Seg.ok (s : Seg) : Prop := Con s.f s.args s.l s.n s.v s.n' s.l'

/-- calls answered from a list -/
noncomputable def orc (l : List Seg) : XCall :=
  List.rec (motive := fun _ => XCall) (fun _ _ _ => .bad) (fun s _ ih f args x =>
    bif Nat.beq f s.f && sameVs args.toList s.args.toList && Nat.beq x.n s.n && has x.t s.l then .ok s.v ⟨mk s.l', s.n', fun i => x.u i ∨ (s.n ≤ i ∧ i < s.n')⟩ else ih f args x) l

theorem orc_ok : ∀ (l : List Seg), (∀ s ∈ l, s.ok) → CallOK Tryz.prog (orc l)
  | [], _, f, args, x, v, x', h => nomatch (h : XV.bad = .ok v x')
  | s :: l, hl, f, args, x, v, x', h => by
    have h : (bif Nat.beq f s.f && sameVs args.toList s.args.toList && Nat.beq x.n s.n && has x.t s.l then XV.ok s.v ⟨mk s.l', s.n', fun i => x.u i ∨ (s.n ≤ i ∧ i < s.n')⟩ else orc l f args x) = .ok v x' := h
    cases hb : (Nat.beq f s.f && sameVs args.toList s.args.toList && Nat.beq x.n s.n && has x.t s.l) with
    | false => rw [hb] at h; exact orc_ok l (fun s hs => hl s (by simp [hs])) f args x v x' h
    | true =>
      rw [hb] at h
      cases (h : XV.ok s.v ⟨mk s.l', s.n', fun i => x.u i ∨ (s.n ≤ i ∧ i < s.n')⟩ = .ok v x')
      simp only [Bool.and_eq_true] at hb
      obtain ⟨⟨⟨h1, h2⟩, h3⟩, h4⟩ := hb
      have e1 := Nat.eq_of_beq_eq_true h1
      have e2 : args = s.args := by
        have := sameL_ok (sameV_ok 8) _ _ h2
        exact Array.ext' this
      have e3 := Nat.eq_of_beq_eq_true h3
      subst e1 e2
      have hc := hl s (by simp) x.u
      exact SC.grow hc (fun i b hb => has_ok h4 i b hb) e3.symm (fun i => Iff.rfl)

/-- the function that is run so gives a truth value -/
noncomputable def runsTo (l : List Seg) (f : FuncId) (t : List (Nat × Blk)) (n : Nat) (b : Bool) (u : Nat → Prop) : Bool :=
  XV.rec (motive := fun _ => Bool) false (fun v _ => sameV 8 v (.bool b)) (xcall Tryz.prog TY okT (xlin TY (orc l) same8) f #[] ⟨mk t, n, u⟩)

theorem runsTo_ok {l : List Seg} (hl : ∀ s ∈ l, s.ok) {f : FuncId} {t : List (Nat × Blk)} {n : Nat} {b : Bool} {u : Nat → Prop} (h : runsTo l f t n b u = true) :
    SC Tryz.prog f #[] ⟨(mk t).get, n, u⟩ (fun v _ => v = .bool b) := by
  unfold runsTo at h
  cases hx : xcall Tryz.prog TY okT (xlin TY (orc l) same8) f #[] ⟨mk t, n, u⟩ with
  | bad => rw [hx] at h; simp at h
  | ok v x' =>
    rw [hx] at h
    have hs : SameOK same8 := fun x y h => sameV_ok 8 x y h
    have := xcall_ok (okf := okT) ty_ok (drawSim ty_ok prog_mixed) (fun f _ => fok f) (xlin_ok (orc_ok l hl) hs) f #[] _ v x' hx
    exact this.mono fun v0 H0 ⟨h1, _⟩ => by rw [h1]; exact sameV_ok _ _ _ h

theorem mk_mem : ∀ {l : List (Nat × Blk)} {i : Nat} {b : Blk}, (mk l).get i = some b → (i, b) ∈ l
  | [], i, b, h => by simp [mk, Tr.get_nil] at h
  | p :: l, i, b, h => by
    have he : mk (p :: l) = (mk l).set p.1 p.2 := rfl
    rw [he, Tr.get_set] at h
    split at h
    · rename_i e; cases h; rw [e]; exact List.mem_cons_self
    · exact List.mem_cons_of_mem _ (mk_mem h)

def isInt : Value → Bool
  | .int _ _ => true
  | _ => false

/-- a block of constant numbers -/
def constBlk (G : Nat) (p : Nat × Blk) : Bool := Nat.blt p.1 G && (match p.2 with
  | .cells vs _ false _ => vs.all isInt
  | _ => false)

theorem constBlk_ok {G i : Nat} {b : Blk} (h : constBlk G (i, b) = true) : i < G ∧ ∃ vs e fz, b = .cells vs e false fz ∧ ∀ v ∈ vs, ∃ k m, v = .int k m := by
  simp only [constBlk, Bool.and_eq_true] at h
  obtain ⟨h1, h2⟩ := h
  refine ⟨by rw [Nat.blt_eq] at h1; exact h1, ?_⟩
  split at h2
  · rename_i vs e f
    refine ⟨vs, e, f, rfl, fun v hv => ?_⟩
    have := List.all_eq_true.1 h2 v hv
    cases v <;> simp [isInt] at this
    exact ⟨_, _, rfl⟩
  · cases h2

end Go.Proofs.YtcfjimhbachmlaaGreatDoor.E
