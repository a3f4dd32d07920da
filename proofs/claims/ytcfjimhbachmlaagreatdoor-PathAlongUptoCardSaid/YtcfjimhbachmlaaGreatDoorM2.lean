/- The clean semantics: an operation as a whole; calls; what is asked of the code. -/
import Derived.Test.YtcfjimhbachmlaaGreatDoorM1
set_option linter.unusedVariables false
set_option linter.unusedSimpArgs false

namespace Go.Proofs.YtcfjimhbachmlaaGreatDoor.E
open Go

variable {B : Nat} {H : Heap} {φ : Mp} {w : World} {P : Program} {Y : Env}

/-- frames: what the slots hold -/
abbrev Fm := Nat → Value

def ev (g : Fm) : Operand → Value
  | .tmp t => g t
  | .const v => v
  | .global i => .pointer (some ⟨i, 0, none⟩)
  | .func f => .func (.func f) #[] #[]

def FR (H : Heap) (φ : Mp) (n : Nat) (g : Fm) (tmps : Array Value) : Prop := tmps.size = n ∧ ∀ i (h : i < tmps.size), VR H φ (g i) tmps[i]

theorem FR.mono {H' : Heap} {φ' : Mp} {n : Nat} {g : Fm} {tmps : Array Value} (l : Later H φ H' φ') (h : FR H φ n g tmps) : FR H' φ' n g tmps := ⟨h.1, fun i hi => (h.2 i hi).mono l⟩

/-- an operand that stands for something -/
def oprOK (n G : Nat) : Operand → Bool
  | .tmp t => decide (t < n)
  | .const v => noAddr v
  | .global i => decide (i < G)
  | .func _ => true

theorem ev_ok (hr : HR B P H φ w) {n : Nat} {g : Fm} {a : Act} (hf : FR H φ n g a.tmps) {x : Operand} (hx : oprOK n P.globals.size x = true) : VR H φ (ev g x) (a.eval x) := by
  cases x with
  | tmp t =>
    simp only [oprOK, decide_eq_true_eq] at hx
    have ht : t < a.tmps.size := by rw [hf.1]; exact hx
    have := hf.2 t ht
    simp only [ev, Act.eval]
    rw [Array.getD_eq_getD_getElem?, Array.getElem?_eq_getElem ht]
    exact this
  | const v => exact noAddr_VR hx
  | global i =>
    simp only [oprOK, decide_eq_true_eq] at hx
    exact .ptr ⟨hr.glob i hx, fun _ => ⟨(hr.gid i hx).symm, rfl, rfl⟩⟩
  | func f => exact .func _ rfl rfl (fun i h => by simp at h) (fun i h => by simp at h)

/-- an operation comes to a value, or has none to tell -/
def OSim (P : Program) (B : Nat) (H : Heap) (φ : Mp) (w : World) (s : Sem Next) (v : Value) (H' : Heap) : Prop :=
  ∃ v' φ' w', (s.run P w = .ok (.value v') w' ∨ (s.run P w = .ok .skip w' ∧ v' = undef)) ∧ VR H' φ' v v' ∧ HR B P H' φ' w' ∧ Ext H φ w H' φ' w'

theorem Sim.lift {s : Sem Value} {v : Value} {H' : Heap} (h : Sim P B H φ w s v H') : OSim P B H φ w (do pure (.value (← s))) v H' := by
  obtain ⟨v', φ', w', h1, h2, h3, h4⟩ := h
  exact ⟨v', φ', w', .inl (by simp [h1]), h2, h3, h4⟩

theorem undef_VR : VR H φ undef undef := .tuple rfl (fun i h => by simp at h)

/-- what is asked of a call of a function: it returns, and what is said of its result -/
def SC (P : Program) (f : FuncId) (args : Array Value) (H : Heap) (Post : Value → Heap → Prop) : Prop :=
  (∃ fn, P.funcs[f]? = some fn ∧ (fn.name == "runtime.NumGoroutine") = false ∧ fn.body.isNone = false) ∧
  ∀ B φ w args', HR B P H φ w → ArrR H φ args args' → Calls P f args' w fun e w' => ∃ v H' φ' v', Post v H' ∧ e = .returned v' ∧ VR H' φ' v v' ∧ HR B P H' φ' w' ∧ Ext H φ w H' φ' w' ∧ ∀ i, H'.used i → H.used i ∨ H.nxt ≤ i

theorem SC.mono {f : FuncId} {args : Array Value} {Post Post' : Value → Heap → Prop} (h : SC P f args H Post) (hp : ∀ v H', Post v H' → Post' v H') : SC P f args H Post' :=
  ⟨h.1, fun B φ w args' hr ha => (h.2 B φ w args' hr ha).mono fun _ _ ⟨v, H', φ', v', h1, h2⟩ => ⟨v, H', φ', v', hp _ _ h1, h2⟩⟩

theorem parts_R {f g : Operand → Value} : ∀ (l : List (Nat × Operand)), (∀ p ∈ l, VR H φ (f p.2) (g p.2)) → PartsR H φ (l.map fun p => (p.1, f p.2)) (l.map fun p => (p.1, g p.2)) := by
  intro l
  induction l with
  | nil => intro _; trivial
  | cons p l ih => intro h; exact ⟨rfl, h p (by simp), ih fun q hq => h q (by simp [hq])⟩

theorem map_R {f g : Operand → Value} (l : List Operand) (h : ∀ x ∈ l, VR H φ (f x) (g x)) : LR H φ (l.map f) (l.map g) :=
  ⟨by simp, fun i hi hi' => by simp only [List.getElem_map]; exact h _ (List.getElem_mem _)⟩

theorem opt_R {f g : Operand → Value} (o : Option Operand) (h : ∀ x, o = some x → VR H φ (f x) (g x)) : OptR H φ (o.map f) (o.map g) := by
  cases o with
  | none => trivial
  | some x => exact h x rfl

section types
variable (hY : Y.ok P)
include hY

set_option maxHeartbeats 2000000 in
theorem op_val {ρ ρ' : Operand → Value} {id : Nat} {o : Oper} {v : Value} {H' : Heap} (hr : HR B P H φ w) (hu : ¬ H.used id) (hρ : ∀ x ∈ o.op.operands, VR H φ (ρ x) (ρ' x))
    (h : eop Y ρ id o.op H = some (.val v, H')) : OSim P B H φ w (execOp ρ' o) v H' := by
  obtain ⟨dst, op, type, pos, after, guard⟩ := o
  simp only at hρ h
  have l1 : ∀ {x : Option Value}, lift1 H x = some (.val v, H') → x = some v ∧ H' = H := by
    intro x hx
    cases x with
    | none => simp [lift1] at hx
    | some y => simp only [lift1, Option.some.injEq, Prod.mk.injEq, EN.val.injEq] at hx; exact ⟨by rw [hx.1], hx.2.symm⟩
  have l2 : ∀ {x : Option (Value × Heap)}, lift2 x = some (.val v, H') → x = some (v, H') := by
    intro x hx
    cases x with
    | none => simp [lift2] at hx
    | some y => obtain ⟨y1, y2⟩ := y; simp only [lift2, Option.some.injEq, Prod.mk.injEq, EN.val.injEq] at hx; rw [hx.1, hx.2]
  have l3 : ∀ {x : Option Heap}, lift3 x = some (.val v, H') → x = some H' ∧ v = undef := by
    intro x hx
    cases x with
    | none => simp [lift3] at hx
    | some y => simp only [lift3, Option.some.injEq, Prod.mk.injEq, EN.val.injEq] at hx; exact ⟨by rw [hx.2], hx.1.symm⟩
  have same : ∀ {v' : Value} {s : Sem Next}, s.run P w = .ok (.value v') w → VR H φ v v' → H' = H → OSim P B H φ w s v H' := by
    intro v' s hs hv he
    subst he
    exact ⟨v', φ, w, .inl hs, hv, hr, Ext.refl _ _ _⟩
  cases op with
  | move x => simp only [eop, Option.some.injEq, Prod.mk.injEq, EN.val.injEq] at h; obtain ⟨rfl, rfl⟩ := h; exact same (by simp [execOp]) (hρ x (by simp [Op.operands])) rfl
  | assign x => simp only [eop, Option.some.injEq, Prod.mk.injEq, EN.val.injEq] at h; obtain ⟨rfl, rfl⟩ := h; exact same (by simp [execOp]) (hρ x (by simp [Op.operands])) rfl
  | pick c a b =>
    simp only [eop] at h
    have hc := hρ c (by simp [Op.operands])
    split at h
    · rename_i t ht
      rw [ht] at hc
      simp only [Option.some.injEq, Prod.mk.injEq, EN.val.injEq] at h; obtain ⟨rfl, rfl⟩ := h
      cases hcv : ρ' c <;> rw [hcv] at hc <;> cases hc
      refine same (v' := if t then ρ' a else ρ' b) (by simp [execOp, hcv, asBool]) ?_ rfl
      cases t
      · exact hρ b (by simp [Op.operands])
      · exact hρ a (by simp [Op.operands])
    · simp at h
  | alloc t =>
    simp only [eop] at h
    split at h
    · rename_i ti hti
      split at h
      · rename_i z hz
        simp only [Option.some.injEq, Prod.mk.injEq, EN.val.injEq] at h; obtain ⟨rfl, rfl⟩ := h
        exact (alloc_sim hY hr hu hti hz).lift
      · simp at h
    · simp at h
  | box t x =>
    simp only [eop, Option.some.injEq, Prod.mk.injEq, EN.val.injEq] at h; obtain ⟨rfl, rfl⟩ := h
    exact (box_sim hr hu t (hρ x (by simp [Op.operands]))).lift
  | build t parts =>
    obtain ⟨h1, rfl⟩ := l1 h
    have hp := parts_R (f := ρ) (g := ρ') parts.toList fun p hp => hρ p.2 (by simp only [Op.operands, List.mem_toArray, List.mem_map]; exact ⟨p, hp, rfl⟩)
    exact ((build_sim hY hr h1 (parts' := parts.map fun (i, x) => (i, ρ' x)) (by simpa using hp)).sim hr).lift
  | buildSlice t len parts =>
    have h1 := l2 h
    have hp := parts_R (f := ρ) (g := ρ') parts.toList fun p hp => hρ p.2 (by simp only [Op.operands, List.mem_toArray, List.mem_map]; exact ⟨p, hp, rfl⟩)
    exact (buildSlice_sim hY hr hu h1 (parts' := parts.map fun (i, x) => (i, ρ' x)) (by simpa using hp)).lift
  | load t a =>
    obtain ⟨h1, rfl⟩ := l1 h
    exact ((load_sim hY hr h1 (hρ a (by simp [Op.operands]))).sim hr).lift
  | store t a x =>
    obtain ⟨h1, rfl⟩ := l3 h
    obtain ⟨w', g1, g2, g3⟩ := store_sim hY hr h1 (hρ a (by simp [Op.operands])) (hρ x (by simp [Op.operands]))
    exact ⟨undef, φ, w', .inr ⟨by simp [execOp, g1], rfl⟩, undef_VR, g2, g3⟩
  | nilCheck x =>
    simp only [eop] at h
    have hx := hρ x (by simp [Op.operands])
    split at h
    · rename_i a ha
      rw [ha] at hx
      simp only [Option.some.injEq, Prod.mk.injEq, EN.val.injEq] at h; obtain ⟨rfl, rfl⟩ := h
      cases hxv : ρ' x <;> rw [hxv] at hx <;> cases hx
      rename_i hh
      exact same (by simp [execOp, hxv]) (.ptr hh) rfl
    · simp at h
  | binOp op t x y yt =>
    obtain ⟨h1, rfl⟩ := l1 h
    exact ((bin_sim hY hr (x := x) (y := y) h1 (hρ x (by simp [Op.operands])) (hρ y (by simp [Op.operands]))).sim hr).lift
  | unOp op t x =>
    obtain ⟨h1, rfl⟩ := l1 h
    exact ((un_sim hr h1 (hρ x (by simp [Op.operands]))).sim hr).lift
  | convert s d x =>
    obtain ⟨h1, rfl⟩ := l1 h
    exact ((convert_sim hY hr h1 (hρ x (by simp [Op.operands]))).sim hr).lift
  | makeFunc fn first cap =>
    simp only [eop, Option.some.injEq, Prod.mk.injEq, EN.val.injEq] at h; obtain ⟨rfl, rfl⟩ := h
    have m1 := map_R (f := ρ) (g := ρ') first.toList fun x hx => hρ x (by simp only [Op.operands, Array.mem_append]; exact .inl (by simpa using hx))
    have m2 := map_R (f := ρ) (g := ρ') cap.toList fun x hx => hρ x (by simp only [Op.operands, Array.mem_append]; exact .inr (by simpa using hx))
    have a1 : ArrR H φ (first.map ρ) (first.map ρ') := ArrR.ofList (by simpa using m1)
    have a2 : ArrR H φ (cap.map ρ) (cap.map ρ') := ArrR.ofList (by simpa using m2)
    exact same (by simp [execOp, Instr.makeFunc]) (.func fn a1.1 a2.1 a1.2 a2.2) rfl
  | makeMap t r =>
    simp only [eop] at h
    split at h
    · split at h
      · rename_i ti hti
        simp only [Option.some.injEq, Prod.mk.injEq, EN.val.injEq] at h; obtain ⟨rfl, rfl⟩ := h
        have hm := hr.alloc hu (q := 0) (o := .map #[] 0) (b := .map [] 0 true) ⟨#[], Array.getElem?_push_size, rfl, fun i h => by simp at h⟩
        exact ⟨.map (some w.heap.size), _, _, .inl (by simp [execOp, Instr.makeMap]), .map (.inl rfl) (fun _ => by simp [upd]), hm.1, hm.2⟩
      · simp at h
    · simp at h
  | makeSlice t l c =>
    have h1 := l2 h
    exact (makeSlice_sim hY hr hu h1 (hρ l (by simp [Op.operands])) (hρ c (by simp [Op.operands]))).lift
  | slice t x lo hi mx =>
    have h1 := l2 h
    refine (slice_sim hY hr hu h1 (hρ x (by simp [Op.operands])) (opt_R lo fun y hy => hρ y ?_) (opt_R hi fun y hy => hρ y ?_) (opt_R mx fun y hy => hρ y ?_)).lift
    · subst hy; simp [Op.operands]
    · subst hy; simp [Op.operands]
    · subst hy; simp [Op.operands]
  | fieldAddr t x f =>
    obtain ⟨h1, rfl⟩ := l1 h
    exact ((fieldAddr_sim hY hr h1 (hρ x (by simp [Op.operands]))).sim hr).lift
  | indexAddr t x i =>
    obtain ⟨h1, rfl⟩ := l1 h
    exact ((indexAddr_sim hY hr h1 (hρ x (by simp [Op.operands])) (hρ i (by simp [Op.operands]))).sim hr).lift
  | index t x i =>
    obtain ⟨h1, rfl⟩ := l1 h
    exact ((index_sim hY hr h1 (hρ x (by simp [Op.operands])) (hρ i (by simp [Op.operands]))).sim hr).lift
  | lookup t x i ok =>
    obtain ⟨h1, rfl⟩ := l1 h
    exact ((lookup_sim hY hr h1 (hρ x (by simp [Op.operands])) (hρ i (by simp [Op.operands]))).sim hr).lift
  | mapUpdate t m k x =>
    obtain ⟨h1, rfl⟩ := l3 h
    obtain ⟨w', g1, g2, g3⟩ := mapUpdate_sim hY hr h1 (hρ m (by simp [Op.operands])) (hρ k (by simp [Op.operands])) (hρ x (by simp [Op.operands]))
    exact ⟨undef, φ, w', .inr ⟨by simp [execOp, g1], rfl⟩, undef_VR, g2, g3⟩
  | extract x n =>
    simp only [eop] at h
    have hx := hρ x (by simp [Op.operands])
    split at h
    · rename_i vs hvs
      rw [hvs] at hx
      obtain ⟨h1, rfl⟩ := l1 h
      cases hxv : ρ' x <;> rw [hxv] at hx <;> cases hx
      rename_i vs' h2 h3
      obtain ⟨hi, rfl⟩ := Array.getElem?_eq_some_iff.1 h1
      have hi' : n < vs'.size := by rw [← h2]; exact hi
      exact same (by simp [execOp, hxv, Instr.extract, hi']) (h3 n hi hi') rfl
    · simp at h
  | call c =>
    obtain ⟨callee, args, argTypes⟩ := c
    simp only [eop] at h
    cases callee with
    | value f =>
      simp only at h
      have hf := hρ f (by simp [Op.operands, Call.operands])
      split at h
      · rename_i g first cap hfv
        rw [hfv] at hf
        split at h
        · rename_i hsame
          split at h
          · rename_i x h1 h2 h3
            simp only [Option.some.injEq, Prod.mk.injEq, EN.val.injEq] at h; obtain ⟨rfl, rfl⟩ := h
            cases hfv' : ρ' f <;> rw [hfv'] at hf <;> cases hf
            rename_i first' cap' s1 s2 _ _
            have e1 : first' = #[] := by
              have : first.size = 0 := by rw [← Array.length_toList, h1]; rfl
              exact Array.size_eq_zero_iff.1 (by omega)
            have e2 : cap' = #[] := by
              have : cap.size = 0 := by rw [← Array.length_toList, h3]; rfl
              exact Array.size_eq_zero_iff.1 (by omega)
            have e3 : args = #[x] := by apply Array.toList_inj.1; rw [h2]
            subst e1 e2 e3
            have := hY.same g hsame (ρ' x) w
            refine same (v' := ρ' x) ?_ (hρ x (by simp [Op.operands, Call.operands])) rfl
            simp [execOp, resolve, Deferred.ofValue, hfv', invoke, this]
          · simp at h
        · simp at h
      · simp at h
    | invoke r m => simp at h
    | builtin b =>
      have h1 := l2 h
      have ha : LR H φ (args.toList.map ρ) (args.toList.map ρ') := map_R args.toList fun x hx => hρ x (by simp only [Op.operands, Call.operands]; simpa using hx)
      have hex : ∀ {s : Sem Value}, (∀ consts, builtin b argTypes type consts (args.map ρ') = (do pure (.value (← s)))) → Sim P B H φ w s v H' →
          OSim P B H φ w (execOp ρ' { dst, op := .call { callee := .builtin b, args, argTypes }, type, pos, after, guard }) v H' := by
        intro s hb hs
        obtain ⟨v', φ', w', g1, g2, g3, g4⟩ := hs
        refine ⟨v', φ', w', .inl ?_, g2, g3, g4⟩
        simp only [execOp, resolve, Sem.run_bind, Sem.run_pure, Result.andThen_ok, invoke]
        rw [hb]
        simp [g1]
      unfold ebuiltin at h1
      split at h1
      · rename_i s x hal
        rw [hal] at ha
        obtain ⟨s', l1', hl1, hs, ha2⟩ := ha.cons_inv
        obtain ⟨x', l2', hl2, hx, ha3⟩ := ha2.cons_inv
        have hl3 := ha3.nil_inv
        subst hl2 hl3
        have hargs : args.map ρ' = #[s', x'] := by apply Array.toList_inj.1; simpa using hl1
        split at h1
        · rename_i t ht
          refine hex (s := Builtin.append_ argTypes type #[s', x']) (fun _ => ?_) (append_sim hY hr hu argTypes ht type h1 hs hx)
          rw [hargs]; rfl
        · simp at h1
      · rename_i x hal
        rw [hal] at ha
        obtain ⟨x', l2', hl2, hx, ha3⟩ := ha.cons_inv
        have hl3 := ha3.nil_inv
        subst hl3
        have hargs : args.map ρ' = #[x'] := by apply Array.toList_inj.1; simpa using hl2
        split at h1
        · rename_i t ht
          split at h1
          · rename_i v0 hv0
            simp only [Option.some.injEq, Prod.mk.injEq] at h1; obtain ⟨rfl, rfl⟩ := h1
            refine hex (s := Builtin.len_ argTypes type #[x']) (fun _ => ?_) ((len_sim hY hr argTypes ht type hv0 hx).sim hr)
            rw [hargs]; rfl
          · simp at h1
        · simp at h1
      · rename_i x rest hal
        rw [hal] at ha
        obtain ⟨x', l2', hl2, hx, ha3⟩ := ha.cons_inv
        have hargs : args.map ρ' = (x' :: l2').toArray := by apply Array.toList_inj.1; simpa using hl2
        split at h1
        · rename_i v0 hv0
          simp only [Option.some.injEq, Prod.mk.injEq] at h1; obtain ⟨rfl, rfl⟩ := h1
          refine hex (s := Builtin.max_ argTypes type (x' :: l2').toArray) (fun _ => ?_) ((max_sim hr argTypes type rest l2' x x' v0 hv0 hx ha3).sim hr)
          rw [hargs]; rfl
        · simp at h1
      · rename_i x rest hal
        rw [hal] at ha
        obtain ⟨x', l2', hl2, hx, ha3⟩ := ha.cons_inv
        have hargs : args.map ρ' = (x' :: l2').toArray := by apply Array.toList_inj.1; simpa using hl2
        split at h1
        · rename_i v0 hv0
          simp only [Option.some.injEq, Prod.mk.injEq] at h1; obtain ⟨rfl, rfl⟩ := h1
          refine hex (s := Builtin.min_ argTypes type (x' :: l2').toArray) (fun _ => ?_) ((min_sim hr argTypes type rest l2' x x' v0 hv0 hx ha3).sim hr)
          rw [hargs]; rfl
        · simp at h1
      · rename_i x hal
        rw [hal] at ha
        obtain ⟨x', l2', hl2, hx, ha3⟩ := ha.cons_inv
        have hl3 := ha3.nil_inv
        subst hl3
        have hargs : args.map ρ' = #[x'] := by apply Array.toList_inj.1; simpa using hl2
        split at h1
        · rename_i v0 hv0
          simp only [Option.some.injEq, Prod.mk.injEq] at h1; obtain ⟨rfl, rfl⟩ := h1
          refine hex (s := Builtin.unsafeSliceData_ argTypes type #[x']) (fun _ => ?_) ((usdata_sim hr argTypes type hv0 hx).sim hr)
          rw [hargs]; rfl
        · simp at h1
      · rename_i p n hal
        rw [hal] at ha
        obtain ⟨s', l1', hl1, hs, ha2⟩ := ha.cons_inv
        obtain ⟨x', l2', hl2, hx, ha3⟩ := ha2.cons_inv
        have hl3 := ha3.nil_inv
        subst hl2 hl3
        have hargs : args.map ρ' = #[s', x'] := by apply Array.toList_inj.1; simpa using hl1
        split at h1
        · rename_i t t2 ht
          have hts : argTypes = #[t, t2] := by apply Array.toList_inj.1; rw [ht]
          subst hts
          refine hex (s := Builtin.unsafeString_ #[t, t2] type #[s', x']) (fun _ => ?_) (ustring_sim hY hr h1 hs hx)
          rw [hargs]; rfl
        · simp at h1
      · simp at h1
  | _ => simp [eop] at h

omit hY in
theorem op_enter {ρ ρ' : Operand → Value} {id : Nat} {o : Oper} {f : FuncId} {args : Array Value} {H' : Heap} (hρ : ∀ x ∈ o.op.operands, VR H φ (ρ x) (ρ' x))
    (h : eop Y ρ id o.op H = some (.enter f args, H')) : H' = H ∧ ∃ args', execOp ρ' o = callFunc f args' ∧ ArrR H φ args args' := by
  obtain ⟨dst, op, type, pos, after, guard⟩ := o
  simp only at hρ h
  have n1 : ∀ {x : Option Value}, lift1 H x ≠ some (.enter f args, H') := by intro x; cases x <;> simp [lift1]
  have n2 : ∀ {x : Option (Value × Heap)}, lift2 x ≠ some (.enter f args, H') := by
    intro x
    cases x with
    | none => simp [lift2]
    | some y => obtain ⟨y1, y2⟩ := y; simp [lift2]
  have n3 : ∀ {x : Option Heap}, lift3 x ≠ some (.enter f args, H') := by intro x; cases x <;> simp [lift3]
  cases op with
  | call c =>
    obtain ⟨callee, cargs, argTypes⟩ := c
    simp only [eop] at h
    cases callee with
    | value fo =>
      simp only at h
      have hf := hρ fo (by simp [Op.operands, Call.operands])
      split at h
      · rename_i g first cap hfv
        rw [hfv] at hf
        split at h
        · split at h <;> simp at h
        · simp only [Option.some.injEq, Prod.mk.injEq, EN.enter.injEq] at h
          obtain ⟨⟨rfl, rfl⟩, rfl⟩ := h
          refine ⟨rfl, ?_⟩
          cases hfv' : ρ' fo <;> rw [hfv'] at hf <;> cases hf
          rename_i first' cap' s1 q1 s2 q2
          have m := map_R (f := ρ) (g := ρ') cargs.toList fun x hx => hρ x (by simp only [Op.operands, Call.operands, Array.mem_append]; exact .inr (by simpa using hx))
          refine ⟨first' ++ cargs.map ρ' ++ cap', ?_, (ArrR.append (ArrR.append ⟨s1, q1⟩ (ArrR.ofList (by simpa using m))) ⟨s2, q2⟩)⟩
          simp [execOp, resolve, Deferred.ofValue, hfv', invoke, pure, bind, Sem.bind]
      · simp at h
    | invoke r m => simp at h
    | builtin b => exact absurd h n2
  | move x => simp [eop] at h
  | assign x => simp [eop] at h
  | pick c a b => simp only [eop] at h; split at h <;> simp at h
  | alloc t => simp only [eop] at h; split at h <;> (try simp at h); split at h <;> simp at h
  | box t x => simp [eop] at h
  | nilCheck x => simp only [eop] at h; split at h <;> simp at h
  | makeFunc fn a b => simp [eop] at h
  | makeMap t r => simp only [eop] at h; split at h <;> (try simp at h); split at h <;> simp at h
  | extract x n => simp only [eop] at h; split at h <;> first | (simp at h; done) | exact absurd h n1
  | build t parts => exact absurd h n1
  | buildSlice t l parts => exact absurd h n2
  | load t a => exact absurd h n1
  | store t a x => exact absurd h n3
  | binOp op t x y yt => exact absurd h n1
  | unOp op t x => exact absurd h n1
  | convert s d x => exact absurd h n1
  | makeSlice t l c => exact absurd h n2
  | slice t x lo hi mx => exact absurd h n2
  | fieldAddr t x f => exact absurd h n1
  | indexAddr t x i => exact absurd h n1
  | index t x i => exact absurd h n1
  | lookup t x i ok => exact absurd h n1
  | mapUpdate t m k x => exact absurd h n3
  | _ => simp [eop] at h

end types
end Go.Proofs.YtcfjimhbachmlaaGreatDoor.E

/- The clean semantics: regions, plans of regions whose order is open, code. -/
namespace Go.Proofs.YtcfjimhbachmlaaGreatDoor.E
open Go

/-- what kind an operation is: `pure`: it asks nothing of memory; `read`: it only reads; `alloc`: it only makes a block; `eff`: all else -/
inductive OK where
  | pure | read | alloc | eff
  deriving DecidableEq

def okind : Op → OK
  | .move _ | .assign _ | .pick .. | .build .. | .nilCheck _ | .unOp .. | .makeFunc .. | .fieldAddr .. | .indexAddr .. | .index .. | .extract .. | .slice .. => .pure
  | .binOp op .. => match op with
    | .eql | .neq => .read
    | _ => .pure
  | .load .. | .lookup .. | .convert .. => .read
  | .alloc _ | .box .. | .buildSlice .. | .makeSlice .. | .makeMap .. => .alloc
  | .call c => match c.callee with
    | .builtin .len => .read
    | .builtin .max | .builtin .min | .builtin .unsafeSliceData => .pure
    | _ => .eff
  | _ => .eff

/-- the operations ahead of each -/
def ancs (ops : List Oper) : List (List Nat) :=
  ops.foldl (fun acc o => acc ++ [o.after.toList.foldl (fun s e => if Region.binds .any e then s ++ (if s.contains e.on then [] else [e.on]) ++ ((acc[e.on]?).getD []).filter (fun x => !s.contains x && x != e.on) else s) []]) []

def anOf (an : List (List Nat)) (i : Nat) : List Nat := (an[i]?).getD []
def kindAt (ks : List OK) (i : Nat) : OK := (ks[i]?).getD .eff

/-- a step of a plan: an operation, its kind, the operations ahead of it, the reads that are asked again behind it (with the operations ahead of them) -/
structure PS where
  i : Nat
  k : OK
  an : List Nat
  rc : List (Nat × List Nat)
  deriving DecidableEq

def allIn (l D : List Nat) : Bool := l.all D.contains

def planGo (an : List (List Nat)) (ks : List OK) (n : Nat) : Nat → List Nat → List PS → List PS
  | 0, _, acc => acc.reverse
  | fuel + 1, done, acc =>
    let ready := fun i => !done.contains i && allIn (anOf an i) done
    match (List.range n).find? (fun i => ready i && kindAt ks i != .eff) with
    | some i => planGo an ks n fuel (i :: done) (⟨i, kindAt ks i, anOf an i, []⟩ :: acc)
    | none => match (List.range n).find? ready with
      | some i => planGo an ks n fuel (i :: done) (⟨i, .eff, anOf an i, (done.filter fun r => kindAt ks r == .read && !(anOf an i).contains r).map fun r => (r, anOf an r)⟩ :: acc)
      | none => acc.reverse

def plan (ops : List Oper) : List PS := planGo (ancs ops) (ops.map (okind ·.op)) ops.length ops.length [] []

def planOK (an : List (List Nat)) (ks : List OK) (n : Nat) : List Nat → List PS → Bool
  | D, [] => (List.range n).all D.contains
  | D, ps :: rest => decide (ps.i < n) && !D.contains ps.i && decide (ps.an = anOf an ps.i) && decide (ps.k = kindAt ks ps.i) && allIn ps.an D &&
      (ps.k != .eff || (((List.range n).all fun j => D.contains j || kindAt ks j == .eff || !allIn (anOf an j) D) &&
        (D.all fun r => kindAt ks r != .read || ps.an.contains r || ps.rc.contains (r, anOf an r)))) && planOK an ks n (ps.i :: D) rest

/-- the operation that writes a slot -/
def writer (ops : List Oper) (t : Nat) : Option Nat := ops.findIdx? fun o => o.dst == some t

def opNames (o : Oper) : List Nat := o.op.operands.toList.filterMap fun | .tmp t => some t | _ => none

/-- what a plan asks of its region: edges lead backward; effects stand in one order; a slot is written once, and who names it stands behind its writer or ahead of it; the plan is one -/
def drawOK (ops : List Oper) : Bool :=
  let an := ancs ops
  let z := ops.zipIdx
  (z.all fun (o, i) =>
    ((anOf an i).all fun j => decide (j < i) && allIn (anOf an j) (anOf an i) && (o.after.toList.any fun e => Region.binds .any e && (e.on == j || (anOf an e.on).contains j))) &&
    (o.after.toList.all fun e => !Region.binds .any e || (anOf an i).contains e.on) &&
    (o.dst.all fun d => writer ops d == some i) &&
    ((opNames o).all fun t => match writer ops t with | some j => j == i || (anOf an i).contains j || (anOf an j).contains i | none => true) &&
    (match o.guard with | none => true | some (j, _) => (anOf an i).contains j) &&
    (z.all fun (o', j) => !(okind o.op == .eff && okind o'.op == .eff) || i == j || (anOf an j).contains i || (anOf an i).contains j)) &&
  planOK an (ops.map (okind ·.op)) ops.length [] (plan ops)

/-- the value of an operation that only reads -/
def evalV (Y : Env) (ρ : Operand → Value) (o : Op) (H : Heap) : Option Value :=
  match o with
  | .slice t x lo hi mx => match esliceG Y 0 t (ρ x) (lo.map ρ) (hi.map ρ) (mx.map ρ) with
    | some (v, false) => some v
    | _ => none
  | o => match eop Y ρ 0 o H with
    | some (.val v, _) => some v
    | _ => none

/-- the value of an operation that only makes a block, and the block -/
def allocV (Y : Env) (ρ : Operand → Value) (id : Nat) (o : Op) (H : Heap) : Option (Value × Blk) :=
  match eop Y ρ id o H with
  | some (.val v, H') => match H'.get id with
    | some b => some (v, b)
    | none => none
  | _ => none

def eput (g : Fm) (dst : Option Nat) (v : Value) : Fm :=
  match dst with
  | some d => fun i => if i = d then v else g i
  | none => g

/-- whether an operation is carried out -/
def ewanted (g : Fm) (ops : List Oper) (o : Oper) : Bool :=
  match o.guard with
  | none => true
  | some (j, want) => match (ops[j]?).bind (·.dst) with
    | some d => match g d with
      | .bool b => b == want
      | _ => false
    | none => false

/-- blocks that are made, but not yet laid -/
abbrev Pend := Nat → Option Blk

/-- some of the pending blocks laid -/
def com (N : Nat) (A : List Nat) (pend : Pend) (H : Heap) : Heap where
  get := fun i => if N ≤ i then (if A.contains (i - N) then (match pend (i - N) with | some b => some b | none => H.get i) else H.get i) else H.get i
  nxt := H.nxt
  used := fun i => H.used i ∨ ∃ a ∈ A, pend a ≠ none ∧ i = N + a

def rem (A : List Nat) (pend : Pend) : Pend := fun a => if A.contains a then none else pend a

def vput {α : Type} (V : Nat → α) (i : Nat) (v : α) : Nat → α := fun j => if j = i then v else V j

/-- the slots as an operation sees them: what the operations ahead of it have put there -/
def can (ops : List Oper) (g : Fm) (V : Nat → Value) (A : List Nat) : Fm := fun t =>
  match writer ops t with
  | some j => if A.contains j then V j else g t
  | none => g t

abbrev EPost := Exit → Fm → Heap → Prop

/-- an operation with what follows -/
def edo (Y : Env) (P : Program) (g : Fm) (id : Nat) (o : Oper) (H : Heap) (K : Fm → Heap → Prop) : Prop :=
  match eop Y (ev g) id o.op H with
  | some (.val v, H') => K (eput g o.dst v) H'
  | some (.enter f args, H') => SC P f args H' fun v H'' => K (eput g o.dst v) H''
  | none => False

def again (Y : Env) (ops : List Oper) (N : Nat) (g : Fm) (V : Nat → Value) (H : Heap) (pend : Pend) (r : Nat × List Nat) : Prop :=
  match ops[r.1]? with
  | none => False
  | some o => ewanted (can ops g V r.2) ops o = false ∨ evalV Y (ev (can ops g V r.2)) o.op (com N r.2 pend H) = some (V r.1)

def edw (Y : Env) (P : Program) (ops : List Oper) (N : Nat) (g : Fm) (Q : Fm → Heap → Prop) : List PS → (Nat → Value) → Heap → Pend → Prop
  | [], V, H, pend => Q (can ops g V (List.range ops.length)) (com N (List.range ops.length) pend H)
  | ps :: rest, V, H, pend =>
    match ops[ps.i]? with
    | none => False
    | some o =>
      if ewanted (can ops g V ps.an) ops o then
        match ps.k with
        | .alloc => match allocV Y (ev (can ops g V ps.an)) (N + ps.i) o.op H with
          | some (v, b) => edw Y P ops N g Q rest (vput V ps.i v) H (vput pend ps.i (some b))
          | none => False
        | .eff =>
          let K := fun v H' => (∀ r ∈ ps.rc, again Y ops N g V H' (rem ps.an pend) r) ∧ edw Y P ops N g Q rest (vput V ps.i v) H' (rem ps.an pend)
          match eop Y (ev (can ops g V ps.an)) (N + ps.i) o.op (com N ps.an pend H) with
          | some (.val v, H') => K v H'
          | some (.enter f args, H') => SC P f args H' K
          | none => False
        | _ => match evalV Y (ev (can ops g V ps.an)) o.op (com N ps.an pend H) with
          | some v => edw Y P ops N g Q rest (vput V ps.i v) H pend
          | none => False
      else edw Y P ops N g Q rest (vput V ps.i undef) H pend

def eseq (Y : Env) (P : Program) (ops : List Oper) (Q : Fm → Heap → Prop) : List Oper → Fm → Heap → Prop
  | [], g, H => Q g H
  | o :: rest, g, H => if ewanted g ops o then edo Y P g H.nxt o H fun g' H' => eseq Y P ops Q rest g' H' else eseq Y P ops Q rest (eput g o.dst undef) H

def edraw (Y : Env) (P : Program) (ops : List Oper) (Q : Fm → Heap → Prop) (g : Fm) (H : Heap) : Prop :=
  edw Y P ops H.nxt g Q (plan ops) (fun _ => undef) (H.reserve ops.length) fun _ => none

def erounds (body : EPost → Fm → Heap → Prop) (Q : EPost) : Nat → Fm → Heap → Prop
  | 0, _, _ => False
  | n + 1, g, H => body (fun e g H => match e with | .normal => erounds body Q n g H | e => Q e g H) g H

/-- what must hold ahead of a piece of code, that something holds behind it -/
def ew (Y : Env) (P : Program) : Code → EPost → Fm → Heap → Prop
  | .skip, Q, g, H => Q .normal g H
  | .region _ ops false, Q, g, H => eseq Y P ops.toList (Q .normal) ops.toList g H
  | .region _ ops true, Q, g, H => edraw Y P ops.toList (Q .normal) g H
  | .seq a b, Q, g, H => ew Y P a (fun e g H => match e with | .normal => ew Y P b Q g H | e => Q e g H) g H
  | .cond c a b, Q, g, H => match ev g c with
    | .bool true => ew Y P a Q g H
    | .bool false => ew Y P b Q g H
    | _ => False
  | .block id c, Q, g, H => ew Y P c (fun e g H => match e with | .exit i => if i = id then Q .normal g H else Q (.exit i) g H | e => Q e g H) g H
  | .loop c, Q, g, H => ∃ n, erounds (ew Y P c) Q n g H
  | .exit id, Q, g, H => Q (.exit id) g H
  | .ret, Q, g, H => Q .ret g H
  | _, _, _, _ => False

/-- what is asked of the code's text: slots and variables that are there, constants without addresses -/
def oprsOK (n G : Nat) (ops : Array Oper) : Bool :=
  ops.toList.all fun o => (o.dst.all fun d => decide (d < n)) && o.op.operands.toList.all (oprOK n G) && (match o.guard with | none => true | some (j, _) => match (ops.toList[j]?).bind (·.dst) with | some d => decide (d < n) | none => false)

def codeOK (n G : Nat) : Code → Bool
  | .region _ ops d => oprsOK n G ops && (!d || drawOK ops.toList)
  | .seq a b => codeOK n G a && codeOK n G b
  | .cond c a b => oprOK n G c && codeOK n G a && codeOK n G b
  | .block _ c => codeOK n G c
  | .loop c => codeOK n G c
  | _ => true

/-- what a function gives back -/
def eres (Y : Env) (rs : List ResultVar) (g : Fm) (H : Heap) : Option (List Value) :=
  match rs with
  | [] => some []
  | .tmp t :: rest => match eres Y rest g H with
    | some l => some (g t :: l)
    | none => none
  | .cell t ty :: rest => match eload Y H ty (g t), eres Y rest g H with
    | some v, some l => some (v :: l)
    | _, _ => none

def etuple : List Value → Value
  | [v] => v
  | l => .tuple l.toArray

end Go.Proofs.YtcfjimhbachmlaaGreatDoor.E

/- The clean semantics: which numbers an operation gives out. -/
namespace Go.Proofs.YtcfjimhbachmlaaGreatDoor.E
open Go

variable {H H' : Heap} {Y : Env}

/-- an operation gives out no number but `id` -/
structure Gives (id : Nat) (H H' : Heap) : Prop where
  used : ∀ i, H'.used i → H.used i ∨ i = id
  nxt : H.nxt ≤ H'.nxt

theorem Gives.refl (id : Nat) (H : Heap) : Gives id H H := ⟨fun _ h => .inl h, Nat.le_refl _⟩
theorem Gives.trans {id : Nat} {H H' H'' : Heap} (h : Gives id H H') (g : Gives id H' H'') : Gives id H H'' :=
  ⟨fun i hi => (g.used i hi).elim (h.used i) .inr, Nat.le_trans h.nxt g.nxt⟩
theorem gives_set (id : Nat) (H : Heap) (b : Blk) : Gives id H (H.set id b) := ⟨fun _ h => h.elim .inr .inl, le_set _ _ _⟩
theorem gives_old {id r : Nat} {H : Heap} (hl : ∀ i, H.live i → H.used i) (hr : H.get r ≠ none) (b : Blk) : Gives id H (H.set r b) :=
  ⟨fun i h => by
    rcases h with rfl | h
    · exact .inl (hl _ hr)
    · exact .inl h, le_set _ _ _⟩
theorem liv_set {id : Nat} {H : Heap} (hl : ∀ i, H.live i → H.used i) (b : Blk) : ∀ i, (H.set id b).live i → (H.set id b).used i := by
  intro i hi
  by_cases e : i = id
  · exact .inl e
  · unfold Heap.live at hi; rw [Heap.get_set_ne _ _ e] at hi; exact .inr (hl i hi)

theorem gives_putCell {id : Nat} {a : Addr} {v : Value} (hl : ∀ i, H.live i → H.used i) (h : H.putCell a v = some H') : Gives id H H' ∧ ∀ i, H'.live i → H'.used i := by
  unfold Heap.putCell at h
  split at h
  · simp at h
  · split at h
    · rename_i hg
      split at h
      · split at h
        · cases h; exact ⟨gives_old hl (by rw [hg]; simp) _, liv_set hl _⟩
        · simp at h
      · simp at h
    · simp at h

theorem gives_putCells {id : Nat} {a : Addr} : ∀ (vs : List Value) (i : Nat) (H H' : Heap), (∀ i, H.live i → H.used i) → H.putCells a i vs = some H' → Gives id H H' := by
  intro vs
  induction vs with
  | nil => intro i H H' _ h; cases h; exact Gives.refl _ _
  | cons v vs ih =>
    intro i H H' hl h
    simp only [Heap.putCells] at h
    split at h
    · simp at h
    · rename_i H1 h1
      obtain ⟨g1, g2⟩ := gives_putCell (id := id) hl h1
      exact g1.trans (ih _ _ _ g2 h)

theorem gives_store {id : Nat} {t : TypeId} {p v : Value} (hl : ∀ i, H.live i → H.used i) (h : estore Y H t p v = some H') : Gives id H H' := by
  unfold estore at h
  split at h
  · split at h
    · split at h
      · exact gives_putCells _ _ _ _ hl h
      · simp at h
    · simp at h
  · simp at h

theorem gives_append {id : Nat} {t : TypeId} {xt : Option TypeId} {s x v : Value} (hl : ∀ i, H.live i → H.used i) (h : eappend Y H id t xt s x = some (v, H')) : Gives id H H' := by
  unfold eappend at h
  split at h
  · simp at h
  · split at h
    · split at h
      · simp at h
      · split at h
        · simp at h
        · split at h
          · simp at h
          · split at h
            · simp at h
            · split at h
              · split at h
                · split at h
                  · split at h
                    · cases h; exact Gives.refl _ _
                    · simp at h
                  · split at h
                    · split at h
                      · cases h
                        exact ⟨fun i hi => hi.elim .inr .inl, le_set (H.kill _) _ _⟩
                      · simp at h
                    · simp at h
                · simp at h
              · split at h
                · split at h
                  · split at h
                    · rename_i hp; cases h; exact gives_putCells _ _ _ _ hl hp
                    · simp at h
                  · cases h; exact Gives.refl _ _
                · split at h
                  · split at h
                    · split at h
                      · cases h; exact gives_set _ _ _
                      · simp at h
                    · simp at h
                  · simp at h
    · simp at h

theorem gives_op {id : Nat} {ρ : Operand → Value} {o : Op} {r : EN} (hl : ∀ i, H.live i → H.used i) (h : eop Y ρ id o H = some (r, H')) : Gives id H H' := by
  have l1 : ∀ {x : Option Value}, lift1 H x = some (r, H') → Gives id H H' := by
    intro x hx
    cases x with
    | none => simp [lift1] at hx
    | some y => simp only [lift1, Option.some.injEq, Prod.mk.injEq] at hx; rw [← hx.2]; exact Gives.refl _ _
  have l2 : ∀ {x : Option (Value × Heap)}, lift2 x = some (r, H') → ∃ v, x = some (v, H') := by
    intro x hx
    cases x with
    | none => simp [lift2] at hx
    | some y => obtain ⟨y1, y2⟩ := y; simp only [lift2, Option.some.injEq, Prod.mk.injEq] at hx; exact ⟨y1, by rw [hx.2]⟩
  have l3 : ∀ {x : Option Heap}, lift3 x = some (r, H') → x = some H' := by
    intro x hx
    cases x with
    | none => simp [lift3] at hx
    | some y => simp only [lift3, Option.some.injEq, Prod.mk.injEq] at hx; rw [hx.2]
  cases o with
  | move x => simp only [eop, Option.some.injEq, Prod.mk.injEq] at h; rw [← h.2]; exact Gives.refl _ _
  | assign x => simp only [eop, Option.some.injEq, Prod.mk.injEq] at h; rw [← h.2]; exact Gives.refl _ _
  | pick c a b =>
    simp only [eop] at h
    split at h
    · simp only [Option.some.injEq, Prod.mk.injEq] at h; rw [← h.2]; exact Gives.refl _ _
    · simp at h
  | alloc t =>
    simp only [eop] at h
    split at h
    · split at h
      · simp only [Option.some.injEq, Prod.mk.injEq] at h; rw [← h.2]; exact gives_set _ _ _
      · simp at h
    · simp at h
  | box t x => simp only [eop, Option.some.injEq, Prod.mk.injEq] at h; rw [← h.2]; exact gives_set _ _ _
  | build t parts => exact l1 h
  | buildSlice t len parts =>
    obtain ⟨v, h1⟩ := l2 h
    unfold ebuildSlice at h1
    split at h1
    · split at h1
      · split at h1
        · split at h1
          · split at h1
            · split at h1
              · cases h1; exact gives_set _ _ _
              · simp at h1
            · simp at h1
          · simp at h1
        · simp at h1
      · simp at h1
    · simp at h1
  | load t a => exact l1 h
  | store t a x => exact gives_store hl (l3 h)
  | nilCheck x =>
    simp only [eop] at h
    split at h
    · simp only [Option.some.injEq, Prod.mk.injEq] at h; rw [← h.2]; exact Gives.refl _ _
    · simp at h
  | binOp op t x y yt => exact l1 h
  | unOp op t x => exact l1 h
  | convert s d x => exact l1 h
  | makeFunc fn a b => simp only [eop, Option.some.injEq, Prod.mk.injEq] at h; rw [← h.2]; exact Gives.refl _ _
  | makeMap t m =>
    simp only [eop] at h
    split at h
    · split at h
      · simp only [Option.some.injEq, Prod.mk.injEq] at h; rw [← h.2]; exact gives_set _ _ _
      · simp at h
    · simp at h
  | makeSlice t l c =>
    obtain ⟨v, h1⟩ := l2 h
    unfold emakeSlice at h1
    split at h1
    · split at h1
      · split at h1
        · split at h1
          · split at h1
            · split at h1
              · cases h1; exact gives_set _ _ _
              · simp at h1
            · simp at h1
          · simp at h1
        · simp at h1
      · simp at h1
    · simp at h1
  | slice t x lo hi mx =>
    obtain ⟨v, h1⟩ := l2 h
    unfold eslice at h1
    split at h1
    · cases h1; exact ⟨fun i hi => hi.elim .inr .inl, by simp only [Heap.ghost]; split <;> omega⟩
    · cases h1; exact Gives.refl _ _
    · simp at h1
  | fieldAddr t x f => exact l1 h
  | indexAddr t x i => exact l1 h
  | index t x i => exact l1 h
  | lookup t x i ok => exact l1 h
  | mapUpdate t m k x =>
    have h1 := l3 h
    unfold emapUpdate at h1
    split at h1
    · simp at h1
    · split at h1
      · split at h1
        · split at h1
          · split at h1
            · rename_i hg
              split at h1
              · split at h1
                · cases h1; exact gives_old hl (by rw [hg]; simp) _
                · simp at h1
              · cases h1; exact gives_old hl (by rw [hg]; simp) _
              · simp at h1
            · simp at h1
          · simp at h1
        · simp at h1
      · simp at h1
  | extract x n =>
    simp only [eop] at h
    split at h
    · exact l1 h
    · simp at h
  | call c =>
    obtain ⟨callee, args, ts⟩ := c
    simp only [eop] at h
    cases callee with
    | value f =>
      simp only at h
      split at h
      · split at h
        · split at h
          · simp only [Option.some.injEq, Prod.mk.injEq] at h; rw [← h.2]; exact Gives.refl _ _
          · simp at h
        · simp only [Option.some.injEq, Prod.mk.injEq] at h; rw [← h.2]; exact Gives.refl _ _
      · simp at h
    | invoke r m => simp at h
    | builtin b =>
      obtain ⟨v, h1⟩ := l2 h
      unfold ebuiltin at h1
      split at h1
      · split at h1
        · exact gives_append hl h1
        · simp at h1
      · split at h1
        · split at h1
          · cases h1; exact Gives.refl _ _
          · simp at h1
        · simp at h1
      · split at h1
        · cases h1; exact Gives.refl _ _
        · simp at h1
      · split at h1
        · cases h1; exact Gives.refl _ _
        · simp at h1
      · split at h1
        · cases h1; exact Gives.refl _ _
        · simp at h1
      · split at h1
        · unfold eustring at h1
          split at h1
          · split at h1
            · cases h1; exact Gives.refl _ _
            · simp at h1
          · split at h1
            · cases h1; exact Gives.refl _ _
            · split at h1
              · split at h1
                · rename_i hg
                  split at h1
                  · split at h1
                    · split at h1
                      · split at h1
                        · cases h1; exact gives_old hl (by rw [hg]; simp) _
                        · simp at h1
                      · simp at h1
                    · simp at h1
                  · simp at h1
                · simp at h1
              · simp at h1
          · simp at h1
        · simp at h1
      · simp at h1
  | _ => simp [eop] at h

end Go.Proofs.YtcfjimhbachmlaaGreatDoor.E

/- The clean semantics: code, but for regions whose order is open; what a function gives back. -/
namespace Go.Proofs.YtcfjimhbachmlaaGreatDoor.E
open Go

variable {B : Nat} {P : Program} {Y : Env} {n : Nat} {H0 : Heap} {φ0 : Mp} {w0 : World}

/-- how a frame and a heap stand to an activation and a world -/
structure St (P : Program) (B n : Nat) (H0 : Heap) (φ0 : Mp) (w0 : World) (g : Fm) (H : Heap) (a : Act) (w : World) : Prop where
  ex : ∃ φ, FR H φ n g a.tmps ∧ HR B P H φ w ∧ Ext H0 φ0 w0 H φ w
  fresh : ∀ i, H.used i → H0.used i ∨ H0.nxt ≤ i
  nodefer : a.defers = []

theorem FR.put {H : Heap} {φ : Mp} {g : Fm} {a : Act} (h : FR H φ n g a.tmps) {d : Option Nat} {v v' : Value} (hv : VR H φ v v') : FR H φ n (eput g d v) (a.put d v').tmps := by
  cases d with
  | none => exact h
  | some d =>
    refine ⟨by simpa [Act.put] using h.1, fun i hi => ?_⟩
    simp only [Act.put] at hi ⊢
    rw [Array.getElem_setIfInBounds (by simpa using hi)]
    simp only [eput]
    by_cases e : d = i
    · simp [e]; exact hv
    · have : ¬ i = d := fun h => e h.symm
      simp only [e, this, if_false]; exact h.2 i (by simpa using hi)

theorem put_defers {a : Act} {d : Option Nat} {v : Value} : (a.put d v).defers = a.defers := by cases d <;> rfl

theorem VR.bool_iff {H : Heap} {φ : Mp} {v v' : Value} (h : VR H φ v v') (b : Bool) : v = .bool b ↔ v' = .bool b := by
  cases h <;> simp

def gOK (n : Nat) (ops : List Oper) (o : Oper) : Bool :=
  match o.guard with | none => true | some (j, _) => match (ops[j]?).bind (·.dst) with | some d => decide (d < n) | none => false

theorem wanted_ok {H : Heap} {φ : Mp} {g : Fm} {tmps : Array Value} (h : FR H φ n g tmps) {ops : Array Oper} {o : Oper} (hg : gOK n ops.toList o = true) :
    Region.wanted o (yielded ops tmps) = ewanted g ops.toList o := by
  unfold Region.wanted ewanted
  unfold gOK at hg
  split
  · rename_i he; simp [he]
  · rename_i j want he
    simp only [he] at hg ⊢
    simp only [yielded]
    have e0 : ops.toList[j]? = ops[j]? := by simp
    rw [e0] at hg ⊢
    cases hd : (ops[j]?).bind (·.dst) with
    | none => simp [hd] at hg
    | some d =>
      simp only [hd, decide_eq_true_eq] at hg
      have hlt : d < tmps.size := by rw [h.1]; exact hg
      have hv := h.2 d hlt
      simp only [Option.bind_some, Array.getElem?_eq_getElem hlt]
      generalize tmps[d] = v' at hv
      generalize g d = v at hv
      cases hv <;> simp

theorem St.value {g : Fm} {H H' : Heap} {a : Act} {w w' : World} {φ φ' : Mp} {d : Option Nat} {v v' : Value} (hf : FR H φ n g a.tmps) (hd : a.defers = [])
    (he0 : Ext H0 φ0 w0 H φ w) (hv : VR H' φ' v v') (hr : HR B P H' φ' w') (he : Ext H φ w H' φ' w') (hfr : ∀ i, H'.used i → H0.used i ∨ H0.nxt ≤ i) :
    St P B n H0 φ0 w0 (eput g d v) H' (a.put d v') w' :=
  ⟨⟨φ', (hf.mono he.toLater).put hv, hr, he0.trans he⟩, hfr, by rw [put_defers]; exact hd⟩

/-- an operation with what follows -/
theorem edo_sim (hY : Y.ok P) {g : Fm} {H : Heap} {a : Act} {w : World} {o : Oper} {id : Nat} {K : Fm → Heap → Prop} {next : Act → World → Prop} {Q : Exit → Act → World → Prop}
    (hs : St P B n H0 φ0 w0 g H a w) (hu : ¬ H.used id) (hid : H0.nxt ≤ id) (hop : ∀ x ∈ o.op.operands, oprOK n P.globals.size x = true)
    (h : edo Y P g id o H K) (hk : ∀ g' H' a' w', K g' H' → St P B n H0 φ0 w0 g' H' a' w' → next a' w') : o.wp P a w next Q := by
  obtain ⟨⟨φ, hf, hr, he0⟩, hfr, hd⟩ := hs
  have hρ : ∀ x ∈ o.op.operands, VR H φ (ev g x) (a.eval x) := fun x hx => ev_ok hr hf (hop x hx)
  unfold edo at h
  unfold Oper.wp
  split at h
  · rename_i v H' hev
    have hg := gives_op hr.liv hev
    have hfr' : ∀ i, H'.used i → H0.used i ∨ H0.nxt ≤ i := fun i hi => (hg.used i hi).elim (hfr i) fun e => .inr (e ▸ hid)
    obtain ⟨v', φ', w', hrun, hv, hr', he⟩ := op_val hY hr hu hρ hev
    rcases hrun with hrun | ⟨hrun, rfl⟩
    · rw [hrun]; exact hk _ _ _ _ h (St.value hf hd he0 hv hr' he hfr')
    · rw [hrun]; exact hk _ _ _ _ h (St.value hf hd he0 hv hr' he hfr')
  · rename_i f args H' hev
    obtain ⟨rfl, args', hex, hargs⟩ := op_enter hρ hev
    obtain ⟨⟨fn, hfn, hname, hbody⟩, hcalls⟩ := h
    have hrun : (execOp a.eval o).run P w = .ok (.enter f args') w := by
      have h1 : fn.name ≠ "runtime.NumGoroutine" := by simpa using hname
      obtain ⟨c, hc⟩ : ∃ c, fn.body = some c := by
        cases hb : fn.body with
        | none => simp [hb] at hbody
        | some c => exact ⟨c, rfl⟩
      rw [hex]; simp [callFunc, hfn, h1, hc]
    rw [hrun, Oper.upon_enter]
    refine (hcalls B φ w args' hr hargs).mono ?_
    rintro e w' ⟨v, H', φ', v', hK, rfl, hv, hr', he, hfr'⟩
    exact hk _ _ _ _ hK (St.value hf hd he0 hv hr' he fun i hi => (hfr' i hi).elim (hfr i) fun h => .inr (Nat.le_trans he0.nxt h))
  · exact h.elim

theorem eseq_sim (hY : Y.ok P) {ops : Array Oper} (hops : oprsOK n P.globals.size ops = true) {Q : Fm → Heap → Prop} {QQ : Exit → Act → World → Prop}
    (hQ : ∀ g H a w, Q g H → St P B n H0 φ0 w0 g H a w → QQ .normal a w) : ∀ (l : List Oper) (k : Nat) (g : Fm) (H : Heap) (a : Act) (w : World),
    ops.toList.drop k = l → St P B n H0 φ0 w0 g H a w → eseq Y P ops.toList Q l g H → wpOps P ops QQ (List.range' k l.length) a w := by
  intro l
  induction l with
  | nil => intro k g H a w _ hs h; exact hQ _ _ _ _ h hs
  | cons o l ih =>
    intro k g H a w hl hs h
    have hko : ops.toList[k]? = some o := by
      have : (ops.toList.drop k)[0]? = some o := by rw [hl]; rfl
      simpa using this
    have hko' : ops[k]? = some o := by simpa using hko
    have hl' : ops.toList.drop (k + 1) = l := by
      have := congrArg List.tail hl
      simpa [List.tail_drop] using this
    have hmem : o ∈ ops.toList := List.mem_of_getElem? hko
    have hoo := List.all_eq_true.1 hops o hmem
    simp only [Bool.and_eq_true] at hoo
    obtain ⟨⟨hdst, hopr⟩, hgd⟩ := hoo
    simp only [eseq] at h
    simp only [List.length_cons, List.range'_succ, wpOps, hko']
    obtain ⟨φ, hf, hr, he⟩ := hs.ex
    rw [wanted_ok hf (o := o) hgd]
    split
    · rename_i hw
      simp only [hw, if_true] at h
      refine .inl (edo_sim hY hs (fun hu => Nat.lt_irrefl _ (hr.lt _ hu)) he.nxt (fun x hx => ?_) h fun g' H' a' w' hK hs' => ih (k + 1) g' H' a' w' hl' hs' hK)
      exact List.all_eq_true.1 hopr x (by simpa using hx)
    · rename_i hw
      simp only [hw, if_false, Bool.false_eq_true] at h
      refine ih (k + 1) _ _ _ _ hl' ?_ h
      exact ⟨⟨φ, hf.put undef_VR, hr, he⟩, hs.fresh, by rw [put_defers]; exact hs.nodefer⟩

theorem range_eq (n : Nat) : List.range n = List.range' 0 n := List.range_eq_range'

/-- what is asked of the simulation of a region whose order is open -/
def DrawSim (P : Program) (Y : Env) : Prop :=
  ∀ (B n : Nat) (H0 : Heap) (φ0 : Mp) (w0 : World) (id : Nat) (ops : Array Oper), oprsOK n P.globals.size ops = true → drawOK ops.toList = true → ∀ (Q : Fm → Heap → Prop) (QQ : Exit → Act → World → Prop),
    (∀ g H a w, Q g H → St P B n H0 φ0 w0 g H a w → QQ .normal a w) → ∀ g H a w, St P B n H0 φ0 w0 g H a w → edraw Y P ops.toList Q g H → (Code.region id ops true).wp P QQ a w

/-- the posts: what holds behind the code, of some frame and heap that stand to the activation and the world -/
def PostS (P : Program) (B n : Nat) (H0 : Heap) (φ0 : Mp) (w0 : World) (Q : EPost) : Exit → Act → World → Prop :=
  fun e a w => ∃ g H, Q e g H ∧ St P B n H0 φ0 w0 g H a w

theorem ew_sim (hY : Y.ok P) (hD : DrawSim P Y) : ∀ (c : Code), codeOK n P.globals.size c = true → ∀ (Q : EPost) (g : Fm) (H : Heap) (a : Act) (w : World),
    St P B n H0 φ0 w0 g H a w → ew Y P c Q g H → c.wp P (PostS P B n H0 φ0 w0 Q) a w := by
  intro c
  induction c with
  | skip => intro _ Q g H a w hs h; exact wp_skip ⟨g, H, h, hs⟩
  | region id ops draw =>
    intro hc Q g H a w hs h
    simp only [codeOK, Bool.and_eq_true] at hc
    obtain ⟨hc, hdr⟩ := hc
    cases draw with
    | false =>
      refine wp_region ?_
      have := eseq_sim hY hc (Q := Q .normal) (QQ := PostS P B n H0 φ0 w0 Q) (fun g H a w h1 h2 => ⟨g, H, h1, h2⟩) ops.toList 0 g H a w rfl hs h
      rw [range_eq]; simpa using this
    | true => exact hD B n H0 φ0 w0 id ops hc (by simpa using hdr) (Q .normal) _ (fun g H a w h1 h2 => ⟨g, H, h1, h2⟩) g H a w hs h
  | seq x y ihx ihy =>
    intro hc Q g H a w hs h
    simp only [codeOK, Bool.and_eq_true] at hc
    refine wp_seq (wp_mono (ihx hc.1 _ _ _ _ _ hs h) ?_)
    rintro e a' w' ⟨g', H', hq, hs'⟩
    cases e with
    | normal => exact ihy hc.2 _ _ _ _ _ hs' hq
    | _ => exact ⟨g', H', hq, hs'⟩
  | cond x y z ihy ihz =>
    intro hc Q g H a w hs h
    simp only [codeOK, Bool.and_eq_true] at hc
    obtain ⟨φ, hf, hr, he⟩ := hs.ex
    have hx := ev_ok hr hf hc.1.1
    simp only [ew] at h
    split at h
    · rename_i hx1
      exact wp_cond_true ((hx.bool_iff true).1 hx1) (ihy hc.1.2 _ _ _ _ _ hs h)
    · rename_i hx1
      exact wp_cond_false ((hx.bool_iff false).1 hx1) (ihz hc.2 _ _ _ _ _ hs h)
    · exact h.elim
  | block id c ih =>
    intro hc Q g H a w hs h
    refine wp_block (wp_mono (ih hc _ _ _ _ _ hs h) ?_)
    rintro e a' w' ⟨g', H', hq, hs'⟩
    cases e with
    | exit i =>
      simp only [Exit.inBlock] at hq ⊢
      split
      · rename_i e; simp only [e, if_true] at hq; exact ⟨g', H', hq, hs'⟩
      · rename_i e; simp only [e, if_false] at hq; exact ⟨g', H', hq, hs'⟩
    | _ => exact ⟨g', H', hq, hs'⟩
  | loop c ih =>
    intro hc Q g H a w hs h
    obtain ⟨m, hm⟩ := h
    refine wp_loop_rounds m ?_
    clear hY hD
    revert g H a w
    induction m with
    | zero => intro g H a w _ h; exact h.elim
    | succ m ihm =>
      intro g H a w hs h
      rw [rounds_succ]
      refine wp_mono (ih hc _ _ _ _ _ hs h) ?_
      rintro e a' w' ⟨g', H', hq, hs'⟩
      cases e with
      | normal => exact ihm g' H' a' w' hs' hq
      | _ => exact ⟨g', H', hq, hs'⟩
  | exit id => intro _ Q g H a w hs h; exact wp_exit ⟨g, H, h, hs⟩
  | ret => intro _ Q g H a w hs h; exact wp_ret ⟨g, H, h, hs⟩
  | _ => intro _ Q g H a w hs h; exact h.elim

/-! what a function gives back -/

def resOK (n : Nat) (rs : List ResultVar) : Bool := rs.all fun | .tmp t => decide (t < n) | .cell t _ => decide (t < n)

def resM (tmps : Array Value) : ResultVar → Sem Value
  | .tmp t => pure (tmps.getD t undef)
  | .cell a t => do loadVar t (← asAddr (tmps.getD a undef))

theorem eres_sim (hY : Y.ok P) {H : Heap} {φ : Mp} {w : World} {g : Fm} {tmps : Array Value} (hr : HR B P H φ w) (hf : FR H φ n g tmps) : ∀ (rs : List ResultVar) (vs : List Value), resOK n rs = true → eres Y rs g H = some vs →
    ∃ vs', (rs.mapM (resM tmps)).run P w = .ok vs' w ∧ LR H φ vs vs' := by
  have hg : ∀ t, t < n → VR H φ (g t) (tmps.getD t undef) := by
    intro t ht
    have : t < tmps.size := by rw [hf.1]; exact ht
    rw [Array.getD_eq_getD_getElem?, Array.getElem?_eq_getElem this]; exact hf.2 t this
  intro rs
  induction rs with
  | nil => intro vs _ h; cases h; exact ⟨[], by simp, LR.nil⟩
  | cons r rs ih =>
    intro vs hok h
    simp only [resOK, List.all_cons, Bool.and_eq_true] at hok
    cases r with
    | tmp t =>
      simp only [eres] at h
      split at h
      · rename_i l hl
        cases h
        obtain ⟨vs', h1, h2⟩ := ih l hok.2 hl
        exact ⟨_ :: vs', by simp [List.mapM_cons, resM, h1], LR.cons (hg t (by simpa using hok.1)) h2⟩
      · simp at h
    | cell t ty =>
      simp only [eres] at h
      split at h
      · rename_i v l hv hl
        cases h
        obtain ⟨vs', h1, h2⟩ := ih l hok.2 hl
        have ht := hg t (by simpa using hok.1)
        obtain ⟨v', k1, k2⟩ := load_sim hY hr hv ht
        generalize htv : tmps.getD t undef = tv at ht k1
        generalize hgv : g t = gv at ht hv
        cases ht with
        | ptr ha =>
          rename_i a a'
          have k3 : (loadVar ty a').run P w = .ok v' w := by simpa [Instr.loadAt, Instr.sureAddr] using k1
          exact ⟨v' :: vs', by simp [List.mapM_cons, resM, htv, asAddr, k3, h1], LR.cons k2 h2⟩
        | _ => simp [eload] at hv
      · simp at h

theorem results_sim (hY : Y.ok P) {H : Heap} {φ : Mp} {w : World} {g : Fm} {tmps : Array Value} (hr : HR B P H φ w) (hf : FR H φ n g tmps) {fn : Func} {vs : List Value} (hok : resOK n fn.results.toList = true)
    (h : eres Y fn.results.toList g H = some vs) : ∃ v', (results fn tmps).run P w = .ok v' w ∧ VR H φ (etuple vs) v' := by
  obtain ⟨vs', h1, h2⟩ := eres_sim hY hr hf _ _ hok h
  have h3 : (fn.results.mapM (resM tmps)).run P w = .ok vs'.toArray w := by
    rw [← Array.toArray_toList (xs := fn.results), List.mapM_toArray]
    simp [h1]
  have h4 : (results fn tmps).run P w = .ok (if h : vs'.toArray.size = 1 then vs'.toArray[0] else .tuple vs'.toArray) w := by
    have : results fn tmps = (do let vs ← fn.results.mapM (resM tmps); pure (if h : vs.size = 1 then vs[0] else .tuple vs)) := rfl
    rw [this]; simp [h3]
  refine ⟨_, h4, ?_⟩
  have hlen := h2.1
  cases vs with
  | nil => rw [h2.nil_inv]; exact .tuple rfl (fun i h => by simp at h)
  | cons v1 l =>
    obtain ⟨v1', l', rfl, hv1, hl⟩ := h2.cons_inv
    cases l with
    | nil => rw [hl.nil_inv]; simpa [etuple] using hv1
    | cons v2 l =>
      obtain ⟨v2', l2', rfl, hv2, hl2⟩ := hl.cons_inv
      simp only [etuple]
      have : ¬ (v1' :: v2' :: l2').toArray.size = 1 := by simp
      simp only [this, dite_false]
      exact .tuple h2.toArr.1 h2.toArr.2

/-- the slots at the beginning -/
def frame0 (args : Array Value) : Fm := fun i => args.toList.getD i undef

def EEnd (Y : Env) (fn : Func) (Post : Value → Heap → Prop) : EPost := fun e g H =>
  match e with
  | .normal | .ret => match eres Y fn.results.toList g H with
    | some vs => Post (etuple vs) H
    | none => False
  | _ => False

/-- a function, from its code -/
theorem SC_of_ew (hY : Y.ok P) (hD : DrawSim P Y) {f : FuncId} {fn : Func} {c : Code} {args : Array Value} {H : Heap} {Post : Value → Heap → Prop}
    (hf : P.funcs[f]? = some fn) (hname : (fn.name == "runtime.NumGoroutine") = false) (hb : fn.body = some c) (hc : codeOK fn.ntmps P.globals.size c = true) (hres : resOK fn.ntmps fn.results.toList = true)
    (hargs : args.size ≤ fn.ntmps) (h : ew Y P c (EEnd Y fn Post) (frame0 args) H) : SC P f args H Post := by
  refine ⟨⟨fn, hf, hname, by simp [hb]⟩, fun B φ w args' hr ha => ?_⟩
  refine calls_of_wp hf hb ?_
  have hs : St P B fn.ntmps H φ w (frame0 args) H { tmps := args' ++ Array.replicate (fn.ntmps - args'.size) undef, defers := [] } w := by
    have hsz := ha.1
    refine ⟨⟨φ, ⟨by simp; omega, fun i hi => ?_⟩, hr, Ext.refl _ _ _⟩, fun i hi => .inl hi, rfl⟩
    simp only [frame0]
    rw [Array.getElem_append]
    split
    · rename_i hi'
      have hi'' : i < args.size := by omega
      have : args.toList.getD i undef = args[i] := by simp [List.getD, hi'']
      rw [this]; exact ha.2 i hi'' hi'
    · rename_i hi'
      have hi'' : args.size ≤ i := by omega
      have : args.toList.getD i undef = undef := by simp [List.getD, hi'']
      rw [this]; simp only [Array.getElem_replicate]; exact undef_VR
  refine wp_mono (ew_sim hY hD c hc _ _ _ _ _ hs h) ?_
  rintro e a w' ⟨g, H', hq, hs'⟩
  obtain ⟨φ', hf', hr', he'⟩ := hs'.ex
  have fin : (match eres Y fn.results.toList g H' with | some vs => Post (etuple vs) H' | none => False) → a.defers = [] ∧ ∃ v, (results fn a.tmps).run P w' = .ok v w' ∧
      ∃ v0 H'' φ'' v', Post v0 H'' ∧ Ending.returned v = .returned v' ∧ VR H'' φ'' v0 v' ∧ HR B P H'' φ'' w' ∧ Ext H φ w H'' φ'' w' ∧ ∀ i, H''.used i → H.used i ∨ H.nxt ≤ i := by
    intro hq
    split at hq
    · rename_i vs hvs
      obtain ⟨v', h1, h2⟩ := results_sim hY hr' hf' hres hvs
      exact ⟨hs'.nodefer, v', h1, etuple vs, H', φ', v', hq, rfl, h2, hr', he', hs'.fresh⟩
    · exact hq.elim
  cases e with
  | normal => exact fin hq
  | ret => exact fin hq
  | _ => exact hq.elim

end Go.Proofs.YtcfjimhbachmlaaGreatDoor.E

/- The clean semantics: operations that only read, or that only make a block, apart from the heap; parts of heaps. -/
namespace Go.Proofs.YtcfjimhbachmlaaGreatDoor.E
open Go

variable {B : Nat} {P : Program} {Y : Env} {H : Heap} {φ : Mp} {w : World}

/-- a slice whose address is known has it whatever the number -/
theorem slice_id {id id' : Nat} {t : TypeId} {x : Value} {lo hi mx : Option Value} {v : Value} (h : esliceG Y id t x lo hi mx = some (v, false)) : esliceG Y id' t x lo hi mx = some (v, false) := h

theorem Sim0.lift0 {s : Sem Value} {v : Value} (h : Sim0 P H φ w s v) : ∃ v', (do pure (Next.value (← s)) : Sem Next).run P w = .ok (.value v') w ∧ VR H φ v v' :=
  let ⟨v', h1, h2⟩ := h
  ⟨v', by simp [h1], h2⟩

set_option maxHeartbeats 2000000 in
/-- an operation that only reads: it comes to its value, and nothing turns -/
theorem op_same (hY : Y.ok P) {ρ ρ' : Operand → Value} {o : Oper} {v : Value} (hr : HR B P H φ w) (hk : okind o.op = .pure ∨ okind o.op = .read) (hρ : ∀ x ∈ o.op.operands, VR H φ (ρ x) (ρ' x))
    (h : evalV Y ρ o.op H = some v) : ∃ v', (execOp ρ' o).run P w = .ok (.value v') w ∧ VR H φ v v' := by
  obtain ⟨dst, op, type, pos, after, guard⟩ := o
  simp only at hρ h hk
  have l1 : ∀ {x : Option Value}, (match lift1 H x with | some (.val v, _) => some v | _ => none) = some v → x = some v := by
    intro x hx
    cases x with
    | none => simp [lift1] at hx
    | some y => simpa [lift1] using hx
  have same : ∀ {v' : Value} {s : Sem Next}, s.run P w = .ok (.value v') w → VR H φ v v' → ∃ v', s.run P w = .ok (.value v') w ∧ VR H φ v v' := fun hs hv => ⟨_, hs, hv⟩
  cases op with
  | move x => simp only [evalV, eop, Option.some.injEq] at h; subst h; exact same (by simp [execOp]) (hρ x (by simp [Op.operands]))
  | assign x => simp only [evalV, eop, Option.some.injEq] at h; subst h; exact same (by simp [execOp]) (hρ x (by simp [Op.operands]))
  | pick c a b =>
    simp only [evalV, eop] at h
    have hc := hρ c (by simp [Op.operands])
    cases hcv : ρ c with
    | bool t =>
      rw [hcv] at hc h
      simp only [Option.some.injEq] at h; subst h
      cases hcv' : ρ' c <;> rw [hcv'] at hc <;> cases hc
      refine same (v' := if t then ρ' a else ρ' b) (by simp [execOp, hcv', asBool]) ?_
      cases t
      · exact hρ b (by simp [Op.operands])
      · exact hρ a (by simp [Op.operands])
    | _ => rw [hcv] at h; simp at h
  | build t parts =>
    have h1 := l1 h
    have hp := parts_R (f := ρ) (g := ρ') parts.toList fun p hp => hρ p.2 (by simp only [Op.operands, List.mem_toArray, List.mem_map]; exact ⟨p, hp, rfl⟩)
    exact (build_sim hY hr h1 (parts' := parts.map fun (i, x) => (i, ρ' x)) (by simpa using hp)).lift0
  | load t a => exact (load_sim hY hr (l1 h) (hρ a (by simp [Op.operands]))).lift0
  | nilCheck x =>
    simp only [evalV, eop] at h
    have hx := hρ x (by simp [Op.operands])
    cases hxv : ρ x with
    | pointer p =>
      cases p with
      | none => rw [hxv] at h; simp at h
      | some a =>
        rw [hxv] at hx h
        simp only [Option.some.injEq] at h; subst h
        cases hxv' : ρ' x <;> rw [hxv'] at hx <;> cases hx
        rename_i hh
        exact same (by simp [execOp, hxv']) (.ptr hh)
    | _ => rw [hxv] at h; simp at h
  | binOp op t x y yt => exact (bin_sim hY hr (x := x) (y := y) (l1 h) (hρ x (by simp [Op.operands])) (hρ y (by simp [Op.operands]))).lift0
  | unOp op t x => exact (un_sim hr (l1 h) (hρ x (by simp [Op.operands]))).lift0
  | convert s d x => exact (convert_sim hY hr (l1 h) (hρ x (by simp [Op.operands]))).lift0
  | makeFunc fn first cap =>
    simp only [evalV, eop, Option.some.injEq] at h; subst h
    have m1 := map_R (f := ρ) (g := ρ') first.toList fun x hx => hρ x (by simp only [Op.operands, Array.mem_append]; exact .inl (by simpa using hx))
    have m2 := map_R (f := ρ) (g := ρ') cap.toList fun x hx => hρ x (by simp only [Op.operands, Array.mem_append]; exact .inr (by simpa using hx))
    have a1 : ArrR H φ (first.map ρ) (first.map ρ') := ArrR.ofList (by simpa using m1)
    have a2 : ArrR H φ (cap.map ρ) (cap.map ρ') := ArrR.ofList (by simpa using m2)
    exact same (by simp [execOp, Instr.makeFunc]) (.func fn a1.1 a2.1 a1.2 a2.2)
  | slice t x lo hi mx =>
    simp only [evalV] at h
    split at h
    · rename_i v0 hv0
      cases h
      refine ((slice_simG hY hr (id := H.nxt) (fun hu => Nat.lt_irrefl _ (hr.lt _ hu)) (slice_id hv0) (hρ x (by simp [Op.operands])) (opt_R lo fun y hy => hρ y ?_) (opt_R hi fun y hy => hρ y ?_) (opt_R mx fun y hy => hρ y ?_)).1 rfl).lift0
      · subst hy; simp [Op.operands]
      · subst hy; simp [Op.operands]
      · subst hy; simp [Op.operands]
    · simp at h
  | fieldAddr t x f => exact (fieldAddr_sim hY hr (l1 h) (hρ x (by simp [Op.operands]))).lift0
  | indexAddr t x i => exact (indexAddr_sim hY hr (l1 h) (hρ x (by simp [Op.operands])) (hρ i (by simp [Op.operands]))).lift0
  | index t x i => exact (index_sim hY hr (l1 h) (hρ x (by simp [Op.operands])) (hρ i (by simp [Op.operands]))).lift0
  | lookup t x i ok => exact (lookup_sim hY hr (l1 h) (hρ x (by simp [Op.operands])) (hρ i (by simp [Op.operands]))).lift0
  | extract x n =>
    simp only [evalV, eop] at h
    have hx := hρ x (by simp [Op.operands])
    cases hxv : ρ x with
    | tuple vs =>
      rw [hxv] at hx h
      have h1 := l1 h
      cases hxv' : ρ' x <;> rw [hxv'] at hx <;> cases hx
      rename_i vs' h2 h3
      obtain ⟨hi, rfl⟩ := Array.getElem?_eq_some_iff.1 h1
      have hi' : n < vs'.size := by rw [← h2]; exact hi
      exact same (by simp [execOp, hxv', Instr.extract, hi']) (h3 n hi hi')
    | _ => rw [hxv] at h; simp at h
  | call c =>
    obtain ⟨callee, args, argTypes⟩ := c
    cases callee with
    | value f => simp [okind] at hk
    | invoke r m => simp [okind] at hk
    | builtin b =>
      have ha : LR H φ (args.toList.map ρ) (args.toList.map ρ') := map_R args.toList fun x hx => hρ x (by simp only [Op.operands, Call.operands]; simpa using hx)
      have hex : ∀ {s : Sem Value}, (∀ consts, builtin b argTypes type consts (args.map ρ') = (do pure (.value (← s)))) → Sim0 P H φ w s v →
          ∃ v', (execOp ρ' { dst, op := .call { callee := .builtin b, args, argTypes }, type, pos, after, guard }).run P w = .ok (.value v') w ∧ VR H φ v v' := by
        intro s hb hs
        obtain ⟨v', g1, g2⟩ := hs
        refine ⟨v', ?_, g2⟩
        simp only [execOp, resolve, Sem.run_bind, Sem.run_pure, Result.andThen_ok, invoke]
        rw [hb]
        simp [g1]
      have h2 : ∃ H', ebuiltin Y H 0 b argTypes (args.toList.map ρ) = some (v, H') := by
        simp only [evalV, eop] at h
        cases he : ebuiltin Y H 0 b argTypes (args.toList.map ρ) with
        | none => rw [he] at h; simp [lift2] at h
        | some y => obtain ⟨y1, y2⟩ := y; rw [he] at h; simp [lift2] at h; exact ⟨y2, by rw [h]⟩
      obtain ⟨H', h1⟩ := h2
      unfold ebuiltin at h1
      split at h1
      · simp [okind] at hk
      · rename_i x hal
        rw [hal] at ha
        obtain ⟨x', l2', hl2, hx, ha3⟩ := ha.cons_inv
        have hl3 := ha3.nil_inv
        subst hl3
        have hargs : args.map ρ' = #[x'] := by apply Array.toList_inj.1; simpa using hl2
        split at h1
        · rename_i t ht
          split at h1
          · rename_i v0 hv0
            simp only [Option.some.injEq, Prod.mk.injEq] at h1; obtain ⟨rfl, rfl⟩ := h1
            refine hex (s := Builtin.len_ argTypes type #[x']) (fun _ => ?_) (len_sim hY hr argTypes ht type hv0 hx)
            rw [hargs]; rfl
          · simp at h1
        · simp at h1
      · rename_i x rest hal
        rw [hal] at ha
        obtain ⟨x', l2', hl2, hx, ha3⟩ := ha.cons_inv
        have hargs : args.map ρ' = (x' :: l2').toArray := by apply Array.toList_inj.1; simpa using hl2
        split at h1
        · rename_i v0 hv0
          simp only [Option.some.injEq, Prod.mk.injEq] at h1; obtain ⟨rfl, rfl⟩ := h1
          refine hex (s := Builtin.max_ argTypes type (x' :: l2').toArray) (fun _ => ?_) (max_sim hr argTypes type rest l2' x x' v0 hv0 hx ha3)
          rw [hargs]; rfl
        · simp at h1
      · rename_i x rest hal
        rw [hal] at ha
        obtain ⟨x', l2', hl2, hx, ha3⟩ := ha.cons_inv
        have hargs : args.map ρ' = (x' :: l2').toArray := by apply Array.toList_inj.1; simpa using hl2
        split at h1
        · rename_i v0 hv0
          simp only [Option.some.injEq, Prod.mk.injEq] at h1; obtain ⟨rfl, rfl⟩ := h1
          refine hex (s := Builtin.min_ argTypes type (x' :: l2').toArray) (fun _ => ?_) (min_sim hr argTypes type rest l2' x x' v0 hv0 hx ha3)
          rw [hargs]; rfl
        · simp at h1
      · rename_i x hal
        rw [hal] at ha
        obtain ⟨x', l2', hl2, hx, ha3⟩ := ha.cons_inv
        have hl3 := ha3.nil_inv
        subst hl3
        have hargs : args.map ρ' = #[x'] := by apply Array.toList_inj.1; simpa using hl2
        split at h1
        · rename_i v0 hv0
          simp only [Option.some.injEq, Prod.mk.injEq] at h1; obtain ⟨rfl, rfl⟩ := h1
          refine hex (s := Builtin.unsafeSliceData_ argTypes type #[x']) (fun _ => ?_) (usdata_sim hr argTypes type hv0 hx)
          rw [hargs]; rfl
        · simp at h1
      · simp [okind] at hk
      · simp at h1
  | _ => simp [okind] at hk

end Go.Proofs.YtcfjimhbachmlaaGreatDoor.E

/- The clean semantics: what does not ask the heap; parts of heaps; other maps. -/
namespace Go.Proofs.YtcfjimhbachmlaaGreatDoor.E
open Go

variable {B : Nat} {P : Program} {Y : Env} {H : Heap} {φ : Mp} {w : World}

theorem bin_pure {H2 : Heap} {op : BinOp} (h1 : op ≠ .eql) (h2 : op ≠ .neq) (t : TypeId) (x y : Value) : ebin Y H op t x y = ebin Y H2 op t x y := by
  cases op <;> first | exact absurd rfl h1 | exact absurd rfl h2 | (cases x <;> cases y <;> rfl)

/-- what asks nothing of the heap -/
theorem evalV_pure {H2 : Heap} {ρ : Operand → Value} {o : Op} (hk : okind o = .pure) : evalV Y ρ o H = evalV Y ρ o H2 := by
  cases o with
  | binOp op t x y yt =>
    have h1 : op ≠ .eql := by rintro rfl; simp [okind] at hk
    have h2 : op ≠ .neq := by rintro rfl; simp [okind] at hk
    simp only [evalV, eop, bin_pure (H := H) (H2 := H2) h1 h2]
    cases ebin Y H2 op t (ρ x) (ρ y) <;> rfl
  | move x => rfl
  | assign x => rfl
  | pick c a b => simp only [evalV, eop]; cases ρ c <;> rfl
  | build t parts => simp only [evalV, eop]; cases ebuild Y t (List.map (fun p => (p.fst, ρ p.snd)) parts.toList) <;> rfl
  | nilCheck x =>
    simp only [evalV, eop]
    cases ρ x with
    | pointer p => cases p <;> rfl
    | _ => rfl
  | unOp op t x => simp only [evalV, eop]; cases eun op (ρ x) <;> rfl
  | makeFunc fn a b => rfl
  | slice t x lo hi mx => rfl
  | fieldAddr t x f => simp only [evalV, eop]; cases efieldAddr Y t (ρ x) f <;> rfl
  | indexAddr t x i => simp only [evalV, eop]; cases eindexAddr Y t (ρ x) (ρ i) <;> rfl
  | index t x i => simp only [evalV, eop]; cases eindex Y t (ρ x) (ρ i) <;> rfl
  | extract x n =>
    simp only [evalV, eop]
    cases ρ x with
    | tuple vs => simp only []; cases vs[n]? <;> rfl
    | _ => rfl
  | call c =>
    obtain ⟨callee, args, ts⟩ := c
    cases callee with
    | value f => simp [okind] at hk
    | invoke r m => simp [okind] at hk
    | builtin b =>
      cases b <;> first | (simp [okind] at hk; done) | skip
      all_goals
        simp only [evalV, eop]
        generalize args.toList.map ρ = l
        rcases l with _ | ⟨x, _ | ⟨y, l⟩⟩ <;> simp only [ebuiltin] <;> try rfl
      · cases emax x (y :: l) <;> rfl
      · cases emin x (y :: l) <;> rfl
      · cases eusdata x <;> rfl
  | _ => simp [okind] at hk

theorem buildSlice_any {id : Nat} {t : TypeId} {len : Nat} {parts : List (Nat × Value)} {v : Value} {H' : Heap} (h : ebuildSlice Y H id t len parts = some (v, H')) :
    ∃ b, H' = H.set id b ∧ ∀ H2, ebuildSlice Y H2 id t len parts = some (v, H2.set id b) := by
  unfold ebuildSlice at h
  split at h
  · rename_i ti h1
    split at h
    · rename_i e h2
      split at h
      · rename_i te h3
        split at h
        · rename_i z h4
          split at h
          · rename_i h5
            split at h
            · rename_i cs h6
              simp only [Option.some.injEq, Prod.mk.injEq] at h
              obtain ⟨rfl, rfl⟩ := h
              exact ⟨_, rfl, fun H2 => by unfold ebuildSlice; simp only [h1, h2, h3, h4, h6]; rw [if_pos h5]; rfl⟩
            · simp at h
          · simp at h
        · simp at h
      · simp at h
    · simp at h
  · simp at h

theorem makeSlice_any {id : Nat} {t : TypeId} {l c : Value} {v : Value} {H' : Heap} (h : emakeSlice Y H id t l c = some (v, H')) :
    ∃ b, H' = H.set id b ∧ ∀ H2, emakeSlice Y H2 id t l c = some (v, H2.set id b) := by
  unfold emakeSlice at h
  split at h
  · split at h
    · rename_i ti h1
      split at h
      · rename_i e h2
        split at h
        · rename_i te h3
          split at h
          · rename_i z h4
            split at h
            · rename_i h5
              simp only [Option.some.injEq, Prod.mk.injEq] at h
              obtain ⟨rfl, rfl⟩ := h
              exact ⟨_, rfl, fun H2 => by unfold emakeSlice; simp only [h1, h2, h3, h4]; rw [if_pos h5]; rfl⟩
            · simp at h
          · simp at h
        · simp at h
      · simp at h
    · simp at h
  · simp at h

/-- what only makes a block makes it in every heap -/
theorem alloc_any {ρ : Operand → Value} {id : Nat} {o : Op} {v : Value} {b : Blk} (hk : okind o = .alloc) (h : allocV Y ρ id o H = some (v, b)) (H2 : Heap) :
    eop Y ρ id o H2 = some (.val v, H2.set id b) := by
  cases o with
  | alloc t =>
    simp only [allocV, eop] at h ⊢
    cases hty : Y.ty t with
    | none => simp [hty] at h
    | some ti =>
      cases hz : ti.zero with
      | none => simp [hty, hz] at h
      | some z =>
        simp only [hty, hz, enew, Heap.get_set_same, Option.some.injEq, Prod.mk.injEq] at h ⊢
        obtain ⟨rfl, rfl⟩ := h
        exact ⟨rfl, rfl⟩
  | box t x =>
    simp only [allocV, eop, enew, Heap.get_set_same, Option.some.injEq, Prod.mk.injEq] at h ⊢
    obtain ⟨rfl, rfl⟩ := h
    exact ⟨rfl, rfl⟩
  | buildSlice t len parts =>
    simp only [allocV, eop] at h ⊢
    cases hX : ebuildSlice Y H id t len (parts.toList.map fun p => (p.1, ρ p.2)) with
    | none => simp [hX, lift2] at h
    | some y =>
      obtain ⟨v1, H1⟩ := y
      obtain ⟨b1, rfl, h3⟩ := buildSlice_any hX
      simp only [hX, lift2, Heap.get_set_same, Option.some.injEq, Prod.mk.injEq] at h
      obtain ⟨rfl, rfl⟩ := h
      simp [h3 H2, lift2]
  | makeSlice t l c =>
    simp only [allocV, eop] at h ⊢
    cases hX : emakeSlice Y H id t (ρ l) (ρ c) with
    | none => simp [hX, lift2] at h
    | some y =>
      obtain ⟨v1, H1⟩ := y
      obtain ⟨b1, rfl, h3⟩ := makeSlice_any hX
      simp only [hX, lift2, Heap.get_set_same, Option.some.injEq, Prod.mk.injEq] at h
      obtain ⟨rfl, rfl⟩ := h
      simp [h3 H2, lift2]
  | makeMap t r =>
    cases r with
    | some r => simp [allocV, eop] at h
    | none =>
      simp only [allocV, eop] at h ⊢
      cases hty : Y.ty t with
      | none => simp [hty] at h
      | some ti =>
        simp only [hty, Heap.get_set_same, Option.some.injEq, Prod.mk.injEq] at h ⊢
        obtain ⟨rfl, rfl⟩ := h
        exact ⟨rfl, rfl⟩
  | call c =>
    obtain ⟨callee, args, ts⟩ := c
    cases callee with
    | value f => simp [okind] at hk
    | invoke r m => simp [okind] at hk
    | builtin b => cases b <;> simp [okind] at hk
  | binOp op t x y yt => cases op <;> simp [okind] at hk
  | _ => simp [okind] at hk

/-! other maps, other worlds -/

theorem Later.congr {φ' : Mp} (h : ∀ i, H.used i → φ' i = φ i ∧ φ'.cap i = φ.cap i) : Later H φ H φ' := ⟨Nat.le_refl _, fun _ h => h, fun _ _ h => h, fun i hi _ => (h i hi).1, fun i hi _ => (h i hi).2⟩

theorem HR.live_used (hr : HR B P H φ w) {i : Nat} {b : Blk} (h : H.get i = some b) : H.used i := hr.liv i (by unfold Heap.live; rw [h]; simp)

/-- another map that is the same where it counts; another world that is the same where it counts -/
theorem HR.congr {φ' : Mp} {w' : World} (hr : HR B P H φ w) (h : ∀ i, H.used i → φ' i = φ i ∧ φ'.cap i = φ.cap i) (hsz : w.heap.size ≤ w'.heap.size) (hk : ∀ k, k < w.heap.size → w'.heap[k]? = w.heap[k]?) :
    HR B P H φ' w' := by
  refine ⟨Nat.le_trans hr.size hsz, hr.lt, hr.liv, hr.glob, fun i hi => by rw [(h i (hr.glob i hi)).1]; exact hr.gid i hi, fun i b hi => ?_, fun i b hi hw => ?_, fun i j hi hj he => ?_, hr.dead⟩
  · have hu := hr.live_used hi
    have hb := hr.blk i b hi
    rw [(h i hu).1, (h i hu).2]
    exact hb.mono (Later.congr h) (hk _ hb.lt)
  · rw [(h i (hr.live_used hi)).1]; exact hr.own i b hi hw
  · rw [(h i (hr.liv i hi)).1, (h j (hr.liv j hj)).1] at he
    exact hr.inj i j hi hj he

theorem Ext.congr {H' : Heap} {φ' φ'' : Mp} {w' : World} (hr : HR B P H' φ' w') (e : Ext H φ w H' φ' w') (h : ∀ i, H'.used i → φ'' i = φ' i ∧ φ''.cap i = φ'.cap i) : Ext H φ w H' φ'' w' :=
  { Later.trans e.toLater (Later.congr h) with
    os := e.os, tape := e.tape, output := e.output, size := e.size, kept := e.kept
    mine := fun i b hi => by rw [(h i (hr.live_used hi)).1]; exact e.mine i b hi }

/-- the same heap, none of it to be written -/
def Blk.ro : Blk → Blk
  | .cells vs e _ fz => .cells vs e false fz
  | .map es c _ => .map es c false
def Heap.ro (H : Heap) : Heap := { H with get := fun i => (H.get i).map Blk.ro }

theorem ro_live {i : Nat} : H.ro.live i ↔ H.live i := by
  simp only [Heap.live, Heap.ro]
  cases H.get i <;> simp

theorem ro_later : Later H φ H.ro φ := ⟨Nat.le_refl _, fun _ h => h, fun _ _ h => ro_live.1 h, fun _ _ _ => rfl, fun _ _ _ => rfl⟩
theorem ro_later' : Later H.ro φ H φ := ⟨Nat.le_refl _, fun _ h => h, fun _ _ h => ro_live.2 h, fun _ _ _ => rfl, fun _ _ _ => rfl⟩

theorem BR.ro {b : Blk} {k q : Nat} (h : BR P H φ w k q b) : BR P H.ro φ w k q b.ro := by
  cases b with
  | cells vs e wr fz =>
    obtain ⟨c, fr, hc, h1, h2, h3, h4, h5⟩ := h.mono ro_later rfl
    exact ⟨c, fr, hc, h1, h2, h3, fun h => by simp at h, h5⟩
  | map es clock wr => exact h.mono ro_later rfl

theorem HR.ro (hr : HR B P H φ w) : HR B P H.ro φ w := by
  refine ⟨hr.size, hr.lt, fun i hi => hr.liv i (ro_live.1 hi), hr.glob, hr.gid, fun i b hi => ?_, fun i b hi hw => ?_, fun i j hi hj => hr.inj i j (ro_live.1 hi) (ro_live.1 hj), ⟨hr.dead.1, fun h => hr.dead.2 (ro_live.1 h)⟩⟩
  · simp only [Heap.ro, Option.map_eq_some_iff] at hi
    obtain ⟨b0, hb0, rfl⟩ := hi
    exact (hr.blk i b0 hb0).ro
  · simp only [Heap.ro, Option.map_eq_some_iff] at hi
    obtain ⟨b0, hb0, rfl⟩ := hi
    cases b0 <;> simp [Blk.ro, Blk.w] at hw

theorem ro_kept {H' : Heap} {φ' : Mp} {w' : World} (e : Ext H.ro φ w H' φ' w') : ∀ k, k < w.heap.size → w'.heap[k]? = w.heap[k]? := by
  intro k hk
  refine e.kept k hk fun i b hi hw => ?_
  simp only [Heap.ro, Option.map_eq_some_iff] at hi
  obtain ⟨b0, hb0, rfl⟩ := hi
  cases b0 <;> simp [Blk.ro, Blk.w] at hw

/-! parts of heaps -/

variable {N : Nat} {pend : Pend}

theorem com_congr {A : List Nat} {pend' : Pend} (h : ∀ a ∈ A, pend a = pend' a) : com N A pend H = com N A pend' H := by
  simp only [com, Heap.mk.injEq]
  refine ⟨funext fun i => ?_, trivial, funext fun i => propext ?_⟩
  · split
    · split
      · rename_i hc; rw [h _ (by simpa using hc)]
      · rfl
    · rfl
  · exact or_congr Iff.rfl ⟨fun ⟨a, h1, h2, h3⟩ => ⟨a, h1, h a h1 ▸ h2, h3⟩, fun ⟨a, h1, h2, h3⟩ => ⟨a, h1, (h a h1).symm ▸ h2, h3⟩⟩

theorem com_get {A : List Nat} {i : Nat} : (∃ a b, a ∈ A ∧ pend a = some b ∧ i = N + a ∧ (com N A pend H).get i = some b) ∨ ((∀ a ∈ A, i = N + a → pend a = none) ∧ (com N A pend H).get i = H.get i) := by
  by_cases h : ∃ a ∈ A, i = N + a ∧ pend a ≠ none
  · obtain ⟨a, ha, rfl, hp⟩ := h
    obtain ⟨b, hb⟩ := Option.ne_none_iff_exists'.1 hp
    refine .inl ⟨a, b, ha, hb, rfl, ?_⟩
    have : A.contains a = true := by simpa using ha
    simp [com, ha, hb]
  · refine .inr ⟨fun a ha hi => ?_, ?_⟩
    · cases hp : pend a with
      | none => rfl
      | some b => exact absurd ⟨a, ha, hi, by simp [hp]⟩ h
    · simp only [com]
      split
      · split
        · rename_i h1 h2
          have hm : i - N ∈ A := by simpa using h2
          cases hp : pend (i - N) with
          | none => rfl
          | some b => exact absurd ⟨i - N, hm, by omega, by simp [hp]⟩ h
        · rfl
      · rfl

theorem com_nxt {A : List Nat} : (com N A pend H).nxt = H.nxt := rfl
theorem com_used {A : List Nat} {i : Nat} : (com N A pend H).used i ↔ H.used i ∨ ∃ a ∈ A, pend a ≠ none ∧ i = N + a := Iff.rfl

theorem com_get_in {A : List Nat} {a : Nat} {b : Blk} (ha : a ∈ A) (hb : pend a = some b) : (com N A pend H).get (N + a) = some b := by
  simp [com, ha, hb]

theorem com_later {A A' : List Nat} (hp : ∀ a, pend a ≠ none → ¬ H.used (N + a)) (hA : ∀ a ∈ A, a ∈ A') : Later (com N A pend H) φ (com N A' pend H) φ := by
  refine ⟨Nat.le_refl _, fun i hi => hi.imp id fun ⟨a, h1, h2, h3⟩ => ⟨a, hA a h1, h2, h3⟩, fun i hi hl => ?_, fun _ _ _ => rfl, fun _ _ _ => rfl⟩
  unfold Heap.live at hl ⊢
  rcases com_get (N := N) (A := A) (pend := pend) (H := H) (i := i) with ⟨a, b, _, _, _, h⟩ | ⟨_, h⟩
  · rw [h]; simp
  · rw [h]
    rcases com_get (N := N) (A := A') (pend := pend) (H := H) (i := i) with ⟨a', b', h1, h2, h3, h4⟩ | ⟨_, h'⟩
    · rcases hi with hi | ⟨a, k1, k2, k3⟩
      · exact absurd (h3 ▸ hi) (hp a' (by simp [h2]))
      · have : a = a' := by omega
        subst this
        obtain ⟨b, hb⟩ := Option.ne_none_iff_exists'.1 k2
        have := com_get_in (N := N) (H := H) k1 hb
        rw [← k3] at this; rw [← h, this]; simp
    · rwa [h'] at hl

theorem com_nil : com N [] pend H = H := by
  simp [com]

theorem com_later0 {A : List Nat} (hp : ∀ a, pend a ≠ none → ¬ H.used (N + a)) : Later H φ (com N A pend H) φ := by
  have := com_later (φ := φ) (A := []) (A' := A) hp (by simp)
  rwa [com_nil] at this

end Go.Proofs.YtcfjimhbachmlaaGreatDoor.E

/- The clean semantics: what is known of a region whose order is open, of its text. -/
namespace Go.Proofs.YtcfjimhbachmlaaGreatDoor.E
open Go

/-- what the check of a region tells -/
structure Stat (ops : List Oper) : Prop where
  lt : ∀ i < ops.length, ∀ j ∈ anOf (ancs ops) i, j < i
  tr : ∀ i < ops.length, ∀ j ∈ anOf (ancs ops) i, ∀ k ∈ anOf (ancs ops) j, k ∈ anOf (ancs ops) i
  back : ∀ i o, ops[i]? = some o → ∀ j ∈ anOf (ancs ops) i, ∃ e ∈ o.after.toList, Region.binds .any e = true ∧ (e.on = j ∨ j ∈ anOf (ancs ops) e.on)
  of : ∀ i o, ops[i]? = some o → ∀ e ∈ o.after.toList, Region.binds .any e = true → e.on ∈ anOf (ancs ops) i
  wr : ∀ i o d, ops[i]? = some o → o.dst = some d → writer ops d = some i
  nm : ∀ i o, ops[i]? = some o → ∀ t ∈ opNames o, ∀ j, writer ops t = some j → j = i ∨ j ∈ anOf (ancs ops) i ∨ i ∈ anOf (ancs ops) j
  gd : ∀ i o j b, ops[i]? = some o → o.guard = some (j, b) → j ∈ anOf (ancs ops) i
  ef : ∀ i j o o', ops[i]? = some o → ops[j]? = some o' → okind o.op = .eff → okind o'.op = .eff → i = j ∨ i ∈ anOf (ancs ops) j ∨ j ∈ anOf (ancs ops) i
  pl : planOK (ancs ops) (ops.map (okind ·.op)) ops.length [] (plan ops) = true

theorem allIn_iff {l D : List Nat} : allIn l D = true ↔ ∀ x ∈ l, x ∈ D := by
  simp [allIn, List.all_eq_true]

theorem writer_some {ops : List Oper} {t j : Nat} (h : writer ops t = some j) : ∃ o, ops[j]? = some o ∧ o.dst = some t := by
  unfold writer at h
  rw [List.findIdx?_eq_some_iff_getElem] at h
  obtain ⟨hj, hd, _⟩ := h
  exact ⟨ops[j], by simp [hj], by simpa using hd⟩

theorem writer_lt {ops : List Oper} {t j : Nat} (h : writer ops t = some j) : j < ops.length := by
  obtain ⟨o, ho, _⟩ := writer_some h
  exact (List.getElem?_eq_some_iff.1 ho).1

theorem stat_of {ops : List Oper} (h : drawOK ops = true) : Stat ops := by
  simp only [drawOK, Bool.and_eq_true, List.all_eq_true] at h
  obtain ⟨h, hpl⟩ := h
  have hz : ∀ i o, ops[i]? = some o → (o, i) ∈ ops.zipIdx := fun i o ho => List.mem_zipIdx_iff_getElem?.2 ho
  have get : ∀ i, i < ops.length → ∃ o, ops[i]? = some o := fun i hi => ⟨ops[i], by simp [hi]⟩
  refine ⟨?_, ?_, ?_, ?_, ?_, ?_, ?_, ?_, hpl⟩
  · intro i hi j hj
    obtain ⟨o, ho⟩ := get i hi
    have := (h _ (hz i o ho)).1.1.1.1.1 j hj
    simpa using this.1.1
  · intro i hi j hj k hk
    obtain ⟨o, ho⟩ := get i hi
    have := (h _ (hz i o ho)).1.1.1.1.1 j hj
    exact allIn_iff.1 this.1.2 k hk
  · intro i o ho j hj
    have := ((h _ (hz i o ho)).1.1.1.1.1 j hj).2
    rw [List.any_eq_true] at this
    obtain ⟨e, he, h1⟩ := this
    rw [Bool.and_eq_true] at h1
    exact ⟨e, he, h1.1, by simpa using h1.2⟩
  · intro i o ho e he hb
    have := (h _ (hz i o ho)).1.1.1.1.2 e he
    simpa [hb] using this
  · intro i o d ho hd
    have := (h _ (hz i o ho)).1.1.1.2
    simpa [hd] using this
  · intro i o ho t ht j hj
    have := (h _ (hz i o ho)).1.1.2 t ht
    simp only [hj] at this
    simpa [or_assoc] using this
  · intro i o j b ho hg
    have := (h _ (hz i o ho)).1.2
    simp only [hg] at this
    simpa using this
  · intro i j o o' ho ho' hk hk'
    have := (h _ (hz i o ho)).2 _ (hz j o' ho')
    simp only [hk, hk'] at this
    simpa [or_assoc] using this

theorem kindAt_eq {ops : List Oper} {i : Nat} {o : Oper} (h : ops[i]? = some o) : kindAt (ops.map (okind ·.op)) i = okind o.op := by
  simp [kindAt, h]

/-- what the check of a plan tells of its first step -/
structure Step (ops : List Oper) (D : List Nat) (ps : PS) (rest : List PS) : Prop where
  lt : ps.i < ops.length
  new : ps.i ∉ D
  an : ps.an = anOf (ancs ops) ps.i
  k : ps.k = kindAt (ops.map (okind ·.op)) ps.i
  sub : ∀ j ∈ anOf (ancs ops) ps.i, j ∈ D
  eager : ps.k = .eff → ∀ j < ops.length, j ∉ D → kindAt (ops.map (okind ·.op)) j ≠ .eff → ¬ ∀ a ∈ anOf (ancs ops) j, a ∈ D
  rc : ps.k = .eff → ∀ r ∈ D, kindAt (ops.map (okind ·.op)) r = .read → r ∉ anOf (ancs ops) ps.i → (r, anOf (ancs ops) r) ∈ ps.rc
  rest : planOK (ancs ops) (ops.map (okind ·.op)) ops.length (ps.i :: D) rest = true

theorem step_of {ops : List Oper} {D : List Nat} {ps : PS} {rest : List PS} (h : planOK (ancs ops) (ops.map (okind ·.op)) ops.length D (ps :: rest) = true) : Step ops D ps rest := by
  simp only [planOK, Bool.and_eq_true, decide_eq_true_eq, Bool.not_eq_true', Bool.or_eq_true] at h
  obtain ⟨⟨⟨⟨⟨⟨h1, h2⟩, h3⟩, h4⟩, h5⟩, h6⟩, h7⟩ := h
  refine ⟨h1, by simpa using h2, h3, h4, fun j hj => allIn_iff.1 h5 j (h3 ▸ hj), ?_, ?_, h7⟩
  · intro hk j hj hjD hkj hall
    have h6 := h6.resolve_left (by simp [hk])
    have := List.all_eq_true.1 h6.1 j (by simpa using hj)
    simp only [Bool.or_eq_true, Bool.not_eq_true', beq_iff_eq] at this
    rcases this with (this | this) | this
    · exact hjD (by simpa using this)
    · exact hkj this
    · rw [allIn_iff.2 hall] at this; simp at this
  · intro hk r hr hkr hra
    have h6 := h6.resolve_left (by simp [hk])
    have := List.all_eq_true.1 h6.2 r hr
    simp only [Bool.or_eq_true, bne_iff_ne, ne_eq] at this
    rcases this with (this | this) | this
    · exact absurd hkr this
    · rw [h3] at this; exact absurd (by simpa using this) hra
    · simpa using this

theorem planOK_nil {ops : List Oper} {D : List Nat} (h : planOK (ancs ops) (ops.map (okind ·.op)) ops.length D [] = true) : ∀ i < ops.length, i ∈ D := by
  simp only [planOK, List.all_eq_true] at h
  intro i hi
  simpa using h i (by simpa using hi)

end Go.Proofs.YtcfjimhbachmlaaGreatDoor.E

/- The clean semantics: a region whose order is open, one operation after the other. -/
namespace Go.Proofs.YtcfjimhbachmlaaGreatDoor.E
open Go

/-- the slots while a region runs: those that were written, and the others -/
structure Tm (ops : List Oper) (nt : Nat) (t0 : Array Value) (S : Nat → Prop) (V' : Nat → Value) (a : Act) : Prop where
  sz : a.tmps.size = nt
  one : ∀ t (h : t < a.tmps.size) j, writer ops t = some j → S j → a.tmps[t] = V' j
  zero : ∀ t (h : t < a.tmps.size), (∀ j, writer ops t = some j → ¬ S j) → a.tmps[t] = t0.getD t undef
  nd : a.defers = []

theorem vput_same {α : Type} {V : Nat → α} {i : Nat} {v : α} : vput V i v i = v := by simp [vput]
theorem vput_ne {α : Type} {V : Nat → α} {i j : Nat} {v : α} (h : j ≠ i) : vput V i v j = V j := by simp [vput, h]

theorem Tm.put {ops : List Oper} {nt : Nat} {t0 : Array Value} {S : Nat → Prop} {V' : Nat → Value} {a : Act} (st : Stat ops) (h : Tm ops nt t0 S V' a) {i : Nat} {o : Oper} (ho : ops[i]? = some o) (v : Value) :
    Tm ops nt t0 (fun j => j = i ∨ S j) (vput V' i v) (a.put o.dst v) := by
  cases hd : o.dst with
  | none =>
    simp only [Act.put]
    refine ⟨h.sz, fun t ht j hj hS => ?_, fun t ht hn => h.zero t ht fun j hj hS => hn j hj (.inr hS), h.nd⟩
    have hne : j ≠ i := by
      rintro rfl
      obtain ⟨o', ho', hd'⟩ := writer_some hj
      rw [ho] at ho'; cases ho'; rw [hd] at hd'; simp at hd'
    rw [vput_ne hne]
    exact h.one t ht j hj (hS.resolve_left hne)
  | some d =>
    have hw := st.wr i o d ho hd
    simp only [Act.put]
    refine ⟨by simpa using h.sz, fun t ht j hj hS => ?_, fun t ht hn => ?_, h.nd⟩
    · have ht' : t < a.tmps.size := by simpa using ht
      rw [Array.getElem_setIfInBounds ht']
      by_cases e : d = t
      · subst e
        rw [hw] at hj; cases hj
        simp [vput_same]
      · have hne : j ≠ i := by
          rintro rfl
          obtain ⟨o', ho', hd'⟩ := writer_some hj
          rw [ho] at ho'; cases ho'; rw [hd] at hd'; cases hd'; exact e rfl
        simp only [e, if_false]
        rw [vput_ne hne]
        exact h.one t ht' j hj (hS.resolve_left hne)
    · have ht' : t < a.tmps.size := by simpa using ht
      rw [Array.getElem_setIfInBounds ht']
      have e : d ≠ t := by rintro rfl; exact hn i hw (.inl rfl)
      simp only [e, if_false]
      exact h.zero t ht' fun j hj hS => hn j hj (.inr hS)

/-- a region while it runs: `S`: what has been carried out; `V`, `V'`: what came of it; `pend`: blocks that are made -/
structure Dy (P : Program) (B nt : Nat) (H0 : Heap) (φ0 : Mp) (w0 : World) (ops : List Oper) (N : Nat) (g : Fm) (t0 : Array Value) (S : Nat → Prop) (V V' : Nat → Value)
    (H : Heap) (pend : Pend) (φ : Mp) (a : Act) (w : World) : Prop where
  tm : Tm ops nt t0 S V' a
  fr : ∀ t, t < nt → VR H φ (g t) (t0.getD t undef)
  val : ∀ j, S j → VR (com N (j :: anOf (ancs ops) j) pend H) φ (V j) (V' j)
  hr : HR B P H φ w
  ext : Ext H0 φ0 w0 H φ w
  room : N + ops.length ≤ H.nxt
  base : H0.nxt ≤ N
  fresh : ∀ i, H.used i → H0.used i ∨ H0.nxt ≤ i
  pk : ∀ j, pend j ≠ none → ∃ o, ops[j]? = some o ∧ okind o.op = .alloc
  free : ∀ j, j < ops.length → (¬ S j ∨ pend j ≠ none) → ¬ H.used (N + j)
  adp : ∀ j b, S j → pend j = some b → BR P (com N (j :: anOf (ancs ops) j) pend H) φ w (φ (N + j)) (φ.cap (N + j)) b ∧ (b.w = true → B ≤ φ (N + j)) ∧ w0.heap.size ≤ φ (N + j)
  inj1 : ∀ j b i, S j → pend j = some b → H.live i → φ i ≠ φ (N + j)
  inj2 : ∀ j b j' b', S j → pend j = some b → S j' → pend j' = some b' → φ (N + j) = φ (N + j') → j = j'
  cl : ∀ i, S i → i < ops.length ∧ ∀ j ∈ anOf (ancs ops) i, S j

section
variable {P : Program} {Y : Env} {B nt : Nat} {H0 : Heap} {φ0 : Mp} {w0 : World} {ops : List Oper} {N : Nat} {g : Fm} {t0 : Array Value} {S : Nat → Prop} {V V' : Nat → Value} {H : Heap} {pend : Pend} {φ : Mp} {a : Act} {w : World}

theorem Dy.plt (d : Dy P B nt H0 φ0 w0 ops N g t0 S V V' H pend φ a w) {j : Nat} (h : pend j ≠ none) : j < ops.length := by
  obtain ⟨o, ho, _⟩ := d.pk j h
  exact (List.getElem?_eq_some_iff.1 ho).1

theorem Dy.pfree (d : Dy P B nt H0 φ0 w0 ops N g t0 S V V' H pend φ a w) (j : Nat) (h : pend j ≠ none) : ¬ H.used (N + j) := d.free j (d.plt h) (.inr h)

/-- the heap with some of the blocks laid -/
theorem Dy.laid (d : Dy P B nt H0 φ0 w0 ops N g t0 S V V' H pend φ a w) {A : List Nat} (hA : ∀ j ∈ A, S j ∧ ∀ k ∈ anOf (ancs ops) j, k ∈ A) :
    HR B P (com N A pend H) φ w ∧ Ext H0 φ0 w0 (com N A pend H) φ w ∧ ∀ i, (com N A pend H).used i → H0.used i ∨ H0.nxt ≤ i := by
  have hl : Later H φ (com N A pend H) φ := com_later0 d.pfree
  have sub : ∀ j ∈ A, ∀ k ∈ j :: anOf (ancs ops) j, k ∈ A := fun j hj k hk => by
    rcases List.mem_cons.1 hk with rfl | hk
    · exact hj
    · exact (hA j hj).2 k hk
  refine ⟨⟨d.hr.size, fun i hi => ?_, fun i hi => ?_, fun i hi => .inl (d.hr.glob i hi), d.hr.gid, fun i b hi => ?_, fun i b hi hw => ?_, fun i j hi hj he => ?_, ⟨.inl d.hr.dead.1, fun hl => ?_⟩⟩,
    { Later.trans d.ext.toLater hl with os := d.ext.os, tape := d.ext.tape, output := d.ext.output, size := d.ext.size, kept := d.ext.kept, mine := fun i b hi => ?_ }, fun i hi => ?_⟩
  · rw [com_nxt]
    rcases hi with hi | ⟨a, ha, _, rfl⟩
    · exact d.hr.lt i hi
    · have := (d.cl a (hA a ha).1).1; have := d.room; omega
  · unfold Heap.live at hi
    rcases com_get (N := N) (A := A) (pend := pend) (H := H) (i := i) with ⟨a, b, h1, h2, h3, h4⟩ | ⟨_, h⟩
    · exact .inr ⟨a, h1, by simp [h2], h3⟩
    · rw [h] at hi; exact .inl (d.hr.liv i hi)
  · rcases com_get (N := N) (A := A) (pend := pend) (H := H) (i := i) with ⟨a, b', h1, h2, rfl, h4⟩ | ⟨_, h⟩
    · rw [h4] at hi; cases hi
      exact (d.adp a b (hA a h1).1 h2).1.mono (com_later d.pfree (sub a h1)) rfl
    · rw [h] at hi; exact (d.hr.blk i b hi).mono hl rfl
  · rcases com_get (N := N) (A := A) (pend := pend) (H := H) (i := i) with ⟨a, b', h1, h2, rfl, h4⟩ | ⟨_, h⟩
    · rw [h4] at hi; cases hi
      exact (d.adp a b (hA a h1).1 h2).2.1 hw
    · rw [h] at hi; exact d.hr.own i b hi hw
  · unfold Heap.live at hi hj
    rcases com_get (N := N) (A := A) (pend := pend) (H := H) (i := i) with ⟨a, b, h1, h2, rfl, h4⟩ | ⟨_, h⟩ <;>
    rcases com_get (N := N) (A := A) (pend := pend) (H := H) (i := j) with ⟨a', b', h1', h2', rfl, h4'⟩ | ⟨_, h'⟩
    · rw [d.inj2 a b a' b' (hA a h1).1 h2 (hA a' h1').1 h2' he]
    · rw [h'] at hj; exact absurd he.symm (d.inj1 a b j (hA a h1).1 h2 hj)
    · rw [h] at hi; exact absurd he (d.inj1 a' b' i (hA a' h1').1 h2' hi)
    · rw [h] at hi; rw [h'] at hj; exact d.hr.inj i j hi hj he
  · unfold Heap.live at hl
    rcases com_get (N := N) (A := A) (pend := pend) (H := H) (i := P.globals.size) with ⟨a, b, _, h2, h3, _⟩ | ⟨_, h⟩
    · exact d.pfree a (by simp [h2]) (h3 ▸ d.hr.dead.1)
    · rw [h] at hl; exact d.hr.dead.2 hl
  · rcases com_get (N := N) (A := A) (pend := pend) (H := H) (i := i) with ⟨a, b', h1, h2, rfl, h4⟩ | ⟨_, h⟩
    · rw [h4] at hi; cases hi
      exact .inr (.inl (d.adp a b (hA a h1).1 h2).2.2)
    · rw [h] at hi; exact d.ext.mine i b hi
  · rcases hi with hi | ⟨a, _, _, rfl⟩
    · exact d.fresh i hi
    · have := d.base; exact .inr (by omega)

/-- what an operation sees -/
theorem Dy.opr (d : Dy P B nt H0 φ0 w0 ops N g t0 S V V' H pend φ a w) (st : Stat ops) {i : Nat} {o : Oper} (ho : ops[i]? = some o) (hS : ¬ S i) (hA : ∀ j ∈ anOf (ancs ops) i, S j)
    (hop : ∀ x ∈ o.op.operands, oprOK nt P.globals.size x = true) : ∀ x ∈ o.op.operands, VR (com N (anOf (ancs ops) i) pend H) φ (ev (can ops g V (anOf (ancs ops) i)) x) (a.eval x) := by
  intro x hx
  have hi : i < ops.length := (List.getElem?_eq_some_iff.1 ho).1
  have hox := hop x hx
  cases x with
  | const v => exact noAddr_VR hox
  | global k =>
    simp only [oprOK, decide_eq_true_eq] at hox
    exact .ptr ⟨.inl (d.hr.glob k hox), fun _ => ⟨(d.hr.gid k hox).symm, rfl, rfl⟩⟩
  | func f => exact .func _ rfl rfl (fun i h => by simp at h) (fun i h => by simp at h)
  | tmp t =>
    simp only [oprOK, decide_eq_true_eq] at hox
    have ht : t < a.tmps.size := by rw [d.tm.sz]; exact hox
    have htn : t ∈ opNames o := by
      simp only [opNames, List.mem_filterMap]
      exact ⟨.tmp t, by simpa using hx, rfl⟩
    have he : a.eval (.tmp t) = a.tmps[t] := by
      simp only [Act.eval]; rw [Array.getD_eq_getD_getElem?, Array.getElem?_eq_getElem ht]; rfl
    have hold : (∀ j, writer ops t = some j → ¬ S j) → VR (com N (anOf (ancs ops) i) pend H) φ (g t) (a.eval (.tmp t)) := by
      intro hn
      rw [he, d.tm.zero t ht hn]
      exact (d.fr t hox).mono (com_later0 d.pfree)
    simp only [ev, can]
    cases hw : writer ops t with
    | none => exact hold (fun j hj => by rw [hw] at hj; simp at hj)
    | some j =>
      simp only []
      split
      · rename_i hc
        have hj : j ∈ anOf (ancs ops) i := by simpa using hc
        rw [he, d.tm.one t ht j hw (hA j hj)]
        refine (d.val j (hA j hj)).mono (com_later d.pfree fun k hk => ?_)
        rcases List.mem_cons.1 hk with rfl | hk
        · exact hj
        · exact st.tr i hi j hj k hk
      · rename_i hc
        refine hold fun j' hj' hSj => ?_
        rw [hw] at hj'; cases hj'
        rcases st.nm i o ho t htn j hw with rfl | h | h
        · exact hS hSj
        · exact hc (by simpa using h)
        · exact hS ((d.cl j hSj).2 i h)

theorem Dy.wanted (d : Dy P B nt H0 φ0 w0 ops N g t0 S V V' H pend φ a w) (st : Stat ops) {i : Nat} {o : Oper} (ho : ops[i]? = some o) (hA : ∀ j ∈ anOf (ancs ops) i, S j)
    (hg : gOK nt ops o = true) : Region.wanted o (yielded ops.toArray a.tmps) = ewanted (can ops g V (anOf (ancs ops) i)) ops o := by
  unfold Region.wanted ewanted
  unfold gOK at hg
  split
  · rename_i he; simp [he]
  · rename_i j want he
    simp only [he] at hg ⊢
    have hj := st.gd i o j want ho he
    simp only [yielded, List.getElem?_toArray]
    cases hd : (ops[j]?).bind (·.dst) with
    | none => simp [hd] at hg
    | some s =>
      simp only [hd, decide_eq_true_eq] at hg
      obtain ⟨oj, hoj, hds⟩ := Option.bind_eq_some_iff.1 hd
      have hw := st.wr j oj s hoj hds
      have hlt : s < a.tmps.size := by rw [d.tm.sz]; exact hg
      have hv := d.val j (hA j hj)
      rw [← d.tm.one s hlt j hw (hA j hj)] at hv
      have hcj : (anOf (ancs ops) i).contains j = true := by simpa using hj
      simp only [Option.bind_some, Array.getElem?_eq_getElem hlt, can, hw, hcj, if_true]
      generalize a.tmps[s] = v' at hv
      generalize V j = v at hv
      cases hv <;> simp

/-- what has not come up may change -/
theorem Dy.adv (d : Dy P B nt H0 φ0 w0 ops N g t0 S V V' H pend φ a w) {V2 : Nat → Value} {pend2 : Pend} (hV : ∀ j, S j → V2 j = V j) (hp : ∀ j, S j → pend2 j = pend j)
    (hk : ∀ j, pend2 j ≠ none → ∃ o, ops[j]? = some o ∧ okind o.op = .alloc) : Dy P B nt H0 φ0 w0 ops N g t0 S V2 V' H pend2 φ a w := by
  have hc : ∀ j, S j → com N (j :: anOf (ancs ops) j) pend2 H = com N (j :: anOf (ancs ops) j) pend H := fun j hj => com_congr fun k hk => by
    rcases List.mem_cons.1 hk with rfl | hk
    · exact hp _ hj
    · exact hp k ((d.cl j hj).2 k hk)
  refine ⟨d.tm, d.fr, fun j hj => by rw [hc j hj, hV j hj]; exact d.val j hj, d.hr, d.ext, d.room, d.base, d.fresh, hk, fun j hj h => ?_, fun j b hj hb => ?_,
    fun j b i hj hb => d.inj1 j b i hj (hp j hj ▸ hb), fun j b j' b' hj hb hj' hb' => d.inj2 j b j' b' hj (hp j hj ▸ hb) hj' (hp j' hj' ▸ hb'), d.cl⟩
  · refine d.free j hj ?_
    rcases h with h | h
    · exact .inl h
    · by_cases hS : S j
      · rw [hp j hS] at h; exact .inr h
      · exact .inl hS
  · rw [hc j hj]; exact d.adp j b hj (hp j hj ▸ hb)

/-- an operation after which the world is as it was -/
theorem Dy.still (d : Dy P B nt H0 φ0 w0 ops N g t0 S V V' H pend φ a w) (st : Stat ops) {i : Nat} {o : Oper} (ho : ops[i]? = some o) (hA : ∀ j ∈ anOf (ancs ops) i, S j)
    (hp : pend i = none) {v : Value} (hv : VR (com N (anOf (ancs ops) i) pend H) φ (V i) v) :
    Dy P B nt H0 φ0 w0 ops N g t0 (fun j => j = i ∨ S j) V (vput V' i v) H pend φ (a.put o.dst v) w := by
  have hi : i < ops.length := (List.getElem?_eq_some_iff.1 ho).1
  have hne : ∀ {j b}, (j = i ∨ S j) → pend j = some b → S j := fun {j b} h hb => h.resolve_left (by rintro rfl; rw [hp] at hb; simp at hb)
  refine ⟨d.tm.put st ho v, d.fr, fun j hj => ?_, d.hr, d.ext, d.room, d.base, d.fresh, d.pk, fun j hj h => d.free j hj (h.imp (fun h h' => h (.inr h')) id), fun j b hj hb => d.adp j b (hne hj hb) hb,
    fun j b k hj hb => d.inj1 j b k (hne hj hb) hb, fun j b j' b' hj hb hj' hb' => d.inj2 j b j' b' (hne hj hb) hb (hne hj' hb') hb', fun j hj => ?_⟩
  · by_cases e : j = i
    · subst e; rw [vput_same]; exact hv.mono (com_later d.pfree fun k hk => List.mem_cons_of_mem _ hk)
    · rw [vput_ne e]; exact d.val j (hj.resolve_left e)
  · rcases hj with rfl | hj
    · exact ⟨hi, fun k hk => .inr (hA k hk)⟩
    · exact ⟨(d.cl j hj).1, fun k hk => .inr ((d.cl j hj).2 k hk)⟩

end
end Go.Proofs.YtcfjimhbachmlaaGreatDoor.E

/- The clean semantics: a region whose order is open: an operation that makes a block; one that turns the heap. -/
namespace Go.Proofs.YtcfjimhbachmlaaGreatDoor.E
open Go

variable {P : Program} {Y : Env} {B nt : Nat} {H0 : Heap} {φ0 : Mp} {w0 : World} {ops : List Oper} {N : Nat} {g : Fm} {t0 : Array Value} {S : Nat → Prop} {V V' : Nat → Value} {H : Heap} {pend : Pend} {φ : Mp} {a : Act} {w : World}

theorem Dy.made (d : Dy P B nt H0 φ0 w0 ops N g t0 S V V' H pend φ a w) (hY : Y.ok P) (st : Stat ops) {i : Nat} {o : Oper} (ho : ops[i]? = some o) (hS : ¬ S i) (hA : ∀ j ∈ anOf (ancs ops) i, S j)
    (hop : ∀ x ∈ o.op.operands, oprOK nt P.globals.size x = true) {b : Blk} (hp : pend i = some b)
    (hev : ∀ H2, eop Y (ev (can ops g V (anOf (ancs ops) i))) (N + i) o.op H2 = some (.val (V i), H2.set (N + i) b)) :
    ∃ v' φ' w', ((execOp a.eval o).run P w = .ok (.value v') w' ∨ ((execOp a.eval o).run P w = .ok .skip w' ∧ v' = undef)) ∧
      Dy P B nt H0 φ0 w0 ops N g t0 (fun j => j = i ∨ S j) V (vput V' i v') H pend φ' (a.put o.dst v') w' := by
  have hi : i < ops.length := (List.getElem?_eq_some_iff.1 ho).1
  have hlt : ∀ j ∈ anOf (ancs ops) i, j < i := st.lt i hi
  obtain ⟨hri, _, _⟩ := d.laid (A := anOf (ancs ops) i) fun j hj => ⟨hA j hj, st.tr i hi j hj⟩
  have hu : ¬ (com N (anOf (ancs ops) i) pend H).used (N + i) := by
    rintro (h | ⟨k, hk, _, hk2⟩)
    · exact d.free i hi (.inl hS) h
    · have := hlt k hk; omega
  have hρ := fun x hx => (d.opr st ho hS hA hop x hx).mono ro_later
  obtain ⟨v', φ1, w', hrun, hv, hr1, e1⟩ := op_val hY hri.ro hu hρ (hev _)
  have hk := ro_kept e1
  have hHi : ∀ k, H.used k → k ≠ N + i := fun k hk e => d.free i hi (.inl hS) (e ▸ hk)
  -- the new map
  have agH : ∀ k, k ≠ N + i → upd φ (N + i) (φ1 (N + i)) (φ1.cap (N + i)) k = φ k ∧ (upd φ (N + i) (φ1 (N + i)) (φ1.cap (N + i))).cap k = φ.cap k := fun k hk => by simp [upd, hk]
  have agi : upd φ (N + i) (φ1 (N + i)) (φ1.cap (N + i)) (N + i) = φ1 (N + i) ∧ (upd φ (N + i) (φ1 (N + i)) (φ1.cap (N + i))).cap (N + i) = φ1.cap (N + i) := by simp [upd]
  generalize hφ2 : upd φ (N + i) (φ1 (N + i)) (φ1.cap (N + i)) = φ2 at agH agi
  have hlate : Later ((com N (anOf (ancs ops) i) pend H).ro.set (N + i) b) φ1 (com N (i :: anOf (ancs ops) i) pend H) φ2 := by
    have hsub := com_later (φ := φ) (A := anOf (ancs ops) i) (A' := i :: anOf (ancs ops) i) d.pfree (fun k hk => List.mem_cons_of_mem _ hk)
    have hlv : ∀ k, k ≠ N + i → (com N (anOf (ancs ops) i) pend H).used k → (com N (i :: anOf (ancs ops) i) pend H).live k → ((com N (anOf (ancs ops) i) pend H).ro.set (N + i) b).live k := by
      intro k hne huk hl
      unfold Heap.live
      rw [Heap.get_set_ne _ _ hne]
      exact ro_live.2 (hsub.live k huk hl)
    refine ⟨?_, fun k hk => ?_, fun k hk hl => ?_, fun k hk hl => ?_, fun k hk hl => ?_⟩
    · have : N + i < H.nxt := by have := d.room; omega
      show (if N + i < H.nxt then H.nxt else N + i + 1) ≤ H.nxt
      rw [if_pos this]; exact Nat.le_refl _
    · rcases hk with rfl | hk
      · exact .inr ⟨i, List.mem_cons_self, by simp [hp], rfl⟩
      · exact hsub.used k hk
    · by_cases e : k = N + i
      · subst e; unfold Heap.live; rw [Heap.get_set_same]; simp
      · exact hlv k e (hk.resolve_left e) hl
    · by_cases e : k = N + i
      · subst e; exact agi.1
      · rw [(agH k e).1, e1.map k (hk.resolve_left e) (hlv k e (hk.resolve_left e) hl)]
    · by_cases e : k = N + i
      · subst e; exact agi.2
      · rw [(agH k e).2, e1.cap k (hk.resolve_left e) (hlv k e (hk.resolve_left e) hl)]
  have hnew : w.heap.size ≤ φ1 (N + i) := by
    rcases e1.mine (N + i) b (Heap.get_set_same _ _ _) with ⟨c, hc, _⟩ | h | ⟨j, c, hj, hc, _⟩
    · exact absurd (hri.ro.live_used hc) hu
    · exact h
    · simp only [Heap.ro, Option.map_eq_some_iff] at hj
      obtain ⟨b0, _, rfl⟩ := hj
      cases b0 <;> simp [Blk.ro, Blk.w] at hc
  have hag : ∀ k, H.used k → φ2 k = φ k ∧ φ2.cap k = φ.cap k := fun k hk => agH k (hHi k hk)
  have hcu : ∀ j, S j → ∀ k, (com N (j :: anOf (ancs ops) j) pend H).used k → φ2 k = φ k ∧ φ2.cap k = φ.cap k := fun j hj k hk => by
    refine agH k ?_
    rcases hk with hk | ⟨c, hc, _, rfl⟩
    · exact hHi k hk
    · intro e
      have : c = i := by omega
      subst this
      rcases List.mem_cons.1 hc with rfl | hc
      · exact hS hj
      · exact hS ((d.cl j hj).2 c hc)
  have hNj : ∀ j, S j → φ2 (N + j) = φ (N + j) ∧ φ2.cap (N + j) = φ.cap (N + j) := fun j hj => agH _ fun e => by
    have : j = i := by omega
    exact hS (this ▸ hj)
  have hlsz : ∀ j c, S j → pend j = some c → φ (N + j) < w.heap.size := fun j c hj hc => (d.adp j c hj hc).1.lt
  refine ⟨v', φ2, w', hrun, d.tm.put st ho v', fun t ht => (d.fr t ht).mono (Later.congr hag), fun j hj => ?_, d.hr.congr hag e1.size hk,
    { Later.trans d.ext.toLater (Later.congr hag) with
      os := e1.os.trans d.ext.os
      tape := e1.tape.trans d.ext.tape
      output := e1.output.trans d.ext.output
      size := Nat.le_trans d.ext.size e1.size
      kept := fun k hk0 hn => (hk k (Nat.lt_of_lt_of_le hk0 d.ext.size)).trans (d.ext.kept k hk0 hn)
      mine := fun k c hc => by rw [(hag k (d.hr.live_used hc)).1]; exact d.ext.mine k c hc }, d.room, d.base, d.fresh, d.pk,
    fun j hj h => d.free j hj (h.imp (fun h h' => h (.inr h')) id), fun j c hj hc => ?_, fun j c k hj hc hl => ?_, fun j c j' c' hj hc hj' hc' he => ?_, fun j hj => ?_⟩
  · by_cases e : j = i
    · subst e; rw [vput_same]; exact hv.mono hlate
    · rw [vput_ne e]
      have hj := hj.resolve_left e
      exact (d.val j hj).mono (Later.congr (hcu j hj))
  · by_cases e : j = i
    · subst e
      rw [hp] at hc; cases hc
      have hb := hr1.blk (N + j) b (Heap.get_set_same _ _ _)
      rw [agi.1, agi.2]
      exact ⟨hb.mono hlate rfl, fun hw => hr1.own (N + j) b (Heap.get_set_same _ _ _) hw, Nat.le_trans d.ext.size hnew⟩
    · have hj := hj.resolve_left e
      obtain ⟨h1, h2, h3⟩ := d.adp j c hj hc
      rw [(hNj j hj).1, (hNj j hj).2]
      exact ⟨h1.mono (Later.congr (hcu j hj)) (hk _ h1.lt), h2, h3⟩
  · rw [(hag k (d.hr.liv k hl)).1]
    by_cases e : j = i
    · subst e
      rw [agi.1]
      have := d.hr.lt_size hl
      omega
    · have hj := hj.resolve_left e
      rw [(hNj j hj).1]
      exact d.inj1 j c k hj hc hl
  · by_cases e : j = i <;> by_cases e' : j' = i
    · rw [e, e']
    · subst e
      have hj' := hj'.resolve_left e'
      rw [agi.1, (hNj j' hj').1] at he
      have := hlsz j' c' hj' hc'
      omega
    · subst e'
      have hj := hj.resolve_left e
      rw [agi.1, (hNj j hj).1] at he
      have := hlsz j c hj hc
      omega
    · have hj := hj.resolve_left e
      have hj' := hj'.resolve_left e'
      rw [(hNj j hj).1, (hNj j' hj').1] at he
      exact d.inj2 j c j' c' hj hc hj' hc' he
  · rcases hj with rfl | hj
    · exact ⟨hi, fun k hk => .inr (hA k hk)⟩
    · exact ⟨(d.cl j hj).1, fun k hk => .inr ((d.cl j hj).2 k hk)⟩

theorem rem_some {A : List Nat} {j : Nat} {b : Blk} (h : rem A pend j = some b) : pend j = some b ∧ j ∉ A := by
  unfold rem at h
  split at h
  · simp at h
  · rename_i hc; exact ⟨h, by simpa using hc⟩
theorem rem_out {A : List Nat} {j : Nat} (h : j ∉ A) : rem A pend j = pend j := by simp [rem, h]
theorem rem_in {A : List Nat} {j : Nat} (h : j ∈ A) : rem A pend j = none := by simp [rem, h]

open Classical in
theorem Dy.turn (d : Dy P B nt H0 φ0 w0 ops N g t0 S V V' H pend φ a w) (st : Stat ops) {i : Nat} {o : Oper} (ho : ops[i]? = some o) (hS : ¬ S i) (hA : ∀ j ∈ anOf (ancs ops) i, S j)
    (hpi : pend i = none) {H' : Heap} {φ1 : Mp} {w' : World} {v v' : Value} (hr1 : HR B P H' φ1 w') (e1 : Ext (com N (anOf (ancs ops) i) pend H) φ w H' φ1 w') (hv : VR H' φ1 v v')
    (hf : ∀ k, H'.used k → (com N (anOf (ancs ops) i) pend H).used k ∨ k = N + i ∨ H.nxt ≤ k) :
    ∃ φ2, Dy P B nt H0 φ0 w0 ops N g t0 (fun j => j = i ∨ S j) (vput V i v) (vput V' i v') H' (rem (anOf (ancs ops) i) pend) φ2 (a.put o.dst v') w' := by
  have hi : i < ops.length := (List.getElem?_eq_some_iff.1 ho).1
  obtain ⟨hri, exi, fri⟩ := d.laid (A := anOf (ancs ops) i) fun j hj => ⟨hA j hj, st.tr i hi j hj⟩
  have hroom := d.room
  let pat : Nat → Prop := fun k => ∃ j, k = N + j ∧ S j ∧ rem (anOf (ancs ops) i) pend j ≠ none
  have hpat : ∀ k, H'.used k → ¬ pat k := by
    rintro k hk ⟨j, rfl, hj, hp⟩
    obtain ⟨b, hb⟩ := Option.ne_none_iff_exists'.1 hp
    obtain ⟨hb0, hja⟩ := rem_some hb
    rcases hf _ hk with (h | ⟨c, hc, _, hc2⟩) | h | h
    · exact d.pfree j (by simp [hb0]) h
    · have : j = c := by omega
      exact hja (this ▸ hc)
    · have : j = i := by omega
      subst this; rw [hpi] at hb0; simp at hb0
    · have := (d.cl j hj).1; omega
  let φ2 : Mp := { to := fun k => if pat k then φ k else φ1 k, cap := fun k => if pat k then φ.cap k else φ1.cap k }
  have ag1 : ∀ k, H'.used k → φ2 k = φ1 k ∧ φ2.cap k = φ1.cap k := fun k hk => by simp [φ2, hpat k hk]
  have agp : ∀ k, pat k → φ2 k = φ k ∧ φ2.cap k = φ.cap k := fun k hk => by simp [φ2, hk]
  have agn : ∀ k, ¬ pat k → φ2 k = φ1 k ∧ φ2.cap k = φ1.cap k := fun k hk => by simp [φ2, hk]
  have hr2 : HR B P H' φ2 w' := hr1.congr ag1 (Nat.le_refl _) fun _ _ => rfl
  have e2 := e1.congr hr1 ag1
  have hpf' : ∀ j, rem (anOf (ancs ops) i) pend j ≠ none → ¬ H'.used (N + j) := by
    intro j hp hk
    obtain ⟨b, hb⟩ := Option.ne_none_iff_exists'.1 hp
    obtain ⟨hb0, hja⟩ := rem_some hb
    rcases hf _ hk with (h | ⟨c, hc, _, hc2⟩) | h | h
    · exact d.pfree j (by simp [hb0]) h
    · have : j = c := by omega
      exact hja (this ▸ hc)
    · have : j = i := by omega
      subst this; rw [hpi] at hb0; simp at hb0
    · have := d.plt (j := j) (by simp [hb0]); omega
  have L : ∀ A : List Nat, (∀ j ∈ A, S j) → Later (com N A pend H) φ (com N A (rem (anOf (ancs ops) i) pend) H') φ2 := by
    intro A hAS
    have hHu : ∀ k, H.used k → (com N (anOf (ancs ops) i) pend H).used k := fun k hk => .inl hk
    have hget : ∀ k, (com N A pend H).used k → (com N A (rem (anOf (ancs ops) i) pend) H').live k →
        (∃ j b, j ∈ A ∧ k = N + j ∧ pend j = some b ∧ j ∉ anOf (ancs ops) i) ∨ ((com N (anOf (ancs ops) i) pend H).used k ∧ H'.live k ∧ ¬ pat k) := by
      intro k hk hl
      unfold Heap.live at hl
      rcases com_get (N := N) (A := A) (pend := rem (anOf (ancs ops) i) pend) (H := H') (i := k) with ⟨j, b, hj, hb, rfl, _⟩ | ⟨h0, h⟩
      · obtain ⟨hb1, hb2⟩ := rem_some hb
        exact .inl ⟨j, b, hj, rfl, hb1, hb2⟩
      · rw [h] at hl
        have hnp : ¬ pat k := hpat k (hr1.liv k hl)
        rcases hk with hk | ⟨j, hj, hp, rfl⟩
        · exact .inr ⟨.inl hk, hl, hnp⟩
        · have h0j := h0 j hj rfl
          by_cases hja : j ∈ anOf (ancs ops) i
          · exact .inr ⟨.inr ⟨j, hja, hp, rfl⟩, hl, hnp⟩
          · rw [rem_out hja] at h0j; exact absurd h0j hp
    have hpj : ∀ {j b}, j ∈ A → pend j = some b → j ∉ anOf (ancs ops) i → pat (N + j) := fun {j b} hj hb hn => ⟨j, rfl, hAS j hj, by rw [rem_out hn, hb]; simp⟩
    refine ⟨e1.nxt, fun k hk => ?_, fun k hk hl => ?_, fun k hk hl => ?_, fun k hk hl => ?_⟩
    · rcases hk with hk | ⟨j, hj, hp, rfl⟩
      · exact .inl (e1.used k (hHu k hk))
      · by_cases hja : j ∈ anOf (ancs ops) i
        · exact .inl (e1.used _ (.inr ⟨j, hja, hp, rfl⟩))
        · exact .inr ⟨j, hj, by rw [rem_out hja]; exact hp, rfl⟩
    · rcases hget k hk hl with ⟨j, b, hj, rfl, hb, _⟩ | ⟨hu, hl', _⟩
      · unfold Heap.live; rw [com_get_in hj hb]; simp
      · have hlc := e1.live k hu hl'
        unfold Heap.live at hlc ⊢
        rcases com_get (N := N) (A := A) (pend := pend) (H := H) (i := k) with ⟨j, b, hj, hb, rfl, h⟩ | ⟨h0, h⟩
        · rw [h]; simp
        · rw [h]
          rcases com_get (N := N) (A := anOf (ancs ops) i) (pend := pend) (H := H) (i := k) with ⟨j, b, hj, hb, rfl, h'⟩ | ⟨_, h'⟩
          · rcases hk with hk | ⟨c, hc, hp, hkc⟩
            · exact absurd hk (d.pfree j (by simp [hb]))
            · have : j = c := by omega
              subst this
              have := h0 j hc rfl
              rw [this] at hb; simp at hb
          · rwa [h'] at hlc
    · rcases hget k hk hl with ⟨j, b, hj, rfl, hb, hn⟩ | ⟨hu, hl', hnp⟩
      · exact (agp _ (hpj hj hb hn)).1
      · rw [(agn k hnp).1]; exact e1.map k hu hl'
    · rcases hget k hk hl with ⟨j, b, hj, rfl, hb, hn⟩ | ⟨hu, hl', hnp⟩
      · exact (agp _ (hpj hj hb hn)).2
      · rw [(agn k hnp).2]; exact e1.cap k hu hl'
  have hAj : ∀ j, S j → ∀ k ∈ j :: anOf (ancs ops) j, S k := fun j hj k hk => by
    rcases List.mem_cons.1 hk with rfl | hk
    · exact hj
    · exact (d.cl j hj).2 k hk
  have hne : ∀ {j b}, (j = i ∨ S j) → rem (anOf (ancs ops) i) pend j = some b → S j ∧ pend j = some b ∧ j ∉ anOf (ancs ops) i ∧ φ2 (N + j) = φ (N + j) ∧ φ2.cap (N + j) = φ.cap (N + j) := by
    intro j b h hb
    obtain ⟨h1, h2⟩ := rem_some hb
    have hj : S j := h.resolve_left (by rintro rfl; rw [hpi] at h1; simp at h1)
    have := agp (N + j) ⟨j, rfl, hj, by rw [hb]; simp⟩
    exact ⟨hj, h1, h2, this.1, this.2⟩
  -- a block of the part that ran is none of those that wait
  have hapart : ∀ j b k c, S j → pend j = some b → j ∉ anOf (ancs ops) i → (com N (anOf (ancs ops) i) pend H).get k = some c → φ k ≠ φ (N + j) := by
    intro j b k c hj hb hja hk he
    rcases com_get (N := N) (A := anOf (ancs ops) i) (pend := pend) (H := H) (i := k) with ⟨j', b', hj', hb', rfl, _⟩ | ⟨_, h'⟩
    · exact hja (d.inj2 j' b' j b (hA j' hj') hb' hj hb he ▸ hj')
    · rw [h'] at hk
      exact d.inj1 j b k hj hb (by unfold Heap.live; rw [hk]; simp) he
  refine ⟨φ2, d.tm.put st ho v', fun t ht => ?_, fun j hj => ?_, hr2, exi.trans e2, Nat.le_trans d.room e1.nxt, d.base, fun k hk => ?_, fun j hp => ?_, fun j hj h hk => ?_, fun j b hj hb => ?_, fun j b k hj hb hl => ?_,
    fun j b j' b' hj hb hj' hb' he => ?_, fun j hj => ?_⟩
  · have := L [] (by simp)
    rw [com_nil, com_nil] at this
    exact (d.fr t ht).mono this
  · by_cases e : j = i
    · subst e
      rw [vput_same, vput_same]
      exact (hv.mono (Later.congr ag1)).mono (com_later0 hpf')
    · rw [vput_ne e, vput_ne e]
      have hj := hj.resolve_left e
      exact (d.val j hj).mono (L _ (hAj j hj))
  · rcases hf k hk with h | rfl | h
    · exact fri k h
    · have := d.base; exact .inr (by omega)
    · have := d.base; exact .inr (by omega)
  · obtain ⟨b, hb⟩ := Option.ne_none_iff_exists'.1 hp
    exact d.pk j (by rw [(rem_some hb).1]; simp)
  · rcases h with h | h
    · rcases hf _ hk with (h' | ⟨c, hc, _, hc2⟩) | h' | h'
      · exact d.free j hj (.inl fun hs => h (.inr hs)) h'
      · have : j = c := by omega
        exact h (.inr (this ▸ hA c hc))
      · exact h (.inl (by omega))
      · omega
    · exact hpf' j h hk
  · obtain ⟨hj1, hb1, hja, hm, hcp⟩ := hne hj hb
    obtain ⟨h1, h2, h3⟩ := d.adp j b hj1 hb1
    rw [hm, hcp]
    refine ⟨h1.mono (L _ (hAj j hj1)) ?_, h2, h3⟩
    exact e1.kept _ h1.lt fun k c hc _ => hapart j b k c hj1 hb1 hja hc
  · obtain ⟨hj1, hb1, hja, hm, _⟩ := hne hj hb
    rw [hm, (ag1 k (hr1.liv k hl)).1]
    obtain ⟨c, hc⟩ := Option.ne_none_iff_exists'.1 hl
    have hlt := (d.adp j b hj1 hb1).1.lt
    rcases e1.mine k c hc with ⟨c', hc', hm', _⟩ | h | ⟨k', c', hc', _, hm'⟩
    · rw [hm']; exact hapart j b k c' hj1 hb1 hja hc'
    · omega
    · rw [← hm']; exact hapart j b k' c' hj1 hb1 hja hc'
  · obtain ⟨h1, h2, _, h3, _⟩ := hne hj hb
    obtain ⟨h1', h2', _, h3', _⟩ := hne hj' hb'
    rw [h3, h3'] at he
    exact d.inj2 j b j' b' h1 h2 h1' h2' he
  · rcases hj with rfl | hj
    · exact ⟨hi, fun k hk => .inr (hA k hk)⟩
    · exact ⟨(d.cl j hj).1, fun k hk => .inr ((d.cl j hj).2 k hk)⟩

end Go.Proofs.YtcfjimhbachmlaaGreatDoor.E

/- The clean semantics: a region whose order is open, in whatever order. -/
namespace Go.Proofs.YtcfjimhbachmlaaGreatDoor.E
open Go

variable {P : Program} {Y : Env} {B nt : Nat} {H0 : Heap} {φ0 : Mp} {w0 : World} {ops : List Oper} {N : Nat} {g : Fm} {t0 : Array Value} {S : Nat → Prop} {V V' : Nat → Value} {H : Heap} {pend : Pend} {φ : Mp} {a : Act} {w : World}

/-- what the plan, which runs ahead, has found out: `D`: what it has carried out -/
structure Fa (Y : Env) (ops : List Oper) (N : Nat) (g : Fm) (D : List Nat) (S : Nat → Prop) (V : Nat → Value) (H : Heap) (pend : Pend) : Prop where
  ahead : ∀ i ∈ D, i < ops.length ∧ ∀ j ∈ anOf (ancs ops) i, j ∈ D
  sub : ∀ i, S i → i ∈ D
  eff : ∀ i o, i ∈ D → ops[i]? = some o → okind o.op = .eff → S i
  fact : ∀ i o, i ∈ D → ¬ S i → ops[i]? = some o →
    (ewanted (can ops g V (anOf (ancs ops) i)) ops o = true →
      (okind o.op = .alloc → ∃ b, pend i = some b ∧ ∀ H2, eop Y (ev (can ops g V (anOf (ancs ops) i))) (N + i) o.op H2 = some (.val (V i), H2.set (N + i) b)) ∧
      (okind o.op = .pure ∨ okind o.op = .read → pend i = none ∧ evalV Y (ev (can ops g V (anOf (ancs ops) i))) o.op (com N (anOf (ancs ops) i) pend H) = some (V i))) ∧
    (ewanted (can ops g V (anOf (ancs ops) i)) ops o = false → pend i = none ∧ V i = undef)
  pd : ∀ i, pend i ≠ none → i ∈ D

theorem can_congr {A : List Nat} {V2 : Nat → Value} (h : ∀ j ∈ A, V2 j = V j) : can ops g V2 A = can ops g V A := by
  funext t
  simp only [can]
  split
  · split
    · rename_i hc; rw [h _ (by simpa using hc)]
    · rfl
  · rfl

def PK (ops : List Oper) (pend : Pend) : Prop := ∀ j, pend j ≠ none → ∃ o, ops[j]? = some o ∧ okind o.op = .alloc

def Gap (rest : List PS) : Prop := rest = [] ∨ ∃ ps r, rest = ps :: r ∧ ps.k = .eff

/-- one step of the plan that is no effect keeps what was found out -/
theorem Fa.step {D : List Nat} (f : Fa Y ops N g D S V H pend) {i : Nat} {o : Oper} (ho : ops[i]? = some o) (hnew : i ∉ D) (hsub : ∀ j ∈ anOf (ancs ops) i, j ∈ D) (hk : okind o.op ≠ .eff)
    {v : Value} {pb : Option Blk} (hpn : pend i = none)
    (hf : (ewanted (can ops g V (anOf (ancs ops) i)) ops o = true →
      (okind o.op = .alloc → ∃ b, pb = some b ∧ ∀ H2, eop Y (ev (can ops g V (anOf (ancs ops) i))) (N + i) o.op H2 = some (.val v, H2.set (N + i) b)) ∧
      (okind o.op = .pure ∨ okind o.op = .read → pb = none ∧ evalV Y (ev (can ops g V (anOf (ancs ops) i))) o.op (com N (anOf (ancs ops) i) pend H) = some v)) ∧
    (ewanted (can ops g V (anOf (ancs ops) i)) ops o = false → pb = none ∧ v = undef)) :
    Fa Y ops N g (i :: D) S (vput V i v) H (vput pend i pb) := by
  have hne : ∀ j ∈ D, j ≠ i := fun j hj e => hnew (e ▸ hj)
  have hcan : ∀ j, (∀ k ∈ anOf (ancs ops) j, k ∈ D) → can ops g (vput V i v) (anOf (ancs ops) j) = can ops g V (anOf (ancs ops) j) :=
    fun j hj => can_congr fun k hk => vput_ne (hne k (hj k hk))
  have hcom : ∀ j, (∀ k ∈ anOf (ancs ops) j, k ∈ D) → com N (anOf (ancs ops) j) (vput pend i pb) H = com N (anOf (ancs ops) j) pend H :=
    fun j hj => com_congr fun k hk => vput_ne (hne k (hj k hk))
  refine ⟨fun j hj => ?_, fun j hj => List.mem_cons_of_mem _ (f.sub j hj), fun j o' hj ho' hk' => ?_, fun j o' hj hS ho' => ?_, fun j hj => ?_⟩
  · rcases List.mem_cons.1 hj with rfl | hj
    · exact ⟨(List.getElem?_eq_some_iff.1 ho).1, fun k hk => List.mem_cons_of_mem _ (hsub k hk)⟩
    · exact ⟨(f.ahead j hj).1, fun k hk => List.mem_cons_of_mem _ ((f.ahead j hj).2 k hk)⟩
  · rcases List.mem_cons.1 hj with rfl | hj
    · rw [ho] at ho'; cases ho'; exact absurd hk' hk
    · exact f.eff j o' hj ho' hk'
  · rcases List.mem_cons.1 hj with rfl | hj
    · rw [ho] at ho'; cases ho'
      rw [hcan j hsub, hcom j hsub, vput_same, vput_same]
      exact hf
    · rw [hcan j (f.ahead j hj).2, hcom j (f.ahead j hj).2, vput_ne (hne j hj), vput_ne (hne j hj)]
      exact f.fact j o' hj hS ho'
  · by_cases e : j = i
    · subst e; exact List.mem_cons_self
    · rw [vput_ne e] at hj; exact List.mem_cons_of_mem _ (f.pd j hj)

theorem vput_id {α : Type} {V : Nat → α} {i : Nat} {v : α} (h : V i = v) : vput V i v = V := by
  funext j; simp only [vput]; split
  · rename_i e; rw [e, h]
  · rfl

def Runs (Y : Env) (P : Program) (ops : List Oper) (N : Nat) (g : Fm) (Q : Fm → Heap → Prop) (S : Nat → Prop) (H : Heap) (D : List Nat) (V : Nat → Value) (pend : Pend) : Prop :=
  ∃ rest' D' V2 pend2, planOK (ancs ops) (ops.map (okind ·.op)) ops.length D' rest' = true ∧ edw Y P ops N g Q rest' V2 H pend2 ∧ Fa Y ops N g D' S V2 H pend2 ∧ Gap rest' ∧ PK ops pend2 ∧
    ∀ j ∈ D, V2 j = V j ∧ pend2 j = pend j

/-- the plan runs on to the next effect -/
theorem adv {Q : Fm → Heap → Prop} : ∀ (rest : List PS) (D : List Nat) (V : Nat → Value) (pend : Pend), planOK (ancs ops) (ops.map (okind ·.op)) ops.length D rest = true →
    edw Y P ops N g Q rest V H pend → Fa Y ops N g D S V H pend → PK ops pend →
    Runs Y P ops N g Q S H D V pend := by
  intro rest
  induction rest with
  | nil => intro D V pend hp he hf hk; exact ⟨[], D, V, pend, hp, he, hf, .inl rfl, hk, fun _ _ => ⟨rfl, rfl⟩⟩
  | cons ps rest ih =>
    intro D V pend hp he hf hk
    by_cases hke : ps.k = .eff
    · exact ⟨ps :: rest, D, V, pend, hp, he, hf, .inr ⟨ps, rest, rfl, hke⟩, hk, fun _ _ => ⟨rfl, rfl⟩⟩
    · have sp := step_of hp
      obtain ⟨i, k, an, rc⟩ := ps
      have han : an = anOf (ancs ops) i := sp.an
      subst han
      obtain ⟨o, ho⟩ : ∃ o, ops[i]? = some o := ⟨ops[i]'sp.lt, by have := sp.lt; simp⟩
      have hkk : k = okind o.op := by have := sp.k; simpa [kindAt_eq ho] using this
      have hne : ∀ j ∈ D, j ≠ i := fun j hj e => sp.new (e ▸ hj)
      have hpn : pend i = none := by
        cases hpi : pend i with
        | none => rfl
        | some b => exact absurd (hf.pd i (by simp [hpi])) sp.new
      have go : ∀ (v : Value) (pb : Option Blk), Fa Y ops N g (i :: D) S (vput V i v) H (vput pend i pb) → edw Y P ops N g Q rest (vput V i v) H (vput pend i pb) → (pb ≠ none → okind o.op = .alloc) → Runs Y P ops N g Q S H D V pend := by
        intro v pb hfa hed hpb
        obtain ⟨rest', D', V2, pend2, h1, h2, h3, h4, h5, h6⟩ := ih (i :: D) (vput V i v) (vput pend i pb) sp.rest hed hfa (fun j hj => by
          by_cases e : j = i
          · subst e; rw [vput_same] at hj; exact ⟨o, ho, hpb hj⟩
          · rw [vput_ne e] at hj; exact hk j hj)
        exact ⟨rest', D', V2, pend2, h1, h2, h3, h4, h5, fun j hj => by
          obtain ⟨q1, q2⟩ := h6 j (List.mem_cons_of_mem _ hj)
          rw [vput_ne (hne j hj)] at q1 q2; exact ⟨q1, q2⟩⟩
      simp only [edw, ho] at he
      by_cases hw : ewanted (can ops g V (anOf (ancs ops) i)) ops o = true
      · simp only [hw, if_true] at he
        have pur : ∀ v, (okind o.op = .pure ∨ okind o.op = .read) → evalV Y (ev (can ops g V (anOf (ancs ops) i))) o.op (com N (anOf (ancs ops) i) pend H) = some v → edw Y P ops N g Q rest (vput V i v) H pend → Runs Y P ops N g Q S H D V pend := by
          intro v hkp hv hed
          refine go v none ?_ (by rw [vput_id hpn]; exact hed) (fun h => absurd rfl h)
          exact hf.step ho sp.new sp.sub (by rcases hkp with h | h <;> simp [h]) hpn ⟨fun _ => ⟨fun h => by rcases hkp with h' | h' <;> simp [h'] at h, fun _ => ⟨rfl, hv⟩⟩, fun h => by rw [hw] at h; simp at h⟩
        cases k with
        | eff => exact absurd rfl hke
        | alloc =>
          simp only at he
          split at he
          · rename_i v b hvb
            refine go v (some b) ?_ he (fun _ => hkk.symm)
            exact hf.step ho sp.new sp.sub (by simp [← hkk]) hpn ⟨fun _ => ⟨fun _ => ⟨b, rfl, fun H2 => alloc_any hkk.symm hvb H2⟩, fun h => by rw [← hkk] at h; simp at h⟩, fun h => by rw [hw] at h; simp at h⟩
          · exact he.elim
        | pure =>
          simp only at he
          split at he
          · rename_i v hv; exact pur v (.inl hkk.symm) hv he
          · exact he.elim
        | read =>
          simp only at he
          split at he
          · rename_i v hv; exact pur v (.inr hkk.symm) hv he
          · exact he.elim
      · simp only [hw, if_false, Bool.false_eq_true] at he
        have hw' : ewanted (can ops g V (anOf (ancs ops) i)) ops o = false := by simpa using hw
        refine go undef none ?_ (by rw [vput_id hpn]; exact he) (fun h => absurd rfl h)
        exact hf.step ho sp.new sp.sub (by rw [← hkk]; exact hke) hpn ⟨fun h => absurd h hw, fun _ => ⟨rfl, rfl⟩⟩

/-- behind an effect -/
theorem Fa.after {D : List Nat} (f : Fa Y ops N g D S V H pend) {i : Nat} {o : Oper} {rc : List (Nat × List Nat)} {rest : List PS} (sp : Step ops D ⟨i, .eff, anOf (ancs ops) i, rc⟩ rest) (ho : ops[i]? = some o)
    (hA : ∀ j ∈ anOf (ancs ops) i, S j) {v : Value} {H' : Heap} (hc : ∀ r ∈ rc, again Y ops N g V H' (rem (anOf (ancs ops) i) pend) r) :
    Fa Y ops N g (i :: D) (fun j => j = i ∨ S j) (vput V i v) H' (rem (anOf (ancs ops) i) pend) := by
  have hne : ∀ j ∈ D, j ≠ i := fun j hj e => sp.new (e ▸ hj)
  have hcan : ∀ j ∈ D, can ops g (vput V i v) (anOf (ancs ops) j) = can ops g V (anOf (ancs ops) j) :=
    fun j hj => can_congr fun k hk => vput_ne (hne k ((f.ahead j hj).2 k hk))
  refine ⟨fun j hj => ?_, fun j hj => ?_, fun j o' hj ho' hk' => ?_, fun j o' hj hS ho' => ?_, fun j hj => ?_⟩
  · rcases List.mem_cons.1 hj with rfl | hj
    · exact ⟨sp.lt, fun k hk => List.mem_cons_of_mem _ (sp.sub k hk)⟩
    · exact ⟨(f.ahead j hj).1, fun k hk => List.mem_cons_of_mem _ ((f.ahead j hj).2 k hk)⟩
  · rcases hj with rfl | hj
    · exact List.mem_cons_self
    · exact List.mem_cons_of_mem _ (f.sub j hj)
  · rcases List.mem_cons.1 hj with rfl | hj
    · exact .inl rfl
    · exact .inr (f.eff j o' hj ho' hk')
  · have hji : j ≠ i := fun e => hS (.inl e)
    have hSj : ¬ S j := fun h => hS (.inr h)
    have hj : j ∈ D := by
      rcases List.mem_cons.1 hj with h | h
      · exact absurd h hji
      · exact h
    have hja : j ∉ anOf (ancs ops) i := fun h => hSj (hA j h)
    obtain ⟨f1, f2⟩ := f.fact j o' hj hSj ho'
    rw [hcan j hj, vput_ne hji, rem_out hja]
    refine ⟨fun hw => ⟨(f1 hw).1, fun hk => ?_⟩, f2⟩
    obtain ⟨g1, g2⟩ := (f1 hw).2 hk
    refine ⟨g1, ?_⟩
    rcases hk with hk | hk
    · rw [← g2]; exact evalV_pure hk
    · have hrc : (j, anOf (ancs ops) j) ∈ rc := sp.rc rfl j hj (by rw [kindAt_eq ho']; exact hk) hja
      have := hc _ hrc
      simp only [again, ho'] at this
      rcases this with h | h
      · rw [hw] at h; simp at h
      · exact h
  · obtain ⟨b, hb⟩ := Option.ne_none_iff_exists'.1 hj
    exact List.mem_cons_of_mem _ (f.pd j (by rw [(rem_some hb).1]; simp))

theorem Fa.skipped {D : List Nat} (f : Fa Y ops N g D S V H pend) {i : Nat} {rc : List (Nat × List Nat)} {rest : List PS} (sp : Step ops D ⟨i, .eff, anOf (ancs ops) i, rc⟩ rest) {v : Value} :
    Fa Y ops N g (i :: D) (fun j => j = i ∨ S j) (vput V i v) H pend := by
  have hne : ∀ j ∈ D, j ≠ i := fun j hj e => sp.new (e ▸ hj)
  have hcan : ∀ j ∈ D, can ops g (vput V i v) (anOf (ancs ops) j) = can ops g V (anOf (ancs ops) j) :=
    fun j hj => can_congr fun k hk => vput_ne (hne k ((f.ahead j hj).2 k hk))
  refine ⟨fun j hj => ?_, fun j hj => ?_, fun j o' hj ho' hk' => ?_, fun j o' hj hS ho' => ?_, fun j hj => List.mem_cons_of_mem _ (f.pd j hj)⟩
  · rcases List.mem_cons.1 hj with rfl | hj
    · exact ⟨sp.lt, fun k hk => List.mem_cons_of_mem _ (sp.sub k hk)⟩
    · exact ⟨(f.ahead j hj).1, fun k hk => List.mem_cons_of_mem _ ((f.ahead j hj).2 k hk)⟩
  · rcases hj with rfl | hj
    · exact List.mem_cons_self
    · exact List.mem_cons_of_mem _ (f.sub j hj)
  · rcases List.mem_cons.1 hj with rfl | hj
    · exact .inl rfl
    · exact .inr (f.eff j o' hj ho' hk')
  · have hji : j ≠ i := fun e => hS (.inl e)
    have hj : j ∈ D := by
      rcases List.mem_cons.1 hj with h | h
      · exact absurd h hji
      · exact h
    rw [hcan j hj, vput_ne hji]
    exact f.fact j o' hj (fun h => hS (.inr h)) ho'

end Go.Proofs.YtcfjimhbachmlaaGreatDoor.E

/- The clean semantics: a region whose order is open: the plan speaks for every order. -/
namespace Go.Proofs.YtcfjimhbachmlaaGreatDoor.E
open Go

variable {P : Program} {Y : Env} {B nt : Nat} {H0 : Heap} {φ0 : Mp} {w0 : World} {N : Nat} {g : Fm} {t0 : Array Value}

def onL (listed : Array Bool) : Nat → Prop := fun j => listed.getD j false = true

theorem onL_set {listed : Array Bool} {i : Nat} (hi : i < listed.size) : onL (listed.setIfInBounds i true) = fun j => j = i ∨ onL listed j := by
  funext j
  refine propext ?_
  simp only [onL, Array.getD_eq_getD_getElem?, Array.getElem?_setIfInBounds]
  by_cases e : i = j
  · subst e; simp [hi]
  · have : ¬ j = i := fun h => e h.symm
    simp [e, this]

def unl (listed : Array Bool) : Nat := listed.toList.countP fun b => !b

theorem unl_set {listed : Array Bool} {i : Nat} (h : listed.getD i true = false) : unl (listed.setIfInBounds i true) + 1 = unl listed := by
  have hi : i < listed.size := by
    rcases Nat.lt_or_ge i listed.size with h' | h'
    · exact h'
    · simp [Array.getD_eq_getD_getElem?, Array.getElem?_eq_none h'] at h
  have hv : listed[i] = false := by simpa [Array.getD_eq_getD_getElem?, hi] using h
  unfold unl
  rw [Array.toList_setIfInBounds]
  have hi' : i < listed.toList.length := by simpa using hi
  rw [List.countP_set hi']
  have hv' : listed.toList[i] = false := by simpa using hv
  have hpos : 0 < listed.toList.countP fun b => !b := by
    rw [List.countP_pos_iff]
    exact ⟨false, by rw [← hv']; exact List.getElem_mem _, rfl⟩
  rw [hv']
  simp only [Bool.not_false, Bool.not_true, if_true, Bool.false_eq_true, if_false]
  omega

/-- where a region is: what has come up, and what the plan has found out -/
def At (P : Program) (Y : Env) (B nt : Nat) (H0 : Heap) (φ0 : Mp) (w0 : World) (ops : List Oper) (N : Nat) (g : Fm) (t0 : Array Value) (Q : Fm → Heap → Prop) (S : Nat → Prop) (a : Act) (w : World) : Prop :=
  ∃ D rest V V' H pend φ, Dy P B nt H0 φ0 w0 ops N g t0 S V V' H pend φ a w ∧ Fa Y ops N g D S V H pend ∧ planOK (ancs ops) (ops.map (okind ·.op)) ops.length D rest = true ∧
    edw Y P ops N g Q rest V H pend ∧ Gap rest

theorem At.of_runs {ops : List Oper} {Q : Fm → Heap → Prop} {S : Nat → Prop} {V V' : Nat → Value} {H : Heap} {pend : Pend} {φ : Mp} {a : Act} {w : World} {D : List Nat}
    (d : Dy P B nt H0 φ0 w0 ops N g t0 S V V' H pend φ a w) (f : Fa Y ops N g D S V H pend) (r : Runs Y P ops N g Q S H D V pend) : At P Y B nt H0 φ0 w0 ops N g t0 Q S a w := by
  obtain ⟨rest', D', V2, pend2, h1, h2, h3, h4, h5, h6⟩ := r
  exact ⟨D', rest', V2, V', H, pend2, φ, d.adv (fun j hj => (h6 j (f.sub j hj)).1) (fun j hj => (h6 j (f.sub j hj)).2) h5, h3, h1, h2, h4⟩

theorem noR {ops : Array Oper} {listed : Array Bool} (st : Stat ops.toList) (hsz : listed.size = ops.size) (h : Region.ready .any ops listed = []) : ∀ i < ops.size, onL listed i := by
  intro i
  induction i using Nat.strongRecOn with
  | _ i ih =>
    intro hi
    refine Classical.byContradiction fun hn => ?_
    have : i ∈ Region.ready .any ops listed := by
      rw [mem_ready]
      refine ⟨?_, ops[i], by simp [hi], fun e he hb => ?_⟩
      · have : listed.getD i false = false := by simpa [onL] using hn
        rw [Array.getD_eq_getD_getElem?, Array.getElem?_eq_getElem (by omega)] at this ⊢
        exact this
      · have hm := st.of i ops[i] (by simp [hi]) e (by simpa using he) hb
        have hl := st.lt i (by simpa using hi) _ hm
        exact ih e.on hl (by omega)
    rw [h] at this; cases this

theorem draw_any (hY : Y.ok P) {ops : Array Oper} (hops : oprsOK nt P.globals.size ops = true) (st : Stat ops.toList) {Q : Fm → Heap → Prop} {QQ : Exit → Act → World → Prop}
    (hQ : ∀ g H a w, Q g H → St P B nt H0 φ0 w0 g H a w → QQ .normal a w) : ∀ (fuel : Nat) (listed : Array Bool) (a : Act) (w : World), listed.size = ops.size → unl listed ≤ fuel →
    At P Y B nt H0 φ0 w0 ops.toList N g t0 Q (onL listed) a w → wpAny P .any ops QQ fuel listed a w := by
  have fin : ∀ (listed : Array Bool) (a : Act) (w : World), listed.size = ops.size → At P Y B nt H0 φ0 w0 ops.toList N g t0 Q (onL listed) a w → Region.ready .any ops listed = [] → QQ .normal a w := by
    rintro listed a w hsz ⟨D, rest, V, V', H, pend, φ, d, f, hp, he, hg⟩ hr
    have hall := noR st hsz hr
    rcases hg with rfl | ⟨ps, r, rfl, hk⟩
    · simp only [edw] at he
      refine hQ _ _ _ _ he ?_
      obtain ⟨hr', he', hf'⟩ := d.laid (A := List.range ops.toList.length) fun j hj => by
        have hj' : j < ops.size := by simpa using hj
        refine ⟨hall j hj', fun k hk => ?_⟩
        have := st.lt j (by simpa using hj') k hk
        simp only [List.mem_range, Array.length_toList]; omega
      refine ⟨⟨φ, ⟨d.tm.sz, fun t ht => ?_⟩, hr', he'⟩, hf', d.tm.nd⟩
      simp only [can]
      cases hw : writer ops.toList t with
      | none =>
        simp only []
        rw [d.tm.zero t ht fun j hj => by rw [hw] at hj; simp at hj]
        exact (d.fr t (by rw [← d.tm.sz]; exact ht)).mono (com_later0 d.pfree)
      | some j =>
        have hj := writer_lt hw
        have hj' : j < ops.size := by simpa using hj
        have : (List.range ops.toList.length).contains j = true := by simpa using hj
        simp only [this, if_true]
        rw [d.tm.one t ht j hw (hall j hj')]
        refine (d.val j (hall j hj')).mono (com_later d.pfree fun k hk => ?_)
        rcases List.mem_cons.1 hk with rfl | hk
        · simpa using hj
        · have := st.lt j hj k hk; simp only [List.mem_range]; omega
    · have sp := step_of hp
      exact absurd (f.sub _ (hall ps.i (by simpa using sp.lt))) sp.new
  intro fuel
  induction fuel with
  | zero =>
    intro listed a w hsz hu hat
    have hr : Region.ready .any ops listed = [] := by
      cases hr : Region.ready .any ops listed with
      | nil => rfl
      | cons i l =>
        have hi : i ∈ Region.ready .any ops listed := by rw [hr]; exact List.mem_cons_self
        have := unl_set (mem_ready.1 hi).1
        omega
    exact ⟨hr, fin listed a w hsz hat hr⟩
  | succ fuel ih =>
    intro listed a w hsz hu hat
    refine ⟨fin listed a w hsz hat, fun i hi => ?_⟩
    obtain ⟨hun, o, ho, hall⟩ := mem_ready.1 hi
    have hil : i < ops.size := (Array.getElem?_eq_some_iff.1 ho).1
    have hol : ops.toList[i]? = some o := by simpa using ho
    have hset := onL_set (listed := listed) (i := i) (by omega)
    have hnext : ∀ a' w', At P Y B nt H0 φ0 w0 ops.toList N g t0 Q (fun j => j = i ∨ onL listed j) a' w' → wpAny P .any ops QQ fuel (listed.setIfInBounds i true) a' w' := fun a' w' h =>
      ih _ a' w' (by simpa using hsz) (by have := unl_set hun; omega) (by rw [hset]; exact h)
    obtain ⟨D, rest, V, V', H, pend, φ, d, f, hp, he, hg⟩ := hat
    have hS : ¬ onL listed i := by
      simp only [onL]
      rw [Array.getD_eq_getD_getElem?, Array.getElem?_eq_getElem (by omega)] at hun ⊢
      simp at hun ⊢; exact hun
    have hA : ∀ j ∈ anOf (ancs ops.toList) i, onL listed j := by
      intro j hj
      obtain ⟨e, he, hb, h⟩ := st.back i o hol j hj
      have hon : onL listed e.on := hall e (by simpa using he) hb
      rcases h with rfl | h
      · exact hon
      · exact (d.cl _ hon).2 j h
    have hoo := List.all_eq_true.1 hops o (List.mem_of_getElem? hol)
    simp only [Bool.and_eq_true] at hoo
    obtain ⟨⟨_, hopr⟩, hgd⟩ := hoo
    have hop : ∀ x ∈ o.op.operands, oprOK nt P.globals.size x = true := fun x hx => List.all_eq_true.1 hopr x (by simpa using hx)
    have hwant := d.wanted st hol hA (hg := hgd)
    rw [show ops.toList.toArray = ops by simp] at hwant
    unfold wpOp
    simp only [ho]
    rw [hwant]
    by_cases hk : okind o.op = .eff
    · -- the next effect
      have hiD : i ∉ D := fun h => hS (f.eff i o h hol hk)
      rcases hg with rfl | ⟨ps, r, rfl, hpk⟩
      · exact absurd (planOK_nil hp i (by simpa using hil)) hiD
      · have sp := step_of hp
        have hpi : ps.i = i := by
          obtain ⟨o', ho'⟩ : ∃ o', ops.toList[ps.i]? = some o' := ⟨ops.toList[ps.i]'sp.lt, by have := sp.lt; simp⟩
          have hk' : okind o'.op = .eff := by rw [← kindAt_eq ho', ← sp.k, hpk]
          rcases st.ef i ps.i o o' hol ho' hk hk' with h | h | h
          · exact h.symm
          · exact absurd (sp.sub i h) hiD
          · exact absurd (f.sub _ (hA _ h)) sp.new
        obtain ⟨i', k, an, rc⟩ := ps
        have han : an = anOf (ancs ops.toList) i' := sp.an
        simp only at hpi hpk
        subst han hpi hpk
        simp only [edw, hol] at he
        have hpn : pend i' = none := by
          cases hpi : pend i' with
          | none => rfl
          | some b => exact absurd (f.pd i' (by simp [hpi])) sp.new
        split
        · rename_i hw
          simp only [hw, if_true] at he
          refine .inl ?_
          obtain ⟨hri, _, _⟩ := d.laid (A := anOf (ancs ops.toList) i') fun j hj => ⟨hA j hj, st.tr i' sp.lt j hj⟩
          have hu : ¬ (com N (anOf (ancs ops.toList) i') pend H).used (N + i') := by
            rintro (h | ⟨k, hk, _, hk2⟩)
            · exact d.free i' sp.lt (.inl hS) h
            · have := st.lt i' sp.lt k hk; omega
          have hρ := d.opr st hol hS hA hop
          have cont : ∀ {H' : Heap} {φ1 : Mp} {w' : World} {v v' : Value}, ((∀ r ∈ rc, again Y ops.toList N g V H' (rem (anOf (ancs ops.toList) i') pend) r) ∧ edw Y P ops.toList N g Q r (vput V i' v) H' (rem (anOf (ancs ops.toList) i') pend)) →
              HR B P H' φ1 w' → Ext (com N (anOf (ancs ops.toList) i') pend H) φ w H' φ1 w' → VR H' φ1 v v' → (∀ k, H'.used k → (com N (anOf (ancs ops.toList) i') pend H).used k ∨ k = N + i' ∨ H.nxt ≤ k) →
              wpAny P .any ops QQ fuel (listed.setIfInBounds i' true) (a.put o.dst v') w' := by
            intro H' φ1 w' v v' hK hr1 e1 hv hf
            obtain ⟨φ2, d2⟩ := d.turn st hol hS hA hpn hr1 e1 hv hf
            have f2 := f.after sp hol hA (v := v) hK.1
            exact hnext _ _ (At.of_runs d2 f2 (adv r (i' :: D) _ _ sp.rest hK.2 f2 d2.pk))
          unfold Oper.wp
          split at he
          · rename_i v H' hev
            obtain ⟨v', φ1, w', hrun, hv, hr1, e1⟩ := op_val hY hri hu hρ hev
            have hgv := gives_op hri.liv hev
            have hf : ∀ k, H'.used k → (com N (anOf (ancs ops.toList) i') pend H).used k ∨ k = N + i' ∨ H.nxt ≤ k := fun k hk => (hgv.used k hk).imp id .inl
            rcases hrun with hrun | ⟨hrun, rfl⟩
            · rw [hrun]; exact cont he hr1 e1 hv hf
            · rw [hrun]; exact cont he hr1 e1 hv hf
          · rename_i fid args H' hev
            obtain ⟨rfl, args', hex, hargs⟩ := op_enter hρ hev
            obtain ⟨⟨fn, hfn, hname, hbody⟩, hcalls⟩ := he
            have hrun : (execOp a.eval o).run P w = .ok (.enter fid args') w := by
              have h1 : fn.name ≠ "runtime.NumGoroutine" := by simpa using hname
              obtain ⟨c, hc⟩ : ∃ c, fn.body = some c := by
                cases hb : fn.body with
                | none => simp [hb] at hbody
                | some c => exact ⟨c, rfl⟩
              rw [hex]; simp [callFunc, hfn, h1, hc]
            rw [hrun, Oper.upon_enter]
            refine (hcalls B φ w args' hri hargs).mono ?_
            rintro e w' ⟨v, H', φ', v', hK, rfl, hv, hr', he', hfr'⟩
            exact cont hK hr' he' hv fun k hk => (hfr' k hk).imp id .inr
          · exact he.elim
        · rename_i hw
          simp only [hw, if_false, Bool.false_eq_true] at he
          have d2 := d.adv (V2 := vput V i' undef) (pend2 := pend) (fun j hj => vput_ne fun e => hS (e ▸ hj)) (fun _ _ => rfl) d.pk
          have d3 := d2.still st hol hA hpn (v := undef) (by rw [vput_same]; exact undef_VR)
          have f2 := f.skipped (S := onL listed) sp (v := undef)
          exact hnext _ _ (At.of_runs d3 f2 (adv r (i' :: D) _ _ sp.rest he f2 d3.pk))
    · -- what the plan has carried out already
      have hiD : i ∈ D := by
        refine Classical.byContradiction fun hn => ?_
        have hAD : ∀ j ∈ anOf (ancs ops.toList) i, j ∈ D := fun j hj => f.sub j (hA j hj)
        rcases hg with rfl | ⟨ps, r, rfl, hpk⟩
        · exact hn (planOK_nil hp i (by simpa using hil))
        · exact (step_of hp).eager hpk i (by simpa using hil) hn (by rw [kindAt_eq hol]; exact hk) hAD
      obtain ⟨f1, f2⟩ := f.fact i o hiD hS hol
      have keep : ∀ V2', Fa Y ops.toList N g D (fun j => j = i ∨ onL listed j) V2' H pend ↔ Fa Y ops.toList N g D (fun j => j = i ∨ onL listed j) V2' H pend := fun _ => Iff.rfl
      have fS : Fa Y ops.toList N g D (fun j => j = i ∨ onL listed j) V H pend :=
        ⟨f.ahead, fun j hj => hj.elim (fun e => e ▸ hiD) (f.sub j), fun j o' h1 h2 h3 => .inr (f.eff j o' h1 h2 h3), fun j o' h1 h2 h3 => f.fact j o' h1 (fun h => h2 (.inr h)) h3, f.pd⟩
      split
      · rename_i hw
        refine .inl ?_
        unfold Oper.wp
        cases hkk : okind o.op with
        | eff => exact absurd hkk hk
        | alloc =>
          obtain ⟨b, hb, hev⟩ := (f1 hw).1 hkk
          obtain ⟨v', φ', w', hrun, d2⟩ := d.made hY st hol hS hA hop hb hev
          rcases hrun with hrun | ⟨hrun, rfl⟩
          · rw [hrun]; exact hnext _ _ ⟨D, rest, V, _, H, pend, φ', d2, fS, hp, he, hg⟩
          · rw [hrun]; exact hnext _ _ ⟨D, rest, V, _, H, pend, φ', d2, fS, hp, he, hg⟩
        | pure =>
          obtain ⟨h1, h2⟩ := (f1 hw).2 (.inl hkk)
          obtain ⟨hri, _, _⟩ := d.laid (A := anOf (ancs ops.toList) i) fun j hj => ⟨hA j hj, st.tr i (by simpa using hil) j hj⟩
          obtain ⟨v', hrun, hv⟩ := op_same hY hri (.inl hkk) (d.opr st hol hS hA hop) h2
          rw [hrun]
          exact hnext _ _ ⟨D, rest, V, _, H, pend, φ, d.still st hol hA h1 hv, fS, hp, he, hg⟩
        | read =>
          obtain ⟨h1, h2⟩ := (f1 hw).2 (.inr hkk)
          obtain ⟨hri, _, _⟩ := d.laid (A := anOf (ancs ops.toList) i) fun j hj => ⟨hA j hj, st.tr i (by simpa using hil) j hj⟩
          obtain ⟨v', hrun, hv⟩ := op_same hY hri (.inr hkk) (d.opr st hol hS hA hop) h2
          rw [hrun]
          exact hnext _ _ ⟨D, rest, V, _, H, pend, φ, d.still st hol hA h1 hv, fS, hp, he, hg⟩
      · rename_i hw
        obtain ⟨h1, h2⟩ := f2 (by simpa using hw)
        exact hnext _ _ ⟨D, rest, V, _, H, pend, φ, d.still st hol hA h1 (v := undef) (by rw [h2]; exact undef_VR), fS, hp, he, hg⟩

/-- regions whose order is open -/
theorem drawSim (hY : Y.ok P) (hm : P.follows .mixedOrders = true) : DrawSim P Y := by
  intro B nt H0 φ0 w0 id ops hops hdr Q QQ hQ g H a w hs he
  obtain ⟨⟨φ, hf, hr, hx⟩, hfr, hd⟩ := hs
  have st := stat_of hdr
  refine wp_region_any hm ?_
  have hl : onL (Array.replicate ops.size false) = fun _ => False := by
    funext j
    refine propext ⟨fun h => ?_, False.elim⟩
    simp only [onL, Array.getD_eq_getD_getElem?, Array.getElem?_replicate] at h
    split at h <;> simp at h
  have hrd : HR B P (H.reserve ops.size) φ w.drew := by
    have h := hr.drew
    exact ⟨h.size, fun i hi => Nat.lt_of_lt_of_le (h.lt i hi) (Nat.le_add_right _ _), h.liv, h.glob, h.gid, fun i b hi => (h.blk i b hi).mono ⟨Nat.le_add_right _ _, fun _ h => h, fun _ _ h => h, fun _ _ _ => rfl, fun _ _ _ => rfl⟩ rfl, h.own, h.inj, h.dead⟩
  have hlr : Later H φ (H.reserve ops.size) φ := ⟨Nat.le_add_right _ _, fun _ h => h, fun _ _ h => h, fun _ _ _ => rfl, fun _ _ _ => rfl⟩
  have hxr : Ext H0 φ0 w0 (H.reserve ops.size) φ w.drew :=
    { Later.trans hx.toLater hlr with os := hx.os, tape := hx.tape, output := hx.output, size := hx.size, kept := hx.kept, mine := hx.mine }
  have d : Dy P B nt H0 φ0 w0 ops.toList H.nxt g a.tmps (fun _ => False) (fun _ => undef) (fun _ => undef) (H.reserve ops.size) (fun _ => none) φ a w.drew := by
    refine ⟨⟨hf.1, fun _ _ _ _ h => h.elim, fun t ht _ => ?_, hd⟩, fun t ht => ?_, fun _ h => h.elim, hrd, hxr, ?_, hx.nxt, hfr, fun _ h => absurd rfl h, fun j _ _ hu => ?_, fun _ _ h => h.elim, fun _ _ _ h => h.elim,
      fun _ _ _ _ h => h.elim, fun _ h => h.elim⟩
    · simp [Array.getD_eq_getD_getElem?, ht]
    · have ht' : t < a.tmps.size := by rw [hf.1]; exact ht
      have := (hf.2 t ht').mono hlr
      simpa [Array.getD_eq_getD_getElem?, ht'] using this
    · show H.nxt + ops.toList.length ≤ H.nxt + ops.size; simp
    · have : H.used (H.nxt + j) := hu
      have := hr.lt _ this; omega
  have f : Fa Y ops.toList H.nxt g [] (fun _ => False) (fun _ => undef) (H.reserve ops.size) (fun _ => none) :=
    ⟨fun _ h => by simp at h, fun _ h => h.elim, fun _ _ h => by simp at h, fun _ _ h => by simp at h, fun _ h => absurd rfl h⟩
  refine draw_any (N := H.nxt) (g := g) (t0 := a.tmps) hY hops st hQ ops.size _ a _ (by simp) ?_ ?_
  · unfold unl
    rw [Array.toList_replicate, List.countP_replicate]
    simp
  · rw [hl]
    unfold edraw at he
    rw [show ops.toList.length = ops.size by simp] at he
    exact At.of_runs d f (adv _ [] _ _ st.pl he f d.pk)

end Go.Proofs.YtcfjimhbachmlaaGreatDoor.E
