/- From the model's memory to the clean one, at the start of a call: what is there is known, and none of it is written. -/
import Derived.Test.YtcfjimhbachmlaaGreatDoorM8
import Derived.Test.YtcfjimhbachmlaaGreatDoorRows
import Derived.ChangeArms
import Derived.DataReads
import Derived.Test.YtcfjimhbachmlaaGreatDoorCards
import Derived.Test.YtcfjimhbachmlaaGreatDoorTie
import Derived.WalkKit
import Derived.ProofKit
import Derived.OpenShut
import Derived.Deep.DeepHandedRow
import Derived.Lib.LaidTab
import Derived.Stop.LaidErr
set_option linter.unusedVariables false
set_option linter.unusedSimpArgs false

namespace Go.Proofs.YtcfjimhbachmlaaGreatDoor.E
open Go Go.Proofs
open Go.Proofs.YtcfjimhbachmlaaGreatDoor.L

/-- the number of a block; 3: of one that is not there -/
def renB (n b : Nat) : Nat := if b < n then (if b < 3 then b else b + 1) else 3
def renA (n : Nat) (a : Addr) : Addr := ⟨renB n a.block, a.off, a.spot⟩
def renV (n : Nat) : Value → Value
  | .int k z => .int k z
  | .slice none l c => .slice none l c
  | .slice (some a) l c => if l ≤ c ∧ c < unk then .slice (some (renA n a)) l c else .tuple #[]
  | _ => .tuple #[]

def back (i : Nat) : Nat := if i < 3 then i else i - 1

/-- the memory, as it is known at the start -/
def HW (W : World) : Heap where
  get := fun i => if i = 3 then none else match W.heap[back i]? with
    | some (.cells c e _) => some (.cells (c.toList.map (renV W.heap.size)) e false true)
    | _ => none
  nxt := W.heap.size + 1
  used := fun i => i < W.heap.size + 1

def φW : Mp := ⟨back, fun _ => 0⟩

theorem back_ren {n b : Nat} (h : b < n) : back (renB n b) = b ∧ renB n b ≠ 3 ∧ renB n b < n + 1 := by
  unfold back renB
  rw [if_pos h]
  repeat' split
  all_goals omega

theorem renA_add {n : Nat} {a : Addr} {k : Nat} : (renA n a).add k = renA n (a.add k) := by
  unfold Addr.add
  split <;> rfl

theorem renV_ok {W : World} (h3 : 3 ≤ W.heap.size) (v : Value) : CR (HW W) φW (renV W.heap.size v) v := by
  unfold renV
  split
  · exact .inr (.int _ _)
  · exact .inr (.slice0 _ _)
  · rename_i a l c
    split
    · rename_i hc
      refine .inr (.slice ⟨?_, fun hl => ?_⟩ ⟨hc.1, .inl ⟨hc.2, rfl⟩⟩)
      · show renB _ _ < _
        unfold renB
        split
        · split <;> omega
        · omega
      · by_cases hb : a.block < W.heap.size
        · exact ⟨(back_ren hb).1.symm, rfl, rfl⟩
        · exact (hl (by simp [renA, renB, hb, HW])).elim
    · exact .inl rfl
  · exact .inl rfl

theorem renV_VR {W : World} (h3 : 3 ≤ W.heap.size) {v : Value} (h : isHole (renV W.heap.size v) = false) : VR (HW W) φW (renV W.heap.size v) v :=
  (renV_ok h3 v).resolve_left (by rw [h]; simp)

theorem HW_get {W : World} {i : Nat} {b : Blk} (h : (HW W).get i = some b) : i ≠ 3 ∧ ∃ c e fr, W.heap[back i]? = some (.cells c e fr) ∧ b = .cells (c.toList.map (renV W.heap.size)) e false true := by
  have h : (if i = 3 then none else match W.heap[back i]? with
    | some (.cells c e _) => some (.cells (c.toList.map (renV W.heap.size)) e false true)
    | _ => none) = some b := h
  split at h
  · cases h
  · rename_i hi
    refine ⟨hi, ?_⟩
    split at h
    · rename_i c e fr hc
      cases h
      exact ⟨c, e, fr, hc, rfl⟩
    · cases h

theorem get_HW {W : World} {b : Nat} {c : Array Value} {e : TypeId} {fr : Nat × Nat} (h : W.heap[b]? = some (.cells c e fr)) : (HW W).get (renB W.heap.size b) = some (.cells (c.toList.map (renV W.heap.size)) e false true) := by
  have hb : b < W.heap.size := (Array.getElem?_eq_some_iff.1 h).1
  obtain ⟨h1, h2, _⟩ := back_ren hb
  show (if renB W.heap.size b = 3 then none else match W.heap[back (renB W.heap.size b)]? with
    | some (.cells c e _) => some (Blk.cells (c.toList.map (renV W.heap.size)) e false true)
    | _ => none) = _
  rw [if_neg h2, h1, h]

theorem HW_ok {W : World} (h3 : 3 ≤ W.heap.size) : HR W.heap.size Tryz.prog (HW W) φW W := by
  have lv : ∀ i, (HW W).live i → i ≠ 3 ∧ back i < W.heap.size := fun i hi => by
    obtain ⟨b, hb⟩ := Option.ne_none_iff_exists'.1 hi
    obtain ⟨h1, c, e, fr, hc, _⟩ := HW_get hb
    exact ⟨h1, (Array.getElem?_eq_some_iff.1 hc).1⟩
  refine ⟨Nat.le_refl _, fun i hi => hi, fun i hi => ?_, fun i hi => ?_, fun i hi => ?_, fun i b hb => ?_, fun i b hb hw => ?_, fun i j hi hj he => ?_, ⟨?_, fun hl => ?_⟩⟩
  · have := lv i hi
    show i < W.heap.size + 1
    unfold back at this
    split at this <;> omega
  · rw [globs_size] at hi
    show i < W.heap.size + 1
    omega
  · rw [globs_size] at hi
    show back i = i
    unfold back
    rw [if_pos hi]
  · obtain ⟨_, c, e, fr, hc, rfl⟩ := HW_get hb
    refine ⟨c, fr, hc, by simp, fun j hj hj' => ?_, by simp, by simp, by simp [φW]⟩
    simp only [List.getElem_map, Array.getElem_toList]
    exact renV_ok h3 _
  · obtain ⟨_, c, e, fr, hc, rfl⟩ := HW_get hb
    cases hw
  · have h1 := (lv i hi).1
    have h2 := (lv j hj).1
    have he : back i = back j := he
    unfold back at he
    split at he <;> split at he <;> omega
  · rw [globs_size]
    show 3 < W.heap.size + 1
    omega
  · rw [globs_size] at hl
    exact (lv 3 hl).1 rfl

theorem cellW {W : World} {a : Addr} {v : Value} (h : W.cell? a = some v) (hh : isHole (renV W.heap.size v) = false) : (HW W).cell (renA W.heap.size a) = some (renV W.heap.size v) := by
  unfold World.cell? at h
  split at h
  · rename_i c e fr hc
    split at h
    · cases h
    · rename_i hs
      unfold Heap.cell
      have hs' : (renA W.heap.size a).spot.isSome = false := by simpa [renA] using hs
      simp only [hs', Bool.false_eq_true, ↓reduceIte]
      rw [show (HW W).get (renA W.heap.size a).block = _ from get_HW hc]
      have : (c.toList.map (renV W.heap.size))[(renA W.heap.size a).off]? = some (renV W.heap.size v) := by
        simp [renA, h]
      simp only [this]
      exact nh_of hh
  · cases h

theorem seesW {W : World} {a : Addr} {k : Nat} {cs : List Value} (h : W.cells? 0 a k = some cs) (hh : ∀ v ∈ cs, isHole (renV W.heap.size v) = false) : Sees (HW W).get (renA W.heap.size a) k (cs.map (renV W.heap.size)) := by
  obtain ⟨_, hl, hc⟩ := World.cells?_some h
  have go : ∀ (n i : Nat), i + n = k → (GH (HW W).get).cellsFrom (renA W.heap.size a) i n = some ((cs.drop i).map (renV W.heap.size)) := by
    intro n
    induction n with
    | zero =>
      intro i hi
      rw [List.drop_eq_nil_of_le (by omega)]; rfl
    | succ n ih =>
      intro i hi
      have hic : i < cs.length := by omega
      simp only [Heap.cellsFrom, renA_add]
      have h1 := hc i (by omega)
      rw [List.getElem?_eq_getElem hic] at h1
      have h2 : (GH (HW W).get).cell (renA W.heap.size (a.add i)) = _ := cellW h1 (hh _ (List.getElem_mem hic))
      rw [h2]
      simp only [ih (i + 1) (by omega)]
      rw [List.drop_eq_getElem_cons hic]
      rfl
  have := go k 0 (by omega)
  simpa [Sees] using this

open Rows

section
variable {H : Type} {enc : TypeId × Value → H} {W : World}

theorem bulk_pos {d : DataW H} : 1 ≤ uptoBulk d := by
  cases d with
  | lit l => cases l <;> simp [uptoBulk]
  | _ => simp [uptoBulk]

theorem bulk_get : ∀ {l : List (DataW H)} {i : Nat} {d : DataW H}, l[i]? = some d → uptoBulk d ≤ uptoBulkAll l
  | [], i, d, h => by simp at h
  | x :: l, 0, d, h => by simp at h; subst h; simp [uptoBulkAll]
  | x :: l, i + 1, d, h => by
    have := bulk_get (l := l) (i := i) (d := d) (by simpa using h)
    simp only [uptoBulkAll]; omega

theorem bulk_len : ∀ {l : List (DataW H)}, l.length ≤ uptoBulkAll l
  | [] => by simp [uptoBulkAll]
  | x :: l => by
    have := bulk_len (l := l)
    have := bulk_pos (d := x)
    simp only [uptoBulkAll, List.length_cons]; omega

theorem choose_list {α β : Type} {Q : α → β → Prop} : ∀ (l : List α), (∀ x ∈ l, ∃ y, Q x y) → ∃ m : List β, m.length = l.length ∧ ∀ (i : Nat) (x : α) (y : β), l[i]? = some x → m[i]? = some y → Q x y
  | [], _ => ⟨[], rfl, fun i x y h => by simp at h⟩
  | x :: l, h => by
    obtain ⟨y, hy⟩ := h x (by simp)
    obtain ⟨m, h1, h2⟩ := choose_list l fun x hx => h x (by simp [hx])
    refine ⟨y :: m, by simp [h1], fun i a b ha hb => ?_⟩
    cases i with
    | zero => simp at ha hb; subst ha; subst hb; exact hy
    | succ i => exact h2 i a b (by simpa using ha) (by simpa using hb)

/-- a slice that was read -/
theorem slW {α : Type} {t e : TypeId} {k : Nat} {R : List Value → α → Prop} {S : α → DataW H → Prop} (ht : Tryz.prog.underlying t = some (.slice e)) (hk : Tryz.prog.cellsOf e = k) {fuel : Nat} {cs : List Value} {x : DataW H × List MemPlace}
    (h : DataW.trod enc Tryz.prog W 0 (fun _ => true) true fuel t cs = some x) (hb : uptoBulk x.1 ≤ 1048576)
    (hR : ∀ n cs y, n < fuel → cs.length = k → DataW.trod enc Tryz.prog W 0 (fun _ => true) true n e cs = some y → uptoBulk y.1 ≤ 1048576 → (∃ z : α, R (cs.map (renV W.heap.size)) z ∧ S z y.1) ∧ ∀ v ∈ cs, isHole (renV W.heap.size v) = false) :
    ∃ (v : Value) (l : List α), cs = [v] ∧ isHole (renV W.heap.size v) = false ∧ IsSl (HW W).get k R (renV W.heap.size v) l ∧ l.length ≤ uptoBulk x.1 ∧
      ∃ ds : List (DataW H), uptoBulkAll ds + 1 ≤ uptoBulk x.1 ∧ ds.length = l.length ∧ ∀ (i : Nat) (z : α) (d : DataW H), l[i]? = some z → ds[i]? = some d → S z d := by
  rcases DataW.trod_slice ht h with ⟨rfl, rfl⟩ | ⟨a, len, cap, elems, rest, n, hfu, rfl, rfl, _, hl, hm, hlen, hel, _, _⟩
  · exact ⟨_, [], rfl, rfl, ⟨none, 0, rfl, by simp, fun i z hz => by simp at hz⟩, by simp, [], by simp [uptoBulkAll, uptoBulk], rfl, fun i z d hz => by simp at hz⟩
  · have hcap : cap < unk := by have : maxLen < unk := by decide
                                omega
    have hren : renV W.heap.size (.slice (some a) len cap) = .slice (some (renA W.heap.size a)) len cap := by
      simp only [renV]; rw [if_pos ⟨hl, hcap⟩]
    simp only [uptoBulk] at hb ⊢
    have hbe : uptoBulkAll (elems.map (·.1)) ≤ 1048576 := by omega
    have hlb := bulk_len (l := elems.map (·.1))
    simp only [List.length_map] at hlb
    -- each element
    have each : ∀ y ∈ elems.zipIdx, ∃ z : α, (∃ cs', W.cells? 0 (a.add (y.2 * k)) k = some cs' ∧ R (cs'.map (renV W.heap.size)) z ∧ ∀ v ∈ cs', isHole (renV W.heap.size v) = false) ∧ S z y.1.1 := by
      rintro ⟨y, i⟩ hy
      have hy' : elems[i]? = some y := List.mem_zipIdx_iff_getElem?.1 hy
      have hi : i < len := by have := (List.getElem?_eq_some_iff.1 hy').1; omega
      have h1 := hel i hi
      rw [hy', hk, Option.bind_eq_some_iff] at h1
      obtain ⟨cs', hcs, hyt⟩ := h1
      have hcl := (World.cells?_some hcs).2.1
      have hbd : uptoBulk y.1 ≤ 1048576 := Nat.le_trans (bulk_get (l := elems.map (·.1)) (i := i) (by simp [hy'])) hbe
      obtain ⟨⟨z, hz, hs⟩, hh⟩ := hR n cs' y (by omega) hcl hyt hbd
      exact ⟨z, ⟨cs', hcs, hz, hh⟩, hs⟩
    obtain ⟨m, hml, hm2⟩ := choose_list elems.zipIdx each
    have hml' : m.length = elems.length := by simpa using hml
    refine ⟨_, m, rfl, by rw [hren]; rfl, ⟨some (renA W.heap.size a), cap, by rw [hren, hml', hlen], by omega, fun i z hz => ?_⟩, by omega, elems.map (·.1), by omega, by simp [hml'], fun i z d hz hd => ?_⟩
    · have hi : i < elems.length := by have := (List.getElem?_eq_some_iff.1 hz).1; omega
      obtain ⟨⟨cs', hcs, hz', hh⟩, _⟩ := hm2 i (elems[i], i) z (by simp [hi]) hz
      exact ⟨_, _, rfl, by rw [renA_add]; exact seesW hcs hh, hz'⟩
    · have hi : i < elems.length := by have := (List.getElem?_eq_some_iff.1 hz).1; omega
      simp only [List.getElem?_map, List.getElem?_eq_getElem hi, Option.map_some, Option.some.injEq] at hd
      obtain ⟨_, hs⟩ := hm2 i (elems[i], i) z (by simp [hi]) hz
      rw [← hd]; exact hs

theorem cells3 : Tryz.prog.cellsOf 3 = 1 := by kernel_rfl
theorem cells182 : Tryz.prog.cellsOf 182 = 2 := by kernel_rfl
theorem cells142 : Tryz.prog.cellsOf 142 = 1 := by kernel_rfl
theorem cells66 : Tryz.prog.cellsOf 66 = 1 := by kernel_rfl
theorem cells65 : Tryz.prog.cellsOf 65 = 1 := by kernel_rfl
theorem cells37 : Tryz.prog.cellsOf 37 = 2 := by kernel_rfl
theorem cells26 : Tryz.prog.cellsOf 26 = 1 := by kernel_rfl
theorem cells27 : Tryz.prog.cellsOf 27 = 1 := by kernel_rfl
theorem cells35 : Tryz.prog.cellsOf 35 = 1 := by kernel_rfl

theorem intW {fuel : Nat} {cs : List Value} {x : DataW H × List MemPlace} (h : DataW.trod enc Tryz.prog W 0 (fun _ => true) true fuel 3 cs = some x) : ∃ z, cs = [.int .i64 z] := by
  obtain ⟨n, rfl, _, _⟩ := DataW.trod_int Tryz.underlying3 h
  exact ⟨n, rfl⟩

theorem intsW {fuel : Nat} {cs : List Value} {x : DataW H × List MemPlace} (h : DataW.trod enc Tryz.prog W 0 (fun _ => true) true fuel 26 cs = some x) (hb : uptoBulk x.1 ≤ 1048576) :
    ∃ v l, cs = [v] ∧ isHole (renV W.heap.size v) = false ∧ IsInts (HW W).get (renV W.heap.size v) l ∧ l.length ≤ uptoBulk x.1 := by
  obtain ⟨v, l, h1, h2, h3, h4, _⟩ := slW (R := IsI) (S := fun _ _ => True) Tryz.underlying26 cells3 h hb fun n cs y _ _ hy _ => by
    obtain ⟨z, rfl⟩ := intW hy
    exact ⟨⟨z, rfl, trivial⟩, fun v hv => by simp at hv; subst hv; rfl⟩
  exact ⟨v, l, h1, h2, h3, h4⟩

end

end Go.Proofs.YtcfjimhbachmlaaGreatDoor.E

/- From the model's memory to the clean one: the arguments of the law. -/
namespace Go.Proofs.YtcfjimhbachmlaaGreatDoor.E
open Go Go.Proofs
open Go.Proofs.YtcfjimhbachmlaaGreatDoor.L
open Rows

theorem IsT.intro {G : Nat → Option Blk} {s : Int} {ks : List T} {v : Value} (h : IsSl G 2 (IsT G) v ks) : IsT G [.int .i64 s, v] (.mk s ks) := by
  obtain ⟨a, c, rfl, hlen, hat⟩ := h
  have h' : ∀ i : Nat, ∃ cs : List Value, i < ks.length → (∃ b, a = some b ∧ Sees G (b.add (i * 2)) 2 cs) ∧ ∀ x, ks[i]? = some x → IsT G cs x := by
    intro i
    by_cases hi : i < ks.length
    · obtain ⟨b, cs, h1, h2, h3⟩ := hat i ks[i] (by simp [hi])
      refine ⟨cs, fun _ => ⟨⟨b, h1, h2⟩, fun x hx => ?_⟩⟩
      rw [List.getElem?_eq_getElem hi] at hx
      cases hx; exact h3
    · exact ⟨[], fun h => absurd h hi⟩
  obtain ⟨f, hf⟩ := Classical.axiomOfChoice h'
  exact .mk f hlen (fun i hi => (hf i hi).1) fun i x hx => (hf i (List.getElem?_eq_some_iff.1 hx).1).2 x hx

theorem sizes_bulk {H : Type} : ∀ {ks : List T} {ds : List (DataW H)}, ds.length = ks.length → (∀ (i : Nat) (t : T) (d : DataW H), ks[i]? = some t → ds[i]? = some d → t.size ≤ uptoBulk d) → sizes ks ≤ uptoBulkAll ds
  | [], _, _, _ => by simp [sizes]
  | k :: ks, [], hl, _ => by simp at hl
  | k :: ks, d :: ds, hl, h => by
    have h0 := h 0 k d rfl rfl
    have := sizes_bulk (ks := ks) (ds := ds) (by simpa using hl) fun i t e ht he => h (i + 1) t e (by simpa using ht) (by simpa using he)
    simp only [sizes, uptoBulkAll]; omega

section
variable {H : Type} {enc : TypeId × Value → H} {W : World}

theorem take_drop1 {cs : List Value} (h : cs.length = 2) : ∃ a b, cs = [a, b] := by
  match cs, h with
  | [a, b], _ => exact ⟨a, b, rfl⟩

theorem ndW {fuel : Nat} {cs : List Value} {x : DataW H × List MemPlace} (h : DataW.trod enc Tryz.prog W 0 (fun _ => true) true fuel 182 cs = some x) : (∃ z : Nd, IsNd (cs.map (renV W.heap.size)) z) ∧ ∀ v ∈ cs, isHole (renV W.heap.size v) = false := by
  obtain ⟨xs, n, _, rfl, hl, hlen, hf⟩ := DataW.trod_struct Tryz.underlying182 h
  rw [cells182] at hl
  obtain ⟨a, b, rfl⟩ := take_drop1 hl
  have h0 : DataW.trod enc Tryz.prog W 0 (fun _ => true) true n 3 (([a, b].drop 0).take (Tryz.prog.cellsOf 3)) = xs[0]? := hf 0 _ rfl
  have h1 : DataW.trod enc Tryz.prog W 0 (fun _ => true) true n 3 (([a, b].drop 1).take (Tryz.prog.cellsOf 3)) = xs[1]? := hf 1 _ rfl
  rw [cells3] at h0 h1
  simp only [List.drop_zero, List.take_succ_cons, List.take_zero, List.drop_succ_cons] at h0 h1
  have hx : xs.length = 2 := hlen
  rw [List.getElem?_eq_getElem (by omega)] at h0 h1
  obtain ⟨z0, e0⟩ := intW h0
  obtain ⟨z1, e1⟩ := intW h1
  cases e0; cases e1
  exact ⟨⟨(z0, z1), rfl⟩, fun v hv => by simp at hv; rcases hv with rfl | rfl <;> rfl⟩

theorem altW {fuel : Nat} {cs : List Value} {x : DataW H × List MemPlace} (h : DataW.trod enc Tryz.prog W 0 (fun _ => true) true fuel 142 cs = some x) (hb : uptoBulk x.1 ≤ 1048576) :
    ∃ v l, cs = [v] ∧ isHole (renV W.heap.size v) = false ∧ IsAlt (HW W).get (renV W.heap.size v) l := by
  obtain ⟨v, l, h1, h2, h3, _⟩ := slW (R := IsNd) (S := fun _ _ => True) Tryz.underlying142 cells182 h hb fun n cs y _ _ hy _ => by
    obtain ⟨⟨z, hz⟩, hh⟩ := ndW hy
    exact ⟨⟨z, hz, trivial⟩, hh⟩
  exact ⟨v, l, h1, h2, h3⟩

theorem lift1W {α : Type} {R : Value → α → Prop} {cs : List Value} (h : ∃ v l, cs = [v] ∧ isHole (renV W.heap.size v) = false ∧ R (renV W.heap.size v) l) :
    (∃ z : α, Is1 R (cs.map (renV W.heap.size)) z ∧ True) ∧ ∀ v ∈ cs, isHole (renV W.heap.size v) = false := by
  obtain ⟨v, l, rfl, h2, h3⟩ := h
  exact ⟨⟨l, ⟨_, rfl, h3⟩, trivial⟩, fun u hu => by simp at hu; subst hu; exact h2⟩

theorem altsW {fuel : Nat} {cs : List Value} {x : DataW H × List MemPlace} (h : DataW.trod enc Tryz.prog W 0 (fun _ => true) true fuel 66 cs = some x) (hb : uptoBulk x.1 ≤ 1048576) :
    ∃ v l, cs = [v] ∧ isHole (renV W.heap.size v) = false ∧ IsAlts (HW W).get (renV W.heap.size v) l := by
  obtain ⟨v, l, h1, h2, h3, _⟩ := slW (R := Is1 (IsAlt (HW W).get)) (S := fun _ _ => True) Tryz.underlying66 cells142 h hb fun n cs y _ _ hy hyb => lift1W (altW hy hyb)
  exact ⟨v, l, h1, h2, h3⟩

theorem rowW {fuel : Nat} {cs : List Value} {x : DataW H × List MemPlace} (h : DataW.trod enc Tryz.prog W 0 (fun _ => true) true fuel 65 cs = some x) (hb : uptoBulk x.1 ≤ 1048576) :
    ∃ v l, cs = [v] ∧ isHole (renV W.heap.size v) = false ∧ IsRow (HW W).get (renV W.heap.size v) l := by
  obtain ⟨v, l, h1, h2, h3, _⟩ := slW (R := Is1 (IsAlts (HW W).get)) (S := fun _ _ => True) Tryz.underlying65 cells66 h hb fun n cs y _ _ hy hyb => lift1W (altsW hy hyb)
  exact ⟨v, l, h1, h2, h3⟩

theorem movesW {fuel : Nat} {cs : List Value} {x : DataW H × List MemPlace} (h : DataW.trod enc Tryz.prog W 0 (fun _ => true) true fuel 27 cs = some x) (hb : uptoBulk x.1 ≤ 1048576) :
    ∃ v l, cs = [v] ∧ isHole (renV W.heap.size v) = false ∧ IsMoves (HW W).get (renV W.heap.size v) l := by
  obtain ⟨v, l, h1, h2, h3, _⟩ := slW (R := Is1 (IsRow (HW W).get)) (S := fun _ _ => True) Tryz.underlying27 cells65 h hb fun n cs y _ _ hy hyb => lift1W (rowW hy hyb)
  exact ⟨v, l, h1, h2, h3⟩

theorem treeW : ∀ (fuel : Nat) (cs : List Value) (x : DataW H × List MemPlace), DataW.trod enc Tryz.prog W 0 (fun _ => true) true fuel 37 cs = some x → uptoBulk x.1 ≤ 1048576 →
    (∃ t : T, IsT (HW W).get (cs.map (renV W.heap.size)) t ∧ t.size ≤ uptoBulk x.1) ∧ ∀ v ∈ cs, isHole (renV W.heap.size v) = false := by
  intro fuel
  induction fuel using Nat.strongRecOn with
  | _ fuel ih =>
    intro cs x h hb
    obtain ⟨xs, n, hn, rfl, hl, hlen, hf⟩ := DataW.trod_struct Tryz.underlying37 h
    rw [cells37] at hl
    obtain ⟨a, b, rfl⟩ := take_drop1 hl
    have h0 : DataW.trod enc Tryz.prog W 0 (fun _ => true) true n 3 (([a, b].drop 0).take (Tryz.prog.cellsOf 3)) = xs[0]? := hf 0 _ rfl
    have h1 : DataW.trod enc Tryz.prog W 0 (fun _ => true) true n 35 (([a, b].drop 1).take (Tryz.prog.cellsOf 35)) = xs[1]? := hf 1 _ rfl
    rw [cells3] at h0
    rw [cells35] at h1
    simp only [List.drop_zero, List.take_succ_cons, List.take_zero, List.drop_succ_cons] at h0 h1
    have hx : xs.length = 2 := hlen
    match xs, hx with
    | [y0, y1], _ =>
      simp only [List.getElem?_cons_zero, List.getElem?_cons_succ] at h0 h1
      simp only [List.map_cons, List.map_nil, uptoBulk, uptoBulkAll] at hb ⊢
      obtain ⟨s, e0⟩ := intW h0
      cases e0
      obtain ⟨v, l, e1, h2, h3, _, ds, hd1, hd2, hd3⟩ := slW (R := IsT (HW W).get) (S := fun t d => t.size ≤ uptoBulk d) Tryz.underlying35 cells37 h1 (by omega) fun n' cs' y hn' _ hy hyb => by
        obtain ⟨⟨t, ht, hts⟩, hh⟩ := ih n' (by omega) cs' y hy hyb
        exact ⟨⟨t, ht, hts⟩, hh⟩
      cases e1
      refine ⟨⟨.mk s l, IsT.intro h3, ?_⟩, fun u hu => ?_⟩
      · rw [size_mk]
        have := sizes_bulk hd2 hd3
        omega
      · simp at hu
        rcases hu with rfl | rfl
        · rfl
        · exact h2

set_option maxRecDepth 20000 in
theorem auW {fuel : Nat} {cs : List Value} {x : DataW H × List MemPlace} (h : DataW.trod enc Tryz.prog W 0 (fun _ => true) true fuel 29 cs = some x) (hb : uptoBulk x.1 ≤ 1048576) :
    ∃ a : Au, cs.length = 3 ∧ IsAu (HW W).get (.agg (cs.map (renV W.heap.size)).toArray) a ∧ ∀ v ∈ cs, isHole (renV W.heap.size v) = false := by
  obtain ⟨xs, n, _, rfl, hl, hlen, hf⟩ := DataW.trod_struct Tryz.underlying29 h
  have c29 : Tryz.prog.cellsOf 29 = 3 := by kernel_rfl
  rw [c29] at hl
  match cs, hl with
  | [a, b, c], _ =>
    have h0 : DataW.trod enc Tryz.prog W 0 (fun _ => true) true n 26 (([a, b, c].drop 0).take (Tryz.prog.cellsOf 26)) = xs[0]? := hf 0 _ rfl
    have h1 : DataW.trod enc Tryz.prog W 0 (fun _ => true) true n 3 (([a, b, c].drop 1).take (Tryz.prog.cellsOf 3)) = xs[1]? := hf 1 _ rfl
    have h2 : DataW.trod enc Tryz.prog W 0 (fun _ => true) true n 27 (([a, b, c].drop 2).take (Tryz.prog.cellsOf 27)) = xs[2]? := hf 2 _ rfl
    rw [cells26] at h0
    rw [cells3] at h1
    rw [cells27] at h2
    simp only [List.drop_zero, List.take_succ_cons, List.take_zero, List.drop_succ_cons] at h0 h1 h2
    have hx : xs.length = 3 := hlen
    match xs, hx with
    | [y0, y1, y2], _ =>
      simp only [List.getElem?_cons_zero, List.getElem?_cons_succ] at h0 h1 h2
      simp only [List.map_cons, List.map_nil, uptoBulk, uptoBulkAll] at hb
      obtain ⟨r, lr, e0, hr1, hr2, _⟩ := intsW h0 (by omega)
      obtain ⟨s, e1⟩ := intW h1
      obtain ⟨m, lm, e2, hm1, hm2⟩ := movesW h2 (by omega)
      cases e0; cases e1; cases e2
      refine ⟨⟨lr, s, lm⟩, rfl, ⟨_, _, rfl, hr2, hm2⟩, fun v hv => ?_⟩
      simp at hv
      rcases hv with rfl | rfl | rfl
      · exact hr1
      · rfl
      · exact hm1

end

end Go.Proofs.YtcfjimhbachmlaaGreatDoor.E

/- PathAlong: the law holds of every input of bulk at most 1048576: 'virgationlaw21.PathAlong' returns true, and leaves its arguments as they were. -/
namespace Go.Proofs.YtcfjimhbachmlaaGreatDoor.E
open Go Go.Proofs
open Go.ChangeShapes Go.WideShapes Go.ChangeAt Go.RowKit
open Go.Proofs.YtcfjimhbachmlaaGreatDoor.L

def zs0 : List Int := [0, 1, 28, 2, 29, 14, 24, 3, 30, 22, 20, 15, 25, 17, 4, 8, 31, 27, 13, 23, 21, 19, 16, 7, 26, 12, 18, 6, 11, 5, 10, 9]
def zs1 : List Int := [0, 1, 56, 2, 57, 49, 28, 3, 61, 58, 42, 50, 38, 29, 17, 4, 62, 47, 59, 36, 45, 43, 51, 22, 53, 39, 33, 30, 24, 18, 12, 5, 63, 55, 48, 27, 60, 41, 37, 16, 46, 35, 44, 21, 52, 32, 23, 11, 54, 26, 40, 15, 34, 20, 31, 10, 25, 14, 19, 9, 13, 8, 7, 6]
def zs2 : List Int := [1, 10, 100, 1000, 10000, 100000, 1000000, 10000000, 100000000, 1000000000, 10000000000, 100000000000, 1000000000000, 10000000000000, 100000000000000, 1000000000000000, 10000000000000000, 100000000000000000, 1000000000000000000, 10000000000000000000]

theorem gn0 : Tryz.prog.globalNamed "math/bits.deBruijn32tab" = some 0 := by kernel_rfl
theorem gn1 : Tryz.prog.globalNamed "math/bits.deBruijn64tab" = some 1 := by kernel_rfl
theorem gn2 : Tryz.prog.globalNamed "internal/strconv.uint64pow10" = some 2 := by kernel_rfl
theorem gt0 : (Tryz.prog.globals[0]?).map (·.type) = some 380 := by kernel_rfl
theorem gt1 : (Tryz.prog.globals[1]?).map (·.type) = some 381 := by kernel_rfl
theorem gt2 : (Tryz.prog.globals[2]?).map (·.type) = some 405 := by kernel_rfl
theorem gc0 : Tryz.prog.cellsOf 380 = 32 := by kernel_rfl
theorem gc1 : Tryz.prog.cellsOf 381 = 64 := by kernel_rfl
theorem gc2 : Tryz.prog.cellsOf 405 = 20 := by kernel_rfl
theorem gu0 : ∃ e, Tryz.prog.underlying 380 = some (.array 32 e) ∧ Tryz.prog.underlying e = some (.int .u8) ∧ Tryz.prog.cellsOf e = 1 := ⟨5, by kernel_rfl, by kernel_rfl, by kernel_rfl⟩
theorem gu1 : ∃ e, Tryz.prog.underlying 381 = some (.array 64 e) ∧ Tryz.prog.underlying e = some (.int .u8) ∧ Tryz.prog.cellsOf e = 1 := ⟨5, by kernel_rfl, by kernel_rfl, by kernel_rfl⟩
theorem gu2 : ∃ e, Tryz.prog.underlying 405 = some (.array 20 e) ∧ Tryz.prog.underlying e = some (.int .u64) ∧ Tryz.prog.cellsOf e = 1 := ⟨275, by kernel_rfl, by kernel_rfl, by kernel_rfl⟩

/-- what the row's list gives -/
theorem tabs {W : World} (h : laidMetH Tryz.prog Rows.pathAlongUptoRow.laid W) : Lib.TabIs Tryz.prog W "math/bits.deBruijn32tab" .u8 zs0 ∧ Lib.TabIs Tryz.prog W "math/bits.deBruijn64tab" .u8 zs1 ∧ Lib.TabIs Tryz.prog W "internal/strconv.uint64pow10" .u64 zs2 := by
  have h0 : laidMet Tryz.prog [("math/bits.deBruijn32tab", Lib.tabData .u8 zs0), ("math/bits.deBruijn64tab", Lib.tabData .u8 zs1), ("internal/strconv.uint64pow10", Lib.tabData .u64 zs2)] W := h
  obtain ⟨e0, a1, a2, a3⟩ := gu0
  obtain ⟨e1, b1, b2, b3⟩ := gu1
  obtain ⟨e2, c1, c2, c3⟩ := gu2
  exact ⟨Lib.tabIs_of_head gn0 gt0 a1 a2 a3 gc0 h0, Lib.tabIs_of_head gn1 gt1 b1 b2 b3 gc1 h0.tail, Lib.tabIs_of_head gn2 gt2 c1 c2 c3 gc2 h0.tail.tail⟩

theorem row0 : (((begin Tryz.prog (fun _ _ => 0) default).world.heap[0]?).bind Obj.row?).map (·.2) = some 380 := by kernel_rfl
theorem row1 : (((begin Tryz.prog (fun _ _ => 0) default).world.heap[1]?).bind Obj.row?).map (·.2) = some 381 := by kernel_rfl
theorem row2 : (((begin Tryz.prog (fun _ _ => 0) default).world.heap[2]?).bind Obj.row?).map (·.2) = some 405 := by kernel_rfl

theorem block_of {W : World} {g t : Nat} {name : String} {k : IntKind} {zs : List Int} (hg : g < 3) (hS : W.ShapedOpen Tryz.prog) (hr : (((begin Tryz.prog (fun _ _ => 0) default).world.heap[g]?).bind Obj.row?).map (·.2) = some t)
    (hn : Tryz.prog.globalNamed name = some g) (ht : Lib.TabIs Tryz.prog W name k zs) : W.heap[g]? = some (.cells (zs.map (Value.int k)).toArray t (0, 0)) := by
  cases hz : ((begin Tryz.prog (fun _ _ => 0) default).world.heap[g]?).bind Obj.row? with
  | none => rw [hz] at hr; cases hr
  | some zt =>
    obtain ⟨zero, t'⟩ := zt
    rw [hz] at hr
    simp only [Option.map_some, Option.some.injEq] at hr
    subst hr
    obtain ⟨cs, hcs, _⟩ := hS.1 g zero t' (by rw [globs_size]; exact hg) hz
    have hv : W.var? Tryz.prog name = some (zs.map (Value.int k)).toArray := ht
    unfold World.var? at hv
    rw [hn] at hv
    simp only [Option.bind_some, hcs, Option.some.injEq] at hv
    rw [hcs, hv]

def glist : List (Nat × Blk) := [(0, .cells (zs0.map (Value.int .u8)) 380 false true), (1, .cells (zs1.map (Value.int .u8)) 381 false true), (2, .cells (zs2.map (Value.int .u64)) 405 false true)]
theorem in0_eq : in0 = glist := by kernel_rfl

/-- the tables are known -/
theorem globsW {W : World} (h : laidMetH Tryz.prog Rows.pathAlongUptoRow.laid W) (hS : W.ShapedOpen Tryz.prog) : 3 ≤ W.heap.size ∧ Sub (mk in0).get (HW W).get := by
  obtain ⟨t0, t1, t2⟩ := tabs h
  have b0 := block_of (by decide) hS row0 gn0 t0
  have b1 := block_of (by decide) hS row1 gn1 t1
  have b2 := block_of (by decide) hS row2 gn2 t2
  have hsz : 2 < W.heap.size := (Array.getElem?_eq_some_iff.1 b2).1
  refine ⟨by omega, fun i b hb => ?_⟩
  have hm := mk_mem hb
  have key : ∀ (g t : Nat) (k : IntKind) (zs : List Int), g < 3 → W.heap[g]? = some (.cells (zs.map (Value.int k)).toArray t (0, 0)) → (HW W).get g = some (.cells (zs.map (Value.int k)) t false true) := by
    intro g t k zs hg hb
    have := get_HW hb
    have hr : renB W.heap.size g = g := by unfold renB; rw [if_pos (by omega), if_pos hg]
    rw [hr] at this
    rw [this]
    simp [renV, Function.comp_def]
  rw [in0_eq] at hm
  simp only [glist, List.mem_cons, List.not_mem_nil, or_false, Prod.mk.injEq] at hm
  rcases hm with ⟨hi, hb⟩ | ⟨hi, hb⟩ | ⟨hi, hb⟩
  · rw [hi, hb]; exact key 0 380 .u8 zs0 (by decide) b0
  · rw [hi, hb]; exact key 1 381 .u8 zs1 (by decide) b1
  · rw [hi, hb]; exact key 2 405 .u64 zs2 (by decide) b2

theorem agg_VR {W : World} (h3 : 3 ≤ W.heap.size) {cs : Array Value} (h : ∀ v ∈ cs.toList, isHole (renV W.heap.size v) = false) : VR (HW W) φW (.agg (cs.toList.map (renV W.heap.size)).toArray) (.agg cs) := by
  refine .agg (by simp) fun i hi hi' => ?_
  simp only [List.getElem_toArray, List.getElem_map, Array.getElem_toList]
  exact renV_VR h3 (h _ (by simp))

theorem laidOut : laidOutB Tryz.prog = true := by kernel_rfl
theorem own : ownKnob Tryz.prog.godebug = none := by kernel_rfl

set_option maxRecDepth 100000 in
/-- what the walk gives, for every argument -/
theorem contract (H : Type) (enc : TypeId × Value → H) (W : World) (base : Nat) (args : Array Value) (ds gs : List (DataW H)) (before : List MemPlace)
    (hval : ∀ (j : Nat) t v, Tryz.f8.params[j]? = some t → args[j]? = some v → Value.okWide Tryz.prog W .any base t v)
    (hW : DataW.Whole enc Tryz.prog Tryz.f8.params.toList Rows.pathAlongSpec.vars false W args.toList ds gs before) (hk : Rows.uptoSmall H (ds ++ gs) = true) (hL : laidMetH Tryz.prog Rows.pathAlongUptoRow.laid W) (hS : W.ShapedOpen Tryz.prog) :
    Calls Tryz.prog 8 args W fun e W' => ∃ v, e = .returned v ∧ Rows.pathAlongSpec.post enc Tryz.prog Tryz.f8 false true false false W args v W' := by
  have hW' := hW
  obtain ⟨p, q, hA0, hV, rfl, hfz, hnd⟩ := hW
  have hA : DataW.TrodAll enc Tryz.prog W 0 (fun _ => true) true Tryz.f8.params.toList args.toList ds p := hA0
  rw [Tryz.params8] at hA hval
  obtain ⟨v0, v1, v2, d0, d1, d2, p0, p1, p2, rfl, rfl, rfl, h0, h1, h2⟩ := trodAll_three hA
  obtain ⟨rfl, rfl⟩ := trodVars_none hV
  clear hA0
  simp only [List.append_nil] at hW' hk
  have hk : Rows.uptoBulkAll [d0, d1, d2] ≤ 1048576 := of_decide_eq_true hk
  simp only [Rows.uptoBulkAll] at hk
  obtain ⟨h3, hg⟩ := globsW hL hS
  -- the arguments' forms
  have w0 := hval 0 29 v0 rfl rfl
  have w1 := hval 1 37 v1 rfl rfl
  simp only [Value.okWide, Tryz.underlying29] at w0
  simp only [Value.okWide, Tryz.underlying37] at w1
  obtain ⟨c0, rfl, _⟩ := w0
  obtain ⟨c1, rfl, _⟩ := w1
  obtain ⟨n0, t0⟩ := h0
  obtain ⟨n1, t1⟩ := h1
  obtain ⟨n2, t2⟩ := h2
  obtain ⟨a, _, ha, hh0⟩ := auW t0 (by show Rows.uptoBulk d0 ≤ _; omega)
  obtain ⟨⟨t, ht, hts⟩, hh1⟩ := treeW n1 _ _ t1 (by show Rows.uptoBulk d1 ≤ _; omega)
  obtain ⟨u, l, hu, hh2, hl, hll⟩ := intsW t2 (by show Rows.uptoBulk d2 ≤ _; omega)
  have hts : t.size ≤ Rows.uptoBulk d1 := hts
  have hll : l.length ≤ Rows.uptoBulk d2 := hll
  have hv2 : v2 = u := by
    have w2 := hval 2 26 v2 rfl rfl
    simp only [Value.okWide, Tryz.underlying26] at w2
    unfold Cell.okWide Cell.ok at w2
    rw [Tryz.underlying26] at w2
    cases v2 <;> simp_all [Value.cells]
  subst hv2
  have law := law8 (H := HW W) (v := .agg (c0.toList.map (renV W.heap.size)).toArray) (w := renV W.heap.size v2) (cs := c1.toList.map (renV W.heap.size)) ha ht hl (by omega) (by omega) hg
  have hargs : ArrR (HW W) φW #[.agg (c0.toList.map (renV W.heap.size)).toArray, .agg (c1.toList.map (renV W.heap.size)).toArray, renV W.heap.size v2] #[.agg c0, .agg c1, v2] :=
    ArrR.ofList (.cons (agg_VR h3 hh0) (.cons (agg_VR h3 hh1) (.cons (renV_VR h3 hh2) .nil)))
  refine (law.2 W.heap.size φW W _ (HW_ok h3) hargs).mono ?_
  rintro e W' ⟨v, H', φ', v', rfl, rfl, hvr, hr', hex, _⟩
  have hv' : v' = .bool true := by cases hvr; rfl
  subst hv'
  have hbelow : Below W.heap.size W W' := hex.below (HW_ok h3)
  have hlt : ∀ x ∈ p0 ++ p1 ++ p2, x.block < W.heap.size := fun x hx => by simpa using hW'.lt x hx
  refine ⟨_, rfl, [d0, d1, d2], [], p0 ++ p1 ++ p2, [], p0 ++ (p1 ++ p2), [], hW', ?_, ?_, rfl, hbelow.frame _, fun h => by cases h⟩
  · exact trodAll_mk1 (shut_bool Tryz.underlying4 _)
  · exact trodAll_mk3 (Below.trod laidOut (by kernel_rfl) (of_decide_eq_true (by kernel_rfl)) ⟨n0, t0⟩ hbelow fun x hx => hlt x (by simp [hx]))
      (Below.trod laidOut (by kernel_rfl) (of_decide_eq_true (by kernel_rfl)) ⟨n1, t1⟩ hbelow fun x hx => hlt x (by simp [hx]))
      (Below.trod laidOut (by kernel_rfl) (of_decide_eq_true (by kernel_rfl)) ⟨n2, t2⟩ hbelow fun x hx => hlt x (by simp [hx]))

/-! the row -/

def wargs : Array Value := #[.agg #[.slice none 0 0, .int .i64 0, .slice none 0 0], .agg #[.int .i64 0, .slice none 0 0], .slice none 0 0]

def lay (k : IntKind) (zs : List Int) : Obj → Obj
  | .cells _ t frozen => .cells (zs.map (Value.int k)).toArray t frozen
  | o => o

/-- a world for the witness: the settled one, the tables as their initialisers lay them -/
noncomputable def laidWorld (os : Os) : World :=
  { World.holding Tryz.prog os ⟨#[], #[], []⟩ with heap := (((World.holding Tryz.prog os ⟨#[], #[], []⟩).heap.modify 0 (lay .u8 zs0)).modify 1 (lay .u8 zs1)).modify 2 (lay .u64 zs2) }
theorem laid_met (os : Os) : laidMet Tryz.prog Rows.pathAlongUptoRow.laid ((laidWorld os).forCall (fun _ _ => 0) ⟨#[], wargs, []⟩).memory :=
  laidMet_of_run' 8 (by kernel_rfl) (by kernel_rfl)
theorem reads (os : Os) {H : Type} (enc : TypeId × Value → H) : ∃ places, DataW.whole enc Tryz.prog ((laidWorld os).forCall (fun _ _ => 0) ⟨#[], wargs, []⟩).memory Tryz.f8.params.toList Rows.pathAlongSpec.vars false wargs.toList 8 =
    some ([.agg [.nil, .lit (.int .i64 0), .nil], .agg [.lit (.int .i64 0), .nil], .nil], [], places) :=
  ⟨[], by kernel_rfl⟩

set_option maxRecDepth 100000 in
theorem liftedUpto (os : Os) (started : os.Started) (H : Type) (enc : TypeId × Value → H) (F : Stop.Interp) :
    ReturnsInHanded {} Tryz.checked os 8 .any ((Rows.OpenSpec.upto Rows.pathAlongSpec).preRow enc Tryz.prog Tryz.f8 Rows.pathAlongUptoRow.domain false Rows.pathAlongUptoRow.laid) (((Rows.OpenSpec.upto Rows.pathAlongSpec).at F).post enc Tryz.prog Tryz.f8 false true false false) := by
  obtain ⟨places, hx⟩ := reads os enc
  refine returnsInHanded_of_row (C := Tryz.checked) (s := Rows.OpenSpec.upto Rows.pathAlongSpec) own started (by kernel_rfl) Tryz.func8
    (witness_row_at (enc := enc) (C := Tryz.checked) false (laidWorld os) wargs rfl (by kernel_rfl) (by kernel_rfl) (by kernel_rfl)
      (OpenSpec.preRow_of_cond 8 hx (by kernel_rfl) (fun k hk => by cases hk; kernel_rfl) (by kernel_rfl) (laid_met os))) ?_
  intro W base args ds gs before hval hW _ hc _ hL hS _
  exact contract H enc W base args ds gs before hval hW (hc _ rfl) hL hS

end Go.Proofs.YtcfjimhbachmlaaGreatDoor.E
