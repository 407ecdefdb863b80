import Derived.Orders
import Derived.Laws.Sem
import Derived.Laws.Cells
import Derived.Laws.CopyRow
import Derived.Laws.Entries
import Derived.ChangeKeysEq
import Derived.Lib.ConvBytes
import Derived.Laws.BytesString
import Derived.Laws.BytesArg
import Derived.Laws.StructEq
import Derived.KernelRfl
set_option linter.unusedVariables false
namespace Go.Proofs.YtadamegddcadcaaDoorPi
open Go

/-- Types of values of the language, as far as the evaluator reaches. -/
inductive Ty where
  | unit | bool | int (k : IntKind) | str
  | pair (a b : Ty)
  | list (t : Ty) | own (k : Nat) (t : Ty)
  | ref (t : Ty)
  | ptr (i o : Nat) (t : Ty)
  | fn (g nf : Nat) (b : Ty)
  deriving DecidableEq

@[reducible] def Ty.den : Ty → Type
  | .unit => Unit | .bool => Bool | .int _ => Int | .str => ByteArray
  | .pair a b => a.den × b.den
  | .list t => List t.den | .own _ t => List t.den
  | .ref t => t.den
  | .ptr _ _ _ => Unit
  | .fn _ _ b => b.den

def Ty.size : Ty → Nat
  | .unit => 0 | .pair a b => a.size + b.size | _ => 1
def Ty.isAgg : Ty → Bool
  | .unit | .pair _ _ => true | _ => false

/-- What is known of memory for good: block and place to value. -/
abbrev Mem := Nat → Nat → Option Value
structure Env where
  m : Mem
  β : Nat → Option Nat
  τ : Nat → Option Value

def Row (m : Mem) (a : Addr) (cs : List Value) : Prop := a.spot = none ∧ ∀ j v, cs[j]? = some v → m a.block (a.off + j) = some v

def rep (E : Env) : (t : Ty) → t.den → List Value → Prop
  | .unit, _, cs => cs = []
  | .bool, b, cs => cs = [.bool b]
  | .int k, n, cs => cs = [.int k n]
  | .str, s, cs => cs = [.string s]
  | .pair a b, x, cs => ∃ c1 c2, cs = c1 ++ c2 ∧ rep E a x.1 c1 ∧ rep E b x.2 c2
  | .list t, xs, cs => ∃ A cap, cs = [.slice A xs.length cap] ∧ xs.length ≤ cap ∧
      ∀ (i : Nat) x, xs[i]? = some x → ∃ a c, A = some a ∧ a.spot = none ∧ rep E t x c ∧ Row E.m ⟨a.block, a.off + i * t.size, none⟩ c
  | .own k t, xs, cs => ∃ A cap, cs = [.slice A xs.length cap] ∧ E.τ k = some (.slice A xs.length cap) ∧ xs.length ≤ cap ∧ (∀ a, A = some a → a.spot = none) ∧
      ∀ (i : Nat) x, xs[i]? = some x → ∃ a c, A = some a ∧ rep E t x c ∧ Row E.m ⟨a.block, a.off + i * t.size, none⟩ c
  | .ref t, x, cs => ∃ a c, cs = [.pointer (some a)] ∧ rep E t x c ∧ Row E.m a c
  | .ptr i o _, _, cs => ∃ b, E.β i = some b ∧ cs = [.pointer (some ⟨b, o, none⟩)]
  | .fn g nf b, x, cs => ∃ bs, rep E b x bs ∧ cs = [.func (.func g) (bs.take nf).toArray (bs.drop nf).toArray]

structure Env.le (E E' : Env) : Prop where
  m : ∀ b j v, E.m b j = some v → E'.m b j = some v
  β : ∀ i b, E.β i = some b → E'.β i = some b
  τ : ∀ k v, E.τ k = some v → E'.τ k = some v

theorem Env.le.refl (E : Env) : E.le E := ⟨fun _ _ _ h => h, fun _ _ h => h, fun _ _ h => h⟩
theorem Row.mono {m m' : Mem} (hm : ∀ b j v, m b j = some v → m' b j = some v) {a : Addr} {cs : List Value} (h : Row m a cs) : Row m' a cs :=
  ⟨h.1, fun j v hj => hm _ _ _ (h.2 j v hj)⟩

theorem rep_mono {E E' : Env} (h : E.le E') : ∀ (t : Ty) (x : t.den) (cs : List Value), rep E t x cs → rep E' t x cs
  | .unit, _, _, r => r
  | .bool, _, _, r => r
  | .int _, _, _, r => r
  | .str, _, _, r => r
  | .pair a b, _, _, ⟨c1, c2, e, r1, r2⟩ => ⟨c1, c2, e, rep_mono h a _ _ r1, rep_mono h b _ _ r2⟩
  | .list t, _, _, ⟨A, cap, e, hc, hr⟩ => ⟨A, cap, e, hc, fun i x hx => let ⟨a, c, ha, hs, r, w⟩ := hr i x hx; ⟨a, c, ha, hs, rep_mono h t _ _ r, w.mono h.m⟩⟩
  | .own _ t, _, _, ⟨A, cap, e, ht, hc, hs, hr⟩ => ⟨A, cap, e, h.τ _ _ ht, hc, hs, fun i x hx => let ⟨a, c, ha, r, w⟩ := hr i x hx; ⟨a, c, ha, rep_mono h t _ _ r, w.mono h.m⟩⟩
  | .ref t, _, _, ⟨a, c, e, r, w⟩ => ⟨a, c, e, rep_mono h t _ _ r, w.mono h.m⟩
  | .ptr _ _ _, _, _, ⟨b, hb, e⟩ => ⟨b, h.β _ _ hb, e⟩
  | .fn _ _ b, _, _, ⟨bs, r, e⟩ => ⟨bs, rep_mono h b _ _ r, e⟩

theorem rep_length {E : Env} : ∀ (t : Ty) (x : t.den) (cs : List Value), rep E t x cs → cs.length = t.size
  | .unit, _, _, r => by rw [show _ = [] from r]; rfl
  | .bool, _, _, r => by rw [show _ = [_] from r]; rfl
  | .int _, _, _, r => by rw [show _ = [_] from r]; rfl
  | .str, _, _, r => by rw [show _ = [_] from r]; rfl
  | .pair a b, _, _, ⟨c1, c2, e, r1, r2⟩ => by
    rw [e, List.length_append, rep_length a _ _ r1, rep_length b _ _ r2]; rfl
  | .list t, _, _, ⟨A, cap, e, _⟩ => by rw [e]; rfl
  | .own _ t, _, _, ⟨A, cap, e, _⟩ => by rw [e]; rfl
  | .ref t, _, _, ⟨a, c, e, _⟩ => by rw [e]; rfl
  | .ptr _ _ _, _, _, ⟨b, _, e⟩ => by rw [e]; rfl
  | .fn _ _ b, _, _, ⟨bs, _, e⟩ => by rw [e]; rfl

/-- The value of a type's cells. -/
def mkV (t : Ty) (cs : List Value) : Value := if t.isAgg then .agg cs.toArray else cs.headD undef

theorem rep_one {E : Env} {t : Ty} {x : t.den} {cs : List Value} (r : rep E t x cs) (h : t.isAgg = false) : ∃ v, cs = [v] ∧ v.cells = #[v] ∧ v ≠ undef := by
  cases t with
  | unit => cases h
  | pair a b => cases h
  | bool => exact ⟨_, r, rfl, by simp [undef]⟩
  | int k => exact ⟨_, r, rfl, by simp [undef]⟩
  | str => exact ⟨_, r, rfl, by simp [undef]⟩
  | list t => obtain ⟨A, cap, e, _⟩ := r; exact ⟨_, e, rfl, by simp [undef]⟩
  | own k t => obtain ⟨A, cap, e, _⟩ := r; exact ⟨_, e, rfl, by simp [undef]⟩
  | ref t => obtain ⟨a, c, e, _⟩ := r; exact ⟨_, e, rfl, by simp [undef]⟩
  | ptr i o t => obtain ⟨b, _, e⟩ := r; exact ⟨_, e, rfl, by simp [undef]⟩
  | fn g nf b => obtain ⟨bs, _, e⟩ := r; exact ⟨_, e, rfl, by simp [undef]⟩

theorem mkV_cells {E : Env} {t : Ty} {x : t.den} {cs : List Value} (r : rep E t x cs) : (mkV t cs).cells = cs.toArray := by
  unfold mkV
  by_cases h : t.isAgg = true
  · rw [if_pos h]; rfl
  · have h' : t.isAgg = false := by simpa using h
    rw [if_neg h]
    obtain ⟨v, rfl, hv, _⟩ := rep_one r h'
    simpa using hv

def VRep (E : Env) (t : Ty) (x : t.den) (v : Value) : Prop := ∃ cs, rep E t x cs ∧ v = mkV t cs
theorem VRep.mono {E E' : Env} (h : E.le E') {t : Ty} {x : t.den} {v : Value} : VRep E t x v → VRep E' t x v := fun ⟨cs, r, e⟩ => ⟨cs, rep_mono h _ _ _ r, e⟩

structure TV where
  t : Ty
  x : t.den
inductive Slot where
  | junk | undef | v (x : TV) | tup (t : Ty) (x : t.den)

/-- Values of a chain of pairs, one each. -/
def vals (E : Env) : (t : Ty) → t.den → List Value → Prop
  | .unit, _, vs => vs = []
  | .pair a b, x, vs => ∃ v vs', vs = v :: vs' ∧ VRep E a x.1 v ∧ vals E b x.2 vs'
  | _, _, _ => False
theorem vals_mono {E E' : Env} (h : E.le E') : ∀ (t : Ty) (x : t.den) (vs : List Value), vals E t x vs → vals E' t x vs
  | .unit, _, _, r => r
  | .pair _ b, _, _, ⟨v, vs', e, r1, r2⟩ => ⟨v, vs', e, r1.mono h, vals_mono h b _ _ r2⟩

def SlotRep (E : Env) : Slot → Value → Prop
  | .junk, _ => True
  | .undef, v => v = Go.undef
  | .v x, v => VRep E x.t x.x v
  | .tup t x, v => ∃ vs, vals E t x vs ∧ v = .tuple vs.toArray
theorem SlotRep.mono {E E' : Env} (h : E.le E') {s : Slot} {v : Value} (r : SlotRep E s v) : SlotRep E' s v := by
  cases s with
  | junk => trivial
  | undef => exact r
  | v x => exact VRep.mono h r
  | tup t x => obtain ⟨vs, hv, e⟩ := r; exact ⟨vs, vals_mono h _ _ _ hv, e⟩

structure St where
  t : List Slot
  b : List (Option TV)

def Inv (m : Mem) (w : World) : Prop := ∀ b j v, m b j = some v → w.cell? ⟨b, j, none⟩ = some v

/-- What a proof may ask of the memory that lies from the begin on; and whether draws are counted. -/
structure Ctx where
  Γ : Mem → Prop
  mono : ∀ {m m' : Mem}, (∀ b j v, m b j = some v → m' b j = some v) → Γ m → Γ m'
  d : Bool

structure Chg (C : Ctx) (m : Mem) (w : World) (m' : Mem) (w' : World) : Prop where
  os : w'.os = w.os
  tape : w'.tape = w.tape
  output : w'.output = w.output
  drawn : C.d = true → w.drawn ≤ w'.drawn
  size : w.heap.size ≤ w'.heap.size
  heap : ∀ b, b < w.heap.size → w'.heap[b]? = w.heap[b]?
  mem : ∀ b, b < w.heap.size → m' b = m b

theorem Chg.refl {C : Ctx} (m : Mem) (w : World) : Chg C m w m w := ⟨rfl, rfl, rfl, fun _ => Nat.le_refl _, Nat.le_refl _, fun _ _ => rfl, fun _ _ => rfl⟩
theorem Chg.trans {C : Ctx} {m m1 m2 : Mem} {w w1 w2 : World} (h : Chg C m w m1 w1) (k : Chg C m1 w1 m2 w2) : Chg C m w m2 w2 :=
  ⟨k.os.trans h.os, k.tape.trans h.tape, k.output.trans h.output, fun hd => Nat.le_trans (h.drawn hd) (k.drawn hd), Nat.le_trans h.size k.size,
    fun b hb => (k.heap b (Nat.lt_of_lt_of_le hb h.size)).trans (h.heap b hb), fun b hb => (k.mem b (Nat.lt_of_lt_of_le hb h.size)).trans (h.mem b hb)⟩
theorem cell_lt {w : World} {b j : Nat} {v : Value} (h : w.cell? ⟨b, j, none⟩ = some v) : b < w.heap.size := by
  unfold World.cell? at h
  by_cases hb : b < w.heap.size
  · exact hb
  · simp [Array.getElem?_eq_none (Nat.le_of_not_lt hb)] at h
theorem Chg.sub {C : Ctx} {m m' : Mem} {w w' : World} (h : Chg C m w m' w') (hi : Inv m w) : ∀ b j v, m b j = some v → m' b j = some v := fun b j v hv => by
  rw [h.mem b (cell_lt (hi b j v hv))]; exact hv

structure FR (X : Nat → Prop) (E : Env) (st : St) (tmps : Array Value) (w : World) : Prop where
  len : st.t.length = tmps.size
  slots : ∀ i s, X i → st.t[i]? = some s → SlotRep E s (tmps.getD i undef)
  boxes : ∀ i tv, st.b[i]? = some (some tv) → ∃ blk cs e, E.β i = some blk ∧ w.heap[blk]? = some (.cells cs.toArray e (0, 0)) ∧ rep E tv.t tv.x cs ∧ ∀ j, E.m blk j = none
  inj : ∀ i j b, E.β i = some b → E.β j = some b → i = j
  inv : Inv E.m w

theorem Env.le_m {E : Env} {m' : Mem} (h : ∀ b j v, E.m b j = some v → m' b j = some v) : E.le { E with m := m' } := ⟨h, fun _ _ h => h, fun _ _ h => h⟩

theorem blk_lt {w : World} {b : Nat} {o : Obj} (h : w.heap[b]? = some o) : b < w.heap.size := (Array.getElem?_eq_some_iff.1 h).1

theorem FR.chg {C : Ctx} {X : Nat → Prop} {E : Env} {st : St} {tmps : Array Value} {w w' : World} {m' : Mem} (h : FR X E st tmps w) (c : Chg C E.m w m' w') (i : Inv m' w') : FR X { E with m := m' } st tmps w' where
  len := h.len
  slots k s hk hs := (h.slots k s hk hs).mono (Env.le_m (c.sub h.inv))
  boxes k tv hk := by
    obtain ⟨blk, cs, e, hb, hh, r, hm⟩ := h.boxes k tv hk
    have hlt := blk_lt hh
    exact ⟨blk, cs, e, hb, by rw [c.heap blk hlt]; exact hh, rep_mono (Env.le_m (c.sub h.inv)) _ _ _ r, fun j => by show m' blk j = none; rw [c.mem blk hlt]; exact hm j⟩
  inj := h.inj
  inv := i

theorem FR.weaken {X Y : Nat → Prop} {E : Env} {st : St} {tmps : Array Value} {w : World} (h : FR X E st tmps w) (hy : ∀ i, Y i → X i) : FR Y E st tmps w := ⟨h.len, fun i s hi hs => h.slots i s (hy i hi) hs, h.boxes, h.inj, h.inv⟩

end Go.Proofs.YtadamegddcadcaaDoorPi

namespace Go.Proofs.YtadamegddcadcaaDoorPi
open Go

def boolC : List Value → Option (Bool × List Value)
  | .bool b :: cs => some (b, cs)
  | _ => none
def intC (k : IntKind) : List Value → Option (Int × List Value)
  | .int k' n :: cs => if k = k' then some (n, cs) else none
  | _ => none
def strC : List Value → Option (ByteArray × List Value)
  | .string s :: cs => some (s, cs)
  | _ => none
def nilC : List Value → Option (List Value)
  | .slice none 0 0 :: cs => some cs
  | _ => none
def ofCells : (t : Ty) → List Value → Option (t.den × List Value)
  | .unit, cs => some ((), cs)
  | .bool, cs => boolC cs
  | .int k, cs => intC k cs
  | .str, cs => strC cs
  | .pair a b, cs => match ofCells a cs with
    | some (x, r) => match ofCells b r with
      | some (y, r') => some ((x, y), r')
      | none => none
    | none => none
  | .list _, cs => match nilC cs with
    | some r => some ([], r)
    | none => none
  | _, _ => none

def aggV : Value → Bool
  | .agg _ => true
  | _ => false

def opd (st : St) : Operand → Option TV
  | .tmp t => match st.t[t]? with
    | some (.v x) => some x
    | _ => none
  | .const (.bool b) => some ⟨.bool, b⟩
  | .const (.int k n) => some ⟨.int k, n⟩
  | .const (.string s) => some ⟨.str, s⟩
  | .func f => some ⟨.fn f 0 .unit, ()⟩
  | _ => none

def castTV (tv : TV) (t : Ty) : Option t.den := if h : tv.t = t then some (h ▸ tv.x) else none

def opdT (t : Ty) (st : St) (x : Operand) : Option t.den :=
  match x with
  | .const v => if aggV v = t.isAgg then (match ofCells t v.cells.toList with
    | some (y, []) => some y
    | _ => none) else none
  | x => match opd st x with
    | some tv => castTV tv t
    | none => none

def pairs : List (Option Ty) → Option Ty
  | [] => some .unit
  | some t :: r => match pairs r with
    | some u => some (.pair t u)
    | none => none
  | none :: _ => none
def many : Nat → Ty → Ty
  | 0, _ => .unit
  | n + 1, t => .pair t (many n t)
def tyOf (P : Program) : Nat → TypeId → Option Ty
  | 0, _ => none
  | n + 1, t => match P.underlying t with
    | some .bool => some .bool
    | some (.int k) => some (.int k)
    | some .string => some .str
    | some (.slice e) => match tyOf P n e with
      | some u => some (.list u)
      | none => none
    | some (.struct fs) => pairs (fs.toList.map fun f => tyOf P n f.type)
    | some (.array len e) => match tyOf P n e with
      | some u => some (many len u)
      | none => none
    | _ => none

/-- An operand's value, at the type's number where the operand alone does not tell. -/
def opdX (P : Program) (ty : TypeId) (st : St) (x : Operand) : Option TV :=
  match opd st x with
  | some tv => some tv
  | none => match tyOf P 30 ty with
    | some t => match opdT t st x with
      | some y => some ⟨t, y⟩
      | none => none
    | none => none

def getAt : (t : Ty) → t.den → Nat → (u : Ty) → Option u.den
  | t, x, o, u => if h : o = 0 ∧ t = u then some (h.2 ▸ x) else match t, x with
    | .pair a b, x => if o + u.size ≤ a.size then getAt a x.1 o u else if a.size ≤ o then getAt b x.2 (o - a.size) u else none
    | _, _ => none
def setAt : (t : Ty) → t.den → Nat → TV → Option t.den
  | t, x, o, tv => if h : o = 0 ∧ tv.t = t then some (h.2 ▸ tv.x) else match t, x with
    | .pair a b, x => if o + tv.t.size ≤ a.size then (match setAt a x.1 o tv with
        | some y => some (y, x.2)
        | none => none) else if a.size ≤ o then (match setAt b x.2 (o - a.size) tv with
        | some y => some (x.1, y)
        | none => none) else none
    | _, _ => none

def fieldTy : Ty → Nat → Option (Ty × Nat)
  | .pair a _, 0 => some (a, 0)
  | .pair a b, f + 1 => match fieldTy b f with
    | some (u, o) => some (u, a.size + o)
    | none => none
  | _, _ => none

def chain : (n : Nat) → (t : Ty) → (many n t).den → List t.den
  | 0, _, _ => []
  | n + 1, t, x => x.1 :: chain n t x.2

def bytesOf (s : ByteArray) : List Int := s.data.toList.map fun b => (b.toNat : Int)
def ofBytes (xs : List Int) : ByteArray := ⟨(xs.map fun n => UInt8.ofNat n.toNat).toArray⟩

def St.put (st : St) (d : Option Tmp) (s : Slot) : St := match d with
  | some d => { st with t := st.t.set d s }
  | none => st

structure Sp where
  ps : Ty
  rs : Ty
  F : Nat → ps.den → Option rs.den
abbrev Specs := Nat → Option Sp

def argsT (st : St) : (t : Ty) → List Operand → Option t.den
  | .unit, [] => some ()
  | .pair a b, x :: r => match opdT a st x, argsT st b r with
    | some y, some z => some (y, z)
    | _, _ => none
  | _, _ => none
def retSlot : (t : Ty) → t.den → Slot
  | .pair a .unit, x => .v ⟨a, x.1⟩
  | t, x => .tup t x
def tupAt : (t : Ty) → t.den → Nat → Option TV
  | .pair a _, x, 0 => some ⟨a, x.1⟩
  | .pair _ b, x, i + 1 => tupAt b x.2 i
  | _, _, _ => none

def aggD : TypeDesc → Bool
  | .struct _ => true
  | .array _ _ => true
  | _ => false

section
variable {R : Type}
def intK (op : BinOp) (k k' : IntKind) (x y : Int) (K : Slot → Option R) : Option R :=
  match op with
  | .shl => bif decide (y < 0) then none else K (.v ⟨.int k, k.wrap (x * 2 ^ (min y.toNat k.bits))⟩)
  | .shr => bif decide (y < 0) then none else K (.v ⟨.int k, x.fdiv (2 ^ (min y.toNat k.bits))⟩)
  | op => if k = k' then (match op with
    | .add => K (.v ⟨.int k, k.wrap (x + y)⟩)
    | .sub => K (.v ⟨.int k, k.wrap (x - y)⟩)
    | .mul => K (.v ⟨.int k, k.wrap (x * y)⟩)
    | .quo => bif decide (y = 0) then none else K (.v ⟨.int k, k.wrap (x.tdiv y)⟩)
    | .rem => bif decide (y = 0) then none else K (.v ⟨.int k, x.tmod y⟩)
    | .and => K (.v ⟨.int k, k.wrap (BitVec.ofInt k.bits x &&& BitVec.ofInt k.bits y).toNat⟩)
    | .or => K (.v ⟨.int k, k.wrap (BitVec.ofInt k.bits x ||| BitVec.ofInt k.bits y).toNat⟩)
    | .xor => K (.v ⟨.int k, k.wrap (BitVec.ofInt k.bits x ^^^ BitVec.ofInt k.bits y).toNat⟩)
    | .andNot => K (.v ⟨.int k, k.wrap (BitVec.ofInt k.bits x &&& ~~~BitVec.ofInt k.bits y).toNat⟩)
    | .eql => K (.v ⟨.bool, x == y⟩)
    | .neq => K (.v ⟨.bool, x != y⟩)
    | .lss => K (.v ⟨.bool, decide (x < y)⟩)
    | .leq => K (.v ⟨.bool, decide (x ≤ y)⟩)
    | .gtr => K (.v ⟨.bool, decide (x > y)⟩)
    | .geq => K (.v ⟨.bool, decide (x ≥ y)⟩)
    | _ => none) else none
def strK (op : BinOp) (x y : ByteArray) (K : Slot → Option R) : Option R :=
  match op with
  | .add => bif decide (((x.size + y.size : Nat) : Int) > IntKind.i64.max) then none else K (.v ⟨.str, x ++ y⟩)
  | .eql => K (.v ⟨.bool, x.toList == y.toList⟩)
  | .neq => K (.v ⟨.bool, !(x.toList == y.toList)⟩)
  | .lss => K (.v ⟨.bool, Op.bytesLess x.toList y.toList⟩)
  | .leq => K (.v ⟨.bool, Op.bytesLess x.toList y.toList || x.toList == y.toList⟩)
  | .gtr => K (.v ⟨.bool, !(Op.bytesLess x.toList y.toList || x.toList == y.toList)⟩)
  | .geq => K (.v ⟨.bool, !(Op.bytesLess x.toList y.toList)⟩)
  | _ => none
def binK (op : BinOp) (a b : TV) (K : Slot → Option R) : Option R :=
  match a, b with
  | ⟨.int k, x⟩, ⟨.int k', y⟩ => intK op k k' x y K
  | ⟨.str, x⟩, ⟨.str, y⟩ => strK op x y K
  | _, _ => none

/-- Two structs, field by field. -/
def eqD : (t : Ty) → t.den → t.den → Bool
  | .unit, _, _ => true
  | .bool, a, b => a == b
  | .int _, a, b => a == b
  | .str, a, b => a == b
  | .pair a b, x, y => eqD a x.1 y.1 && eqD b x.2 y.2
  | _, _, _ => false
def chkF (P : Program) (chk : TypeId → Ty → Bool) : List Field → Ty → Nat → Bool
  | [], .unit, _ => true
  | f :: fs, .pair a b, off => f.name != "_" && f.offset == off && (match P.info? f.type, P.underlying f.type with
      | some i, some d => i.size == a.size && aggD d == a.isAgg
      | _, _ => false) && chk f.type a && chkF P chk fs b (off + a.size)
  | _, _, _ => false
def checkEq (P : Program) : Nat → TypeId → Ty → Bool
  | 0, _, _ => false
  | _ + 1, t, .bool => match P.underlying t with
    | some .bool => true
    | _ => false
  | _ + 1, t, .int k => match P.underlying t with
    | some (.int k') => k == k'
    | _ => false
  | _ + 1, t, .str => match P.underlying t with
    | some .string => true
    | _ => false
  | d + 1, t, .pair a b => match P.underlying t with
    | some (.struct fs) => !P.stoodInHeld t && chkF P (checkEq P d) fs.toList (.pair a b) 0
    | _ => false
  | _, _, _ => false
def eqAgg (P : Program) (op : BinOp) (ty : TypeId) (a b : TV) (K : Slot → Option R) : Option R :=
  match castTV b a.t with
  | some y => if a.t.isAgg = true ∧ checkEq P 30 ty a.t = true ∧ P.eqGuardType P.depth ty = false then (match op with
    | .eql => K (.v ⟨.bool, eqD a.t a.x y⟩)
    | .neq => K (.v ⟨.bool, !(eqD a.t a.x y)⟩)
    | _ => none) else none
  | none => none

def unK (op : UnOp) (a : TV) (K : Slot → Option R) : Option R :=
  match op, a with
  | .neg, ⟨.int k, n⟩ => K (.v ⟨.int k, k.wrap (0 - n)⟩)
  | .not, ⟨.bool, b⟩ => K (.v ⟨.bool, !b⟩)
  | _, _ => none

def convK (P : Program) (src dst : TypeId) (a : TV) (K : Slot → Option R) : Option R :=
  match P.underlying src, P.underlying dst, a with
  | some _, some (.int k), ⟨.int _, n⟩ => K (.v ⟨.int k, k.wrap n⟩)
  | some _, some .string, ⟨.str, s⟩ => K (.v ⟨.str, s⟩)
  | some _, some (.slice e), ⟨.str, s⟩ => match P.underlying e with
    | some (.int .u8) => K (.v ⟨.list (.int .u8), bytesOf s⟩)
    | _ => none
  | some (.slice e), some .string, ⟨.list (.int .u8), xs⟩ => match P.underlying e with
    | some (.int .u8) => K (.v ⟨.str, ofBytes xs⟩)
    | _ => none
  | _, _, _ => none

def intOpt (st : St) : Option Operand → Option (Option Int)
  | none => some none
  | some x => match opd st x with
    | some ⟨.int _, n⟩ => some (some n)
    | _ => none
def boundK (n : Nat) (v : Option Int) (d : Nat) (K : Nat → Option R) : Option R :=
  match v with
  | none => K d
  | some i => bif decide (0 ≤ i ∧ i ≤ (n : Int)) then K i.toNat else none
def sliceK (P : Program) (ty : TypeId) (a : TV) (lo hi : Option Int) (K : Slot → Option R) : Option R :=
  match P.underlying ty, a with
  | some .string, ⟨.str, s⟩ => boundK s.size hi s.size fun h => boundK h lo 0 fun l => K (.v ⟨.str, s.extract l h⟩)
  | some (.slice e), ⟨.list t, xs⟩ => match P.info? e with
    | some i => if i.size = t.size then boundK xs.length hi xs.length fun h => boundK h lo 0 fun l => K (.v ⟨.list t, (xs.take h).drop l⟩) else none
    | none => none
  | _, _ => none

def loadK (P : Program) (st : St) (ty : TypeId) (a : TV) (K : Slot → Option R) : Option R :=
  match a with
  | ⟨.ptr i o t, _⟩ => match st.b[i]?, P.info? ty, P.underlying ty with
    | some (some c), some inf, some d => if inf.size = t.size ∧ aggD d = t.isAgg then (match getAt c.t c.x o t with
      | some y => K (.v ⟨t, y⟩)
      | none => none) else none
    | _, _, _ => none
  | ⟨.ref t, x⟩ => match P.info? ty, P.underlying ty with
    | some inf, some d => if inf.size = t.size ∧ aggD d = t.isAgg then K (.v ⟨t, x⟩) else none
    | _, _ => none
  | _ => none

def fieldAddrK (P : Program) (ty : TypeId) (a : TV) (f : Nat) (K : Slot → Option R) : Option R :=
  match P.underlying ty with
  | some (.struct fs) => match fs[f]? with
    | some fd => match P.info? fd.type with
      | some inf => match a with
        | ⟨.ptr i o t, _⟩ => match fieldTy t f with
          | some (u, q) => if q = fd.offset ∧ inf.size ≠ 0 ∧ u.size = inf.size then K (.v ⟨.ptr i (o + q) u, ()⟩) else none
          | none => none
        | ⟨.ref t, x⟩ => match fieldTy t f with
          | some (u, q) => if q = fd.offset ∧ inf.size ≠ 0 ∧ u.size = inf.size then (match getAt t x q u with
            | some y => K (.v ⟨.ref u, y⟩)
            | none => none) else none
          | none => none
        | _ => none
      | none => none
    | none => none
  | _ => none

def fieldK (P : Program) (ty : TypeId) (a : TV) (f : Nat) (K : Slot → Option R) : Option R :=
  match P.underlying ty with
  | some (.struct fs) => match fs[f]? with
    | some fd => match P.info? fd.type, P.underlying fd.type, fieldTy a.t f with
      | some inf, some d, some (u, q) => if a.t.isAgg ∧ q = fd.offset ∧ u.size = inf.size ∧ aggD d = u.isAgg then (match getAt a.t a.x q u with
        | some y => K (.v ⟨u, y⟩)
        | none => none) else none
      | _, _, _ => none
    | none => none
  | _ => none

def indexK (P : Program) (ty : TypeId) (a b : TV) (K : Slot → Option R) : Option R :=
  match P.underlying ty, a, b with
  | some .string, ⟨.str, s⟩, ⟨.int _, i⟩ => bif decide (0 ≤ i) then (s[i.toNat]?).bind fun c => K (.v ⟨.int .u8, (c.toNat : Int)⟩) else none
  | some (.array len e), a, ⟨.int _, i⟩ => match tyOf P 30 e, P.info? e, P.underlying e with
    | some u, some inf, some d => if u.size = inf.size ∧ aggD d = u.isAgg then (match castTV a (many len u) with
      | some y => bif decide (0 ≤ i) then ((chain len u y)[i.toNat]?).bind fun z => K (.v ⟨u, z⟩) else none
      | none => none) else none
    | _, _, _ => none
  | _, _, _ => none

def indexAddrK (P : Program) (ty : TypeId) (a b : TV) (K : Slot → Option R) : Option R :=
  match P.underlying ty, a, b with
  | some (.slice e), ⟨.list t, xs⟩, ⟨.int _, i⟩ => match P.info? e with
    | some inf => if inf.size = t.size then (bif decide (0 ≤ i) then (xs[i.toNat]?).bind fun x => K (.v ⟨.ref t, x⟩) else none) else none
    | none => none
  | _, _, _ => none

def setParts (P : Program) (st : St) (place : Nat → Option (Nat × Nat × TypeId)) (t : Ty) : t.den → List (Nat × Operand) → Option t.den
  | x, [] => some x
  | x, (i, y) :: r => match place i with
    | some (o, n, ty) => match opdX P ty st y with
      | some tv => if tv.t.size = n then (match setAt t x o tv with
        | some x' => setParts P st place t x' r
        | none => none) else none
      | none => none
    | none => none

def buildK (P : Program) (st : St) (ty : TypeId) (parts : List (Nat × Operand)) (K : Slot → Option R) : Option R :=
  match tyOf P 30 ty, P.info? ty with
  | some t, some inf => match inf.zero with
    | some z => match ofCells t z.cells.toList with
      | some (x0, []) => (match P.underlying ty with
        | some (.struct fs) => if t.isAgg ∧ (fs.toList.all fun f => (P.info? f.type).isSome) = true then (match setParts P st (fun i => match fs[i]? with | some f => (match P.info? f.type with | some j => some (f.offset, j.size, f.type) | none => none) | none => none) t x0 parts with
          | some x => K (.v ⟨t, x⟩)
          | none => none) else none
        | some (.array _ e) => if t.isAgg then (match P.info? e with
          | some j => (match setParts P st (fun i => some (i * j.size, j.size, e)) t x0 parts with
            | some x => K (.v ⟨t, x⟩)
            | none => none)
          | none => none) else none
        | _ => none)
      | _ => none
    | none => none
  | _, _ => none

def buildSliceK (P : Program) (st : St) (ty : TypeId) (len : Nat) (parts : List (Nat × Operand)) (K : Slot → Option R) : Option R :=
  match P.underlying ty with
  | some (.slice e) => match tyOf P 30 e, P.info? e with
    | some t, some inf => if inf.size = t.size ∧ ¬ len * inf.size > 2 ^ 24 then (match inf.zero with
      | some z => match ofCells (many len t) (if len * inf.size = 0 then [] else ((Array.range (len * inf.size)).map (z.cells[· % z.cells.size]!)).toList) with
        | some (x0, []) => match setParts P st (fun i => some (i * inf.size, inf.size, e)) (many len t) x0 parts with
          | some x => K (.v ⟨.list t, chain len t x⟩)
          | none => none
        | _ => none
      | none => none) else none
    | _, _ => none
  | _ => none

def callK (P : Program) (sp : Specs) (n : Nat) (st : St) (c : Call) (K : Slot → Option R) : Option R :=
  match c.callee with
  | .builtin .len => match c.args.toList, c.argTypes.toList with
    | [x], [ty] => match P.underlying ty, opd st x with
      | some .string, some ⟨.str, s⟩ => K (.v ⟨.int .i64, (s.size : Int)⟩)
      | some (.slice _), some ⟨.list _, xs⟩ => K (.v ⟨.int .i64, (xs.length : Int)⟩)
      | _, _ => none
    | _, _ => none
  | .value f => match opd st f with
    | some ⟨.fn g 0 .unit, _⟩ => match sp g with
      | some s => match argsT st s.ps c.args.toList with
        | some y => (s.F n y).bind fun r => K (retSlot s.rs r)
        | none => none
      | none => none
    | _ => none
  | _ => none

def slotOf (st : St) : Operand → Option Slot
  | .tmp t => st.t[t]?
  | x => match opd st x with
    | some tv => some (.v tv)
    | none => none

def pureK (P : Program) (sp : Specs) (n : Nat) (st : St) (o : Oper) (K : Slot → Option R) : Option R :=
  match o.op with
  | .move x | .assign x => match slotOf st x with
    | some s => K s
    | none => match opdX P o.type st x with
      | some tv => K (.v tv)
      | none => none
  | .pick c a b => match opd st c, slotOf st a, slotOf st b with
    | some ⟨.bool, c⟩, some s, some s' => bif c then K s else K s'
    | _, _, _ => none
  | .binOp op ty x y _ => match opd st x, opd st y with
    | some a, some b => if a.t.isAgg = true then eqAgg P op ty a b K else binK op a b K
    | _, _ => match opdX P ty st x, opdX P ty st y with
      | some a, some b => eqAgg P op ty a b K
      | _, _ => none
  | .unOp op _ x => match opd st x with
    | some a => unK op a K
    | none => none
  | .convert src dst x => match opd st x with
    | some a => convK P src dst a K
    | none => none
  | .slice ty x lo hi none => match opd st x, intOpt st lo, intOpt st hi with
    | some a, some l, some h => sliceK P ty a l h K
    | _, _, _ => none
  | .load ty x => match opd st x with
    | some a => loadK P st ty a K
    | none => none
  | .fieldAddr ty x f => match opd st x with
    | some a => fieldAddrK P ty a f K
    | none => none
  | .field ty x f => match opd st x with
    | some a => fieldK P ty a f K
    | none => none
  | .index ty x i => match opd st x, opd st i with
    | some a, some b => indexK P ty a b K
    | _, _ => none
  | .indexAddr ty x i => match opd st x, opd st i with
    | some a, some b => indexAddrK P ty a b K
    | _, _ => none
  | .extract x i => match slotOf st x with
    | some (.tup t y) => match tupAt t y i with
      | some tv => K (.v tv)
      | none => none
    | _ => none
  | .build ty parts => buildK P st ty parts.toList K
  | .buildSlice ty len parts => buildSliceK P st ty len parts.toList K
  | .nilCheck x => match opd st x with
    | some ⟨.ptr i o t, y⟩ => K (.v ⟨.ptr i o t, y⟩)
    | some ⟨.ref t, y⟩ => K (.v ⟨.ref t, y⟩)
    | _ => none
  | .call c => callK P sp n st c K
  | _ => none

def stepK (P : Program) (sp : Specs) (n : Nat) (st : St) (o : Oper) (K : St → Option R) : Option R :=
  match o.op with
  | .box ty x => match P.info? ty, opdX P ty st x with
    | some inf, some tv => if inf.size = tv.t.size then K { (st.put o.dst (.v ⟨.ptr st.b.length 0 tv.t, ()⟩)) with b := st.b ++ [some tv] } else none
    | _, _ => none
  | .alloc ty => match tyOf P 30 ty, P.info? ty with
    | some t, some inf => match inf.zero with
      | some z => match ofCells t z.cells.toList with
        | some (x, []) => K { (st.put o.dst (.v ⟨.ptr st.b.length 0 t, ()⟩)) with b := st.b ++ [some ⟨t, x⟩] }
        | _ => none
      | none => none
    | _, _ => none
  | .store ty a x => match opd st a, opdX P ty st x, P.info? ty with
    | some ⟨.ptr i q _, _⟩, some tv, some inf => match st.b[i]? with
      | some (some c) => if inf.size = tv.t.size then (match setAt c.t c.x q tv with
        | some y => K { (st.put o.dst .undef) with b := st.b.set i (some ⟨c.t, y⟩) }
        | none => none) else none
      | _ => none
    | _, _, _ => none
  | _ => pureK P sp n st o fun s => K (st.put o.dst s)

/-- Does an operation run? By its guard. -/
def guardK (ops : Array Oper) (st : St) (o : Oper) (K : Bool → Option R) : Option R :=
  match o.guard with
  | none => K true
  | some (j, want) => match (ops[j]?).bind (·.dst) with
    | some t => match st.t[t]? with
      | some .undef => K false
      | some (.v ⟨.bool, b⟩) => bif b == want then K true else K false
      | _ => none
    | none => none

/-- What a test has told of a slot is kept. -/
def St.know (st : St) (t : Tmp) (b : Bool) : St := { st with t := st.t.set t (.v ⟨.bool, b⟩) }
def St.knowO (st : St) (x : Operand) (b : Bool) : St := match x with
  | .tmp t => st.know t b
  | _ => st
def guardS (ops : Array Oper) (st : St) (o : Oper) (K : Bool → St → Option R) : Option R :=
  match o.guard with
  | none => K true st
  | some (j, want) => match (ops[j]?).bind (·.dst) with
    | some t => match st.t[t]? with
      | some .undef => K false st
      | some (.v ⟨.bool, b⟩) => bif b then K (true == want) (st.know t true) else K (false == want) (st.know t false)
      | _ => none
    | none => none

def opsK (P : Program) (sp : Specs) (n : Nat) (ops : Array Oper) : List Oper → St → (St → Option R) → Option R
  | [], st, K => K st
  | o :: r, st, K => guardS ops st o fun b st => bif b then stepK P sp n st o fun st' => opsK P sp n ops r st' K else opsK P sp n ops r (st.put o.dst .undef) K

/-- A region whose order is drawn: operations that keep the state, each behind what it looks at. -/
def opsP (P : Program) (sp : Specs) (n : Nat) (ops : Array Oper) : List Oper → St → (St → Option R) → Option R
  | [], st, K => K st
  | o :: r, st, K => guardK ops st o fun b => bif b then pureK P sp n st o fun s => opsP P sp n ops r (st.put o.dst s) K else opsP P sp n ops r (st.put o.dst .undef) K
def looks (ops : Array Oper) (o : Oper) : List Tmp :=
  (o.op.operands.toList.filterMap fun | .tmp t => some t | _ => none) ++
  (match o.guard with
   | some (g, _) => ((ops[g]?).bind (·.dst)).toList
   | none => [])
def drawOne (ops : Array Oper) (j : Nat) (o : Oper) : Bool :=
  (o.after.toList.all fun e => !Region.binds .any e || decide (e.on < j)) &&
  ((List.range ops.size).all fun i => match ops[i]? with
    | some q => match q.dst with
      | some t => (i == j || !(o.dst == some t)) && (!(looks ops o).contains t ||
          ((decide (i < j) && o.after.toList.any fun e => Region.binds .any e && e.on == i) || (decide (j < i) && q.after.toList.any fun e => Region.binds .any e && e.on == j)))
      | none => true
    | none => true)
def drawOk (P : Program) (ops : Array Oper) : Bool :=
  P.follows .mixedOrders && (List.range ops.size).all fun j => match ops[j]? with
    | some o => drawOne ops j o
    | none => true

inductive Ex where
  | norm | exit (id : Nat) | ret

/-- Where what is not wanted any more is laid aside: a tree beside the code. -/
inductive An where
  | o
  | s (a b : An) | c (a b : An) | b (a : An) | l (k : List Nat) (nb : Nat) (a : An) | k (k : List Nat) (nb : Nat) (a b : An)
def An.left : An → An
  | .s x _ | .c x _ | .b x | .l _ _ x | .k _ _ x _ => x
  | .o => .o
def An.right : An → An
  | .s _ y | .c _ y | .k _ _ _ y => y
  | _ => .o

def low (nb : Nat) : Ty → Bool
  | .pair a b => low nb a && low nb b
  | .list t | .own _ t | .ref t => low nb t
  | .ptr i _ _ => decide (i < nb)
  | .fn _ _ b => low nb b
  | _ => true
def keepS (k : List Nat) (nb : Nat) : Nat → List Slot → List Slot
  | _, [] => []
  | i, s :: r => (if k.contains i then (match s with
      | .v x => if low nb x.t then .v x else .junk
      | .undef => .undef
      | _ => .junk) else .junk) :: keepS k nb (i + 1) r
def keepB (nb : Nat) : List (Option TV) → List (Option TV)
  | [] => []
  | some x :: r => (if low nb x.t then some x else none) :: keepB nb r
  | none :: r => none :: keepB nb r
def St.keep (st : St) (k : List Nat) (nb : Nat) : St := ⟨keepS k nb 0 st.t, keepB nb (st.b.take nb)⟩
def St.keepA (st : St) : An → St
  | .l k nb _ | .k k nb _ _ => st.keep k nb
  | _ => st

def rounds {σ : Type} (f : (σ → Option R) → σ → Option R) : Nat → σ → Option R
  | 0, _ => none
  | n + 1, st => f (rounds f n) st

def codeK (P : Program) (sp : Specs) (n : Nat) : Code → An → St → (Ex → St → Option R) → Option R
  | .skip, _, st, K => K .norm st
  | .region _ ops false, _, st, K => opsK P sp n ops ops.toList st (K .norm)
  | .region _ ops true, _, st, K => if drawOk P ops = true then opsP P sp n ops ops.toList st (K .norm) else none
  | .seq x y, an, st, K => codeK P sp n x an.left st fun e st' => match e with
    | .norm => codeK P sp n y an.right (st'.keepA an) K
    | e => K e st'
  | .cond c x y, an, st, K => match opd st c with
    | some ⟨.bool, b⟩ => bif b then codeK P sp n x an.left (st.knowO c true) K else codeK P sp n y an.right (st.knowO c false) K
    | _ => none
  | .block id x, an, st, K => codeK P sp n x an.left st fun e st' => match e with
    | .exit j => if j = id then K .norm st' else K (.exit j) st'
    | e => K e st'
  | .loop x, an, st, K => rounds (fun rec st => codeK P sp n x an.left st fun e st' => match e with
    | .norm => rec (st'.keepA an)
    | e => K e st') n (st.keepA an)
  | .exit id, _, st, K => K (.exit id) st
  | .label _, _, st, K => K .norm st
  | .ret, _, st, K => K .ret st
  | _, _, _, _ => none
@[reducible] def kSeq (k : St → Option R) (an : An) (K : Ex → St → Option R) : Ex → St → Option R := fun e st' => match e with
    | .norm => k (st'.keepA an)
    | e => K e st'
@[reducible] def kBlk (id : Nat) (K : Ex → St → Option R) : Ex → St → Option R := fun e st' => match e with
    | .exit j => if j = id then K .norm st' else K (.exit j) st'
    | e => K e st'

/-- The same, what lies behind a cut being left open. -/
def codeR (rc : Code → An → St → (Ex → St → Option R) → Option R) (P : Program) (sp : Specs) (n : Nat) : Code → An → St → (Ex → St → Option R) → Option R
  | .skip, _, st, K => K .norm st
  | .region _ ops false, _, st, K => opsK P sp n ops ops.toList st (K .norm)
  | .region _ ops true, _, st, K => if drawOk P ops = true then opsP P sp n ops ops.toList st (K .norm) else none
  | .seq x y, .k l nb p q, st, K => codeR rc P sp n x p st (kSeq (fun st' => rc y q st' K) (.k l nb p q) K)
  | .seq x y, an, st, K => codeR rc P sp n x an.left st (kSeq (fun st' => codeR rc P sp n y an.right st' K) an K)
  | .cond c x y, an, st, K => match opd st c with
    | some ⟨.bool, b⟩ => bif b then codeR rc P sp n x an.left (st.knowO c true) K else codeR rc P sp n y an.right (st.knowO c false) K
    | _ => none
  | .block id x, an, st, K => codeR rc P sp n x an.left st (kBlk id K)
  | .loop x, an, st, K => rounds (fun rec st => codeR rc P sp n x an.left st (kSeq rec an K)) n (st.keepA an)
  | .exit id, _, st, K => K (.exit id) st
  | .label _, _, st, K => K .norm st
  | .ret, _, st, K => K .ret st
  | _, _, _, _ => none

end

def cl : Code → Code
  | .seq a _ => a | .cond _ a _ => a | .block _ a => a | .loop a => a | c => c
def cr : Code → Code
  | .seq _ b => b | .cond _ _ b => b | c => c
def bodyOf (fn : Func) : Code := match fn.body with
  | some c => c
  | none => .skip

def start (ps : Ty) (x : ps.den) (ntmps : Nat) : St :=
  ⟨(go ps x) ++ List.replicate (ntmps - (go ps x).length) .undef, []⟩
where go : (t : Ty) → t.den → List Slot
  | .pair a b, x => .v ⟨a, x.1⟩ :: go b x.2
  | _, _ => []

def resT (P : Program) (st : St) : (t : Ty) → List ResultVar → Option t.den
  | .unit, [] => some ()
  | .pair a b, .tmp t :: r => match opdT a st (.tmp t), resT P st b r with
    | some y, some z => some (y, z)
    | _, _ => none
  | .pair a b, .cell t ty :: r => match opd st (.tmp t), resT P st b r with
    | some tv, some z => match loadK P st ty tv some with
      | some (.v w) => match castTV w a with
        | some y => some (y, z)
        | none => none
      | _ => none
    | _, _ => none
  | _, _ => none

@[reducible] def kFin (P : Program) (rs : Ty) (fn : Func) : Ex → St → Option rs.den := fun e st => match e with
    | .exit _ => none
    | _ => resT P st rs fn.results.toList

@[reducible] def w64 (x : Int) : Int := IntKind.wrap .i64 x
@[reducible] def w8 (x : Int) : Int := IntKind.wrap .u8 x

def funK (P : Program) (sp : Specs) (fn : Func) (an : An) (ps rs : Ty) (n : Nat) (x : ps.den) : Option rs.den :=
  match fn.body with
  | some c => codeK P sp n c an (start ps x fn.ntmps) fun e st => match e with
    | .exit _ => none
    | _ => resT P st rs fn.results.toList
  | none => none

end Go.Proofs.YtadamegddcadcaaDoorPi

namespace Go.Proofs.YtadamegddcadcaaDoorPi
open Go

def reads (o : Oper) : List Tmp := o.op.operands.toList.filterMap fun | .tmp t => some t | _ => none

def OpOK (P : Program) (C : Ctx) (o : Oper) (st : St) (s : Slot) : Prop :=
  ∀ (E : Env) (a : Act) (w : World) (Kc : Act → World → Prop) (Q : Exit → Act → World → Prop), FR (· ∈ reads o) E st a.tmps w → C.Γ E.m →
    (∀ v m' w', Chg C E.m w m' w' → Inv m' w' → SlotRep { E with m := m' } s v → Kc (a.put o.dst v) w') → o.wp P a w Kc Q

theorem OpOK.of_val {P : Program} {C : Ctx} {o : Oper} {st : St} {s : Slot}
    (h : ∀ (E : Env) (a : Act) (w : World), FR (· ∈ reads o) E st a.tmps w → ∃ v m' w', (execOp a.eval o).run P w = .ok (.value v) w' ∧ Chg C E.m w m' w' ∧ Inv m' w' ∧ SlotRep { E with m := m' } s v) : OpOK P C o st s := by
  intro E a w Kc Q hf _ hk
  obtain ⟨v, m', w', hr, hc, hi, hs⟩ := h E a w hf
  unfold Oper.wp
  rw [hr]
  exact hk v m' w' hc hi hs

theorem OpOK.of_pure {P : Program} {C : Ctx} {o : Oper} {st : St} {s : Slot}
    (h : ∀ (E : Env) (a : Act) (w : World), FR (· ∈ reads o) E st a.tmps w → ∃ v, (execOp a.eval o).run P w = .ok (.value v) w ∧ SlotRep E s v) : OpOK P C o st s :=
  .of_val fun E a w hf => let ⟨v, hr, hs⟩ := h E a w hf; ⟨v, E.m, w, hr, .refl _ _, hf.inv, hs⟩

/-! values -/
theorem vrep_bool {E : Env} {b : Bool} {v : Value} (h : VRep E .bool b v) : v = .bool b := by obtain ⟨cs, r, rfl⟩ := h; rw [show cs = _ from r]; rfl
theorem vrep_int {E : Env} {k : IntKind} {n : Int} {v : Value} (h : VRep E (.int k) n v) : v = .int k n := by obtain ⟨cs, r, rfl⟩ := h; rw [show cs = _ from r]; rfl
theorem vrep_str {E : Env} {s : ByteArray} {v : Value} (h : VRep E .str s v) : v = .string s := by obtain ⟨cs, r, rfl⟩ := h; rw [show cs = _ from r]; rfl
theorem vrep_ptr {E : Env} {i o : Nat} {t : Ty} {x : Unit} {v : Value} (h : VRep E (.ptr i o t) x v) : ∃ b, E.β i = some b ∧ v = .pointer (some ⟨b, o, none⟩) := by
  obtain ⟨cs, ⟨b, hb, e⟩, rfl⟩ := h; exact ⟨b, hb, by rw [e]; rfl⟩
theorem vrep_ref {E : Env} {t : Ty} {x : t.den} {v : Value} (h : VRep E (.ref t) x v) : ∃ a c, v = .pointer (some a) ∧ rep E t x c ∧ Row E.m a c := by
  obtain ⟨cs, ⟨a, c, e, r, w⟩, rfl⟩ := h; exact ⟨a, c, by rw [e]; rfl, r, w⟩
theorem vrep_fn {E : Env} {g nf : Nat} {b : Ty} {x : b.den} {v : Value} (h : VRep E (.fn g nf b) x v) : ∃ bs, rep E b x bs ∧ v = .func (.func g) (bs.take nf).toArray (bs.drop nf).toArray := by
  obtain ⟨cs, ⟨bs, r, e⟩, rfl⟩ := h; exact ⟨bs, r, by rw [e]; rfl⟩
theorem vrep_list {E : Env} {t : Ty} {xs : List t.den} {v : Value} (h : VRep E (.list t) xs v) : ∃ A cap, v = .slice A xs.length cap ∧ xs.length ≤ cap ∧
      ∀ (i : Nat) x, xs[i]? = some x → ∃ a c, A = some a ∧ a.spot = none ∧ rep E t x c ∧ Row E.m ⟨a.block, a.off + i * t.size, none⟩ c := by
  obtain ⟨cs, ⟨A, cap, e, hc, hr⟩, rfl⟩ := h; exact ⟨A, cap, by rw [e]; rfl, hc, hr⟩
theorem vrep_agg {E : Env} {t : Ty} {x : t.den} {v : Value} (h : VRep E t x v) (ht : t.isAgg = true) : ∃ cs, rep E t x cs ∧ v = .agg cs.toArray := by
  obtain ⟨cs, r, rfl⟩ := h; exact ⟨cs, r, by unfold mkV; rw [if_pos ht]⟩
theorem VRep.cells {E : Env} {t : Ty} {x : t.den} {v : Value} (h : VRep E t x v) : rep E t x v.cells.toList := by
  obtain ⟨cs, r, rfl⟩ := h; rw [mkV_cells r]; exact r
theorem VRep.of_rep {E : Env} {t : Ty} {x : t.den} {cs : List Value} (r : rep E t x cs) : VRep E t x (mkV t cs) := ⟨cs, r, rfl⟩

theorem mkBool (E : Env) (b : Bool) : VRep E .bool b (.bool b) := ⟨[.bool b], rfl, rfl⟩
theorem mkInt (E : Env) (k : IntKind) (n : Int) : VRep E (.int k) n (.int k n) := ⟨[.int k n], rfl, rfl⟩
theorem mkStr (E : Env) (s : ByteArray) : VRep E .str s (.string s) := ⟨[.string s], rfl, rfl⟩

theorem ofCells_ok (E : Env) : ∀ (t : Ty) (cs : List Value) (x : t.den) (r : List Value), ofCells t cs = some (x, r) → ∃ c, cs = c ++ r ∧ rep E t x c
  | .unit, cs, x, r, h => by simp only [ofCells, Option.some.injEq, Prod.mk.injEq] at h; exact ⟨[], by simp [h.2], rfl⟩
  | .bool, cs, x, r, h => by
    have h' : boolC cs = some (x, r) := h
    unfold boolC at h'
    split at h'
    · simp only [Option.some.injEq, Prod.mk.injEq] at h'; obtain ⟨rfl, rfl⟩ := h'; exact ⟨[_], rfl, rfl⟩
    · cases h'
  | .int k, cs, x, r, h => by
    have h' : intC k cs = some (x, r) := h
    unfold intC at h'
    split at h'
    · split at h'
      · rename_i hk; subst hk
        simp only [Option.some.injEq, Prod.mk.injEq] at h'; obtain ⟨rfl, rfl⟩ := h'; exact ⟨[_], rfl, rfl⟩
      · cases h'
    · cases h'
  | .str, cs, x, r, h => by
    have h' : strC cs = some (x, r) := h
    unfold strC at h'
    split at h'
    · simp only [Option.some.injEq, Prod.mk.injEq] at h'; obtain ⟨rfl, rfl⟩ := h'; exact ⟨[_], rfl, rfl⟩
    · cases h'
  | .pair a b, cs, x, r, h => by
    simp only [ofCells] at h
    split at h
    · rename_i x1 r1 h1
      split at h
      · rename_i y r2 h2
        simp only [Option.some.injEq, Prod.mk.injEq] at h
        obtain ⟨rfl, rfl⟩ := h
        obtain ⟨c1, e1, q1⟩ := ofCells_ok E a _ _ _ h1
        obtain ⟨c2, e2, q2⟩ := ofCells_ok E b _ _ _ h2
        exact ⟨c1 ++ c2, by rw [e1, e2, List.append_assoc], c1, c2, rfl, q1, q2⟩
      · cases h
    · cases h
  | .list t, cs, x, r, h => by
    simp only [ofCells] at h
    split at h
    · rename_i r' h1
      simp only [Option.some.injEq, Prod.mk.injEq] at h
      obtain ⟨rfl, rfl⟩ := h
      unfold nilC at h1
      split at h1
      · simp only [Option.some.injEq] at h1; subst h1
        refine ⟨[_], rfl, none, 0, rfl, Nat.le_refl _, ?_⟩
        · intro i x hx; simp at hx
      · cases h1
    · cases h
  | .own _ _, _, _, _, h => by simp [ofCells] at h
  | .ref _, _, _, _, h => by simp [ofCells] at h
  | .ptr _ _ _, _, _, _, h => by simp [ofCells] at h
  | .fn _ _ _, _, _, _, h => by simp [ofCells] at h

theorem mkV_of_cells {E : Env} {t : Ty} {x : t.den} {v : Value} (r : rep E t x v.cells.toList) (h : aggV v = t.isAgg) : v = mkV t v.cells.toList := by
  unfold mkV
  by_cases ht : t.isAgg = true
  · rw [if_pos ht]
    rw [ht] at h
    unfold aggV at h
    split at h
    · rfl
    · cases h
  · have ht' : t.isAgg = false := by simpa using ht
    rw [if_neg ht]
    rw [ht'] at h
    have hv : v.cells = #[v] := by
      cases v <;> first | rfl | (simp [aggV] at h)
    rw [hv]; rfl

section ops
variable {X : Nat → Prop} {E : Env} {st : St} {a : Act} {w : World}
theorem opd_ok (hf : FR X E st a.tmps w) {x : Operand} {tv : TV} (hx : ∀ t, x = .tmp t → X t) (h : opd st x = some tv) : VRep E tv.t tv.x (a.eval x) := by
  unfold opd at h
  split at h
  · rename_i t
    split at h
    · rename_i y hy
      simp only [Option.some.injEq] at h; subst h
      exact hf.slots t _ (hx t rfl) hy
    · cases h
  · simp only [Option.some.injEq] at h; subst h; exact mkBool _ _
  · simp only [Option.some.injEq] at h; subst h; exact mkInt _ _ _
  · simp only [Option.some.injEq] at h; subst h; exact mkStr _ _
  · simp only [Option.some.injEq] at h; subst h; exact ⟨_, ⟨[], rfl, rfl⟩, rfl⟩
  · cases h

theorem castTV_ok {tv : TV} {t : Ty} {y : t.den} {v : Value} (h : castTV tv t = some y) (r : VRep E tv.t tv.x v) : VRep E t y v := by
  unfold castTV at h
  split at h
  · rename_i ht
    obtain ⟨u, x⟩ := tv
    simp only at ht; subst ht
    simp only [Option.some.injEq] at h; subst h; exact r
  · cases h

theorem const_ok {t : Ty} {v : Value} {y : t.den} {r : List Value} (E : Env) (hv : aggV v = t.isAgg) (h : ofCells t v.cells.toList = some (y, r)) (hr : r = []) : VRep E t y v := by
  subst hr
  obtain ⟨c, e, q⟩ := ofCells_ok E _ _ _ _ h
  rw [List.append_nil] at e
  rw [← e] at q
  exact ⟨_, q, mkV_of_cells q hv⟩

theorem opdT_ok (hf : FR X E st a.tmps w) {t : Ty} {x : Operand} {y : t.den} (hx : ∀ t, x = .tmp t → X t) (h : opdT t st x = some y) : VRep E t y (a.eval x) := by
  unfold opdT at h
  split at h
  · split at h
    · rename_i v hv
      split at h
      · rename_i y' h2
        simp only [Option.some.injEq] at h; subst h
        exact const_ok E hv h2 rfl
      · cases h
    · cases h
  · split at h
    · rename_i tv htv
      exact castTV_ok h (opd_ok hf hx htv)
    · cases h

theorem opdX_ok (hf : FR X E st a.tmps w) {P : Program} {ty : TypeId} {x : Operand} {tv : TV} (hx : ∀ t, x = .tmp t → X t) (h : opdX P ty st x = some tv) : VRep E tv.t tv.x (a.eval x) := by
  unfold opdX at h
  split at h
  · rename_i tv' h1
    simp only [Option.some.injEq] at h; subst h
    exact opd_ok hf hx h1
  · split at h
    · split at h
      · rename_i y h2
        simp only [Option.some.injEq] at h; subst h
        exact opdT_ok hf hx h2
      · cases h
    · cases h

theorem slotOf_ok (hf : FR X E st a.tmps w) {x : Operand} {s : Slot} (hx : ∀ t, x = .tmp t → X t) (h : slotOf st x = some s) : SlotRep E s (a.eval x) := by
  unfold slotOf at h
  split at h
  · rename_i t
    exact hf.slots t s (hx t rfl) h
  · split at h
    · rename_i tv htv
      simp only [Option.some.injEq] at h; subst h
      exact opd_ok hf hx htv
    · cases h
end ops

section
variable {R : Type}
theorem bif_some {b : Bool} {x y : Option R} {r : R} (h : (bif b then x else y) = some r) : (b = true ∧ x = some r) ∨ (b = false ∧ y = some r) := by
  cases b
  · exact .inr ⟨rfl, h⟩
  · exact .inl ⟨rfl, h⟩

theorem guard_int {op : BinOp} {P : Program} {w : World} {ty : TypeId} {x y : Operand} {k k' : IntKind} {m n : Int} : (eqGuard op ty x y (.int k m) (.int k' n)).run P w = .ok () w := by
  unfold eqGuard
  cases op <;> rfl
theorem guard_str {op : BinOp} {P : Program} {w : World} {ty : TypeId} {x y : Operand} {m n : ByteArray} : (eqGuard op ty x y (.string m) (.string n)).run P w = .ok () w := by
  unfold eqGuard
  cases op <;> rfl

theorem intK_ok {op : BinOp} {k k' : IntKind} {x y : Int} {K : Slot → Option R} {r : R} (h : intK op k k' x y K = some r) :
    ∃ s, K s = some r ∧ ∀ (P : Program) (E : Env) (w : World) (ty : TypeId), ∃ v, (binOp op ty (.int k x) (.int k' y)).run P w = .ok v w ∧ SlotRep E s v := by
  unfold intK at h
  split at h
  · rcases bif_some h with ⟨_, h⟩ | ⟨hb, h⟩
    · cases h
    · refine ⟨_, h, fun P E w ty => ⟨_, ?_, mkInt _ _ _⟩⟩
      have : ¬ y < 0 := by simpa using hb
      simp [binOp, Op.shift, this]
  · rcases bif_some h with ⟨_, h⟩ | ⟨hb, h⟩
    · cases h
    · refine ⟨_, h, fun P E w ty => ⟨_, ?_, mkInt _ _ _⟩⟩
      have : ¬ y < 0 := by simpa using hb
      simp [binOp, Op.shift, this]
  · split at h
    · rename_i hk
      subst hk
      split at h
      case _ => exact ⟨_, h, fun P E w ty => ⟨_, by simp [binOp, Op.intArith], mkInt _ _ _⟩⟩
      case _ => exact ⟨_, h, fun P E w ty => ⟨_, by simp [binOp, Op.intArith], mkInt _ _ _⟩⟩
      case _ => exact ⟨_, h, fun P E w ty => ⟨_, by simp [binOp, Op.intArith], mkInt _ _ _⟩⟩
      case _ =>
        rcases bif_some h with ⟨_, h⟩ | ⟨hb, h⟩
        · cases h
        · have : ¬ y = 0 := by simpa using hb
          exact ⟨_, h, fun P E w ty => ⟨_, by simp [binOp, Op.intDiv, this], mkInt _ _ _⟩⟩
      case _ =>
        rcases bif_some h with ⟨_, h⟩ | ⟨hb, h⟩
        · cases h
        · have : ¬ y = 0 := by simpa using hb
          exact ⟨_, h, fun P E w ty => ⟨_, by simp [binOp, Op.intDiv, this], mkInt _ _ _⟩⟩
      case _ => exact ⟨_, h, fun P E w ty => ⟨_, by simp [binOp, Op.intBits], mkInt _ _ _⟩⟩
      case _ => exact ⟨_, h, fun P E w ty => ⟨_, by simp [binOp, Op.intBits], mkInt _ _ _⟩⟩
      case _ => exact ⟨_, h, fun P E w ty => ⟨_, by simp [binOp, Op.intBits], mkInt _ _ _⟩⟩
      case _ => exact ⟨_, h, fun P E w ty => ⟨_, by simp [binOp, Op.intBits], mkInt _ _ _⟩⟩
      case _ => exact ⟨_, h, fun P E w ty => ⟨_, by simp [binOp, Op.intCmp], mkBool _ _⟩⟩
      case _ => exact ⟨_, h, fun P E w ty => ⟨_, by simp [binOp, Op.intCmp], mkBool _ _⟩⟩
      case _ => exact ⟨_, h, fun P E w ty => ⟨_, by simp [binOp, Op.intCmp], mkBool _ _⟩⟩
      case _ => exact ⟨_, h, fun P E w ty => ⟨_, by simp [binOp, Op.intCmp], mkBool _ _⟩⟩
      case _ => exact ⟨_, h, fun P E w ty => ⟨_, by simp [binOp, Op.intCmp], mkBool _ _⟩⟩
      case _ => exact ⟨_, h, fun P E w ty => ⟨_, by simp [binOp, Op.intCmp], mkBool _ _⟩⟩
      case _ => cases h
    · cases h

theorem strK_ok {op : BinOp} {x y : ByteArray} {K : Slot → Option R} {r : R} (h : strK op x y K = some r) :
    ∃ s, K s = some r ∧ ∀ (P : Program) (E : Env) (w : World) (ty : TypeId), ∃ v, (binOp op ty (.string x) (.string y)).run P w = .ok v w ∧ SlotRep E s v := by
  unfold strK at h
  split at h
  case _ =>
    rcases bif_some h with ⟨_, h⟩ | ⟨hb, h⟩
    · cases h
    · have : ¬ ((x.size + y.size : Nat) : Int) > IntKind.i64.max := by simpa using hb
      exact ⟨_, h, fun P E w ty => ⟨_, by simp only [binOp, Op.stringOp, if_neg this]; rfl, mkStr _ _⟩⟩
  case _ => exact ⟨_, h, fun P E w ty => ⟨_, by simp only [binOp, Op.stringOp]; rfl, mkBool _ _⟩⟩
  case _ => exact ⟨_, h, fun P E w ty => ⟨_, by simp only [binOp, Op.stringOp]; rfl, mkBool _ _⟩⟩
  case _ => exact ⟨_, h, fun P E w ty => ⟨_, by simp only [binOp, Op.stringOp]; rfl, mkBool _ _⟩⟩
  case _ => exact ⟨_, h, fun P E w ty => ⟨_, by simp only [binOp, Op.stringOp]; rfl, mkBool _ _⟩⟩
  case _ => exact ⟨_, h, fun P E w ty => ⟨_, by simp only [binOp, Op.stringOp]; rfl, mkBool _ _⟩⟩
  case _ => exact ⟨_, h, fun P E w ty => ⟨_, by simp only [binOp, Op.stringOp]; rfl, mkBool _ _⟩⟩
  case _ => cases h

/-- Two plain values under an operator. -/
theorem binK_ok {op : BinOp} {a b : TV} {K : Slot → Option R} {r : R} (h : binK op a b K = some r) :
    ∃ s, K s = some r ∧ ∀ (P : Program) (E : Env) (w : World) (ty : TypeId) (x y : Operand) (va vb : Value), VRep E a.t a.x va → VRep E b.t b.x vb →
      ∃ v, ((do eqGuard op ty x y va vb; binOp op ty va vb) : Sem Value).run P w = .ok v w ∧ SlotRep E s v := by
  unfold binK at h
  split at h
  · obtain ⟨s, hs, hv⟩ := intK_ok h
    refine ⟨s, hs, fun P E w ty x y va vb ha hb => ?_⟩
    rw [vrep_int ha, vrep_int hb, Sem.run_bind, guard_int]
    exact hv P E w ty
  · obtain ⟨s, hs, hv⟩ := strK_ok h
    refine ⟨s, hs, fun P E w ty x y va vb ha hb => ?_⟩
    rw [vrep_str ha, vrep_str hb, Sem.run_bind, guard_str]
    exact hv P E w ty
  · cases h

theorem unK_ok {op : UnOp} {a : TV} {K : Slot → Option R} {r : R} (h : unK op a K = some r) :
    ∃ s, K s = some r ∧ ∀ (P : Program) (E : Env) (w : World) (va : Value), VRep E a.t a.x va → ∃ v, (Op.unary op va).run P w = .ok v w ∧ SlotRep E s v := by
  unfold unK at h
  split at h
  · exact ⟨_, h, fun P E w va ha => by rw [vrep_int ha]; exact ⟨_, rfl, mkInt _ _ _⟩⟩
  · exact ⟨_, h, fun P E w va ha => by rw [vrep_bool ha]; exact ⟨_, rfl, mkBool _ _⟩⟩
  · cases h
end
end Go.Proofs.YtadamegddcadcaaDoorPi

namespace Go.Proofs.YtadamegddcadcaaDoorPi
open Go

theorem getAt_ok {E : Env} {u : Ty} {y : u.den} : ∀ (t : Ty) (x : t.den) (o : Nat) (cs : List Value), getAt t x o u = some y → rep E t x cs → ∃ pre c post, cs = pre ++ c ++ post ∧ pre.length = o ∧ rep E u y c := by
  intro t
  induction t with
  | pair a b iha ihb =>
    intro x o cs h r
    unfold getAt at h
    split at h
    · rename_i hh
      obtain ⟨rfl, rfl⟩ := hh
      obtain rfl := Option.some.inj h
      exact ⟨[], cs, [], by simp, rfl, r⟩
    · obtain ⟨c1, c2, rfl, r1, r2⟩ := r
      simp only at h
      split at h
      · obtain ⟨pre, c, post, rfl, hp, hr⟩ := iha _ _ _ h r1
        exact ⟨pre, c, post ++ c2, by simp, hp, hr⟩
      · split at h
        · rename_i hle
          obtain ⟨pre, c, post, rfl, hp, hr⟩ := ihb _ _ _ h r2
          exact ⟨c1 ++ pre, c, post, by simp, by rw [List.length_append, hp, rep_length _ _ _ r1]; omega, hr⟩
        · cases h
  | _ =>
    intro x o cs h r
    unfold getAt at h
    split at h
    · rename_i hh
      obtain ⟨rfl, rfl⟩ := hh
      obtain rfl := Option.some.inj h
      exact ⟨[], cs, [], by simp, rfl, r⟩
    · simp at h

theorem setAt_ok {E : Env} {tv : TV} : ∀ (t : Ty) (x y : t.den) (o : Nat) (cs : List Value), setAt t x o tv = some y → rep E t x cs →
    ∃ pre c0 post, cs = pre ++ c0 ++ post ∧ pre.length = o ∧ c0.length = tv.t.size ∧ ∀ c, rep E tv.t tv.x c → rep E t y (pre ++ c ++ post) := by
  intro t
  induction t with
  | pair a b iha ihb =>
    intro x y o cs h r
    unfold setAt at h
    split at h
    · rename_i hh
      obtain ⟨u, z⟩ := tv
      obtain ⟨rfl, hu⟩ := hh
      simp only at hu; subst hu
      obtain rfl := Option.some.inj h
      exact ⟨[], cs, [], by simp, rfl, rep_length _ _ _ r, fun c hc => by simpa using hc⟩
    · obtain ⟨c1, c2, rfl, r1, r2⟩ := r
      simp only at h
      split at h
      · split at h
        · rename_i y' hy
          simp only [Option.some.injEq] at h; subst h
          obtain ⟨pre, c, post, rfl, hp, hl, hr⟩ := iha _ _ _ _ hy r1
          exact ⟨pre, c, post ++ c2, by simp, hp, hl, fun c' hc => ⟨pre ++ c' ++ post, c2, by simp, hr c' hc, r2⟩⟩
        · cases h
      · split at h
        · rename_i hle
          split at h
          · rename_i y' hy
            simp only [Option.some.injEq] at h; subst h
            obtain ⟨pre, c, post, rfl, hp, hl, hr⟩ := ihb _ _ _ _ hy r2
            exact ⟨c1 ++ pre, c, post, by simp, by rw [List.length_append, hp, rep_length _ _ _ r1]; omega, hl, fun c' hc => ⟨c1, pre ++ c' ++ post, by simp, r1, hr c' hc⟩⟩
          · cases h
        · cases h
  | _ =>
    intro x y o cs h r
    unfold setAt at h
    split at h
    · rename_i hh
      obtain ⟨u, z⟩ := tv
      obtain ⟨rfl, hu⟩ := hh
      simp only at hu; subst hu
      obtain rfl := Option.some.inj h
      exact ⟨[], cs, [], by simp, rfl, rep_length _ _ _ r, fun c hc => by simpa using hc⟩
    · simp at h

theorem fieldTy_size : ∀ (t : Ty) (f : Nat) (u : Ty) (o : Nat), fieldTy t f = some (u, o) → o + u.size ≤ t.size
  | .pair a b, 0, u, o, h => by
    simp only [fieldTy, Option.some.injEq, Prod.mk.injEq] at h
    obtain ⟨rfl, rfl⟩ := h
    simp [Ty.size]
  | .pair a b, f + 1, u, o, h => by
    simp only [fieldTy] at h
    split at h
    · rename_i u' o' h1
      simp only [Option.some.injEq, Prod.mk.injEq] at h
      obtain ⟨rfl, rfl⟩ := h
      have := fieldTy_size b f _ _ h1
      simp [Ty.size]; omega
    · cases h
  | .unit, _, _, _, h | .bool, _, _, _, h | .int _, _, _, _, h | .str, _, _, _, h | .list _, _, _, _, h | .own _ _, _, _, _, h | .ref _, _, _, _, h | .ptr _ _ _, _, _, _, h | .fn _ _ _, _, _, _, h => by simp [fieldTy] at h

theorem Row.part {m : Mem} {a : Addr} {pre c post : List Value} (h : Row m a (pre ++ c ++ post)) : Row m (a.add pre.length) c := by
  obtain ⟨hs, h⟩ := h
  have e : a.add pre.length = ⟨a.block, a.off + pre.length, none⟩ := by
    unfold Addr.add; split
    · rename_i hz; obtain ⟨b, o, s⟩ := a; simp only at hs; subst hs; simp [hz]
    · rfl
  rw [e]
  refine ⟨rfl, fun j v hj => ?_⟩
  have h1 := h (pre.length + j) v (by
    rw [List.append_assoc, List.getElem?_append_right (by omega)]
    rw [show pre.length + j - pre.length = j by omega, List.getElem?_append_left (List.getElem?_eq_some_iff.1 hj).1]
    exact hj)
  show m a.block (a.off + pre.length + j) = some v
  rw [show a.off + pre.length + j = a.off + (pre.length + j) by omega]; exact h1

theorem Row.cells {m : Mem} {w : World} {a : Addr} {cs : List Value} (h : Row m a cs) (hi : Inv m w) : ∀ j v, cs[j]? = some v → w.cell? (a.add j) = some v := by
  intro j v hj
  have e : a.add j = ⟨a.block, a.off + j, none⟩ := by
    unfold Addr.add; split
    · rename_i hz; obtain ⟨b, o, s⟩ := a; have := h.1; simp only at this; subst this; simp [hz]
    · rfl
  rw [e]
  exact hi _ _ _ (h.2 j v hj)

theorem run_isAgg {P : Program} {w : World} {t : TypeId} {d : TypeDesc} (hd : P.underlying t = some d) : (isAgg t).run P w = .ok (aggD d) w := by
  unfold isAgg aggD
  rw [Sem.run_bind, run_underlying hd]
  cases d <;> rfl
theorem run_sizeOf' {P : Program} {w : World} {t : TypeId} {inf : TypeInfo} (hinf : P.info? t = some inf) : (sizeOf t).run P w = .ok inf.size w := by
  unfold sizeOf typeInfo
  simp [hinf]

/-- Reading a variable. -/
theorem run_loadVar {P : Program} {w : World} {t : TypeId} {a : Addr} {inf : TypeInfo} {d : TypeDesc} {u : Ty} {cs : List Value} {E : Env} {x : u.den} (hinf : P.info? t = some inf) (hd : P.underlying t = some d)
    (hs : inf.size = u.size) (ha : aggD d = u.isAgg) (r : rep E u x cs) (h : ∀ j v, cs[j]? = some v → w.cell? (a.add j) = some v) : (loadVar t a).run P w = .ok (mkV u cs) w := by
  have hl := rep_length _ _ _ r
  unfold loadVar mkV
  rw [Sem.run_bind, run_isAgg hd, Result.andThen_ok, ha]
  by_cases hu : u.isAgg = true
  · rw [if_pos hu, if_pos hu, Sem.run_bind, run_sizeOf' hinf, Result.andThen_ok, hs, ← hl, Sem.run_bind, run_loadCells_list (P := P) w a cs h]
    rfl
  · have hu' : u.isAgg = false := by simpa using hu
    obtain ⟨v, rfl, _, _⟩ := rep_one r hu'
    rw [if_neg hu, if_neg hu]
    have h0 : w.cell? a = some v := by
      have := h 0 v rfl
      simpa [Addr.add] using this
    simp [h0]

theorem cell_blk {w : World} {b e : Nat} {cs : List Value} {f : Nat × Nat} (h : w.heap[b]? = some (.cells cs.toArray e f)) {j : Nat} {v : Value} (hj : cs[j]? = some v) : w.cell? ⟨b, j, none⟩ = some v := by
  simp [World.cell?, h, hj]
theorem add_spotless {b o n : Nat} : (⟨b, o, none⟩ : Addr).add n = ⟨b, o + n, none⟩ := by
  unfold Addr.add; split
  · rename_i h; simp [h]
  · rfl

section
variable {R : Type} {P : Program} {st : St}
theorem loadK_ok {ty : TypeId} {a : TV} {K : Slot → Option R} {r : R} (h : loadK P st ty a K = some r) :
    ∃ s, K s = some r ∧ ∀ (X : Nat → Prop) (E : Env) (tmps : Array Value) (w : World) (va : Value), FR X E st tmps w → VRep E a.t a.x va → ∃ v, (Instr.loadAt ty va).run P w = .ok v w ∧ SlotRep E s v := by
  unfold loadK at h
  split at h
  · rename_i i o t u
    split at h
    · rename_i c inf d hc hinf hd
      split at h
      · rename_i hs
        split at h
        · rename_i y hy
          refine ⟨_, h, fun X E tmps w va hf hv => ?_⟩
          obtain ⟨b, hb, rfl⟩ := vrep_ptr hv
          obtain ⟨blk, cs, e, hb', hh, hr, _⟩ := hf.boxes i c hc
          obtain rfl : b = blk := Option.some.inj (hb.symm.trans hb')
          obtain ⟨pre, q, post, rfl, hp, hq⟩ := getAt_ok _ _ _ _ hy hr
          refine ⟨mkV t q, ?_, _, hq, rfl⟩
          unfold Instr.loadAt Instr.sureAddr
          rw [Sem.run_bind, Sem.run_pure, Result.andThen_ok]
          refine run_loadVar hinf hd hs.1 hs.2 hq fun j v hj => ?_
          rw [add_spotless]
          refine cell_blk hh ?_
          rw [List.append_assoc, List.getElem?_append_right (by omega)]
          rw [show o + j - pre.length = j by omega, List.getElem?_append_left (List.getElem?_eq_some_iff.1 hj).1]
          exact hj
        · cases h
      · cases h
    · cases h
  · rename_i t x
    split at h
    · rename_i inf d hinf hd
      split at h
      · rename_i hs
        refine ⟨_, h, fun X E tmps w va hf hv => ?_⟩
        obtain ⟨b, c, rfl, hr, hw⟩ := vrep_ref hv
        refine ⟨mkV t c, ?_, _, hr, rfl⟩
        unfold Instr.loadAt Instr.sureAddr
        rw [Sem.run_bind, Sem.run_pure, Result.andThen_ok]
        exact run_loadVar hinf hd hs.1 hs.2 hr (hw.cells hf.inv)
      · cases h
    · cases h
  · cases h

theorem fieldAddrK_ok {ty : TypeId} {a : TV} {f : Nat} {K : Slot → Option R} {r : R} (h : fieldAddrK P ty a f K = some r) :
    ∃ s, K s = some r ∧ ∀ (E : Env) (w : World) (va : Value), VRep E a.t a.x va → ∃ v, (Instr.fieldAt ty va f).run P w = .ok v w ∧ SlotRep E s v := by
  unfold fieldAddrK at h
  split at h
  · rename_i fs hu
    split at h
    · rename_i fd hf
      split at h
      · rename_i inf hinf
        have place : ∀ (w : World) (ad : Addr), inf.size ≠ 0 → (fieldPlace ad fd).run P w = .ok (ad.add fd.offset) w := fun w ad hne => by
          unfold fieldPlace
          rw [Sem.run_bind, run_sizeOf' hinf, Result.andThen_ok, if_neg hne]; rfl
        have fa : ∀ (w : World) (ad : Addr), inf.size ≠ 0 → (Instr.fieldAt ty (.pointer (some ad)) f).run P w = .ok (.pointer (some (ad.add fd.offset))) w := fun w ad hne => by
          unfold Instr.fieldAt Instr.sureAddr
          rw [Sem.run_bind, run_underlying hu, Result.andThen_ok]
          simp only [hf]
          rw [Sem.run_bind, Sem.run_pure, Result.andThen_ok, Sem.run_bind, place w ad hne]
          rfl
        split at h
        · rename_i i o t z
          split at h
          · rename_i u q hq
            split at h
            · rename_i hc
              refine ⟨_, h, fun E w va hv => ?_⟩
              obtain ⟨b, hb, rfl⟩ := vrep_ptr hv
              refine ⟨_, fa w _ hc.2.1, [.pointer (some ⟨b, o + q, none⟩)], ⟨b, hb, rfl⟩, ?_⟩
              rw [add_spotless, hc.1]; rfl
            · cases h
          · cases h
        · rename_i t x
          split at h
          · rename_i u q hq
            split at h
            · rename_i hc
              split at h
              · rename_i y hy
                refine ⟨_, h, fun E w va hv => ?_⟩
                obtain ⟨b, c, rfl, hr, hw⟩ := vrep_ref hv
                obtain ⟨pre, c', post, rfl, hp, hr'⟩ := getAt_ok _ _ _ _ hy hr
                refine ⟨_, fa w _ hc.2.1, [.pointer (some (b.add fd.offset))], ⟨b.add fd.offset, c', rfl, hr', ?_⟩, rfl⟩
                rw [← hc.1, ← hp]
                exact hw.part
              · cases h
            · cases h
          · cases h
        · cases h
      · cases h
    · cases h
  · cases h
end
end Go.Proofs.YtadamegddcadcaaDoorPi

namespace Go.Proofs.YtadamegddcadcaaDoorPi
open Go
section
variable {R : Type} {P : Program} {st : St}

theorem seg_extract {pre c post : List Value} : (pre ++ c ++ post).toArray.extract pre.length (pre.length + c.length) = c.toArray := by
  apply Array.ext'
  simp

theorem run_part {w : World} {t : TypeId} {inf : TypeInfo} {d : TypeDesc} {u : Ty} {pre c post : List Value} {E : Env} {x : u.den} (hinf : P.info? t = some inf) (hd : P.underlying t = some d)
    (hs : u.size = inf.size) (ha : aggD d = u.isAgg) (r : rep E u x c) : (part t (pre ++ c ++ post).toArray pre.length).run P w = .ok (mkV u c) w := by
  have hl := rep_length _ _ _ r
  unfold part mkV
  rw [Sem.run_bind, run_isAgg hd, Result.andThen_ok, ha]
  by_cases hu : u.isAgg = true
  · rw [if_pos hu, if_pos hu, Sem.run_bind, run_sizeOf' hinf, Result.andThen_ok, ← hs, ← hl, seg_extract]
    rfl
  · have hu' : u.isAgg = false := by simpa using hu
    obtain ⟨v, rfl, _, _⟩ := rep_one r hu'
    rw [if_neg hu, if_neg hu]
    have : (pre ++ [v] ++ post).toArray[pre.length]? = some v := by simp
    rw [this]; rfl

theorem fieldK_ok {ty : TypeId} {a : TV} {f : Nat} {K : Slot → Option R} {r : R} (h : fieldK P ty a f K = some r) :
    ∃ s, K s = some r ∧ ∀ (E : Env) (w : World) (va : Value), VRep E a.t a.x va → ∃ v, (Instr.field ty va f).run P w = .ok v w ∧ SlotRep E s v := by
  unfold fieldK at h
  split at h
  · rename_i fs hu
    split at h
    · rename_i fd hf
      split at h
      · rename_i inf d u q hinf hd hq
        split at h
        · rename_i hc
          split at h
          · rename_i y hy
            refine ⟨_, h, fun E w va hv => ?_⟩
            obtain ⟨cs, hr, rfl⟩ := vrep_agg hv hc.1
            obtain ⟨pre, c, post, rfl, hp, hr'⟩ := getAt_ok _ _ _ _ hy hr
            refine ⟨mkV u c, ?_, _, hr', rfl⟩
            unfold Instr.field
            rw [Sem.run_bind, run_underlying hu, Result.andThen_ok]
            simp only [hf, asAgg]
            rw [Sem.run_bind, Sem.run_pure, Result.andThen_ok, ← hc.2.1, ← hp]
            exact run_part hinf hd hc.2.2.1 hc.2.2.2 hr'
          · cases h
        · cases h
      · cases h
    · cases h
  · cases h

theorem bind_some {α : Type} {o : Option α} {f : α → Option R} {r : R} (h : o.bind f = some r) : ∃ x, o = some x ∧ f x = some r := by
  cases o with
  | none => cases h
  | some x => exact ⟨x, rfl, h⟩

theorem chain_ok {E : Env} {u : Ty} : ∀ (n : Nat) (x : (many n u).den) (cs : List Value), rep E (many n u) x cs → (chain n u x).length = n ∧ ∀ (i : Nat) (z : u.den), (chain n u x)[i]? = some z → ∃ pre c post, cs = pre ++ c ++ post ∧ pre.length = i * u.size ∧ rep E u z c
  | 0, _, _, _ => ⟨rfl, fun i z h => by simp [chain] at h⟩
  | n + 1, x, cs, r => by
    obtain ⟨c1, c2, rfl, r1, r2⟩ := r
    obtain ⟨hl, hn⟩ := chain_ok n x.2 c2 r2
    refine ⟨by simp [chain, hl], fun i z h => ?_⟩
    cases i with
    | zero =>
      simp only [chain, List.getElem?_cons_zero, Option.some.injEq] at h
      subst h
      exact ⟨[], c1, c2, by simp, by simp, r1⟩
    | succ i =>
      simp only [chain, List.getElem?_cons_succ] at h
      obtain ⟨pre, c, post, rfl, hp, hr⟩ := hn i z h
      exact ⟨c1 ++ pre, c, post, by simp, by rw [List.length_append, hp, rep_length _ _ _ r1, Nat.succ_mul]; omega, hr⟩

theorem indexK_ok {ty : TypeId} {a b : TV} {K : Slot → Option R} {r : R} (h : indexK P ty a b K = some r) :
    ∃ s, K s = some r ∧ ∀ (E : Env) (w : World) (va vb : Value), VRep E a.t a.x va → VRep E b.t b.x vb → ∃ v, (Instr.index ty va vb).run P w = .ok v w ∧ SlotRep E s v := by
  unfold indexK at h
  split at h
  · rename_i hu
    rename_i s k i
    rcases bif_some h with ⟨h0, h⟩ | ⟨_, h⟩
    · obtain ⟨c, hc, h⟩ := bind_some h
      have h0' : 0 ≤ i := by simpa using h0
      refine ⟨_, h, fun E w va vb ha hb => ?_⟩
      rw [vrep_str ha, vrep_int hb]
      refine ⟨.int .u8 c.toNat, ?_, mkInt _ _ _⟩
      unfold Instr.index
      simp only [asIntOf, Sem.run_bind, Sem.run_pure, Result.andThen_ok, run_underlying hu, if_pos h0', hc]
    · cases h
  · rename_i len e k i hu
    split at h
    · rename_i u inf d ht hinf hd
      split at h
      · rename_i hs
        split at h
        · rename_i y hy
          rcases bif_some h with ⟨h0, h⟩ | ⟨_, h⟩
          · obtain ⟨z, hz, h⟩ := bind_some h
            have h0' : 0 ≤ i := by simpa using h0
            refine ⟨_, h, fun E w va vb ha hb => ?_⟩
            rw [vrep_int hb]
            obtain ⟨cs, hr, hva⟩ := castTV_ok hy ha
            obtain ⟨hl, hn⟩ := chain_ok len y cs hr
            obtain ⟨pre, c, post, rfl, hp, hrc⟩ := hn _ _ hz
            have hlen : i.toNat < len := by rw [← hl]; exact (List.getElem?_eq_some_iff.1 hz).1
            have hlt : i < (len : Int) := (Int.toNat_lt h0').1 hlen
            have hagg : (many len u).isAgg = true := by cases len <;> rfl
            have hva' : va = .agg (pre ++ c ++ post).toArray := by rw [hva]; unfold mkV; rw [if_pos hagg]
            refine ⟨mkV u c, ?_, _, hrc, rfl⟩
            unfold Instr.index
            simp only [asIntOf, Sem.run_bind, Sem.run_pure, Result.andThen_ok, run_underlying hu, hva', h0', hlt, and_self, if_true, run_sizeOf' hinf]
            rw [← hs.1, ← hp]
            exact run_part hinf hd hs.1 hs.2 hrc
          · cases h
        · cases h
      · cases h
    · cases h
  · cases h

theorem indexAddrK_ok {ty : TypeId} {a b : TV} {K : Slot → Option R} {r : R} (h : indexAddrK P ty a b K = some r) :
    ∃ s, K s = some r ∧ ∀ (E : Env) (w : World) (va vb : Value), VRep E a.t a.x va → VRep E b.t b.x vb → ∃ v, (Instr.indexAt ty va vb).run P w = .ok v w ∧ SlotRep E s v := by
  unfold indexAddrK at h
  split at h
  · rename_i e t xs k i hu
    split at h
    · rename_i inf hinf
      split at h
      · rename_i hs
        rcases bif_some h with ⟨h0, h⟩ | ⟨_, h⟩
        · obtain ⟨x, hx, h⟩ := bind_some h
          have h0' : 0 ≤ i := by simpa using h0
          refine ⟨_, h, fun E w va vb ha hb => ?_⟩
          obtain ⟨A, cap, rfl, hc, hr⟩ := vrep_list ha
          rw [vrep_int hb]
          obtain ⟨ad, c, rfl, h1, hr', hrow⟩ := hr _ _ hx
          have hlt' : i.toNat < xs.length := (List.getElem?_eq_some_iff.1 hx).1
          have hlt : i < (xs.length : Int) := (Int.toNat_lt h0').1 hlt'
          refine ⟨.pointer (some (ad.add (i.toNat * inf.size))), ?_, [.pointer (some (ad.add (i.toNat * inf.size)))], ⟨_, c, rfl, hr', ?_⟩, rfl⟩
          · unfold Instr.indexAt
            simp only [asIntOf, Sem.run_bind, Sem.run_pure, Result.andThen_ok, run_underlying hu, h0', hlt, and_self, if_true, run_sizeOf' hinf]
          · have : ad.add (i.toNat * inf.size) = ⟨ad.block, ad.off + i.toNat * t.size, none⟩ := by
              rw [hs]
              unfold Addr.add; split
              · rename_i hz; obtain ⟨b', o', s'⟩ := ad; simp only at h1; subst h1; simp [hz]
              · rfl
            rw [this]; exact hrow
        · cases h
      · cases h
    · cases h
  · cases h

theorem intOpt_ok {X : Nat → Prop} {E : Env} {a : Act} {w : World} (hf : FR X E st a.tmps w) {o : Option Operand} {v : Option Int} (hx : ∀ x, o = some x → ∀ t, x = .tmp t → X t) (h : intOpt st o = some v) :
    (o = none ∧ v = none) ∨ ∃ x k n, o = some x ∧ v = some n ∧ a.eval x = .int k n := by
  unfold intOpt at h
  split at h
  · simp only [Option.some.injEq] at h; exact .inl ⟨rfl, h.symm⟩
  · rename_i x
    split at h
    · rename_i k n hv
      simp only [Option.some.injEq] at h; subst h
      exact .inr ⟨x, k, n, rfl, rfl, vrep_int (opd_ok hf (hx x rfl) hv)⟩
    · cases h

theorem boundK_ok {n d : Nat} {v : Option Int} {K : Nat → Option R} {r : R} (h : boundK n v d K = some r) :
    (v = none ∧ K d = some r) ∨ ∃ i : Int, v = some i ∧ 0 ≤ i ∧ i ≤ (n : Int) ∧ K i.toNat = some r := by
  unfold boundK at h
  split at h
  · exact .inl ⟨rfl, h⟩
  · rcases bif_some h with ⟨hb, h⟩ | ⟨_, h⟩
    · have hb' := of_decide_eq_true hb
      exact .inr ⟨_, rfl, hb'.1, hb'.2, h⟩
    · cases h

/-- The values of two bounds. -/
def Bd (v : Option Int) (o : Option Value) : Prop := (v = none ∧ o = none) ∨ ∃ k n, v = some n ∧ o = some (.int k n)
theorem run_sliceBound {w : World} {k : IntKind} {i : Int} {y : Nat} {c : BoundsCode} (h0 : 0 ≤ i) (h1 : i ≤ (y : Int)) : (Instr.sliceBound (.int k i) y c).run P w = .ok i.toNat w := by
  unfold Instr.sliceBound
  simp [asIntOf, h0, h1]
theorem run_bounds {len : Nat} {lo hi : Option Int} {K : Nat → Nat → Option R} {r : R} (h : (boundK len hi len fun a => boundK a lo 0 fun b => K a b) = some r) :
    ∃ a b, K a b = some r ∧ b ≤ a ∧ a ≤ len ∧ ∀ (w : World) (isS : Bool) (cap : Nat) (vl vh : Option Value), len ≤ cap → Bd lo vl → Bd hi vh → (Instr.sliceBounds isS len cap vl vh none).run P w = .ok (b, a, cap) w := by
  have low : ∀ (a : Nat), (boundK a lo 0 fun b => K a b) = some r → ∃ b, K a b = some r ∧ b ≤ a ∧ ∀ vl, Bd lo vl → ((vl = none ∧ b = 0) ∨ ∃ k n, vl = some (.int k n) ∧ 0 ≤ n ∧ n ≤ (a : Int) ∧ b = n.toNat) := by
    intro a ha
    rcases boundK_ok ha with ⟨hn, hk⟩ | ⟨i, hi', h0, h1, hk⟩
    · refine ⟨0, hk, Nat.zero_le _, fun vl hl => ?_⟩
      rcases hl with ⟨_, rfl⟩ | ⟨k, n, e, _⟩
      · exact .inl ⟨rfl, rfl⟩
      · rw [hn] at e; cases e
    · refine ⟨i.toNat, hk, by omega, fun vl hl => ?_⟩
      rcases hl with ⟨e, _⟩ | ⟨k, n, e, rfl⟩
      · rw [hi'] at e; cases e
      · obtain rfl : i = n := Option.some.inj (hi'.symm.trans e)
        exact .inr ⟨k, i, rfl, h0, h1, rfl⟩
  rcases boundK_ok h with ⟨hn, hk⟩ | ⟨i, hi', h0, h1, hk⟩
  · obtain ⟨b, hb, hle, hv⟩ := low _ hk
    refine ⟨len, b, hb, hle, Nat.le_refl _, fun w isS cap vl vh hlc hl hh => ?_⟩
    rcases hh with ⟨_, rfl⟩ | ⟨k, n, e, _⟩
    · unfold Instr.sliceBounds
      rcases hv vl hl with ⟨rfl, rfl⟩ | ⟨k, n, rfl, h0, h1, rfl⟩
      · simp only [Sem.run_bind, Sem.run_pure, Result.andThen_ok]
      · simp only [Sem.run_bind, Sem.run_pure, Result.andThen_ok]
        rw [run_sliceBound h0 h1]; rfl
    · rw [hn] at e; cases e
  · have hle : i.toNat ≤ len := by omega
    obtain ⟨b, hb, hle', hv⟩ := low _ hk
    refine ⟨i.toNat, b, hb, hle', hle, fun w isS cap vl vh hlc hl hh => ?_⟩
    rcases hh with ⟨e, _⟩ | ⟨k, n, e, rfl⟩
    · rw [hi'] at e; cases e
    · obtain rfl : i = n := Option.some.inj (hi'.symm.trans e)
      have hc : i ≤ (cap : Int) := by omega
      unfold Instr.sliceBounds
      rcases hv vl hl with ⟨rfl, rfl⟩ | ⟨k', n, rfl, h0', h1', rfl⟩
      · simp only [Sem.run_bind, Sem.run_pure, Result.andThen_ok]
        rw [run_sliceBound h0 hc]; rfl
      · simp only [Sem.run_bind, Sem.run_pure, Result.andThen_ok]
        rw [run_sliceBound h0 hc]
        simp only [Result.andThen_ok]
        rw [run_sliceBound h0' h1']; rfl

theorem sliceK_ok {ty : TypeId} {a : TV} {lo hi : Option Int} {K : Slot → Option R} {r : R} (h : sliceK P ty a lo hi K = some r) :
    ∃ s, K s = some r ∧ ∀ (E : Env) (w : World) (va : Value) (vl vh : Option Value), VRep E a.t a.x va → Bd lo vl → Bd hi vh → ∃ v, (Instr.sliceAt ty va vl vh none).run P w = .ok v w ∧ SlotRep E s v := by
  unfold sliceK at h
  split at h
  · rename_i s hu
    obtain ⟨q, l, hk, _, _, hrun⟩ := run_bounds (P := P) h
    refine ⟨_, hk, fun E w va vl vh ha hl hh => ?_⟩
    rw [vrep_str ha]
    refine ⟨.string (s.extract l q), ?_, mkStr _ _⟩
    unfold Instr.sliceAt Instr.slice
    simp only [Sem.run_bind, run_underlying hu, Result.andThen_ok]
    simp only [Option.isSome_none, Bool.false_eq_true, if_false, Sem.run_bind, Sem.run_pure]
    rw [hrun w false s.size vl vh (Nat.le_refl _) hl hh]
    rfl
  · rename_i e t xs hu
    split at h
    · rename_i inf hinf
      split at h
      · rename_i hs
        obtain ⟨q, l, hk, hlq, hq, hrun⟩ := run_bounds (P := P) h
        refine ⟨_, hk, fun E w va vl vh ha hl hh => ?_⟩
        obtain ⟨A, cap, rfl, hc, hr⟩ := vrep_list ha
        have hc : xs.length ≤ cap := hc
        have hq : q ≤ xs.length := hq
        have hlen : ((xs.take q).drop l).length = q - l := by rw [List.length_drop, List.length_take]; omega
        refine ⟨.slice (if cap = l then A else A.map (·.add (l * inf.size))) (q - l) (cap - l), ?_, _, ⟨if cap = l then A else A.map (·.add (l * inf.size)), cap - l, rfl, by rw [hlen]; omega, ?_⟩, ?_⟩
        · unfold Instr.sliceAt Instr.slice
          simp only [Sem.run_bind, run_underlying hu, Result.andThen_ok]
          rw [hrun w true cap vl vh hc hl hh]
          simp only [Result.andThen_ok]
          rw [run_sizeOf' hinf]
          rfl
        · intro i x hx
          have hx' : xs[l + i]? = some x := by
            rw [List.getElem?_drop, List.getElem?_take] at hx
            split at hx
            · exact hx
            · cases hx
          obtain ⟨ad, c, rfl, h1, hr', hrow⟩ := hr _ _ hx'
          have hlt : l + i < xs.length := (List.getElem?_eq_some_iff.1 hx').1
          have hne : ¬ cap = l := by omega
          rw [if_neg hne]
          have : (ad.add (l * inf.size)) = ⟨ad.block, ad.off + l * t.size, none⟩ := by
            rw [hs]; unfold Addr.add; split
            · rename_i hz; obtain ⟨b', o', s'⟩ := ad; simp only at h1; subst h1; simp [hz]
            · rfl
          refine ⟨ad.add (l * inf.size), c, rfl, by rw [this], hr', ?_⟩
          rw [this]
          show Row E.m ⟨ad.block, ad.off + l * t.size + i * t.size, none⟩ c
          rw [show ad.off + l * t.size + i * t.size = ad.off + (l + i) * t.size by rw [Nat.add_mul]; omega]
          exact hrow
        · show _ = Value.slice _ ((xs.take q).drop l).length _
          rw [hlen]
      · cases h
    · cases h
  · cases h
end
end Go.Proofs.YtadamegddcadcaaDoorPi

namespace Go.Proofs.YtadamegddcadcaaDoorPi
open Go

def commit (m : Mem) (b : Nat) (cs : List Value) : Mem := fun b' j => if b' = b then cs[j]? else m b' j

theorem commit_ok {C : Ctx} {m : Mem} {w w' : World} {cs : List Value} (hi : Inv m w) (hc : ∀ j v, cs[j]? = some v → w'.cell? ⟨w.heap.size, j, none⟩ = some v)
    (hs : w'.heap.size = w.heap.size + 1) (ho : ∀ b, b < w.heap.size → w'.heap[b]? = w.heap[b]?) (h1 : w'.os = w.os) (h2 : w'.tape = w.tape) (h3 : w'.output = w.output) (h4 : w.drawn ≤ w'.drawn) :
    Chg C m w (commit m w.heap.size cs) w' ∧ Inv (commit m w.heap.size cs) w' := by
  refine ⟨⟨h1, h2, h3, fun _ => h4, by omega, ho, fun b hb => ?_⟩, fun b j v hv => ?_⟩
  · funext j; unfold commit; rw [if_neg (by omega)]
  · unfold commit at hv
    split at hv
    · rename_i hb; subst hb; exact hc j v hv
    · have := hi b j v hv
      have hlt := cell_lt this
      unfold World.cell? at this ⊢
      rw [ho b hlt]; exact this

theorem bytesOf_length (s : ByteArray) : (bytesOf s).length = s.size := by rw [bytesOf, List.length_map, Array.length_toList]; rfl

section
variable {R : Type} {P : Program}
theorem convK_ok {src dst : TypeId} {a : TV} {K : Slot → Option R} {r : R} (h : convK P src dst a K = some r) :
    ∃ s, K s = some r ∧ ∀ (C : Ctx) (E : Env) (w : World) (va : Value), Inv E.m w → VRep E a.t a.x va →
      ∃ v m' w', (convert src dst va).run P w = .ok v w' ∧ Chg C E.m w m' w' ∧ Inv m' w' ∧ SlotRep { E with m := m' } s v := by
  unfold convK at h
  split at h
  · rename_i d k k' n hs hd
    refine ⟨_, h, fun C E w va hi hv => ⟨.int k (k.wrap n), E.m, w, ?_, .refl _ _, hi, mkInt _ _ _⟩⟩
    rw [vrep_int hv]
    unfold convert
    simp only [Sem.run_bind, run_underlying hs, run_underlying hd, Result.andThen_ok]
    cases d <;> rfl
  · rename_i d s hs hd
    refine ⟨_, h, fun C E w va hi hv => ⟨.string s, E.m, w, ?_, .refl _ _, hi, mkStr _ _⟩⟩
    rw [vrep_str hv]
    unfold convert
    simp only [Sem.run_bind, run_underlying hs, run_underlying hd, Result.andThen_ok]
    cases d <;> rfl
  · rename_i d e s hs hd
    split at h
    · rename_i he
      refine ⟨_, h, fun C E w va hi hv => ?_⟩
      rw [vrep_str hv]
      have hrow : ∀ j v, (((bytesOf s).map fun n => Value.int .u8 n)[j]? = some v) → (Lib.bytesWorld w e s).cell? ⟨w.heap.size, j, none⟩ = some v := by
        intro j v hj
        rw [List.getElem?_map, Option.map_eq_some_iff] at hj
        obtain ⟨n, hn, rfl⟩ := hj
        have hlt : j < s.size := by rw [← bytesOf_length]; exact (List.getElem?_eq_some_iff.1 hn).1
        rw [Lib.bytesWorld_cell w e s j hlt]
        unfold bytesOf at hn
        rw [List.getElem?_map, Option.map_eq_some_iff] at hn
        obtain ⟨b, hb, rfl⟩ := hn
        rw [List.getD_eq_getElem?_getD, hb]; rfl
      obtain ⟨hc, hi'⟩ := commit_ok (C := C) (w' := Lib.bytesWorld w e s) hi hrow (Lib.bytesWorld_size w e s) (Lib.bytesWorld_at_old w e s) rfl rfl rfl (Nat.le_succ _)
      refine ⟨_, _, _, Lib.run_convert_string_bytes w src dst e s hs hd he, hc, hi', [_], ⟨some ⟨w.heap.size, 0, none⟩, grownCap w s.size 0 e, ?_, ?_, ?_⟩, rfl⟩
      · show [Value.slice _ s.size _] = [Value.slice _ (bytesOf s).length _]
        rw [bytesOf_length]
      · show (bytesOf s).length ≤ _
        rw [bytesOf_length]; unfold grownCap Question.cut; simp only; omega
      · intro i x hx
        refine ⟨⟨w.heap.size, 0, none⟩, [.int .u8 x], rfl, rfl, rfl, rfl, fun j v hj => ?_⟩
        have hj0 : j = 0 := by
          have := (List.getElem?_eq_some_iff.1 hj).1
          simp at this; exact this
        subst hj0
        simp only [List.getElem?_cons_zero, Option.some.injEq] at hj
        subst hj
        show commit E.m w.heap.size _ w.heap.size (0 + i * 1 + 0) = _
        unfold commit
        rw [if_pos rfl, List.getElem?_map]
        have hx' : (bytesOf s)[0 + i * 1 + 0]? = some x := by rw [show 0 + i * 1 + 0 = i by omega]; exact hx
        rw [hx']; rfl
    · cases h
  · rename_i e xs hs hd
    split at h
    · rename_i he
      refine ⟨_, h, fun C E w va hi hv => ?_⟩
      obtain ⟨A, cap, rfl, hc, hr⟩ := vrep_list hv
      refine ⟨.string (ofBytes xs), E.m, w, ?_, .refl _ _, hi, mkStr _ _⟩
      rw [run_convert_bytes_string w src dst e A _ cap hs he hd]
      cases A with
      | none =>
        cases xs with
        | nil => rfl
        | cons x r =>
          obtain ⟨a, c, ha, _⟩ := hr 0 x rfl
          cases ha
      | some ad =>
        rw [run_bytesToString w ad _ cap xs]
        · rw [foldl_push_bytes]; simp [ofBytes]
        · have := run_loadCells_list (P := P) w ad (xs.map fun n => Value.int .u8 n) (fun j v hj => by
            rw [List.getElem?_map, Option.map_eq_some_iff] at hj
            obtain ⟨n, hn, rfl⟩ := hj
            obtain ⟨ad', c, hA, h1, hc', hrow⟩ := hr j n hn
            obtain rfl := Option.some.inj hA
            obtain rfl : c = [.int .u8 n] := hc'
            have h0 := hrow.2 0 _ rfl
            have e1 : ad.add j = ⟨ad.block, ad.off + j, none⟩ := by
              unfold Addr.add; split
              · rename_i hz; obtain ⟨b', o', s'⟩ := ad; simp only at h1; subst h1; simp [hz]
              · rfl
            rw [e1]
            have h2 := hi _ _ _ h0
            have e2 : ad.off + j * Ty.size (.int .u8) + 0 = ad.off + j := by simp [Ty.size]
            simp only [e2] at h2
            exact h2)
          rw [List.length_map] at this
          exact this
    · cases h
  · cases h

/-! literals -/
theorem seg_get (arr : Array Value) : ∀ (l : List Value) (k o : Nat), o + k + l.length ≤ arr.size → ∀ i, ((l.zipIdx k).foldl (fun cs (p : Value × Nat) => cs.setIfInBounds (o + p.2) p.1) arr)[i]? = if o + k ≤ i ∧ i < o + k + l.length then l[i - (o + k)]? else arr[i]?
  | [], k, o, _, i => by
    rw [if_neg (by intro hh; simp at hh; omega)]; rfl
  | v :: l, k, o, h, i => by
    have h' : o + k + (l.length + 1) ≤ arr.size := h
    simp only [List.zipIdx_cons, List.foldl_cons]
    rw [seg_get (arr.setIfInBounds (o + k) v) l (k + 1) o (by rw [Array.size_setIfInBounds]; omega) i]
    simp only [List.length_cons]
    by_cases h1 : o + (k + 1) ≤ i ∧ i < o + (k + 1) + l.length
    · rw [if_pos h1, if_pos (by omega)]
      rw [show i - (o + k) = (i - (o + (k + 1))) + 1 by omega, List.getElem?_cons_succ]
    · rw [if_neg h1, Array.getElem?_setIfInBounds]
      by_cases h2 : o + k = i
      · subst h2
        rw [if_pos rfl, if_pos (by omega), if_pos (by omega)]
        simp
      · rw [if_neg h2, if_neg (by omega)]

theorem seg_fold {pre c0 post l : List Value} (h : c0.length = l.length) : (l.toArray.zipIdx.foldl (fun cs (p : Value × Nat) => cs.setIfInBounds (pre.length + p.2) p.1) (pre ++ c0 ++ post).toArray) = (pre ++ l ++ post).toArray := by
  apply Array.ext_getElem?
  intro i
  have := seg_get (pre ++ c0 ++ post).toArray l 0 pre.length (by simp; omega) i
  rw [← Array.foldl_toList, Array.toList_zipIdx]
  rw [this]
  simp only [List.getElem?_toArray, Nat.add_zero]
  split
  · rename_i hh
    rw [List.append_assoc, List.getElem?_append_right hh.1, List.getElem?_append_left (by omega)]
  · rename_i hh
    rw [List.append_assoc, List.append_assoc]
    by_cases h1 : i < pre.length
    · rw [List.getElem?_append_left h1, List.getElem?_append_left h1]
    · rw [List.getElem?_append_right (by omega), List.getElem?_append_right (by omega), List.getElem?_append_right (by omega), List.getElem?_append_right (by omega), h]

theorem setParts_ok {st : St} {X : Nat → Prop} {E : Env} {a : Act} {w : World} (hf : FR X E st a.tmps w) {place : Nat → Option (Nat × Nat × TypeId)} {place' : Nat → Option (Nat × Nat)}
    (hp : ∀ i o n ty, place i = some (o, n, ty) → place' i = some (o, n)) {t : Ty} : ∀ (parts : List (Nat × Operand)) (x y : t.den) (cs : List Value),
    (∀ p ∈ parts, ∀ u, p.2 = .tmp u → X u) → setParts P st place t x parts = some y → rep E t x cs →
    ∃ cs', rep E t y cs' ∧ Instr.fill place' cs.toArray (parts.map fun (i, x) => (i, a.eval x)) = some cs'.toArray
  | [], x, y, cs, _, h, r => by
    simp only [setParts, Option.some.injEq] at h; subst h
    exact ⟨cs, r, rfl⟩
  | (i, z) :: rest, x, y, cs, hx, h, r => by
    simp only [setParts] at h
    split at h
    · rename_i o n ty hpl
      split at h
      · rename_i tv htv
        split at h
        · rename_i hn
          split at h
          · rename_i x' hx'
            have hv := opdX_ok hf (hx (i, z) (by simp)) htv
            have hvc := hv.cells
            have hvl := rep_length _ _ _ hvc
            obtain ⟨pre, c0, post, rfl, hpre, hc0, hset⟩ := setAt_ok _ _ _ _ _ hx' r
            obtain ⟨cs', hr', hfill⟩ := setParts_ok hf hp rest x' y (pre ++ (a.eval z).cells.toList ++ post) (fun p hp' => hx p (by simp [hp'])) h (hset _ hvc)
            refine ⟨cs', hr', ?_⟩
            have hvs : (a.eval z).cells.size = n := by rw [← hn, ← hvl]; simp
            simp only [List.map_cons, Instr.fill, hp _ _ _ _ hpl]
            have hcond : ¬ ((a.eval z).cells.size ≠ n ∨ (o + (a.eval z).cells.size > (pre ++ c0 ++ post).toArray.size)) := by
              simp only [List.size_toArray, List.length_append]
              omega
            have hfold := seg_fold (pre := pre) (c0 := c0) (post := post) (l := (a.eval z).cells.toList) (by rw [hc0, hvl])
            rw [hpre] at hfold
            simp only [Array.toArray_toList] at hfold
            have hc2 : (decide ((a.eval z).cells.size ≠ n) || decide (o + (a.eval z).cells.size > (pre ++ c0 ++ post).toArray.size)) = false := by
              simp only [Bool.or_eq_false_iff, decide_eq_false_iff_not]
              exact ⟨fun h => hcond (.inl h), fun h => hcond (.inr h)⟩
            rw [if_neg (by rw [hc2]; simp)]
            rw [hfold]
            exact hfill
          · cases h
        · cases h
      · cases h
    · cases h
end
end Go.Proofs.YtadamegddcadcaaDoorPi

namespace Go.Proofs.YtadamegddcadcaaDoorPi
open Go
section
variable {R : Type} {P : Program}
theorem run_mapM_list {α β : Type} {w : World} {g : α → Sem β} {f : α → β} : ∀ (l : List α), (∀ x ∈ l, (g x).run P w = .ok (f x) w) → (l.mapM g).run P w = .ok (l.map f) w
  | [], _ => by simp
  | x :: l, h => by
    rw [List.mapM_cons, Sem.run_bind, h x (by simp), Result.andThen_ok, Sem.run_bind, run_mapM_list l (fun y hy => h y (by simp [hy]))]
    rfl
theorem run_mapM_arr {α β : Type} {w : World} {g : α → Sem β} {f : α → β} (l : Array α) (h : ∀ x ∈ l.toList, (g x).run P w = .ok (f x) w) : (l.mapM g).run P w = .ok (l.map f) w := by
  rw [Array.mapM_eq_mapM_toList, Sem.run_map, run_mapM_list l.toList h, Result.andThen_ok]
  congr 1
  apply Array.ext'
  simp

theorem run_zeroValue {w : World} {t : TypeId} {inf : TypeInfo} {z : Value} (hinf : P.info? t = some inf) (hz : inf.zero = some z) : (zeroValue t).run P w = .ok z w := by
  unfold zeroValue typeInfo
  simp [hinf, hz]

theorem buildK_ok {st : St} {ty : TypeId} {parts : Array (Nat × Operand)} {K : Slot → Option R} {r : R} (h : buildK P st ty parts.toList K = some r) :
    ∃ s, K s = some r ∧ ∀ (X : Nat → Prop) (E : Env) (a : Act) (w : World), FR X E st a.tmps w → (∀ p ∈ parts.toList, ∀ u, p.2 = .tmp u → X u) → ∃ v, (Instr.build ty (parts.map fun (i, x) => (i, a.eval x))).run P w = .ok v w ∧ SlotRep E s v := by
  unfold buildK at h
  split at h
  · rename_i t inf ht hinf
    split at h
    · rename_i z hz
      split at h
      · rename_i x0 hx0
        have r0 : ∀ E : Env, rep E t x0 z.cells.toList := fun E => by
          obtain ⟨c, e, q⟩ := ofCells_ok E _ _ _ _ hx0
          rw [List.append_nil] at e
          rw [e]; exact q
        split at h
        · rename_i fs hu
          split at h
          · rename_i hagg
            split at h
            · rename_i x hx
              refine ⟨_, h, fun X E a w hf hX => ?_⟩
              have hmap : (fs.mapM fun f => do pure (f.offset, ← sizeOf f.type) : Sem (Array (Nat × Nat))).run P w = .ok (fs.map fun f => (f.offset, P.cellsOf f.type)) w := by
                refine run_mapM_arr fs fun f hf' => ?_
                have := List.all_eq_true.1 hagg.2 f hf'
                obtain ⟨j, hj⟩ := Option.isSome_iff_exists.1 this
                rw [Sem.run_bind, run_sizeOf w hj]; rfl
              obtain ⟨cs', hr', hfill⟩ := setParts_ok (place' := fun i => (fs.map fun f => (f.offset, P.cellsOf f.type))[i]?) hf (fun i o n u hpl => by
                split at hpl
                · rename_i f hf'
                  split at hpl
                  · rename_i j hj
                    simp only [Option.some.injEq, Prod.mk.injEq] at hpl
                    obtain ⟨rfl, rfl, _⟩ := hpl
                    rw [Array.getElem?_map, hf']
                    simp [Program.cellsOf, hj]
                  · cases hpl
                · cases hpl) parts.toList x0 x _ hX hx (r0 E)
              refine ⟨.agg cs'.toArray, ?_, cs', hr', by unfold mkV; rw [if_pos hagg.1]⟩
              unfold Instr.build
              rw [Sem.run_bind, run_zeroValue hinf hz, Result.andThen_ok, Sem.run_bind, run_underlying hu, Result.andThen_ok]
              simp only
              rw [Sem.run_bind, hmap, Result.andThen_ok]
              rw [Array.toArray_toList] at hfill
              rw [Array.toList_map, hfill]
              rfl
            · cases h
          · cases h
        · rename_i len e hu
          split at h
          · rename_i hagg
            split at h
            · rename_i j hj
              split at h
              · rename_i x hx
                refine ⟨_, h, fun X E a w hf hX => ?_⟩
                obtain ⟨cs', hr', hfill⟩ := setParts_ok (place' := fun i => some (i * P.cellsOf e, P.cellsOf e)) hf (fun i o n u hpl => by
                  simp only [Option.some.injEq, Prod.mk.injEq] at hpl
                  obtain ⟨rfl, rfl, _⟩ := hpl
                  simp [Program.cellsOf, hj]) parts.toList x0 x _ hX hx (r0 E)
                refine ⟨.agg cs'.toArray, ?_, cs', hr', by unfold mkV; rw [if_pos hagg]⟩
                unfold Instr.build
                rw [Sem.run_bind, run_zeroValue hinf hz, Result.andThen_ok, Sem.run_bind, run_underlying hu, Result.andThen_ok]
                simp only
                rw [Sem.run_bind, run_sizeOf w hj, Result.andThen_ok]
                rw [Array.toArray_toList] at hfill
                rw [Array.toList_map, hfill]
                rfl
              · cases h
            · cases h
          · cases h
        · cases h
      · cases h
    · cases h
  · cases h

theorem buildSliceK_ok {st : St} {ty : TypeId} {len : Nat} {parts : Array (Nat × Operand)} {K : Slot → Option R} {r : R} (h : buildSliceK P st ty len parts.toList K = some r) :
    ∃ s, K s = some r ∧ ∀ (C : Ctx) (X : Nat → Prop) (E : Env) (a : Act) (w : World), FR X E st a.tmps w → (∀ p ∈ parts.toList, ∀ u, p.2 = .tmp u → X u) →
      ∃ v m' w', (Instr.buildSlice ty len (parts.map fun (i, x) => (i, a.eval x))).run P w = .ok v w' ∧ Chg C E.m w m' w' ∧ Inv m' w' ∧ SlotRep { E with m := m' } s v := by
  unfold buildSliceK at h
  split at h
  · rename_i e hu
    split at h
    · rename_i t inf ht hinf
      split at h
      · rename_i hs
        split at h
        · rename_i z hz
          split at h
          · rename_i x0 hx0
            split at h
            · rename_i x hx
              refine ⟨_, h, fun C X E a w hf hX => ?_⟩
              have r0 : rep E (many len t) x0 (if len * inf.size = 0 then [] else ((Array.range (len * inf.size)).map (z.cells[· % z.cells.size]!)).toList) := by
                obtain ⟨c, e', q⟩ := ofCells_ok E _ _ _ _ hx0
                rw [List.append_nil] at e'
                rw [e']; exact q
              have hsz : P.cellsOf e = inf.size := by simp [Program.cellsOf, hinf]
              obtain ⟨cs', hr', hfill⟩ := setParts_ok (place' := fun i => some (i * inf.size, inf.size)) hf (fun i o n u hpl => by
                simp only [Option.some.injEq, Prod.mk.injEq] at hpl
                obtain ⟨rfl, rfl, _⟩ := hpl
                rfl) parts.toList x0 x _ hX hx r0
              obtain ⟨hcl, hcn⟩ := chain_ok len x cs' hr'
              have hcc : ∀ j v, cs'[j]? = some v → ({ w with heap := w.heap.push (.cells cs'.toArray e) } : World).cell? ⟨w.heap.size, j, none⟩ = some v := fun j v hj => by
                simp [World.cell?, hj]
              obtain ⟨hc, hi⟩ := commit_ok (C := C) (w' := { w with heap := w.heap.push (.cells cs'.toArray e) }) hf.inv hcc (by simp) (fun b hb => by
                show (w.heap.push _)[b]? = _
                rw [Array.getElem?_push, if_neg (by omega)]) rfl rfl rfl (Nat.le_refl _)
              refine ⟨.slice (some ⟨w.heap.size, 0, none⟩) len len, _, _, ?_, hc, hi, [_], ⟨some ⟨w.heap.size, 0, none⟩, len, ?_, ?_, ?_⟩, rfl⟩
              · unfold Instr.buildSlice
                simp only [Sem.run_bind, run_underlying hu, Result.andThen_ok, run_sizeOf' hinf]
                rw [if_neg hs.2]
                by_cases h0 : len * inf.size = 0
                · rw [if_pos h0] at hfill ⊢
                  have hinit : (Array.range (len * inf.size)).map ((#[] : Array Value)[· % (#[] : Array Value).size]!) = ([] : List Value).toArray := by
                    rw [h0]; simp
                  simp only [Sem.run_bind, Sem.run_pure, Result.andThen_ok]
                  rw [hinit, Array.toList_map, hfill]
                  simp only [newRow, Sem.run_bind, run_newObj, Sem.run_pure, Result.andThen_ok]
                · rw [if_neg h0] at hfill ⊢
                  rw [Array.toArray_toList] at hfill
                  simp only [Sem.run_bind, run_zeroValue hinf hz, Sem.run_pure, Result.andThen_ok]
                  rw [Array.toList_map, hfill]
                  simp only [newRow, Sem.run_bind, run_newObj, Sem.run_pure, Result.andThen_ok]
              · rw [hcl]
              · rw [hcl]; exact Nat.le_refl _
              · intro i y hy
                obtain ⟨pre, c, post, rfl, hp, hrc⟩ := hcn i y hy
                refine ⟨⟨w.heap.size, 0, none⟩, c, rfl, rfl, rep_mono (Env.le_m (hc.sub hf.inv)) _ _ _ hrc, rfl, fun j v hj => ?_⟩
                show commit E.m w.heap.size _ w.heap.size (0 + i * t.size + j) = some v
                unfold commit
                rw [if_pos rfl, ← hp, List.append_assoc, List.getElem?_append_right (by omega), show 0 + pre.length + j - pre.length = j by omega, List.getElem?_append_left (List.getElem?_eq_some_iff.1 hj).1]
                exact hj
            · cases h
          · cases h
        · cases h
      · cases h
    · cases h
  · cases h

/-! calls -/
/-- What a function's evaluator gives is what the function does. -/
structure Sound (P : Program) (C : Ctx) (f : FuncId) (s : Sp) : Prop where
  enter : ∀ (args : Array Value) (w : World), (callFunc f args).run P w = .ok (.enter f args) w
  calls : ∀ (n : Nat) (x : s.ps.den) (r : s.rs.den), s.F n x = some r → ∀ (m : Mem) (β : Nat → Option Nat) (τ : Nat → Option Value) (w : World) (vs : List Value), Inv m w → C.Γ m → vals ⟨m, β, τ⟩ s.ps x vs →
    Calls P f vs.toArray w fun e w' => ∃ v m', e = .returned v ∧ Chg C m w m' w' ∧ Inv m' w' ∧ SlotRep ⟨m', β, τ⟩ (retSlot s.rs r) v

theorem argsT_ok {st : St} {X : Nat → Prop} {E : Env} {a : Act} {w : World} (hf : FR X E st a.tmps w) : ∀ (t : Ty) (xs : List Operand) (y : t.den), (∀ x ∈ xs, ∀ u, x = .tmp u → X u) → argsT st t xs = some y → vals E t y (xs.map a.eval)
  | .unit, [], _, _, _ => rfl
  | .pair t u, x :: xs, y, hX, h => by
    simp only [argsT] at h
    split at h
    · rename_i y1 y2 h1 h2
      obtain rfl := Option.some.inj h
      exact ⟨_, _, rfl, opdT_ok hf (hX x (by simp)) h1, argsT_ok hf u xs y2 (fun z hz => hX z (by simp [hz])) h2⟩
    · cases h
  | .unit, _ :: _, _, _, h | .pair _ _, [], _, _, h | .bool, _, _, _, h | .int _, _, _, _, h | .str, _, _, _, h | .list _, _, _, _, h | .own _ _, _, _, _, h | .ref _, _, _, _, h | .ptr _ _ _, _, _, _, h | .fn _ _ _, _, _, _, h => by simp [argsT] at h

theorem callK_ok {C : Ctx} {sp : Specs} (hsp : ∀ g s, sp g = some s → Sound P C g s) {n : Nat} {st : St} {o : Oper} {c : Call} {K : Slot → Option R} {r : R} (ho : o.op = .call c) (h : callK P sp n st c K = some r) :
    ∃ s, K s = some r ∧ OpOK P C o st s := by
  have hX : ∀ {x : Operand}, x ∈ c.operands → ∀ u, x = .tmp u → u ∈ reads o := fun {x} hx u e => by
    subst e
    refine List.mem_filterMap.2 ⟨.tmp u, ?_, rfl⟩
    rw [ho]; simpa [Op.operands] using hx
  unfold callK at h
  split at h
  · rename_i hb
    split at h
    · rename_i x ty hargs hty
      have hx : x ∈ c.operands := by simp [Call.operands, hb, ← Array.mem_toList_iff, hargs]
      have ha : ∀ a : Act, c.args.map a.eval = #[a.eval x] := fun a => by
        apply Array.ext'; simp [hargs]
      have hty' : c.argTypes = #[ty] := by apply Array.ext'; simp [hty]
      split at h
      · rename_i s hu hs
        refine ⟨_, h, .of_pure fun E a w hf => ⟨.int .i64 s.size, ?_, mkInt _ _ _⟩⟩
        have hv := vrep_str (opd_ok hf (hX hx) hs)
        unfold execOp
        simp only [ho, resolve, hb, ha, hv, hty', Sem.run_bind, Sem.run_pure, Result.andThen_ok, invoke, builtin, Builtin.len_]
        simp [run_underlying hu, goInt]
      · rename_i e t xs hu hs
        refine ⟨_, h, .of_pure fun E a w hf => ⟨.int .i64 (xs.length : Int), ?_, mkInt _ _ _⟩⟩
        obtain ⟨A, cap, hv, _⟩ := vrep_list (opd_ok hf (hX hx) hs)
        unfold execOp
        simp only [ho, resolve, hb, ha, hv, hty', Sem.run_bind, Sem.run_pure, Result.andThen_ok, invoke, builtin, Builtin.len_]
        simp [run_underlying hu, goInt]
      · cases h
    · cases h
  · rename_i f hv
    split at h
    · rename_i g u hg
      split at h
      · rename_i s hs
        split at h
        · rename_i y hy
          obtain ⟨z, hz, hk⟩ := bind_some h
          refine ⟨_, hk, ?_⟩
          intro E a w Kc Q hf hG hkc
          have hso := hsp g s hs
          obtain ⟨bs, hbs, hfv⟩ := vrep_fn (opd_ok hf (hX (by simp [Call.operands, hv])) hg)
          obtain rfl : bs = [] := hbs
          have hvals := argsT_ok hf s.ps c.args.toList y (fun x hx u e => hX (by simp [Call.operands, Array.mem_toList_iff.1 hx]) u e) hy
          unfold Oper.wp
          have hex : (execOp a.eval o).run P w = .ok (.enter g (c.args.toList.map a.eval).toArray) w := by
            unfold execOp
            simp only [ho, resolve, hv, hfv, Deferred.ofValue, Sem.run_bind, Sem.run_pure, Result.andThen_ok, invoke]
            have : (([] : List Value).take 0).toArray ++ c.args.map a.eval ++ (([] : List Value).drop 0).toArray = (c.args.toList.map a.eval).toArray := by
              apply Array.ext'; simp
            rw [this]
            exact hso.enter _ _
          rw [hex]
          refine (hso.calls n y z hz E.m E.β E.τ w _ hf.inv hG hvals).mono ?_
          rintro e w' ⟨v, m', rfl, hc, hi, hr⟩
          exact hkc v m' w' hc hi hr
        · cases h
      · cases h
    · cases h
  · cases h
end
end Go.Proofs.YtadamegddcadcaaDoorPi

namespace Go.Proofs.YtadamegddcadcaaDoorPi
open Go
section
variable {P : Program} {w : World} {E : Env}

theorem eqFields_ok {D : Nat} {chk : TypeId → Ty → Bool} (hc : ∀ (t : TypeId) (T : Ty) (x y : T.den) (vx vy : Value), chk t T = true → VRep E T x vx → VRep E T y vy → (Op.equalIn D t vx vy).run P w = .ok (eqD T x y) w) :
    ∀ (fs : List Field) (T : Ty) (x y : T.den) (off : Nat) (p1 c1 p2 c2 : List Value), chkF P chk fs T off = true → rep E T x c1 → rep E T y c2 → p1.length = off → p2.length = off →
      (Op.eqFields D (p1 ++ c1).toArray (p2 ++ c2).toArray fs).run P w = .ok (eqD T x y) w
  | [], .unit, _, _, _, _, _, _, _, _, _, _, _, _ => by simp [Op.eqFields, eqD]
  | f :: fs, .pair a b, x, y, off, p1, _, p2, _, h, ⟨ca, cb, rfl, ra, rb⟩, ⟨da, db, rfl, sa, sb⟩, h1, h2 => by
    simp only [chkF, Bool.and_eq_true] at h
    obtain ⟨⟨⟨⟨hn, ho⟩, hi⟩, hk⟩, hr⟩ := h
    have hn' : f.name ≠ "_" := by simpa using hn
    have ho' : f.offset = off := by simpa using ho
    split at hi
    · rename_i i d hinf hd
      rw [Bool.and_eq_true] at hi
      have hs : a.size = i.size := (show i.size = a.size by simpa using hi.1).symm
      have hg : aggD d = a.isAgg := by simpa using hi.2
      have q1 : (part f.type (p1 ++ (ca ++ cb)).toArray f.offset).run P w = .ok (mkV a ca) w := by
        rw [← List.append_assoc, ho', ← h1]; exact run_part hinf hd hs hg ra
      have q2 : (part f.type (p2 ++ (da ++ db)).toArray f.offset).run P w = .ok (mkV a da) w := by
        rw [← List.append_assoc, ho', ← h2]; exact run_part hinf hd hs hg sa
      have q3 := hc f.type a x.1 y.1 _ _ hk ⟨ca, ra, rfl⟩ ⟨da, sa, rfl⟩
      have ih := eqFields_ok hc fs b x.2 y.2 (off + a.size) (p1 ++ ca) cb (p2 ++ da) db hr rb sb (by rw [List.length_append, h1, rep_length _ _ _ ra]) (by rw [List.length_append, h2, rep_length _ _ _ sa])
      rw [List.append_assoc, List.append_assoc] at ih
      simp only [Op.eqFields, hn', ne_eq, not_false_eq_true, if_true, Sem.run_bind, q1, q2, q3, Result.andThen_ok]
      show _ = Result.ok (eqD a x.1 y.1 && eqD b x.2 y.2) w
      cases eqD a x.1 y.1
      · simp
      · simpa using ih
    · cases hi
  | [], .bool, _, _, _, _, _, _, _, h, _, _, _, _ | [], .int _, _, _, _, _, _, _, _, h, _, _, _, _ | [], .str, _, _, _, _, _, _, _, h, _, _, _, _ | [], .pair _ _, _, _, _, _, _, _, _, h, _, _, _, _ | [], .list _, _, _, _, _, _, _, _, h, _, _, _, _ | [], .own _ _, _, _, _, _, _, _, _, h, _, _, _, _ | [], .ref _, _, _, _, _, _, _, _, h, _, _, _, _ | [], .ptr _ _ _, _, _, _, _, _, _, _, h, _, _, _, _ | [], .fn _ _ _, _, _, _, _, _, _, _, h, _, _, _, _ => by simp [chkF] at h
  | _ :: _, .unit, _, _, _, _, _, _, _, h, _, _, _, _ | _ :: _, .bool, _, _, _, _, _, _, _, h, _, _, _, _ | _ :: _, .int _, _, _, _, _, _, _, _, h, _, _, _, _ | _ :: _, .str, _, _, _, _, _, _, _, h, _, _, _, _ | _ :: _, .list _, _, _, _, _, _, _, _, h, _, _, _, _ | _ :: _, .own _ _, _, _, _, _, _, _, _, h, _, _, _, _ | _ :: _, .ref _, _, _, _, _, _, _, _, h, _, _, _, _ | _ :: _, .ptr _ _ _, _, _, _, _, _, _, _, h, _, _, _, _ | _ :: _, .fn _ _ _, _, _, _, _, _, _, _, h, _, _, _, _ => by simp [chkF] at h

theorem equal_ok : ∀ (d D : Nat) (t : TypeId) (T : Ty) (x y : T.den) (vx vy : Value), d ≤ D → checkEq P d t T = true → VRep E T x vx → VRep E T y vy → (Op.equalIn D t vx vy).run P w = .ok (eqD T x y) w
  | 0, _, _, _, _, _, _, _, _, h, _, _ => by simp [checkEq] at h
  | d + 1, 0, _, _, _, _, _, _, hle, _, _, _ => by omega
  | d + 1, D + 1, t, T, x, y, vx, vy, hle, h, hx, hy => by
    cases T with
    | bool =>
      rw [vrep_bool hx, vrep_bool hy]
      simp only [checkEq] at h
      split at h
      · rename_i hu
        simp only [Op.equalIn, Sem.run_bind, run_underlying hu, Result.andThen_ok]; rfl
      · cases h
    | int k =>
      rw [vrep_int hx, vrep_int hy]
      simp only [checkEq] at h
      split at h
      · rename_i hu
        simp only [Op.equalIn, Sem.run_bind, run_underlying hu, Result.andThen_ok, if_true]; rfl
      · cases h
    | str =>
      rw [vrep_str hx, vrep_str hy]
      simp only [checkEq] at h
      split at h
      · rename_i hu
        simp only [Op.equalIn, Sem.run_bind, run_underlying hu, Result.andThen_ok]; rfl
      · cases h
    | pair a b =>
      obtain ⟨c1, r1, rfl⟩ := vrep_agg hx rfl
      obtain ⟨c2, r2, rfl⟩ := vrep_agg hy rfl
      simp only [checkEq] at h
      split at h
      · rename_i fs hu
        rw [Bool.and_eq_true] at h
        have hf : P.fieldsOf t = fs := by unfold Program.fieldsOf; rw [hu]
        rw [run_equalIn_struct w D t c1.toArray c2.toArray (by rw [hf]; exact hu) (by simpa using h.1), hf]
        have := eqFields_ok (E := E) (w := w) (D := D) (chk := checkEq P d) (fun t T x y vx vy hk h1 h2 => equal_ok d D t T x y vx vy (by omega) hk h1 h2) fs.toList (.pair a b) x y 0 [] c1 [] c2 h.2 r1 r2 rfl rfl
        simpa using this
      · cases h
    | _ => simp [checkEq] at h

theorem eqAgg_ok {R : Type} {op : BinOp} {ty : TypeId} {a b : TV} {K : Slot → Option R} {r : R} (h : eqAgg P op ty a b K = some r) :
    ∃ s, K s = some r ∧ ∀ (E : Env) (w : World) (x y : Operand) (va vb : Value), VRep E a.t a.x va → VRep E b.t b.x vb →
      ∃ v, ((do eqGuard op ty x y va vb; binOp op ty va vb) : Sem Value).run P w = .ok v w ∧ SlotRep E s v := by
  unfold eqAgg at h
  split at h
  · rename_i y hy
    split at h
    · rename_i hc
      have main : ∀ (E : Env) (w : World) (va vb : Value), VRep E a.t a.x va → VRep E b.t b.x vb → ∃ c1 c2, va = .agg c1 ∧ vb = .agg c2 ∧ (Op.equal ty va vb).run P w = .ok (eqD a.t a.x y) w := fun E w va vb ha hb => by
        have hb' := castTV_ok hy hb
        obtain ⟨c1, _, e1⟩ := vrep_agg ha hc.1
        obtain ⟨c2, _, e2⟩ := vrep_agg hb' hc.1
        refine ⟨_, _, e1, e2, ?_⟩
        exact equal_ok 30 Op.maxDepth ty a.t a.x y va vb (by unfold Op.maxDepth; omega) hc.2.1 ha hb'
      have guard : ∀ (op : BinOp) (x y : Operand) (c1 c2 : Array Value) (w : World), (eqGuard op ty x y (.agg c1) (.agg c2)).run P w = .ok () w := fun op x y c1 c2 w => by
        unfold eqGuard
        cases op <;> first | rfl | (simp only [Bool.not_true, Bool.false_eq_true, if_false, Sem.run_bind, run_program, Result.andThen_ok, hc.2.2, Bool.not_false, if_true]; rfl)
      split at h
      · refine ⟨_, h, fun E w p q va vb ha hb => ⟨.bool (eqD a.t a.x y), ?_, mkBool _ _⟩⟩
        obtain ⟨c1, c2, rfl, rfl, hm⟩ := main E w va vb ha hb
        rw [Sem.run_bind, guard, Result.andThen_ok]
        unfold binOp
        simp only [Sem.run_bind, hm, Result.andThen_ok, Sem.run_pure]
      · refine ⟨_, h, fun E w p q va vb ha hb => ⟨.bool (!(eqD a.t a.x y)), ?_, mkBool _ _⟩⟩
        obtain ⟨c1, c2, rfl, rfl, hm⟩ := main E w va vb ha hb
        rw [Sem.run_bind, guard, Result.andThen_ok]
        unfold binOp
        simp only [Sem.run_bind, hm, Result.andThen_ok, Sem.run_pure]
      · cases h
    · cases h
  · cases h
end
end Go.Proofs.YtadamegddcadcaaDoorPi

namespace Go.Proofs.YtadamegddcadcaaDoorPi
open Go
section
variable {R : Type} {P : Program}

theorem tupAt_ok {E : Env} : ∀ (t : Ty) (x : t.den) (i : Nat) (tv : TV) (vs : List Value), tupAt t x i = some tv → vals E t x vs → ∃ v, vs[i]? = some v ∧ VRep E tv.t tv.x v
  | .pair a b, x, 0, tv, vs, h, hv => by
    obtain ⟨v, vs', rfl, h1, h2⟩ := hv
    obtain rfl := Option.some.inj h
    exact ⟨v, rfl, h1⟩
  | .pair a b, x, i + 1, tv, vs, h, hv => by
    obtain ⟨v, vs', rfl, h1, h2⟩ := hv
    obtain ⟨v', e, r⟩ := tupAt_ok b x.2 i tv vs' h h2
    exact ⟨v', by simpa using e, r⟩
  | .unit, _, _, _, _, h, _ | .bool, _, _, _, _, h, _ | .int _, _, _, _, _, h, _ | .str, _, _, _, _, h, _ | .list _, _, _, _, _, h, _ | .own _ _, _, _, _, _, h, _ | .ref _, _, _, _, _, h, _ | .ptr _ _ _, _, _, _, _, h, _ | .fn _ _ _, _, _, _, _, h, _ => by simp [tupAt] at h

theorem reads_mem {o : Oper} {x : Operand} (hx : x ∈ o.op.operands) : ∀ u, x = .tmp u → u ∈ reads o := fun u e => by
  subst e
  exact List.mem_filterMap.2 ⟨.tmp u, by simpa using hx, rfl⟩

theorem bd_ok {a : Act} {v : Option Int} {o : Option Operand} (h : (o = none ∧ v = none) ∨ ∃ x k n, o = some x ∧ v = some n ∧ a.eval x = .int k n) : Bd v (o.map a.eval) := by
  rcases h with ⟨rfl, rfl⟩ | ⟨x, k, n, rfl, rfl, e⟩
  · exact .inl ⟨rfl, rfl⟩
  · exact .inr ⟨k, n, rfl, by rw [Option.map_some, e]⟩

theorem pureK_ok {C : Ctx} {sp : Specs} (hsp : ∀ g s, sp g = some s → Sound P C g s) {n : Nat} {st : St} {o : Oper} {K : Slot → Option R} {r : R} (h : pureK P sp n st o K = some r) :
    ∃ s, K s = some r ∧ OpOK P C o st s := by
  have hR : ∀ {x : Operand}, x ∈ o.op.operands → ∀ u, x = .tmp u → u ∈ reads o := fun hx => reads_mem hx
  have mv : ∀ x, o.op = .move x ∨ o.op = .assign x → (match slotOf st x with
    | some s => K s
    | none => match opdX P o.type st x with
      | some tv => K (.v tv)
      | none => none) = some r → ∃ s, K s = some r ∧ OpOK P C o st s := by
    intro x hx h
    have hop : ∀ a : Act, execOp a.eval o = pure (.value (a.eval x)) := fun a => by
      unfold execOp
      rcases hx with hx | hx <;> simp only [hx]
    have hm : x ∈ o.op.operands := by rcases hx with hx | hx <;> simp [hx, Op.operands]
    split at h
    · rename_i s hs
      exact ⟨s, h, .of_pure fun E a w hf => ⟨a.eval x, by rw [hop]; rfl, slotOf_ok hf (hR hm) hs⟩⟩
    · split at h
      · rename_i tv htv
        exact ⟨_, h, .of_pure fun E a w hf => ⟨a.eval x, by rw [hop]; rfl, opdX_ok hf (hR hm) htv⟩⟩
      · cases h
  unfold pureK at h
  split at h
  · rename_i x hx; exact mv x (.inl hx) h
  · rename_i x hx; exact mv x (.inr hx) h
  · rename_i c y z ho
    split at h
    · rename_i b s s' hc hs hs'
      have h1 : ∀ a : Act, a.eval c = .bool b → ∀ w, (execOp a.eval o).run P w = .ok (.value (if b then a.eval y else a.eval z)) w := fun a e w => by
        unfold execOp
        simp only [ho, e, asBool, Sem.run_bind, Sem.run_pure, Result.andThen_ok]
      rcases bif_some h with ⟨hb, h⟩ | ⟨hb, h⟩
      · refine ⟨s, h, .of_pure fun E a w hf => ⟨a.eval y, ?_, slotOf_ok hf (hR (by simp [ho, Op.operands])) hs⟩⟩
        rw [h1 a (vrep_bool (opd_ok hf (hR (by simp [ho, Op.operands])) hc)) w, hb]; rfl
      · refine ⟨s', h, .of_pure fun E a w hf => ⟨a.eval z, ?_, slotOf_ok hf (hR (by simp [ho, Op.operands])) hs'⟩⟩
        rw [h1 a (vrep_bool (opd_ok hf (hR (by simp [ho, Op.operands])) hc)) w, hb]; rfl
    · cases h
  · rename_i op ty x y yt ho
    split at h
    · rename_i va vb ha hb
      split at h
      · obtain ⟨s, hs, hv⟩ := eqAgg_ok h
        refine ⟨s, hs, .of_pure fun E a w hf => ?_⟩
        obtain ⟨v, hrun, hr⟩ := hv E w x y _ _ (opd_ok hf (hR (by simp [ho, Op.operands])) ha) (opd_ok hf (hR (by simp [ho, Op.operands])) hb)
        refine ⟨v, ?_, hr⟩
        unfold execOp
        simp only [ho]
        rw [Sem.run_bind, hrun]; rfl
      · obtain ⟨s, hs, hv⟩ := binK_ok h
        refine ⟨s, hs, .of_pure fun E a w hf => ?_⟩
        obtain ⟨v, hrun, hr⟩ := hv P E w ty x y _ _ (opd_ok hf (hR (by simp [ho, Op.operands])) ha) (opd_ok hf (hR (by simp [ho, Op.operands])) hb)
        refine ⟨v, ?_, hr⟩
        unfold execOp
        simp only [ho]
        rw [Sem.run_bind, hrun]; rfl
    · split at h
      · rename_i va vb ha hb
        obtain ⟨s, hs, hv⟩ := eqAgg_ok h
        refine ⟨s, hs, .of_pure fun E a w hf => ?_⟩
        obtain ⟨v, hrun, hr⟩ := hv E w x y _ _ (opdX_ok hf (hR (by simp [ho, Op.operands])) ha) (opdX_ok hf (hR (by simp [ho, Op.operands])) hb)
        refine ⟨v, ?_, hr⟩
        unfold execOp
        simp only [ho]
        rw [Sem.run_bind, hrun]; rfl
      · cases h
  · rename_i op ty x ho
    split at h
    · rename_i va ha
      obtain ⟨s, hs, hv⟩ := unK_ok h
      refine ⟨s, hs, .of_pure fun E a w hf => ?_⟩
      obtain ⟨v, hrun, hr⟩ := hv P E w _ (opd_ok hf (hR (by simp [ho, Op.operands])) ha)
      refine ⟨v, ?_, hr⟩
      unfold execOp
      simp only [ho]
      rw [Sem.run_bind, hrun]; rfl
    · cases h
  · rename_i src dst x ho
    split at h
    · rename_i va ha
      obtain ⟨s, hs, hv⟩ := convK_ok h
      refine ⟨s, hs, .of_val fun E a w hf => ?_⟩
      obtain ⟨v, m', w', hrun, hc, hi, hr⟩ := hv C E w _ hf.inv (opd_ok hf (hR (by simp [ho, Op.operands])) ha)
      refine ⟨v, m', w', ?_, hc, hi, hr⟩
      unfold execOp
      simp only [ho]
      rw [Sem.run_bind, hrun]; rfl
    · cases h
  · rename_i ty x lo hi ho
    split at h
    · rename_i va l q ha hl hq
      obtain ⟨s, hs, hv⟩ := sliceK_ok h
      refine ⟨s, hs, .of_pure fun E a w hf => ?_⟩
      obtain ⟨v, hrun, hr⟩ := hv E w _ (lo.map a.eval) (hi.map a.eval) (opd_ok hf (hR (by simp [ho, Op.operands])) ha)
        (bd_ok (intOpt_ok hf (fun z hz => hR (by simp [ho, Op.operands, hz])) hl)) (bd_ok (intOpt_ok hf (fun z hz => hR (by simp [ho, Op.operands, hz])) hq))
      refine ⟨v, ?_, hr⟩
      unfold execOp
      simp only [ho]
      rw [Sem.run_bind]
      show Result.andThen ((Instr.sliceAt ty (a.eval x) (lo.map a.eval) (hi.map a.eval) none).run P w) _ = _
      rw [hrun]; rfl
    · cases h
  · rename_i ty x ho
    split at h
    · rename_i va ha
      obtain ⟨s, hs, hv⟩ := loadK_ok h
      refine ⟨s, hs, .of_pure fun E a w hf => ?_⟩
      obtain ⟨v, hrun, hr⟩ := hv _ E _ w _ hf (opd_ok hf (hR (by simp [ho, Op.operands])) ha)
      refine ⟨v, ?_, hr⟩
      unfold execOp
      simp only [ho]
      rw [Sem.run_bind, hrun]; rfl
    · cases h
  · rename_i ty x f ho
    split at h
    · rename_i va ha
      obtain ⟨s, hs, hv⟩ := fieldAddrK_ok h
      refine ⟨s, hs, .of_pure fun E a w hf => ?_⟩
      obtain ⟨v, hrun, hr⟩ := hv E w _ (opd_ok hf (hR (by simp [ho, Op.operands])) ha)
      refine ⟨v, ?_, hr⟩
      unfold execOp
      simp only [ho]
      rw [Sem.run_bind, hrun]; rfl
    · cases h
  · rename_i ty x f ho
    split at h
    · rename_i va ha
      obtain ⟨s, hs, hv⟩ := fieldK_ok h
      refine ⟨s, hs, .of_pure fun E a w hf => ?_⟩
      obtain ⟨v, hrun, hr⟩ := hv E w _ (opd_ok hf (hR (by simp [ho, Op.operands])) ha)
      refine ⟨v, ?_, hr⟩
      unfold execOp
      simp only [ho]
      rw [Sem.run_bind, hrun]; rfl
    · cases h
  · rename_i ty x i ho
    split at h
    · rename_i va vb ha hb
      obtain ⟨s, hs, hv⟩ := indexK_ok h
      refine ⟨s, hs, .of_pure fun E a w hf => ?_⟩
      obtain ⟨v, hrun, hr⟩ := hv E w _ _ (opd_ok hf (hR (by simp [ho, Op.operands])) ha) (opd_ok hf (hR (by simp [ho, Op.operands])) hb)
      refine ⟨v, ?_, hr⟩
      unfold execOp
      simp only [ho]
      rw [Sem.run_bind, hrun]; rfl
    · cases h
  · rename_i ty x i ho
    split at h
    · rename_i va vb ha hb
      obtain ⟨s, hs, hv⟩ := indexAddrK_ok h
      refine ⟨s, hs, .of_pure fun E a w hf => ?_⟩
      obtain ⟨v, hrun, hr⟩ := hv E w _ _ (opd_ok hf (hR (by simp [ho, Op.operands])) ha) (opd_ok hf (hR (by simp [ho, Op.operands])) hb)
      refine ⟨v, ?_, hr⟩
      unfold execOp
      simp only [ho]
      rw [Sem.run_bind, hrun]; rfl
    · cases h
  · rename_i x i ho
    split at h
    · rename_i t y hy
      split at h
      · rename_i tv htv
        refine ⟨_, h, .of_pure fun E a w hf => ?_⟩
        obtain ⟨vs, hvs, hev⟩ := slotOf_ok hf (hR (by simp [ho, Op.operands])) hy
        obtain ⟨v, hv, hr⟩ := tupAt_ok _ _ _ _ _ htv hvs
        refine ⟨v, ?_, hr⟩
        unfold execOp
        simp only [ho, hev]
        rw [Sem.run_bind]
        have : (Instr.extract (.tuple vs.toArray) i).run P w = .ok v w := by
          unfold Instr.extract
          simp [hv]
        rw [this]; rfl
      · cases h
    · cases h
  · rename_i ty parts ho
    obtain ⟨s, hs, hv⟩ := buildK_ok h
    refine ⟨s, hs, .of_pure fun E a w hf => ?_⟩
    obtain ⟨v, hrun, hr⟩ := hv _ E a w hf (fun p hp u e => hR (by simp only [ho, Op.operands]; exact List.mem_toArray.2 (List.mem_map.2 ⟨p, hp, rfl⟩)) u e)
    refine ⟨v, ?_, hr⟩
    unfold execOp
    simp only [ho]
    rw [Sem.run_bind, hrun]; rfl
  · rename_i ty len parts ho
    obtain ⟨s, hs, hv⟩ := buildSliceK_ok h
    refine ⟨s, hs, .of_val fun E a w hf => ?_⟩
    obtain ⟨v, m', w', hrun, hc, hi, hr⟩ := hv C _ E a w hf (fun p hp u e => hR (by simp only [ho, Op.operands]; exact List.mem_toArray.2 (List.mem_map.2 ⟨p, hp, rfl⟩)) u e)
    refine ⟨v, m', w', ?_, hc, hi, hr⟩
    unfold execOp
    simp only [ho]
    rw [Sem.run_bind, hrun]; rfl
  · rename_i x ho
    split at h
    · rename_i i q t y ha
      refine ⟨_, h, .of_pure fun E a w hf => ?_⟩
      have hv := opd_ok hf (hR (by simp [ho, Op.operands])) ha
      obtain ⟨b, hb, e⟩ := vrep_ptr hv
      refine ⟨a.eval x, ?_, hv⟩
      unfold execOp
      simp only [ho, e]; rfl
    · rename_i t y ha
      refine ⟨_, h, .of_pure fun E a w hf => ?_⟩
      have hv := opd_ok hf (hR (by simp [ho, Op.operands])) ha
      obtain ⟨b, c, e, _⟩ := vrep_ref hv
      refine ⟨a.eval x, ?_, hv⟩
      unfold execOp
      simp only [ho, e]; rfl
    · cases h
  · rename_i c ho
    exact callK_ok hsp ho h
  · cases h
end
end Go.Proofs.YtadamegddcadcaaDoorPi

namespace Go.Proofs.YtadamegddcadcaaDoorPi
open Go

/-- A frame's state, seen from its begin (m0, w0). -/
structure GR (C : Ctx) (m0 : Mem) (w0 : World) (E : Env) (st : St) (tmps : Array Value) (w : World) : Prop where
  fr : FR (fun _ => True) E st tmps w
  chg : Chg C m0 w0 E.m w
  own : ∀ i b, E.β i = some b → w0.heap.size ≤ b
  lt : ∀ i b, E.β i = some b → b < w.heap.size
  top : ∀ i, st.b.length ≤ i → E.β i = none
  gl : C.Γ E.m

section
variable {P : Program} {C : Ctx} {m0 : Mem} {w0 : World} {E : Env} {st : St} {a : Act} {w : World}

theorem FR.put {X : Nat → Prop} {tmps : Array Value} (h : FR X E st tmps w) (d : Option Tmp) {s : Slot} {v : Value} (hs : SlotRep E s v) (a : Act) (ha : a.tmps = tmps) : FR X E (st.put d s) (a.put d v).tmps w := by
  subst ha
  cases d with
  | none => exact h
  | some d =>
    refine ⟨?_, ?_, h.boxes, h.inj, h.inv⟩
    · show (st.t.set d s).length = (a.tmps.setIfInBounds d v).size
      rw [List.length_set, Array.size_setIfInBounds, h.len]
    · intro i q hi hq
      have hq' : (st.t.set d s)[i]? = some q := hq
      show SlotRep E q ((a.tmps.setIfInBounds d v).getD i undef)
      rw [List.getElem?_set] at hq'
      by_cases hd : d = i
      · subst hd
        rw [if_pos rfl] at hq'
        split at hq'
        · rename_i hlt
          obtain rfl := Option.some.inj hq'
          have : d < a.tmps.size := by rw [← h.len]; exact hlt
          simp [this]; exact hs
        · cases hq'
      · rw [if_neg hd] at hq'
        have := h.slots i q hi hq'
        rw [Array.getD_eq_getD_getElem?] at this ⊢
        rw [Array.getElem?_setIfInBounds_ne hd]
        exact this

theorem GR.of_chg {v : Value} {s : Slot} {m' : Mem} {w' : World} (h : GR C m0 w0 E st a.tmps w) (hc : Chg C E.m w m' w') (hi : Inv m' w') (hs : SlotRep { E with m := m' } s v) (d : Option Tmp) :
    GR C m0 w0 { E with m := m' } (st.put d s) (a.put d v).tmps w' :=
  ⟨(h.fr.chg hc hi).put d hs a rfl, h.chg.trans hc, h.own, fun i b hb => Nat.lt_of_lt_of_le (h.lt i b hb) hc.size, fun i hi' => h.top i (by cases d <;> exact hi'), C.mono (hc.sub h.fr.inv) h.gl⟩

def StepOK (P : Program) (C : Ctx) (o : Oper) (st st' : St) : Prop :=
  ∀ (m0 : Mem) (w0 : World) (E : Env) (a : Act) (w : World) (Kc : Act → World → Prop) (Q : Exit → Act → World → Prop), GR C m0 w0 E st a.tmps w →
    (∀ v E' w', GR C m0 w0 E' st' (a.put o.dst v).tmps w' → Kc (a.put o.dst v) w') → o.wp P a w Kc Q

theorem OpOK.step {o : Oper} {s : Slot} (h : OpOK P C o st s) : StepOK P C o st (st.put o.dst s) := fun _ _ E a w Kc Q hg hk =>
  h E a w Kc Q (hg.fr.weaken fun _ _ => trivial) hg.gl fun v m' w' hc hi hs => hk v { E with m := m' } w' (hg.of_chg hc hi hs o.dst)

/-- A new variable in memory. -/
theorem GR.box {o : Obj} {cs : List Value} {e : TypeId} {tv : TV} (ho : o = .cells cs.toArray e) (h : GR C m0 w0 E st a.tmps w) (hr : rep E tv.t tv.x cs) (d : Option Tmp) {w' : World} (hw : w' = { w with heap := w.heap.push o }) :
    ∃ E', GR C m0 w0 E' { (st.put d (.v ⟨.ptr st.b.length 0 tv.t, ()⟩)) with b := st.b ++ [some tv] } (a.put d (.pointer (some ⟨w.heap.size, 0, none⟩))).tmps w' := by
  subst ho hw
  have hc : Chg C E.m w E.m { w with heap := w.heap.push (.cells cs.toArray e) } := ⟨rfl, rfl, rfl, fun _ => Nat.le_refl _, by simp, fun b hb => by
    show (w.heap.push _)[b]? = _
    rw [Array.getElem?_push, if_neg (by omega)], fun _ _ => rfl⟩
  have hi : Inv E.m { w with heap := w.heap.push (.cells cs.toArray e) } := fun b j v hv => by
    have h1 := h.fr.inv b j v hv
    have hlt := cell_lt h1
    unfold World.cell? at h1 ⊢
    rw [hc.heap b hlt]; exact h1
  have hf := h.fr.chg hc hi
  let E' : Env := { E with β := fun i => if i = st.b.length then some w.heap.size else E.β i }
  have hle : E.le E' := ⟨fun _ _ _ h => h, fun i b hb => by
    show (if i = st.b.length then _ else _) = _
    rw [if_neg (fun hh => by rw [h.top i (by omega)] at hb; cases hb)]; exact hb, fun _ _ h => h⟩
  have hnone : ∀ j, E.m w.heap.size j = none := fun j => by
    cases hm : E.m w.heap.size j with
    | none => rfl
    | some v => exact absurd (cell_lt (h.fr.inv _ _ _ hm)) (Nat.lt_irrefl _)
  have hinj : ∀ i j b, E'.β i = some b → E'.β j = some b → i = j := fun i j b hbi hbj => by
    have h1 : (if i = st.b.length then some w.heap.size else E.β i) = some b := hbi
    have h2 : (if j = st.b.length then some w.heap.size else E.β j) = some b := hbj
    by_cases e1 : i = st.b.length <;> by_cases e2 : j = st.b.length
    · omega
    · rw [if_pos e1] at h1; rw [if_neg e2] at h2
      obtain rfl := Option.some.inj h1
      exact absurd (h.lt _ _ h2) (Nat.lt_irrefl _)
    · rw [if_neg e1] at h1; rw [if_pos e2] at h2
      obtain rfl := Option.some.inj h2
      exact absurd (h.lt _ _ h1) (Nat.lt_irrefl _)
    · rw [if_neg e1] at h1; rw [if_neg e2] at h2
      exact h.fr.inj i j b h1 h2
  have hf' : FR (fun _ => True) E' st a.tmps { w with heap := w.heap.push (.cells cs.toArray e) } := by
    refine ⟨hf.len, fun i s hi' hs => (hf.slots i s hi' hs).mono hle, fun i t ht => ?_, fun i j b hbi hbj => hinj i j b hbi hbj, hi⟩
    · obtain ⟨blk, c, e', hb, hh, hr', hm⟩ := hf.boxes i t ht
      exact ⟨blk, c, e', hle.β _ _ hb, hh, rep_mono hle _ _ _ hr', hm⟩
  have hp := hf'.put d (s := .v ⟨.ptr st.b.length 0 tv.t, ()⟩) (v := .pointer (some ⟨w.heap.size, 0, none⟩)) ⟨[_], ⟨w.heap.size, by show (if _ then _ else _) = _; rw [if_pos rfl], rfl⟩, rfl⟩ a rfl
  have hpb : (st.put d (.v ⟨.ptr st.b.length 0 tv.t, ()⟩)).b = st.b := by cases d <;> rfl
  refine ⟨E', ⟨hp.len, hp.slots, fun i t ht => ?_, hinj, hp.inv⟩, h.chg.trans hc, fun i b hb => ?_, fun i b hb => ?_, fun i hi' => ?_, h.gl⟩
  · have ht' : (st.b ++ [some tv])[i]? = some (some t) := ht
    by_cases hlt : i < st.b.length
    · rw [List.getElem?_append_left hlt] at ht'
      exact hp.boxes i t (by rw [hpb]; exact ht')
    · rw [List.getElem?_append_right (by omega)] at ht'
      have hi0 : i - st.b.length = 0 := by
        have := (List.getElem?_eq_some_iff.1 ht').1
        simp at this; omega
      rw [hi0] at ht'
      simp only [List.getElem?_cons_zero, Option.some.injEq] at ht'
      subst ht'
      have : i = st.b.length := by omega
      subst this
      refine ⟨w.heap.size, cs, e, by show (if _ then _ else _) = _; rw [if_pos rfl], by simp, rep_mono hle _ _ _ hr, hnone⟩
  · have h1 : (if i = st.b.length then some w.heap.size else E.β i) = some b := hb
    split at h1
    · obtain rfl := Option.some.inj h1; exact h.chg.size
    · exact h.own i b h1
  · have h1 : (if i = st.b.length then some w.heap.size else E.β i) = some b := hb
    show b < (w.heap.push _).size
    rw [Array.size_push]
    split at h1
    · obtain rfl := Option.some.inj h1; omega
    · have := h.lt i b h1; omega
  · show (if i = st.b.length then some w.heap.size else E.β i) = none
    have : st.b.length + 1 ≤ i := by simpa using hi'
    rw [if_neg (by omega)]; exact h.top i (by omega)

theorem run_storeVar {w : World} {ty : TypeId} {inf : TypeInfo} {blk o : Nat} {e : TypeId} {pre c0 post : List Value} {v : Value} (hinf : P.info? ty = some inf) (hh : w.heap[blk]? = some (.cells (pre ++ c0 ++ post).toArray e (0, 0)))
    (ho : pre.length = o) (hl : c0.length = v.cells.size) (hs : inf.size = v.cells.size) (h1 : ∀ u ∈ v.cells.toList, u.oneCell' = true) :
    (storeVar ty ⟨blk, o, none⟩ v).run P w = .ok () (w.setRow blk (pre ++ v.cells.toList ++ post).toArray) := by
  unfold storeVar
  rw [Sem.run_bind, run_sizeOf' hinf, Result.andThen_ok, if_neg (by omega)]
  show (storeCells ⟨blk, o, none⟩ v.cells.toList 0).run P w = _
  rw [run_storeCells_at P blk o e v.cells.toList 0 _ w hh (by simp; omega) h1]
  congr 2
  simp only [Nat.add_zero]
  subst ho
  have e1 : (pre ++ c0 ++ post).take pre.length = pre := by simp
  have e2 : (pre ++ c0 ++ post).drop (pre.length + v.cells.toList.length) = post := by
    have : pre.length + v.cells.toList.length = (pre ++ c0).length := by simp [hl]
    rw [this, List.drop_left]
  rw [e1, e2]

theorem rep_oneCell {E : Env} : ∀ (t : Ty) (x : t.den) (cs : List Value), rep E t x cs → ∀ u ∈ cs, u.oneCell' = true
  | .unit, _, _, r => by rw [show _ = [] from r]; simp
  | .bool, _, _, r => by rw [show _ = [_] from r]; simp [Value.oneCell']
  | .int _, _, _, r => by rw [show _ = [_] from r]; simp [Value.oneCell']
  | .str, _, _, r => by rw [show _ = [_] from r]; simp [Value.oneCell']
  | .pair a b, _, _, ⟨c1, c2, e, r1, r2⟩ => by
    rw [e]; intro u hu
    rcases List.mem_append.1 hu with h | h
    · exact rep_oneCell a _ _ r1 u h
    · exact rep_oneCell b _ _ r2 u h
  | .list t, _, _, ⟨A, cap, e, _⟩ => by rw [e]; simp [Value.oneCell']
  | .own _ t, _, _, ⟨A, cap, e, _⟩ => by rw [e]; simp [Value.oneCell']
  | .ref t, _, _, ⟨a, c, e, _⟩ => by rw [e]; simp [Value.oneCell']
  | .ptr _ _ _, _, _, ⟨b, _, e⟩ => by rw [e]; simp [Value.oneCell']
  | .fn _ _ b, _, _, ⟨bs, _, e⟩ => by rw [e]; simp [Value.oneCell']

theorem setRow_else (w : World) (b : Nat) (c : Array Value) (k : Nat) (h : k ≠ b) : (w.setRow b c).heap[k]? = w.heap[k]? := by
  unfold World.setRow
  simp only [Array.getElem?_modify]
  rw [if_neg (by omega)]
theorem setRow_size' (w : World) (b : Nat) (c : Array Value) : (w.setRow b c).heap.size = w.heap.size := by
  unfold World.setRow; simp

/-- A variable in memory is written. -/
theorem GR.store {i : Nat} {c : TV} {y : c.t.den} {q : Nat} {tv : TV} {v : Value} {ty : TypeId} {inf : TypeInfo} (h : GR C m0 w0 E st a.tmps w) (hc : st.b[i]? = some (some c)) (hy : setAt c.t c.x q tv = some y) (hv : VRep E tv.t tv.x v)
    (hinf : P.info? ty = some inf) (hs : inf.size = tv.t.size) {ad : Nat} (hb : E.β i = some ad) :
    ∃ w', (storeVar ty ⟨ad, q, none⟩ v).run P w = .ok () w' ∧ GR C m0 w0 E { st with b := st.b.set i (some ⟨c.t, y⟩) } a.tmps w' := by
  obtain ⟨blk, cs, e, hb', hh, hr, hm⟩ := h.fr.boxes i c hc
  obtain rfl : ad = blk := Option.some.inj (hb.symm.trans hb')
  obtain ⟨pre, c0, post, rfl, hp, hl, hset⟩ := setAt_ok _ _ _ _ _ hy hr
  have hvc := hv.cells
  have hvl := rep_length _ _ _ hvc
  have hsz : v.cells.size = tv.t.size := by rw [← hvl]; simp
  refine ⟨_, run_storeVar hinf hh hp (by omega) (by omega) (rep_oneCell _ _ _ hvc), ⟨h.fr.len, h.fr.slots, fun j t ht => ?_, h.fr.inj, fun b j u hu => ?_⟩, ?_, h.own, fun j b hb => ?_, fun j hj => h.top j (by simpa using hj), h.gl⟩
  · have ht' : (st.b.set i (some ⟨c.t, y⟩))[j]? = some (some t) := ht
    rw [List.getElem?_set] at ht'
    by_cases hij : i = j
    · subst hij
      rw [if_pos rfl] at ht'
      split at ht'
      · simp only [Option.some.injEq] at ht'
        subst ht'
        exact ⟨ad, _, e, hb, Go.setRow_heap w ad _ _ e (0, 0) hh, hset _ hvc, hm⟩
      · cases ht'
    · rw [if_neg hij] at ht'
      obtain ⟨blk, cs', e', hb2, hh2, hr2, hm2⟩ := h.fr.boxes j t ht'
      refine ⟨blk, cs', e', hb2, ?_, hr2, hm2⟩
      rw [setRow_else _ _ _ _ (fun hh3 => hij (h.fr.inj i j blk (by rw [hb, hh3]) hb2))]
      exact hh2
  · have h1 := h.fr.inv b j u hu
    have hne : b ≠ ad := fun hh3 => by subst hh3; rw [hm j] at hu; cases hu
    unfold World.cell? at h1 ⊢
    rw [setRow_else _ _ _ _ hne]; exact h1
  · have hle := h.own i ad hb
    exact ⟨h.chg.os, h.chg.tape, h.chg.output, h.chg.drawn, by rw [setRow_size']; exact h.chg.size, fun b hb' => by rw [setRow_else _ _ _ _ (by omega)]; exact h.chg.heap b hb', h.chg.mem⟩
  · rw [setRow_size']; exact h.lt j b hb

theorem zero_rep {t : Ty} {x : t.den} {z : Value} (E : Env) (h : ofCells t z.cells.toList = some (x, [])) : rep E t x z.cells.toList := by
  obtain ⟨c, e, q⟩ := ofCells_ok E _ _ _ _ h
  rw [List.append_nil] at e
  rw [e]; exact q

variable {R : Type}
theorem stepK_ok {sp : Specs} (hsp : ∀ g s, sp g = some s → Sound P C g s) {n : Nat} {o : Oper} {K : St → Option R} {r : R} (h : stepK P sp n st o K = some r) :
    ∃ st', K st' = some r ∧ StepOK P C o st st' := by
  unfold stepK at h
  split at h
  · rename_i ty x ho
    split at h
    · rename_i inf tv hinf htv
      split at h
      · rename_i hs
        refine ⟨_, h, fun m0 w0 E a w Kc Q hg hk => ?_⟩
        have hv := opdX_ok hg.fr (fun _ _ => trivial) htv
        have hrun : (execOp a.eval o).run P w = .ok (.value (.pointer (some ⟨w.heap.size, 0, none⟩))) { w with heap := w.heap.push (.cells (a.eval x).cells ty) } := by
          unfold execOp
          simp only [ho, Instr.box, newVar, newRow, Sem.run_bind, run_newObj, Sem.run_pure, Result.andThen_ok]
        unfold Oper.wp
        rw [hrun]
        obtain ⟨E', hg'⟩ := hg.box (o := .cells (a.eval x).cells ty) (cs := (a.eval x).cells.toList) (e := ty) (by simp) hv.cells o.dst rfl
        exact hk _ E' _ hg'
      · cases h
    · cases h
  · rename_i ty ho
    split at h
    · rename_i t inf ht hinf
      split at h
      · rename_i z hz
        split at h
        · rename_i x hx
          refine ⟨_, h, fun m0 w0 E a w Kc Q hg hk => ?_⟩
          have hrun : (execOp a.eval o).run P w = .ok (.value (.pointer (some ⟨w.heap.size, 0, none⟩))) { w with heap := w.heap.push (.cells z.cells ty) } := by
            unfold execOp
            simp only [ho, Instr.alloc, Sem.run_bind, run_zeroValue hinf hz, newVar, newRow, run_newObj, Sem.run_pure, Result.andThen_ok]
          unfold Oper.wp
          rw [hrun]
          obtain ⟨E', hg'⟩ := hg.box (o := .cells z.cells ty) (cs := z.cells.toList) (e := ty) (tv := ⟨t, x⟩) (by simp) (zero_rep E hx) o.dst rfl
          exact hk _ E' _ hg'
        · cases h
      · cases h
    · cases h
  · rename_i ty x v ho
    split at h
    · rename_i i q t u tv inf hx hv hinf
      split at h
      · rename_i c hc
        split at h
        · rename_i hs
          split at h
          · rename_i y hy
            refine ⟨_, h, fun m0 w0 E a w Kc Q hg hk => ?_⟩
            obtain ⟨b, hb, hpx⟩ := vrep_ptr (opd_ok hg.fr (fun _ _ => trivial) hx)
            obtain ⟨w', hrun', hg'⟩ := hg.store hc hy (opdX_ok hg.fr (fun _ _ => trivial) hv) hinf hs hb
            have hrun : (execOp a.eval o).run P w = .ok .skip w' := by
              unfold execOp
              simp only [ho, hpx, Instr.storeAt, Instr.sureAddr, Sem.run_bind, Sem.run_pure, Result.andThen_ok, hrun']
            unfold Oper.wp
            rw [hrun]
            refine hk undef E w' ⟨?_, hg'.chg, hg'.own, hg'.lt, fun j hj => hg'.top j (by simpa using hj), hg'.gl⟩
            have hp := hg'.fr.put o.dst (s := .undef) (v := undef) rfl a rfl
            have e : ({ st with b := st.b.set i (some ⟨c.t, y⟩) } : St).put o.dst .undef = { (st.put o.dst .undef) with b := st.b.set i (some ⟨c.t, y⟩) } := by cases o.dst <;> rfl
            rw [e] at hp; exact hp
          · cases h
        · cases h
      · cases h
    · cases h
  · obtain ⟨s, hs, hok⟩ := pureK_ok hsp h
    exact ⟨_, hs, hok.step⟩

theorem guardK_ok {ops : Array Oper} {o : Oper} {K : Bool → Option R} {r : R} (h : guardK ops st o K = some r) :
    ∃ b, K b = some r ∧ ∀ (X : Nat → Prop) (E : Env) (tmps : Array Value) (w : World), FR X E st tmps w → (∀ j want t, o.guard = some (j, want) → (ops[j]?).bind (·.dst) = some t → X t) → Region.wanted o (yielded ops tmps) = b := by
  unfold guardK at h
  split at h
  · rename_i hg
    exact ⟨true, h, fun _ _ _ _ _ _ => by unfold Region.wanted; simp [hg]⟩
  · rename_i j want hg
    split at h
    · rename_i t ht
      have get : ∀ (X : Nat → Prop) (E : Env) (tmps : Array Value) (w : World) (s : Slot), FR X E st tmps w → X t → st.t[t]? = some s → ∃ v, tmps[t]? = some v ∧ SlotRep E s v := fun X E tmps w s hf hX hs => by
        have h1 := hf.slots t s hX hs
        have hlt : t < tmps.size := by rw [← hf.len]; exact (List.getElem?_eq_some_iff.1 hs).1
        refine ⟨tmps[t], Array.getElem?_eq_getElem hlt, ?_⟩
        rw [Array.getD_eq_getD_getElem?, Array.getElem?_eq_getElem hlt] at h1
        exact h1
      split at h
      · rename_i hs
        refine ⟨false, h, fun X E tmps w hf hX => ?_⟩
        obtain ⟨v, hv, rfl⟩ := get X E tmps w _ hf (hX _ _ _ hg ht) hs
        unfold Region.wanted yielded
        simp [hg, ht, hv, undef]
      · rename_i b hs
        have hw : ∀ (X : Nat → Prop) (E : Env) (tmps : Array Value) (w : World), FR X E st tmps w → X t → Region.wanted o (yielded ops tmps) = (b == want) := fun X E tmps w hf hX => by
          obtain ⟨v, hv, hr⟩ := get X E tmps w _ hf hX hs
          obtain rfl := vrep_bool hr
          unfold Region.wanted yielded
          simp [hg, ht, hv]
        rcases bif_some h with ⟨hb, h⟩ | ⟨hb, h⟩
        · exact ⟨true, h, fun X E tmps w hf hX => by rw [hw X E tmps w hf (hX _ _ _ hg ht), hb]⟩
        · exact ⟨false, h, fun X E tmps w hf hX => by rw [hw X E tmps w hf (hX _ _ _ hg ht), hb]⟩
      · cases h
    · cases h

theorem FR.know {X : Nat → Prop} {tmps : Array Value} {t : Tmp} {b : Bool} (h : FR X E st tmps w) (hv : tmps.getD t undef = .bool b) : FR X E (st.know t b) tmps w := by
  refine ⟨by show (st.t.set t _).length = _; rw [List.length_set]; exact h.len, fun i s hi hs => ?_, h.boxes, h.inj, h.inv⟩
  have hs' : (st.t.set t (.v ⟨.bool, b⟩))[i]? = some s := hs
  rw [List.getElem?_set] at hs'
  split at hs'
  · rename_i e; subst e
    split at hs'
    · obtain rfl := Option.some.inj hs'
      rw [hv]; exact mkBool _ _
    · cases hs'
  · exact h.slots i s hi hs'
theorem GR.know {t : Tmp} {b : Bool} {tmps : Array Value} (h : GR C m0 w0 E st tmps w) (hv : tmps.getD t undef = .bool b) : GR C m0 w0 E (st.know t b) tmps w := ⟨h.fr.know hv, h.chg, h.own, h.lt, h.top, h.gl⟩
theorem GR.knowO {x : Operand} {b : Bool} (h : GR C m0 w0 E st a.tmps w) (hv : a.eval x = .bool b) : GR C m0 w0 E (st.knowO x b) a.tmps w := by
  unfold St.knowO
  split
  · exact h.know hv
  · exact h

theorem guardS_ok {ops : Array Oper} {o : Oper} {K : Bool → St → Option R} {r : R} (h : guardS ops st o K = some r) (hg : GR C m0 w0 E st a.tmps w) :
    ∃ b st', K b st' = some r ∧ GR C m0 w0 E st' a.tmps w ∧ Region.wanted o (yielded ops a.tmps) = b := by
  unfold guardS at h
  split at h
  · rename_i hg'
    exact ⟨true, st, h, hg, by unfold Region.wanted; simp [hg']⟩
  · rename_i j want hgd
    split at h
    · rename_i t ht
      have get : ∀ (s : Slot), st.t[t]? = some s → ∃ v, a.tmps[t]? = some v ∧ a.tmps.getD t undef = v ∧ SlotRep E s v := fun s hs => by
        have h1 := hg.fr.slots t s trivial hs
        have hlt : t < a.tmps.size := by rw [← hg.fr.len]; exact (List.getElem?_eq_some_iff.1 hs).1
        refine ⟨a.tmps[t], Array.getElem?_eq_getElem hlt, ?_, ?_⟩
        · rw [Array.getD_eq_getD_getElem?, Array.getElem?_eq_getElem hlt]; rfl
        · rw [Array.getD_eq_getD_getElem?, Array.getElem?_eq_getElem hlt] at h1
          exact h1
      split at h
      · rename_i hs
        obtain ⟨v, hv, _, rfl⟩ := get _ hs
        refine ⟨false, st, h, hg, ?_⟩
        unfold Region.wanted yielded
        simp [hgd, ht, hv, undef]
      · rename_i b hs
        obtain ⟨v, hv, hv', hr⟩ := get _ hs
        obtain rfl := vrep_bool hr
        have hw : Region.wanted o (yielded ops a.tmps) = (b == want) := by
          unfold Region.wanted yielded
          simp [hgd, ht, hv]
        rcases bif_some h with ⟨hb, h⟩ | ⟨hb, h⟩
        · exact ⟨_, _, h, hg.know (by rw [hv', hb]), by rw [hw, hb]⟩
        · exact ⟨_, _, h, hg.know (by rw [hv', hb]), by rw [hw, hb]⟩
      · cases h
    · cases h

theorem GR.put_undef (h : GR C m0 w0 E st a.tmps w) (d : Option Tmp) : GR C m0 w0 E (st.put d .undef) (a.put d undef).tmps w :=
  ⟨h.fr.put d (s := .undef) (v := undef) rfl a rfl, h.chg, h.own, h.lt, fun i hi => h.top i (by cases d <;> exact hi), h.gl⟩

theorem put_defers (a : Act) (d : Option Tmp) (v : Value) : (a.put d v).defers = a.defers := by cases d <;> rfl

theorem opsK_ok {sp : Specs} (hsp : ∀ g s, sp g = some s → Sound P C g s) {n : Nat} {ops : Array Oper} {K : St → Option R} {r : R} {Q : Exit → Act → World → Prop} {ds : List Deferred}
    (hQ : ∀ st' E' a' w', K st' = some r → GR C m0 w0 E' st' a'.tmps w' → a'.defers = ds → Q .normal a' w') :
    ∀ (l : List Oper) (k : Nat) (st : St) (E : Env) (a : Act) (w : World), ops.toList.drop k = l → opsK P sp n ops l st K = some r → GR C m0 w0 E st a.tmps w → a.defers = ds →
      wpOps P ops Q (List.range' k l.length) a w
  | [], k, st, E, a, w, _, h, hg, hd => hQ st E a w h hg hd
  | o :: l, k, st, E, a, w, hk, h, hg, hd => by
    have hko : ops[k]? = some o := by
      have : (ops.toList.drop k)[0]? = some o := by rw [hk]; rfl
      rw [List.getElem?_drop] at this
      simpa using this
    have hk' : ops.toList.drop (k + 1) = l := by
      rw [← List.drop_drop, hk]; rfl
    simp only [opsK] at h
    obtain ⟨b, st, hb, hg, hw'⟩ := guardS_ok h hg
    show wpOps P ops Q (k :: List.range' (k + 1) l.length) a w
    simp only [wpOps, hko]
    rw [hw']
    rcases bif_some hb with ⟨rfl, h2⟩ | ⟨rfl, h2⟩
    · rw [if_pos rfl]
      obtain ⟨st', hst', hok⟩ := stepK_ok hsp h2
      refine .inl (hok m0 w0 E a w _ Q hg fun v E' w' hg' => ?_)
      exact opsK_ok hsp hQ l (k + 1) st' E' _ w' hk' hst' hg' (by rw [put_defers]; exact hd)
    · rw [if_neg (by simp)]
      exact opsK_ok hsp hQ l (k + 1) _ E _ w hk' h2 (hg.put_undef o.dst) (by rw [put_defers]; exact hd)
end
end Go.Proofs.YtadamegddcadcaaDoorPi

namespace Go.Proofs.YtadamegddcadcaaDoorPi
open Go
section
variable {P : Program} {C : Ctx} {m0 : Mem} {w0 : World} {R : Type}

structure Trace (P : Program) (C : Ctx) (ops : Array Oper) (k : Nat) (S : Nat → Slot) (T : Nat → St) : Prop where
  step : ∀ j o, k ≤ j → ops[j]? = some o → T (j + 1) = (T j).put o.dst (S j) ∧ ∃ b, (b = true → OpOK P C o (T j) (S j)) ∧ (b = false → S j = .undef) ∧
    ∀ (X : Nat → Prop) (E : Env) (tmps : Array Value) (w : World), FR X E (T j) tmps w → (∀ g want t, o.guard = some (g, want) → (ops[g]?).bind (·.dst) = some t → X t) → Region.wanted o (yielded ops tmps) = b

theorem opsP_ok {sp : Specs} (hsp : ∀ g s, sp g = some s → Sound P C g s) {n : Nat} {ops : Array Oper} {K : St → Option R} {r : R} :
    ∀ (l : List Oper) (k : Nat) (st : St), ops.toList.drop k = l → k ≤ ops.size → opsP P sp n ops l st K = some r → ∃ S T, T k = st ∧ K (T ops.size) = some r ∧ Trace P C ops k S T
  | [], k, st, hk, hle, h => by
    have hlen : ops.size ≤ k := by
      have : (ops.toList.drop k).length = 0 := by rw [hk]; rfl
      simp at this; omega
    refine ⟨fun _ => .junk, fun _ => st, rfl, h, ⟨fun j o hj ho => ?_⟩⟩
    have := (Array.getElem?_eq_some_iff.1 ho).1
    omega
  | o :: l, k, st, hk, hle, h => by
    have hko : ops[k]? = some o := by
      have : (ops.toList.drop k)[0]? = some o := by rw [hk]; rfl
      rw [List.getElem?_drop] at this
      simpa using this
    have hlt : k < ops.size := (Array.getElem?_eq_some_iff.1 hko).1
    have hk' : ops.toList.drop (k + 1) = l := by
      rw [← List.drop_drop, hk]; rfl
    simp only [opsP] at h
    obtain ⟨b, hb, hw⟩ := guardK_ok h
    have fin : ∀ s, opsP P sp n ops l (st.put o.dst s) K = some r → (b = true → OpOK P C o st s) → (b = false → s = .undef) → ∃ S T, T k = st ∧ K (T ops.size) = some r ∧ Trace P C ops k S T := by
      intro s hs h1 h2
      obtain ⟨S, T, hT, hK, ht⟩ := opsP_ok hsp l (k + 1) _ hk' hlt hs
      refine ⟨fun j => if j = k then s else S j, fun j => if j = k then st else T j, if_pos rfl, ?_, ⟨fun j q hj hq => ?_⟩⟩
      · show K (if ops.size = k then st else T ops.size) = some r
        rw [if_neg (by omega)]; exact hK
      · by_cases e : j = k
        · subst e
          obtain rfl : o = q := Option.some.inj (hko.symm.trans hq)
          rw [if_pos rfl, if_pos rfl, if_neg (by omega), hT]
          exact ⟨rfl, b, h1, h2, hw⟩
        · rw [if_neg e, if_neg e, if_neg (by omega)]
          exact ht.step j q (by omega) hq
    rcases bif_some hb with ⟨rfl, h2⟩ | ⟨rfl, h2⟩
    · obtain ⟨s, hs, hok⟩ := pureK_ok hsp h2
      exact fin s hs (fun _ => hok) (fun h => by cases h)
    · exact fin .undef h2 (fun h => by cases h) (fun _ => rfl)

/-- Operation i writes t. -/
def Wr (ops : Array Oper) (t i : Nat) : Prop := ∃ o, ops[i]? = some o ∧ o.dst = some t

theorem Trace.len {ops : Array Oper} {S : Nat → Slot} {T : Nat → St} (h : Trace P C ops 0 S T) : ∀ k, k ≤ ops.size → (T k).t.length = (T 0).t.length ∧ (T k).b = (T 0).b
  | 0, _ => ⟨rfl, rfl⟩
  | k + 1, hk => by
    have hlt : k < ops.size := hk
    obtain ⟨e, _⟩ := h.step k ops[k] (Nat.zero_le _) (Array.getElem?_eq_getElem hlt)
    obtain ⟨h1, h2⟩ := h.len k (by omega)
    rw [e]
    cases ops[k].dst with
    | none => exact ⟨h1, h2⟩
    | some d => exact ⟨by show ((T k).t.set d _).length = _; rw [List.length_set, h1], h2⟩

theorem Trace.none_ {ops : Array Oper} {S : Nat → Slot} {T : Nat → St} (h : Trace P C ops 0 S T) {t : Nat} : ∀ k, k ≤ ops.size → (∀ i, i < k → ¬ Wr ops t i) → (T k).t[t]? = (T 0).t[t]?
  | 0, _, _ => rfl
  | k + 1, hk, hn => by
    have hlt : k < ops.size := hk
    have hok := Array.getElem?_eq_getElem hlt
    obtain ⟨e, _⟩ := h.step k ops[k] (Nat.zero_le _) hok
    rw [e]
    have ih := h.none_ k (by omega) (fun i hi => hn i (by omega))
    cases hd : ops[k].dst with
    | none => exact ih
    | some d =>
      show ((T k).t.set d _)[t]? = _
      rw [List.getElem?_set_ne (fun hh => hn k (by omega) ⟨_, hok, by rw [hd, hh]⟩)]
      exact ih

theorem Trace.some_ {ops : Array Oper} {S : Nat → Slot} {T : Nat → St} (h : Trace P C ops 0 S T) (hu : ∀ i j t, Wr ops t i → Wr ops t j → i = j) {t i : Nat} (hw : Wr ops t i) (ht : t < (T 0).t.length) : ∀ k, k ≤ ops.size → i < k → (T k).t[t]? = some (S i)
  | k + 1, hk, hi => by
    have hlt : k < ops.size := hk
    have hok := Array.getElem?_eq_getElem hlt
    obtain ⟨e, _⟩ := h.step k ops[k] (Nat.zero_le _) hok
    rw [e]
    by_cases hik : i = k
    · subst hik
      obtain ⟨o, ho, hd⟩ := hw
      obtain rfl : ops[i] = o := Option.some.inj (hok.symm.trans ho)
      rw [hd]
      show ((T i).t.set t _)[t]? = _
      rw [List.getElem?_set_self (by rw [(h.len i (by omega)).1]; exact ht)]
    · have ih := h.some_ hu hw ht k (by omega) (by omega)
      cases hd : ops[k].dst with
      | none => exact ih
      | some d =>
        show ((T k).t.set d _)[t]? = _
        rw [List.getElem?_set_ne (fun hh => hik (hu i k t hw ⟨_, hok, by rw [hd, hh]⟩))]
        exact ih

structure Ord (ops : Array Oper) : Prop where
  uniq : ∀ i j t, Wr ops t i → Wr ops t j → i = j
  back : ∀ j o, ops[j]? = some o → ∀ e ∈ o.after, Region.binds .any e = true → e.on < j
  look : ∀ j o t i, ops[j]? = some o → t ∈ looks ops o → Wr ops t i → (i < j ∧ ∃ e ∈ o.after, Region.binds .any e = true ∧ e.on = i) ∨ (j < i ∧ ∃ q, ops[i]? = some q ∧ ∃ e ∈ q.after, Region.binds .any e = true ∧ e.on = j)

theorem ord_of {ops : Array Oper} (h : drawOk P ops = true) : P.follows .mixedOrders = true ∧ Ord ops := by
  unfold drawOk at h
  rw [Bool.and_eq_true] at h
  obtain ⟨h1, h2⟩ := h
  have one : ∀ j o, ops[j]? = some o → drawOne ops j o = true := fun j o ho => by
    have hlt := (Array.getElem?_eq_some_iff.1 ho).1
    have := List.all_eq_true.1 h2 j (List.mem_range.2 hlt)
    rw [ho] at this; exact this
  have back : ∀ j o, ops[j]? = some o → ∀ e ∈ o.after, Region.binds .any e = true → e.on < j := fun j o ho e he hb => by
    have := one j o ho
    unfold drawOne at this
    rw [Bool.and_eq_true] at this
    have := List.all_eq_true.1 this.1 e (Array.mem_toList_iff.2 he)
    rw [hb] at this
    simpa using this
  have other : ∀ j o i q t, ops[j]? = some o → ops[i]? = some q → q.dst = some t → (i = j ∨ o.dst ≠ some t) ∧ (t ∈ looks ops o → (i < j ∧ ∃ e ∈ o.after, Region.binds .any e = true ∧ e.on = i) ∨ (j < i ∧ ∃ e ∈ q.after, Region.binds .any e = true ∧ e.on = j)) := fun j o i q t ho hq ht => by
    have h3 := one j o ho
    unfold drawOne at h3
    rw [Bool.and_eq_true] at h3
    have hlt := (Array.getElem?_eq_some_iff.1 hq).1
    have h4 := List.all_eq_true.1 h3.2 i (List.mem_range.2 hlt)
    rw [hq] at h4
    simp only [ht] at h4
    simp only [Bool.and_eq_true, Bool.or_eq_true, beq_iff_eq, Bool.not_eq_true', beq_eq_false_iff_ne, decide_eq_true_eq, List.any_eq_true, Array.mem_toList_iff] at h4
    refine ⟨h4.1, fun hm => ?_⟩
    rcases h4.2 with h5 | h5
    · have : (looks ops o).contains t = true := by simpa using hm
      rw [this] at h5; cases h5
    · exact h5
  refine ⟨h1, fun i j t hi hj => ?_, back, fun j o t i ho hm hw => ?_⟩
  · obtain ⟨oi, hoi, hdi⟩ := hi
    obtain ⟨oj, hoj, hdj⟩ := hj
    rcases (other j oj i oi t hoj hoi hdi).1 with h | h
    · exact h
    · exact absurd hdj h
  · obtain ⟨q, hq, hd⟩ := hw
    rcases (other j o i q t ho hq hd).2 hm with ⟨h1, h2⟩ | ⟨h1, h2⟩
    · exact .inl ⟨h1, h2⟩
    · exact .inr ⟨h1, q, hq, h2⟩

/-- A region in the midst of a drawn order. -/
structure Mid (C : Ctx) (m0 : Mem) (w0 : World) (ops : Array Oper) (S : Nat → Slot) (st : St) (ds : List Deferred) (listed : Array Bool) (E : Env) (a : Act) (w : World) : Prop where
  size : listed.size = ops.size
  closed : ∀ i o, ops[i]? = some o → listed.getD i false = true → ∀ e ∈ o.after, Region.binds .any e = true → listed.getD e.on false = true
  done : ∀ i t, listed.getD i false = true → Wr ops t i → t < st.t.length → SlotRep E (S i) (a.tmps.getD t undef)
  still : ∀ t s, (∀ i, Wr ops t i → listed.getD i false = false) → st.t[t]? = some s → SlotRep E s (a.tmps.getD t undef)
  fr : FR (fun _ => False) E st a.tmps w
  chg : Chg C m0 w0 E.m w
  own : ∀ i b, E.β i = some b → w0.heap.size ≤ b
  lt : ∀ i b, E.β i = some b → b < w.heap.size
  top : ∀ i, st.b.length ≤ i → E.β i = none
  gl : C.Γ E.m
  defers : a.defers = ds

theorem getD_true {l : Array Bool} {i : Nat} (hi : i < l.size) : l.getD i true = l.getD i false := by
  simp [Array.getElem?_eq_getElem hi]

theorem set_getD {l : Array Bool} {i j : Nat} (hi : i < l.size) : (l.setIfInBounds i true).getD j false = if i = j then true else l.getD j false := by
  rw [Array.getD_eq_getD_getElem?, Array.getD_eq_getD_getElem?, Array.getElem?_setIfInBounds]
  by_cases h : i = j
  · subst h; rw [if_pos rfl, if_pos rfl, if_pos hi]; rfl
  · rw [if_neg h, if_neg h]

def left_ (listed : Array Bool) : List Nat := (List.range listed.size).filter fun i => !listed.getD i false
theorem left_set {l : Array Bool} {i : Nat} (hi : i < l.size) (hf : l.getD i false = false) : (left_ (l.setIfInBounds i true)).length < (left_ l).length := by
  unfold left_
  rw [Array.size_setIfInBounds]
  have e : ((List.range l.size).filter fun j => !(l.setIfInBounds i true).getD j false) = ((List.range l.size).filter fun j => !l.getD j false).filter fun j => decide (j ≠ i) := by
    rw [List.filter_filter]
    apply List.filter_congr
    intro j _
    rw [set_getD hi]
    by_cases h : i = j
    · subst h; simp
    · rw [if_neg h]
      have : j ≠ i := fun hh => h hh.symm
      simp [this]
  rw [e]
  refine List.length_filter_lt_length_iff_exists.2 ⟨i, ?_, by simp⟩
  rw [List.mem_filter]
  exact ⟨List.mem_range.2 hi, by rw [hf]; rfl⟩

theorem draw_ok {ops : Array Oper} {S : Nat → Slot} {T : Nat → St} {st : St} {ds : List Deferred} {Q : Exit → Act → World → Prop} (ho : Ord ops) (ht : Trace P C ops 0 S T) (h0 : T 0 = st)
    (hQ : ∀ E a w, GR C m0 w0 E (T ops.size) a.tmps w → a.defers = ds → Q .normal a w) :
    ∀ (fuel : Nat) (listed : Array Bool) (E : Env) (a : Act) (w : World), (left_ listed).length ≤ fuel → Mid C m0 w0 ops S st ds listed E a w → wpAny P .any ops Q fuel listed a w := by
  have hlen : ∀ k, k ≤ ops.size → (T k).t.length = st.t.length ∧ (T k).b = st.b := fun k hk => by rw [← h0]; exact ht.len k hk
  have atEnd : ∀ (listed : Array Bool) (E : Env) (a : Act) (w : World), (∀ i, i < ops.size → listed.getD i false = true) → Mid C m0 w0 ops S st ds listed E a w → Q .normal a w := by
    intro listed E a w hall hm
    obtain ⟨h1, h2⟩ := hlen ops.size (Nat.le_refl _)
    refine hQ E a w ⟨⟨by rw [h1]; exact hm.fr.len, fun t s _ hs => ?_, fun i tv hi => hm.fr.boxes i tv (by rw [← h2]; exact hi), hm.fr.inj, hm.fr.inv⟩, hm.chg, hm.own, hm.lt, fun i hi => hm.top i (by rw [← h2]; exact hi), hm.gl⟩ hm.defers
    have htl : t < st.t.length := by rw [← h1]; exact (List.getElem?_eq_some_iff.1 hs).1
    by_cases hw : ∃ i, Wr ops t i
    · obtain ⟨i, hi⟩ := hw
      have hlt : i < ops.size := by obtain ⟨o, hoi, _⟩ := hi; exact (Array.getElem?_eq_some_iff.1 hoi).1
      rw [ht.some_ ho.uniq hi (by rw [h0]; exact htl) ops.size (Nat.le_refl _) hlt] at hs
      obtain rfl := Option.some.inj hs
      exact hm.done i t (hall i hlt) hi htl
    · rw [ht.none_ ops.size (Nat.le_refl _) (fun i _ hi => hw ⟨i, hi⟩), h0] at hs
      exact hm.still t s (fun i hi => absurd ⟨i, hi⟩ hw) hs
  have noneLeft : ∀ (listed : Array Bool), listed.size = ops.size → (∀ i o, ops[i]? = some o → listed.getD i false = true → True) → Region.ready .any ops listed = [] → ∀ i, i < ops.size → listed.getD i false = true := by
    intro listed hsz _ hr i
    induction i using Nat.strongRecOn with
    | _ i ih =>
      intro hi
      cases hf : listed.getD i false with
      | true => rfl
      | false =>
        have hmem : i ∈ Region.ready .any ops listed := by
          rw [mem_ready]
          refine ⟨by rw [getD_true (by omega)]; exact hf, ops[i], Array.getElem?_eq_getElem hi, fun e he hb => ?_⟩
          have := ho.back i _ (Array.getElem?_eq_getElem hi) e he hb
          exact ih e.on this (by omega)
        rw [hr] at hmem; cases hmem
  intro fuel
  induction fuel with
  | zero =>
    intro listed E a w hc hm
    have hnil : left_ listed = [] := List.length_eq_zero_iff.1 (Nat.le_zero.1 hc)
    have hall : ∀ i, i < ops.size → listed.getD i false = true := fun i hi => by
      cases hf : listed.getD i false with
      | true => rfl
      | false =>
        have : i ∈ left_ listed := List.mem_filter.2 ⟨List.mem_range.2 (by rw [hm.size]; exact hi), by rw [hf]; rfl⟩
        rw [hnil] at this; cases this
    refine ⟨?_, atEnd listed E a w hall hm⟩
    cases hr : Region.ready .any ops listed with
    | nil => rfl
    | cons x xs =>
      have : x ∈ Region.ready .any ops listed := by rw [hr]; simp
      rw [mem_ready] at this
      obtain ⟨h1, o, h2, _⟩ := this
      have hlt := (Array.getElem?_eq_some_iff.1 h2).1
      rw [getD_true (by rw [hm.size]; exact hlt), hall x hlt] at h1
      cases h1
  | succ fuel ih =>
    intro listed E a w hc hm
    refine ⟨fun hr => atEnd listed E a w (noneLeft listed hm.size (fun _ _ _ _ => trivial) hr) hm, fun j hj => ?_⟩
    rw [mem_ready] at hj
    obtain ⟨hf, o, hoj, hafter⟩ := hj
    have hlt := (Array.getElem?_eq_some_iff.1 hoj).1
    have hlt' : j < listed.size := by rw [hm.size]; exact hlt
    rw [getD_true hlt'] at hf
    obtain ⟨hput, b, hb1, hb2, hguard⟩ := ht.step j o (Nat.zero_le _) hoj
    obtain ⟨hjl, hjb⟩ := hlen j (by omega)
    -- what j looks at holds what it holds in the text's order
    have hfr : FR (· ∈ looks ops o) E (T j) a.tmps w := by
      refine ⟨by rw [hjl]; exact hm.fr.len, fun t s hX hs => ?_, fun i tv hi => hm.fr.boxes i tv (by rw [← hjb]; exact hi), hm.fr.inj, hm.fr.inv⟩
      have htl : t < st.t.length := by rw [← hjl]; exact (List.getElem?_eq_some_iff.1 hs).1
      by_cases hw : ∃ i, Wr ops t i
      · obtain ⟨i, hi⟩ := hw
        rcases ho.look j o t i hoj hX hi with ⟨hij, e, he, hbe, hei⟩ | ⟨hji, q, hq, e, he, hbe, hej⟩
        · rw [ht.some_ ho.uniq hi (by rw [h0]; exact htl) j (by omega) hij] at hs
          obtain rfl := Option.some.inj hs
          exact hm.done i t (by rw [← hei]; exact hafter e he hbe) hi htl
        · rw [ht.none_ j (by omega) (fun i' hi' hw' => by have := ho.uniq _ _ _ hi hw'; omega), h0] at hs
          refine hm.still t s (fun i' hi' => ?_) hs
          obtain rfl := ho.uniq _ _ _ hi hi'
          cases hli : listed.getD i false with
          | false => rfl
          | true =>
            have := hm.closed i q hq hli e he hbe
            rw [hej, hf] at this; cases this
      · rw [ht.none_ j (by omega) (fun i _ hi => hw ⟨i, hi⟩), h0] at hs
        exact hm.still t s (fun i hi => absurd ⟨i, hi⟩ hw) hs
    have hwant := hguard _ E a.tmps w hfr (fun g want t hg hgt => by
      unfold looks
      rw [hg]; simp only [hgt]
      exact List.mem_append_right _ (by simp))
    have next : ∀ v m' w', Chg C E.m w m' w' → Inv m' w' → SlotRep { E with m := m' } (S j) v → wpAny P .any ops Q fuel (listed.setIfInBounds j true) (a.put o.dst v) w' := by
      intro v m' w' hcg hi hs
      have hle := Env.le_m (hcg.sub hm.fr.inv)
      refine ih _ { E with m := m' } _ w' ?_ ?_
      · have := left_set hlt' hf; omega
      · have hgetne : ∀ t, o.dst ≠ some t → (a.put o.dst v).tmps.getD t undef = a.tmps.getD t undef := fun t hne => by
          cases hd : o.dst with
          | none => rfl
          | some d =>
            have : d ≠ t := fun hh => hne (by rw [hd, hh])
            show (a.tmps.setIfInBounds d v).getD t undef = _
            rw [Array.getD_eq_getD_getElem?, Array.getElem?_setIfInBounds_ne this, ← Array.getD_eq_getD_getElem?]
        refine ⟨by rw [Array.size_setIfInBounds]; exact hm.size, fun i q hq hli e he hbe => ?_, fun i t hli hw htl => ?_, fun t s hn hst => ?_, ?_, hm.chg.trans hcg, hm.own, fun i b hb => Nat.lt_of_lt_of_le (hm.lt i b hb) hcg.size, hm.top, C.mono (hcg.sub hm.fr.inv) hm.gl, by rw [put_defers]; exact hm.defers⟩
        · rw [set_getD hlt'] at hli ⊢
          split
          · rfl
          · split at hli
            · rename_i hji; subst hji
              obtain rfl : o = q := Option.some.inj (hoj.symm.trans hq)
              exact hafter e he hbe
            · exact hm.closed i q hq hli e he hbe
        · rw [set_getD hlt'] at hli
          by_cases hji : j = i
          · subst hji
            obtain ⟨q, hq, hd⟩ := hw
            obtain rfl : o = q := Option.some.inj (hoj.symm.trans hq)
            rw [hd]
            show SlotRep _ (S j) ((a.tmps.setIfInBounds t v).getD t undef)
            have : t < a.tmps.size := by rw [← hm.fr.len]; exact htl
            simp [this]; exact hs
          · rw [if_neg hji] at hli
            rw [hgetne t (fun hd => hji (ho.uniq _ _ _ ⟨o, hoj, hd⟩ hw))]
            exact (hm.done i t hli hw htl).mono hle
        · have hne : o.dst ≠ some t := fun hd => by
            have := hn j ⟨o, hoj, hd⟩
            rw [set_getD hlt', if_pos rfl] at this; cases this
          rw [hgetne t hne]
          refine (hm.still t s (fun i hi => ?_) hst).mono hle
          have := hn i hi
          rw [set_getD hlt'] at this
          split at this
          · cases this
          · exact this
        · have := (hm.fr.chg hcg hi)
          refine ⟨?_, fun _ _ h => h.elim, this.boxes, this.inj, this.inv⟩
          cases hd : o.dst with
          | none => exact hm.fr.len
          | some d => show _ = (a.tmps.setIfInBounds d v).size; rw [Array.size_setIfInBounds]; exact hm.fr.len
    unfold wpOp
    rw [hoj]
    simp only
    rw [hwant]
    cases b with
    | true =>
      rw [if_pos rfl]
      exact .inl (hb1 rfl E a w _ Q (hfr.weaken fun t ht => List.mem_append_left _ ht) hm.gl next)
    | false =>
      rw [if_neg (by simp)]
      exact next undef E.m w (.refl _ _) hm.fr.inv (by rw [hb2 rfl]; rfl)

theorem region_draw_ok {sp : Specs} (hsp : ∀ g s, sp g = some s → Sound P C g s) {n id : Nat} {ops : Array Oper} {st : St} {K : St → Option R} {r : R} {E : Env} {a : Act} {w : World} {Q : Exit → Act → World → Prop} {ds : List Deferred} (hd : drawOk P ops = true)
    (h : opsP P sp n ops ops.toList st K = some r) (hg : GR C m0 w0 E st a.tmps w) (hds : a.defers = ds)
    (hQ : ∀ st' E' a' w', K st' = some r → GR C m0 w0 E' st' a'.tmps w' → a'.defers = ds → Q .normal a' w') : (Code.region id ops true).wp P Q a w := by
  obtain ⟨hmix, ho⟩ := ord_of hd
  obtain ⟨S, T, hT, hK, ht⟩ := opsP_ok hsp ops.toList 0 st rfl (Nat.zero_le _) h
  refine wp_region_any hmix (draw_ok ho ht hT (fun E' a' w' hg' hd' => hQ _ E' a' w' hK hg' hd') ops.size _ E a _ ?_ ?_)
  · unfold left_
    refine Nat.le_trans (List.length_filter_le _ _) ?_
    simp
  · have hc : Chg C E.m w E.m { w with drawn := w.drawn + 1 } := ⟨rfl, rfl, rfl, fun _ => Nat.le_succ _, Nat.le_refl _, fun _ _ => rfl, fun _ _ => rfl⟩
    have hnone : ∀ i, (Array.replicate ops.size false).getD i false = false := fun i => by
      rw [Array.getD_eq_getD_getElem?, Array.getElem?_replicate]; split <;> rfl
    refine ⟨by simp, fun i o _ h => ?_, fun i t h => ?_, fun t s _ hs => hg.fr.slots t s trivial hs, ⟨hg.fr.len, fun _ _ h => h.elim, hg.fr.boxes, hg.fr.inj, hg.fr.inv⟩, hg.chg.trans hc, hg.own, hg.lt, hg.top, hg.gl, hds⟩
    · rw [hnone] at h; cases h
    · rw [hnone] at h; cases h
end
end Go.Proofs.YtadamegddcadcaaDoorPi

namespace Go.Proofs.YtadamegddcadcaaDoorPi
open Go

def Env.cut (E : Env) (nb : Nat) : Env := { E with β := fun i => if i < nb then E.β i else none }

theorem rep_low {E : Env} {nb : Nat} : ∀ (t : Ty) (x : t.den) (cs : List Value), low nb t = true → rep E t x cs → rep (E.cut nb) t x cs
  | .unit, _, _, _, r => r
  | .bool, _, _, _, r => r
  | .int _, _, _, _, r => r
  | .str, _, _, _, r => r
  | .pair a b, _, _, h, ⟨c1, c2, e, r1, r2⟩ => by
    simp only [low, Bool.and_eq_true] at h
    exact ⟨c1, c2, e, rep_low a _ _ h.1 r1, rep_low b _ _ h.2 r2⟩
  | .list t, _, _, h, ⟨A, cap, e, hc, hr⟩ => ⟨A, cap, e, hc, fun i x hx => let ⟨a, c, ha, hs, r, w⟩ := hr i x hx; ⟨a, c, ha, hs, rep_low t _ _ h r, w⟩⟩
  | .own _ t, _, _, h, ⟨A, cap, e, ht, hc, hs, hr⟩ => ⟨A, cap, e, ht, hc, hs, fun i x hx => let ⟨a, c, ha, r, w⟩ := hr i x hx; ⟨a, c, ha, rep_low t _ _ h r, w⟩⟩
  | .ref t, _, _, h, ⟨a, c, e, r, w⟩ => ⟨a, c, e, rep_low t _ _ h r, w⟩
  | .ptr i _ _, _, _, h, ⟨b, hb, e⟩ => ⟨b, by
      have : i < nb := of_decide_eq_true h
      show (if i < nb then _ else _) = _
      rw [if_pos this]; exact hb, e⟩
  | .fn _ _ b, _, _, h, ⟨bs, r, e⟩ => ⟨bs, rep_low b _ _ h r, e⟩

theorem keepS_get {k : List Nat} {nb : Nat} : ∀ (l : List Slot) (i j : Nat) (s : Slot), (keepS k nb i l)[j]? = some s → ∃ s0, l[j]? = some s0 ∧ (s = .junk ∨ (s = s0 ∧ (s0 = .undef ∨ ∃ x, s0 = .v x ∧ low nb x.t = true)))
  | [], _, _, _, h => by simp [keepS] at h
  | s0 :: l, i, 0, s, h => by
    refine ⟨s0, rfl, ?_⟩
    simp only [keepS, List.getElem?_cons_zero, Option.some.injEq] at h
    split at h
    · split at h
      · rename_i x
        split at h
        · rename_i hx; exact .inr ⟨h.symm, .inr ⟨x, rfl, hx⟩⟩
        · exact .inl h.symm
      · exact .inr ⟨h.symm, .inl rfl⟩
      · exact .inl h.symm
    · exact .inl h.symm
  | s0 :: l, i, j + 1, s, h => by
    simp only [keepS, List.getElem?_cons_succ] at h
    obtain ⟨s1, h1, h2⟩ := keepS_get l (i + 1) j s h
    exact ⟨s1, by simpa using h1, h2⟩
theorem keepS_length {k : List Nat} {nb : Nat} : ∀ (l : List Slot) (i : Nat), (keepS k nb i l).length = l.length
  | [], _ => rfl
  | _ :: l, i => by simp [keepS, keepS_length l (i + 1)]
theorem keepB_get {nb : Nat} : ∀ (l : List (Option TV)) (j : Nat) (t : TV), (keepB nb l)[j]? = some (some t) → l[j]? = some (some t) ∧ low nb t.t = true
  | [], _, _, h => by simp [keepB] at h
  | some x :: l, 0, t, h => by
    simp only [keepB, List.getElem?_cons_zero, Option.some.injEq] at h
    split at h
    · rename_i hx; obtain rfl := Option.some.inj h; exact ⟨rfl, hx⟩
    · cases h
  | none :: l, 0, t, h => by simp [keepB] at h
  | some x :: l, j + 1, t, h => by
    simp only [keepB, List.getElem?_cons_succ] at h
    obtain ⟨h1, h2⟩ := keepB_get l j t h
    exact ⟨by simpa using h1, h2⟩
  | none :: l, j + 1, t, h => by
    simp only [keepB, List.getElem?_cons_succ] at h
    obtain ⟨h1, h2⟩ := keepB_get l j t h
    exact ⟨by simpa using h1, h2⟩
theorem keepB_length {nb : Nat} : ∀ (l : List (Option TV)), (keepB nb l).length = l.length
  | [] => rfl
  | some _ :: l => by simp [keepB, keepB_length l]
  | none :: l => by simp [keepB, keepB_length l]

section
variable {P : Program} {C : Ctx} {m0 : Mem} {w0 : World} {E : Env} {st : St} {a : Act} {w : World}

theorem GR.keep {tmps : Array Value} (h : GR C m0 w0 E st tmps w) (k : List Nat) (nb : Nat) : GR C m0 w0 (E.cut nb) (st.keep k nb) tmps w := by
  have hβ : ∀ i b, (E.cut nb).β i = some b → i < nb ∧ E.β i = some b := fun i b hb => by
    have hb' : (if i < nb then E.β i else none) = some b := hb
    split at hb'
    · exact ⟨by assumption, hb'⟩
    · cases hb'
  refine ⟨⟨by show (keepS k nb 0 st.t).length = _; rw [keepS_length]; exact h.fr.len, fun i s _ hs => ?_, fun i t ht => ?_, fun i j b hi hj => h.fr.inj i j b (hβ _ _ hi).2 (hβ _ _ hj).2, h.fr.inv⟩, h.chg, fun i b hb => h.own i b (hβ _ _ hb).2, fun i b hb => h.lt i b (hβ _ _ hb).2, fun i hi => ?_, h.gl⟩
  · obtain ⟨s0, h0, rfl | ⟨rfl, rfl | ⟨x, rfl, hx⟩⟩⟩ := keepS_get st.t 0 i s hs
    · trivial
    · exact h.fr.slots i _ trivial h0
    · obtain ⟨cs, r, e⟩ := h.fr.slots i _ trivial h0
      exact ⟨cs, rep_low _ _ _ hx r, e⟩
  · obtain ⟨h1, h2⟩ := keepB_get _ i t ht
    have hi : i < nb := by
      have h3 : i < (st.b.take nb).length := (List.getElem?_eq_some_iff.1 h1).1
      rw [List.length_take] at h3; omega
    rw [List.getElem?_take, if_pos hi] at h1
    obtain ⟨blk, cs, e, hb, hh, hr, hm⟩ := h.fr.boxes i t h1
    exact ⟨blk, cs, e, by show (if i < nb then _ else _) = _; rw [if_pos hi]; exact hb, hh, rep_low _ _ _ h2 hr, hm⟩
  · have hi' : (keepB nb (st.b.take nb)).length ≤ i := hi
    rw [keepB_length, List.length_take] at hi'
    show (if i < nb then E.β i else none) = none
    split
    · exact h.top i (by omega)
    · rfl

theorem GR.keepA {tmps : Array Value} (h : GR C m0 w0 E st tmps w) (an : An) : ∃ E', GR C m0 w0 E' (st.keepA an) tmps w := by
  unfold St.keepA
  split
  · exact ⟨_, h.keep _ _⟩
  · exact ⟨_, h.keep _ _⟩
  · exact ⟨_, h⟩

def Ex.out : Ex → Exit
  | .norm => .normal
  | .exit id => .exit id
  | .ret => .ret

theorem least (p : Nat → Prop) (h : ∃ n, p n) : ∃ n, p n ∧ ∀ m, p m → n ≤ m := by
  obtain ⟨n, hn⟩ := h
  induction n using Nat.strongRecOn with
  | _ n ih =>
    by_cases hm : ∃ m, m < n ∧ p m
    · obtain ⟨m, hlt, hp⟩ := hm
      exact ih m hlt hp
    · exact ⟨n, hn, fun m hp => Nat.le_of_not_lt fun hlt => hm ⟨m, hlt, hp⟩⟩

/-- A loop, by its rounds. -/
theorem wp_loop_rounds {c : Code} {Q : Exit → Act → World → Prop} (G : Nat → Act → World → Prop) {n : Nat} (h0 : G n a w)
    (hr : ∀ n a w, G n a w → ∃ k, n = k + 1 ∧ c.wp P (Exit.then (G k) Q) a w) : (Code.loop c).wp P Q a w := by
  have hl : ∀ a w, ∃ m, (∃ n, G n a w) → G m a w ∧ ∀ k, G k a w → m ≤ k := fun a w => by
    by_cases h : ∃ n, G n a w
    · obtain ⟨m, hm⟩ := least _ h
      exact ⟨m, fun _ => hm⟩
    · exact ⟨0, fun h' => absurd h' h⟩
  refine wp_loop (fun a w => ∃ n, G n a w) (fun a w => (hl a w).choose) ⟨n, h0⟩ fun a w hi => ?_
  obtain ⟨hg, hmin⟩ := (hl a w).choose_spec hi
  obtain ⟨k, hk, hw⟩ := hr _ a w hg
  refine wp_mono hw fun e a' w' hq => ?_
  cases e <;> try exact hq
  refine ⟨⟨k, hq⟩, ?_⟩
  have := ((hl a' w').choose_spec ⟨k, hq⟩).2 k hq
  omega

variable {R : Type}
theorem codeK_ok {sp : Specs} (hsp : ∀ g s, sp g = some s → Sound P C g s) {n : Nat} {r : R} {ds : List Deferred} : ∀ (c : Code) (an : An) (st : St) (K : Ex → St → Option R) (E : Env) (a : Act) (w : World) (Q : Exit → Act → World → Prop),
    codeK P sp n c an st K = some r → GR C m0 w0 E st a.tmps w → a.defers = ds →
    (∀ e st' E' a' w', K e st' = some r → GR C m0 w0 E' st' a'.tmps w' → a'.defers = ds → Q e.out a' w') → c.wp P Q a w := by
  intro c
  induction c with
  | skip => intro an st K E a w Q h hg hd hQ; exact wp_skip (hQ .norm st E a w h hg hd)
  | region id ops draw =>
    intro an st K E a w Q h hg hd hQ
    cases draw with
    | true =>
      simp only [codeK] at h
      split at h
      · rename_i hdr
        exact region_draw_ok hsp hdr h hg hd (fun st' E' a' w' hk hg' hd' => hQ .norm st' E' a' w' hk hg' hd')
      · cases h
    | false =>
      simp only [codeK] at h
      refine wp_region ?_
      have := opsK_ok hsp (fun st' E' a' w' hk hg' hd' => hQ .norm st' E' a' w' hk hg' hd') ops.toList 0 st E a w rfl h hg hd
      rw [List.range_eq_range']
      simpa using this
  | seq x y ihx ihy =>
    intro an st K E a w Q h hg hd hQ
    simp only [codeK] at h
    refine wp_seq (ihx an.left st _ E a w _ h hg hd fun e st' E' a' w' hk hg' hd' => ?_)
    cases e with
    | norm =>
      obtain ⟨E2, hg2⟩ := hg'.keepA an
      exact ihy an.right _ K E2 a' w' Q hk hg2 hd' hQ
    | exit id => exact hQ _ _ E' a' w' hk hg' hd'
    | ret => exact hQ _ _ E' a' w' hk hg' hd'
  | cond c x y ihx ihy =>
    intro an st K E a w Q h hg hd hQ
    simp only [codeK] at h
    split at h
    · rename_i b hb
      have hv := vrep_bool (opd_ok hg.fr (fun _ _ => trivial) hb)
      rcases bif_some h with ⟨rfl, h2⟩ | ⟨rfl, h2⟩
      · exact wp_cond_true hv (ihx _ _ _ E a w Q h2 (hg.knowO hv) hd hQ)
      · exact wp_cond_false hv (ihy _ _ _ E a w Q h2 (hg.knowO hv) hd hQ)
    · cases h
  | block id x ih =>
    intro an st K E a w Q h hg hd hQ
    simp only [codeK] at h
    refine wp_block (ih an.left st _ E a w _ h hg hd fun e st' E' a' w' hk hg' hd' => ?_)
    cases e with
    | norm => exact hQ _ _ E' a' w' hk hg' hd'
    | exit j =>
      simp only [Ex.out, Exit.inBlock]
      simp only at hk
      split at hk
      · rename_i hj; rw [if_pos hj]; exact hQ .norm _ E' a' w' hk hg' hd'
      · rename_i hj; rw [if_neg hj]; exact hQ (.exit j) _ E' a' w' hk hg' hd'
    | ret => exact hQ _ _ E' a' w' hk hg' hd'
  | loop x ih =>
    intro an st K E a w Q h hg hd hQ
    simp only [codeK] at h
    obtain ⟨E1, hg1⟩ := hg.keepA an
    refine wp_loop_rounds (fun k a w => ∃ E st, rounds (fun rec st => codeK P sp n x an.left st fun e st' => match e with
      | .norm => rec (st'.keepA an)
      | e => K e st') k st = some r ∧ GR C m0 w0 E st a.tmps w ∧ a.defers = ds) ⟨E1, _, h, hg1, hd⟩ fun k a w hk => ?_
    obtain ⟨E, st, h, hg, hd⟩ := hk
    cases k with
    | zero => cases h
    | succ k =>
      refine ⟨k, rfl, ?_⟩
      simp only [rounds] at h
      refine ih an.left st _ E a w _ h hg hd fun e st' E' a' w' hk hg' hd' => ?_
      cases e with
      | norm =>
        obtain ⟨E2, hg2⟩ := hg'.keepA an
        exact ⟨E2, _, hk, hg2, hd'⟩
      | exit j => exact hQ _ _ E' a' w' hk hg' hd'
      | ret => exact hQ _ _ E' a' w' hk hg' hd'
  | exit id => intro an st K E a w Q h hg hd hQ; exact wp_exit (hQ (.exit id) st E a w h hg hd)
  | label l => intro an st K E a w Q h hg hd hQ; exact wp_label (hQ .norm st E a w h hg hd)
  | ret => intro an st K E a w Q h hg hd hQ; exact wp_ret (hQ .ret st E a w h hg hd)
  | _ => intro an st K E a w Q h; simp [codeK] at h
end
end Go.Proofs.YtadamegddcadcaaDoorPi

namespace Go.Proofs.YtadamegddcadcaaDoorPi
open Go

def plain : Ty → Bool
  | .pair a b => plain a && plain b
  | .list t | .ref t => plain t
  | .own _ _ | .ptr _ _ _ => false
  | .fn _ _ b => plain b
  | _ => true

theorem rep_plain {E E' : Env} (he : E.m = E'.m) : ∀ (t : Ty) (x : t.den) (cs : List Value), plain t = true → rep E t x cs → rep E' t x cs
  | .unit, _, _, _, r => r
  | .bool, _, _, _, r => r
  | .int _, _, _, _, r => r
  | .str, _, _, _, r => r
  | .pair a b, _, _, h, ⟨c1, c2, e, r1, r2⟩ => by
    simp only [plain, Bool.and_eq_true] at h
    exact ⟨c1, c2, e, rep_plain he a _ _ h.1 r1, rep_plain he b _ _ h.2 r2⟩
  | .list t, _, _, h, ⟨A, cap, e, hc, hr⟩ => ⟨A, cap, e, hc, fun i x hx => let ⟨a, c, ha, hs, r, w⟩ := hr i x hx; ⟨a, c, ha, hs, rep_plain he t _ _ h r, he ▸ w⟩⟩
  | .ref t, _, _, h, ⟨a, c, e, r, w⟩ => ⟨a, c, e, rep_plain he t _ _ h r, he ▸ w⟩
  | .fn _ _ b, _, _, h, ⟨bs, r, e⟩ => ⟨bs, rep_plain he b _ _ h r, e⟩
theorem vals_plain {E E' : Env} (he : E.m = E'.m) : ∀ (t : Ty) (x : t.den) (vs : List Value), plain t = true → vals E t x vs → vals E' t x vs
  | .unit, _, _, _, r => r
  | .pair a b, _, _, h, ⟨v, vs', e, ⟨cs, r, hv⟩, r2⟩ => by
    simp only [plain, Bool.and_eq_true] at h
    exact ⟨v, vs', e, ⟨cs, rep_plain he a _ _ h.1 r, hv⟩, vals_plain he b _ _ h.2 r2⟩

section
variable {P : Program} {C : Ctx} {m0 : Mem} {w0 : World} {E : Env} {st : St} {w : World}

theorem loadK_val {ty : TypeId} {a : TV} {s : Slot} (h : loadK P st ty a some = some s) :
    ∀ (X : Nat → Prop) (E : Env) (tmps : Array Value) (w : World) (va : Value), FR X E st tmps w → VRep E a.t a.x va → ∃ ad v, va = .pointer (some ad) ∧ (loadVar ty ad).run P w = .ok v w ∧ SlotRep E s v := by
  obtain ⟨s', hs, hv⟩ := loadK_ok h
  obtain rfl := Option.some.inj hs
  intro X E tmps w va hf ha
  obtain ⟨v, hrun, hr⟩ := hv X E tmps w va hf ha
  cases va with
  | pointer p =>
    cases p with
    | none => simp [Instr.loadAt, Instr.sureAddr] at hrun
    | some ad =>
      refine ⟨ad, v, rfl, ?_, hr⟩
      simpa [Instr.loadAt, Instr.sureAddr] using hrun
  | _ => simp [Instr.loadAt, Instr.sureAddr] at hrun

def resV (tmps : Array Value) : ResultVar → Sem Value
  | .tmp t => pure (tmps.getD t undef)
  | .cell a t => do loadVar t (← asAddr (tmps.getD a undef))

/-- The results' values. -/
theorem resT_ok {tmps : Array Value} (hf : FR (fun _ => True) E st tmps w) : ∀ (t : Ty) (rs : List ResultVar) (y : t.den), resT P st t rs = some y →
    ∃ vs, vals E t y vs ∧ (rs.mapM (resV tmps)).run P w = .ok vs w
  | .unit, [], _, _ => ⟨[], rfl, by simp⟩
  | .pair a b, .tmp t :: rs, y, h => by
    simp only [resT] at h
    split at h
    · rename_i y1 y2 h1 h2
      obtain rfl := Option.some.inj h
      obtain ⟨vs, hvs, hrun⟩ := resT_ok hf b rs y2 h2
      have hv := opdT_ok (a := ⟨tmps, []⟩) hf (fun _ _ => trivial) h1
      refine ⟨_, ⟨_, vs, rfl, hv, hvs⟩, ?_⟩
      rw [List.mapM_cons, Sem.run_bind, resV, Sem.run_pure, Result.andThen_ok, Sem.run_bind, hrun]; rfl
    · cases h
  | .pair a b, .cell t ty :: rs, y, h => by
    simp only [resT] at h
    split at h
    · rename_i tv z h1 h2
      split at h
      · rename_i u h3
        split at h
        · rename_i y1 h4
          obtain rfl := Option.some.inj h
          obtain ⟨vs, hvs, hrun⟩ := resT_ok hf b rs z h2
          have hv := opd_ok (a := ⟨tmps, []⟩) hf (fun _ _ => trivial) h1
          obtain ⟨ad, v, hva, hl, hr⟩ := loadK_val h3 _ E tmps w _ hf hv
          have hva' : tmps.getD t undef = .pointer (some ad) := hva
          refine ⟨_, ⟨v, vs, rfl, castTV_ok h4 hr, hvs⟩, ?_⟩
          rw [List.mapM_cons, Sem.run_bind, resV, Sem.run_bind, hva']
          simp only [asAddr, Sem.run_pure, Result.andThen_ok, hl, Sem.run_bind, hrun]
        · cases h
      · cases h
    · cases h
  | .unit, _ :: _, _, h | .pair _ _, [], _, h | .bool, _, _, h | .int _, _, _, h | .str, _, _, h | .list _, _, _, h | .own _ _, _, _, h | .ref _, _, _, h | .ptr _ _ _, _, _, h | .fn _ _ _, _, _, h => by simp [resT] at h

theorem vals_ret {E : Env} : ∀ (t : Ty) (x : t.den) (vs : List Value), vals E t x vs → SlotRep E (retSlot t x) (if h : vs.toArray.size = 1 then vs.toArray[0] else .tuple vs.toArray)
  | .unit, _, _, h => by
    obtain rfl : _ = [] := h
    exact ⟨[], rfl, rfl⟩
  | .pair a .unit, x, _, h => by
    obtain ⟨v, vs', rfl, hv, h2⟩ := h
    obtain rfl : vs' = [] := h2
    exact hv
  | .pair a (.pair b c), x, _, h => by
    have h' := h
    obtain ⟨v, vs', rfl, hv, v2, vs2, rfl, h2, h3⟩ := h
    rw [dif_neg (by simp)]
    exact ⟨_, h', rfl⟩
  | .pair _ .bool, _, _, h | .pair _ (.int _), _, _, h | .pair _ .str, _, _, h | .pair _ (.list _), _, _, h | .pair _ (.own _ _), _, _, h | .pair _ (.ref _), _, _, h | .pair _ (.ptr _ _ _), _, _, h | .pair _ (.fn _ _ _), _, _, h => by
    obtain ⟨v, vs', _, _, h2⟩ := h
    exact h2.elim

theorem start_ok {τ : Nat → Option Value} {β : Nat → Option Nat} {m : Mem} : ∀ (t : Ty) (x : t.den) (vs : List Value), vals ⟨m, β, τ⟩ t x vs → (start.go t x).length = vs.length ∧ ∀ i s, (start.go t x)[i]? = some s → SlotRep ⟨m, β, τ⟩ s (vs.getD i undef)
  | .unit, _, _, h => by obtain rfl : _ = [] := h; exact ⟨rfl, fun i s hs => by simp [start.go] at hs⟩
  | .pair a b, x, _, h => by
    obtain ⟨v, vs', rfl, hv, h2⟩ := h
    obtain ⟨h3, h4⟩ := start_ok b x.2 vs' h2
    refine ⟨by simp [start.go, h3], fun i s hs => ?_⟩
    cases i with
    | zero => simp only [start.go, List.getElem?_cons_zero, Option.some.injEq] at hs; subst hs; exact hv
    | succ i => simp only [start.go, List.getElem?_cons_succ] at hs; exact h4 i s hs

/-- What a function's evaluator gives is what the function does. -/
theorem sound_fun {sp : Specs} (hsp : ∀ g s, sp g = some s → Sound P C g s) {f : FuncId} {fn : Func} (hf : P.funcs[f]? = some fn) (hn : (fn.name == "runtime.NumGoroutine") = false) (hb : fn.body.isNone = false) (an : An) (s : Sp)
    (hp : plain s.ps = true) (hr : plain s.rs = true) (hF : ∀ n x, s.F n x = funK P sp fn an s.ps s.rs n x) : Sound P C f s := by
  refine ⟨fun args w => ?_, fun n x r h m β τ w vs hi hG hv => ?_⟩
  · unfold callFunc
    simp only [Sem.run_bind, run_program, Result.andThen_ok, hf, hn, hb, Bool.false_eq_true, if_false]
    rfl
  · rw [hF] at h
    unfold funK at h
    split at h
    · rename_i c hc
      refine calls_of_wp hf hc ?_
      have hv' : vals ⟨m, fun _ => none, τ⟩ s.ps x vs := vals_plain (E := ⟨m, β, τ⟩) (E' := ⟨m, fun _ => none, τ⟩) rfl _ _ _ hp hv
      obtain ⟨hlen, hslots⟩ := start_ok _ _ _ hv'
      have hg : GR C m w ⟨m, fun _ => none, τ⟩ (start s.ps x fn.ntmps) (vs.toArray ++ Array.replicate (fn.ntmps - vs.toArray.size) undef) w := by
        refine ⟨⟨?_, fun i q _ hq => ?_, fun i tv ht => ?_, fun _ _ _ hb => (nomatch hb), hi⟩, .refl _ _, fun _ _ hb => (nomatch hb), fun _ _ hb => (nomatch hb), fun _ _ => rfl, hG⟩
        · simp [start, hlen]
        · have hq' : (start.go s.ps x ++ List.replicate (fn.ntmps - (start.go s.ps x).length) Slot.undef)[i]? = some q := hq
          by_cases hlt : i < vs.length
          · rw [List.getElem?_append_left (by omega)] at hq'
            have := hslots i q hq'
            rw [Array.getD_eq_getD_getElem?, Array.getElem?_append_left (by simpa using hlt)]
            rw [List.getD_eq_getElem?_getD] at this
            simpa using this
          · rw [List.getElem?_append_right (by omega)] at hq'
            have hq2 := List.getElem?_replicate .. ▸ hq'
            split at hq2
            · obtain rfl := Option.some.inj hq2
              show _ = undef
              rw [Array.getD_eq_getD_getElem?, Array.getElem?_append_right (by simpa using hlt)]
              rw [Array.getElem?_replicate]
              split <;> rfl
            · cases hq2
        · simp [start] at ht
      refine codeK_ok (m0 := m) (w0 := w) (r := r) (ds := []) hsp c an _ _ _ ⟨_, []⟩ w _ h hg rfl fun e st' E' a' w' hk hg' hd' => ?_
      have fin : resT P st' s.rs fn.results.toList = some r → a'.defers = [] ∧ ∃ v, (results fn a'.tmps).run P w' = .ok v w' ∧ (∃ v_1 m', Ending.returned v = .returned v_1 ∧ Chg C m w m' w' ∧ Inv m' w' ∧ SlotRep ⟨m', β, τ⟩ (retSlot s.rs r) v_1) := fun hres => by
        obtain ⟨vs', hvs, hrun⟩ := resT_ok hg'.fr _ _ _ hres
        have hvs' : vals ⟨E'.m, β, τ⟩ s.rs r vs' := vals_plain (E := E') (E' := ⟨E'.m, β, τ⟩) rfl _ _ _ hr hvs
        refine ⟨hd', _, ?_, ⟨_, E'.m, rfl, hg'.chg, hg'.fr.inv, vals_ret _ _ _ hvs'⟩⟩
        have hres' : results fn a'.tmps = (do
          let vs ← fn.results.mapM (resV a'.tmps)
          pure (if h : vs.size = 1 then vs[0] else .tuple vs)) := rfl
        rw [hres', Sem.run_bind, Array.mapM_eq_mapM_toList, Sem.run_map, hrun]
        rfl
      cases e with
      | norm => exact fin hk
      | exit id => cases hk
      | ret => exact fin hk
    · cases h
end
end Go.Proofs.YtadamegddcadcaaDoorPi

namespace Go.Proofs.YtadamegddcadcaaDoorPi
open Go

theorem codeK_R {R : Type} {P : Program} {sp : Specs} {n : Nat} : ∀ (c : Code) (an : An) (st : St) (K : Ex → St → Option R), codeK P sp n c an st K = codeR (codeK P sp n) P sp n c an st K := by
  intro c
  induction c with
  | skip => intro an st K; rfl
  | region id ops draw => intro an st K; cases draw <;> rfl
  | seq x y ihx ihy =>
    intro an st K
    have h : codeK P sp n (.seq x y) an st K = codeK P sp n x an.left st (kSeq (fun st' => codeK P sp n y an.right st' K) an K) := rfl
    rw [h, ihx]
    cases an with
    | k l nb p q => rfl
    | _ =>
      show codeR _ P sp n x _ st _ = codeR _ P sp n x _ st _
      congr 1
      funext e st'
      cases e <;> first | exact ihy _ _ _ | rfl
  | cond c x y ihx ihy =>
    intro an st K
    simp only [codeK, codeR, ihx, ihy]
  | block id x ih =>
    intro an st K
    have h : codeK P sp n (.block id x) an st K = codeK P sp n x an.left st (kBlk id K) := rfl
    rw [h, ih]
    rfl
  | loop x ih =>
    intro an st K
    have h : codeK P sp n (.loop x) an st K = rounds (fun rec st => codeK P sp n x an.left st (kSeq rec an K)) n (st.keepA an) := rfl
    rw [h]
    have h2 : (fun (rec : St → Option R) st => codeK P sp n x an.left st (kSeq rec an K)) = fun rec st => codeR (codeK P sp n) P sp n x an.left st (kSeq rec an K) := by
      funext rec st; exact ih _ _ _
    rw [h2]
    rfl
  | exit id => intro an st K; rfl
  | label l => intro an st K; rfl
  | ret => intro an st K; rfl
  | _ => intro an st K; rfl

theorem rounds_mk {R σ : Type} (mk : σ → St) {f : (St → Option R) → St → Option R} {g : (σ → Option R) → σ → Option R} (h : ∀ rec x, f rec (mk x) = g (fun y => rec (mk y)) x) : ∀ n x, rounds f n (mk x) = rounds g n x
  | 0, _ => rfl
  | n + 1, x => by
    show f (rounds f n) (mk x) = g (rounds g n) x
    rw [h]
    congr 1
    funext y
    exact rounds_mk mk h n y

def look : List (Nat × Sp) → Specs
  | [], _ => none
  | (g, s) :: l, i => if i = g then some s else look l i
theorem look_nil {P : Program} {C : Ctx} : ∀ g s, look [] g = some s → Sound P C g s := fun _ _ h => by cases h
theorem look_cons {P : Program} {C : Ctx} {g0 : Nat} {s0 : Sp} {l : List (Nat × Sp)} (h0 : Sound P C g0 s0) (hl : ∀ g s, look l g = some s → Sound P C g s) : ∀ g s, look ((g0, s0) :: l) g = some s → Sound P C g s := fun g s h => by
  simp only [look] at h
  split at h
  · rename_i e; subst e; obtain rfl := Option.some.inj h; exact h0
  · exact hl g s h

/-- A function, by its body's equation. -/
theorem sound_of {P : Program} {C : Ctx} {sp : Specs} (hsp : ∀ g s, sp g = some s → Sound P C g s) {f : FuncId} {fn : Func} (hf : P.funcs[f]? = some fn) (hn : (fn.name == "runtime.NumGoroutine") = false) (hb : fn.body.isNone = false) (an : An) (s : Sp)
    (hp : plain s.ps = true) (hr : plain s.rs = true) (hF : ∀ n x, codeK P sp n (bodyOf fn) an (start s.ps x fn.ntmps) (kFin P s.rs fn) = s.F n x) : Sound P C f s :=
  sound_fun hsp hf hn hb an s hp hr fun n x => by
    rw [← hF n x]
    unfold funK bodyOf
    cases h : fn.body with
    | none => rw [h] at hb; cases hb
    | some c => rfl
end Go.Proofs.YtadamegddcadcaaDoorPi
