import Derived.Orders
import Derived.Laws.OwnMore
import Derived.Laws.Sem
import Derived.Laws.Cells
import Derived.Laws.CopyRow
import Derived.Laws.Entries
import Derived.ChangeKeysEq
import Derived.Lib.ConvBytes
import Derived.Laws.BytesString
import Derived.Laws.BytesArg
import Derived.Laws.StructEq
set_option linter.unusedVariables false
namespace Go.Proofs.YtedenojeljjnaaaGreatDoorPi
open Go

/-- Types of values of the language, as far as the evaluator reaches. -/
inductive Ty where
  | unit | bool | int (k : IntKind) | str
  | pair (a b : Ty)
  | list (t : Ty) | nl (t : Ty) | sl (k : Nat) (t : Ty)
  | ref (t : Ty) | opt (t : Ty)
  | ptr (i o : Nat) (t : Ty) | ep (k o : Nat) (e t : Ty)
  | fn (g nf : Nat) (b : Ty)
  | bld (T i k : Nat)
  | nif
  | ifi (T : Nat) (k : IntKind)
  deriving DecidableEq

@[reducible] def Ty.den : Ty → Type
  | .unit => Unit | .bool => Bool | .int _ => Int | .str => ByteArray
  | .pair a b => a.den × b.den
  | .list t => List t.den | .nl _ => Unit | .sl _ _ => Unit
  | .ref t => t.den | .opt t => Option t.den
  | .ptr _ _ _ => Unit | .ep _ _ _ _ => Nat
  | .fn _ _ b => b.den | .bld _ _ _ | .nif => Unit | .ifi _ _ => Int

def Ty.size : Ty → Nat
  | .unit => 0 | .pair a b => a.size + b.size | .bld _ _ _ => 2 | _ => 1
def Ty.isAgg : Ty → Bool
  | .unit | .pair _ _ | .bld _ _ _ => true | _ => false

/-- What is known of memory for good: block and place to value. -/
abbrev Mem := Nat → Nat → Option Value
structure Env where
  m : Mem
  β : Nat → Option Nat
  τ : Nat → Option Value

def Row (m : Mem) (a : Addr) (cs : List Value) : Prop := a.spot = none ∧ ∀ j v, cs[j]? = some v → m a.block (a.off + j) = some v

/-- The value of a type's cells. -/
def mkV (t : Ty) (cs : List Value) : Value := if t.isAgg then .agg cs.toArray else cs.headD undef
/-- A chain's values, out of its cells. -/
def unflat : Ty → List Value → List Value
  | .pair a b, cs => mkV a (cs.take a.size) :: unflat b (cs.drop a.size)
  | _, _ => []

def rep (E : Env) : (t : Ty) → t.den → List Value → Prop
  | .unit, _, cs => cs = []
  | .bool, b, cs => cs = [.bool b]
  | .int k, n, cs => cs = [.int k n]
  | .str, s, cs => cs = [.string s]
  | .pair a b, x, cs => ∃ c1 c2, cs = c1 ++ c2 ∧ rep E a x.1 c1 ∧ rep E b x.2 c2
  | .list t, xs, cs => ∃ A cap, cs = [.slice A xs.length cap] ∧ (A = none → cap = 0) ∧ xs.length ≤ cap ∧
      ∀ (i : Nat) x, xs[i]? = some x → ∃ a c, A = some a ∧ a.spot = none ∧ rep E t x c ∧ Row E.m ⟨a.block, a.off + i * t.size, none⟩ c
  | .nl _, _, cs => cs = [.slice none 0 0]
  | .sl k _, _, cs => ∃ A n cap, E.τ k = some (.slice A n cap) ∧ cs = [.slice A n cap]
  | .ref t, x, cs => ∃ a c, cs = [.pointer (some a)] ∧ rep E t x c ∧ Row E.m a c
  | .opt t, x, cs => (x = none ∧ cs = [.pointer none]) ∨ ∃ y a c, x = some y ∧ cs = [.pointer (some a)] ∧ rep E t y c ∧ Row E.m a c
  | .ptr i o _, _, cs => ∃ b, E.β i = some b ∧ cs = [.pointer (some ⟨b, o, none⟩)]
  | .ep k o e _, i, cs => ∃ b, E.β k = some b ∧ cs = [.pointer (some ⟨b, i * e.size + o, none⟩)]
  | .fn g nf b, x, cs => ∃ bs, rep E b x bs ∧ cs = [.func (.func g) ((unflat b bs).take nf).toArray ((unflat b bs).drop nf).toArray]
  | .bld _ i k, _, cs => ∃ p A n cap, cs = [.pointer p, .slice A n cap] ∧ E.τ k = some (.slice A n cap) ∧ (p = none ∨ ∃ b, E.β i = some b ∧ p = some ⟨b, 0, none⟩)
  | .nif, _, cs => cs = [.nilIface]
  | .ifi T k, n, cs => cs = [.iface T (.int k n)]

/-- Elements, one behind the other. -/
def reps (E : Env) (t : Ty) : List t.den → List Value → Prop
  | [], l => l = []
  | x :: xs, l => ∃ c1 c2, l = c1 ++ c2 ∧ rep E t x c1 ∧ reps E t xs c2

structure Env.le (E E' : Env) : Prop where
  m : ∀ b j v, E.m b j = some v → E'.m b j = some v
  β : ∀ i b, E.β i = some b → E'.β i = some b
  τ : ∀ k v, E.τ k = some v → E'.τ k = some v

theorem Env.le.refl (E : Env) : E.le E := ⟨fun _ _ _ h => h, fun _ _ h => h, fun _ _ h => h⟩
theorem Row.mono {m m' : Mem} (hm : ∀ b j v, m b j = some v → m' b j = some v) {a : Addr} {cs : List Value} (h : Row m a cs) : Row m' a cs :=
  ⟨h.1, fun j v hj => hm _ _ _ (h.2 j v hj)⟩

/-- Which boxes a type speaks of. -/
def Ty.on (p : Nat → Bool) : Ty → Bool
  | .pair a b => a.on p && b.on p
  | .list t | .nl t | .ref t | .opt t => t.on p
  | .sl k t => p k && t.on p
  | .ptr i _ _ => p i | .ep k _ _ _ => p k
  | .fn _ _ b => b.on p
  | .bld _ i k => p i && p k
  | _ => true

/-- A value stays what it is where the boxes that its type speaks of are the same. -/
theorem rep_on {E E' : Env} {p : Nat → Bool} (hm : ∀ b j v, E.m b j = some v → E'.m b j = some v) (hβ : ∀ i b, p i = true → E.β i = some b → E'.β i = some b) (hτ : ∀ k v, p k = true → E.τ k = some v → E'.τ k = some v) : ∀ (t : Ty) (x : t.den) (cs : List Value), t.on p = true → rep E t x cs → rep E' t x cs
  | .unit, _, _, _, r => r
  | .bool, _, _, _, r => r
  | .int _, _, _, _, r => r
  | .str, _, _, _, r => r
  | .pair a b, _, _, h, ⟨c1, c2, e, r1, r2⟩ => by
    simp only [Ty.on, Bool.and_eq_true] at h
    exact ⟨c1, c2, e, rep_on hm hβ hτ a _ _ h.1 r1, rep_on hm hβ hτ b _ _ h.2 r2⟩
  | .list t, _, _, h, ⟨A, cap, e, hn, hc, hr⟩ => ⟨A, cap, e, hn, hc, fun i x hx => let ⟨a, c, ha, hs, r, w⟩ := hr i x hx; ⟨a, c, ha, hs, rep_on hm hβ hτ t _ _ h r, w.mono hm⟩⟩
  | .nl _, _, _, _, r => r
  | .sl k t, _, _, h, ⟨A, n, cap, ht, e⟩ => by
    simp only [Ty.on, Bool.and_eq_true] at h
    exact ⟨A, n, cap, hτ _ _ h.1 ht, e⟩
  | .ref t, _, _, h, ⟨a, c, e, r, w⟩ => ⟨a, c, e, rep_on hm hβ hτ t _ _ h r, w.mono hm⟩
  | .opt t, _, _, h, .inl r => .inl r
  | .opt t, _, _, h, .inr ⟨y, a, c, ex, e, r, w⟩ => .inr ⟨y, a, c, ex, e, rep_on hm hβ hτ t _ _ h r, w.mono hm⟩
  | .ptr _ _ _, _, _, h, ⟨b, hb, e⟩ => ⟨b, hβ _ _ h hb, e⟩
  | .ep _ _ _ _, _, _, h, ⟨b, hb, e⟩ => ⟨b, hβ _ _ h hb, e⟩
  | .fn _ _ b, _, _, h, ⟨bs, r, e⟩ => ⟨bs, rep_on hm hβ hτ b _ _ h r, e⟩
  | .nif, _, _, _, r => r
  | .ifi _ _, _, _, _, r => r
  | .bld _ i k, _, _, h, ⟨q, A, n, cap, e, ht, hp⟩ => by
    simp only [Ty.on, Bool.and_eq_true] at h
    exact ⟨q, A, n, cap, e, hτ _ _ h.2 ht, hp.imp id fun ⟨b, hb, e⟩ => ⟨b, hβ _ _ h.1 hb, e⟩⟩
theorem on_true : ∀ t : Ty, t.on (fun _ => true) = true
  | .unit | .bool | .int _ | .str | .ptr _ _ _ | .ep _ _ _ _ | .bld _ _ _ | .nif | .ifi _ _ => rfl
  | .pair a b => by simp [Ty.on, on_true a, on_true b]
  | .list t | .nl t | .ref t | .opt t | .fn _ _ t => by simp [Ty.on, on_true t]
  | .sl _ t => by simp [Ty.on, on_true t]
theorem rep_mono {E E' : Env} (h : E.le E') (t : Ty) (x : t.den) (cs : List Value) (r : rep E t x cs) : rep E' t x cs :=
  rep_on (p := fun _ => true) h.m (fun i b _ => h.β i b) (fun k v _ => h.τ k v) t x cs (on_true t) r
theorem reps_on {E E' : Env} {p : Nat → Bool} (hm : ∀ b j v, E.m b j = some v → E'.m b j = some v) (hβ : ∀ i b, p i = true → E.β i = some b → E'.β i = some b) (hτ : ∀ k v, p k = true → E.τ k = some v → E'.τ k = some v) {t : Ty} (h : t.on p = true) : ∀ (xs : List t.den) (l : List Value), reps E t xs l → reps E' t xs l
  | [], _, r => r
  | _ :: _, _, ⟨c1, c2, e, r1, r2⟩ => ⟨c1, c2, e, rep_on hm hβ hτ t _ _ h r1, reps_on hm hβ hτ h _ _ r2⟩
theorem reps_mono {E E' : Env} (h : E.le E') {t : Ty} (xs : List t.den) (l : List Value) (r : reps E t xs l) : reps E' t xs l :=
  reps_on (p := fun _ => true) h.m (fun i b _ => h.β i b) (fun k v _ => h.τ k v) (on_true t) xs l r

theorem rep_length {E : Env} : ∀ (t : Ty) (x : t.den) (cs : List Value), rep E t x cs → cs.length = t.size
  | .unit, _, _, r => by rw [show _ = [] from r]; rfl
  | .bool, _, _, r => by rw [show _ = [_] from r]; rfl
  | .int _, _, _, r => by rw [show _ = [_] from r]; rfl
  | .str, _, _, r => by rw [show _ = [_] from r]; rfl
  | .pair a b, _, _, ⟨c1, c2, e, r1, r2⟩ => by
    rw [e, List.length_append, rep_length a _ _ r1, rep_length b _ _ r2]; rfl
  | .list t, _, _, ⟨A, cap, e, _⟩ => by rw [e]; rfl
  | .nl _, _, _, r => by rw [show _ = [_] from r]; rfl
  | .sl _ t, _, _, ⟨A, n, cap, _, e⟩ => by rw [e]; rfl
  | .ref t, _, _, ⟨a, c, e, _⟩ => by rw [e]; rfl
  | .opt t, _, _, .inl ⟨_, e⟩ => by rw [e]; rfl
  | .opt t, _, _, .inr ⟨_, _, _, _, e, _⟩ => by rw [e]; rfl
  | .ptr _ _ _, _, _, ⟨b, _, e⟩ => by rw [e]; rfl
  | .ep _ _ _ _, _, _, ⟨b, _, e⟩ => by rw [e]; rfl
  | .fn _ _ b, _, _, ⟨bs, _, e⟩ => by rw [e]; rfl
  | .bld _ _ _, _, _, ⟨_, _, _, _, e, _⟩ => by rw [e]; rfl
  | .nif, _, _, r => by rw [show _ = [_] from r]; rfl
  | .ifi _ _, _, _, r => by rw [show _ = [_] from r]; rfl
theorem reps_length {E : Env} {t : Ty} : ∀ (xs : List t.den) (l : List Value), reps E t xs l → l.length = xs.length * t.size
  | [], _, r => by rw [show _ = [] from r]; simp
  | x :: xs, _, ⟨c1, c2, e, r1, r2⟩ => by
    rw [e, List.length_append, rep_length _ _ _ r1, reps_length xs _ r2, List.length_cons, Nat.add_mul]; omega
theorem reps_append {E : Env} {t : Ty} : ∀ (xs ys : List t.den) (l k : List Value), reps E t xs l → reps E t ys k → reps E t (xs ++ ys) (l ++ k)
  | [], _, _, _, r, q => by rw [show _ = [] from r]; exact q
  | x :: xs, ys, _, k, ⟨c1, c2, e, r1, r2⟩, q => ⟨c1, c2 ++ k, by rw [e, List.append_assoc], r1, reps_append xs ys _ _ r2 q⟩
/-- One element's cells. -/
theorem reps_at {E : Env} {t : Ty} : ∀ (xs : List t.den) (l : List Value) (i : Nat) (x : t.den), reps E t xs l → xs[i]? = some x →
    ∃ pre c post, l = pre ++ c ++ post ∧ pre.length = i * t.size ∧ rep E t x c ∧ ∀ y c', rep E t y c' → reps E t (xs.set i y) (pre ++ c' ++ post)
  | [], _, i, x, _, h => by simp at h
  | x0 :: xs, _, 0, x, ⟨c1, c2, e, r1, r2⟩, h => by
    obtain rfl : x0 = x := Option.some.inj h
    exact ⟨[], c1, c2, by rw [e]; rfl, by simp, r1, fun y c' r => ⟨c', c2, rfl, r, r2⟩⟩
  | x0 :: xs, _, i + 1, x, ⟨c1, c2, e, r1, r2⟩, h => by
    obtain ⟨pre, c, post, e2, hp, hr, hset⟩ := reps_at xs c2 i x r2 h
    refine ⟨c1 ++ pre, c, post, by rw [e, e2]; simp [List.append_assoc], ?_, hr, fun y c' r => ⟨c1, pre ++ c' ++ post, by simp [List.append_assoc], r1, hset y c' r⟩⟩
    rw [List.length_append, rep_length _ _ _ r1, hp, Nat.add_mul]; omega

theorem rep_one {E : Env} {t : Ty} {x : t.den} {cs : List Value} (r : rep E t x cs) (h : t.isAgg = false) : ∃ v, cs = [v] ∧ v.cells = #[v] ∧ v ≠ undef := by
  cases t with
  | unit => cases h
  | pair a b => cases h
  | bld i o k => cases h
  | nif => exact ⟨_, r, rfl, by simp [undef]⟩
  | ifi T k => exact ⟨_, r, rfl, by simp [undef]⟩
  | bool => exact ⟨_, r, rfl, by simp [undef]⟩
  | int k => exact ⟨_, r, rfl, by simp [undef]⟩
  | str => exact ⟨_, r, rfl, by simp [undef]⟩
  | list t => obtain ⟨A, cap, e, _⟩ := r; exact ⟨_, e, rfl, by simp [undef]⟩
  | nl t => exact ⟨_, r, rfl, by simp [undef]⟩
  | sl k t => obtain ⟨A, n, cap, _, e⟩ := r; exact ⟨_, e, rfl, by simp [undef]⟩
  | ref t => obtain ⟨a, c, e, _⟩ := r; exact ⟨_, e, rfl, by simp [undef]⟩
  | opt t => rcases r with ⟨_, e⟩ | ⟨_, _, _, _, e, _⟩ <;> exact ⟨_, e, rfl, by simp [undef]⟩
  | ptr i o t => obtain ⟨b, _, e⟩ := r; exact ⟨_, e, rfl, by simp [undef]⟩
  | ep i o t u => obtain ⟨b, _, e⟩ := r; exact ⟨_, e, rfl, by simp [undef]⟩
  | fn g nf b => obtain ⟨bs, _, e⟩ := r; exact ⟨_, e, rfl, by simp [undef]⟩

theorem mkV_cells {E : Env} {t : Ty} {x : t.den} {cs : List Value} (r : rep E t x cs) : (mkV t cs).cells = cs.toArray := by
  unfold mkV
  by_cases h : t.isAgg = true
  · rw [if_pos h]; rfl
  · have h' : t.isAgg = false := by simpa using h
    rw [if_neg h]
    obtain ⟨v, rfl, hv, _⟩ := rep_one r h'
    simpa using hv

def VRep (E : Env) (t : Ty) (x : t.den) (v : Value) : Prop := ∃ cs, rep E t x cs ∧ v = mkV t cs
theorem VRep.mono {E E' : Env} (h : E.le E') {t : Ty} {x : t.den} {v : Value} : VRep E t x v → VRep E' t x v := fun ⟨cs, r, e⟩ => ⟨cs, rep_mono h _ _ _ r, e⟩

structure TV where
  t : Ty
  x : t.den
inductive Slot where
  | junk | undef | v (x : TV) | tup (t : Ty) (x : t.den)

/-- Values of a chain of pairs, one each. -/
def vals (E : Env) : (t : Ty) → t.den → List Value → Prop
  | .unit, _, vs => vs = []
  | .pair a b, x, vs => ∃ v vs', vs = v :: vs' ∧ VRep E a x.1 v ∧ vals E b x.2 vs'
  | _, _, _ => False
theorem vals_mono {E E' : Env} (h : E.le E') : ∀ (t : Ty) (x : t.den) (vs : List Value), vals E t x vs → vals E' t x vs
  | .unit, _, _, r => r
  | .pair _ b, _, _, ⟨v, vs', e, r1, r2⟩ => ⟨v, vs', e, r1.mono h, vals_mono h b _ _ r2⟩

def SlotRep (E : Env) : Slot → Value → Prop
  | .junk, _ => True
  | .undef, v => v = Go.undef
  | .v x, v => VRep E x.t x.x v
  | .tup t x, v => ∃ vs, vals E t x vs ∧ v = .tuple vs.toArray
theorem SlotRep.mono {E E' : Env} (h : E.le E') {s : Slot} {v : Value} (r : SlotRep E s v) : SlotRep E' s v := by
  cases s with
  | junk => trivial
  | undef => exact r
  | v x => exact VRep.mono h r
  | tup t x => obtain ⟨vs, hv, e⟩ := r; exact ⟨vs, vals_mono h _ _ _ hv, e⟩

/-- What a box holds: one value, or the elements of an array under construction. -/
inductive Bx where
  | one (x : TV)
  | arr (e : TypeId) (t : Ty) (xs : List t.den)

structure St where
  t : List Slot
  b : List (Option Bx)

def Inv (m : Mem) (w : World) : Prop := ∀ b j v, m b j = some v → w.cell? ⟨b, j, none⟩ = some v

/-- What a proof may ask of the memory that lies from the begin on; and whether draws are counted. -/
structure Ctx where
  Γ : Mem → Prop
  mono : ∀ {m m' : Mem}, (∀ b j v, m b j = some v → m' b j = some v) → Γ m → Γ m'
  d : Bool

/-- What has changed: no block of old but those of X. -/
structure ChgX (X : Nat → Prop) (C : Ctx) (m : Mem) (w : World) (m' : Mem) (w' : World) : Prop where
  os : w'.os = w.os
  tape : w'.tape = w.tape
  output : w'.output = w.output
  drawn : C.d = true → w.drawn ≤ w'.drawn
  size : w.heap.size ≤ w'.heap.size
  heap : ∀ b, b < w.heap.size → ¬ X b → w'.heap[b]? = w.heap[b]?
  mem : ∀ b, b < w.heap.size → ¬ X b → m' b = m b
  sub : ∀ b j v, m b j = some v → m' b j = some v
abbrev Chg := ChgX (fun _ => False)

theorem ChgX.refl {X : Nat → Prop} {C : Ctx} (m : Mem) (w : World) : ChgX X C m w m w := ⟨rfl, rfl, rfl, fun _ => Nat.le_refl _, Nat.le_refl _, fun _ _ _ => rfl, fun _ _ _ => rfl, fun _ _ _ h => h⟩
theorem Chg.refl {C : Ctx} (m : Mem) (w : World) : Chg C m w m w := ChgX.refl m w
/-- A further change, of old blocks at most those of X, and of blocks that are new. -/
theorem ChgX.trans {X Y : Nat → Prop} {C : Ctx} {m m1 m2 : Mem} {w w1 w2 : World} (h : ChgX X C m w m1 w1) (k : ChgX Y C m1 w1 m2 w2) (hy : ∀ b, b < w.heap.size → Y b → X b) : ChgX X C m w m2 w2 :=
  ⟨k.os.trans h.os, k.tape.trans h.tape, k.output.trans h.output, fun hd => Nat.le_trans (h.drawn hd) (k.drawn hd), Nat.le_trans h.size k.size,
    fun b hb hx => (k.heap b (Nat.lt_of_lt_of_le hb h.size) (fun q => hx (hy b hb q))).trans (h.heap b hb hx), fun b hb hx => (k.mem b (Nat.lt_of_lt_of_le hb h.size) (fun q => hx (hy b hb q))).trans (h.mem b hb hx), fun b j v q => k.sub b j v (h.sub b j v q)⟩
theorem cell_lt {w : World} {b j : Nat} {v : Value} (h : w.cell? ⟨b, j, none⟩ = some v) : b < w.heap.size := by
  unfold World.cell? at h
  by_cases hb : b < w.heap.size
  · exact hb
  · simp [Array.getElem?_eq_none (Nat.le_of_not_lt hb)] at h
/-- A box that holds one value. -/
def eltOf : Ty → TypeId → TypeId
  | .bld T _ _, _ => T
  | _, e => e
def OneOK (E : Env) (w : World) (i : Nat) (tv : TV) : Prop := ∃ blk cs e, E.β i = some blk ∧ w.heap[blk]? = some (.cells cs.toArray (eltOf tv.t e) (0, 0)) ∧ rep E tv.t tv.x cs ∧ ∀ j, E.m blk j = none
/-- An array under construction. -/
def ArrOK (E : Env) (w : World) (i : Nat) (e : TypeId) (t : Ty) (xs : List t.den) : Prop := ∃ v l, E.τ i = some v ∧ w.ownsRow 0 e t.size v xs.length l ∧ reps E t xs l ∧ E.β i = v.ownBlock ∧ ∀ g j, v.ownBlock = some g → E.m g j = none

structure FR (X : Nat → Prop) (E : Env) (st : St) (tmps : Array Value) (w : World) : Prop where
  len : st.t.length = tmps.size
  slots : ∀ i s, X i → st.t[i]? = some s → SlotRep E s (tmps.getD i undef)
  boxes : ∀ i tv, st.b[i]? = some (some (.one tv)) → OneOK E w i tv
  arrs : ∀ i e t xs, st.b[i]? = some (some (.arr e t xs)) → ArrOK E w i e t xs
  inj : ∀ i j b, E.β i = some b → E.β j = some b → i = j
  inv : Inv E.m w

theorem Env.le_m {E : Env} {m' : Mem} (h : ∀ b j v, E.m b j = some v → m' b j = some v) : E.le { E with m := m' } := ⟨h, fun _ _ h => h, fun _ _ h => h⟩

theorem blk_lt {w : World} {b : Nat} {o : Obj} (h : w.heap[b]? = some o) : b < w.heap.size := (Array.getElem?_eq_some_iff.1 h).1
theorem ownsRow_heap {w w' : World} {base : Nat} {e : TypeId} {size n : Nat} {v : Value} {l : List Value} (h : w.ownsRow base e size v n l) (hh : ∀ g, v.ownBlock = some g → w'.heap[g]? = w.heap[g]?) : w'.ownsRow base e size v n l := by
  refine ⟨h.1, ?_⟩
  rcases h.2 with hn | ⟨g, cap, cur, rfl, hb, hg, rest⟩
  · exact .inl hn
  · exact .inr ⟨g, cap, cur, rfl, hb, by rw [hh g rfl]; exact hg, rest⟩

theorem OneOK.keep {E E' : Env} {w w' : World} {i : Nat} {tv : TV} (h : OneOK E w i tv) (hle : E.le E') (hh : ∀ b, E.β i = some b → w'.heap[b]? = w.heap[b]? ∧ E'.m b = E.m b) : OneOK E' w' i tv := by
  obtain ⟨blk, cs, e, hb, hg, r, hm⟩ := h
  exact ⟨blk, cs, e, hle.β _ _ hb, by rw [(hh blk hb).1]; exact hg, rep_mono hle _ _ _ r, fun j => by rw [(hh blk hb).2]; exact hm j⟩
theorem ArrOK.keep {E E' : Env} {w w' : World} {i : Nat} {e : TypeId} {t : Ty} {xs : List t.den} (h : ArrOK E w i e t xs) (hle : E.le E') (hβ : E'.β i = E.β i) (hh : ∀ b, E.β i = some b → w'.heap[b]? = w.heap[b]? ∧ E'.m b = E.m b) : ArrOK E' w' i e t xs := by
  obtain ⟨v, l, ht, ho, r, hb, hm⟩ := h
  exact ⟨v, l, hle.τ _ _ ht, ownsRow_heap ho (fun g hg => (hh g (hb.trans hg)).1), reps_mono hle _ _ r, hβ.trans hb, fun g j hg => by rw [(hh g (hb.trans hg)).2]; exact hm g j hg⟩
theorem OneOK.lt {E : Env} {w : World} {i : Nat} {tv : TV} (h : OneOK E w i tv) : ∀ b, E.β i = some b → b < w.heap.size := fun b hb => by
  obtain ⟨blk, cs, e, hb', hg, _⟩ := h
  obtain rfl : b = blk := Option.some.inj (hb.symm.trans hb')
  exact blk_lt hg
theorem ArrOK.lt {E : Env} {w : World} {i : Nat} {e : TypeId} {t : Ty} {xs : List t.den} (h : ArrOK E w i e t xs) : ∀ b, E.β i = some b → b < w.heap.size := fun b hb => by
  obtain ⟨v, l, _, ho, _, hb', _⟩ := h
  exact (ho.lt b (hb'.symm.trans hb)).2

theorem FR.chg {C : Ctx} {X : Nat → Prop} {E : Env} {st : St} {tmps : Array Value} {w w' : World} {m' : Mem} (h : FR X E st tmps w) (c : Chg C E.m w m' w') (i : Inv m' w') : FR X { E with m := m' } st tmps w' where
  len := h.len
  slots k s hk hs := (h.slots k s hk hs).mono (Env.le_m c.sub)
  boxes k tv hk := (h.boxes k tv hk).keep (Env.le_m c.sub) fun b hb => ⟨c.heap b ((h.boxes k tv hk).lt b hb) id, c.mem b ((h.boxes k tv hk).lt b hb) id⟩
  arrs k e t xs hk := (h.arrs k e t xs hk).keep (Env.le_m c.sub) rfl fun b hb => ⟨c.heap b ((h.arrs k e t xs hk).lt b hb) id, c.mem b ((h.arrs k e t xs hk).lt b hb) id⟩
  inj := h.inj
  inv := i

theorem FR.weaken {X Y : Nat → Prop} {E : Env} {st : St} {tmps : Array Value} {w : World} (h : FR X E st tmps w) (hy : ∀ i, Y i → X i) : FR Y E st tmps w := ⟨h.len, fun i s hi hs => h.slots i s (hy i hi) hs, h.boxes, h.arrs, h.inj, h.inv⟩

end Go.Proofs.YtedenojeljjnaaaGreatDoorPi

namespace Go.Proofs.YtedenojeljjnaaaGreatDoorPi
open Go

def boolC : List Value → Option (Bool × List Value)
  | .bool b :: cs => some (b, cs)
  | _ => none
def intC (k : IntKind) : List Value → Option (Int × List Value)
  | .int k' n :: cs => if k = k' then some (n, cs) else none
  | _ => none
def strC : List Value → Option (ByteArray × List Value)
  | .string s :: cs => some (s, cs)
  | _ => none
def nilC : List Value → Option (List Value)
  | .slice none 0 0 :: cs => some cs
  | _ => none
def nilP : List Value → Option (List Value)
  | .pointer none :: cs => some cs
  | _ => none
def ofCells : (t : Ty) → List Value → Option (t.den × List Value)
  | .unit, cs => some ((), cs)
  | .bool, cs => boolC cs
  | .int k, cs => intC k cs
  | .str, cs => strC cs
  | .pair a b, cs => match ofCells a cs with
    | some (x, r) => match ofCells b r with
      | some (y, r') => some ((x, y), r')
      | none => none
    | none => none
  | .list _, cs => match nilC cs with
    | some r => some ([], r)
    | none => none
  | .opt _, cs => match nilP cs with
    | some r => some (none, r)
    | none => none
  | .nl _, cs => match nilC cs with
    | some r => some ((), r)
    | none => none
  | _, _ => none

def aggV : Value → Bool
  | .agg _ => true
  | _ => false

def opd (st : St) : Operand → Option TV
  | .tmp t => match st.t[t]? with
    | some (.v x) => some x
    | _ => none
  | .const (.bool b) => some ⟨.bool, b⟩
  | .const (.int k n) => some ⟨.int k, n⟩
  | .const (.string s) => some ⟨.str, s⟩
  | .const .nilIface => some ⟨.nif, ()⟩
  | .func f => some ⟨.fn f 0 .unit, ()⟩
  | _ => none

def castU : (u : Ty) → u.den → (t : Ty) → Option t.den
  | .nl _, _, .list _ => some []
  | .ref u, x, .opt t => if h : u = t then some (some (h ▸ x)) else none
  | _, _, _ => none
def castTV (tv : TV) (t : Ty) : Option t.den := if h : tv.t = t then some (h ▸ tv.x) else castU tv.t tv.x t

def opdT (t : Ty) (st : St) (x : Operand) : Option t.den :=
  match x with
  | .const v => if aggV v = t.isAgg then (match ofCells t v.cells.toList with
    | some (y, []) => some y
    | _ => none) else none
  | x => match opd st x with
    | some tv => castTV tv t
    | none => none

/-- Is a type a strings.Builder's (it has a pointer to itself, and bytes), or a struct of one alone? The type of its bytes. -/
def bldE (P : Program) (t : TypeId) : Option TypeId := match P.underlying t with
  | some (.struct fs) => match fs.toList with
    | [f, g] => match P.underlying f.type, P.underlying g.type with
      | some (.pointer t'), some (.slice e) => match P.underlying e with
        | some (.int .u8) => if t' = t then some e else none
        | _ => none
      | _, _ => none
    | _ => none
  | _ => none
def bldW (P : Program) (t : TypeId) : Option TypeId := match bldE P t with
  | some e => some e
  | none => match P.underlying t with
    | some (.struct fs) => match fs.toList with
      | [f] => bldE P f.type
      | _ => none
    | _ => none
def zeroB : List Value → Bool
  | [.pointer none, .slice none 0 0] => true
  | _ => false

def bld0 : Ty := .pair (.opt .unit) (.pair (.nl (.int .u8)) .unit)
def pairs : List (Option Ty) → Option Ty
  | [] => some .unit
  | some t :: r => match pairs r with
    | some u => some (.pair t u)
    | none => none
  | none :: _ => none
def many : Nat → Ty → Ty
  | 0, _ => .unit
  | n + 1, t => .pair t (many n t)
def tyOf (P : Program) : Nat → TypeId → Option Ty
  | 0, _ => none
  | n + 1, t => match P.underlying t with
    | some .bool => some .bool
    | some (.int k) => some (.int k)
    | some .string => some .str
    | some (.slice e) => match tyOf P n e with
      | some u => some (.list u)
      | none => none
    | some (.struct fs) => match bldW P t with
      | some _ => some bld0
      | none => pairs (fs.toList.map fun f => tyOf P n f.type)
    | some (.array len e) => match tyOf P n e with
      | some u => some (many len u)
      | none => none
    | some (.pointer e) => match tyOf P n e with
      | some u => some (.opt u)
      | none => none
    | _ => none

def nilSlice : Operand → Bool
  | .const (.slice none 0 0) => true
  | _ => false
def nilPtr : Operand → Bool
  | .const (.pointer none) => true
  | _ => false
/-- An operand's value; nil, where slices are wanted, being told as such. -/
def opdN (P : Program) (ty : TypeId) (st : St) (x : Operand) : Option TV :=
  if nilSlice x = true then (match P.underlying ty with
    | some (.slice e) => match tyOf P 30 e with
      | some u => some ⟨.nl u, ()⟩
      | none => none
    | _ => none) else opd st x

/-- An operand's value, at the type's number where the operand alone does not tell. -/
def opdX (P : Program) (ty : TypeId) (st : St) (x : Operand) : Option TV :=
  match opd st x with
  | some tv => some tv
  | none => match tyOf P 30 ty with
    | some t => match opdT t st x with
      | some y => some ⟨t, y⟩
      | none => none
    | none => none

def getAt : (t : Ty) → t.den → Nat → (u : Ty) → Option u.den
  | t, x, o, u => if h : o = 0 ∧ t = u then some (h.2 ▸ x) else match t, x with
    | .pair a b, x => if o + u.size ≤ a.size then getAt a x.1 o u else if a.size ≤ o then getAt b x.2 (o - a.size) u else none
    | _, _ => none
def setAt : (t : Ty) → t.den → Nat → TV → Option t.den
  | t, x, o, tv => if h : o = 0 ∧ tv.t = t then some (h.2 ▸ tv.x) else match t, x with
    | .pair a b, x => if o + tv.t.size ≤ a.size then (match setAt a x.1 o tv with
        | some y => some (y, x.2)
        | none => none) else if a.size ≤ o then (match setAt b x.2 (o - a.size) tv with
        | some y => some (x.1, y)
        | none => none) else none
    | _, _ => none

def fieldTy : Ty → Nat → Option (Ty × Nat)
  | .pair a _, 0 => some (a, 0)
  | .bld T i k, 0 => some (.bld T i k, 0)
  | .pair a b, f + 1 => match fieldTy b f with
    | some (u, o) => some (u, a.size + o)
    | none => none
  | _, _ => none

def chain : (n : Nat) → (t : Ty) → (many n t).den → List t.den
  | 0, _, _ => []
  | n + 1, t, x => x.1 :: chain n t x.2

def bytesOf (s : ByteArray) : List Int := s.data.toList.map fun b => (b.toNat : Int)
def ofBytes (xs : List Int) : ByteArray := ⟨(xs.map fun n => UInt8.ofNat n.toNat).toArray⟩

def St.put (st : St) (d : Option Tmp) (s : Slot) : St := match d with
  | some d => { st with t := st.t.set d s }
  | none => st

structure Sp where
  ps : Ty
  rs : Ty
  F : Nat → ps.den → Option rs.den
/-- What a function makes of a row of the caller's own, in place. -/
structure SpI where
  e : TypeId
  t : Ty
  as : Ty
  F : Nat → List t.den → as.den → Option (List t.den)
/-- A function whose first result is an array that is the caller's own. -/
structure SpO where
  ps : Ty
  e : TypeId
  t : Ty
  rs : Ty
  F : Nat → ps.den → Option (List t.den × rs.den)
def SpO.sp (s : SpO) : Sp := ⟨s.ps, .pair (.list s.t) s.rs, s.F⟩
/-- A function to which boxes of the caller's own are handed: ks and ct tell what they hold (a variable, or an array under construction), and the parameters' types speak of them by their places. -/
structure SpM where
  ks : List (Option TypeId)
  ct : Ty
  ps : Ty
  rs : Ty
  F : Nat → ct.den → ps.den → Option (ct.den × rs.den)
  dead : Bool := false
/-- The same, where it may end in a panic. -/
structure SpP where
  ks : List (Option TypeId)
  ct : Ty
  ps : Ty
  rs : Ty
  F : Nat → ct.den → ps.den → Option (ct.den × (rs.den ⊕ (TypeId × IntKind × Int)))
def SpP.toM (s : SpP) : SpM := ⟨s.ks, s.ct, s.ps, s.rs, fun _ _ _ => none, false⟩
def sumK {α β R : Type} : α ⊕ β → (α → Option R) → (β → Option R) → Option R
  | .inl x, f, _ => f x
  | .inr y, _, g => g y
inductive SpX where
  | f (s : Sp) | i (s : SpI) | o (s : SpO) | m (l : List SpM) | p (l : List SpP)
def SpX.asF : SpX → Option Sp
  | .f s => some s
  | .o s => some s.sp
  | .i _ => none
  | .m _ => none
  | .p _ => none
abbrev Specs := Nat → Option SpX

def comps : (b : Ty) → b.den → List TV
  | .pair a b, x => ⟨a, x.1⟩ :: comps b x.2
  | _, _ => []
def srcT (st : St) (t : Ty) : Operand ⊕ TV → Option t.den
  | .inl x => opdT t st x
  | .inr tv => castTV tv t
def argsT (st : St) : (t : Ty) → List (Operand ⊕ TV) → Option t.den
  | .unit, [] => some ()
  | .pair a b, x :: r => match srcT st a x, argsT st b r with
    | some y, some z => some (y, z)
    | _, _ => none
  | _, _ => none
def tvsOf (st : St) : List Operand → Option TV
  | [] => some ⟨.unit, ()⟩
  | x :: r => match opd st x, tvsOf st r with
    | some a, some b => some ⟨.pair a.t b.t, (a.x, b.x)⟩
    | _, _ => none
def intsOf (k : IntKind) (st : St) : List Operand → Option (List Int)
  | [] => some []
  | x :: r => match opdT (.int k) st x, intsOf k st r with
    | some n, some l => some (n :: l)
    | _, _ => none
@[reducible] def imin (x y : Int) : Int := if y < x then y else x
@[reducible] def imax (x y : Int) : Int := if y > x then y else x
def retSlot : (t : Ty) → t.den → Slot
  | .pair a .unit, x => .v ⟨a, x.1⟩
  | t, x => .tup t x
def tupAt : (t : Ty) → t.den → Nat → Option TV
  | .pair a _, x, 0 => some ⟨a, x.1⟩
  | .pair _ b, x, i + 1 => tupAt b x.2 i
  | _, _, _ => none

def aggD : TypeDesc → Bool
  | .struct _ => true
  | .array _ _ => true
  | _ => false

section
variable {R : Type}
def intK (op : BinOp) (k k' : IntKind) (x y : Int) (K : Slot → Option R) : Option R :=
  match op with
  | .shl => bif decide (y < 0) then none else K (.v ⟨.int k, k.wrap (x * 2 ^ (min y.toNat k.bits))⟩)
  | .shr => bif decide (y < 0) then none else K (.v ⟨.int k, x.fdiv (2 ^ (min y.toNat k.bits))⟩)
  | op => if k = k' then (match op with
    | .add => K (.v ⟨.int k, k.wrap (x + y)⟩)
    | .sub => K (.v ⟨.int k, k.wrap (x - y)⟩)
    | .mul => K (.v ⟨.int k, k.wrap (x * y)⟩)
    | .quo => bif decide (y = 0) then none else K (.v ⟨.int k, k.wrap (x.tdiv y)⟩)
    | .rem => bif decide (y = 0) then none else K (.v ⟨.int k, x.tmod y⟩)
    | .and => K (.v ⟨.int k, k.wrap (BitVec.ofInt k.bits x &&& BitVec.ofInt k.bits y).toNat⟩)
    | .or => K (.v ⟨.int k, k.wrap (BitVec.ofInt k.bits x ||| BitVec.ofInt k.bits y).toNat⟩)
    | .xor => K (.v ⟨.int k, k.wrap (BitVec.ofInt k.bits x ^^^ BitVec.ofInt k.bits y).toNat⟩)
    | .andNot => K (.v ⟨.int k, k.wrap (BitVec.ofInt k.bits x &&& ~~~BitVec.ofInt k.bits y).toNat⟩)
    | .eql => K (.v ⟨.bool, x == y⟩)
    | .neq => K (.v ⟨.bool, x != y⟩)
    | .lss => K (.v ⟨.bool, decide (x < y)⟩)
    | .leq => K (.v ⟨.bool, decide (x ≤ y)⟩)
    | .gtr => K (.v ⟨.bool, decide (x > y)⟩)
    | .geq => K (.v ⟨.bool, decide (x ≥ y)⟩)
    | _ => none) else none
def strK (op : BinOp) (x y : ByteArray) (K : Slot → Option R) : Option R :=
  match op with
  | .add => bif decide (((x.size + y.size : Nat) : Int) > IntKind.i64.max) then none else K (.v ⟨.str, x ++ y⟩)
  | .eql => K (.v ⟨.bool, x.toList == y.toList⟩)
  | .neq => K (.v ⟨.bool, !(x.toList == y.toList)⟩)
  | .lss => K (.v ⟨.bool, Op.bytesLess x.toList y.toList⟩)
  | .leq => K (.v ⟨.bool, Op.bytesLess x.toList y.toList || x.toList == y.toList⟩)
  | .gtr => K (.v ⟨.bool, !(Op.bytesLess x.toList y.toList || x.toList == y.toList)⟩)
  | .geq => K (.v ⟨.bool, !(Op.bytesLess x.toList y.toList)⟩)
  | _ => none
def binK (op : BinOp) (a b : TV) (K : Slot → Option R) : Option R :=
  match a, b with
  | ⟨.int k, x⟩, ⟨.int k', y⟩ => intK op k k' x y K
  | ⟨.str, x⟩, ⟨.str, y⟩ => strK op x y K
  | _, _ => none
def boolK (P : Program) (op : BinOp) (ty : TypeId) (x y : Bool) (K : Slot → Option R) : Option R :=
  match P.underlying ty with
  | some .bool => (match op with
    | .eql => K (.v ⟨.bool, x == y⟩)
    | .neq => K (.v ⟨.bool, !(x == y)⟩)
    | _ => none)
  | _ => none
def binB (P : Program) (op : BinOp) (ty : TypeId) (a b : TV) (K : Slot → Option R) : Option R :=
  match a, b with
  | ⟨.bool, x⟩, ⟨.bool, y⟩ => boolK P op ty x y K
  | a, b => binK op a b K

/-- Two structs, field by field. -/
def eqD : (t : Ty) → t.den → t.den → Bool
  | .unit, _, _ => true
  | .bool, a, b => a == b
  | .int _, a, b => a == b
  | .str, a, b => a == b
  | .pair a b, x, y => eqD a x.1 y.1 && eqD b x.2 y.2
  | _, _, _ => false
def chkF (P : Program) (chk : TypeId → Ty → Bool) : List Field → Ty → Nat → Bool
  | [], .unit, _ => true
  | f :: fs, .pair a b, off => f.name != "_" && f.offset == off && (match P.info? f.type, P.underlying f.type with
      | some i, some d => i.size == a.size && aggD d == a.isAgg
      | _, _ => false) && chk f.type a && chkF P chk fs b (off + a.size)
  | _, _, _ => false
def checkEq (P : Program) : Nat → TypeId → Ty → Bool
  | 0, _, _ => false
  | _ + 1, t, .bool => match P.underlying t with
    | some .bool => true
    | _ => false
  | _ + 1, t, .int k => match P.underlying t with
    | some (.int k') => k == k'
    | _ => false
  | _ + 1, t, .str => match P.underlying t with
    | some .string => true
    | _ => false
  | d + 1, t, .pair a b => match P.underlying t with
    | some (.struct fs) => !P.stoodInHeld t && chkF P (checkEq P d) fs.toList (.pair a b) 0
    | _ => false
  | _, _, _ => false
def eqAgg (P : Program) (op : BinOp) (ty : TypeId) (a b : TV) (K : Slot → Option R) : Option R :=
  match castTV b a.t with
  | some y => if a.t.isAgg = true ∧ checkEq P 30 ty a.t = true ∧ P.eqGuardType P.depth ty = false then (match op with
    | .eql => K (.v ⟨.bool, eqD a.t a.x y⟩)
    | .neq => K (.v ⟨.bool, !(eqD a.t a.x y)⟩)
    | _ => none) else none
  | none => none

/-- Is a pointer nil? -/
def nilK (P : Program) (op : BinOp) (ty : TypeId) (a : TV) (K : Slot → Option R) : Option R :=
  match P.underlying ty with
  | some (.pointer _) => (match op, a with
    | .eql, ⟨.opt _, x⟩ => K (.v ⟨.bool, x.isNone⟩)
    | .neq, ⟨.opt _, x⟩ => K (.v ⟨.bool, !x.isNone⟩)
    | .eql, ⟨.ref _, _⟩ => K (.v ⟨.bool, false⟩)
    | .neq, ⟨.ref _, _⟩ => K (.v ⟨.bool, true⟩)
    | _, _ => none)
  | _ => none
def unK (op : UnOp) (a : TV) (K : Slot → Option R) : Option R :=
  match op, a with
  | .neg, ⟨.int k, n⟩ => K (.v ⟨.int k, k.wrap (0 - n)⟩)
  | .not, ⟨.bool, b⟩ => K (.v ⟨.bool, !b⟩)
  | _, _ => none

def convK (P : Program) (src dst : TypeId) (a : TV) (K : Slot → Option R) : Option R :=
  match P.underlying src, P.underlying dst, a with
  | some _, some (.int k), ⟨.int _, n⟩ => K (.v ⟨.int k, k.wrap n⟩)
  | some _, some .string, ⟨.str, s⟩ => K (.v ⟨.str, s⟩)
  | some _, some (.slice e), ⟨.str, s⟩ => match P.underlying e with
    | some (.int .u8) => K (.v ⟨.list (.int .u8), bytesOf s⟩)
    | _ => none
  | some (.slice e), some .string, ⟨.list (.int .u8), xs⟩ => match P.underlying e with
    | some (.int .u8) => K (.v ⟨.str, ofBytes xs⟩)
    | _ => none
  | _, _, _ => none

def intOpt (st : St) : Option Operand → Option (Option Int)
  | none => some none
  | some x => match opd st x with
    | some ⟨.int _, n⟩ => some (some n)
    | _ => none
def boundK (n : Nat) (v : Option Int) (d : Nat) (K : Nat → Option R) : Option R :=
  match v with
  | none => K d
  | some i => bif decide (0 ≤ i ∧ i ≤ (n : Int)) then K i.toNat else none
def sliceK (P : Program) (ty : TypeId) (a : TV) (lo hi : Option Int) (K : Slot → Option R) : Option R :=
  match P.underlying ty, a with
  | some .string, ⟨.str, s⟩ => boundK s.size hi s.size fun h => boundK h lo 0 fun l => K (.v ⟨.str, s.extract l h⟩)
  | some (.slice e), ⟨.list t, xs⟩ => match P.info? e with
    | some i => if i.size = t.size then boundK xs.length hi xs.length fun h => boundK h lo 0 fun l => K (.v ⟨.list t, (xs.take h).drop l⟩) else none
    | none => none
  | _, _ => none

def loadK (P : Program) (st : St) (ty : TypeId) (a : TV) (K : Slot → Option R) : Option R :=
  match a with
  | ⟨.ptr i o t, _⟩ => match st.b[i]?, P.info? ty, P.underlying ty with
    | some (some (.one c)), some inf, some d => if inf.size = t.size ∧ aggD d = t.isAgg then (match getAt c.t c.x o t with
      | some y => K (.v ⟨t, y⟩)
      | none => none) else none
    | _, _, _ => none
  | ⟨.ref t, x⟩ => match P.info? ty, P.underlying ty with
    | some inf, some d => if inf.size = t.size ∧ aggD d = t.isAgg then K (.v ⟨t, x⟩) else none
    | _, _ => none
  | ⟨.ep k o u t, i⟩ => match st.b[k]?, P.info? ty, P.underlying ty with
    | some (some (.arr _ u' xs)), some inf, some d => if u' = u ∧ inf.size = t.size ∧ aggD d = t.isAgg then ((xs[i]?).bind fun x => match getAt u' x o t with
      | some y => K (.v ⟨t, y⟩)
      | none => none) else none
    | _, _, _ => none
  | _ => none

def fieldAddrK (P : Program) (ty : TypeId) (a : TV) (f : Nat) (K : Slot → Option R) : Option R :=
  match P.underlying ty with
  | some (.struct fs) => match fs[f]? with
    | some fd => match P.info? fd.type with
      | some inf => match a with
        | ⟨.ptr i o t, _⟩ => match fieldTy t f with
          | some (u, q) => if q = fd.offset ∧ inf.size ≠ 0 ∧ u.size = inf.size then K (.v ⟨.ptr i (o + q) u, ()⟩) else none
          | none => none
        | ⟨.ref t, x⟩ => match fieldTy t f with
          | some (u, q) => if q = fd.offset ∧ inf.size ≠ 0 ∧ u.size = inf.size then (match getAt t x q u with
            | some y => K (.v ⟨.ref u, y⟩)
            | none => none) else none
          | none => none
        | ⟨.ep k o w t, i⟩ => match fieldTy t f with
          | some (u, q) => if q = fd.offset ∧ inf.size ≠ 0 ∧ u.size = inf.size then K (.v ⟨.ep k (o + q) w u, i⟩) else none
          | none => none
        | _ => none
      | none => none
    | none => none
  | _ => none

def fieldK (P : Program) (ty : TypeId) (a : TV) (f : Nat) (K : Slot → Option R) : Option R :=
  match P.underlying ty with
  | some (.struct fs) => match fs[f]? with
    | some fd => match P.info? fd.type, P.underlying fd.type, fieldTy a.t f with
      | some inf, some d, some (u, q) => if a.t.isAgg ∧ q = fd.offset ∧ u.size = inf.size ∧ aggD d = u.isAgg then (match getAt a.t a.x q u with
        | some y => K (.v ⟨u, y⟩)
        | none => none) else none
      | _, _, _ => none
    | none => none
  | _ => none

def hat : (t : Ty) → t.den → Nat → Nat → Option TV
  | .pair a b, x, n, 0 => if a.size = n then some ⟨a, x.1⟩ else none
  | .pair a b, x, n, i + 1 => if a.size = n then hat b x.2 n i else none
  | _, _, _, _ => none
def indexK (P : Program) (ty : TypeId) (a b : TV) (K : Slot → Option R) : Option R :=
  match P.underlying ty, a, b with
  | some .string, ⟨.str, s⟩, ⟨.int _, i⟩ => bif decide (0 ≤ i) then (s[i.toNat]?).bind fun c => K (.v ⟨.int .u8, (c.toNat : Int)⟩) else none
  | some (.array len e), a, ⟨.int _, i⟩ => match tyOf P 30 e, P.info? e, P.underlying e with
    | some u, some inf, some d => if u.size = inf.size ∧ aggD d = u.isAgg then (match castTV a (many len u) with
      | some y => bif decide (0 ≤ i) then ((chain len u y)[i.toNat]?).bind fun z => K (.v ⟨u, z⟩) else none
      | none => bif decide (0 ≤ i ∧ i < (len : Int)) then (hat a.t a.x inf.size i.toNat).bind fun z => (if aggD d = z.t.isAgg then K (.v z) else none) else none) else none
    | _, _, _ => none
  | _, _, _ => none

def indexAddrK (P : Program) (ty : TypeId) (a b : TV) (K : Slot → Option R) : Option R :=
  match P.underlying ty, a, b with
  | some (.slice e), ⟨.list t, xs⟩, ⟨.int _, i⟩ => match P.info? e with
    | some inf => if inf.size = t.size then (bif decide (0 ≤ i) then (xs[i.toNat]?).bind fun x => K (.v ⟨.ref t, x⟩) else none) else none
    | none => none
  | _, _, _ => none

/-- The place of an element of an array under construction. -/
def indexSlK (P : Program) (st : St) (ty : TypeId) (k : Nat) (t : Ty) (i : Int) (K : Slot → Option R) : Option R :=
  match P.underlying ty, st.b[k]? with
  | some (.slice e), some (some (.arr _ t' xs)) => match P.info? e with
    | some inf => if inf.size = t.size ∧ t' = t then (bif decide (0 ≤ i ∧ i < (xs.length : Int)) then K (.v ⟨.ep k 0 t t, i.toNat⟩) else none) else none
    | none => none
  | _, _ => none

def setParts (P : Program) (st : St) (place : Nat → Option (Nat × Nat × TypeId)) (t : Ty) : t.den → List (Nat × Operand) → Option t.den
  | x, [] => some x
  | x, (i, y) :: r => match place i with
    | some (o, n, ty) => match opdX P ty st y with
      | some tv => if tv.t.size = n then (match setAt t x o tv with
        | some x' => setParts P st place t x' r
        | none => none) else none
      | none => none
    | none => none

/-- Parts of a type of their own. -/
def putAt : (t : Ty) → t.den → Nat → TV → Option TV
  | .pair a b, x, o, tv => if o = 0 ∧ tv.t.size = a.size then some ⟨.pair tv.t b, (tv.x, x.2)⟩ else if a.size ≤ o then (match putAt b x.2 (o - a.size) tv with
    | some y => some ⟨.pair a y.t, (x.1, y.x)⟩
    | none => none) else none
  | _, _, _, _ => none
def setPartsR (P : Program) (st : St) (place : Nat → Option (Nat × Nat × TypeId)) : (t : Ty) → t.den → List (Nat × Operand) → Option TV
  | t, x, [] => some ⟨t, x⟩
  | t, x, (i, y) :: r => match place i with
    | some (o, n, ty) => match opdX P ty st y with
      | some tv => if tv.t.size = n then (match putAt t x o tv with
        | some z => setPartsR P st place z.t z.x r
        | none => none) else none
      | none => none
    | none => none
def placeF (P : Program) (fs : Array Field) : Nat → Option (Nat × Nat × TypeId) := fun i => match fs[i]? with | some f => (match P.info? f.type with | some j => some (f.offset, j.size, f.type) | none => none) | none => none
def buildK (P : Program) (st : St) (ty : TypeId) (parts : List (Nat × Operand)) (K : Slot → Option R) : Option R :=
  match tyOf P 30 ty, P.info? ty with
  | some t, some inf => match inf.zero with
    | some z => match ofCells t z.cells.toList with
      | some (x0, []) => (match P.underlying ty with
        | some (.struct fs) => if t.isAgg ∧ (fs.toList.all fun f => (P.info? f.type).isSome) = true then (match setParts P st (fun i => match fs[i]? with | some f => (match P.info? f.type with | some j => some (f.offset, j.size, f.type) | none => none) | none => none) t x0 parts with
          | some x => K (.v ⟨t, x⟩)
          | none => (match setPartsR P st (placeF P fs) t x0 parts with
            | some tv => K (.v tv)
            | none => none)) else none
        | some (.array _ e) => if t.isAgg then (match P.info? e with
          | some j => (match setParts P st (fun i => some (i * j.size, j.size, e)) t x0 parts with
            | some x => K (.v ⟨t, x⟩)
            | none => (match setPartsR P st (fun i => some (i * j.size, j.size, e)) t x0 parts with
              | some tv => K (.v tv)
              | none => none))
          | none => none) else none
        | _ => none)
      | _ => none
    | none => none
  | _, _ => none

def buildSliceK (P : Program) (st : St) (ty : TypeId) (len : Nat) (parts : List (Nat × Operand)) (K : Slot → Option R) : Option R :=
  match P.underlying ty with
  | some (.slice e) => match tyOf P 30 e, P.info? e with
    | some t, some inf => if inf.size = t.size ∧ ¬ len * inf.size > 2 ^ 24 then (match inf.zero with
      | some z => match ofCells (many len t) (if len * inf.size = 0 then [] else ((Array.range (len * inf.size)).map (z.cells[· % z.cells.size]!)).toList) with
        | some (x0, []) => match setParts P st (fun i => some (i * inf.size, inf.size, e)) (many len t) x0 parts with
          | some x => K (.v ⟨.list t, chain len t x⟩)
          | none => none
        | _ => none
      | none => none) else none
    | _, _ => none
  | _ => none

def callK (P : Program) (sp : Specs) (n : Nat) (st : St) (c : Call) (K : Slot → Option R) : Option R :=
  match c.callee with
  | .builtin .len => match c.args.toList, c.argTypes.toList with
    | [x], [ty] => match P.underlying ty, opd st x with
      | some .string, some ⟨.str, s⟩ => K (.v ⟨.int .i64, (s.size : Int)⟩)
      | some (.slice _), some ⟨.list _, xs⟩ => K (.v ⟨.int .i64, (xs.length : Int)⟩)
      | some (.slice _), some ⟨.nl _, _⟩ => K (.v ⟨.int .i64, 0⟩)
      | some (.slice _), some ⟨.sl k _, _⟩ => match st.b[k]? with
        | some (some (.arr _ _ xs)) => K (.v ⟨.int .i64, (xs.length : Int)⟩)
        | _ => none
      | _, _ => none
    | _, _ => none
  | .builtin .min => match c.args.toList with
    | x :: r => match opd st x with
      | some ⟨.int k, n⟩ => match intsOf k st r with
        | some l => K (.v ⟨.int k, l.foldl imin n⟩)
        | none => none
      | _ => none
    | [] => none
  | .builtin .max => match c.args.toList with
    | x :: r => match opd st x with
      | some ⟨.int k, n⟩ => match intsOf k st r with
        | some l => K (.v ⟨.int k, l.foldl imax n⟩)
        | none => none
      | _ => none
    | [] => none
  | .value f => match opd st f with
    | some ⟨.fn g nf b, z⟩ => match (sp g).bind SpX.asF with
      | some s => match argsT st s.ps (((comps b z).take nf).map .inr ++ c.args.toList.map .inl ++ ((comps b z).drop nf).map .inr) with
        | some y => (s.F n y).bind fun r => K (retSlot s.rs r)
        | none => none
      | _ => none
    | _ => none
  | _ => none

def slotOf (st : St) : Operand → Option Slot
  | .tmp t => st.t[t]?
  | x => match opd st x with
    | some tv => some (.v tv)
    | none => none

def defK (s : Slot) (K : Slot → Option R) : Option R := match s with
  | .undef => none
  | s => K s
def pureK (P : Program) (sp : Specs) (n : Nat) (st : St) (o : Oper) (K : Slot → Option R) : Option R :=
  match o.op with
  | .move x | .assign x => match slotOf st x with
    | some s => K s
    | none => match opdN P o.type st x with
      | some tv => K (.v tv)
      | none => match opdX P o.type st x with
        | some tv => K (.v tv)
        | none => none
  | .pick c a b => match opd st c, slotOf st a, slotOf st b with
    | some ⟨.bool, c⟩, some s, some s' => bif c then defK s K else defK s' K
    | _, _, _ => none
  | .binOp op ty x y _ => if nilPtr y = true then (match opd st x with
    | some a => nilK P op ty a K
    | none => none) else match opd st x, opd st y with
    | some a, some b => if a.t.isAgg = true then eqAgg P op ty a b K else binB P op ty a b K
    | _, _ => match opdX P ty st x, opdX P ty st y with
      | some a, some b => eqAgg P op ty a b K
      | _, _ => none
  | .unOp op _ x => match opd st x with
    | some a => unK op a K
    | none => none
  | .convert src dst x => match opd st x with
    | some a => convK P src dst a K
    | none => none
  | .slice ty x lo hi none => match opd st x, intOpt st lo, intOpt st hi with
    | some a, some l, some h => sliceK P ty a l h K
    | _, _, _ => none
  | .load ty x => match opd st x with
    | some a => loadK P st ty a K
    | none => none
  | .fieldAddr ty x f => match opd st x with
    | some a => fieldAddrK P ty a f K
    | none => none
  | .field ty x f => match opd st x with
    | some a => fieldK P ty a f K
    | none => none
  | .index ty x i => match opd st x, opd st i with
    | some a, some b => indexK P ty a b K
    | _, _ => none
  | .indexAddr ty x i => match opd st x, opd st i with
    | some ⟨.sl k t, _⟩, some ⟨.int _, n⟩ => indexSlK P st ty k t n K
    | some a, some b => indexAddrK P ty a b K
    | _, _ => none
  | .extract x i => match slotOf st x with
    | some (.tup t y) => match tupAt t y i with
      | some tv => K (.v tv)
      | none => none
    | _ => none
  | .build ty parts => buildK P st ty parts.toList K
  | .buildSlice ty len parts => buildSliceK P st ty len parts.toList K
  | .nilCheck x => match opd st x with
    | some ⟨.ptr i o t, y⟩ => K (.v ⟨.ptr i o t, y⟩)
    | some ⟨.ref t, y⟩ => K (.v ⟨.ref t, y⟩)
    | some ⟨.ep k o e t, y⟩ => K (.v ⟨.ep k o e t, y⟩)
    | some ⟨.opt t, y⟩ => y.bind fun z => K (.v ⟨.ref t, z⟩)
    | _ => none
  | .call c => callK P sp n st c K
  | .makeFunc (.func g) first captured => match tvsOf st (first.toList ++ captured.toList) with
    | some tv => K (.v ⟨.fn g first.size tv.t, tv.x⟩)
    | none => none
  | .makeInterface ty x => match P.underlying ty, opd st x with
    | some (.int _), some ⟨.int k, n⟩ => K (.v ⟨.ifi ty k, n⟩)
    | _, _ => none
  | .typeAssert x _ asserted false => match P.underlying asserted, opd st x with
    | some (.int _), some ⟨.ifi T k, n⟩ => if T = asserted then K (.v ⟨.int k, n⟩) else none
    | _, _ => none
  | _ => none

/-! what is laid open, or laid aside -/
def offS (p : Nat → Bool) : Slot → Slot
  | .v x => if x.t.on p = true then .v x else .junk
  | .tup t x => if t.on p = true then .tup t x else .junk
  | s => s
def offB (p : Nat → Bool) : Option Bx → Option Bx
  | some (.one x) => if x.t.on p = true then some (.one x) else none
  | some (.arr e t xs) => if t.on p = true then some (.arr e t xs) else none
  | none => none
def St.off (st : St) (p : Nat → Bool) : St := ⟨st.t.map (offS p), st.b.map (offB p)⟩
/-- A box is not written any more: what points to it is what it holds. -/
def frzS (i : Nat) (c : Bx) : Slot → Slot
  | .v ⟨.sl k t, y⟩ => if k = i then (match c with
    | .arr _ t' xs => if t' = t then .v ⟨.list t', xs⟩ else .junk
    | _ => .junk) else .v ⟨.sl k t, y⟩
  | .v ⟨.ptr k o t, y⟩ => if k = i then (match c with
    | .one tv => (match getAt tv.t tv.x o t with
      | some z => .v ⟨.ref t, z⟩
      | none => .junk)
    | _ => .junk) else .v ⟨.ptr k o t, y⟩
  | s => s
def St.frz (st : St) (i : Nat) : St := match st.b[i]? with
  | some (some c) => ⟨st.t.map (frzS i c), st.b.set i none⟩
  | _ => st
def St.frzO (st : St) (p : Bool) : Operand → St
  | .tmp t => match st.t[t]? with
    | some (.v ⟨.sl k _, _⟩) => st.frz k
    | some (.v ⟨.ptr k _ _, _⟩) => if p = true then st.frz k else st
    | _ => st
  | _ => st
def frzOps : Op → List Operand × Bool
  | .call c => (match c.callee with
    | .builtin .len => ([], false)
    | .builtin .append => (c.args.toList.drop 1, false)
    | .builtin _ => (c.args.toList, false)
    | _ => ([], true))
  | .build _ ps => (ps.toList.map (·.2), false)
  | .buildSlice _ _ ps => (ps.toList.map (·.2), false)
  | .store _ _ x => ([x], false)
  | .box _ x => ([x], false)
  | .convert _ _ x => ([x], false)
  | .slice _ x _ _ _ => ([x], false)
  | .makeFunc _ a b => (a.toList ++ b.toList, false)
  | _ => ([], false)
def St.frzL (st : St) (p : Bool) : List Operand → St
  | [] => st
  | x :: r => (st.frzO p x).frzL p r

/-- Nothing yet, to be appended to. -/
def St.fresh (st : St) (e : TypeId) (t : Ty) : St := ⟨st.t, st.b ++ [some (.arr e t [])]⟩
/-- A new builder: its bytes, and the variable. -/
def St.newB (st : St) (d : Option Tmp) (T e : TypeId) : St := { ((st.fresh e (.int .u8)).put d (.v ⟨.ptr (st.fresh e (.int .u8)).b.length 0 (.bld T (st.fresh e (.int .u8)).b.length st.b.length), ()⟩)) with b := (st.fresh e (.int .u8)).b ++ [some (.one ⟨.bld T (st.fresh e (.int .u8)).b.length st.b.length, ()⟩)] }
def appK (P : Program) (st : St) (d : Option Tmp) (e : TypeId) (k : Nat) (t : Ty) (ys : List t.den) (K : St → Option R) : Option R :=
  match P.info? e, st.b[k]? with
  | some inf, some (some (.arr e' t' xs)) => match inf.zero, castTV ⟨.list t', xs⟩ (.list t) with
    | some z, some xs => if e' = e ∧ t.on (fun i => i != k) = true ∧ inf.size = t.size ∧ z.cells.size = inf.size ∧ 0 < inf.size then (bif decide ((xs.length + ys.length) * (inf.bytes + 1) ≤ 140737488355328) then
        K ((⟨(st.off fun i => i != k).t, (st.off fun i => i != k).b.set k (some (.arr e t (xs ++ ys)))⟩ : St).put d (.v ⟨.sl k t, ()⟩)) else none) else none
    | _, _ => none
  | _, _ => none
def appendK (P : Program) (st : St) (d : Option Tmp) (c : Call) (K : St → Option R) : Option R :=
  match c.args.toList, c.argTypes.toList with
  | [s, x], [ty, ty'] => if ty = ty' then (match P.underlying ty with
    | some (.slice e) => match opdN P ty st s, opdN P ty st x with
      | some ⟨.sl k t, _⟩, some tx => match castTV tx (.list t) with
        | some ys => appK P st d e k t ys K
        | none => none
      | some ⟨.nl t, _⟩, some tx => match castTV tx (.list t) with
        | some ys => appK P (st.fresh e t) d e st.b.length t ys K
        | none => none
      | _, _ => none
    | _ => none) else none
  | _, _ => none
/-- A call that works in place. -/
def inplK (sp : Specs) (n : Nat) (st : St) (d : Option Tmp) (f : Operand) (args : List Operand) (K : St → Option R) : Option (Option R) :=
  match opd st f, args with
  | some ⟨.fn g 0 .unit, _⟩, x :: r => match sp g with
    | some (.i s) => some (match opd st x, argsT st s.as (r.map .inl) with
      | some ⟨.sl k t, _⟩, some y => match st.b[k]? with
        | some (some (.arr e t' xs)) => match castTV ⟨.list t', xs⟩ (.list s.t) with
          | some xs => if e = s.e ∧ t = s.t ∧ 0 < s.t.size then ((s.F n xs y).bind fun ys => K ((⟨st.t, st.b.set k (some (.arr s.e s.t ys))⟩ : St).put d .junk)) else none
          | none => none
        | _ => none
      | _, _ => none)
    | _ => none
  | _, _ => none
/-- A call whose result is an array of the caller's own. -/
def ownK (sp : Specs) (n : Nat) (st : St) (d : Option Tmp) (f : Operand) (args : List Operand) (K : St → Option R) : Option (Option R) :=
  match opd st f with
  | some ⟨.fn g nf b, z⟩ => match sp g with
    | some (.o s) => some (match argsT st s.ps (((comps b z).take nf).map .inr ++ args.map .inl ++ ((comps b z).drop nf).map .inr) with
      | some y => (s.F n y).bind fun r => K { (st.put d (retSlot (.pair (.sl st.b.length s.t) s.rs) ((), r.2))) with b := st.b ++ [some (.arr s.e s.t r.1)] }
      | none => none)
    | _ => none
  | _ => none
/-- Boxes, by what they hold. -/
def boxesOf : List (Option TypeId) → (ct : Ty) → ct.den → List (Option Bx)
  | none :: r, .pair a b, x => some (.one ⟨a, x.1⟩) :: boxesOf r b x.2
  | some e :: r, .pair (.list t) b, x => some (.arr e t x.1) :: boxesOf r b x.2
  | _, _, _ => []
/-- A type, its boxes' places being other ones. -/
def Ty.ren (l : Nat → Nat) : Ty → Ty
  | .pair a b => .pair (a.ren l) (b.ren l)
  | .ptr i o t => .ptr (l i) o (t.ren l)
  | .sl k t => .sl (l k) t
  | .bld T i k => .bld T (l i) (l k)
  | t => t
def unren (l : Nat → Nat) : (t : Ty) → (t.ren l).den → t.den
  | .pair a b, x => (unren l a x.1, unren l b x.2)
  | .ptr _ _ _, _ => () | .sl _ _, _ => () | .bld _ _ _, _ => ()
  | .unit, x => x | .bool, x => x | .int _, x => x | .str, x => x | .list _, x => x | .nl _, x => x | .ref _, x => x | .opt _, x => x | .ep _ _ _ _, x => x | .fn _ _ _, x => x | .nif, x => x | .ifi _ _, x => x
def renX (l : Nat → Nat) : (t : Ty) → t.den → (t.ren l).den
  | .pair a b, x => (renX l a x.1, renX l b x.2)
  | .ptr _ _ _, _ => () | .sl _ _, _ => () | .bld _ _ _, _ => ()
  | .unit, x => x | .bool, x => x | .int _, x => x | .str, x => x | .list _, x => x | .nl _, x => x | .ref _, x => x | .opt _, x => x | .ep _ _ _ _, x => x | .fn _ _ _, x => x | .nif, x => x | .ifi _ _, x => x
def isA (ks : List (Option TypeId)) (k : Nat) : Bool := match ks[k]? with
  | some (some _) => true
  | _ => false
/-- May a type be renamed: it speaks of the boxes that are handed over alone, and of these at its top. -/
def Ty.top (ks : List (Option TypeId)) : Ty → Bool
  | .pair a b => a.top ks && b.top ks
  | .ptr i _ _ => decide (i < ks.length)
  | .sl k _ => isA ks k
  | .bld _ i k => decide (i < ks.length) && isA ks k
  | t => t.on (fun _ => false)
/-- Which boxes a type's places are. -/
def mtch : Ty → Ty → List (Nat × Nat)
  | .pair a b, .pair c d => mtch a c ++ mtch b d
  | .ptr j _ t, .ptr i _ u => (j, i) :: mtch t u
  | .sl j _, .sl i _ => [(j, i)]
  | .bld _ j k, .bld _ i q => [(j, i), (k, q)]
  | _, _ => []
def mtchA (st : St) : Ty → List (Operand ⊕ TV) → List (Nat × Nat)
  | .pair a b, x :: r => (match x with
    | .inl x => (match opd st x with
      | some tv => mtch a tv.t
      | none => [])
    | .inr tv => mtch a tv.t) ++ mtchA st b r
  | _, _ => []
/-- What lies in boxes, by their places. -/
def inB (st : St) (l : Nat → Nat) : Nat → List (Option TypeId) → (ct : Ty) → Option ct.den
  | _, [], .unit => some ()
  | j, none :: r, .pair a b => match st.b[l j]? with
    | some (some (.one tv)) => match castTV tv (a.ren l), inB st l (j + 1) r b with
      | some x, some y => some (unren l a x, y)
      | _, _ => none
    | _ => none
  | j, some e :: r, .pair (.list t) b => match st.b[l j]? with
    | some (some (.arr e' t' xs)) => match castTV ⟨.list t', xs⟩ (.list t), inB st l (j + 1) r b with
      | some x, some y => if e' = e then some (x, y) else none
      | _, _ => none
    | _ => none
  | _, _, _ => none
def putB (l : Nat → Nat) : Nat → List (Option TypeId) → (ct : Ty) → ct.den → List (Option Bx) → List (Option Bx)
  | j, none :: r, .pair a b, x, bs => putB l (j + 1) r b x.2 (bs.set (l j) (some (.one ⟨a.ren l, renX l a x.1⟩)))
  | j, some e :: r, .pair (.list t) b, x, bs => putB l (j + 1) r b x.2 (bs.set (l j) (some (.arr e t x.1)))
  | _, _, _, _, bs => bs
def killB : List Nat → List (Option Bx) → List (Option Bx)
  | [], bs => bs
  | i :: r, bs => killB r (bs.set i none)
def SpM.wf (s : SpM) : Bool := s.ct.top s.ks && s.ps.top s.ks && s.rs.on (fun _ => false) && go s.ks s.ct
where go : List (Option TypeId) → Ty → Bool
  | [], .unit => true
  | none :: r, .pair _ b => go r b
  | some _ :: r, .pair (.list t) b => t.on (fun _ => false) && go r b
  | _, _ => false
/-- The boxes behind a call. -/
def behB (s : SpM) (l : List Nat) (x : s.ct.den) (bs : List (Option Bx)) : List (Option Bx) := match s.dead with
  | true => killB l bs
  | false => putB (l.getD · 0) 0 s.ks s.ct x bs
def nodup : List Nat → Bool
  | [] => true
  | x :: r => !(r.contains x) && nodup r
/-- The place of an array that is handed over? -/
def isArr (ks : List (Option TypeId)) (l : List Nat) (i : Nat) : Bool := match l.idxOf? i with
  | some j => isA ks j
  | none => false
/-- What is handed over as a plain value. -/
def want : Ty → List (Operand ⊕ TV) → List Operand
  | .pair a b, x :: r => (match x with
    | .inl x => if a.on (fun _ => false) = true then [x] else []
    | .inr _ => []) ++ want b r
  | _, _ => []
/-- The places of the boxes that are handed over. -/
def mutL (st : St) (s : SpM) (src : List (Operand ⊕ TV)) : List Nat := (List.range s.ks.length).map fun j => match (mtchA st s.ps src).find? (fun q => q.1 == j) with
  | some q => q.2
  | none => st.b.length
/-- Is a contract one for these boxes? -/
def fitM (st : St) (s : SpM) (src : List (Operand ⊕ TV)) : Bool := (inB st ((mutL st s src).getD · 0) 0 s.ks s.ct).isSome
def mutG (s : SpM) (n : Nat) (st : St) (d : Option Tmp) (src : List (Operand ⊕ TV)) (l : List Nat) (K : St → Option R) : Option R :=
  if s.wf = true ∧ nodup l = true ∧ (l.all fun i => decide (i < st.b.length)) = true ∧ l.length = s.ks.length then (match argsT st (s.ps.ren (l.getD · 0)) src, inB st (l.getD · 0) 0 s.ks s.ct with
    | some y, some c => (s.F n c (unren (l.getD · 0) s.ps y)).bind fun r => K ((⟨(st.off fun i => !isArr s.ks l i).t, behB s l r.1 (st.off fun i => !isArr s.ks l i).b⟩ : St).put d (retSlot s.rs r.2))
    | _, _ => none) else none
def mutH (g0 : FuncId) (s : SpM) (n : Nat) (st : St) (d : Option Tmp) (f : Operand) (args : List Operand) (K : St → Option R) : Option R :=
  match opd st f with
  | some ⟨.fn g nf b, z⟩ => if g = g0 then mutG s n st d (((comps b z).take nf).map .inr ++ args.map .inl ++ ((comps b z).drop nf).map .inr) (mutL st s (((comps b z).take nf).map .inr ++ args.map .inl ++ ((comps b z).drop nf).map .inr)) K else none
  | _ => none
/-- A call to which boxes are handed. -/
def mutK (sp : Specs) (n : Nat) (st : St) (d : Option Tmp) (f : Operand) (args : List Operand) (K : St → Option R) : Option (Option R) :=
  match opd st f with
  | some ⟨.fn g nf b, z⟩ => match sp g with
    | some (.m l) => match l.find? (fun s => fitM st s (((comps b z).take nf).map .inr ++ args.map .inl ++ ((comps b z).drop nf).map .inr)) with
      | none => none
      | some s => some (mutH g s n (st.frzL true (want s.ps (((comps b z).take nf).map .inr ++ args.map .inl ++ ((comps b z).drop nf).map .inr))) d f args K)
    | _ => none
  | _ => none
inductive Ex where
  | norm | exit (id : Nat) | ret | pan (T : TypeId) (k : IntKind) (n : Int)
/-- A call that may end in a panic. -/
def panG (s : SpP) (n : Nat) (st : St) (d : Option Tmp) (src : List (Operand ⊕ TV)) (l : List Nat) (K : Ex → St → Option R) (Kn : St → Option R) : Option R :=
  if s.toM.wf = true ∧ nodup l = true ∧ (l.all fun i => decide (i < st.b.length)) = true ∧ l.length = s.ks.length then (match argsT st (s.ps.ren (l.getD · 0)) src, inB st (l.getD · 0) 0 s.ks s.ct with
    | some y, some c => (s.F n c (unren (l.getD · 0) s.ps y)).bind fun r => sumK r.2
        (fun x => Kn ((⟨(st.off fun i => !isArr s.ks l i).t, behB s.toM l r.1 (st.off fun i => !isArr s.ks l i).b⟩ : St).put d (retSlot s.rs x)))
        (fun v => K (.pan v.1 v.2.1 v.2.2) ⟨(st.off fun i => !isArr s.ks l i).t, behB s.toM l r.1 (st.off fun i => !isArr s.ks l i).b⟩)
    | _, _ => none) else none
def panH (g0 : FuncId) (s : SpP) (n : Nat) (st : St) (d : Option Tmp) (f : Operand) (args : List Operand) (K : Ex → St → Option R) (Kn : St → Option R) : Option R :=
  match opd st f with
  | some ⟨.fn g nf b, z⟩ => if g = g0 then panG s n st d (((comps b z).take nf).map .inr ++ args.map .inl ++ ((comps b z).drop nf).map .inr) (mutL st s.toM (((comps b z).take nf).map .inr ++ args.map .inl ++ ((comps b z).drop nf).map .inr)) K Kn else none
  | _ => none
def panK (sp : Specs) (n : Nat) (st : St) (d : Option Tmp) (f : Operand) (args : List Operand) (K : Ex → St → Option R) (Kn : St → Option R) : Option (Option R) :=
  match opd st f with
  | some ⟨.fn g nf b, z⟩ => match sp g with
    | some (.p l) => match l.find? (fun s => fitM st s.toM (((comps b z).take nf).map .inr ++ args.map .inl ++ ((comps b z).drop nf).map .inr)) with
      | none => none
      | some s => some (panH g s n (st.frzL true (want s.ps (((comps b z).take nf).map .inr ++ args.map .inl ++ ((comps b z).drop nf).map .inr))) d f args K Kn)
    | _ => none
  | _ => none
def panO (sp : Specs) (n : Nat) (st : St) (o : Oper) (K : Ex → St → Option R) (Kn : St → Option R) : Option (Option R) :=
  match o.op with
  | .panic x => some (match opd st x with
    | some ⟨.ifi T k, v⟩ => K (.pan T k v) st
    | _ => none)
  | .call c => match c.callee with
    | .value f => panK sp n st o.dst f c.args.toList K Kn
    | _ => none
  | _ => none
def litK (P : Program) (st : St) (d : Option Tmp) (ty : TypeId) (len : Nat) (parts : List (Nat × Operand)) (K : St → Option R) : Option R :=
  match P.underlying ty with
  | some (.slice e) => match tyOf P 30 e, P.info? e with
    | some t, some inf => if inf.size = t.size ∧ 0 < inf.size ∧ ¬ len * inf.size > 2 ^ 24 then (match inf.zero with
      | some z => match ofCells (many len t) (if len * inf.size = 0 then [] else ((Array.range (len * inf.size)).map (z.cells[· % z.cells.size]!)).toList) with
        | some (x0, []) => match setParts P st (fun i => some (i * inf.size, inf.size, e)) (many len t) x0 parts with
          | some x => K { (st.put d (.v ⟨.sl st.b.length t, ()⟩)) with b := st.b ++ [some (.arr e t (chain len t x))] }
          | none => none
        | _ => none
      | none => none) else none
    | _, _ => none
  | _ => none

def stepF (P : Program) (sp : Specs) (n : Nat) (st : St) (o : Oper) (K : St → Option R) : Option R :=
  match o.op with
  | .box ty x => match bldW P ty with
    | some e => match P.info? ty, opdX P ty st x with
      | some inf, some ⟨.pair (.opt .unit) (.pair (.nl (.int .u8)) .unit), y⟩ => if inf.size = 2 then (match y.1 with
        | none => K (st.newB o.dst ty e)
        | some _ => none) else none
      | _, _ => none
    | none => match P.info? ty, opdX P ty st x with
    | some inf, some tv => if inf.size = tv.t.size ∧ eltOf tv.t ty = ty then K { (st.put o.dst (.v ⟨.ptr st.b.length 0 tv.t, ()⟩)) with b := st.b ++ [some (.one tv)] } else none
    | _, _ => none
  | .alloc ty => match bldW P ty with
    | some e => match P.info? ty with
      | some inf => match inf.zero with
        | some z => if zeroB z.cells.toList = true then K (st.newB o.dst ty e) else none
        | none => none
      | none => none
    | none => match tyOf P 30 ty, P.info? ty with
    | some t, some inf => match inf.zero with
      | some z => match ofCells t z.cells.toList with
        | some (x, []) => K { (st.put o.dst (.v ⟨.ptr st.b.length 0 t, ()⟩)) with b := st.b ++ [some (.one ⟨t, x⟩)] }
        | _ => none
      | none => none
    | _, _ => none
  | .store ty a x => match opd st a, opdX P ty st x, P.info? ty with
    | some ⟨.ptr i q _, _⟩, some tv, some inf => match st.b[i]? with
      | some (some (.one c)) => if inf.size = tv.t.size then (match setAt c.t c.x q tv with
        | some y => K { (st.put o.dst .undef) with b := st.b.set i (some (.one ⟨c.t, y⟩)) }
        | none => none) else none
      | _ => none
    | some ⟨.ep k q u _, i⟩, some tv, some inf => match st.b[k]? with
      | some (some (.arr e u' xs)) => if u' = u ∧ inf.size = tv.t.size then ((xs[i]?).bind fun x0 => match setAt u' x0 q tv with
        | some y => K { (st.put o.dst .undef) with b := st.b.set k (some (.arr e u' (xs.set i y))) }
        | none => none) else none
      | _ => none
    | _, _, _ => none
  | .buildSlice ty len parts => litK P st o.dst ty len parts.toList K
  | .call c => match c.callee with
    | .builtin .append => appendK P st o.dst c K
    | .value f => match inplK sp n st o.dst f c.args.toList K with
      | some r => r
      | none => match mutK sp n st o.dst f c.args.toList K with
      | some r => r
      | none => match ownK sp n (st.frzL true c.args.toList) o.dst f c.args.toList K with
        | some r => r
        | none => pureK P sp n (st.frzL true c.args.toList) o fun s => K ((st.frzL true c.args.toList).put o.dst s)
    | _ => pureK P sp n st o fun s => K (st.put o.dst s)
  | _ => pureK P sp n st o fun s => K (st.put o.dst s)
def stepK (P : Program) (sp : Specs) (n : Nat) (st : St) (o : Oper) (K : St → Option R) : Option R :=
  stepF P sp n (st.frzL (frzOps o.op).2 (frzOps o.op).1) o K

/-- Does an operation run? By its guard. -/
def guardK (ops : Array Oper) (st : St) (o : Oper) (K : Bool → Option R) : Option R :=
  match o.guard with
  | none => K true
  | some (j, want) => match (ops[j]?).bind (·.dst) with
    | some t => match st.t[t]? with
      | some .undef => K false
      | some (.v ⟨.bool, b⟩) => bif b == want then K true else K false
      | _ => none
    | none => none

/-- What a test has told of a slot is kept. -/
def St.know (st : St) (t : Tmp) (b : Bool) : St := { st with t := st.t.set t (.v ⟨.bool, b⟩) }
def St.knowO (st : St) (x : Operand) (b : Bool) : St := match x with
  | .tmp t => st.know t b
  | _ => st
def guardS (ops : Array Oper) (st : St) (o : Oper) (K : Bool → St → Option R) : Option R :=
  match o.guard with
  | none => K true st
  | some (j, want) => match (ops[j]?).bind (·.dst) with
    | some t => match st.t[t]? with
      | some .undef => K false st
      | some (.v ⟨.bool, b⟩) => bif b then K (true == want) (st.know t true) else K (false == want) (st.know t false)
      | _ => none
    | none => none

def opsK (P : Program) (sp : Specs) (n : Nat) (ops : Array Oper) : List Oper → St → (Ex → St → Option R) → Option R
  | [], st, K => K .norm st
  | o :: r, st, K => guardS ops st o fun b st => bif b then (match panO sp n st o K fun st' => opsK P sp n ops r st' K with
    | some x => x
    | none => stepK P sp n st o fun st' => opsK P sp n ops r st' K) else opsK P sp n ops r (st.put o.dst .undef) K

/-! a region whose order is drawn: operations that keep the state, and stores, literals and appends, one behind the other, each behind what it looks at -/
def Ty.bxs : Ty → List Nat
  | .pair a b => a.bxs ++ b.bxs
  | .list t => t.bxs
  | .nl t => t.bxs
  | .ref t => t.bxs
  | .opt t => t.bxs
  | .sl k t => k :: t.bxs
  | .ptr i _ _ => [i]
  | .ep k _ _ _ => [k]
  | .fn _ _ b => b.bxs
  | .bld _ i k => [i, k]
  | _ => []
def Slot.bxs : Slot → List Nat
  | .v x => x.t.bxs
  | .tup t _ => t.bxs
  | _ => []
def Bx.bxs : Bx → List Nat
  | .one x => x.t.bxs
  | .arr _ t _ => t.bxs
def looks (ops : Array Oper) (o : Oper) : List Tmp :=
  (o.op.operands.toList.filterMap fun | .tmp t => some t | _ => none) ++
  (match o.guard with
   | some (g, _) => ((ops[g]?).bind (·.dst)).toList
   | none => [])
def drawOne (ops : Array Oper) (j : Nat) (o : Oper) : Bool :=
  (o.after.toList.all fun e => !Region.binds .any e || decide (e.on < j)) &&
  ((List.range ops.size).all fun i => match ops[i]? with
    | some q => match q.dst with
      | some t => (i == j || !(o.dst == some t)) && (!(looks ops o).contains t ||
          ((decide (i < j) && o.after.toList.any fun e => Region.binds .any e && e.on == i) || (decide (j < i) && q.after.toList.any fun e => Region.binds .any e && e.on == j)))
      | none => true
    | none => true)
def drawOk (P : Program) (ops : Array Oper) : Bool :=
  P.follows .mixedOrders && (List.range ops.size).all fun j => match ops[j]? with
    | some o => drawOne ops j o
    | none => true

def seen (ops : Array Oper) (st : St) (o : Oper) : List Nat := (looks ops o).flatMap fun t => match st.t[t]? with
  | some s => s.bxs
  | none => []
/-- The boxes that an operation may look at, and what these speak of. -/
def seesL (ops : Array Oper) (st : St) (o : Oper) : List Nat := seen ops st o ++ (seen ops st o).flatMap fun q => match st.b[q]? with
  | some (some c) => c.bxs
  | _ => []
def dimB (l : List Nat) : Nat → List (Option Bx) → List (Option Bx)
  | _, [] => []
  | i, x :: r => (if l.contains i = true then x else none) :: dimB l (i + 1) r
def St.dim (st : St) (l : List Nat) : St := ⟨st.t, dimB l 0 st.b⟩
structure Lg where
  j : Nat
  l : List Nat
  w : Option Nat
def reach (ops : Array Oper) : Nat → Nat → Nat → Bool
  | 0, _, _ => false
  | d + 1, i, j => match ops[j]? with
    | some q => q.after.toList.any fun e => Region.binds .any e && (decide (e.on < j) && (e.on == i || (decide (i < e.on) && reach ops d i e.on)))
    | none => false
def chainOk (ops : Array Oper) : List Nat → Bool
  | x :: y :: r => decide (y < x) && (reach ops 4 y x && chainOk ops (y :: r))
  | _ => true
def effs (g : List Lg) : List Nat := g.filterMap fun x => match x.w with
  | some _ => some x.j
  | none => none
def logOk (ops : Array Oper) (g : List Lg) : Bool := chainOk ops (effs g) && g.all fun x => match x.w with
  | none => true
  | some k => g.all fun y => y.j == x.j || (!(y.l.contains k) || (reach ops 4 y.j x.j || reach ops 4 x.j y.j))
/-- What an operation does with the boxes. -/
inductive Eff where
  | set (i : Nat) (bx : Bx) | new (bx : Bx) (s : Slot) | app (k : Nat) (e : TypeId) (t : Ty) (zs : List t.den) | napp (e : TypeId) (t : Ty) (zs : List t.den)
def Eff.ap (d : Option Tmp) : Eff → St → St
  | .set i bx, st => { (st.put d .undef) with b := st.b.set i (some bx) }
  | .new bx s, st => { (st.put d s) with b := st.b ++ [some bx] }
  | .app k e t zs, st => (⟨(st.off fun i => i != k).t, (st.off fun i => i != k).b.set k (some (.arr e t zs))⟩ : St).put d (.v ⟨.sl k t, ()⟩)
  | .napp e t zs, st => (⟨((st.fresh e t).off fun i => i != st.b.length).t, ((st.fresh e t).off fun i => i != st.b.length).b.set st.b.length (some (.arr e t zs))⟩ : St).put d (.v ⟨.sl st.b.length t, ()⟩)
def Eff.box (st : St) : Eff → Nat
  | .set i _ => i
  | .app k _ _ _ => k
  | _ => st.b.length
def Eff.slot (st : St) : Eff → Slot
  | .set _ _ => .undef
  | .new _ s => s
  | .app k _ t _ => .v ⟨.sl k t, ()⟩
  | .napp _ t _ => .v ⟨.sl st.b.length t, ()⟩
def storeE (P : Program) (st : St) (ty : TypeId) (a x : Operand) (K : Eff → Option R) : Option R :=
  match opd st a, opdX P ty st x, P.info? ty with
  | some ⟨.ptr i q _, _⟩, some tv, some inf => (match st.b[i]? with
    | some (some (.one c)) => if inf.size = tv.t.size then (match setAt c.t c.x q tv with
      | some y => K (.set i (.one ⟨c.t, y⟩))
      | none => none) else none
    | _ => none)
  | some ⟨.ep k q u _, i⟩, some tv, some inf => (match st.b[k]? with
    | some (some (.arr e u' xs)) => if u' = u ∧ inf.size = tv.t.size then ((xs[i]?).bind fun x0 => match setAt u' x0 q tv with
      | some y => K (.set k (.arr e u' (xs.set i y)))
      | none => none) else none
    | _ => none)
  | _, _, _ => none
def litE (P : Program) (st : St) (ty : TypeId) (len : Nat) (parts : List (Nat × Operand)) (K : Eff → Option R) : Option R :=
  match P.underlying ty with
  | some (.slice e) => match tyOf P 30 e, P.info? e with
    | some t, some inf => if inf.size = t.size ∧ 0 < inf.size ∧ ¬ len * inf.size > 2 ^ 24 then (match inf.zero with
      | some z => match ofCells (many len t) (if len * inf.size = 0 then [] else ((Array.range (len * inf.size)).map (z.cells[· % z.cells.size]!)).toList) with
        | some (x0, []) => match setParts P st (fun i => some (i * inf.size, inf.size, e)) (many len t) x0 parts with
          | some x => K (.new (.arr e t (chain len t x)) (.v ⟨.sl st.b.length t, ()⟩))
          | none => none
        | _ => none
      | none => none) else none
    | _, _ => none
  | _ => none
def appE (P : Program) (e : TypeId) (t : Ty) (k : Nat) (xs ys : List t.den) (K : List t.den → Option R) : Option R :=
  match P.info? e with
  | some inf => match inf.zero with
    | some z => if t.on (fun i => i != k) = true ∧ inf.size = t.size ∧ z.cells.size = inf.size ∧ 0 < inf.size then (bif decide ((xs.length + ys.length) * (inf.bytes + 1) ≤ 140737488355328) then K (xs ++ ys) else none) else none
    | none => none
  | none => none
def appendE (P : Program) (st : St) (c : Call) (K : Eff → Option R) : Option R :=
  match c.args.toList, c.argTypes.toList with
  | [s, x], [ty, ty'] => if ty = ty' then (match P.underlying ty with
    | some (.slice e) => match opdN P ty st s, opdN P ty st x with
      | some ⟨.sl k t, _⟩, some tx => match castTV tx (.list t), st.b[k]? with
        | some ys, some (some (.arr e' t' xs)) => if e' = e then (match castTV ⟨.list t', xs⟩ (.list t) with
          | some xs => appE P e t k xs ys fun zs => K (.app k e t zs)
          | none => none) else none
        | _, _ => none
      | some ⟨.nl t, _⟩, some tx => match castTV tx (.list t) with
        | some ys => appE P e t st.b.length [] ys fun zs => K (.napp e t zs)
        | none => none
      | _, _ => none
    | _ => none) else none
  | _, _ => none
def isApp (x : Tmp) (o : Oper) : Bool := match o.op with
  | .call c => (match c.callee, c.args.toList with
    | .builtin .append, .tmp y :: _ => x == y
    | _, _ => false)
  | _ => false
/-- An operation with an effect on boxes, if it is one. -/
def effK (P : Program) (ops : Array Oper) (st : St) (o : Oper) (K : Eff → Option R) : Option (Option R) :=
  match o.op with
  | .store ty a x => some (storeE P st ty a x K)
  | .buildSlice ty len parts => (match o.dst with
    | some d => if ops.toList.any (isApp d) = true then some (litE P st ty len parts.toList K) else none
    | none => none)
  | .call c => (match c.callee with
    | .builtin .append => some (appendE P st c K)
    | _ => none)
  | _ => none
/-- Variables that a drawn region makes: each has its place ahead of the region, and is empty until it is made. -/
def alsK (P : Program) : List Oper → Nat → Nat → Option (List (Nat × Nat × TV))
  | [], _, _ => some []
  | o :: r, j, k => match o.op with
    | .alloc ty => (match bldW P ty, tyOf P 30 ty, P.info? ty with
      | none, some t, some inf => (match inf.zero with
        | some z => (match ofCells t z.cells.toList with
          | some (x, []) => if o.guard.isNone = true ∧ o.dst.isSome = true then (match alsK P r (j + 1) (k + 1) with
            | some l => some ((j, k, ⟨t, x⟩) :: l)
            | none => none) else none
          | _ => none)
        | none => none)
      | _, _, _ => none)
    | _ => alsK P r (j + 1) k
def alA (al : List (Nat × Nat × TV)) (j : Nat) : Option Slot := match al.find? (fun q => q.1 == j) with
  | some q => some (.v ⟨.ptr q.2.1 0 q.2.2.t, ()⟩)
  | none => none
def isSet : Eff → Bool
  | .set _ _ => true
  | _ => false
def okE (al : List (Nat × Nat × TV)) (f : Eff) : Bool := al.isEmpty || isSet f
def alOk (ops : Array Oper) (al : List (Nat × Nat × TV)) (g : List Lg) : Bool := al.all fun q => g.all fun y => y.j == q.1 || (!(y.l.contains q.2.1) || reach ops 4 q.1 y.j)
def opsP (P : Program) (sp : Specs) (n : Nat) (ops : Array Oper) (al : List (Nat × Nat × TV)) : List Oper → Nat → St → List Lg → (St → Option R) → Option R
  | [], _, st, g, K => if logOk ops g = true ∧ alOk ops al g = true then K st else none
  | o :: r, j, st, g, K => guardS ops st o fun b st => bif b then (match alA al j with
    | some s => opsP P sp n ops al r (j + 1) (st.put o.dst s) (⟨j, seesL ops st o ++ s.bxs, none⟩ :: g) K
    | none => match effK P ops st o fun f => if okE al f = true then opsP P sp n ops al r (j + 1) (f.ap o.dst st) (⟨j, seesL ops st o ++ (f.box st :: (f.slot st).bxs), some (f.box st)⟩ :: g) K else none with
      | some x => x
      | none => pureK P sp n (st.dim (seen ops st o)) o fun s => opsP P sp n ops al r (j + 1) (st.put o.dst s) (⟨j, seesL ops st o ++ s.bxs, none⟩ :: g) K)
    else opsP P sp n ops al r (j + 1) (st.put o.dst .undef) g K
def addA (st : St) (al : List (Nat × Nat × TV)) : St := ⟨st.t, st.b ++ al.map fun q => some (.one q.2.2)⟩
def drawS (P : Program) (sp : Specs) (n : Nat) (ops : Array Oper) (st : St) (K : St → Option R) : Option R := match alsK P ops.toList 0 st.b.length with
  | some al => opsP P sp n ops al ops.toList 0 (addA st al) [] K
  | none => none

/-- What a drawn region cuts, or hands on, is laid down for good ahead of it. -/
def srcO (ops : List Oper) : Nat → Operand → Operand
  | 0, x => x
  | d + 1, .tmp t => match ops.find? (fun o => o.dst == some t) with
    | some o => (match o.op with
      | .move x => srcO ops d x
      | _ => .tmp t)
    | none => .tmp t
  | _, x => x
def frzOf (o : Oper) : List Operand := match o.op with
  | .call c => (match c.callee with
    | .value _ => c.args.toList
    | _ => (frzOps o.op).1)
  | .store _ _ _ => []
  | op => (frzOps op).1
def preFrz (ops : List Oper) (st : St) : St := st.frzL false ((ops.flatMap frzOf).map (srcO ops 3))

/-- Is the last operation one to which boxes are handed? -/
def lastM (sp : Specs) (ops : Array Oper) : Bool := match ops.toList.getLast? with
  | some o => (match o.op with
    | .call c => (match c.callee with
      | .value (.func g) => (match sp g with
        | some (.m _) => true
        | some (.p _) => true
        | _ => false)
      | _ => false)
    | _ => false)
  | none => false
/-- All others are ahead of it. -/
def lastOk (ops : Array Oper) : Bool := (decide (0 < ops.size) && (match ops[ops.size - 1]? with
  | some o => o.after.toList.all fun e => !Region.binds .any e || decide (e.on < ops.size - 1)
  | none => false)) && (List.range (ops.size - 1)).all fun j => reach ops ops.size j (ops.size - 1) && (match ops[j]? with
  | some o => (match o.guard with
    | some (g, _) => decide (g < ops.size - 1)
    | none => true)
  | none => true)
def initO (ops : Array Oper) : Array Oper := ops.toList.dropLast.toArray
def lastK (P : Program) (sp : Specs) (n : Nat) (ops : Array Oper) (st : St) (K : Ex → St → Option R) : Option R := match ops[ops.size - 1]? with
  | some o => guardS ops st o fun b st => bif b then (match panO sp n st o K (K .norm) with
    | some x => x
    | none => stepK P sp n st o (K .norm)) else K .norm (st.put o.dst .undef)
  | none => none
def drawK (P : Program) (sp : Specs) (n : Nat) (ops : Array Oper) (st : St) (K : Ex → St → Option R) : Option R :=
  if lastM sp ops = true then (if drawOk P (initO ops) = true ∧ lastOk ops = true then drawS P sp n (initO ops) (preFrz (initO ops).toList st) (fun st' => lastK P sp n ops st' K) else none)
  else if drawOk P ops = true then drawS P sp n ops (preFrz ops.toList st) (K .norm) else none


/-- Where what is not wanted any more is laid aside: a tree beside the code. -/
inductive An where
  | o
  | s (a b : An) | c (a b : An) | b (a : An) | l (co : List (Nat × Ty × TypeId)) (k : List Nat) (nb : Nat) (a : An) | k (co : List (Nat × Ty × TypeId)) (k : List Nat) (nb : Nat) (a b : An)
def An.left : An → An
  | .s x _ | .c x _ | .b x | .l _ _ _ x | .k _ _ _ x _ => x
  | .o => .o
def An.right : An → An
  | .s _ y | .c _ y | .k _ _ _ _ y => y
  | _ => .o

def keepS (k : List Nat) (p : Nat → Bool) : Nat → List Slot → List Slot
  | _, [] => []
  | i, s :: r => (if k.contains i then (match s with
      | .v x => if x.t.on p = true then .v x else .junk
      | .undef => .undef
      | _ => .junk) else .junk) :: keepS k p (i + 1) r
def keepB (p : Nat → Bool) : List (Option Bx) → List (Option Bx)
  | [] => []
  | x :: r => offB p x :: keepB p r
def St.keep (st : St) (k : List Nat) (nb : Nat) : St := ⟨keepS k (fun i => decide (i < nb)) 0 st.t, keepB (fun i => decide (i < nb)) (st.b.take nb)⟩
/-- A slot's value, seen at another type. -/
def St.coeT (st : St) (s : Nat) (T : Ty) : St := match st.t[s]? with
  | some (.v tv) => (match castTV tv T with
    | some y => { st with t := st.t.set s (.v ⟨T, y⟩) }
    | none => st)
  | _ => st
def St.ren (st : St) (s k j : Nat) (u : Ty) (e : TypeId) : St := match st.b[j]?, st.b[k]? with
  | some _, some (some (.arr e' u' xs)) => if k ≠ j ∧ u' = u ∧ e' = e ∧ u.on (fun i => i != k && i != j) = true then
      ⟨(st.off fun i => i != k && i != j).t.set s (.v ⟨.sl j u, ()⟩), ((st.off fun i => i != k && i != j).b.set k none).set j (some (.arr e u' xs))⟩ else st
  | _, _ => st
def St.coe1 (st : St) (c : Nat × Ty × TypeId) : St := match c, st.t[c.1]? with
  | (s, .sl j u, e), some (.v ⟨.sl k _, _⟩) => st.ren s k j u e
  | (s, .sl j u, e), some (.v ⟨.nl u', _⟩) => if u' = u ∧ j = st.b.length then ⟨st.t.set s (.v ⟨.sl j u, ()⟩), st.b ++ [some (.arr e u [])]⟩ else st
  | (_, .sl _ _, _), _ => st
  | (s, T, _), _ => (st.frzO true (.tmp s)).coeT s T
def St.coe (st : St) : List (Nat × Ty × TypeId) → St
  | [] => st
  | c :: r => (st.coe1 c).coe r
def St.keepA (st : St) : An → St
  | .l co k nb _ | .k co k nb _ _ => (st.coe co).keep k nb
  | _ => st

def rounds {σ : Type} (f : (σ → Option R) → σ → Option R) : Nat → σ → Option R
  | 0, _ => none
  | n + 1, st => f (rounds f n) st

def codeK (P : Program) (sp : Specs) (n : Nat) : Code → An → St → (Ex → St → Option R) → Option R
  | .skip, _, st, K => K .norm st
  | .region _ ops false, _, st, K => opsK P sp n ops ops.toList st K
  | .region _ ops true, _, st, K => drawK P sp n ops st K
  | .seq x y, an, st, K => codeK P sp n x an.left st fun e st' => match e with
    | .norm => codeK P sp n y an.right (st'.keepA an) K
    | e => K e st'
  | .cond c x y, an, st, K => match opd st c with
    | some ⟨.bool, b⟩ => bif b then codeK P sp n x an.left (st.knowO c true) K else codeK P sp n y an.right (st.knowO c false) K
    | _ => none
  | .block id x, an, st, K => codeK P sp n x an.left st fun e st' => match e with
    | .exit j => if j = id then K .norm st' else K (.exit j) st'
    | e => K e st'
  | .loop x, an, st, K => rounds (fun rec st => codeK P sp n x an.left st fun e st' => match e with
    | .norm => rec (st'.keepA an)
    | e => K e st') n (st.keepA an)
  | .exit id, _, st, K => K (.exit id) st
  | .label _, _, st, K => K .norm st
  | .ret, _, st, K => K .ret st
  | _, _, _, _ => none
@[reducible] def kSeq (k : St → Option R) (an : An) (K : Ex → St → Option R) : Ex → St → Option R := fun e st' => match e with
    | .norm => k (st'.keepA an)
    | e => K e st'
@[reducible] def kBlk (id : Nat) (K : Ex → St → Option R) : Ex → St → Option R := fun e st' => match e with
    | .exit j => if j = id then K .norm st' else K (.exit j) st'
    | e => K e st'

/-- The same, what lies behind a cut being left open. -/
def codeR (rc : Code → An → St → (Ex → St → Option R) → Option R) (P : Program) (sp : Specs) (n : Nat) : Code → An → St → (Ex → St → Option R) → Option R
  | .skip, _, st, K => K .norm st
  | .region _ ops false, _, st, K => opsK P sp n ops ops.toList st K
  | .region _ ops true, _, st, K => drawK P sp n ops st K
  | .seq x y, .k co l nb p q, st, K => codeR rc P sp n x p st (kSeq (fun st' => rc y q st' K) (.k co l nb p q) K)
  | .seq x y, an, st, K => codeR rc P sp n x an.left st (kSeq (fun st' => codeR rc P sp n y an.right st' K) an K)
  | .cond c x y, an, st, K => match opd st c with
    | some ⟨.bool, b⟩ => bif b then codeR rc P sp n x an.left (st.knowO c true) K else codeR rc P sp n y an.right (st.knowO c false) K
    | _ => none
  | .block id x, an, st, K => codeR rc P sp n x an.left st (kBlk id K)
  | .loop x, an, st, K => rounds (fun rec st => codeR rc P sp n x an.left st (kSeq rec an K)) n (st.keepA an)
  | .exit id, _, st, K => K (.exit id) st
  | .label _, _, st, K => K .norm st
  | .ret, _, st, K => K .ret st
  | _, _, _, _ => none

end

def cl : Code → Code
  | .seq a _ => a | .cond _ a _ => a | .block _ a => a | .loop a => a | c => c
def cr : Code → Code
  | .seq _ b => b | .cond _ _ b => b | c => c
def bodyOf (fn : Func) : Code := match fn.body with
  | some c => c
  | none => .skip

def start (ps : Ty) (x : ps.den) (ntmps : Nat) : St :=
  ⟨(go ps x) ++ List.replicate (ntmps - (go ps x).length) .undef, []⟩
where go : (t : Ty) → t.den → List Slot
  | .pair a b, x => .v ⟨a, x.1⟩ :: go b x.2
  | _, _ => []

/-- A value, all that it points to being laid down for good. -/
def deep (b : List (Option Bx)) : Nat → (t : Ty) → t.den → TV
  | 0, t, x => ⟨t, x⟩
  | n + 1, .pair a c, x => ⟨.pair (deep b n a x.1).t (deep b n c x.2).t, ((deep b n a x.1).x, (deep b n c x.2).x)⟩
  | _ + 1, .sl k t, x => match b[k]? with
    | some (some (.arr _ t' xs)) => if t' = t then ⟨.list t', xs⟩ else ⟨.sl k t, x⟩
    | _ => ⟨.sl k t, x⟩
  | n + 1, .ptr k o t, x => match b[k]? with
    | some (some (.one c)) => (match getAt c.t c.x o t with
      | some z => ⟨.ref (deep b n t z).t, (deep b n t z).x⟩
      | none => ⟨.ptr k o t, x⟩)
    | _ => ⟨.ptr k o t, x⟩
  | _ + 1, t, x => ⟨t, x⟩
def deepT (st : St) (a : Ty) (tv : TV) : Option a.den := castTV (deep st.b 30 tv.t tv.x) a
def resT (P : Program) (st : St) : (t : Ty) → List ResultVar → Option t.den
  | .unit, [] => some ()
  | .pair a b, .tmp t :: r => match opd st (.tmp t), resT P st b r with
    | some tv, some z => match deepT st a tv with
      | some y => some (y, z)
      | none => none
    | _, _ => none
  | .pair a b, .cell t ty :: r => match opd st (.tmp t), resT P st b r with
    | some tv, some z => match loadK P st ty tv some with
      | some (.v w) => match deepT st a w with
        | some y => some (y, z)
        | none => none
      | _ => none
    | _, _ => none
  | _, _ => none

/-- Results, the first of which is an array of the call's own. -/
def resO (P : Program) (st : St) (e : TypeId) (t rs : Ty) : List ResultVar → Option (List t.den × rs.den)
  | .tmp x :: r => match st.t[x]? with
    | some (.v ⟨.sl k _, _⟩) => (match st.b[k]? with
      | some (some (.arr e' u' xs)) => (match castTV ⟨.list u', xs⟩ (.list t), resT P ⟨(st.off fun i => i != k).t, (st.off fun i => i != k).b.set k none⟩ rs r with
        | some ys, some z => if e' = e ∧ k < st.b.length then some (ys, z) else none
        | _, _ => none)
      | _ => none)
    | some (.v ⟨.nl _, _⟩) => (match resT P st rs r with
      | some z => some ([], z)
      | none => none)
    | _ => none
  | _ => none
@[reducible] def kFinO (P : Program) (e : TypeId) (t rs : Ty) (fn : Func) : Ex → St → Option (List t.den × rs.den) := fun x st => match x with
    | .exit _ => none
    | .pan _ _ _ => none
    | _ => resO P st e t rs fn.results.toList
@[reducible] def kFin (P : Program) (rs : Ty) (fn : Func) : Ex → St → Option rs.den := fun e st => match e with
    | .exit _ => none
    | .pan _ _ _ => none
    | _ => resT P st rs fn.results.toList

@[reducible] def w64 (x : Int) : Int := IntKind.wrap .i64 x
@[reducible] def w8 (x : Int) : Int := IntKind.wrap .u8 x

def funK (P : Program) (sp : Specs) (fn : Func) (an : An) (ps rs : Ty) (n : Nat) (x : ps.den) : Option rs.den :=
  match fn.body with
  | some c => codeK P sp n c an (start ps x fn.ntmps) fun e st => match e with
    | .exit _ => none
    | .pan _ _ _ => none
    | _ => resT P st rs fn.results.toList
  | none => none

end Go.Proofs.YtedenojeljjnaaaGreatDoorPi

namespace Go.Proofs.YtedenojeljjnaaaGreatDoorPi
open Go

def reads (o : Oper) : List Tmp := o.op.operands.toList.filterMap fun | .tmp t => some t | _ => none

def OpOK (P : Program) (C : Ctx) (o : Oper) (st : St) (s : Slot) : Prop :=
  ∀ (E : Env) (a : Act) (w : World) (Kc : Act → World → Prop) (Q : Exit → Act → World → Prop), FR (· ∈ reads o) E st a.tmps w → C.Γ E.m →
    (∀ v m' w', Chg C E.m w m' w' → Inv m' w' → SlotRep { E with m := m' } s v → Kc (a.put o.dst v) w') → o.wp P a w Kc Q

theorem OpOK.of_val {P : Program} {C : Ctx} {o : Oper} {st : St} {s : Slot}
    (h : ∀ (E : Env) (a : Act) (w : World), FR (· ∈ reads o) E st a.tmps w → ∃ v m' w', (execOp a.eval o).run P w = .ok (.value v) w' ∧ Chg C E.m w m' w' ∧ Inv m' w' ∧ SlotRep { E with m := m' } s v) : OpOK P C o st s := by
  intro E a w Kc Q hf _ hk
  obtain ⟨v, m', w', hr, hc, hi, hs⟩ := h E a w hf
  unfold Oper.wp
  rw [hr]
  exact hk v m' w' hc hi hs

theorem OpOK.of_pure {P : Program} {C : Ctx} {o : Oper} {st : St} {s : Slot}
    (h : ∀ (E : Env) (a : Act) (w : World), FR (· ∈ reads o) E st a.tmps w → ∃ v, (execOp a.eval o).run P w = .ok (.value v) w ∧ SlotRep E s v) : OpOK P C o st s :=
  .of_val fun E a w hf => let ⟨v, hr, hs⟩ := h E a w hf; ⟨v, E.m, w, hr, .refl _ _, hf.inv, hs⟩

/-! values -/
theorem vrep_bool {E : Env} {b : Bool} {v : Value} (h : VRep E .bool b v) : v = .bool b := by obtain ⟨cs, r, rfl⟩ := h; rw [show cs = _ from r]; rfl
theorem vrep_int {E : Env} {k : IntKind} {n : Int} {v : Value} (h : VRep E (.int k) n v) : v = .int k n := by obtain ⟨cs, r, rfl⟩ := h; rw [show cs = _ from r]; rfl
theorem vrep_str {E : Env} {s : ByteArray} {v : Value} (h : VRep E .str s v) : v = .string s := by obtain ⟨cs, r, rfl⟩ := h; rw [show cs = _ from r]; rfl
theorem vrep_ptr {E : Env} {i o : Nat} {t : Ty} {x : Unit} {v : Value} (h : VRep E (.ptr i o t) x v) : ∃ b, E.β i = some b ∧ v = .pointer (some ⟨b, o, none⟩) := by
  obtain ⟨cs, ⟨b, hb, e⟩, rfl⟩ := h; exact ⟨b, hb, by rw [e]; rfl⟩
theorem vrep_ref {E : Env} {t : Ty} {x : t.den} {v : Value} (h : VRep E (.ref t) x v) : ∃ a c, v = .pointer (some a) ∧ rep E t x c ∧ Row E.m a c := by
  obtain ⟨cs, ⟨a, c, e, r, w⟩, rfl⟩ := h; exact ⟨a, c, by rw [e]; rfl, r, w⟩
theorem vrep_fn {E : Env} {g nf : Nat} {b : Ty} {x : b.den} {v : Value} (h : VRep E (.fn g nf b) x v) : ∃ bs, rep E b x bs ∧ v = .func (.func g) ((unflat b bs).take nf).toArray ((unflat b bs).drop nf).toArray := by
  obtain ⟨cs, ⟨bs, r, e⟩, rfl⟩ := h; exact ⟨bs, r, by rw [e]; rfl⟩
theorem vrep_list {E : Env} {t : Ty} {xs : List t.den} {v : Value} (h : VRep E (.list t) xs v) : ∃ A cap, v = .slice A xs.length cap ∧ (A = none → cap = 0) ∧ xs.length ≤ cap ∧
      ∀ (i : Nat) x, xs[i]? = some x → ∃ a c, A = some a ∧ a.spot = none ∧ rep E t x c ∧ Row E.m ⟨a.block, a.off + i * t.size, none⟩ c := by
  obtain ⟨cs, ⟨A, cap, e, hn, hc, hr⟩, rfl⟩ := h; exact ⟨A, cap, by rw [e]; rfl, hn, hc, hr⟩
theorem vrep_nl {E : Env} {t : Ty} {x : Unit} {v : Value} (h : VRep E (.nl t) x v) : v = .slice none 0 0 := by obtain ⟨cs, r, rfl⟩ := h; rw [show cs = _ from r]; rfl
theorem vrep_sl {E : Env} {k : Nat} {t : Ty} {x : Unit} {v : Value} (h : VRep E (.sl k t) x v) : ∃ A n cap, v = .slice A n cap ∧ E.τ k = some (.slice A n cap) := by
  obtain ⟨cs, ⟨A, n, cap, ht, e⟩, rfl⟩ := h; exact ⟨A, n, cap, by rw [e]; rfl, ht⟩
theorem vrep_opt {E : Env} {t : Ty} {x : Option t.den} {v : Value} (h : VRep E (.opt t) x v) : (x = none ∧ v = .pointer none) ∨ ∃ y a c, x = some y ∧ v = .pointer (some a) ∧ rep E t y c ∧ Row E.m a c := by
  obtain ⟨cs, ⟨e1, e⟩ | ⟨y, a, c, e1, e, r, w⟩, rfl⟩ := h
  · exact .inl ⟨e1, by rw [e]; rfl⟩
  · exact .inr ⟨y, a, c, e1, by rw [e]; rfl, r, w⟩
theorem vrep_ep {E : Env} {k o : Nat} {e t : Ty} {i : Nat} {v : Value} (h : VRep E (.ep k o e t) i v) : ∃ b, E.β k = some b ∧ v = .pointer (some ⟨b, i * e.size + o, none⟩) := by
  obtain ⟨cs, ⟨b, hb, e⟩, rfl⟩ := h; exact ⟨b, hb, by rw [e]; rfl⟩
theorem vrep_agg {E : Env} {t : Ty} {x : t.den} {v : Value} (h : VRep E t x v) (ht : t.isAgg = true) : ∃ cs, rep E t x cs ∧ v = .agg cs.toArray := by
  obtain ⟨cs, r, rfl⟩ := h; exact ⟨cs, r, by unfold mkV; rw [if_pos ht]⟩
theorem VRep.cells {E : Env} {t : Ty} {x : t.den} {v : Value} (h : VRep E t x v) : rep E t x v.cells.toList := by
  obtain ⟨cs, r, rfl⟩ := h; rw [mkV_cells r]; exact r
theorem VRep.of_rep {E : Env} {t : Ty} {x : t.den} {cs : List Value} (r : rep E t x cs) : VRep E t x (mkV t cs) := ⟨cs, r, rfl⟩

theorem mkBool (E : Env) (b : Bool) : VRep E .bool b (.bool b) := ⟨[.bool b], rfl, rfl⟩
theorem mkInt (E : Env) (k : IntKind) (n : Int) : VRep E (.int k) n (.int k n) := ⟨[.int k n], rfl, rfl⟩
theorem mkStr (E : Env) (s : ByteArray) : VRep E .str s (.string s) := ⟨[.string s], rfl, rfl⟩

theorem ofCells_ok (E : Env) : ∀ (t : Ty) (cs : List Value) (x : t.den) (r : List Value), ofCells t cs = some (x, r) → ∃ c, cs = c ++ r ∧ rep E t x c
  | .unit, cs, x, r, h => by simp only [ofCells, Option.some.injEq, Prod.mk.injEq] at h; exact ⟨[], by simp [h.2], rfl⟩
  | .bool, cs, x, r, h => by
    have h' : boolC cs = some (x, r) := h
    unfold boolC at h'
    split at h'
    · simp only [Option.some.injEq, Prod.mk.injEq] at h'; obtain ⟨rfl, rfl⟩ := h'; exact ⟨[_], rfl, rfl⟩
    · cases h'
  | .int k, cs, x, r, h => by
    have h' : intC k cs = some (x, r) := h
    unfold intC at h'
    split at h'
    · split at h'
      · rename_i hk; subst hk
        simp only [Option.some.injEq, Prod.mk.injEq] at h'; obtain ⟨rfl, rfl⟩ := h'; exact ⟨[_], rfl, rfl⟩
      · cases h'
    · cases h'
  | .str, cs, x, r, h => by
    have h' : strC cs = some (x, r) := h
    unfold strC at h'
    split at h'
    · simp only [Option.some.injEq, Prod.mk.injEq] at h'; obtain ⟨rfl, rfl⟩ := h'; exact ⟨[_], rfl, rfl⟩
    · cases h'
  | .pair a b, cs, x, r, h => by
    simp only [ofCells] at h
    split at h
    · rename_i x1 r1 h1
      split at h
      · rename_i y r2 h2
        simp only [Option.some.injEq, Prod.mk.injEq] at h
        obtain ⟨rfl, rfl⟩ := h
        obtain ⟨c1, e1, q1⟩ := ofCells_ok E a _ _ _ h1
        obtain ⟨c2, e2, q2⟩ := ofCells_ok E b _ _ _ h2
        exact ⟨c1 ++ c2, by rw [e1, e2, List.append_assoc], c1, c2, rfl, q1, q2⟩
      · cases h
    · cases h
  | .list t, cs, x, r, h => by
    simp only [ofCells] at h
    split at h
    · rename_i r' h1
      simp only [Option.some.injEq, Prod.mk.injEq] at h
      obtain ⟨rfl, rfl⟩ := h
      unfold nilC at h1
      split at h1
      · simp only [Option.some.injEq] at h1; subst h1
        refine ⟨[_], rfl, none, 0, rfl, fun _ => rfl, Nat.le_refl _, ?_⟩
        · intro i x hx; simp at hx
      · cases h1
    · cases h
  | .opt t, cs, x, r, h => by
    simp only [ofCells] at h
    split at h
    · rename_i r' h1
      simp only [Option.some.injEq, Prod.mk.injEq] at h
      obtain ⟨rfl, rfl⟩ := h
      unfold nilP at h1
      split at h1
      · simp only [Option.some.injEq] at h1; subst h1
        exact ⟨[_], rfl, .inl ⟨rfl, rfl⟩⟩
      · cases h1
    · cases h
  | .nl t, cs, x, r, h => by
    simp only [ofCells] at h
    split at h
    · rename_i r' h1
      simp only [Option.some.injEq, Prod.mk.injEq] at h
      obtain ⟨_, rfl⟩ := h
      unfold nilC at h1
      split at h1
      · simp only [Option.some.injEq] at h1; subst h1
        exact ⟨[_], rfl, rfl⟩
      · cases h1
    · cases h
  | .bld _ _ _, _, _, _, h => by simp [ofCells] at h
  | .nif, _, _, _, h => by simp [ofCells] at h
  | .ifi _ _, _, _, _, h => by simp [ofCells] at h
  | .ep _ _ _ _, _, _, _, h => by simp [ofCells] at h
  | .sl _ _, _, _, _, h => by simp [ofCells] at h
  | .ref _, _, _, _, h => by simp [ofCells] at h
  | .ptr _ _ _, _, _, _, h => by simp [ofCells] at h
  | .fn _ _ _, _, _, _, h => by simp [ofCells] at h

theorem mkV_of_cells {E : Env} {t : Ty} {x : t.den} {v : Value} (r : rep E t x v.cells.toList) (h : aggV v = t.isAgg) : v = mkV t v.cells.toList := by
  unfold mkV
  by_cases ht : t.isAgg = true
  · rw [if_pos ht]
    rw [ht] at h
    unfold aggV at h
    split at h
    · rfl
    · cases h
  · have ht' : t.isAgg = false := by simpa using ht
    rw [if_neg ht]
    rw [ht'] at h
    have hv : v.cells = #[v] := by
      cases v <;> first | rfl | (simp [aggV] at h)
    rw [hv]; rfl

section ops
variable {X : Nat → Prop} {E : Env} {st : St} {a : Act} {w : World}
theorem opd_ok (hf : FR X E st a.tmps w) {x : Operand} {tv : TV} (hx : ∀ t, x = .tmp t → X t) (h : opd st x = some tv) : VRep E tv.t tv.x (a.eval x) := by
  unfold opd at h
  split at h
  · rename_i t
    split at h
    · rename_i y hy
      simp only [Option.some.injEq] at h; subst h
      exact hf.slots t _ (hx t rfl) hy
    · cases h
  · simp only [Option.some.injEq] at h; subst h; exact mkBool _ _
  · simp only [Option.some.injEq] at h; subst h; exact mkInt _ _ _
  · simp only [Option.some.injEq] at h; subst h; exact mkStr _ _
  · simp only [Option.some.injEq] at h; subst h; exact ⟨_, rfl, rfl⟩
  · simp only [Option.some.injEq] at h; subst h; exact ⟨_, ⟨[], rfl, rfl⟩, rfl⟩
  · cases h

theorem castU_ok : ∀ {u : Ty} {x : u.den} {t : Ty} {y : t.den} {v : Value}, castU u x t = some y → VRep E u x v → VRep E t y v := by
  intro u x t y v h r
  unfold castU at h
  split at h
  · obtain rfl := Option.some.inj h
    rw [vrep_nl r]
    exact ⟨[.slice none 0 0], ⟨none, 0, rfl, fun _ => rfl, Nat.le_refl _, fun i x hx => by simp at hx⟩, rfl⟩
  · split at h
    · rename_i e
      subst e
      obtain rfl := Option.some.inj h
      obtain ⟨a, c, rfl, hr, hw⟩ := vrep_ref r
      exact ⟨[.pointer (some a)], .inr ⟨_, a, c, rfl, rfl, hr, hw⟩, rfl⟩
    · cases h
  · cases h
theorem castTV_ok {tv : TV} {t : Ty} {y : t.den} {v : Value} (h : castTV tv t = some y) (r : VRep E tv.t tv.x v) : VRep E t y v := by
  unfold castTV at h
  split at h
  · rename_i ht
    obtain ⟨u, x⟩ := tv
    simp only at ht; subst ht
    simp only [Option.some.injEq] at h; subst h; exact r
  · exact castU_ok h r

theorem const_ok {t : Ty} {v : Value} {y : t.den} {r : List Value} (E : Env) (hv : aggV v = t.isAgg) (h : ofCells t v.cells.toList = some (y, r)) (hr : r = []) : VRep E t y v := by
  subst hr
  obtain ⟨c, e, q⟩ := ofCells_ok E _ _ _ _ h
  rw [List.append_nil] at e
  rw [← e] at q
  exact ⟨_, q, mkV_of_cells q hv⟩

theorem opdT_ok (hf : FR X E st a.tmps w) {t : Ty} {x : Operand} {y : t.den} (hx : ∀ t, x = .tmp t → X t) (h : opdT t st x = some y) : VRep E t y (a.eval x) := by
  unfold opdT at h
  split at h
  · split at h
    · rename_i v hv
      split at h
      · rename_i y' h2
        simp only [Option.some.injEq] at h; subst h
        exact const_ok E hv h2 rfl
      · cases h
    · cases h
  · split at h
    · rename_i tv htv
      exact castTV_ok h (opd_ok hf hx htv)
    · cases h

theorem opdX_ok (hf : FR X E st a.tmps w) {P : Program} {ty : TypeId} {x : Operand} {tv : TV} (hx : ∀ t, x = .tmp t → X t) (h : opdX P ty st x = some tv) : VRep E tv.t tv.x (a.eval x) := by
  unfold opdX at h
  split at h
  · rename_i tv' h1
    simp only [Option.some.injEq] at h; subst h
    exact opd_ok hf hx h1
  · split at h
    · split at h
      · rename_i y h2
        simp only [Option.some.injEq] at h; subst h
        exact opdT_ok hf hx h2
      · cases h
    · cases h

theorem opdN_ok (hf : FR X E st a.tmps w) {P : Program} {ty : TypeId} {x : Operand} {tv : TV} (hx : ∀ t, x = .tmp t → X t) (h : opdN P ty st x = some tv) : VRep E tv.t tv.x (a.eval x) := by
  unfold opdN at h
  split at h
  · rename_i hn
    unfold nilSlice at hn
    split at hn
    · split at h
      · split at h
        · obtain rfl := Option.some.inj h
          exact ⟨[_], rfl, rfl⟩
        · cases h
      · cases h
    · cases hn
  · exact opd_ok hf hx h
theorem slotOf_ok (hf : FR X E st a.tmps w) {x : Operand} {s : Slot} (hx : ∀ t, x = .tmp t → X t) (h : slotOf st x = some s) : SlotRep E s (a.eval x) := by
  unfold slotOf at h
  split at h
  · rename_i t
    exact hf.slots t s (hx t rfl) h
  · split at h
    · rename_i tv htv
      simp only [Option.some.injEq] at h; subst h
      exact opd_ok hf hx htv
    · cases h
end ops

section
variable {R : Type}
theorem bif_some {b : Bool} {x y : Option R} {r : R} (h : (bif b then x else y) = some r) : (b = true ∧ x = some r) ∨ (b = false ∧ y = some r) := by
  cases b
  · exact .inr ⟨rfl, h⟩
  · exact .inl ⟨rfl, h⟩

theorem bind_some {α : Type} {o : Option α} {f : α → Option R} {r : R} (h : o.bind f = some r) : ∃ x, o = some x ∧ f x = some r := by
  cases o with
  | none => cases h
  | some x => exact ⟨x, rfl, h⟩

theorem guard_int {op : BinOp} {P : Program} {w : World} {ty : TypeId} {x y : Operand} {k k' : IntKind} {m n : Int} : (eqGuard op ty x y (.int k m) (.int k' n)).run P w = .ok () w := by
  unfold eqGuard
  cases op <;> rfl
theorem guard_str {op : BinOp} {P : Program} {w : World} {ty : TypeId} {x y : Operand} {m n : ByteArray} : (eqGuard op ty x y (.string m) (.string n)).run P w = .ok () w := by
  unfold eqGuard
  cases op <;> rfl

theorem intK_ok {op : BinOp} {k k' : IntKind} {x y : Int} {K : Slot → Option R} {r : R} (h : intK op k k' x y K = some r) :
    ∃ s, K s = some r ∧ ∀ (P : Program) (E : Env) (w : World) (ty : TypeId), ∃ v, (binOp op ty (.int k x) (.int k' y)).run P w = .ok v w ∧ SlotRep E s v := by
  unfold intK at h
  split at h
  · rcases bif_some h with ⟨_, h⟩ | ⟨hb, h⟩
    · cases h
    · refine ⟨_, h, fun P E w ty => ⟨_, ?_, mkInt _ _ _⟩⟩
      have : ¬ y < 0 := by simpa using hb
      simp [binOp, Op.shift, this]
  · rcases bif_some h with ⟨_, h⟩ | ⟨hb, h⟩
    · cases h
    · refine ⟨_, h, fun P E w ty => ⟨_, ?_, mkInt _ _ _⟩⟩
      have : ¬ y < 0 := by simpa using hb
      simp [binOp, Op.shift, this]
  · split at h
    · rename_i hk
      subst hk
      split at h
      case _ => exact ⟨_, h, fun P E w ty => ⟨_, by simp [binOp, Op.intArith], mkInt _ _ _⟩⟩
      case _ => exact ⟨_, h, fun P E w ty => ⟨_, by simp [binOp, Op.intArith], mkInt _ _ _⟩⟩
      case _ => exact ⟨_, h, fun P E w ty => ⟨_, by simp [binOp, Op.intArith], mkInt _ _ _⟩⟩
      case _ =>
        rcases bif_some h with ⟨_, h⟩ | ⟨hb, h⟩
        · cases h
        · have : ¬ y = 0 := by simpa using hb
          exact ⟨_, h, fun P E w ty => ⟨_, by simp [binOp, Op.intDiv, this], mkInt _ _ _⟩⟩
      case _ =>
        rcases bif_some h with ⟨_, h⟩ | ⟨hb, h⟩
        · cases h
        · have : ¬ y = 0 := by simpa using hb
          exact ⟨_, h, fun P E w ty => ⟨_, by simp [binOp, Op.intDiv, this], mkInt _ _ _⟩⟩
      case _ => exact ⟨_, h, fun P E w ty => ⟨_, by simp [binOp, Op.intBits], mkInt _ _ _⟩⟩
      case _ => exact ⟨_, h, fun P E w ty => ⟨_, by simp [binOp, Op.intBits], mkInt _ _ _⟩⟩
      case _ => exact ⟨_, h, fun P E w ty => ⟨_, by simp [binOp, Op.intBits], mkInt _ _ _⟩⟩
      case _ => exact ⟨_, h, fun P E w ty => ⟨_, by simp [binOp, Op.intBits], mkInt _ _ _⟩⟩
      case _ => exact ⟨_, h, fun P E w ty => ⟨_, by simp [binOp, Op.intCmp], mkBool _ _⟩⟩
      case _ => exact ⟨_, h, fun P E w ty => ⟨_, by simp [binOp, Op.intCmp], mkBool _ _⟩⟩
      case _ => exact ⟨_, h, fun P E w ty => ⟨_, by simp [binOp, Op.intCmp], mkBool _ _⟩⟩
      case _ => exact ⟨_, h, fun P E w ty => ⟨_, by simp [binOp, Op.intCmp], mkBool _ _⟩⟩
      case _ => exact ⟨_, h, fun P E w ty => ⟨_, by simp [binOp, Op.intCmp], mkBool _ _⟩⟩
      case _ => exact ⟨_, h, fun P E w ty => ⟨_, by simp [binOp, Op.intCmp], mkBool _ _⟩⟩
      case _ => cases h
    · cases h

theorem strK_ok {op : BinOp} {x y : ByteArray} {K : Slot → Option R} {r : R} (h : strK op x y K = some r) :
    ∃ s, K s = some r ∧ ∀ (P : Program) (E : Env) (w : World) (ty : TypeId), ∃ v, (binOp op ty (.string x) (.string y)).run P w = .ok v w ∧ SlotRep E s v := by
  unfold strK at h
  split at h
  case _ =>
    rcases bif_some h with ⟨_, h⟩ | ⟨hb, h⟩
    · cases h
    · have : ¬ ((x.size + y.size : Nat) : Int) > IntKind.i64.max := by simpa using hb
      exact ⟨_, h, fun P E w ty => ⟨_, by simp only [binOp, Op.stringOp, if_neg this]; rfl, mkStr _ _⟩⟩
  case _ => exact ⟨_, h, fun P E w ty => ⟨_, by simp only [binOp, Op.stringOp]; rfl, mkBool _ _⟩⟩
  case _ => exact ⟨_, h, fun P E w ty => ⟨_, by simp only [binOp, Op.stringOp]; rfl, mkBool _ _⟩⟩
  case _ => exact ⟨_, h, fun P E w ty => ⟨_, by simp only [binOp, Op.stringOp]; rfl, mkBool _ _⟩⟩
  case _ => exact ⟨_, h, fun P E w ty => ⟨_, by simp only [binOp, Op.stringOp]; rfl, mkBool _ _⟩⟩
  case _ => exact ⟨_, h, fun P E w ty => ⟨_, by simp only [binOp, Op.stringOp]; rfl, mkBool _ _⟩⟩
  case _ => exact ⟨_, h, fun P E w ty => ⟨_, by simp only [binOp, Op.stringOp]; rfl, mkBool _ _⟩⟩
  case _ => cases h

/-- Two plain values under an operator. -/
theorem binK_ok {op : BinOp} {a b : TV} {K : Slot → Option R} {r : R} (h : binK op a b K = some r) :
    ∃ s, K s = some r ∧ ∀ (P : Program) (E : Env) (w : World) (ty : TypeId) (x y : Operand) (va vb : Value), VRep E a.t a.x va → VRep E b.t b.x vb →
      ∃ v, ((do eqGuard op ty x y va vb; binOp op ty va vb) : Sem Value).run P w = .ok v w ∧ SlotRep E s v := by
  unfold binK at h
  split at h
  · obtain ⟨s, hs, hv⟩ := intK_ok h
    refine ⟨s, hs, fun P E w ty x y va vb ha hb => ?_⟩
    rw [vrep_int ha, vrep_int hb, Sem.run_bind, guard_int]
    exact hv P E w ty
  · obtain ⟨s, hs, hv⟩ := strK_ok h
    refine ⟨s, hs, fun P E w ty x y va vb ha hb => ?_⟩
    rw [vrep_str ha, vrep_str hb, Sem.run_bind, guard_str]
    exact hv P E w ty
  · cases h

theorem boolK_ok {P : Program} {op : BinOp} {ty : TypeId} {m n : Bool} {K : Slot → Option R} {r : R} (h : boolK P op ty m n K = some r) :
    ∃ s, K s = some r ∧ ∀ (E : Env) (w : World) (x y : Operand), ∃ v, ((do eqGuard op ty x y (.bool m) (.bool n); binOp op ty (.bool m) (.bool n)) : Sem Value).run P w = .ok v w ∧ SlotRep E s v := by
  unfold boolK at h
  split at h
  · rename_i hu
    have hu' : ∀ w, (underlying ty).run P w = .ok .bool w := run_underlying hu
    have g : ∀ (op : BinOp) (x y : Operand) (w : World), (eqGuard op ty x y (.bool m) (.bool n)).run P w = .ok () w := fun op x y w => by
      unfold eqGuard; cases op <;> rfl
    have e : ∀ w, (Op.equal ty (.bool m) (.bool n)).run P w = .ok (m == n) w := fun w => by
      have : ∀ d, (Op.equalIn (d + 1) ty (.bool m) (.bool n)).run P w = .ok (m == n) w := fun d => by
        simp only [Op.equalIn, Sem.run_bind, hu', Result.andThen_ok]; rfl
      exact this _
    split at h
    · refine ⟨_, h, fun E w x y => ⟨_, ?_, mkBool _ _⟩⟩
      rw [Sem.run_bind, g, Result.andThen_ok]
      unfold binOp
      simp only [Sem.run_bind, e, Result.andThen_ok, Sem.run_pure]
    · refine ⟨_, h, fun E w x y => ⟨_, ?_, mkBool _ _⟩⟩
      rw [Sem.run_bind, g, Result.andThen_ok]
      unfold binOp
      simp only [Sem.run_bind, e, Result.andThen_ok, Sem.run_pure]
    · cases h
  · cases h
theorem binB_ok {P : Program} {op : BinOp} {ty : TypeId} {a b : TV} {K : Slot → Option R} {r : R} (h : binB P op ty a b K = some r) :
    ∃ s, K s = some r ∧ ∀ (E : Env) (w : World) (x y : Operand) (va vb : Value), VRep E a.t a.x va → VRep E b.t b.x vb →
      ∃ v, ((do eqGuard op ty x y va vb; binOp op ty va vb) : Sem Value).run P w = .ok v w ∧ SlotRep E s v := by
  unfold binB at h
  split at h
  · obtain ⟨s, hs, hv⟩ := boolK_ok h
    refine ⟨s, hs, fun E w x y va vb ha hb => ?_⟩
    rw [vrep_bool ha, vrep_bool hb]
    exact hv E w x y
  · obtain ⟨s, hs, hv⟩ := binK_ok h
    exact ⟨s, hs, fun E w x y va vb ha hb => hv P E w ty x y va vb ha hb⟩

theorem nilK_ok {P : Program} {op : BinOp} {ty : TypeId} {a : TV} {K : Slot → Option R} {r : R} (h : nilK P op ty a K = some r) :
    ∃ s, K s = some r ∧ ∀ (E : Env) (w : World) (x y : Operand) (va : Value), VRep E a.t a.x va →
      ∃ v, ((do eqGuard op ty x y va (.pointer none); binOp op ty va (.pointer none)) : Sem Value).run P w = .ok v w ∧ SlotRep E s v := by
  unfold nilK at h
  split at h
  · rename_i e hu
    have eqn : ∀ (w : World) (p : Option Addr), (Op.equal ty (.pointer p) (.pointer none)).run P w = .ok p.isNone w := fun w p => by
      unfold Op.equal Op.maxDepth Op.equalIn
      rw [Sem.run_bind, run_underlying hu, Result.andThen_ok]
      cases p <;> rfl
    have two : ∀ (w : World) (x y : Operand) (p : Option Addr), ((do eqGuard .eql ty x y (.pointer p) (.pointer none); binOp .eql ty (.pointer p) (.pointer none)) : Sem Value).run P w = .ok (.bool p.isNone) w ∧
        ((do eqGuard .neq ty x y (.pointer p) (.pointer none); binOp .neq ty (.pointer p) (.pointer none)) : Sem Value).run P w = .ok (.bool (!p.isNone)) w := fun w x y p => by
      constructor
      · have hg : (eqGuard .eql ty x y (.pointer p) (.pointer none)).run P w = .ok () w := by unfold eqGuard; rfl
        rw [Sem.run_bind, hg, Result.andThen_ok]
        simp only [binOp, Sem.run_bind, eqn, Result.andThen_ok]; rfl
      · have hg : (eqGuard .neq ty x y (.pointer p) (.pointer none)).run P w = .ok () w := by unfold eqGuard; rfl
        rw [Sem.run_bind, hg, Result.andThen_ok]
        simp only [binOp, Sem.run_bind, eqn, Result.andThen_ok]; rfl
    split at h
    · refine ⟨_, h, fun E w x y va ha => ?_⟩
      rcases vrep_opt ha with ⟨rfl, rfl⟩ | ⟨z, ad, c, rfl, rfl, _⟩
      · exact ⟨_, (two w x y _).1, mkBool _ _⟩
      · exact ⟨_, (two w x y _).1, mkBool _ _⟩
    · refine ⟨_, h, fun E w x y va ha => ?_⟩
      rcases vrep_opt ha with ⟨rfl, rfl⟩ | ⟨z, ad, c, rfl, rfl, _⟩
      · exact ⟨_, (two w x y _).2, mkBool _ _⟩
      · exact ⟨_, (two w x y _).2, mkBool _ _⟩
    · refine ⟨_, h, fun E w x y va ha => ?_⟩
      obtain ⟨ad, c, rfl, _⟩ := vrep_ref ha
      exact ⟨_, (two w x y _).1, mkBool _ _⟩
    · refine ⟨_, h, fun E w x y va ha => ?_⟩
      obtain ⟨ad, c, rfl, _⟩ := vrep_ref ha
      exact ⟨_, (two w x y _).2, mkBool _ _⟩
    · cases h
  · cases h

theorem unK_ok {op : UnOp} {a : TV} {K : Slot → Option R} {r : R} (h : unK op a K = some r) :
    ∃ s, K s = some r ∧ ∀ (P : Program) (E : Env) (w : World) (va : Value), VRep E a.t a.x va → ∃ v, (Op.unary op va).run P w = .ok v w ∧ SlotRep E s v := by
  unfold unK at h
  split at h
  · exact ⟨_, h, fun P E w va ha => by rw [vrep_int ha]; exact ⟨_, rfl, mkInt _ _ _⟩⟩
  · exact ⟨_, h, fun P E w va ha => by rw [vrep_bool ha]; exact ⟨_, rfl, mkBool _ _⟩⟩
  · cases h
end
end Go.Proofs.YtedenojeljjnaaaGreatDoorPi

namespace Go.Proofs.YtedenojeljjnaaaGreatDoorPi
open Go

theorem getAt_ok {E : Env} {u : Ty} {y : u.den} : ∀ (t : Ty) (x : t.den) (o : Nat) (cs : List Value), getAt t x o u = some y → rep E t x cs → ∃ pre c post, cs = pre ++ c ++ post ∧ pre.length = o ∧ rep E u y c := by
  intro t
  induction t with
  | pair a b iha ihb =>
    intro x o cs h r
    unfold getAt at h
    split at h
    · rename_i hh
      obtain ⟨rfl, rfl⟩ := hh
      obtain rfl := Option.some.inj h
      exact ⟨[], cs, [], by simp, rfl, r⟩
    · obtain ⟨c1, c2, rfl, r1, r2⟩ := r
      simp only at h
      split at h
      · obtain ⟨pre, c, post, rfl, hp, hr⟩ := iha _ _ _ h r1
        exact ⟨pre, c, post ++ c2, by simp, hp, hr⟩
      · split at h
        · rename_i hle
          obtain ⟨pre, c, post, rfl, hp, hr⟩ := ihb _ _ _ h r2
          exact ⟨c1 ++ pre, c, post, by simp, by rw [List.length_append, hp, rep_length _ _ _ r1]; omega, hr⟩
        · cases h
  | _ =>
    intro x o cs h r
    unfold getAt at h
    split at h
    · rename_i hh
      obtain ⟨rfl, rfl⟩ := hh
      obtain rfl := Option.some.inj h
      exact ⟨[], cs, [], by simp, rfl, r⟩
    · simp at h

theorem setAt_ok {E : Env} {tv : TV} : ∀ (t : Ty) (x y : t.den) (o : Nat) (cs : List Value), setAt t x o tv = some y → rep E t x cs →
    ∃ pre c0 post, cs = pre ++ c0 ++ post ∧ pre.length = o ∧ c0.length = tv.t.size ∧ ∀ c, rep E tv.t tv.x c → rep E t y (pre ++ c ++ post) := by
  intro t
  induction t with
  | pair a b iha ihb =>
    intro x y o cs h r
    unfold setAt at h
    split at h
    · rename_i hh
      obtain ⟨u, z⟩ := tv
      obtain ⟨rfl, hu⟩ := hh
      simp only at hu; subst hu
      obtain rfl := Option.some.inj h
      exact ⟨[], cs, [], by simp, rfl, rep_length _ _ _ r, fun c hc => by simpa using hc⟩
    · obtain ⟨c1, c2, rfl, r1, r2⟩ := r
      simp only at h
      split at h
      · split at h
        · rename_i y' hy
          simp only [Option.some.injEq] at h; subst h
          obtain ⟨pre, c, post, rfl, hp, hl, hr⟩ := iha _ _ _ _ hy r1
          exact ⟨pre, c, post ++ c2, by simp, hp, hl, fun c' hc => ⟨pre ++ c' ++ post, c2, by simp, hr c' hc, r2⟩⟩
        · cases h
      · split at h
        · rename_i hle
          split at h
          · rename_i y' hy
            simp only [Option.some.injEq] at h; subst h
            obtain ⟨pre, c, post, rfl, hp, hl, hr⟩ := ihb _ _ _ _ hy r2
            exact ⟨c1 ++ pre, c, post, by simp, by rw [List.length_append, hp, rep_length _ _ _ r1]; omega, hl, fun c' hc => ⟨c1, pre ++ c' ++ post, by simp, r1, hr c' hc⟩⟩
          · cases h
        · cases h
  | _ =>
    intro x y o cs h r
    unfold setAt at h
    split at h
    · rename_i hh
      obtain ⟨u, z⟩ := tv
      obtain ⟨rfl, hu⟩ := hh
      simp only at hu; subst hu
      obtain rfl := Option.some.inj h
      exact ⟨[], cs, [], by simp, rfl, rep_length _ _ _ r, fun c hc => by simpa using hc⟩
    · simp at h

theorem fieldTy_size : ∀ (t : Ty) (f : Nat) (u : Ty) (o : Nat), fieldTy t f = some (u, o) → o + u.size ≤ t.size
  | .pair a b, 0, u, o, h => by
    simp only [fieldTy, Option.some.injEq, Prod.mk.injEq] at h
    obtain ⟨rfl, rfl⟩ := h
    simp [Ty.size]
  | .pair a b, f + 1, u, o, h => by
    simp only [fieldTy] at h
    split at h
    · rename_i u' o' h1
      simp only [Option.some.injEq, Prod.mk.injEq] at h
      obtain ⟨rfl, rfl⟩ := h
      have := fieldTy_size b f _ _ h1
      simp [Ty.size]; omega
    · cases h
  | .nif, _, _, _, h => by simp [fieldTy] at h
  | .ifi _ _, _, _, _, h => by simp [fieldTy] at h
  | .bld i o k, 0, u, q, h => by
    simp only [fieldTy, Option.some.injEq, Prod.mk.injEq] at h
    obtain ⟨rfl, rfl⟩ := h
    simp [Ty.size]
  | .bld _ _ _, _ + 1, _, _, h | .unit, _, _, _, h | .bool, _, _, _, h | .int _, _, _, _, h | .str, _, _, _, h | .list _, _, _, _, h | .nl _, _, _, _, h | .opt _, _, _, _, h | .ep _ _ _ _, _, _, _, h | .sl _ _, _, _, _, h | .ref _, _, _, _, h | .ptr _ _ _, _, _, _, h | .fn _ _ _, _, _, _, h => by simp [fieldTy] at h

theorem Row.part {m : Mem} {a : Addr} {pre c post : List Value} (h : Row m a (pre ++ c ++ post)) : Row m (a.add pre.length) c := by
  obtain ⟨hs, h⟩ := h
  have e : a.add pre.length = ⟨a.block, a.off + pre.length, none⟩ := by
    unfold Addr.add; split
    · rename_i hz; obtain ⟨b, o, s⟩ := a; simp only at hs; subst hs; simp [hz]
    · rfl
  rw [e]
  refine ⟨rfl, fun j v hj => ?_⟩
  have h1 := h (pre.length + j) v (by
    rw [List.append_assoc, List.getElem?_append_right (by omega)]
    rw [show pre.length + j - pre.length = j by omega, List.getElem?_append_left (List.getElem?_eq_some_iff.1 hj).1]
    exact hj)
  show m a.block (a.off + pre.length + j) = some v
  rw [show a.off + pre.length + j = a.off + (pre.length + j) by omega]; exact h1

theorem Row.cells {m : Mem} {w : World} {a : Addr} {cs : List Value} (h : Row m a cs) (hi : Inv m w) : ∀ j v, cs[j]? = some v → w.cell? (a.add j) = some v := by
  intro j v hj
  have e : a.add j = ⟨a.block, a.off + j, none⟩ := by
    unfold Addr.add; split
    · rename_i hz; obtain ⟨b, o, s⟩ := a; have := h.1; simp only at this; subst this; simp [hz]
    · rfl
  rw [e]
  exact hi _ _ _ (h.2 j v hj)

theorem run_isAgg {P : Program} {w : World} {t : TypeId} {d : TypeDesc} (hd : P.underlying t = some d) : (isAgg t).run P w = .ok (aggD d) w := by
  unfold isAgg aggD
  rw [Sem.run_bind, run_underlying hd]
  cases d <;> rfl
theorem run_sizeOf' {P : Program} {w : World} {t : TypeId} {inf : TypeInfo} (hinf : P.info? t = some inf) : (sizeOf t).run P w = .ok inf.size w := by
  unfold sizeOf typeInfo
  simp [hinf]

/-- Reading a variable. -/
theorem run_loadVar {P : Program} {w : World} {t : TypeId} {a : Addr} {inf : TypeInfo} {d : TypeDesc} {u : Ty} {cs : List Value} {E : Env} {x : u.den} (hinf : P.info? t = some inf) (hd : P.underlying t = some d)
    (hs : inf.size = u.size) (ha : aggD d = u.isAgg) (r : rep E u x cs) (h : ∀ j v, cs[j]? = some v → w.cell? (a.add j) = some v) : (loadVar t a).run P w = .ok (mkV u cs) w := by
  have hl := rep_length _ _ _ r
  unfold loadVar mkV
  rw [Sem.run_bind, run_isAgg hd, Result.andThen_ok, ha]
  by_cases hu : u.isAgg = true
  · rw [if_pos hu, if_pos hu, Sem.run_bind, run_sizeOf' hinf, Result.andThen_ok, hs, ← hl, Sem.run_bind, run_loadCells_list (P := P) w a cs h]
    rfl
  · have hu' : u.isAgg = false := by simpa using hu
    obtain ⟨v, rfl, _, _⟩ := rep_one r hu'
    rw [if_neg hu, if_neg hu]
    have h0 : w.cell? a = some v := by
      have := h 0 v rfl
      simpa [Addr.add] using this
    simp [h0]

theorem cell_blk {w : World} {b e : Nat} {cs : List Value} {f : Nat × Nat} (h : w.heap[b]? = some (.cells cs.toArray e f)) {j : Nat} {v : Value} (hj : cs[j]? = some v) : w.cell? ⟨b, j, none⟩ = some v := by
  simp [World.cell?, h, hj]
theorem add_spotless {b o n : Nat} : (⟨b, o, none⟩ : Addr).add n = ⟨b, o + n, none⟩ := by
  unfold Addr.add; split
  · rename_i h; simp [h]
  · rfl

section
variable {R : Type} {P : Program} {st : St}
theorem loadK_ok {ty : TypeId} {a : TV} {K : Slot → Option R} {r : R} (h : loadK P st ty a K = some r) :
    ∃ s, K s = some r ∧ ∀ (X : Nat → Prop) (E : Env) (tmps : Array Value) (w : World) (va : Value), FR X E st tmps w → VRep E a.t a.x va → ∃ v, (Instr.loadAt ty va).run P w = .ok v w ∧ SlotRep E s v := by
  unfold loadK at h
  split at h
  · rename_i i o t u
    split at h
    · rename_i c inf d hc hinf hd
      split at h
      · rename_i hs
        split at h
        · rename_i y hy
          refine ⟨_, h, fun X E tmps w va hf hv => ?_⟩
          obtain ⟨b, hb, rfl⟩ := vrep_ptr hv
          obtain ⟨blk, cs, e, hb', hh, hr, _⟩ := hf.boxes i c hc
          obtain rfl : b = blk := Option.some.inj (hb.symm.trans hb')
          obtain ⟨pre, q, post, rfl, hp, hq⟩ := getAt_ok _ _ _ _ hy hr
          refine ⟨mkV t q, ?_, _, hq, rfl⟩
          unfold Instr.loadAt Instr.sureAddr
          rw [Sem.run_bind, Sem.run_pure, Result.andThen_ok]
          refine run_loadVar hinf hd hs.1 hs.2 hq fun j v hj => ?_
          rw [add_spotless]
          refine cell_blk hh ?_
          rw [List.append_assoc, List.getElem?_append_right (by omega)]
          rw [show o + j - pre.length = j by omega, List.getElem?_append_left (List.getElem?_eq_some_iff.1 hj).1]
          exact hj
        · cases h
      · cases h
    · cases h
  · rename_i t x
    split at h
    · rename_i inf d hinf hd
      split at h
      · rename_i hs
        refine ⟨_, h, fun X E tmps w va hf hv => ?_⟩
        obtain ⟨b, c, rfl, hr, hw⟩ := vrep_ref hv
        refine ⟨mkV t c, ?_, _, hr, rfl⟩
        unfold Instr.loadAt Instr.sureAddr
        rw [Sem.run_bind, Sem.run_pure, Result.andThen_ok]
        exact run_loadVar hinf hd hs.1 hs.2 hr (hw.cells hf.inv)
      · cases h
    · cases h
  · rename_i k o u t i
    split at h
    · rename_i e' u' xs inf d hc hinf hd
      split at h
      · rename_i hs
        obtain ⟨hu, hs1, hs2⟩ := hs
        subst hu
        obtain ⟨x, hx, h⟩ := bind_some h
        split at h
        · rename_i y hy
          refine ⟨_, h, fun X E tmps w va hf hv => ?_⟩
          obtain ⟨b, hb, rfl⟩ := vrep_ep hv
          obtain ⟨v, l, ht, ho, hr, hβ, _⟩ := hf.arrs k e' u' xs hc
          have hob : v.ownBlock = some b := hβ.symm.trans hb
          obtain ⟨pre, c, post, rfl, hp, hrc, _⟩ := reps_at xs l i x hr hx
          obtain ⟨pre2, q, post2, rfl, hp2, hq⟩ := getAt_ok _ _ _ _ hy hrc
          refine ⟨mkV t q, ?_, _, hq, rfl⟩
          unfold Instr.loadAt Instr.sureAddr
          rw [Sem.run_bind, Sem.run_pure, Result.andThen_ok]
          refine run_loadVar hinf hd hs1 hs2 hq fun j v' hj => ?_
          have h1 := ho.cells hob (i * u'.size + o + j) v' (by
            have e1 : pre ++ (pre2 ++ q ++ post2) ++ post = (pre ++ pre2) ++ (q ++ (post2 ++ post)) := by simp [List.append_assoc]
            have e2 : (pre ++ pre2).length = i * u'.size + o := by rw [List.length_append, hp, hp2]
            rw [e1, List.getElem?_append_right (by omega), e2, Nat.add_sub_cancel_left, List.getElem?_append_left (List.getElem?_eq_some_iff.1 hj).1]
            exact hj)
          rw [add_spotless] at h1 ⊢
          rw [Nat.zero_add] at h1
          exact h1
        · cases h
      · cases h
    · cases h
  · cases h

theorem fieldAddrK_ok {ty : TypeId} {a : TV} {f : Nat} {K : Slot → Option R} {r : R} (h : fieldAddrK P ty a f K = some r) :
    ∃ s, K s = some r ∧ ∀ (E : Env) (w : World) (va : Value), VRep E a.t a.x va → ∃ v, (Instr.fieldAt ty va f).run P w = .ok v w ∧ SlotRep E s v := by
  unfold fieldAddrK at h
  split at h
  · rename_i fs hu
    split at h
    · rename_i fd hf
      split at h
      · rename_i inf hinf
        have place : ∀ (w : World) (ad : Addr), inf.size ≠ 0 → (fieldPlace ad fd).run P w = .ok (ad.add fd.offset) w := fun w ad hne => by
          unfold fieldPlace
          rw [Sem.run_bind, run_sizeOf' hinf, Result.andThen_ok, if_neg hne]; rfl
        have fa : ∀ (w : World) (ad : Addr), inf.size ≠ 0 → (Instr.fieldAt ty (.pointer (some ad)) f).run P w = .ok (.pointer (some (ad.add fd.offset))) w := fun w ad hne => by
          unfold Instr.fieldAt Instr.sureAddr
          rw [Sem.run_bind, run_underlying hu, Result.andThen_ok]
          simp only [hf]
          rw [Sem.run_bind, Sem.run_pure, Result.andThen_ok, Sem.run_bind, place w ad hne]
          rfl
        split at h
        · rename_i i o t z
          split at h
          · rename_i u q hq
            split at h
            · rename_i hc
              refine ⟨_, h, fun E w va hv => ?_⟩
              obtain ⟨b, hb, rfl⟩ := vrep_ptr hv
              refine ⟨_, fa w _ hc.2.1, [.pointer (some ⟨b, o + q, none⟩)], ⟨b, hb, rfl⟩, ?_⟩
              rw [add_spotless, hc.1]; rfl
            · cases h
          · cases h
        · rename_i t x
          split at h
          · rename_i u q hq
            split at h
            · rename_i hc
              split at h
              · rename_i y hy
                refine ⟨_, h, fun E w va hv => ?_⟩
                obtain ⟨b, c, rfl, hr, hw⟩ := vrep_ref hv
                obtain ⟨pre, c', post, rfl, hp, hr'⟩ := getAt_ok _ _ _ _ hy hr
                refine ⟨_, fa w _ hc.2.1, [.pointer (some (b.add fd.offset))], ⟨b.add fd.offset, c', rfl, hr', ?_⟩, rfl⟩
                rw [← hc.1, ← hp]
                exact hw.part
              · cases h
            · cases h
          · cases h
        · rename_i k o w t i
          split at h
          · rename_i u q hq
            split at h
            · rename_i hc
              refine ⟨_, h, fun E w' va hv => ?_⟩
              obtain ⟨b, hb, rfl⟩ := vrep_ep hv
              refine ⟨_, fa w' _ hc.2.1, [.pointer (some ⟨b, i * w.size + (o + q), none⟩)], ⟨b, hb, rfl⟩, ?_⟩
              rw [add_spotless, hc.1, Nat.add_assoc]; rfl
            · cases h
          · cases h
        · cases h
      · cases h
    · cases h
  · cases h
end
end Go.Proofs.YtedenojeljjnaaaGreatDoorPi

namespace Go.Proofs.YtedenojeljjnaaaGreatDoorPi
open Go
section
variable {R : Type} {P : Program} {st : St}

theorem seg_extract {pre c post : List Value} : (pre ++ c ++ post).toArray.extract pre.length (pre.length + c.length) = c.toArray := by
  apply Array.ext'
  simp

theorem run_part {w : World} {t : TypeId} {inf : TypeInfo} {d : TypeDesc} {u : Ty} {pre c post : List Value} {E : Env} {x : u.den} (hinf : P.info? t = some inf) (hd : P.underlying t = some d)
    (hs : u.size = inf.size) (ha : aggD d = u.isAgg) (r : rep E u x c) : (part t (pre ++ c ++ post).toArray pre.length).run P w = .ok (mkV u c) w := by
  have hl := rep_length _ _ _ r
  unfold part mkV
  rw [Sem.run_bind, run_isAgg hd, Result.andThen_ok, ha]
  by_cases hu : u.isAgg = true
  · rw [if_pos hu, if_pos hu, Sem.run_bind, run_sizeOf' hinf, Result.andThen_ok, ← hs, ← hl, seg_extract]
    rfl
  · have hu' : u.isAgg = false := by simpa using hu
    obtain ⟨v, rfl, _, _⟩ := rep_one r hu'
    rw [if_neg hu, if_neg hu]
    have : (pre ++ [v] ++ post).toArray[pre.length]? = some v := by simp
    rw [this]; rfl

theorem fieldK_ok {ty : TypeId} {a : TV} {f : Nat} {K : Slot → Option R} {r : R} (h : fieldK P ty a f K = some r) :
    ∃ s, K s = some r ∧ ∀ (E : Env) (w : World) (va : Value), VRep E a.t a.x va → ∃ v, (Instr.field ty va f).run P w = .ok v w ∧ SlotRep E s v := by
  unfold fieldK at h
  split at h
  · rename_i fs hu
    split at h
    · rename_i fd hf
      split at h
      · rename_i inf d u q hinf hd hq
        split at h
        · rename_i hc
          split at h
          · rename_i y hy
            refine ⟨_, h, fun E w va hv => ?_⟩
            obtain ⟨cs, hr, rfl⟩ := vrep_agg hv hc.1
            obtain ⟨pre, c, post, rfl, hp, hr'⟩ := getAt_ok _ _ _ _ hy hr
            refine ⟨mkV u c, ?_, _, hr', rfl⟩
            unfold Instr.field
            rw [Sem.run_bind, run_underlying hu, Result.andThen_ok]
            simp only [hf, asAgg]
            rw [Sem.run_bind, Sem.run_pure, Result.andThen_ok, ← hc.2.1, ← hp]
            exact run_part hinf hd hc.2.2.1 hc.2.2.2 hr'
          · cases h
        · cases h
      · cases h
    · cases h
  · cases h


theorem chain_ok {E : Env} {u : Ty} : ∀ (n : Nat) (x : (many n u).den) (cs : List Value), rep E (many n u) x cs → (chain n u x).length = n ∧ ∀ (i : Nat) (z : u.den), (chain n u x)[i]? = some z → ∃ pre c post, cs = pre ++ c ++ post ∧ pre.length = i * u.size ∧ rep E u z c
  | 0, _, _, _ => ⟨rfl, fun i z h => by simp [chain] at h⟩
  | n + 1, x, cs, r => by
    obtain ⟨c1, c2, rfl, r1, r2⟩ := r
    obtain ⟨hl, hn⟩ := chain_ok n x.2 c2 r2
    refine ⟨by simp [chain, hl], fun i z h => ?_⟩
    cases i with
    | zero =>
      simp only [chain, List.getElem?_cons_zero, Option.some.injEq] at h
      subst h
      exact ⟨[], c1, c2, by simp, by simp, r1⟩
    | succ i =>
      simp only [chain, List.getElem?_cons_succ] at h
      obtain ⟨pre, c, post, rfl, hp, hr⟩ := hn i z h
      exact ⟨c1 ++ pre, c, post, by simp, by rw [List.length_append, hp, rep_length _ _ _ r1, Nat.succ_mul]; omega, hr⟩

theorem hat_ok {E : Env} : ∀ (t : Ty) (x : t.den) (n i : Nat) (cs : List Value) (z : TV), hat t x n i = some z → rep E t x cs → t.isAgg = true ∧ z.t.size = n ∧ ∃ pre c post, cs = pre ++ c ++ post ∧ pre.length = i * n ∧ rep E z.t z.x c
  | .pair a b, x, n, 0, _, z, h, ⟨c1, c2, e, r1, r2⟩ => by
    simp only [hat] at h
    split at h
    · rename_i hs
      obtain rfl := Option.some.inj h
      exact ⟨rfl, hs, [], c1, c2, by simp [e], by simp, r1⟩
    · cases h
  | .pair a b, x, n, i + 1, _, z, h, ⟨c1, c2, e, r1, r2⟩ => by
    simp only [hat] at h
    split at h
    · rename_i hs
      obtain ⟨_, h1, pre, c, post, e2, hp, hr⟩ := hat_ok b x.2 n i c2 z h r2
      exact ⟨rfl, h1, c1 ++ pre, c, post, by simp [e, e2], by rw [List.length_append, hp, rep_length _ _ _ r1, hs, Nat.succ_mul]; omega, hr⟩
    · cases h
  | .unit, _, _, _, _, _, h, _ | .bool, _, _, _, _, _, h, _ | .int _, _, _, _, _, _, h, _ | .str, _, _, _, _, _, h, _ | .list _, _, _, _, _, _, h, _ | .nl _, _, _, _, _, _, h, _ | .opt _, _, _, _, _, _, h, _ | .ep _ _ _ _, _, _, _, _, _, h, _ | .sl _ _, _, _, _, _, _, h, _ | .ref _, _, _, _, _, _, h, _ | .ptr _ _ _, _, _, _, _, _, h, _ | .fn _ _ _, _, _, _, _, _, h, _ | .bld _ _ _, _, _, _, _, _, h, _ | .nif, _, _, _, _, _, h, _ | .ifi _ _, _, _, _, _, _, h, _ => by simp [hat] at h
theorem indexK_ok {ty : TypeId} {a b : TV} {K : Slot → Option R} {r : R} (h : indexK P ty a b K = some r) :
    ∃ s, K s = some r ∧ ∀ (E : Env) (w : World) (va vb : Value), VRep E a.t a.x va → VRep E b.t b.x vb → ∃ v, (Instr.index ty va vb).run P w = .ok v w ∧ SlotRep E s v := by
  unfold indexK at h
  split at h
  · rename_i hu
    rename_i s k i
    rcases bif_some h with ⟨h0, h⟩ | ⟨_, h⟩
    · obtain ⟨c, hc, h⟩ := bind_some h
      have h0' : 0 ≤ i := by simpa using h0
      refine ⟨_, h, fun E w va vb ha hb => ?_⟩
      rw [vrep_str ha, vrep_int hb]
      refine ⟨.int .u8 c.toNat, ?_, mkInt _ _ _⟩
      unfold Instr.index
      simp only [asIntOf, Sem.run_bind, Sem.run_pure, Result.andThen_ok, run_underlying hu, if_pos h0', hc]
    · cases h
  · rename_i len e k i hu
    split at h
    · rename_i u inf d ht hinf hd
      split at h
      · rename_i hs
        split at h
        · rename_i y hy
          rcases bif_some h with ⟨h0, h⟩ | ⟨_, h⟩
          · obtain ⟨z, hz, h⟩ := bind_some h
            have h0' : 0 ≤ i := by simpa using h0
            refine ⟨_, h, fun E w va vb ha hb => ?_⟩
            rw [vrep_int hb]
            obtain ⟨cs, hr, hva⟩ := castTV_ok hy ha
            obtain ⟨hl, hn⟩ := chain_ok len y cs hr
            obtain ⟨pre, c, post, rfl, hp, hrc⟩ := hn _ _ hz
            have hlen : i.toNat < len := by rw [← hl]; exact (List.getElem?_eq_some_iff.1 hz).1
            have hlt : i < (len : Int) := (Int.toNat_lt h0').1 hlen
            have hagg : (many len u).isAgg = true := by cases len <;> rfl
            have hva' : va = .agg (pre ++ c ++ post).toArray := by rw [hva]; unfold mkV; rw [if_pos hagg]
            refine ⟨mkV u c, ?_, _, hrc, rfl⟩
            unfold Instr.index
            simp only [asIntOf, Sem.run_bind, Sem.run_pure, Result.andThen_ok, run_underlying hu, hva', h0', hlt, and_self, if_true, run_sizeOf' hinf]
            rw [← hs.1, ← hp]
            exact run_part hinf hd hs.1 hs.2 hrc
          · cases h
        · rcases bif_some h with ⟨h0, h⟩ | ⟨_, h⟩
          · obtain ⟨z, hz, h⟩ := bind_some h
            have h0' : 0 ≤ i ∧ i < (len : Int) := by simpa using h0
            split at h
            · rename_i hag
              refine ⟨_, h, fun E w va vb ha hb => ?_⟩
              rw [vrep_int hb]
              obtain ⟨cs, hr, hva⟩ := ha
              obtain ⟨hagg, hzs, pre, c, post, rfl, hp, hrc⟩ := hat_ok _ _ _ _ _ _ hz hr
              have hva' : va = .agg (pre ++ c ++ post).toArray := by rw [hva]; unfold mkV; rw [if_pos hagg]
              refine ⟨mkV z.t c, ?_, _, hrc, rfl⟩
              unfold Instr.index
              simp only [asIntOf, Sem.run_bind, Sem.run_pure, Result.andThen_ok, run_underlying hu, hva', h0', and_self, if_true, run_sizeOf' hinf]
              rw [← hp]
              exact run_part hinf hd hzs hag hrc
            · cases h
          · cases h
      · cases h
    · cases h
  · cases h

theorem indexAddrK_ok {ty : TypeId} {a b : TV} {K : Slot → Option R} {r : R} (h : indexAddrK P ty a b K = some r) :
    ∃ s, K s = some r ∧ ∀ (E : Env) (w : World) (va vb : Value), VRep E a.t a.x va → VRep E b.t b.x vb → ∃ v, (Instr.indexAt ty va vb).run P w = .ok v w ∧ SlotRep E s v := by
  unfold indexAddrK at h
  split at h
  · rename_i e t xs k i hu
    split at h
    · rename_i inf hinf
      split at h
      · rename_i hs
        rcases bif_some h with ⟨h0, h⟩ | ⟨_, h⟩
        · obtain ⟨x, hx, h⟩ := bind_some h
          have h0' : 0 ≤ i := by simpa using h0
          refine ⟨_, h, fun E w va vb ha hb => ?_⟩
          obtain ⟨A, cap, rfl, hn, hc, hr⟩ := vrep_list ha
          rw [vrep_int hb]
          obtain ⟨ad, c, rfl, h1, hr', hrow⟩ := hr _ _ hx
          have hlt' : i.toNat < xs.length := (List.getElem?_eq_some_iff.1 hx).1
          have hlt : i < (xs.length : Int) := (Int.toNat_lt h0').1 hlt'
          refine ⟨.pointer (some (ad.add (i.toNat * inf.size))), ?_, [.pointer (some (ad.add (i.toNat * inf.size)))], ⟨_, c, rfl, hr', ?_⟩, rfl⟩
          · unfold Instr.indexAt
            simp only [asIntOf, Sem.run_bind, Sem.run_pure, Result.andThen_ok, run_underlying hu, h0', hlt, and_self, if_true, run_sizeOf' hinf]
          · have : ad.add (i.toNat * inf.size) = ⟨ad.block, ad.off + i.toNat * t.size, none⟩ := by
              rw [hs]
              unfold Addr.add; split
              · rename_i hz; obtain ⟨b', o', s'⟩ := ad; simp only at h1; subst h1; simp [hz]
              · rfl
            rw [this]; exact hrow
        · cases h
      · cases h
    · cases h
  · cases h

theorem indexSlK_ok {st : St} {ty : TypeId} {k : Nat} {t : Ty} {i : Int} {K : Slot → Option R} {r : R} (h : indexSlK P st ty k t i K = some r) :
    ∃ s, K s = some r ∧ ∀ (X : Nat → Prop) (E : Env) (tmps : Array Value) (w : World) (va : Value) (kk : IntKind), FR X E st tmps w → VRep E (.sl k t) () va → ∃ v, (Instr.indexAt ty va (.int kk i)).run P w = .ok v w ∧ SlotRep E s v := by
  unfold indexSlK at h
  split at h
  · rename_i e e' t' xs hu hc
    split at h
    · rename_i inf hinf
      split at h
      · rename_i hs
        obtain ⟨hs1, ht⟩ := hs
        subst ht
        rcases bif_some h with ⟨h0, h⟩ | ⟨_, h⟩
        · have h0' : 0 ≤ i ∧ i < (xs.length : Int) := by simpa using h0
          refine ⟨_, h, fun X E tmps w va kk hf ha => ?_⟩
          obtain ⟨A, n, cap, rfl, hτ⟩ := vrep_sl ha
          obtain ⟨v, l, ht, ho, hr, hβ, _⟩ := hf.arrs k e' t' xs hc
          obtain rfl : _ = v := Option.some.inj (hτ.symm.trans ht)
          rcases ho.2 with ⟨_, hn⟩ | ⟨g, cap', cur, hv, _⟩
          · omega
          · simp only [Value.slice.injEq] at hv
            obtain ⟨rfl, rfl, rfl⟩ := hv
            refine ⟨.pointer (some ((⟨g, 0, none⟩ : Addr).add (i.toNat * inf.size))), ?_, [.pointer (some ((⟨g, 0, none⟩ : Addr).add (i.toNat * inf.size)))], ⟨g, hβ, ?_⟩, rfl⟩
            · unfold Instr.indexAt
              simp only [asIntOf, Sem.run_bind, Sem.run_pure, Result.andThen_ok, run_underlying hu, h0'.1, h0'.2, and_self, if_true, run_sizeOf' hinf]
            · rw [add_spotless, hs1, Nat.zero_add]; rfl
        · cases h
      · cases h
    · cases h
  · cases h

theorem intOpt_ok {X : Nat → Prop} {E : Env} {a : Act} {w : World} (hf : FR X E st a.tmps w) {o : Option Operand} {v : Option Int} (hx : ∀ x, o = some x → ∀ t, x = .tmp t → X t) (h : intOpt st o = some v) :
    (o = none ∧ v = none) ∨ ∃ x k n, o = some x ∧ v = some n ∧ a.eval x = .int k n := by
  unfold intOpt at h
  split at h
  · simp only [Option.some.injEq] at h; exact .inl ⟨rfl, h.symm⟩
  · rename_i x
    split at h
    · rename_i k n hv
      simp only [Option.some.injEq] at h; subst h
      exact .inr ⟨x, k, n, rfl, rfl, vrep_int (opd_ok hf (hx x rfl) hv)⟩
    · cases h

theorem boundK_ok {n d : Nat} {v : Option Int} {K : Nat → Option R} {r : R} (h : boundK n v d K = some r) :
    (v = none ∧ K d = some r) ∨ ∃ i : Int, v = some i ∧ 0 ≤ i ∧ i ≤ (n : Int) ∧ K i.toNat = some r := by
  unfold boundK at h
  split at h
  · exact .inl ⟨rfl, h⟩
  · rcases bif_some h with ⟨hb, h⟩ | ⟨_, h⟩
    · have hb' := of_decide_eq_true hb
      exact .inr ⟨_, rfl, hb'.1, hb'.2, h⟩
    · cases h

/-- The values of two bounds. -/
def Bd (v : Option Int) (o : Option Value) : Prop := (v = none ∧ o = none) ∨ ∃ k n, v = some n ∧ o = some (.int k n)
theorem run_sliceBound {w : World} {k : IntKind} {i : Int} {y : Nat} {c : BoundsCode} (h0 : 0 ≤ i) (h1 : i ≤ (y : Int)) : (Instr.sliceBound (.int k i) y c).run P w = .ok i.toNat w := by
  unfold Instr.sliceBound
  simp [asIntOf, h0, h1]
theorem run_bounds {len : Nat} {lo hi : Option Int} {K : Nat → Nat → Option R} {r : R} (h : (boundK len hi len fun a => boundK a lo 0 fun b => K a b) = some r) :
    ∃ a b, K a b = some r ∧ b ≤ a ∧ a ≤ len ∧ ∀ (w : World) (isS : Bool) (cap : Nat) (vl vh : Option Value), len ≤ cap → Bd lo vl → Bd hi vh → (Instr.sliceBounds isS len cap vl vh none).run P w = .ok (b, a, cap) w := by
  have low : ∀ (a : Nat), (boundK a lo 0 fun b => K a b) = some r → ∃ b, K a b = some r ∧ b ≤ a ∧ ∀ vl, Bd lo vl → ((vl = none ∧ b = 0) ∨ ∃ k n, vl = some (.int k n) ∧ 0 ≤ n ∧ n ≤ (a : Int) ∧ b = n.toNat) := by
    intro a ha
    rcases boundK_ok ha with ⟨hn, hk⟩ | ⟨i, hi', h0, h1, hk⟩
    · refine ⟨0, hk, Nat.zero_le _, fun vl hl => ?_⟩
      rcases hl with ⟨_, rfl⟩ | ⟨k, n, e, _⟩
      · exact .inl ⟨rfl, rfl⟩
      · rw [hn] at e; cases e
    · refine ⟨i.toNat, hk, by omega, fun vl hl => ?_⟩
      rcases hl with ⟨e, _⟩ | ⟨k, n, e, rfl⟩
      · rw [hi'] at e; cases e
      · obtain rfl : i = n := Option.some.inj (hi'.symm.trans e)
        exact .inr ⟨k, i, rfl, h0, h1, rfl⟩
  rcases boundK_ok h with ⟨hn, hk⟩ | ⟨i, hi', h0, h1, hk⟩
  · obtain ⟨b, hb, hle, hv⟩ := low _ hk
    refine ⟨len, b, hb, hle, Nat.le_refl _, fun w isS cap vl vh hlc hl hh => ?_⟩
    rcases hh with ⟨_, rfl⟩ | ⟨k, n, e, _⟩
    · unfold Instr.sliceBounds
      rcases hv vl hl with ⟨rfl, rfl⟩ | ⟨k, n, rfl, h0, h1, rfl⟩
      · simp only [Sem.run_bind, Sem.run_pure, Result.andThen_ok]
      · simp only [Sem.run_bind, Sem.run_pure, Result.andThen_ok]
        rw [run_sliceBound h0 h1]; rfl
    · rw [hn] at e; cases e
  · have hle : i.toNat ≤ len := by omega
    obtain ⟨b, hb, hle', hv⟩ := low _ hk
    refine ⟨i.toNat, b, hb, hle', hle, fun w isS cap vl vh hlc hl hh => ?_⟩
    rcases hh with ⟨e, _⟩ | ⟨k, n, e, rfl⟩
    · rw [hi'] at e; cases e
    · obtain rfl : i = n := Option.some.inj (hi'.symm.trans e)
      have hc : i ≤ (cap : Int) := by omega
      unfold Instr.sliceBounds
      rcases hv vl hl with ⟨rfl, rfl⟩ | ⟨k', n, rfl, h0', h1', rfl⟩
      · simp only [Sem.run_bind, Sem.run_pure, Result.andThen_ok]
        rw [run_sliceBound h0 hc]; rfl
      · simp only [Sem.run_bind, Sem.run_pure, Result.andThen_ok]
        rw [run_sliceBound h0 hc]
        simp only [Result.andThen_ok]
        rw [run_sliceBound h0' h1']; rfl

theorem sliceK_ok {ty : TypeId} {a : TV} {lo hi : Option Int} {K : Slot → Option R} {r : R} (h : sliceK P ty a lo hi K = some r) :
    ∃ s, K s = some r ∧ ∀ (E : Env) (w : World) (va : Value) (vl vh : Option Value), VRep E a.t a.x va → Bd lo vl → Bd hi vh → ∃ v, (Instr.sliceAt ty va vl vh none).run P w = .ok v w ∧ SlotRep E s v := by
  unfold sliceK at h
  split at h
  · rename_i s hu
    obtain ⟨q, l, hk, _, _, hrun⟩ := run_bounds (P := P) h
    refine ⟨_, hk, fun E w va vl vh ha hl hh => ?_⟩
    rw [vrep_str ha]
    refine ⟨.string (s.extract l q), ?_, mkStr _ _⟩
    unfold Instr.sliceAt Instr.slice
    simp only [Sem.run_bind, run_underlying hu, Result.andThen_ok]
    simp only [Option.isSome_none, Bool.false_eq_true, if_false, Sem.run_bind, Sem.run_pure]
    rw [hrun w false s.size vl vh (Nat.le_refl _) hl hh]
    rfl
  · rename_i e t xs hu
    split at h
    · rename_i inf hinf
      split at h
      · rename_i hs
        obtain ⟨q, l, hk, hlq, hq, hrun⟩ := run_bounds (P := P) h
        refine ⟨_, hk, fun E w va vl vh ha hl hh => ?_⟩
        obtain ⟨A, cap, rfl, hn, hc, hr⟩ := vrep_list ha
        have hc : xs.length ≤ cap := hc
        have hq : q ≤ xs.length := hq
        have hlen : ((xs.take q).drop l).length = q - l := by rw [List.length_drop, List.length_take]; omega
        refine ⟨.slice (if cap = l then A else A.map (·.add (l * inf.size))) (q - l) (cap - l), ?_, _, ⟨if cap = l then A else A.map (·.add (l * inf.size)), cap - l, rfl, ?_, by rw [hlen]; omega, ?_⟩, ?_⟩
        · unfold Instr.sliceAt Instr.slice
          simp only [Sem.run_bind, run_underlying hu, Result.andThen_ok]
          rw [hrun w true cap vl vh hc hl hh]
          simp only [Result.andThen_ok]
          rw [run_sizeOf' hinf]
          rfl
        · intro hA
          split at hA
          · omega
          · cases A with
            | none => have := hn rfl; omega
            | some b => cases hA
        · intro i x hx
          have hx' : xs[l + i]? = some x := by
            rw [List.getElem?_drop, List.getElem?_take] at hx
            split at hx
            · exact hx
            · cases hx
          obtain ⟨ad, c, rfl, h1, hr', hrow⟩ := hr _ _ hx'
          have hlt : l + i < xs.length := (List.getElem?_eq_some_iff.1 hx').1
          have hne : ¬ cap = l := by omega
          rw [if_neg hne]
          have : (ad.add (l * inf.size)) = ⟨ad.block, ad.off + l * t.size, none⟩ := by
            rw [hs]; unfold Addr.add; split
            · rename_i hz; obtain ⟨b', o', s'⟩ := ad; simp only at h1; subst h1; simp [hz]
            · rfl
          refine ⟨ad.add (l * inf.size), c, rfl, by rw [this], hr', ?_⟩
          rw [this]
          show Row E.m ⟨ad.block, ad.off + l * t.size + i * t.size, none⟩ c
          rw [show ad.off + l * t.size + i * t.size = ad.off + (l + i) * t.size by rw [Nat.add_mul]; omega]
          exact hrow
        · show _ = Value.slice _ ((xs.take q).drop l).length _
          rw [hlen]
      · cases h
    · cases h
  · cases h
end
end Go.Proofs.YtedenojeljjnaaaGreatDoorPi

namespace Go.Proofs.YtedenojeljjnaaaGreatDoorPi
open Go

def commit (m : Mem) (b : Nat) (cs : List Value) : Mem := fun b' j => if b' = b then cs[j]? else m b' j

theorem commit_ok {C : Ctx} {m : Mem} {w w' : World} {cs : List Value} (hi : Inv m w) (hc : ∀ j v, cs[j]? = some v → w'.cell? ⟨w.heap.size, j, none⟩ = some v)
    (hs : w'.heap.size = w.heap.size + 1) (ho : ∀ b, b < w.heap.size → w'.heap[b]? = w.heap[b]?) (h1 : w'.os = w.os) (h2 : w'.tape = w.tape) (h3 : w'.output = w.output) (h4 : w.drawn ≤ w'.drawn) :
    Chg C m w (commit m w.heap.size cs) w' ∧ Inv (commit m w.heap.size cs) w' := by
  refine ⟨⟨h1, h2, h3, fun _ => h4, by omega, fun b hb _ => ho b hb, fun b hb _ => ?_, fun b j v hv => ?_⟩, fun b j v hv => ?_⟩
  · funext j; unfold commit; rw [if_neg (by omega)]
  · have := cell_lt (hi b j v hv)
    unfold commit; rw [if_neg (by omega)]; exact hv
  · unfold commit at hv
    split at hv
    · rename_i hb; subst hb; exact hc j v hv
    · have := hi b j v hv
      have hlt := cell_lt this
      unfold World.cell? at this ⊢
      rw [ho b hlt]; exact this

theorem bytesOf_length (s : ByteArray) : (bytesOf s).length = s.size := by rw [bytesOf, List.length_map, Array.length_toList]; rfl

section
variable {R : Type} {P : Program}
theorem convK_ok {src dst : TypeId} {a : TV} {K : Slot → Option R} {r : R} (h : convK P src dst a K = some r) :
    ∃ s, K s = some r ∧ ∀ (C : Ctx) (E : Env) (w : World) (va : Value), Inv E.m w → VRep E a.t a.x va →
      ∃ v m' w', (convert src dst va).run P w = .ok v w' ∧ Chg C E.m w m' w' ∧ Inv m' w' ∧ SlotRep { E with m := m' } s v := by
  unfold convK at h
  split at h
  · rename_i d k k' n hs hd
    refine ⟨_, h, fun C E w va hi hv => ⟨.int k (k.wrap n), E.m, w, ?_, .refl _ _, hi, mkInt _ _ _⟩⟩
    rw [vrep_int hv]
    unfold convert
    simp only [Sem.run_bind, run_underlying hs, run_underlying hd, Result.andThen_ok]
    cases d <;> rfl
  · rename_i d s hs hd
    refine ⟨_, h, fun C E w va hi hv => ⟨.string s, E.m, w, ?_, .refl _ _, hi, mkStr _ _⟩⟩
    rw [vrep_str hv]
    unfold convert
    simp only [Sem.run_bind, run_underlying hs, run_underlying hd, Result.andThen_ok]
    cases d <;> rfl
  · rename_i d e s hs hd
    split at h
    · rename_i he
      refine ⟨_, h, fun C E w va hi hv => ?_⟩
      rw [vrep_str hv]
      have hrow : ∀ j v, (((bytesOf s).map fun n => Value.int .u8 n)[j]? = some v) → (Lib.bytesWorld w e s).cell? ⟨w.heap.size, j, none⟩ = some v := by
        intro j v hj
        rw [List.getElem?_map, Option.map_eq_some_iff] at hj
        obtain ⟨n, hn, rfl⟩ := hj
        have hlt : j < s.size := by rw [← bytesOf_length]; exact (List.getElem?_eq_some_iff.1 hn).1
        rw [Lib.bytesWorld_cell w e s j hlt]
        unfold bytesOf at hn
        rw [List.getElem?_map, Option.map_eq_some_iff] at hn
        obtain ⟨b, hb, rfl⟩ := hn
        rw [List.getD_eq_getElem?_getD, hb]; rfl
      obtain ⟨hc, hi'⟩ := commit_ok (C := C) (w' := Lib.bytesWorld w e s) hi hrow (Lib.bytesWorld_size w e s) (Lib.bytesWorld_at_old w e s) rfl rfl rfl (Nat.le_succ _)
      refine ⟨_, _, _, Lib.run_convert_string_bytes w src dst e s hs hd he, hc, hi', [_], ⟨some ⟨w.heap.size, 0, none⟩, grownCap w s.size 0 e, ?_, fun hA => (nomatch hA), ?_, ?_⟩, rfl⟩
      · show [Value.slice _ s.size _] = [Value.slice _ (bytesOf s).length _]
        rw [bytesOf_length]
      · show (bytesOf s).length ≤ _
        rw [bytesOf_length]; unfold grownCap Question.cut; simp only; omega
      · intro i x hx
        refine ⟨⟨w.heap.size, 0, none⟩, [.int .u8 x], rfl, rfl, rfl, rfl, fun j v hj => ?_⟩
        have hj0 : j = 0 := by
          have := (List.getElem?_eq_some_iff.1 hj).1
          simp at this; exact this
        subst hj0
        simp only [List.getElem?_cons_zero, Option.some.injEq] at hj
        subst hj
        show commit E.m w.heap.size _ w.heap.size (0 + i * 1 + 0) = _
        unfold commit
        rw [if_pos rfl, List.getElem?_map]
        have hx' : (bytesOf s)[0 + i * 1 + 0]? = some x := by rw [show 0 + i * 1 + 0 = i by omega]; exact hx
        rw [hx']; rfl
    · cases h
  · rename_i e xs hs hd
    split at h
    · rename_i he
      refine ⟨_, h, fun C E w va hi hv => ?_⟩
      obtain ⟨A, cap, rfl, hn0, hc, hr⟩ := vrep_list hv
      refine ⟨.string (ofBytes xs), E.m, w, ?_, .refl _ _, hi, mkStr _ _⟩
      rw [run_convert_bytes_string w src dst e A _ cap hs he hd]
      cases A with
      | none =>
        cases xs with
        | nil => rfl
        | cons x r =>
          obtain ⟨a, c, ha, _⟩ := hr 0 x rfl
          cases ha
      | some ad =>
        rw [run_bytesToString w ad _ cap xs]
        · rw [foldl_push_bytes]; simp [ofBytes]
        · have := run_loadCells_list (P := P) w ad (xs.map fun n => Value.int .u8 n) (fun j v hj => by
            rw [List.getElem?_map, Option.map_eq_some_iff] at hj
            obtain ⟨n, hn, rfl⟩ := hj
            obtain ⟨ad', c, hA, h1, hc', hrow⟩ := hr j n hn
            obtain rfl := Option.some.inj hA
            obtain rfl : c = [.int .u8 n] := hc'
            have h0 := hrow.2 0 _ rfl
            have e1 : ad.add j = ⟨ad.block, ad.off + j, none⟩ := by
              unfold Addr.add; split
              · rename_i hz; obtain ⟨b', o', s'⟩ := ad; simp only at h1; subst h1; simp [hz]
              · rfl
            rw [e1]
            have h2 := hi _ _ _ h0
            have e2 : ad.off + j * Ty.size (.int .u8) + 0 = ad.off + j := by simp [Ty.size]
            simp only [e2] at h2
            exact h2)
          rw [List.length_map] at this
          exact this
    · cases h
  · cases h

/-! literals -/
theorem seg_get (arr : Array Value) : ∀ (l : List Value) (k o : Nat), o + k + l.length ≤ arr.size → ∀ i, ((l.zipIdx k).foldl (fun cs (p : Value × Nat) => cs.setIfInBounds (o + p.2) p.1) arr)[i]? = if o + k ≤ i ∧ i < o + k + l.length then l[i - (o + k)]? else arr[i]?
  | [], k, o, _, i => by
    rw [if_neg (by intro hh; simp at hh; omega)]; rfl
  | v :: l, k, o, h, i => by
    have h' : o + k + (l.length + 1) ≤ arr.size := h
    simp only [List.zipIdx_cons, List.foldl_cons]
    rw [seg_get (arr.setIfInBounds (o + k) v) l (k + 1) o (by rw [Array.size_setIfInBounds]; omega) i]
    simp only [List.length_cons]
    by_cases h1 : o + (k + 1) ≤ i ∧ i < o + (k + 1) + l.length
    · rw [if_pos h1, if_pos (by omega)]
      rw [show i - (o + k) = (i - (o + (k + 1))) + 1 by omega, List.getElem?_cons_succ]
    · rw [if_neg h1, Array.getElem?_setIfInBounds]
      by_cases h2 : o + k = i
      · subst h2
        rw [if_pos rfl, if_pos (by omega), if_pos (by omega)]
        simp
      · rw [if_neg h2, if_neg (by omega)]

theorem seg_fold {pre c0 post l : List Value} (h : c0.length = l.length) : (l.toArray.zipIdx.foldl (fun cs (p : Value × Nat) => cs.setIfInBounds (pre.length + p.2) p.1) (pre ++ c0 ++ post).toArray) = (pre ++ l ++ post).toArray := by
  apply Array.ext_getElem?
  intro i
  have := seg_get (pre ++ c0 ++ post).toArray l 0 pre.length (by simp; omega) i
  rw [← Array.foldl_toList, Array.toList_zipIdx]
  rw [this]
  simp only [List.getElem?_toArray, Nat.add_zero]
  split
  · rename_i hh
    rw [List.append_assoc, List.getElem?_append_right hh.1, List.getElem?_append_left (by omega)]
  · rename_i hh
    rw [List.append_assoc, List.append_assoc]
    by_cases h1 : i < pre.length
    · rw [List.getElem?_append_left h1, List.getElem?_append_left h1]
    · rw [List.getElem?_append_right (by omega), List.getElem?_append_right (by omega), List.getElem?_append_right (by omega), List.getElem?_append_right (by omega), h]

theorem setParts_ok {st : St} {X : Nat → Prop} {E : Env} {a : Act} {w : World} (hf : FR X E st a.tmps w) {place : Nat → Option (Nat × Nat × TypeId)} {place' : Nat → Option (Nat × Nat)}
    (hp : ∀ i o n ty, place i = some (o, n, ty) → place' i = some (o, n)) {t : Ty} : ∀ (parts : List (Nat × Operand)) (x y : t.den) (cs : List Value),
    (∀ p ∈ parts, ∀ u, p.2 = .tmp u → X u) → setParts P st place t x parts = some y → rep E t x cs →
    ∃ cs', rep E t y cs' ∧ Instr.fill place' cs.toArray (parts.map fun (i, x) => (i, a.eval x)) = some cs'.toArray
  | [], x, y, cs, _, h, r => by
    simp only [setParts, Option.some.injEq] at h; subst h
    exact ⟨cs, r, rfl⟩
  | (i, z) :: rest, x, y, cs, hx, h, r => by
    simp only [setParts] at h
    split at h
    · rename_i o n ty hpl
      split at h
      · rename_i tv htv
        split at h
        · rename_i hn
          split at h
          · rename_i x' hx'
            have hv := opdX_ok hf (hx (i, z) (by simp)) htv
            have hvc := hv.cells
            have hvl := rep_length _ _ _ hvc
            obtain ⟨pre, c0, post, rfl, hpre, hc0, hset⟩ := setAt_ok _ _ _ _ _ hx' r
            obtain ⟨cs', hr', hfill⟩ := setParts_ok hf hp rest x' y (pre ++ (a.eval z).cells.toList ++ post) (fun p hp' => hx p (by simp [hp'])) h (hset _ hvc)
            refine ⟨cs', hr', ?_⟩
            have hvs : (a.eval z).cells.size = n := by rw [← hn, ← hvl]; simp
            simp only [List.map_cons, Instr.fill, hp _ _ _ _ hpl]
            have hcond : ¬ ((a.eval z).cells.size ≠ n ∨ (o + (a.eval z).cells.size > (pre ++ c0 ++ post).toArray.size)) := by
              simp only [List.size_toArray, List.length_append]
              omega
            have hfold := seg_fold (pre := pre) (c0 := c0) (post := post) (l := (a.eval z).cells.toList) (by rw [hc0, hvl])
            rw [hpre] at hfold
            simp only [Array.toArray_toList] at hfold
            have hc2 : (decide ((a.eval z).cells.size ≠ n) || decide (o + (a.eval z).cells.size > (pre ++ c0 ++ post).toArray.size)) = false := by
              simp only [Bool.or_eq_false_iff, decide_eq_false_iff_not]
              exact ⟨fun h => hcond (.inl h), fun h => hcond (.inr h)⟩
            rw [if_neg (by rw [hc2]; simp)]
            rw [hfold]
            exact hfill
          · cases h
        · cases h
      · cases h
    · cases h
theorem putAt_ok {E : Env} {tv : TV} : ∀ (t : Ty) (x : t.den) (o : Nat) (y : TV) (cs : List Value), putAt t x o tv = some y → rep E t x cs →
    y.t.isAgg = true ∧ ∃ pre c0 post, cs = pre ++ c0 ++ post ∧ pre.length = o ∧ c0.length = tv.t.size ∧ ∀ c, rep E tv.t tv.x c → rep E y.t y.x (pre ++ c ++ post) := by
  intro t
  induction t with
  | pair a b iha ihb =>
    intro x o y cs h r
    obtain ⟨c1, c2, rfl, r1, r2⟩ := r
    simp only [putAt] at h
    split at h
    · rename_i hh
      obtain rfl := Option.some.inj h
      exact ⟨rfl, [], c1, c2, by simp, by simp [hh.1], by rw [hh.2]; exact rep_length _ _ _ r1, fun c hc => ⟨c, c2, by simp, hc, r2⟩⟩
    · split at h
      · rename_i hle
        split at h
        · rename_i y' hy
          obtain rfl := Option.some.inj h
          obtain ⟨_, pre, c, post, rfl, hp, hl, hr⟩ := ihb _ _ _ _ hy r2
          exact ⟨rfl, c1 ++ pre, c, post, by simp, by rw [List.length_append, hp, rep_length _ _ _ r1]; omega, hl, fun c' hc => ⟨c1, pre ++ c' ++ post, by simp, r1, hr c' hc⟩⟩
        · cases h
      · cases h
  | _ => intro x o y cs h r; simp [putAt] at h
theorem setPartsR_ok {st : St} {X : Nat → Prop} {E : Env} {a : Act} {w : World} (hf : FR X E st a.tmps w) {place : Nat → Option (Nat × Nat × TypeId)} {place' : Nat → Option (Nat × Nat)}
    (hp : ∀ i o n ty, place i = some (o, n, ty) → place' i = some (o, n)) : ∀ (parts : List (Nat × Operand)) (t : Ty) (x : t.den) (y : TV) (cs : List Value), t.isAgg = true →
    (∀ p ∈ parts, ∀ u, p.2 = .tmp u → X u) → setPartsR P st place t x parts = some y → rep E t x cs →
    ∃ cs', rep E y.t y.x cs' ∧ y.t.isAgg = true ∧ Instr.fill place' cs.toArray (parts.map fun (i, x) => (i, a.eval x)) = some cs'.toArray
  | [], t, x, y, cs, ht, _, h, r => by
    simp only [setPartsR, Option.some.injEq] at h; subst h
    exact ⟨cs, r, ht, rfl⟩
  | (i, z) :: rest, t, x, y, cs, ht, hx, h, r => by
    simp only [setPartsR] at h
    split at h
    · rename_i o n ty hpl
      split at h
      · rename_i tv htv
        split at h
        · rename_i hn
          split at h
          · rename_i x' hx'
            have hv := opdX_ok hf (hx (i, z) (by simp)) htv
            have hvc := hv.cells
            have hvl := rep_length _ _ _ hvc
            obtain ⟨hag, pre, c0, post, rfl, hpre, hc0, hset⟩ := putAt_ok _ _ _ _ _ hx' r
            obtain ⟨cs', hr', hag', hfill⟩ := setPartsR_ok hf hp rest x'.t x'.x y (pre ++ (a.eval z).cells.toList ++ post) hag (fun p hp' => hx p (by simp [hp'])) h (hset _ hvc)
            refine ⟨cs', hr', hag', ?_⟩
            have hvs : (a.eval z).cells.size = n := by rw [← hn, ← hvl]; simp
            simp only [List.map_cons, Instr.fill, hp _ _ _ _ hpl]
            have hcond : ¬ ((a.eval z).cells.size ≠ n ∨ (o + (a.eval z).cells.size > (pre ++ c0 ++ post).toArray.size)) := by
              simp only [List.size_toArray, List.length_append]
              omega
            have hfold := seg_fold (pre := pre) (c0 := c0) (post := post) (l := (a.eval z).cells.toList) (by rw [hc0, hvl])
            rw [hpre] at hfold
            simp only [Array.toArray_toList] at hfold
            have hc2 : (decide ((a.eval z).cells.size ≠ n) || decide (o + (a.eval z).cells.size > (pre ++ c0 ++ post).toArray.size)) = false := by
              simp only [Bool.or_eq_false_iff, decide_eq_false_iff_not]
              exact ⟨fun h => hcond (.inl h), fun h => hcond (.inr h)⟩
            rw [if_neg (by rw [hc2]; simp)]
            rw [hfold]
            exact hfill
          · cases h
        · cases h
      · cases h
    · cases h
end
end Go.Proofs.YtedenojeljjnaaaGreatDoorPi

namespace Go.Proofs.YtedenojeljjnaaaGreatDoorPi
open Go
section
variable {R : Type} {P : Program}
theorem run_mapM_list {α β : Type} {w : World} {g : α → Sem β} {f : α → β} : ∀ (l : List α), (∀ x ∈ l, (g x).run P w = .ok (f x) w) → (l.mapM g).run P w = .ok (l.map f) w
  | [], _ => by simp
  | x :: l, h => by
    rw [List.mapM_cons, Sem.run_bind, h x (by simp), Result.andThen_ok, Sem.run_bind, run_mapM_list l (fun y hy => h y (by simp [hy]))]
    rfl
theorem run_mapM_arr {α β : Type} {w : World} {g : α → Sem β} {f : α → β} (l : Array α) (h : ∀ x ∈ l.toList, (g x).run P w = .ok (f x) w) : (l.mapM g).run P w = .ok (l.map f) w := by
  rw [Array.mapM_eq_mapM_toList, Sem.run_map, run_mapM_list l.toList h, Result.andThen_ok]
  congr 1
  apply Array.ext'
  simp

theorem run_zeroValue {w : World} {t : TypeId} {inf : TypeInfo} {z : Value} (hinf : P.info? t = some inf) (hz : inf.zero = some z) : (zeroValue t).run P w = .ok z w := by
  unfold zeroValue typeInfo
  simp [hinf, hz]

theorem buildK_ok {st : St} {ty : TypeId} {parts : Array (Nat × Operand)} {K : Slot → Option R} {r : R} (h : buildK P st ty parts.toList K = some r) :
    ∃ s, K s = some r ∧ ∀ (X : Nat → Prop) (E : Env) (a : Act) (w : World), FR X E st a.tmps w → (∀ p ∈ parts.toList, ∀ u, p.2 = .tmp u → X u) → ∃ v, (Instr.build ty (parts.map fun (i, x) => (i, a.eval x))).run P w = .ok v w ∧ SlotRep E s v := by
  unfold buildK at h
  split at h
  · rename_i t inf ht hinf
    split at h
    · rename_i z hz
      split at h
      · rename_i x0 hx0
        have r0 : ∀ E : Env, rep E t x0 z.cells.toList := fun E => by
          obtain ⟨c, e, q⟩ := ofCells_ok E _ _ _ _ hx0
          rw [List.append_nil] at e
          rw [e]; exact q
        split at h
        · rename_i fs hu
          split at h
          · rename_i hagg
            split at h
            · rename_i x hx
              refine ⟨_, h, fun X E a w hf hX => ?_⟩
              have hmap : (fs.mapM fun f => do pure (f.offset, ← sizeOf f.type) : Sem (Array (Nat × Nat))).run P w = .ok (fs.map fun f => (f.offset, P.cellsOf f.type)) w := by
                refine run_mapM_arr fs fun f hf' => ?_
                have := List.all_eq_true.1 hagg.2 f hf'
                obtain ⟨j, hj⟩ := Option.isSome_iff_exists.1 this
                rw [Sem.run_bind, run_sizeOf w hj]; rfl
              obtain ⟨cs', hr', hfill⟩ := setParts_ok (place' := fun i => (fs.map fun f => (f.offset, P.cellsOf f.type))[i]?) hf (fun i o n u hpl => by
                split at hpl
                · rename_i f hf'
                  split at hpl
                  · rename_i j hj
                    simp only [Option.some.injEq, Prod.mk.injEq] at hpl
                    obtain ⟨rfl, rfl, _⟩ := hpl
                    rw [Array.getElem?_map, hf']
                    simp [Program.cellsOf, hj]
                  · cases hpl
                · cases hpl) parts.toList x0 x _ hX hx (r0 E)
              refine ⟨.agg cs'.toArray, ?_, cs', hr', by unfold mkV; rw [if_pos hagg.1]⟩
              unfold Instr.build
              rw [Sem.run_bind, run_zeroValue hinf hz, Result.andThen_ok, Sem.run_bind, run_underlying hu, Result.andThen_ok]
              simp only
              rw [Sem.run_bind, hmap, Result.andThen_ok]
              rw [Array.toArray_toList] at hfill
              rw [Array.toList_map, hfill]
              rfl
            · split at h
              · rename_i x hx
                refine ⟨_, h, fun X E a w hf hX => ?_⟩
                have hmap : (fs.mapM fun f => do pure (f.offset, ← sizeOf f.type) : Sem (Array (Nat × Nat))).run P w = .ok (fs.map fun f => (f.offset, P.cellsOf f.type)) w := by
                  refine run_mapM_arr fs fun f hf' => ?_
                  have := List.all_eq_true.1 hagg.2 f hf'
                  obtain ⟨j, hj⟩ := Option.isSome_iff_exists.1 this
                  rw [Sem.run_bind, run_sizeOf w hj]; rfl
                obtain ⟨cs', hr', hag', hfill⟩ := setPartsR_ok (place' := fun i => (fs.map fun f => (f.offset, P.cellsOf f.type))[i]?) hf (fun i o n u hpl => by
                  unfold placeF at hpl
                  split at hpl
                  · rename_i f hf'
                    split at hpl
                    · rename_i j hj
                      simp only [Option.some.injEq, Prod.mk.injEq] at hpl
                      obtain ⟨rfl, rfl, _⟩ := hpl
                      rw [Array.getElem?_map, hf']
                      simp [Program.cellsOf, hj]
                    · cases hpl
                  · cases hpl) parts.toList t x0 x _ hagg.1 hX hx (r0 E)
                refine ⟨.agg cs'.toArray, ?_, cs', hr', by unfold mkV; rw [if_pos hag']⟩
                unfold Instr.build
                rw [Sem.run_bind, run_zeroValue hinf hz, Result.andThen_ok, Sem.run_bind, run_underlying hu, Result.andThen_ok]
                simp only
                rw [Sem.run_bind, hmap, Result.andThen_ok]
                rw [Array.toArray_toList] at hfill
                rw [Array.toList_map, hfill]
                rfl
              · cases h
          · cases h
        · rename_i len e hu
          split at h
          · rename_i hagg
            split at h
            · rename_i j hj
              split at h
              · rename_i x hx
                refine ⟨_, h, fun X E a w hf hX => ?_⟩
                obtain ⟨cs', hr', hfill⟩ := setParts_ok (place' := fun i => some (i * P.cellsOf e, P.cellsOf e)) hf (fun i o n u hpl => by
                  simp only [Option.some.injEq, Prod.mk.injEq] at hpl
                  obtain ⟨rfl, rfl, _⟩ := hpl
                  simp [Program.cellsOf, hj]) parts.toList x0 x _ hX hx (r0 E)
                refine ⟨.agg cs'.toArray, ?_, cs', hr', by unfold mkV; rw [if_pos hagg]⟩
                unfold Instr.build
                rw [Sem.run_bind, run_zeroValue hinf hz, Result.andThen_ok, Sem.run_bind, run_underlying hu, Result.andThen_ok]
                simp only
                rw [Sem.run_bind, run_sizeOf w hj, Result.andThen_ok]
                rw [Array.toArray_toList] at hfill
                rw [Array.toList_map, hfill]
                rfl
              · split at h
                · rename_i x hx
                  refine ⟨_, h, fun X E a w hf hX => ?_⟩
                  obtain ⟨cs', hr', hag', hfill⟩ := setPartsR_ok (place' := fun i => some (i * P.cellsOf e, P.cellsOf e)) hf (fun i o n u hpl => by
                    simp only [Option.some.injEq, Prod.mk.injEq] at hpl
                    obtain ⟨rfl, rfl, _⟩ := hpl
                    simp [Program.cellsOf, hj]) parts.toList t x0 x _ hagg hX hx (r0 E)
                  refine ⟨.agg cs'.toArray, ?_, cs', hr', by unfold mkV; rw [if_pos hag']⟩
                  unfold Instr.build
                  rw [Sem.run_bind, run_zeroValue hinf hz, Result.andThen_ok, Sem.run_bind, run_underlying hu, Result.andThen_ok]
                  simp only
                  rw [Sem.run_bind, run_sizeOf w hj, Result.andThen_ok]
                  rw [Array.toArray_toList] at hfill
                  rw [Array.toList_map, hfill]
                  rfl
                · cases h
            · cases h
          · cases h
        · cases h
      · cases h
    · cases h
  · cases h

theorem buildSliceK_ok {st : St} {ty : TypeId} {len : Nat} {parts : Array (Nat × Operand)} {K : Slot → Option R} {r : R} (h : buildSliceK P st ty len parts.toList K = some r) :
    ∃ s, K s = some r ∧ ∀ (C : Ctx) (X : Nat → Prop) (E : Env) (a : Act) (w : World), FR X E st a.tmps w → (∀ p ∈ parts.toList, ∀ u, p.2 = .tmp u → X u) →
      ∃ v m' w', (Instr.buildSlice ty len (parts.map fun (i, x) => (i, a.eval x))).run P w = .ok v w' ∧ Chg C E.m w m' w' ∧ Inv m' w' ∧ SlotRep { E with m := m' } s v := by
  unfold buildSliceK at h
  split at h
  · rename_i e hu
    split at h
    · rename_i t inf ht hinf
      split at h
      · rename_i hs
        split at h
        · rename_i z hz
          split at h
          · rename_i x0 hx0
            split at h
            · rename_i x hx
              refine ⟨_, h, fun C X E a w hf hX => ?_⟩
              have r0 : rep E (many len t) x0 (if len * inf.size = 0 then [] else ((Array.range (len * inf.size)).map (z.cells[· % z.cells.size]!)).toList) := by
                obtain ⟨c, e', q⟩ := ofCells_ok E _ _ _ _ hx0
                rw [List.append_nil] at e'
                rw [e']; exact q
              have hsz : P.cellsOf e = inf.size := by simp [Program.cellsOf, hinf]
              obtain ⟨cs', hr', hfill⟩ := setParts_ok (place' := fun i => some (i * inf.size, inf.size)) hf (fun i o n u hpl => by
                simp only [Option.some.injEq, Prod.mk.injEq] at hpl
                obtain ⟨rfl, rfl, _⟩ := hpl
                rfl) parts.toList x0 x _ hX hx r0
              obtain ⟨hcl, hcn⟩ := chain_ok len x cs' hr'
              have hcc : ∀ j v, cs'[j]? = some v → ({ w with heap := w.heap.push (.cells cs'.toArray e) } : World).cell? ⟨w.heap.size, j, none⟩ = some v := fun j v hj => by
                simp [World.cell?, hj]
              obtain ⟨hc, hi⟩ := commit_ok (C := C) (w' := { w with heap := w.heap.push (.cells cs'.toArray e) }) hf.inv hcc (by simp) (fun b hb => by
                show (w.heap.push _)[b]? = _
                rw [Array.getElem?_push, if_neg (by omega)]) rfl rfl rfl (Nat.le_refl _)
              refine ⟨.slice (some ⟨w.heap.size, 0, none⟩) len len, _, _, ?_, hc, hi, [_], ⟨some ⟨w.heap.size, 0, none⟩, len, ?_, fun hA => (nomatch hA), ?_, ?_⟩, rfl⟩
              · unfold Instr.buildSlice
                simp only [Sem.run_bind, run_underlying hu, Result.andThen_ok, run_sizeOf' hinf]
                rw [if_neg hs.2]
                by_cases h0 : len * inf.size = 0
                · rw [if_pos h0] at hfill ⊢
                  have hinit : (Array.range (len * inf.size)).map ((#[] : Array Value)[· % (#[] : Array Value).size]!) = ([] : List Value).toArray := by
                    rw [h0]; simp
                  simp only [Sem.run_bind, Sem.run_pure, Result.andThen_ok]
                  rw [hinit, Array.toList_map, hfill]
                  simp only [newRow, Sem.run_bind, run_newObj, Sem.run_pure, Result.andThen_ok]
                · rw [if_neg h0] at hfill ⊢
                  rw [Array.toArray_toList] at hfill
                  simp only [Sem.run_bind, run_zeroValue hinf hz, Sem.run_pure, Result.andThen_ok]
                  rw [Array.toList_map, hfill]
                  simp only [newRow, Sem.run_bind, run_newObj, Sem.run_pure, Result.andThen_ok]
              · rw [hcl]
              · rw [hcl]; exact Nat.le_refl _
              · intro i y hy
                obtain ⟨pre, c, post, rfl, hp, hrc⟩ := hcn i y hy
                refine ⟨⟨w.heap.size, 0, none⟩, c, rfl, rfl, rep_mono (Env.le_m (hc.sub)) _ _ _ hrc, rfl, fun j v hj => ?_⟩
                show commit E.m w.heap.size _ w.heap.size (0 + i * t.size + j) = some v
                unfold commit
                rw [if_pos rfl, ← hp, List.append_assoc, List.getElem?_append_right (by omega), show 0 + pre.length + j - pre.length = j by omega, List.getElem?_append_left (List.getElem?_eq_some_iff.1 hj).1]
                exact hj
            · cases h
          · cases h
        · cases h
      · cases h
    · cases h
  · cases h

/-! calls -/
/-- What a function's evaluator gives is what the function does. -/
structure Sound (P : Program) (C : Ctx) (f : FuncId) (s : Sp) : Prop where
  enter : ∀ (args : Array Value) (w : World), (callFunc f args).run P w = .ok (.enter f args) w
  calls : ∀ (n : Nat) (x : s.ps.den) (r : s.rs.den), s.F n x = some r → ∀ (m : Mem) (β : Nat → Option Nat) (τ : Nat → Option Value) (w : World) (vs : List Value), Inv m w → C.Γ m → vals ⟨m, β, τ⟩ s.ps x vs →
    Calls P f vs.toArray w fun e w' => ∃ v m', e = .returned v ∧ Chg C m w m' w' ∧ Inv m' w' ∧ SlotRep ⟨m', β, τ⟩ (retSlot s.rs r) v

def srcs (E : Env) (a : Act) : List (Operand ⊕ TV) → List Value → Prop
  | [], vs => vs = []
  | .inl x :: r, vs => ∃ vs', vs = a.eval x :: vs' ∧ srcs E a r vs'
  | .inr tv :: r, vs => ∃ v vs', vs = v :: vs' ∧ VRep E tv.t tv.x v ∧ srcs E a r vs'
theorem srcs_inl {E : Env} {a : Act} : ∀ (xs : List Operand), srcs E a (xs.map .inl) (xs.map a.eval)
  | [] => rfl
  | x :: xs => ⟨_, rfl, srcs_inl xs⟩
theorem srcs_append {E : Env} {a : Act} : ∀ (l l' : List (Operand ⊕ TV)) (vs vs' : List Value), srcs E a l vs → srcs E a l' vs' → srcs E a (l ++ l') (vs ++ vs')
  | [], _, _, _, h, h' => by rw [show _ = [] from h]; exact h'
  | .inl x :: l, _, _, _, ⟨vs1, e, h⟩, h' => by rw [e]; exact ⟨_, rfl, srcs_append l _ _ _ h h'⟩
  | .inr tv :: l, _, _, _, ⟨v, vs1, e, hv, h⟩, h' => by rw [e]; exact ⟨_, _, rfl, hv, srcs_append l _ _ _ h h'⟩
theorem srcs_take {E : Env} {a : Act} : ∀ (n : Nat) (l : List TV) (vs : List Value), srcs E a (l.map .inr) vs → srcs E a ((l.take n).map .inr) (vs.take n) ∧ srcs E a ((l.drop n).map .inr) (vs.drop n)
  | 0, l, vs, h => ⟨by simp [srcs], by simpa using h⟩
  | n + 1, [], _, h => by rw [show _ = [] from h]; exact ⟨rfl, rfl⟩
  | n + 1, tv :: l, _, ⟨v, vs1, e, hv, h⟩ => by
    rw [e]
    obtain ⟨h1, h2⟩ := srcs_take n l vs1 h
    exact ⟨⟨v, _, rfl, hv, h1⟩, h2⟩
theorem inl_mem {x : Operand} {l l' : List TV} {xs : List Operand} (h : Sum.inl x ∈ (l.map Sum.inr : List (Operand ⊕ TV)) ++ xs.map Sum.inl ++ l'.map Sum.inr) : x ∈ xs := by
  rcases List.mem_append.1 h with h | h
  · rcases List.mem_append.1 h with h | h
    · obtain ⟨_, _, h⟩ := List.mem_map.1 h; cases h
    · obtain ⟨y, hy, h⟩ := List.mem_map.1 h; cases h; exact hy
  · obtain ⟨_, _, h⟩ := List.mem_map.1 h; cases h
theorem comps_ok {E : Env} {a : Act} : ∀ (b : Ty) (x : b.den) (bs : List Value), rep E b x bs → srcs E a ((comps b x).map .inr) (unflat b bs)
  | .pair t u, x, _, ⟨c1, c2, e, r1, r2⟩ => by
    rw [e]
    have hl := rep_length _ _ _ r1
    refine ⟨_, _, rfl, ⟨c1, r1, ?_⟩, ?_⟩
    · rw [← hl, List.take_left]
    · have := comps_ok (a := a) u x.2 c2 r2
      show srcs E a ((comps u x.2).map .inr) (unflat u ((c1 ++ c2).drop t.size))
      rw [← hl, List.drop_left]; exact this
  | .unit, _, _, _ | .bool, _, _, _ | .int _, _, _, _ | .str, _, _, _ | .list _, _, _, _ | .nl _, _, _, _ | .sl _ _, _, _, _ | .ref _, _, _, _ | .opt _, _, _, _ | .ptr _ _ _, _, _, _ | .ep _ _ _ _, _, _, _ | .fn _ _ _, _, _, _ | .bld _ _ _, _, _, _ | .nif, _, _, _ | .ifi _ _, _, _, _ => rfl

theorem vals_ret {E : Env} : ∀ (t : Ty) (x : t.den) (vs : List Value), vals E t x vs → SlotRep E (retSlot t x) (if h : vs.toArray.size = 1 then vs.toArray[0] else .tuple vs.toArray)
  | .unit, _, _, h => by
    obtain rfl : _ = [] := h
    exact ⟨[], rfl, rfl⟩
  | .pair a .unit, x, _, h => by
    obtain ⟨v, vs', rfl, hv, h2⟩ := h
    obtain rfl : vs' = [] := h2
    exact hv
  | .pair a (.pair b c), x, _, h => by
    have h' := h
    obtain ⟨v, vs', rfl, hv, v2, vs2, rfl, h2, h3⟩ := h
    rw [dif_neg (by simp)]
    exact ⟨_, h', rfl⟩
  | .pair _ .bool, _, _, h | .pair _ (.int _), _, _, h | .pair _ .str, _, _, h | .pair _ (.list _), _, _, h | .pair _ (.nl _), _, _, h | .pair _ (.opt _), _, _, h | .pair _ (.ep _ _ _ _), _, _, h | .pair _ (.sl _ _), _, _, h | .pair _ (.ref _), _, _, h | .pair _ (.ptr _ _ _), _, _, h | .pair _ (.fn _ _ _), _, _, h | .pair _ (.bld _ _ _), _, _, h | .pair _ .nif, _, _, h | .pair _ (.ifi _ _), _, _, h => by
    obtain ⟨v, vs', _, _, h2⟩ := h
    exact h2.elim

@[reducible] def retV (vs : List Value) : Value := if h : vs.toArray.size = 1 then vs.toArray[0] else .tuple vs.toArray
/-- A function whose first result is an array of the caller's own. -/
structure SoundO (P : Program) (C : Ctx) (f : FuncId) (s : SpO) : Prop where
  enter : ∀ (args : Array Value) (w : World), (callFunc f args).run P w = .ok (.enter f args) w
  calls : ∀ (n : Nat) (x : s.ps.den) (r : List s.t.den × s.rs.den), s.F n x = some r → ∀ (m : Mem) (β : Nat → Option Nat) (τ : Nat → Option Value) (w : World) (vs : List Value), Inv m w → C.Γ m → vals ⟨m, β, τ⟩ s.ps x vs →
    Calls P f vs.toArray w fun e w' => ∃ v vs' l m', e = .returned (retV (v :: vs')) ∧ Chg C m w m' w' ∧ Inv m' w' ∧ w'.ownsRow 0 s.e s.t.size v r.1.length l ∧ reps ⟨m', β, τ⟩ s.t r.1 l ∧ vals ⟨m', β, τ⟩ s.rs r.2 vs' ∧ ∀ g, v.ownBlock = some g → w.heap.size ≤ g ∧ ∀ j, m' g j = none
theorem commit_leN {m : Mem} {g : Nat} {l : List Value} (hm : ∀ j, m g j = none) : ∀ b j v, m b j = some v → commit m g l b j = some v := fun b j v hv => by
  unfold commit
  split
  · rename_i e; subst e; rw [hm j] at hv; cases hv
  · exact hv
/-- What is the caller's own may be laid down for good. -/
theorem own_list {m : Mem} {β : Nat → Option Nat} {τ : Nat → Option Value} {w : World} {e : TypeId} {t : Ty} {v : Value} {xs : List t.den} {l : List Value} (hi : Inv m w) (ho : w.ownsRow 0 e t.size v xs.length l) (hr : reps ⟨m, β, τ⟩ t xs l) (hm : ∀ g, v.ownBlock = some g → ∀ j, m g j = none) :
    ∃ m', (∀ b j u, m b j = some u → m' b j = some u) ∧ (∀ b, v.ownBlock ≠ some b → m' b = m b) ∧ Inv m' w ∧ VRep ⟨m', β, τ⟩ (.list t) xs v := by
  rcases ho.2 with ⟨rfl, hn⟩ | ⟨g, cap, cur, rfl, _, hg, hnc, hcm, hcs, htake⟩
  · have hxs : xs = [] := List.eq_nil_of_length_eq_zero hn
    subst hxs
    exact ⟨m, fun _ _ _ h => h, fun _ _ => rfl, hi, [.slice none 0 0], ⟨none, 0, rfl, fun _ => rfl, Nat.le_refl _, fun i x hx => by simp at hx⟩, rfl⟩
  · have hle := commit_leN (l := l) (hm g rfl)
    refine ⟨commit m g l, hle, fun b hb => ?_, fun b j u hu => ?_, [.slice (some ⟨g, 0, none⟩) xs.length cap], ⟨some ⟨g, 0, none⟩, cap, rfl, fun q => (nomatch q), hnc, fun j x hx => ?_⟩, rfl⟩
    · funext j; unfold commit
      rw [if_neg (fun h => hb (by rw [h]; rfl))]
    · unfold commit at hu
      split at hu
      · rename_i e; subst e
        have := ho.cells (g := b) rfl j u hu
        rw [add_spotless, Nat.zero_add] at this; exact this
      · exact hi b j u hu
    · obtain ⟨pre, c, post, hl2, hp, hrc, _⟩ := reps_at xs l j x hr hx
      refine ⟨⟨g, 0, none⟩, c, rfl, rfl, rep_mono (Env.le_m (E := ⟨m, β, τ⟩) hle) _ _ _ hrc, rfl, fun q u hq => ?_⟩
      show commit m g l g (0 + j * t.size + q) = some u
      unfold commit
      rw [if_pos rfl, hl2, List.append_assoc, List.getElem?_append_right (by omega), show 0 + j * t.size + q - pre.length = q by omega, List.getElem?_append_left (List.getElem?_eq_some_iff.1 hq).1]
      exact hq
theorem SoundO.asF {P : Program} {C : Ctx} {f : FuncId} {s : SpO} (h : SoundO P C f s) : Sound P C f s.sp := by
  refine ⟨h.enter, fun n x r hr m β τ w vs hi hG hv => ?_⟩
  refine (h.calls n x r hr m β τ w vs hi hG hv).mono ?_
  rintro e w' ⟨v, vs', l, m', rfl, hc, hi', ho, hrp, hvs, hown⟩
  obtain ⟨m2, hle, hoth, hi2, hv2⟩ := own_list (β := β) (τ := τ) hi' ho hrp (fun g hg => (hown g hg).2)
  refine ⟨_, m2, rfl, ⟨hc.os, hc.tape, hc.output, hc.drawn, hc.size, hc.heap, fun b hb _ => ?_, fun b j u q => hle b j u (hc.sub b j u q)⟩, hi2, vals_ret (.pair (.list s.t) s.rs) r (v :: vs') ⟨v, vs', rfl, hv2, vals_mono (Env.le_m (E := ⟨m', β, τ⟩) hle) _ _ _ hvs⟩⟩
  rw [hoth b (fun q => by have := (hown b q).1; omega), hc.mem b hb id]

/-- What works in place: a row of the caller's own is given new elements. -/
structure SoundI (P : Program) (C : Ctx) (f : FuncId) (s : SpI) : Prop where
  enter : ∀ (args : Array Value) (w : World), (callFunc f args).run P w = .ok (.enter f args) w
  calls : ∀ (n : Nat) (xs : List s.t.den) (y : s.as.den) (ys : List s.t.den), s.F n xs y = some ys → ∀ (m : Mem) (β : Nat → Option Nat) (τ : Nat → Option Value) (w : World) (v : Value) (l vs : List Value), Inv m w → C.Γ m → vals ⟨m, β, τ⟩ s.as y vs →
    w.ownsRow 0 s.e s.t.size v xs.length l → reps ⟨m, β, τ⟩ s.t xs l → (∀ g j, v.ownBlock = some g → m g j = none) →
    Calls P f (v :: vs).toArray w fun e w' => ∃ m' l', e = .returned (.tuple #[]) ∧ ChgX (fun b => v.ownBlock = some b) C m w m' w' ∧ Inv m' w' ∧ w'.ownsRow 0 s.e s.t.size v ys.length l' ∧ reps ⟨m', β, τ⟩ s.t ys l' ∧ ∀ g j, v.ownBlock = some g → m' g j = none
/-- A function to which boxes of the caller's own are handed. -/
structure SoundM (P : Program) (C : Ctx) (f : FuncId) (s : SpM) : Prop where
  enter : ∀ (args : Array Value) (w : World), (callFunc f args).run P w = .ok (.enter f args) w
  calls : ∀ (n : Nat) (c : s.ct.den) (y : s.ps.den) (c' : s.ct.den) (r : s.rs.den), s.F n c y = some (c', r) → ∀ (E : Env) (w : World) (vs : List Value),
    FR (fun _ => True) E ⟨[], boxesOf s.ks s.ct c⟩ #[] w → (∀ i, s.ks.length ≤ i → E.β i = none ∧ E.τ i = none) → (∀ i b, E.β i = some b → b < w.heap.size) → C.Γ E.m → vals E s.ps y vs →
    Calls P f vs.toArray w fun e w' => ∃ v E', e = .returned v ∧ ChgX (fun b => ∃ i, E.β i = some b) C E.m w E'.m w' ∧ FR (fun _ => True) E' ⟨[], if s.dead = true then [] else boxesOf s.ks s.ct c'⟩ #[] w' ∧
      (∀ i b, E'.β i = some b → ((∃ j, E.β j = some b) ∨ w.heap.size ≤ b) ∧ b < w'.heap.size) ∧ (∀ i, s.ks[i]? = some none → E'.β i = E.β i) ∧ SlotRep E' (retSlot s.rs r) v
/-- How a call ends that may panic. -/
def OutP (E : Env) (rs : Ty) (e : Ending) : rs.den ⊕ (TypeId × IntKind × Int) → Prop
  | .inl x => ∃ v, e = .returned v ∧ SlotRep E (retSlot rs x) v
  | .inr p => e = .panicked [{ v := .iface p.1 (.int p.2.1 p.2.2), recovered := false }]
/-- The same, where it may end in a panic. -/
structure SoundP (P : Program) (C : Ctx) (f : FuncId) (s : SpP) : Prop where
  enter : ∀ (args : Array Value) (w : World), (callFunc f args).run P w = .ok (.enter f args) w
  calls : ∀ (n : Nat) (c : s.ct.den) (y : s.ps.den) (c' : s.ct.den) (r : s.rs.den ⊕ (TypeId × IntKind × Int)), s.F n c y = some (c', r) → ∀ (E : Env) (w : World) (vs : List Value),
    FR (fun _ => True) E ⟨[], boxesOf s.ks s.ct c⟩ #[] w → (∀ i, s.ks.length ≤ i → E.β i = none ∧ E.τ i = none) → (∀ i b, E.β i = some b → b < w.heap.size) → C.Γ E.m → vals E s.ps y vs →
    Calls P f vs.toArray w fun e w' => ∃ E', ChgX (fun b => ∃ i, E.β i = some b) C E.m w E'.m w' ∧ FR (fun _ => True) E' ⟨[], boxesOf s.ks s.ct c'⟩ #[] w' ∧
      (∀ i b, E'.β i = some b → ((∃ j, E.β j = some b) ∨ w.heap.size ≤ b) ∧ b < w'.heap.size) ∧ (∀ i, s.ks[i]? = some none → E'.β i = E.β i) ∧
      OutP E' s.rs e r
def SoundX (P : Program) (C : Ctx) (f : FuncId) : SpX → Prop
  | .f s => Sound P C f s
  | .i s => SoundI P C f s
  | .o s => SoundO P C f s
  | .m l => ∀ s ∈ l, SoundM P C f s
  | .p l => ∀ s ∈ l, SoundP P C f s
theorem sound_asF {P : Program} {C : Ctx} {sp : Specs} (hsp : ∀ g s, sp g = some s → SoundX P C g s) {g : FuncId} {s : Sp} (h : (sp g).bind SpX.asF = some s) : Sound P C g s := by
  obtain ⟨x, hx, h2⟩ := Option.bind_eq_some_iff.1 h
  have := hsp g x hx
  cases x with
  | f s' => simp only [SpX.asF, Option.some.injEq] at h2; subst h2; exact this
  | o s' => simp only [SpX.asF, Option.some.injEq] at h2; subst h2; exact SoundO.asF this
  | i s' => simp [SpX.asF] at h2
  | m s' => simp [SpX.asF] at h2
  | p s' => simp [SpX.asF] at h2
theorem argsT_ok {st : St} {X : Nat → Prop} {E : Env} {a : Act} {w : World} (hf : FR X E st a.tmps w) : ∀ (t : Ty) (xs : List (Operand ⊕ TV)) (y : t.den) (vs : List Value), (∀ x, .inl x ∈ xs → ∀ u, x = .tmp u → X u) → srcs E a xs vs → argsT st t xs = some y → vals E t y vs
  | .unit, [], _, _, _, h, _ => h
  | .pair t u, x :: xs, y, vs, hX, hs, h => by
    simp only [argsT] at h
    split at h
    · rename_i y1 y2 h1 h2
      obtain rfl := Option.some.inj h
      cases x with
      | inl x =>
        obtain ⟨vs', rfl, hs'⟩ := hs
        exact ⟨_, _, rfl, opdT_ok hf (hX x (by simp)) h1, argsT_ok hf u xs y2 vs' (fun z hz => hX z (by simp [hz])) hs' h2⟩
      | inr tv =>
        obtain ⟨v, vs', rfl, hv, hs'⟩ := hs
        exact ⟨_, _, rfl, castTV_ok h1 hv, argsT_ok hf u xs y2 vs' (fun z hz => hX z (by simp [hz])) hs' h2⟩
    · cases h
  | .unit, _ :: _, _, _, _, _, h | .pair _ _, [], _, _, _, _, h | .bool, _, _, _, _, _, h | .int _, _, _, _, _, _, h | .str, _, _, _, _, _, h | .list _, _, _, _, _, _, h | .nl _, _, _, _, _, _, h | .sl _ _, _, _, _, _, _, h | .ref _, _, _, _, _, _, h | .opt _, _, _, _, _, _, h | .ptr _ _ _, _, _, _, _, _, h | .ep _ _ _ _, _, _, _, _, _, h | .fn _ _ _, _, _, _, _, _, h => by simp [argsT] at h

theorem intsOf_ok {st : St} {X : Nat → Prop} {E : Env} {a : Act} {w : World} (hf : FR X E st a.tmps w) {k : IntKind} : ∀ (xs : List Operand) (l : List Int), (∀ x ∈ xs, ∀ u, x = .tmp u → X u) → intsOf k st xs = some l → xs.map a.eval = l.map (.int k)
  | [], _, _, h => by simp only [intsOf, Option.some.injEq] at h; subst h; rfl
  | x :: xs, _, hX, h => by
    simp only [intsOf] at h
    split at h
    · rename_i n l' h1 h2
      obtain rfl := Option.some.inj h
      rw [List.map_cons, List.map_cons, intsOf_ok hf xs l' (fun z hz => hX z (by simp [hz])) h2, vrep_int (opdT_ok hf (hX x (by simp)) h1)]
    · cases h
theorem run_mins {P : Program} {w : World} {k : IntKind} : ∀ (l : List Int) (n : Int), ((l.map (Value.int k)).foldlM Builtin.min2 (.int k n)).run P w = .ok (.int k (l.foldl imin n)) w
  | [], n => rfl
  | m :: l, n => by
    rw [List.map_cons, List.foldlM_cons, Sem.run_bind]
    show Result.andThen (.ok (Value.int k (if m < n then m else n)) w) _ = _
    rw [Result.andThen_ok, run_mins l]
    rfl
theorem run_maxs {P : Program} {w : World} {k : IntKind} : ∀ (l : List Int) (n : Int), ((l.map (Value.int k)).foldlM Builtin.max2 (.int k n)).run P w = .ok (.int k (l.foldl imax n)) w
  | [], n => rfl
  | m :: l, n => by
    rw [List.map_cons, List.foldlM_cons, Sem.run_bind]
    show Result.andThen (.ok (Value.int k (if m > n then m else n)) w) _ = _
    rw [Result.andThen_ok, run_maxs l]
    rfl

theorem callK_ok {C : Ctx} {sp : Specs} (hsp : ∀ g s, sp g = some s → SoundX P C g s) {n : Nat} {st : St} {o : Oper} {c : Call} {K : Slot → Option R} {r : R} (ho : o.op = .call c) (h : callK P sp n st c K = some r) :
    ∃ s, K s = some r ∧ OpOK P C o st s := by
  have hX : ∀ {x : Operand}, x ∈ c.operands → ∀ u, x = .tmp u → u ∈ reads o := fun {x} hx u e => by
    subst e
    refine List.mem_filterMap.2 ⟨.tmp u, ?_, rfl⟩
    rw [ho]; simpa [Op.operands] using hx
  unfold callK at h
  split at h
  · rename_i hb
    split at h
    · rename_i x ty hargs hty
      have hx : x ∈ c.operands := by simp [Call.operands, hb, ← Array.mem_toList_iff, hargs]
      have ha : ∀ a : Act, c.args.map a.eval = #[a.eval x] := fun a => by
        apply Array.ext'; simp [hargs]
      have hty' : c.argTypes = #[ty] := by apply Array.ext'; simp [hty]
      split at h
      · rename_i s hu hs
        refine ⟨_, h, .of_pure fun E a w hf => ⟨.int .i64 s.size, ?_, mkInt _ _ _⟩⟩
        have hv := vrep_str (opd_ok hf (hX hx) hs)
        unfold execOp
        simp only [ho, resolve, hb, ha, hv, hty', Sem.run_bind, Sem.run_pure, Result.andThen_ok, invoke, builtin, Builtin.len_]
        simp [run_underlying hu, goInt]
      · rename_i e t xs hu hs
        refine ⟨_, h, .of_pure fun E a w hf => ⟨.int .i64 (xs.length : Int), ?_, mkInt _ _ _⟩⟩
        obtain ⟨A, cap, hv, _⟩ := vrep_list (opd_ok hf (hX hx) hs)
        unfold execOp
        simp only [ho, resolve, hb, ha, hv, hty', Sem.run_bind, Sem.run_pure, Result.andThen_ok, invoke, builtin, Builtin.len_]
        simp [run_underlying hu, goInt]
      · rename_i e t xs hu hs
        refine ⟨_, h, .of_pure fun E a w hf => ⟨.int .i64 0, ?_, mkInt _ _ _⟩⟩
        have hv := vrep_nl (opd_ok hf (hX hx) hs)
        unfold execOp
        simp only [ho, resolve, hb, ha, hv, hty', Sem.run_bind, Sem.run_pure, Result.andThen_ok, invoke, builtin, Builtin.len_]
        simp [run_underlying hu, goInt]
      · rename_i e k t xs hu hs
        split at h
        · rename_i e' t' xs hc
          refine ⟨_, h, .of_pure fun E a w hf => ⟨.int .i64 (xs.length : Int), ?_, mkInt _ _ _⟩⟩
          obtain ⟨A, n, cap, hv, hτ⟩ := vrep_sl (opd_ok hf (hX hx) hs)
          obtain ⟨v, l, ht, hown, hr, _⟩ := hf.arrs k e' t' xs hc
          obtain rfl : _ = v := Option.some.inj (hτ.symm.trans ht)
          have hn : n = xs.length := by
            rcases hown.2 with ⟨h1, h2⟩ | ⟨g, cap', cur, h1, _⟩
            · simp only [Value.slice.injEq] at h1; omega
            · simp only [Value.slice.injEq] at h1; exact h1.2.1
          subst hn
          unfold execOp
          simp only [ho, resolve, hb, ha, hv, hty', Sem.run_bind, Sem.run_pure, Result.andThen_ok, invoke, builtin, Builtin.len_]
          simp [run_underlying hu, goInt]
        · cases h
      · cases h
    · cases h
  · rename_i hb
    split at h
    · rename_i x r hargs
      split at h
      · rename_i k n hx
        split at h
        · rename_i l hl
          refine ⟨_, h, .of_pure fun E a w hf => ⟨.int k (l.foldl imin n), ?_, mkInt _ _ _⟩⟩
          have hmem : ∀ y ∈ x :: r, y ∈ c.operands := fun y hy => by simp only [Call.operands, hb]; rw [← hargs] at hy; simpa using hy
          have e1 := vrep_int (opd_ok hf (hX (hmem x (by simp))) hx)
          have e2 := intsOf_ok hf r l (fun y hy => hX (hmem y (by simp [hy]))) hl
          have ha : (c.args.map a.eval).toList = .int k n :: l.map (.int k) := by
            rw [Array.toList_map, hargs, List.map_cons, e1, e2]
          unfold execOp
          simp only [ho, resolve, hb, Sem.run_bind, Sem.run_pure, Result.andThen_ok, invoke, builtin, Builtin.min_, ha, run_mins]
        · cases h
      · cases h
    · cases h
  · rename_i hb
    split at h
    · rename_i x r hargs
      split at h
      · rename_i k n hx
        split at h
        · rename_i l hl
          refine ⟨_, h, .of_pure fun E a w hf => ⟨.int k (l.foldl imax n), ?_, mkInt _ _ _⟩⟩
          have hmem : ∀ y ∈ x :: r, y ∈ c.operands := fun y hy => by simp only [Call.operands, hb]; rw [← hargs] at hy; simpa using hy
          have e1 := vrep_int (opd_ok hf (hX (hmem x (by simp))) hx)
          have e2 := intsOf_ok hf r l (fun y hy => hX (hmem y (by simp [hy]))) hl
          have ha : (c.args.map a.eval).toList = .int k n :: l.map (.int k) := by
            rw [Array.toList_map, hargs, List.map_cons, e1, e2]
          unfold execOp
          simp only [ho, resolve, hb, Sem.run_bind, Sem.run_pure, Result.andThen_ok, invoke, builtin, Builtin.max_, ha, run_maxs]
        · cases h
      · cases h
    · cases h
  · rename_i f hv
    split at h
    · rename_i g nf b0 u hg
      split at h
      · rename_i s hs
        split at h
        · rename_i y hy
          obtain ⟨z, hz, hk⟩ := bind_some h
          refine ⟨_, hk, ?_⟩
          intro E a w Kc Q hf hG hkc
          have hso : Sound P C g s := sound_asF hsp hs
          obtain ⟨bs, hbs, hfv⟩ := vrep_fn (opd_ok hf (hX (by simp [Call.operands, hv])) hg)
          have hcs := comps_ok (a := a) b0 u bs hbs
          obtain ⟨ht1, ht2⟩ := srcs_take nf _ _ hcs
          have hsrc := srcs_append _ _ _ _ (srcs_append _ _ _ _ ht1 (srcs_inl (E := E) (a := a) c.args.toList)) ht2
          have hvals := argsT_ok hf s.ps _ y _ (fun x hx u e => hX (by
            have hx' : x ∈ c.args := by simpa using inl_mem hx
            simp [Call.operands, hx']) u e) hsrc hy
          unfold Oper.wp
          have hex : (execOp a.eval o).run P w = .ok (.enter g ((unflat b0 bs).take nf ++ c.args.toList.map a.eval ++ (unflat b0 bs).drop nf).toArray) w := by
            unfold execOp
            simp only [ho, resolve, hv, hfv, Deferred.ofValue, Sem.run_bind, Sem.run_pure, Result.andThen_ok, invoke]
            have : ((unflat b0 bs).take nf).toArray ++ c.args.map a.eval ++ ((unflat b0 bs).drop nf).toArray = ((unflat b0 bs).take nf ++ c.args.toList.map a.eval ++ (unflat b0 bs).drop nf).toArray := by
              apply Array.ext'; simp
            rw [this]
            exact hso.enter _ _
          rw [hex]
          refine (hso.calls n y z hz E.m E.β E.τ w _ hf.inv hG hvals).mono ?_
          rintro e w' ⟨v, m', rfl, hc, hi, hr⟩
          exact hkc v m' w' hc hi hr
        · cases h
      · cases h
    · cases h
  · cases h
end
end Go.Proofs.YtedenojeljjnaaaGreatDoorPi

namespace Go.Proofs.YtedenojeljjnaaaGreatDoorPi
open Go
section
variable {P : Program} {w : World} {E : Env}

theorem eqFields_ok {D : Nat} {chk : TypeId → Ty → Bool} (hc : ∀ (t : TypeId) (T : Ty) (x y : T.den) (vx vy : Value), chk t T = true → VRep E T x vx → VRep E T y vy → (Op.equalIn D t vx vy).run P w = .ok (eqD T x y) w) :
    ∀ (fs : List Field) (T : Ty) (x y : T.den) (off : Nat) (p1 c1 p2 c2 : List Value), chkF P chk fs T off = true → rep E T x c1 → rep E T y c2 → p1.length = off → p2.length = off →
      (Op.eqFields D (p1 ++ c1).toArray (p2 ++ c2).toArray fs).run P w = .ok (eqD T x y) w
  | [], .unit, _, _, _, _, _, _, _, _, _, _, _, _ => by simp [Op.eqFields, eqD]
  | f :: fs, .pair a b, x, y, off, p1, _, p2, _, h, ⟨ca, cb, rfl, ra, rb⟩, ⟨da, db, rfl, sa, sb⟩, h1, h2 => by
    simp only [chkF, Bool.and_eq_true] at h
    obtain ⟨⟨⟨⟨hn, ho⟩, hi⟩, hk⟩, hr⟩ := h
    have hn' : f.name ≠ "_" := by simpa using hn
    have ho' : f.offset = off := by simpa using ho
    split at hi
    · rename_i i d hinf hd
      rw [Bool.and_eq_true] at hi
      have hs : a.size = i.size := (show i.size = a.size by simpa using hi.1).symm
      have hg : aggD d = a.isAgg := by simpa using hi.2
      have q1 : (part f.type (p1 ++ (ca ++ cb)).toArray f.offset).run P w = .ok (mkV a ca) w := by
        rw [← List.append_assoc, ho', ← h1]; exact run_part hinf hd hs hg ra
      have q2 : (part f.type (p2 ++ (da ++ db)).toArray f.offset).run P w = .ok (mkV a da) w := by
        rw [← List.append_assoc, ho', ← h2]; exact run_part hinf hd hs hg sa
      have q3 := hc f.type a x.1 y.1 _ _ hk ⟨ca, ra, rfl⟩ ⟨da, sa, rfl⟩
      have ih := eqFields_ok hc fs b x.2 y.2 (off + a.size) (p1 ++ ca) cb (p2 ++ da) db hr rb sb (by rw [List.length_append, h1, rep_length _ _ _ ra]) (by rw [List.length_append, h2, rep_length _ _ _ sa])
      rw [List.append_assoc, List.append_assoc] at ih
      simp only [Op.eqFields, hn', ne_eq, not_false_eq_true, if_true, Sem.run_bind, q1, q2, q3, Result.andThen_ok]
      show _ = Result.ok (eqD a x.1 y.1 && eqD b x.2 y.2) w
      cases eqD a x.1 y.1
      · simp
      · simpa using ih
    · cases hi
  | [], .bool, _, _, _, _, _, _, _, h, _, _, _, _ | [], .int _, _, _, _, _, _, _, _, h, _, _, _, _ | [], .str, _, _, _, _, _, _, _, h, _, _, _, _ | [], .pair _ _, _, _, _, _, _, _, _, h, _, _, _, _ | [], .list _, _, _, _, _, _, _, _, h, _, _, _, _ | [], .sl _ _, _, _, _, _, _, _, _, h, _, _, _, _ | [], .ref _, _, _, _, _, _, _, _, h, _, _, _, _ | [], .ptr _ _ _, _, _, _, _, _, _, _, h, _, _, _, _ | [], .fn _ _ _, _, _, _, _, _, _, _, h, _, _, _, _ => by simp [chkF] at h
  | _ :: _, .unit, _, _, _, _, _, _, _, h, _, _, _, _ | _ :: _, .bool, _, _, _, _, _, _, _, h, _, _, _, _ | _ :: _, .int _, _, _, _, _, _, _, _, h, _, _, _, _ | _ :: _, .str, _, _, _, _, _, _, _, h, _, _, _, _ | _ :: _, .list _, _, _, _, _, _, _, _, h, _, _, _, _ | _ :: _, .sl _ _, _, _, _, _, _, _, _, h, _, _, _, _ | _ :: _, .ref _, _, _, _, _, _, _, _, h, _, _, _, _ | _ :: _, .ptr _ _ _, _, _, _, _, _, _, _, h, _, _, _, _ | _ :: _, .fn _ _ _, _, _, _, _, _, _, _, h, _, _, _, _ => by simp [chkF] at h

theorem equal_ok : ∀ (d D : Nat) (t : TypeId) (T : Ty) (x y : T.den) (vx vy : Value), d ≤ D → checkEq P d t T = true → VRep E T x vx → VRep E T y vy → (Op.equalIn D t vx vy).run P w = .ok (eqD T x y) w
  | 0, _, _, _, _, _, _, _, _, h, _, _ => by simp [checkEq] at h
  | d + 1, 0, _, _, _, _, _, _, hle, _, _, _ => by omega
  | d + 1, D + 1, t, T, x, y, vx, vy, hle, h, hx, hy => by
    cases T with
    | bool =>
      rw [vrep_bool hx, vrep_bool hy]
      simp only [checkEq] at h
      split at h
      · rename_i hu
        simp only [Op.equalIn, Sem.run_bind, run_underlying hu, Result.andThen_ok]; rfl
      · cases h
    | int k =>
      rw [vrep_int hx, vrep_int hy]
      simp only [checkEq] at h
      split at h
      · rename_i hu
        simp only [Op.equalIn, Sem.run_bind, run_underlying hu, Result.andThen_ok, if_true]; rfl
      · cases h
    | str =>
      rw [vrep_str hx, vrep_str hy]
      simp only [checkEq] at h
      split at h
      · rename_i hu
        simp only [Op.equalIn, Sem.run_bind, run_underlying hu, Result.andThen_ok]; rfl
      · cases h
    | pair a b =>
      obtain ⟨c1, r1, rfl⟩ := vrep_agg hx rfl
      obtain ⟨c2, r2, rfl⟩ := vrep_agg hy rfl
      simp only [checkEq] at h
      split at h
      · rename_i fs hu
        rw [Bool.and_eq_true] at h
        have hf : P.fieldsOf t = fs := by unfold Program.fieldsOf; rw [hu]
        rw [run_equalIn_struct w D t c1.toArray c2.toArray (by rw [hf]; exact hu) (by simpa using h.1), hf]
        have := eqFields_ok (E := E) (w := w) (D := D) (chk := checkEq P d) (fun t T x y vx vy hk h1 h2 => equal_ok d D t T x y vx vy (by omega) hk h1 h2) fs.toList (.pair a b) x y 0 [] c1 [] c2 h.2 r1 r2 rfl rfl
        simpa using this
      · cases h
    | _ => simp [checkEq] at h

theorem eqAgg_ok {R : Type} {op : BinOp} {ty : TypeId} {a b : TV} {K : Slot → Option R} {r : R} (h : eqAgg P op ty a b K = some r) :
    ∃ s, K s = some r ∧ ∀ (E : Env) (w : World) (x y : Operand) (va vb : Value), VRep E a.t a.x va → VRep E b.t b.x vb →
      ∃ v, ((do eqGuard op ty x y va vb; binOp op ty va vb) : Sem Value).run P w = .ok v w ∧ SlotRep E s v := by
  unfold eqAgg at h
  split at h
  · rename_i y hy
    split at h
    · rename_i hc
      have main : ∀ (E : Env) (w : World) (va vb : Value), VRep E a.t a.x va → VRep E b.t b.x vb → ∃ c1 c2, va = .agg c1 ∧ vb = .agg c2 ∧ (Op.equal ty va vb).run P w = .ok (eqD a.t a.x y) w := fun E w va vb ha hb => by
        have hb' := castTV_ok hy hb
        obtain ⟨c1, _, e1⟩ := vrep_agg ha hc.1
        obtain ⟨c2, _, e2⟩ := vrep_agg hb' hc.1
        refine ⟨_, _, e1, e2, ?_⟩
        exact equal_ok 30 Op.maxDepth ty a.t a.x y va vb (by unfold Op.maxDepth; omega) hc.2.1 ha hb'
      have guard : ∀ (op : BinOp) (x y : Operand) (c1 c2 : Array Value) (w : World), (eqGuard op ty x y (.agg c1) (.agg c2)).run P w = .ok () w := fun op x y c1 c2 w => by
        unfold eqGuard
        cases op <;> first | rfl | (simp only [Bool.not_true, Bool.false_eq_true, if_false, Sem.run_bind, run_program, Result.andThen_ok, hc.2.2, Bool.not_false, if_true]; rfl)
      split at h
      · refine ⟨_, h, fun E w p q va vb ha hb => ⟨.bool (eqD a.t a.x y), ?_, mkBool _ _⟩⟩
        obtain ⟨c1, c2, rfl, rfl, hm⟩ := main E w va vb ha hb
        rw [Sem.run_bind, guard, Result.andThen_ok]
        unfold binOp
        simp only [Sem.run_bind, hm, Result.andThen_ok, Sem.run_pure]
      · refine ⟨_, h, fun E w p q va vb ha hb => ⟨.bool (!(eqD a.t a.x y)), ?_, mkBool _ _⟩⟩
        obtain ⟨c1, c2, rfl, rfl, hm⟩ := main E w va vb ha hb
        rw [Sem.run_bind, guard, Result.andThen_ok]
        unfold binOp
        simp only [Sem.run_bind, hm, Result.andThen_ok, Sem.run_pure]
      · cases h
    · cases h
  · cases h
end
end Go.Proofs.YtedenojeljjnaaaGreatDoorPi
