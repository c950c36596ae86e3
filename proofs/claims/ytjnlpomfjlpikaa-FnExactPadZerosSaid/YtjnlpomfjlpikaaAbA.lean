/- An abstract store logic over the model: values, stores, frames, contracts, the walk computed. -/
import Derived.Calls
import Derived.Tactics
import Derived.Orders
import Derived.Below
import Derived.KernelRfl
import Derived.Deep.MidRow
import Derived.Laws.Slices
import Derived.Laws.MakeOwn
import Derived.Deep.AppendSrc
import Derived.Deep.Upon
import Derived.Laws.BytesString
import Derived.Laws.IdiomStrings
import Derived.Laws.Strings
set_option linter.unusedVariables false
set_option linter.unusedSimpArgs false
namespace Go.Proofs.Ytjnlpomfjlpikaa.Ab
open Go

/-- A value as a walk knows it. 'v': itself. 'p', 'sl': into a block of the walk's own, by its name. 'tp', 'ts': into what nobody writes any more, by its cells. -/
inductive AV where
  | v (x : Value)
  | p (n o : Nat)
  | tp (cs : List AV) (o : Nat)
  | sl (n o len e : Nat)
  | ts (len : Nat) (cs : List AV)
  | agg (cs : List AV)
  | tup (cs : List AV)
  | fn (f : Fn) (a b : List AV)

structure Blk where
  ty : TypeId
  cells : List AV

/-- A name: it lives, it is gone, or it is kept free. -/
inductive En where
  | live (b : Blk)
  | dead
  | fresh
abbrev Sto := List En
abbrev Fr := List (Nat × AV)

section
variable (ι : Nat → Option Nat) (S : Nat → Prop) (w : World)
mutual
def VR : AV → Value → Prop
  | .v x, u => u = x
  | .p n o, u => ∃ g, ι n = some g ∧ u = .pointer (some ⟨g, o, none⟩)
  | .tp cs k, u => ∃ g o c ty fz, u = .pointer (some ⟨g, o + k, none⟩) ∧ S g ∧ w.heap[g]? = some (Obj.cells c ty fz) ∧ VRl cs (c.toList.drop o)
  | .sl n o len e, u => ∃ A cap, u = .slice A len cap ∧ len ≤ cap ∧ (cap = 0 ∨ ∃ g c ty, A = some ⟨g, o, none⟩ ∧ ι n = some g ∧ w.heap[g]? = some (Obj.cells c ty (0, 0)) ∧ o + cap * e ≤ c.size)
  | .ts len cs, u => ∃ A cap, u = .slice A len cap ∧ len ≤ cap ∧ (cs = [] ∨ ∃ g o c ty fz, A = some ⟨g, o, none⟩ ∧ S g ∧ w.heap[g]? = some (Obj.cells c ty fz) ∧ VRl cs (c.toList.drop o))
  | .agg cs, u => ∃ c, u = .agg c ∧ VRe cs c.toList
  | .tup cs, u => ∃ c, u = .tuple c ∧ VRe cs c.toList
  | .fn f a b, u => ∃ x y, u = .func f x y ∧ VRe a x.toList ∧ VRe b y.toList
def VRl : List AV → List Value → Prop
  | [], _ => True
  | x :: xs, vs => ∃ v r, vs = v :: r ∧ VR x v ∧ VRl xs r
def VRe : List AV → List Value → Prop
  | [], vs => vs = []
  | x :: xs, vs => ∃ v r, vs = v :: r ∧ VR x v ∧ VRe xs r
end
end

mutual
def AV.ren (ρ : Nat → Nat) : AV → AV
  | .v x => .v x
  | .p m o => .p (ρ m) o
  | .tp cs o => .tp (AV.renL ρ cs) o
  | .sl m o l e => .sl (ρ m) o l e
  | .ts n cs => .ts n (AV.renL ρ cs)
  | .agg cs => .agg (AV.renL ρ cs)
  | .tup cs => .tup (AV.renL ρ cs)
  | .fn f a b => .fn f (AV.renL ρ a) (AV.renL ρ b)
def AV.renL (ρ : Nat → Nat) : List AV → List AV
  | [] => []
  | x :: xs => AV.ren ρ x :: AV.renL ρ xs
end
def Blk.ren (ρ : Nat → Nat) (b : Blk) : Blk := ⟨b.ty, AV.renL ρ b.cells⟩

section
variable {ι ι' : Nat → Option Nat} {S S' : Nat → Prop} {w w' : World}
mutual
theorem VR.ren (ρ : Nat → Nat) : ∀ (x : AV) (u : Value), VR ι S w (x.ren ρ) u ↔ VR (fun n => ι (ρ n)) S w x u
  | .v x, u => by simp only [AV.ren, VR]
  | .p m o, u => by simp only [AV.ren, VR]
  | .tp cs o, u => by simp only [AV.ren, VR, VRl.ren ρ cs]
  | .sl m o l e, u => by simp only [AV.ren, VR]
  | .ts n cs, u => by
    have h : (AV.renL ρ cs = [] ↔ cs = []) := by cases cs <;> simp [AV.renL]
    simp only [AV.ren, VR, VRl.ren ρ cs, h]
  | .agg cs, u => by simp only [AV.ren, VR, VRe.ren ρ cs]
  | .tup cs, u => by simp only [AV.ren, VR, VRe.ren ρ cs]
  | .fn f a b, u => by simp only [AV.ren, VR, VRe.ren ρ a, VRe.ren ρ b]
theorem VRl.ren (ρ : Nat → Nat) : ∀ (xs : List AV) (us : List Value), VRl ι S w (AV.renL ρ xs) us ↔ VRl (fun n => ι (ρ n)) S w xs us
  | [], us => by simp only [AV.renL, VRl]
  | x :: xs, us => by simp only [AV.renL, VRl, VR.ren ρ x, VRl.ren ρ xs]
theorem VRe.ren (ρ : Nat → Nat) : ∀ (xs : List AV) (us : List Value), VRe ι S w (AV.renL ρ xs) us ↔ VRe (fun n => ι (ρ n)) S w xs us
  | [], us => by simp only [AV.renL, VRe]
  | x :: xs, us => by simp only [AV.renL, VRe, VR.ren ρ x, VRe.ren ρ xs]
end

/-- What becomes of values when the world goes on: what nobody writes stays, blocks keep their sizes, names stay. -/
structure Mov (ι ι' : Nat → Option Nat) (S S' : Nat → Prop) (w w' : World) : Prop where
  nam : ∀ n g, ι n = some g → ι' n = some g
  sub : ∀ k, S k → S' k
  imm : ∀ k, S k → w'.heap[k]? = w.heap[k]?
  siz : ∀ (k : Nat) (c : Array Value) (ty : TypeId) (fz : Nat × Nat), w.heap[k]? = some (Obj.cells c ty fz) → ∃ c', w'.heap[k]? = some (Obj.cells c' ty fz) ∧ c'.size = c.size
theorem Mov.refl : Mov ι ι S S w w := ⟨fun _ _ h => h, fun _ h => h, fun _ _ => rfl, fun _ c ty fz h => ⟨c, h, rfl⟩⟩
theorem Mov.trans {ι'' : Nat → Option Nat} {S'' : Nat → Prop} {w'' : World} (a : Mov ι ι' S S' w w') (b : Mov ι' ι'' S' S'' w' w'') : Mov ι ι'' S S'' w w'' :=
  ⟨fun n g h => b.nam n g (a.nam n g h), fun k h => b.sub k (a.sub k h), fun k h => (b.imm k (a.sub k h)).trans (a.imm k h), fun k c ty fz h => by
    obtain ⟨c1, h1, e1⟩ := a.siz k c ty fz h
    obtain ⟨c2, h2, e2⟩ := b.siz k c1 ty fz h1
    exact ⟨c2, h2, e2.trans e1⟩⟩
mutual
theorem VR.mov (M : Mov ι ι' S S' w w') : ∀ (x : AV) (u : Value), VR ι S w x u → VR ι' S' w' x u
  | .v x, u, h => by simpa only [VR] using h
  | .p m o, u, h => by
    simp only [VR] at h ⊢
    obtain ⟨g, h1, h2⟩ := h
    exact ⟨g, M.nam _ _ h1, h2⟩
  | .tp cs k, u, h => by
    simp only [VR] at h ⊢
    obtain ⟨g, o, c, ty, fz, e, hs, hw, hc⟩ := h
    exact ⟨g, o, c, ty, fz, e, M.sub g hs, (M.imm g hs).trans hw, VRl.mov M cs _ hc⟩
  | .sl m o l e, u, h => by
    simp only [VR] at h ⊢
    obtain ⟨A, cap, e1, e2, h⟩ := h
    refine ⟨A, cap, e1, e2, ?_⟩
    rcases h with h | ⟨g, c, ty, e0, e5, e3, e4⟩
    · exact .inl h
    · obtain ⟨c', h1, h2⟩ := M.siz _ c ty _ e3
      exact .inr ⟨g, c', ty, e0, M.nam _ _ e5, h1, by omega⟩
  | .ts n cs, u, h => by
    simp only [VR] at h ⊢
    obtain ⟨A, cap, e1, e2, h⟩ := h
    refine ⟨A, cap, e1, e2, ?_⟩
    rcases h with h | ⟨g, o, c, ty, fz, e, hs, hw, hc⟩
    · exact .inl h
    · exact .inr ⟨g, o, c, ty, fz, e, M.sub g hs, (M.imm g hs).trans hw, VRl.mov M cs _ hc⟩
  | .agg cs, u, h => by
    simp only [VR] at h ⊢
    obtain ⟨c, e, h⟩ := h
    exact ⟨c, e, VRe.mov M cs _ h⟩
  | .tup cs, u, h => by
    simp only [VR] at h ⊢
    obtain ⟨c, e, h⟩ := h
    exact ⟨c, e, VRe.mov M cs _ h⟩
  | .fn f a b, u, h => by
    simp only [VR] at h ⊢
    obtain ⟨x, y, e, h1, h2⟩ := h
    exact ⟨x, y, e, VRe.mov M a _ h1, VRe.mov M b _ h2⟩
theorem VRl.mov (M : Mov ι ι' S S' w w') : ∀ (xs : List AV) (us : List Value), VRl ι S w xs us → VRl ι' S' w' xs us
  | [], us, h => by simp only [VRl]
  | x :: xs, us, h => by
    simp only [VRl] at h ⊢
    obtain ⟨v, r, e, h1, h2⟩ := h
    exact ⟨v, r, e, VR.mov M x v h1, VRl.mov M xs r h2⟩
theorem VRe.mov (M : Mov ι ι' S S' w w') : ∀ (xs : List AV) (us : List Value), VRe ι S w xs us → VRe ι' S' w' xs us
  | [], us, h => by simpa only [VRe] using h
  | x :: xs, us, h => by
    simp only [VRe] at h ⊢
    obtain ⟨v, r, e, h1, h2⟩ := h
    exact ⟨v, r, e, VR.mov M x v h1, VRe.mov M xs r h2⟩
end
theorem VRl.get : ∀ {xs : List AV} {us : List Value}, VRl ι S w xs us → ∀ {i : Nat} {x : AV}, xs[i]? = some x → ∃ u, us[i]? = some u ∧ VR ι S w x u
  | [], us, _, i, x, h => by simp at h
  | y :: ys, us, H, i, x, h => by
    simp only [VRl] at H
    obtain ⟨v, r, rfl, h1, h2⟩ := H
    cases i with
    | zero =>
      simp only [List.getElem?_cons_zero, Option.some.injEq] at h ⊢
      subst h
      exact ⟨v, rfl, h1⟩
    | succ i =>
      simp only [List.getElem?_cons_succ] at h ⊢
      exact VRl.get h2 h
theorem VRl.drop : ∀ {xs : List AV} {us : List Value} (i : Nat), VRl ι S w xs us → VRl ι S w (xs.drop i) (us.drop i)
  | xs, us, 0, H => by simpa using H
  | [], us, i + 1, H => by simp [VRl]
  | y :: ys, us, i + 1, H => by
    simp only [VRl] at H
    obtain ⟨v, r, rfl, h1, h2⟩ := H
    simpa using VRl.drop i h2
theorem VRl.take : ∀ {xs : List AV} {us : List Value} (i : Nat), VRl ι S w xs us → VRl ι S w (xs.take i) us
  | xs, us, 0, H => by simp [VRl]
  | [], us, i + 1, H => by simp [VRl]
  | y :: ys, us, i + 1, H => by
    simp only [VRl] at H
    obtain ⟨v, r, rfl, h1, h2⟩ := H
    simp only [List.take_succ_cons, VRl]
    exact ⟨v, r, rfl, h1, VRl.take i h2⟩
theorem VRl.ofE : ∀ {xs : List AV} {us : List Value}, VRe ι S w xs us → VRl ι S w xs us
  | [], us, H => by simp [VRl]
  | y :: ys, us, H => by
    simp only [VRe] at H
    obtain ⟨v, r, rfl, h1, h2⟩ := H
    simp only [VRl]
    exact ⟨v, r, rfl, h1, VRl.ofE h2⟩
theorem VRl.toE : ∀ {xs : List AV} {us : List Value}, VRl ι S w xs us → VRe ι S w xs (us.take xs.length)
  | [], us, H => by simp [VRe]
  | y :: ys, us, H => by
    simp only [VRl] at H
    obtain ⟨v, r, rfl, h1, h2⟩ := H
    simp only [List.length_cons, List.take_succ_cons, VRe]
    exact ⟨v, _, rfl, h1, VRl.toE h2⟩
theorem VRe.len : ∀ {xs : List AV} {us : List Value}, VRe ι S w xs us → us.length = xs.length
  | [], us, H => by simp only [VRe] at H; simp [H]
  | y :: ys, us, H => by
    simp only [VRe] at H
    obtain ⟨v, r, rfl, h1, h2⟩ := H
    simp [VRe.len h2]
theorem VRl.len : ∀ {xs : List AV} {us : List Value}, VRl ι S w xs us → xs.length ≤ us.length
  | [], us, H => by simp
  | y :: ys, us, H => by
    simp only [VRl] at H
    obtain ⟨v, r, rfl, h1, h2⟩ := H
    simp [VRl.len h2]
theorem VRl.set : ∀ {xs : List AV} {us : List Value} (i : Nat) {x : AV} {u : Value}, VRl ι S w xs us → VR ι S w x u → VRl ι S w (xs.set i x) (us.set i u)
  | [], us, i, x, u, H, h => by simp [VRl]
  | y :: ys, us, i, x, u, H, h => by
    simp only [VRl] at H
    obtain ⟨v, r, rfl, h1, h2⟩ := H
    cases i with
    | zero =>
      simp only [List.set_cons_zero, VRl]
      exact ⟨u, r, rfl, h, h2⟩
    | succ i =>
      simp only [List.set_cons_succ, VRl]
      exact ⟨v, _, rfl, h1, VRl.set i h2 h⟩
theorem VRl.append : ∀ {xs ys : List AV} {us vs : List Value}, VRe ι S w xs us → VRl ι S w ys vs → VRl ι S w (xs ++ ys) (us ++ vs)
  | [], ys, us, vs, H, h => by
    simp only [VRe] at H
    subst H
    simpa using h
  | x :: xs, ys, us, vs, H, h => by
    simp only [VRe] at H
    obtain ⟨v, r, rfl, h1, h2⟩ := H
    simp only [List.cons_append, VRl]
    exact ⟨v, _, rfl, h1, VRl.append h2 h⟩
theorem VRe.append : ∀ {xs ys : List AV} {us vs : List Value}, VRe ι S w xs us → VRe ι S w ys vs → VRe ι S w (xs ++ ys) (us ++ vs)
  | [], ys, us, vs, H, h => by
    simp only [VRe] at H
    subst H
    simpa using h
  | x :: xs, ys, us, vs, H, h => by
    simp only [VRe] at H
    obtain ⟨v, r, rfl, h1, h2⟩ := H
    simp only [List.cons_append, VRe]
    exact ⟨v, _, rfl, h1, VRe.append h2 h⟩

/-- The store: each living name stands for a block of its own. -/
structure SR (ι : Nat → Option Nat) (S : Nat → Prop) (σ : Sto) (w : World) : Prop where
  blk : ∀ n b, σ[n]? = some (.live b) → (ι n = none ∧ b.cells = []) ∨ ∃ g c, ι n = some g ∧ w.heap[g]? = some (Obj.cells c b.ty (0, 0)) ∧ VRl ι S w b.cells c.toList
  inj : ∀ n m b b' g, σ[n]? = some (.live b) → σ[m]? = some (.live b') → ι n = some g → ι m = some g → n = m
  own : ∀ n b g, σ[n]? = some (.live b) → ι n = some g → ¬ S g
  imm : ∀ k, S k → k < w.heap.size
  top : ∀ n, σ[n]? = none ∨ σ[n]? = some .fresh → ι n = none

def Ow (ι : Nat → Option Nat) (σ : Sto) (k : Nat) : Prop := ∃ n b, σ[n]? = some (.live b) ∧ ι n = some k

/-- From one state to a later one: what is not owned is not written. -/
structure Ext (σ : Sto) (ι : Nat → Option Nat) (S : Nat → Prop) (w : World) (σ' : Sto) (ι' : Nat → Option Nat) (S' : Nat → Prop) (w' : World) : Prop where
  os : w'.os = w.os
  tape : w'.tape = w.tape
  output : w'.output = w.output
  size : w.heap.size ≤ w'.heap.size
  keep : ∀ k, k < w.heap.size → ¬ Ow ι σ k → w'.heap[k]? = w.heap[k]?
  siz : ∀ (k : Nat) (c : Array Value) (ty : TypeId) (fz : Nat × Nat), w.heap[k]? = some (Obj.cells c ty fz) → ∃ c', w'.heap[k]? = some (Obj.cells c' ty fz) ∧ c'.size = c.size
  sub : ∀ k, S k → S' k
  new : ∀ k, Ow ι' σ' k → w.heap.size ≤ k ∨ Ow ι σ k
  imn : ∀ k, S' k → S k ∨ w.heap.size ≤ k ∨ Ow ι σ k
  len : σ.length ≤ σ'.length
  par : ∀ n, n < σ.length → (σ'[n]? = some .fresh → σ[n]? = some .fresh) ∧ ∀ b, σ'[n]? = some (.live b) → σ[n]? = some .fresh ∨ ι' n = ι n ∧ ∃ b', σ[n]? = some (.live b')
theorem Ext.refl {σ : Sto} : Ext σ ι S w σ ι S w :=
  ⟨rfl, rfl, rfl, Nat.le_refl _, fun _ _ _ => rfl, fun _ c ty fz h => ⟨c, h, rfl⟩, fun _ h => h, fun _ h => .inr h, fun _ h => .inl h, Nat.le_refl _, fun _ _ => ⟨fun h => h, fun b h => .inr ⟨rfl, b, h⟩⟩⟩
theorem Ext.trans {σ σ' σ'' : Sto} {ι'' : Nat → Option Nat} {S'' : Nat → Prop} {w'' : World} (a : Ext σ ι S w σ' ι' S' w') (b : Ext σ' ι' S' w' σ'' ι'' S'' w'') : Ext σ ι S w σ'' ι'' S'' w'' where
  os := b.os.trans a.os
  tape := b.tape.trans a.tape
  output := b.output.trans a.output
  size := Nat.le_trans a.size b.size
  keep := fun k hk ho => (b.keep k (Nat.lt_of_lt_of_le hk a.size) (fun h => by
    rcases a.new k h with h | h
    · omega
    · exact ho h)).trans (a.keep k hk ho)
  siz := fun k c ty fz h => by
    obtain ⟨c1, h1, e1⟩ := a.siz k c ty fz h
    obtain ⟨c2, h2, e2⟩ := b.siz k c1 ty fz h1
    exact ⟨c2, h2, e2.trans e1⟩
  sub := fun k h => b.sub k (a.sub k h)
  new := fun k h => by
    rcases b.new k h with h | h
    · exact .inl (Nat.le_trans a.size h)
    · exact a.new k h
  imn := fun k h => by
    rcases b.imn k h with h | h | h
    · exact a.imn k h
    · exact .inr (.inl (Nat.le_trans a.size h))
    · exact .inr (a.new k h)
  len := Nat.le_trans a.len b.len
  par := fun n hn => by
    have hb := b.par n (Nat.lt_of_lt_of_le hn a.len)
    have ha := a.par n hn
    refine ⟨fun h => ha.1 (hb.1 h), fun x h => ?_⟩
    rcases hb.2 x h with h1 | ⟨e, y, h1⟩
    · exact .inl (ha.1 h1)
    · rcases ha.2 y h1 with h2 | ⟨e2, h2⟩
      · exact .inl h2
      · exact .inr ⟨e.trans e2, h2⟩
theorem SR.ow_not {σ : Sto} (H : SR ι S σ w) {k : Nat} (hs : S k) : ¬ Ow ι σ k := fun ⟨n, b, h1, h2⟩ => H.own n b k h1 h2 hs
theorem Ext.mov {σ σ' : Sto} (H : SR ι S σ w) (a : Ext σ ι S w σ' ι' S' w') (hn : ∀ n g, ι n = some g → ι' n = some g) : Mov ι ι' S S' w w' :=
  ⟨hn, a.sub, fun k hk => a.keep k (H.imm k hk) (H.ow_not hk), a.siz⟩

/-! ### The frame and the walk -/
structure Env where
  P : Program
  fn : Func
  nt : Nat
  σ0 : Sto
  ι0 : Nat → Option Nat
  S0 : Nat → Prop
  w0 : World
  R : Ending → World → Prop

/-- No slot stands twice. -/
def once : Fr → Prop
  | [] => True
  | (k, _) :: r => (∀ y, (k, y) ∉ r) ∧ once r
structure Sim (e : Env) (fr : Fr) (σ : Sto) (ι : Nat → Option Nat) (S : Nat → Prop) (a : Act) (w : World) : Prop where
  defers : a.defers = []
  size : a.tmps.size = e.nt
  one : once fr
  frm : ∀ d x, (d, x) ∈ fr → ∃ u, a.tmps[d]? = some u ∧ VR ι S w x u
  sr : SR ι S σ w
  ext : Ext e.σ0 e.ι0 e.S0 e.w0 σ ι S w

inductive KI where
  | code (c : Code)
  | ops (all : Array Oper) (rest : List Oper)
  | blk (id : Nat)
  | inv (I : Act → World → Prop)

def Kpost (e : Env) : List KI → Exit → Act → World → Prop
  | [], x, a, w => bodyPost e.P e.fn e.R x a w
  | .code c :: k, .normal, a, w => c.wp e.P (Kpost e k) a w
  | .code _ :: k, x, a, w => Kpost e k x a w
  | .ops all rest :: k, .normal, a, w => wpList e.P all (Kpost e k) rest a w
  | .ops _ _ :: k, x, a, w => Kpost e k x a w
  | .blk id :: k, .exit id', a, w => if id' = id then Kpost e k .normal a w else Kpost e k (.exit id') a w
  | .blk _ :: k, x, a, w => Kpost e k x a w
  | .inv I :: k, .normal, a, w => I a w
  | .inv _ :: k, x, a, w => Kpost e k x a w

/-- From here on all goes as the walk's end says. -/
def Go (e : Env) (k : List KI) (fr : Fr) (σ : Sto) : Prop :=
  ∀ ι S a w, Sim e fr σ ι S a w → Kpost e k .normal a w

theorem then_code (e : Env) (c : Code) (k : List KI) : Exit.then (c.wp e.P (Kpost e k)) (Kpost e k) = Kpost e (.code c :: k) := by
  funext x a w
  cases x <;> rfl
theorem then_inv (e : Env) (I : Act → World → Prop) (k : List KI) : Exit.then I (Kpost e k) = Kpost e (.inv I :: k) := by
  funext x a w
  cases x <;> rfl
theorem block_blk (e : Env) (id : Nat) (k : List KI) : Exit.inBlock id (Kpost e k) = Kpost e (.blk id :: k) := by
  funext x a w
  cases x <;> rfl

section
variable {e : Env} {k : List KI} {fr : Fr} {σ : Sto}
theorem Go.seq {a b : Code} (h : Go e (.code a :: .code b :: k) fr σ) : Go e (.code (.seq a b) :: k) fr σ :=
  fun ι S x w H => wp_seq (by rw [then_code]; exact h ι S x w H)
theorem Go.skip (h : Go e k fr σ) : Go e (.code .skip :: k) fr σ := fun ι S x w H => wp_skip (h ι S x w H)
theorem Go.block {id : Nat} {c : Code} (h : Go e (.code c :: .blk id :: k) fr σ) : Go e (.code (.block id c) :: k) fr σ :=
  fun ι S x w H => wp_block (by rw [block_blk]; exact h ι S x w H)
theorem Go.blk {id : Nat} (h : Go e k fr σ) : Go e (.blk id :: k) fr σ := fun ι S x w H => h ι S x w H
theorem Go.opsNil {all : Array Oper} (h : Go e k fr σ) : Go e (.ops all [] :: k) fr σ := fun ι S x w H => h ι S x w H
theorem Go.region {id : Nat} {ops : Array Oper} (h : Go e (.ops ops ops.toList :: k) fr σ) : Go e (.code (.region id ops false) :: k) fr σ :=
  fun ι S x w H => wp_region_list (h ι S x w H)
/-- Where 'exit id' leads. -/
def popTo (id : Nat) : List KI → Option (List KI)
  | .blk id' :: k => bif id == id' then some k else popTo id k
  | .code _ :: k => popTo id k
  | .ops _ _ :: k => popTo id k
  | .inv _ :: k => popTo id k
  | [] => none
theorem popTo_spec {id : Nat} : ∀ {k k' : List KI}, popTo id k = some k' → ∀ a w, Kpost e k' .normal a w → Kpost e k (.exit id) a w
  | [], k', h, a, w, H => by simp [popTo] at h
  | .code _ :: k, k', h, a, w, H => popTo_spec (k := k) h a w H
  | .ops _ _ :: k, k', h, a, w, H => popTo_spec (k := k) h a w H
  | .inv _ :: k, k', h, a, w, H => popTo_spec (k := k) h a w H
  | .blk id' :: k, k', h, a, w, H => by
    unfold popTo at h
    by_cases he : id = id'
    · subst he
      simp only [beq_self_eq_true, cond_true, Option.some.injEq] at h
      subst h
      show (if id = id then _ else _)
      rw [if_pos rfl]
      exact H
    · have hb : (id == id') = false := by simpa using he
      rw [hb, cond_false] at h
      show (if id = id' then _ else _)
      rw [if_neg he]
      exact popTo_spec h a w H
theorem Go.exit {id : Nat} {k' : List KI} (hp : popTo id k = some k') (h : Go e k' fr σ) : Go e (.code (.exit id) :: k) fr σ :=
  fun ι S x w H => wp_exit (popTo_spec hp x w (h ι S x w H))
theorem Kpost_ret (a : Act) (w : World) : ∀ k : List KI, Kpost e [] .ret a w → Kpost e k .ret a w
  | [], h => h
  | .code _ :: k, h => Kpost_ret a w k h
  | .ops _ _ :: k, h => Kpost_ret a w k h
  | .inv _ :: k, h => Kpost_ret a w k h
  | .blk _ :: k, h => Kpost_ret a w k h
theorem Kpost_out (a : Act) (w : World) : ∀ k : List KI, Kpost e [] .outgrown a w → Kpost e k .outgrown a w
  | [], h => h
  | .code _ :: k, h => Kpost_out a w k h
  | .ops _ _ :: k, h => Kpost_out a w k h
  | .inv _ :: k, h => Kpost_out a w k h
  | .blk _ :: k, h => Kpost_out a w k h
/-- The return: the results as the frame tells. -/
theorem Go.ret (h : ∀ ι S a w, Sim e fr σ ι S a w → ∃ v, (results e.fn a.tmps).run e.P w = .ok v w ∧ e.R (.returned v) w) : Go e (.code .ret :: k) fr σ :=
  fun ι S x w H => wp_ret (Kpost_ret x w k ⟨H.defers, h ι S x w H⟩)
theorem Go.fin (h : ∀ ι S a w, Sim e fr σ ι S a w → ∃ v, (results e.fn a.tmps).run e.P w = .ok v w ∧ e.R (.returned v) w) : Go e [] fr σ :=
  fun ι S x w H => ⟨H.defers, h ι S x w H⟩
/-- A loop: a family of states, a number that falls. -/
theorem wp_loop_x {P : Program} {Q : Exit → Act → World → Prop} {c : Code} {X : Type} (I : X → Act → World → Prop) (μ : X → Nat)
    (round : ∀ x a w, I x a w → c.wp P (Exit.then (fun a' w' => ∃ x', I x' a' w' ∧ μ x' < μ x) Q) a w) : ∀ x a w, I x a w → (Code.loop c).wp P Q a w := by
  intro x a w hI b k cs
  have key : ∀ n x a w, μ x = n → I x a w → ∃ e a' w', Q e a' w' ∧ Arrives P (lone (b.at a (.code c :: .inLoop c :: k)) cs w) b k cs e a' w' := by
    intro n
    induction n using Nat.strongRecOn with
    | _ n ih =>
      intro x a w hn hI
      obtain ⟨e, a₁, w₁, hq, harr⟩ := round x a w hI b (.inLoop c :: k) cs
      cases e with
      | normal =>
        obtain ⟨x', hI₁, hlt⟩ := hq
        obtain ⟨e₂, a₂, w₂, hq₂, harr₂⟩ := ih (μ x') (hn ▸ hlt) x' a₁ w₁ rfl hI₁
        exact ⟨e₂, a₂, w₂, hq₂, .of_steps (Steps.trans harr (.one step_inLoop)) harr₂⟩
      | exit id => exact ⟨_, a₁, w₁, hq, .pass (x := .inLoop c) rfl (fun _ _ => .inl (by simp)) harr⟩
      | goto l => exact ⟨_, a₁, w₁, hq, .pass (x := .inLoop c) rfl (fun _ _ => .inl (by simp)) harr⟩
      | ret => exact ⟨_, a₁, w₁, hq, .pass (x := .inLoop c) rfl (fun _ _ => .inl (by simp)) harr⟩
      | panic ch => exact ⟨_, a₁, w₁, hq, .pass (x := .inLoop c) rfl (fun _ _ => .inl (by simp)) harr⟩
      | outgrown => exact ⟨_, a₁, w₁, hq, .pass (x := .inLoop c) rfl (fun _ _ => .inl (by simp)) harr⟩
  obtain ⟨e, a', w', hq, harr⟩ := key _ x a w rfl hI
  exact ⟨e, a', w', hq, .of_steps (.one step_loop) harr⟩
def Again (e : Env) {X : Type} (pre : X → Prop) (μ : X → Nat) (F : X → Fr) (T : X → Sto) (m : Nat) (a : Act) (w : World) : Prop :=
  ∃ x, (pre x ∧ ∃ ι S, Sim e (F x) (T x) ι S a w) ∧ μ x < m
theorem Go.loop {c : Code} {X : Type} (pre : X → Prop) (μ : X → Nat) (F : X → Fr) (T : X → Sto) (x : X) (h0 : pre x)
    (round : ∀ x, pre x → Go e (.code c :: .inv (Again e pre μ F T (μ x)) :: k) (F x) (T x)) : Go e (.code (.loop c) :: k) (F x) (T x) := by
  intro ι S a w H
  refine wp_loop_x (fun x a w => pre x ∧ ∃ ι S, Sim e (F x) (T x) ι S a w) μ ?_ x a w ⟨h0, ι, S, H⟩
  rintro x a w ⟨hp, ι, S, H⟩
  have := round x hp ι S a w H
  rw [show (fun a' w' => ∃ x', (pre x' ∧ ∃ ι S, Sim e (F x') (T x') ι S a' w') ∧ μ x' < μ x) = Again e pre μ F T (μ x) from rfl, then_inv]
  exact this
end
end

/-! ### Steps of the store -/
structure Step (σ : Sto) (ι : Nat → Option Nat) (S : Nat → Prop) (w : World) (σ' : Sto) (ι' : Nat → Option Nat) (S' : Nat → Prop) (w' : World) : Prop where
  sr : SR ι' S' σ' w'
  ext : Ext σ ι S w σ' ι' S' w'
  nam : ∀ n g, ι n = some g → ι' n = some g
section
variable {ι ι' : Nat → Option Nat} {S S' : Nat → Prop} {w w' : World} {σ σ' : Sto}
theorem Step.mov (H : SR ι S σ w) (s : Step σ ι S w σ' ι' S' w') : Mov ι ι' S S' w w' := s.ext.mov H s.nam
theorem Step.refl (H : SR ι S σ w) : Step σ ι S w σ ι S w := ⟨H, Ext.refl, fun _ _ h => h⟩
theorem Step.trans {σ'' : Sto} {ι'' : Nat → Option Nat} {S'' : Nat → Prop} {w'' : World} (a : Step σ ι S w σ' ι' S' w') (b : Step σ' ι' S' w' σ'' ι'' S'' w'') : Step σ ι S w σ'' ι'' S'' w'' :=
  ⟨b.sr, a.ext.trans b.ext, fun n g h => b.nam n g (a.nam n g h)⟩
theorem SR.lt (H : SR ι S σ w) {k : Nat} (h : Ow ι σ k) : k < w.heap.size := by
  obtain ⟨n, b, h1, h2⟩ := h
  rcases H.blk n b h1 with ⟨h3, _⟩ | ⟨g, c, h3, h4, _⟩
  · rw [h2] at h3
    cases h3
  rw [h2] at h3
  obtain rfl := Option.some.inj h3
  rcases Nat.lt_or_ge k w.heap.size with h | h
  · exact h
  · rw [Array.getElem?_eq_none h] at h4
    cases h4
/-- A draw. -/
theorem Step.drew (H : SR ι S σ w) (d : Nat) : Step σ ι S w σ ι S { w with drawn := d } := by
  have M : Mov ι ι S S w { w with drawn := d } := ⟨fun _ _ h => h, fun _ h => h, fun _ _ => rfl, fun _ c ty fz h => ⟨c, h, rfl⟩⟩
  refine ⟨⟨fun n b h => ?_, H.inj, H.own, H.imm, H.top⟩, ⟨rfl, rfl, rfl, Nat.le_refl _, fun _ _ _ => rfl, fun _ c ty fz h => ⟨c, h, rfl⟩, fun _ h => h, fun _ h => .inr h, fun _ h => .inl h, Nat.le_refl _, fun _ _ => ⟨fun h => h, fun b h => .inr ⟨rfl, b, h⟩⟩⟩, fun _ _ h => h⟩
  rcases H.blk n b h with h1 | ⟨g, c, h1, h2, h3⟩
  · exact .inl h1
  · exact .inr ⟨g, c, h1, h2, VRl.mov M _ _ h3⟩
/-- A block that comes up: under a name that was free. -/
theorem Step.make (H : SR ι S σ w) {nm : Nat} (hnm : σ[nm]? = none ∨ σ[nm]? = some .fresh) {b : Blk} {c : Array Value} (hw : w'.heap = w.heap.push (.cells c b.ty (0, 0)))
    (ho : w'.os = w.os) (ht : w'.tape = w.tape) (hp : w'.output = w.output) (hc : VRl ι S w b.cells c.toList)
    (h1 : σ'[nm]? = some (.live b)) (h2 : ∀ n, n ≠ nm → σ'[n]? = σ[n]?) (h3 : σ.length ≤ σ'.length) :
    Step σ ι S w σ' (fun n => if n = nm then some w.heap.size else ι n) S w' := by
  have hfree := H.top nm hnm
  have hold : ∀ (k : Nat) o, w.heap[k]? = some o → w'.heap[k]? = some o := fun k o h => by
    rw [hw, Array.getElem?_push]
    have : k < w.heap.size := (Array.getElem?_eq_some_iff.1 h).1
    rw [if_neg (by omega)]
    exact h
  have hold2 : ∀ k, k < w.heap.size → w'.heap[k]? = w.heap[k]? := fun k h => by
    rw [hw, Array.getElem?_push, if_neg (by omega)]
  have hnew : w'.heap[w.heap.size]? = some (.cells c b.ty (0, 0)) := by rw [hw, Array.getElem?_push, if_pos rfl]
  have hnam : ∀ n g, ι n = some g → (if n = nm then some w.heap.size else ι n) = some g := fun n g h => by
    rw [if_neg (fun e => by rw [e, hfree] at h; cases h)]
    exact h
  have M : Mov ι (fun n => if n = nm then some w.heap.size else ι n) S S w w' := ⟨hnam, fun _ h => h, fun k h => hold2 k (H.imm k h), fun k c ty fz h => ⟨c, hold k _ h, rfl⟩⟩
  have hlt : ∀ n x g, σ[n]? = some (.live x) → ι n = some g → g < w.heap.size := fun n x g h1 h2 => H.lt ⟨n, x, h1, h2⟩
  refine ⟨⟨?_, ?_, ?_, ?_, ?_⟩, ⟨ho, ht, hp, by rw [hw]; simp, fun k hk _ => hold2 k hk, fun k c ty fz h => ⟨c, hold k _ h, rfl⟩, fun _ h => h, ?_, fun _ h => .inl h, h3, ?_⟩, hnam⟩
  · intro n x h
    by_cases e : n = nm
    · subst e
      rw [h1] at h
      injection h with h
      injection h with h
      subst h
      exact .inr ⟨_, c, if_pos rfl, hnew, VRl.mov M _ _ hc⟩
    · rw [h2 n e] at h
      rcases H.blk n x h with ⟨e1, e2⟩ | ⟨g, d, e1, e2, e3⟩
      · exact .inl ⟨(if_neg e).trans e1, e2⟩
      · exact .inr ⟨g, d, hnam n g e1, hold g _ e2, VRl.mov M _ _ e3⟩
  · intro n m x y g hx hy hn hm
    by_cases e : n = nm <;> by_cases e' : m = nm
    · rw [e, e']
    · rw [if_pos e] at hn
      rw [if_neg e'] at hm
      rw [h2 m e'] at hy
      have := hlt m y g hy hm
      injection hn with hn
      omega
    · rw [if_neg e] at hn
      rw [if_pos e'] at hm
      rw [h2 n e] at hx
      have := hlt n x g hx hn
      injection hm with hm
      omega
    · rw [if_neg e] at hn
      rw [if_neg e'] at hm
      rw [h2 n e] at hx
      rw [h2 m e'] at hy
      exact H.inj n m x y g hx hy hn hm
  · intro n x g hx hn hs
    by_cases e : n = nm
    · rw [if_pos e] at hn
      injection hn with hn
      have := H.imm g hs
      omega
    · rw [if_neg e] at hn
      rw [h2 n e] at hx
      exact H.own n x g hx hn hs
  · intro k hs
    have := H.imm k hs
    rw [hw]
    simp
    omega
  · intro n hn
    by_cases e : n = nm
    · subst e
      rw [h1] at hn
      rcases hn with hn | hn <;> cases hn
    · rw [h2 n e] at hn
      show (if n = nm then some w.heap.size else ι n) = none
      rw [if_neg e]
      exact H.top n hn
  · rintro k ⟨n, x, hx, hn⟩
    have hn' : (if n = nm then some w.heap.size else ι n) = some k := hn
    by_cases e : n = nm
    · rw [if_pos e] at hn'
      injection hn' with hn'
      exact .inl (by omega)
    · rw [if_neg e] at hn'
      rw [h2 n e] at hx
      exact .inr ⟨n, x, hx, hn'⟩
  · intro n hn
    by_cases e : n = nm
    · subst e
      rcases hnm with h | h
      · have := List.getElem?_eq_none_iff.1 h
        omega
      · exact ⟨fun _ => h, fun _ _ => .inl h⟩
    · rw [h2 n e]
      exact ⟨fun h => h, fun x hx => .inr ⟨if_neg e, x, hx⟩⟩
/-- A living block is written: its cells, no more. -/
theorem Step.put (H : SR ι S σ w) {nm g : Nat} {b b' : Blk} {c c' : Array Value} (hb : σ[nm]? = some (.live b)) (hg : ι nm = some g) (hc0 : w.heap[g]? = some (.cells c b.ty (0, 0)))
    (hsz : c'.size = c.size) (hty : b'.ty = b.ty) (hw : ∀ k, w'.heap[k]? = if k = g then some (.cells c' b.ty (0, 0)) else w.heap[k]?) (hhs : w'.heap.size = w.heap.size)
    (ho : w'.os = w.os) (ht : w'.tape = w.tape) (hp : w'.output = w.output) (hc : VRl ι S w b'.cells c'.toList) :
    Step σ ι S w (σ.set nm (.live b')) ι S w' := by
  have hnl : nm < σ.length := (List.getElem?_eq_some_iff.1 hb).1
  have hs : ¬ S g := H.own nm b g hb hg
  have hk : ∀ k, k ≠ g → w'.heap[k]? = w.heap[k]? := fun k h => by rw [hw, if_neg h]
  have hz : ∀ (k : Nat) (d : Array Value) (ty : TypeId) (fz : Nat × Nat), w.heap[k]? = some (.cells d ty fz) → ∃ d', w'.heap[k]? = some (Obj.cells d' ty fz) ∧ d'.size = d.size := fun k d ty fz h => by
    by_cases e : k = g
    · subst e
      rw [hc0] at h
      injection h with h
      injection h with h1 h2 h3
      subst h1 h2 h3
      exact ⟨c', by rw [hw, if_pos rfl], hsz⟩
    · exact ⟨d, (hk k e).trans h, rfl⟩
  have M : Mov ι ι S S w w' := ⟨fun _ _ h => h, fun _ h => h, fun k h => hk k (fun e => hs (e ▸ h)), hz⟩
  have set1 : (σ.set nm (En.live b'))[nm]? = some (En.live b') := by simp [hnl]
  have set2 : ∀ n, n ≠ nm → (σ.set nm (En.live b'))[n]? = σ[n]? := fun n h => List.getElem?_set_ne (Ne.symm h)
  have lv : ∀ n x, (σ.set nm (En.live b'))[n]? = some (En.live x) → ∃ y, σ[n]? = some (En.live y) := fun n x h => by
    by_cases e : n = nm
    · exact ⟨b, e ▸ hb⟩
    · exact ⟨x, (set2 n e) ▸ h⟩
  refine ⟨⟨?_, ?_, ?_, ?_, ?_⟩, ⟨ho, ht, hp, Nat.le_of_eq hhs.symm, ?_, hz, fun _ h => h, ?_, fun _ h => .inl h, by simp, ?_⟩, fun _ _ h => h⟩
  · intro n x h
    by_cases e : n = nm
    · subst e
      rw [set1] at h
      injection h with h
      injection h with h
      subst h
      exact .inr ⟨g, c', hg, by rw [hw, if_pos rfl, hty], VRl.mov M _ _ hc⟩
    · rw [set2 n e] at h
      rcases H.blk n x h with h1 | ⟨g', d, e1, e2, e3⟩
      · exact .inl h1
      refine .inr ⟨g', d, e1, ?_, VRl.mov M _ _ e3⟩
      rw [hk g' (fun h' => e (H.inj n nm x b g h hb (h' ▸ e1) hg))]
      exact e2
  · intro n m x y k hx hy hn hm
    obtain ⟨x', hx'⟩ := lv n x hx
    obtain ⟨y', hy'⟩ := lv m y hy
    exact H.inj n m x' y' k hx' hy' hn hm
  · intro n x k hx hn
    obtain ⟨x', hx'⟩ := lv n x hx
    exact H.own n x' k hx' hn
  · intro k h
    rw [hhs]
    exact H.imm k h
  · intro n hn
    by_cases e : n = nm
    · subst e
      rw [set1] at hn
      rcases hn with hn | hn <;> cases hn
    · rw [set2 n e] at hn
      exact H.top n hn
  · intro k _ ho
    exact hk k (fun e => ho ⟨nm, b, hb, e ▸ hg⟩)
  · rintro k ⟨n, x, hx, hn⟩
    obtain ⟨x', hx'⟩ := lv n x hx
    exact .inr ⟨n, x', hx', hn⟩
  · intro n _
    refine ⟨fun h => ?_, fun x hx => .inr ⟨rfl, lv n x hx⟩⟩
    by_cases e : n = nm
    · subst e
      rw [set1] at h
      cases h
    · rw [set2 n e] at h
      exact h
end

/-! ### What nobody writes any more -/
mutual
def AV.frz (nm : Nat) (cs : List AV) : AV → AV
  | .v x => .v x
  | .p n o => bif n == nm then .tp cs o else .p n o
  | .tp ds o => .tp (AV.frzL nm cs ds) o
  | .sl n o l e => bif n == nm then .ts l ((cs.drop o).take (l * e)) else .sl n o l e
  | .ts l ds => .ts l (AV.frzL nm cs ds)
  | .agg ds => .agg (AV.frzL nm cs ds)
  | .tup ds => .tup (AV.frzL nm cs ds)
  | .fn f a b => .fn f (AV.frzL nm cs a) (AV.frzL nm cs b)
def AV.frzL (nm : Nat) (cs : List AV) : List AV → List AV
  | [] => []
  | x :: xs => AV.frz nm cs x :: AV.frzL nm cs xs
end
def Frz (ι : Nat → Option Nat) (S : Nat → Prop) (w : World) (nm : Nat) (cs : List AV) : Prop :=
  (ι nm = none ∧ cs = []) ∨ ∃ g c ty fz, ι nm = some g ∧ S g ∧ w.heap[g]? = some (Obj.cells c ty fz) ∧ VRl ι S w cs c.toList
section
variable {ι : Nat → Option Nat} {S : Nat → Prop} {w : World} {nm : Nat} {cs : List AV}
mutual
theorem VR.frz (hF : Frz ι S w nm cs) : ∀ (x : AV) (u : Value), VR ι S w x u → VR ι S w (x.frz nm cs) u
  | .v x, u, h => by simpa only [AV.frz] using h
  | .p m o, u, h => by
    simp only [AV.frz]
    cases hb : (m == nm)
    · exact h
    · have e : m = nm := by simpa using hb
      subst e
      simp only [VR, cond_true] at h ⊢
      obtain ⟨g', h1, h2⟩ := h
      rcases hF with ⟨h3, _⟩ | ⟨g, c, ty, fz, h3, hs, hw, hc⟩
      · rw [h3] at h1; cases h1
      · rw [h3] at h1
        injection h1 with h1
        subst h1
        exact ⟨g, 0, c, ty, fz, by simpa using h2, hs, hw, by simpa using hc⟩
  | .tp ds k, u, h => by
    simp only [AV.frz, VR] at h ⊢
    obtain ⟨g', o, d, ty', fz', e, h1, h2, h3⟩ := h
    exact ⟨g', o, d, ty', fz', e, h1, h2, VRl.frz hF ds _ h3⟩
  | .sl m o l e, u, h => by
    simp only [AV.frz]
    cases hb : (m == nm)
    · exact h
    · have e : m = nm := by simpa using hb
      subst e
      simp only [VR, cond_true] at h ⊢
      obtain ⟨A, cap, h2, h3, h6⟩ := h
      refine ⟨A, cap, h2, h3, ?_⟩
      rcases h6 with h6 | ⟨g', d, ty', rfl, h1, _, _⟩
      · subst h6
        have : l = 0 := by omega
        subst this
        exact .inl (by simp)
      · rcases hF with ⟨h4, _⟩ | ⟨g, c, ty, fz, h4, hs, hw, hc⟩
        · rw [h4] at h1; cases h1
        · rw [h4] at h1
          injection h1 with h1
          subst h1
          exact .inr ⟨g, o, c, ty, fz, rfl, hs, hw, VRl.take _ (VRl.drop o hc)⟩
  | .ts n ds, u, h => by
    simp only [AV.frz, VR] at h ⊢
    obtain ⟨A, cap, e1, e2, h⟩ := h
    refine ⟨A, cap, e1, e2, ?_⟩
    rcases h with h | ⟨g', o, d, ty', fz', e, h1, h2, h3⟩
    · subst h
      exact .inl (by simp only [AV.frzL])
    · exact .inr ⟨g', o, d, ty', fz', e, h1, h2, VRl.frz hF ds _ h3⟩
  | .agg ds, u, h => by
    simp only [AV.frz, VR] at h ⊢
    obtain ⟨d, e, h⟩ := h
    exact ⟨d, e, VRe.frz hF ds _ h⟩
  | .tup ds, u, h => by
    simp only [AV.frz, VR] at h ⊢
    obtain ⟨d, e, h⟩ := h
    exact ⟨d, e, VRe.frz hF ds _ h⟩
  | .fn f a b, u, h => by
    simp only [AV.frz, VR] at h ⊢
    obtain ⟨x, y, e, h1, h2⟩ := h
    exact ⟨x, y, e, VRe.frz hF a _ h1, VRe.frz hF b _ h2⟩
theorem VRl.frz (hF : Frz ι S w nm cs) : ∀ (xs : List AV) (us : List Value), VRl ι S w xs us → VRl ι S w (AV.frzL nm cs xs) us
  | [], us, h => by simp only [AV.frzL, VRl]
  | x :: xs, us, h => by
    simp only [AV.frzL, VRl] at h ⊢
    obtain ⟨v, r, e, h1, h2⟩ := h
    exact ⟨v, r, e, VR.frz hF x v h1, VRl.frz hF xs r h2⟩
theorem VRe.frz (hF : Frz ι S w nm cs) : ∀ (xs : List AV) (us : List Value), VRe ι S w xs us → VRe ι S w (AV.frzL nm cs xs) us
  | [], us, h => by simpa only [AV.frzL] using h
  | x :: xs, us, h => by
    simp only [AV.frzL, VRe] at h ⊢
    obtain ⟨v, r, e, h1, h2⟩ := h
    exact ⟨v, r, e, VR.frz hF x v h1, VRe.frz hF xs r h2⟩
end
end
def frzF (nm : Nat) (cs : List AV) : Fr → Fr
  | [] => []
  | (d, x) :: r => (d, x.frz nm cs) :: frzF nm cs r
def frzS (nm : Nat) (cs : List AV) : Nat → Sto → Sto
  | _, [] => []
  | i, .live b :: r => (bif i == nm then .dead else .live ⟨b.ty, AV.frzL nm cs b.cells⟩) :: frzS nm cs (i + 1) r
  | i, .dead :: r => .dead :: frzS nm cs (i + 1) r
  | i, .fresh :: r => .fresh :: frzS nm cs (i + 1) r
theorem mem_frzF {nm : Nat} {cs : List AV} {d : Nat} {y : AV} : ∀ {fr : Fr}, (d, y) ∈ frzF nm cs fr → ∃ x, (d, x) ∈ fr ∧ y = x.frz nm cs
  | [], h => by simp [frzF] at h
  | (d', x) :: r, h => by
    simp only [frzF, List.mem_cons] at h
    rcases h with h | h
    · injection h with h1 h2
      subst h1 h2
      exact ⟨x, by simp, rfl⟩
    · obtain ⟨z, h1, h2⟩ := mem_frzF h
      exact ⟨z, List.mem_cons_of_mem _ h1, h2⟩
theorem frzS_len {nm : Nat} {cs : List AV} : ∀ (i : Nat) (σ : Sto), (frzS nm cs i σ).length = σ.length
  | _, [] => rfl
  | i, .live b :: r => by simp [frzS, frzS_len (i + 1) r]
  | i, .dead :: r => by simp [frzS, frzS_len (i + 1) r]
  | i, .fresh :: r => by simp [frzS, frzS_len (i + 1) r]
theorem frzS_get {nm : Nat} {cs : List AV} : ∀ (i : Nat) (σ : Sto) (n : Nat), (frzS nm cs i σ)[n]? = (σ[n]?).map fun x => match x with
    | .live b => if i + n = nm then .dead else .live ⟨b.ty, AV.frzL nm cs b.cells⟩
    | .dead => .dead
    | .fresh => .fresh
  | _, [], n => by simp [frzS]
  | i, x :: r, 0 => by
    cases x <;> simp [frzS]
  | i, x :: r, n + 1 => by
    have ih := frzS_get (nm := nm) (cs := cs) (i + 1) r n
    have e : i + 1 + n = i + (n + 1) := by omega
    rw [e] at ih
    cases x <;> simpa [frzS] using ih
/-- A living block is laid aside for good: nobody writes it from here on. -/
theorem Step.freeze {ι : Nat → Option Nat} {S : Nat → Prop} {w : World} {σ : Sto} (H : SR ι S σ w) {nm : Nat} {b : Blk} (hb : σ[nm]? = some (.live b)) :
    Frz ι (fun k => S k ∨ ι nm = some k) w nm b.cells ∧ Step σ ι S w (frzS nm b.cells 0 σ) ι (fun k => S k ∨ ι nm = some k) w := by
  have M : Mov ι ι S (fun k => S k ∨ ι nm = some k) w w := ⟨fun _ _ h => h, fun _ h => .inl h, fun _ _ => rfl, fun _ c ty fz h => ⟨c, h, rfl⟩⟩
  have hF : Frz ι (fun k => S k ∨ ι nm = some k) w nm b.cells := by
    rcases H.blk nm b hb with h | ⟨g, c, hg, hw, hc⟩
    · exact .inl h
    · exact .inr ⟨g, c, _, _, hg, .inr hg, hw, VRl.mov M _ _ hc⟩
  have lv : ∀ n x, (frzS nm b.cells 0 σ)[n]? = some (En.live x) → ∃ y, σ[n]? = some (En.live y) ∧ n ≠ nm ∧ x = ⟨y.ty, AV.frzL nm b.cells y.cells⟩ := fun n x h => by
    rw [frzS_get] at h
    cases hn : σ[n]? with
    | none => rw [hn] at h; cases h
    | some z =>
      rw [hn] at h
      cases z with
      | live y =>
        simp only [Option.map_some, Nat.zero_add] at h
        by_cases e : n = nm
        · rw [if_pos e] at h; cases h
        · rw [if_neg e] at h
          injection h with h
          injection h with h
          exact ⟨y, rfl, e, h.symm⟩
      | dead => cases h
      | fresh => cases h
  refine ⟨hF, ⟨⟨?_, ?_, ?_, ?_, ?_⟩, ⟨rfl, rfl, rfl, Nat.le_refl _, fun _ _ _ => rfl, fun _ c ty fz h => ⟨c, h, rfl⟩, fun _ h => .inl h, ?_, ?_, Nat.le_of_eq (frzS_len _ _).symm, ?_⟩, fun _ _ h => h⟩⟩
  · intro n x h
    obtain ⟨y, h1, h2, rfl⟩ := lv n x h
    rcases H.blk n y h1 with ⟨e1, e2⟩ | ⟨g', d, e1, e2, e3⟩
    · refine .inl ⟨e1, ?_⟩
      show AV.frzL nm b.cells y.cells = []
      rw [e2]
      simp only [AV.frzL]
    · exact .inr ⟨g', d, e1, e2, VRl.frz hF _ _ (VRl.mov M _ _ e3)⟩
  · intro n m x y k hx hy hn hm
    obtain ⟨x', hx', _⟩ := lv n x hx
    obtain ⟨y', hy', _⟩ := lv m y hy
    exact H.inj n m x' y' k hx' hy' hn hm
  · rintro n x k hx hn (hk | hk)
    · obtain ⟨x', hx', _⟩ := lv n x hx
      exact H.own n x' k hx' hn hk
    · obtain ⟨x', hx', h2, _⟩ := lv n x hx
      exact h2 (H.inj n nm x' b _ hx' hb hn hk)
  · rintro k (hk | hk)
    · exact H.imm k hk
    · exact H.lt ⟨nm, b, hb, hk⟩
  · intro n hn
    apply H.top
    rw [frzS_get] at hn
    cases h : σ[n]? with
    | none => exact .inl rfl
    | some z =>
      rw [h] at hn
      cases z with
      | live y =>
        simp only [Option.map_some, Nat.zero_add] at hn
        split at hn <;> rcases hn with hn | hn <;> cases hn
      | dead => rcases hn with hn | hn <;> cases hn
      | fresh => exact .inr rfl
  · rintro k ⟨n, x, hx, hn⟩
    obtain ⟨x', hx', _⟩ := lv n x hx
    exact .inr ⟨n, x', hx', hn⟩
  · rintro k (hk | hk)
    · exact .inl hk
    · exact .inr (.inr ⟨nm, b, hb, hk⟩)
  · intro n _
    refine ⟨fun h => ?_, fun x hx => ?_⟩
    · rw [frzS_get] at h
      cases hn : σ[n]? with
      | none => rw [hn] at h; cases h
      | some z =>
        rw [hn] at h
        cases z with
        | live y =>
          simp only [Option.map_some, Nat.zero_add] at h
          split at h <;> cases h
        | dead => cases h
        | fresh => rfl
    · obtain ⟨x', hx', _⟩ := lv n x hx
      exact .inr ⟨rfl, x', hx'⟩

/-! ### Other names for the same blocks -/
theorem SR.ren {ι : Nat → Option Nat} {S : Nat → Prop} {w : World} {σ σ' : Sto} (H : SR ι S σ w) (ρ : Nat → Nat)
    (h1 : ∀ n b, σ'[n]? = some (.live b) → σ[ρ n]? = some (.live (b.ren ρ)))
    (h2 : ∀ n m b b', σ'[n]? = some (.live b) → σ'[m]? = some (.live b') → ρ n = ρ m → n = m)
    (h3 : ∀ n, σ'[n]? = none ∨ σ'[n]? = some .fresh → σ[ρ n]? = none ∨ σ[ρ n]? = some .fresh) : SR (fun n => ι (ρ n)) S σ' w where
  blk := fun n b h => by
    rcases H.blk (ρ n) _ (h1 n b h) with ⟨e1, e2⟩ | ⟨g, c, e1, e2, e3⟩
    · refine .inl ⟨e1, ?_⟩
      have e2' : AV.renL ρ b.cells = [] := e2
      cases hb : b.cells with
      | nil => rfl
      | cons x xs => rw [hb] at e2'; simp [AV.renL] at e2'
    · exact .inr ⟨g, c, e1, e2, (VRl.ren ρ b.cells c.toList).1 e3⟩
  inj := fun n m b b' g hn hm e1 e2 => h2 n m b b' hn hm (H.inj _ _ _ _ g (h1 n b hn) (h1 m b' hm) e1 e2)
  own := fun n b g hn e => H.own _ _ g (h1 n b hn) e
  imm := H.imm
  top := fun n h => H.top _ (h3 n h)

/-! ### Frames -/
def get : Fr → Nat → Option AV
  | [], _ => none
  | (k, x) :: r, d => bif k == d then some x else get r d
def put (d : Nat) (x : AV) : Fr → Fr
  | [] => [(d, x)]
  | (k, y) :: r => bif k == d then (d, x) :: r else (k, y) :: put d x r
def del (d : Nat) : Fr → Fr
  | [] => []
  | (k, y) :: r => bif k == d then del d r else (k, y) :: del d r
theorem get_mem : ∀ {fr : Fr} {d : Nat} {x : AV}, get fr d = some x → (d, x) ∈ fr
  | [], d, x, h => by simp [get] at h
  | (k, y) :: r, d, x, h => by
    unfold get at h
    cases hb : (k == d)
    · rw [hb, cond_false] at h
      exact List.mem_cons_of_mem _ (get_mem h)
    · have e : k = d := by simpa using hb
      rw [hb, cond_true] at h
      injection h with h
      subst h e
      simp
theorem mem_del : ∀ {fr : Fr} {d k : Nat} {x : AV}, (k, x) ∈ del d fr → (k, x) ∈ fr ∧ k ≠ d
  | [], d, k, x, h => by simp [del] at h
  | (k', y) :: r, d, k, x, h => by
    unfold del at h
    cases hb : (k' == d)
    · rw [hb, cond_false] at h
      have e : k' ≠ d := by simpa using hb
      rcases List.mem_cons.1 h with h | h
      · injection h with h1 h2
        subst h1 h2
        exact ⟨by simp, e⟩
      · exact ⟨List.mem_cons_of_mem _ (mem_del h).1, (mem_del h).2⟩
    · rw [hb, cond_true] at h
      exact ⟨List.mem_cons_of_mem _ (mem_del h).1, (mem_del h).2⟩
theorem mem_put : ∀ {fr : Fr} {d k : Nat} {x y : AV}, once fr → (k, y) ∈ put d x fr → k = d ∧ y = x ∨ k ≠ d ∧ (k, y) ∈ fr
  | [], d, k, x, y, _, h => by
    simp only [put, List.mem_cons, List.not_mem_nil, or_false] at h
    injection h with h1 h2
    exact .inl ⟨h1, h2⟩
  | (k', z) :: r, d, k, x, y, ho, h => by
    unfold put at h
    cases hb : (k' == d)
    · rw [hb, cond_false] at h
      have e : k' ≠ d := by simpa using hb
      rcases List.mem_cons.1 h with h | h
      · injection h with h1 h2
        subst h1 h2
        exact .inr ⟨e, by simp⟩
      · rcases mem_put ho.2 h with h | ⟨h1, h2⟩
        · exact .inl h
        · exact .inr ⟨h1, List.mem_cons_of_mem _ h2⟩
    · rw [hb, cond_true] at h
      have e : k' = d := by simpa using hb
      subst e
      rcases List.mem_cons.1 h with h3 | h3
      · injection h3 with h1 h2
        exact .inl ⟨h1, h2⟩
      · refine .inr ⟨fun e => ?_, List.mem_cons_of_mem _ h3⟩
        subst e
        exact ho.1 y h3
theorem put_once : ∀ {fr : Fr} {d : Nat} {x : AV}, once fr → once (put d x fr)
  | [], d, x, _ => ⟨fun y h => (by simp at h), trivial⟩
  | (k, z) :: r, d, x, ho => by
    unfold put
    cases hb : (k == d)
    · rw [cond_false]
      have e : k ≠ d := by simpa using hb
      refine ⟨fun y h => ?_, put_once ho.2⟩
      rcases mem_put ho.2 h with ⟨h, _⟩ | ⟨_, h⟩
      · exact e h
      · exact ho.1 y h
    · rw [cond_true]
      have e : k = d := by simpa using hb
      subst e
      exact ⟨ho.1, ho.2⟩
theorem del_once : ∀ {fr : Fr} {d : Nat}, once fr → once (del d fr)
  | [], d, _ => trivial
  | (k, z) :: r, d, ho => by
    unfold del
    cases hb : (k == d)
    · rw [cond_false]
      exact ⟨fun y h => ho.1 y (mem_del h).1, del_once ho.2⟩
    · rw [cond_true]
      exact del_once ho.2
theorem frzF_once {nm : Nat} {cs : List AV} : ∀ {fr : Fr}, once fr → once (frzF nm cs fr)
  | [], _ => trivial
  | (k, z) :: r, ho => ⟨fun y h => by
      obtain ⟨x, h1, _⟩ := mem_frzF h
      exact ho.1 x h1, frzF_once ho.2⟩
section
variable {e : Env} {fr : Fr} {σ σ' : Sto} {ι ι' : Nat → Option Nat} {S S' : Nat → Prop} {a : Act} {w w' : World}
theorem Sim.step (H : Sim e fr σ ι S a w) (s : Step σ ι S w σ' ι' S' w') : Sim e fr σ' ι' S' a w' :=
  ⟨H.defers, H.size, H.one, fun d x h => by
    obtain ⟨u, h1, h2⟩ := H.frm d x h
    exact ⟨u, h1, VR.mov (s.mov H.sr) x u h2⟩, s.sr, H.ext.trans s.ext⟩
theorem Sim.put (H : Sim e fr σ ι S a w) {d : Nat} {x : AV} {u : Value} (hd : d < e.nt) (hx : VR ι S w x u) : Sim e (put d x fr) σ ι S (a.put (some d) u) w := by
  refine ⟨H.defers, by simpa [Act.put] using H.size, put_once H.one, fun k y h => ?_, H.sr, H.ext⟩
  have hs := H.size
  rcases mem_put H.one h with ⟨rfl, rfl⟩ | ⟨h1, h2⟩
  · exact ⟨u, by simp [Act.put, hs, hd], hx⟩
  · obtain ⟨v, h3, h4⟩ := H.frm k y h2
    exact ⟨v, by simp [Act.put, Array.getElem?_setIfInBounds_ne (Ne.symm h1), h3], h4⟩
theorem Sim.del (H : Sim e fr σ ι S a w) (d : Nat) (u : Value) : Sim e (del d fr) σ ι S (a.put (some d) u) w := by
  refine ⟨H.defers, by simpa [Act.put] using H.size, del_once H.one, fun k y h => ?_, H.sr, H.ext⟩
  obtain ⟨h1, h2⟩ := mem_del h
  obtain ⟨v, h3, h4⟩ := H.frm k y h1
  exact ⟨v, by simp [Act.put, Array.getElem?_setIfInBounds_ne (Ne.symm h2), h3], h4⟩
theorem Sim.get (H : Sim e fr σ ι S a w) {d : Nat} {x : AV} (h : get fr d = some x) : ∃ u, a.tmps[d]? = some u ∧ VR ι S w x u := H.frm d x (get_mem h)
/-- An operand. -/
def ev (fr : Fr) : Operand → Option AV
  | .tmp t => Ab.get fr t
  | .const c => some (.v c)
  | .func f => some (.fn (.func f) [] [])
  | .global _ => none
theorem Sim.ev (H : Sim e fr σ ι S a w) {o : Operand} {x : AV} (h : ev fr o = some x) : VR ι S w x (a.eval o) := by
  cases o with
  | tmp t =>
    obtain ⟨u, h1, h2⟩ := H.get h
    simpa [Act.eval, h1] using h2
  | const c =>
    simp only [Ab.ev, Option.some.injEq] at h
    subst h
    simp [VR, Act.eval]
  | func f =>
    simp only [Ab.ev, Option.some.injEq] at h
    subst h
    simp [VR, Act.eval, VRe]
  | global g => simp [Ab.ev] at h
end
section
variable {e : Env} {k : List KI} {fr : Fr} {σ : Sto}
theorem Go.freeze {nm : Nat} {b : Blk} (hb : σ[nm]? = some (.live b)) (h : Go e k (frzF nm b.cells fr) (frzS nm b.cells 0 σ)) : Go e k fr σ := by
  intro ι S a w H
  obtain ⟨hF, s⟩ := Step.freeze H.sr hb
  have H' := H.step s
  refine h _ _ a w ⟨H'.defers, H'.size, frzF_once H'.one, fun d y hy => ?_, H'.sr, H'.ext⟩
  obtain ⟨x, h1, rfl⟩ := mem_frzF hy
  obtain ⟨u, h2, h3⟩ := H'.frm d x h1
  exact ⟨u, h2, VR.frz hF _ _ h3⟩
/-- Names as a list tells them; behind it: names that are free. -/
def rho : List Nat → Nat → Nat → Nat
  | [], base, n => base + n
  | m :: _, _, 0 => m
  | _ :: r, base, n + 1 => rho r base n
theorem rho_ge : ∀ (L : List Nat) (base n : Nat), L.length ≤ n → base ≤ rho L base n
  | [], base, n, _ => Nat.le_add_right _ _
  | m :: L, base, 0, h => by simp at h
  | m :: L, base, n + 1, h => rho_ge L base n (by simpa using h)
theorem rho_eq : ∀ (L : List Nat) (base n : Nat), L.length ≤ n → rho L base n = base + (n - L.length)
  | [], base, n, _ => by simp [rho]
  | m :: L, base, 0, h => by simp at h
  | m :: L, base, n + 1, h => by
    have := rho_eq L base n (by simpa using h)
    simp [rho, this]
theorem rho_lt : ∀ (L : List Nat) (base n : Nat), n < L.length → L[n]? = some (rho L base n)
  | [], base, n, h => by simp at h
  | m :: L, base, 0, h => rfl
  | m :: L, base, n + 1, h => by simpa [rho] using rho_lt L base n (by simpa using h)
/-- What a list of new names must fulfil: the state (fr', σ') under the names L is a part of (fr, σ). -/
def Fit (n0 : Nat) (L : List Nat) (fr' : Fr) (σ' : Sto) (fr : Fr) (σ : Sto) : Prop :=
  once fr' ∧ (∀ p ∈ fr', get fr p.1 = some (p.2.ren (rho L σ.length))) ∧ L.Nodup ∧ L.length = σ'.length ∧ n0 ≤ σ'.length ∧
  (∀ n, n < σ'.length → (n < n0 → rho L σ.length n = n) ∧ match σ'[n]? with
    | some (.live b) => σ[rho L σ.length n]? = some (.live (b.ren (rho L σ.length)))
    | some .dead => True
    | _ => False)
theorem Sim.fit {fr' : Fr} {σ' : Sto} {L : List Nat} {ι : Nat → Option Nat} {S : Nat → Prop} {a : Act} {w : World} (H : Sim e fr σ ι S a w) (F : Fit e.σ0.length L fr' σ' fr σ) :
    Sim e fr' σ' (fun n => ι (rho L σ.length n)) S a w := by
  obtain ⟨f1, f2, f3, f4, f5, f6⟩ := F
  have hlv : ∀ n b, σ'[n]? = some (.live b) → n < σ'.length ∧ σ[rho L σ.length n]? = some (.live (b.ren (rho L σ.length))) := fun n b h => by
    have hl := (List.getElem?_eq_some_iff.1 h).1
    have := (f6 n hl).2
    rw [h] at this
    exact ⟨hl, this⟩
  have hsr : SR (fun n => ι (rho L σ.length n)) S σ' w := by
    refine H.sr.ren _ (fun n b h => (hlv n b h).2) (fun n m b b' hn hm he => ?_) (fun n h => ?_)
    · have l1 := (hlv n b hn).1
      have l2 := (hlv m b' hm).1
      have e1 := rho_lt L σ.length n (by omega)
      have e2 := rho_lt L σ.length m (by omega)
      rw [he] at e1
      rw [← e2] at e1
      exact (List.getElem?_inj (by omega) f3).1 e1
    · by_cases hl : n < σ'.length
      · have := (f6 n hl).2
        rcases h with h | h
        · have := List.getElem?_eq_none_iff.1 h
          omega
        · rw [h] at this
          exact this.elim
      · have := rho_ge L σ.length n (by omega)
        exact .inl (List.getElem?_eq_none_iff.2 this)
  refine ⟨H.defers, H.size, f1, fun d x h => ?_, hsr, ?_⟩
  · obtain ⟨u, h1, h2⟩ := H.get (f2 (d, x) h)
    exact ⟨u, h1, (VR.ren _ x u).1 h2⟩
  · have E := H.ext
    refine ⟨E.os, E.tape, E.output, E.size, E.keep, E.siz, E.sub, ?_, E.imn, f5, ?_⟩
    · rintro k ⟨n, b, h1, h2⟩
      exact E.new k ⟨_, _, (hlv n b h1).2, h2⟩
    · intro n hn
      have hl : n < σ'.length := Nat.lt_of_lt_of_le hn f5
      refine ⟨fun h => ?_, fun b h => ?_⟩
      · have := (f6 n hl).2
        rw [h] at this
        exact this.elim
      · have e1 := (f6 n hl).1 hn
        have h2 := (hlv n b h).2
        show e.σ0[n]? = some .fresh ∨ ι (rho L σ.length n) = e.ι0 n ∧ _
        rw [e1] at h2 ⊢
        exact (E.par n hn).2 _ h2
theorem Go.fit {fr' : Fr} {σ' : Sto} (L : List Nat) (F : Fit e.σ0.length L fr' σ' fr σ) (h : Go e k fr' σ') : Go e k fr σ :=
  fun ι S a w H => h _ _ a w (H.fit F)
theorem Go.again {X : Type} {pre : X → Prop} {μ : X → Nat} {F : X → Fr} {T : X → Sto} {m : Nat} (x : X) (hp : pre x) (hm : μ x < m) (L : List Nat) (hf : Fit e.σ0.length L (F x) (T x) fr σ) :
    Go e (.inv (Again e pre μ F T m) :: k) fr σ :=
  fun ι S a w H => ⟨x, ⟨hp, _, _, H.fit hf⟩, hm⟩
end

/-! ### Contracts -/
def Callable (P : Program) (f : FuncId) : Prop := ∃ fn, P.funcs[f]? = some fn ∧ fn.body.isSome = true ∧ (fn.name == "runtime.NumGoroutine") = false
def AC (P : Program) (f : FuncId) (args : List AV) (σ : Sto) (r : AV) (σ' : Sto) : Prop :=
  Callable P f ∧ ∀ ι S w us, SR ι S σ w → VRe ι S w args us → Calls P f us.toArray w fun o w' => ∃ u ι' S', o = .returned u ∧ VR ι' S' w' r u ∧ SR ι' S' σ' w' ∧ Ext σ ι S w σ' ι' S' w'
def Ends (e : Env) (r : AV) (σ' : Sto) : Prop := ∀ u ι' S' w', VR ι' S' w' r u → SR ι' S' σ' w' → Ext e.σ0 e.ι0 e.S0 e.w0 σ' ι' S' w' → e.R (.returned u) w'
def args0 : Nat → List AV → Fr
  | _, [] => []
  | i, x :: xs => (i, x) :: args0 (i + 1) xs
theorem args0_ge : ∀ {xs : List AV} {i d : Nat} {x : AV}, (d, x) ∈ args0 i xs → i ≤ d
  | [], i, d, x, h => by simp [args0] at h
  | y :: ys, i, d, x, h => by
    rcases List.mem_cons.1 h with h | h
    · injection h with h1 h2
      omega
    · have := args0_ge h
      omega
theorem args0_once : ∀ (xs : List AV) (i : Nat), once (args0 i xs)
  | [], i => trivial
  | y :: ys, i => ⟨fun z h => by have := args0_ge h; omega, args0_once ys (i + 1)⟩
theorem args0_get {ι : Nat → Option Nat} {S : Nat → Prop} {w : World} : ∀ {xs : List AV} {us : List Value} {i d : Nat} {x : AV}, VRe ι S w xs us → (d, x) ∈ args0 i xs → ∃ u, us[d - i]? = some u ∧ VR ι S w x u
  | [], us, i, d, x, H, h => by simp [args0] at h
  | y :: ys, us, i, d, x, H, h => by
    simp only [VRe] at H
    obtain ⟨v, r, rfl, h1, h2⟩ := H
    rcases List.mem_cons.1 h with h | h
    · injection h with e1 e2
      subst e1 e2
      exact ⟨v, by simp, h1⟩
    · have hge := args0_ge h
      obtain ⟨u, h3, h4⟩ := args0_get h2 h
      refine ⟨u, ?_, h4⟩
      have : d - i = (d - (i + 1)) + 1 := by omega
      rw [this]
      simpa using h3
theorem AC.intro {P : Program} {f : FuncId} {fn : Func} {c : Code} {args : List AV} {σ σ' : Sto} {r : AV} (nt : Nat) (hf : P.funcs[f]? = some fn) (hb : fn.body = some c) (hm : (fn.name == "runtime.NumGoroutine") = false)
    (hn : fn.ntmps = nt) (hl : args.length ≤ nt)
    (h : ∀ e : Env, e.P = P → e.fn = fn → e.nt = nt → e.σ0 = σ → Ends e r σ' → Go e [.code c] (args0 0 args) σ) : AC P f args σ r σ' := by
  refine ⟨⟨fn, hf, by rw [hb]; rfl, hm⟩, fun ι S w us hs ha => ?_⟩
  have hlen := VRe.len ha
  refine calls_of_wp hf hb ?_
  have key := h ⟨P, fn, nt, σ, ι, S, w, fun o w' => ∃ u ι' S', o = .returned u ∧ VR ι' S' w' r u ∧ SR ι' S' σ' w' ∧ Ext σ ι S w σ' ι' S' w'⟩ rfl rfl rfl rfl
    (fun u ι' S' w' h1 h2 h3 => ⟨u, ι', S', rfl, h1, h2, h3⟩) ι S { tmps := us.toArray ++ Array.replicate (fn.ntmps - us.toArray.size) undef, defers := [] } w
    ⟨rfl, by simp [hn, hlen]; omega, args0_once _ _, fun d x hx => by
      obtain ⟨u, h1, h2⟩ := args0_get ha hx
      refine ⟨u, ?_, h2⟩
      have hd : d < us.length := (List.getElem?_eq_some_iff.1 h1).1
      simp only [Nat.sub_zero] at h1
      rw [Array.getElem?_append_left (by simpa using hd)]
      simpa using h1, hs, Ext.refl⟩
  exact wp_mono key (fun x a w hq => hq)
section
variable {e : Env} {k : List KI} {fr : Fr} {σ σ' : Sto} {r : AV}
theorem Go.ret1 {t : Tmp} (hE : Ends e r σ') (hr : e.fn.results = #[.tmp t]) (L : List Nat) (F : Fit e.σ0.length L [(t, r)] σ' fr σ) : Go e (.code .ret :: k) fr σ :=
  Go.ret fun ι S a w H => by
    have H' := H.fit F
    obtain ⟨u, h1, h2⟩ := H'.frm t r (by simp)
    exact ⟨u, by rw [results_tmp hr]; simp [h1], hE u _ _ w h2 H'.sr H'.ext⟩
theorem Go.ret2 {t u : Tmp} {r2 : AV} (hE : Ends e (.tup [r, r2]) σ') (hr : e.fn.results = #[.tmp t, .tmp u]) (L : List Nat) (F : Fit e.σ0.length L [(t, r), (u, r2)] σ' fr σ) : Go e (.code .ret :: k) fr σ :=
  Go.ret fun ι S a w H => by
    have H' := H.fit F
    obtain ⟨x, h1, h2⟩ := H'.frm t r (by simp)
    obtain ⟨y, h3, h4⟩ := H'.frm u r2 (by simp)
    exact ⟨.tuple #[x, y], by rw [results_tmp2 hr]; simp [h1, h3], hE _ _ _ w (by simp only [VR, VRe]; exact ⟨_, rfl, x, [y], rfl, h2, y, [], rfl, h4, rfl⟩) H'.sr H'.ext⟩
theorem Go.ret0 (hE : Ends e (.tup []) σ') (hr : e.fn.results = #[]) (L : List Nat) (F : Fit e.σ0.length L [] σ' fr σ) : Go e (.code .ret :: k) fr σ :=
  Go.ret fun ι S a w H => by
    have H' := H.fit F
    exact ⟨.tuple #[], by rw [results_none hr], hE _ _ _ w (by simp only [VR, VRe]; exact ⟨_, rfl, rfl⟩) H'.sr H'.ext⟩
end
/-- What a call leaves of the caller's store. -/
def En.ren (ρ : Nat → Nat) : En → En
  | .live b => .live (b.ren ρ)
  | .dead => .dead
  | .fresh => .dead
def wb (ρ : Nat → Nat) : List Nat → Sto → Sto → Sto
  | [], so, σ => σ ++ so.map (En.ren ρ)
  | m :: L, x :: so, σ => wb ρ L so (σ.set m (x.ren ρ))
  | _ :: _, [], σ => σ
theorem wb_far {ρ : Nat → Nat} : ∀ {L : List Nat} {so σ : Sto} {m : Nat}, m < σ.length → m ∉ L → (wb ρ L so σ)[m]? = σ[m]?
  | [], so, σ, m, h, _ => by simp only [wb]; rw [List.getElem?_append_left h]
  | n :: L, x :: so, σ, m, h, hn => by
    simp only [wb]
    rw [wb_far (by simpa using h) (fun h => hn (List.mem_cons_of_mem _ h)), List.getElem?_set_ne (fun e => hn (by simp [e]))]
  | _ :: _, [], σ, m, _, _ => rfl
theorem wb_in {ρ : Nat → Nat} : ∀ {L : List Nat} {so σ : Sto} {n m : Nat} {x : En}, L.Nodup → L.length ≤ so.length → (∀ m ∈ L, m < σ.length) → L[n]? = some m → so[n]? = some x → (wb ρ L so σ)[m]? = some (x.ren ρ)
  | [], so, σ, n, m, x, _, _, _, h, _ => by simp at h
  | _ :: _, [], σ, n, m, x, _, hl, _, h, _ => by simp at hl
  | k :: L, y :: so, σ, 0, m, x, hd, hl, hlt, h, hx => by
    simp only [List.getElem?_cons_zero, Option.some.injEq] at h hx
    subst h hx
    simp only [wb]
    rw [List.nodup_cons] at hd
    rw [wb_far (by simpa using hlt k (by simp)) hd.1]
    simp [hlt k (by simp)]
  | k :: L, y :: so, σ, n + 1, m, x, hd, hl, hlt, h, hx => by
    simp only [List.getElem?_cons_succ] at h hx
    simp only [wb]
    rw [List.nodup_cons] at hd
    exact wb_in hd.2 (by simpa using hl) (fun m hm => by simpa using hlt m (List.mem_cons_of_mem _ hm)) h hx
theorem wb_new {ρ : Nat → Nat} : ∀ {L : List Nat} {so σ : Sto} (j : Nat), L.length ≤ so.length → (wb ρ L so σ)[σ.length + j]? = (so[L.length + j]?).map (En.ren ρ)
  | [], so, σ, j, _ => by
    simp only [wb]
    rw [List.getElem?_append_right (by omega)]
    simp
  | _ :: _, [], σ, j, hl => by simp at hl
  | k :: L, y :: so, σ, j, hl => by
    simp only [wb]
    have := wb_new (ρ := ρ) (L := L) (so := so) (σ := σ.set k (y.ren ρ)) j (by simpa using hl)
    rw [List.length_set] at this
    rw [this]
    congr 1
    have : (k :: L).length + j = (L.length + j) + 1 := by simp; omega
    rw [this, List.getElem?_cons_succ]
theorem wb_len {ρ : Nat → Nat} : ∀ {L : List Nat} {so σ : Sto}, σ.length ≤ (wb ρ L so σ).length
  | [], so, σ => by simp [wb]
  | _ :: _, [], σ => Nat.le_refl _
  | k :: L, y :: so, σ => by
    simp only [wb]
    have := wb_len (ρ := ρ) (L := L) (so := so) (σ := σ.set k (y.ren ρ))
    simpa using this
/-- What a call asks of the caller's store: the callee's names are L. -/
def Lend (L : List Nat) (σi σo σ : Sto) : Prop :=
  L.Nodup ∧ L.length = σi.length ∧ L.length ≤ σo.length ∧ (∀ n, n < L.length → (∃ b, σi[n]? = some (.live b) ∧ σ[rho L σ.length n]? = some (.live (b.ren (rho L σ.length)))) ∧ ∃ b, σo[n]? = some (.live b))
theorem AC.use {P : Program} {f : FuncId} {args : List AV} {σi σo σ : Sto} {r : AV} (h : AC P f args σi r σo) (L : List Nat) (hL : Lend L σi σo σ) {ι : Nat → Option Nat} {S : Nat → Prop} {w : World} {us : List Value}
    (H : SR ι S σ w) (ha : VRe ι S w (AV.renL (rho L σ.length) args) us) :
    Calls P f us.toArray w fun o w' => ∃ u ι' S', o = .returned u ∧ VR ι' S' w' (r.ren (rho L σ.length)) u ∧ Step σ ι S w (wb (rho L σ.length) L σo σ) ι' S' w' := by
  obtain ⟨hd, hl, hlo, hb⟩ := hL
  have hin : ∀ n, n < L.length → L[n]? = some (rho L σ.length n) := fun n hn => rho_lt L σ.length n hn
  have hlt : ∀ m ∈ L, m < σ.length := fun m hm => by
    obtain ⟨n, hn, rfl⟩ := List.mem_iff_getElem.1 hm
    obtain ⟨⟨b, _, h2⟩, _⟩ := hb n hn
    have e := hin n hn
    rw [List.getElem?_eq_getElem hn] at e
    injection e with e
    rw [e]
    exact (List.getElem?_eq_some_iff.1 h2).1
  have hren : SR (fun n => ι (rho L σ.length n)) S σi w := by
    refine H.ren _ (fun n b hn => ?_) (fun n m b b' hn hm he => ?_) (fun n hn => ?_)
    · have hl' : n < L.length := by rw [hl]; exact (List.getElem?_eq_some_iff.1 hn).1
      obtain ⟨⟨b', h1, h2⟩, _⟩ := hb n hl'
      rw [hn] at h1
      injection h1 with h1
      injection h1 with h1
      subst h1
      exact h2
    · have l1 : n < L.length := by rw [hl]; exact (List.getElem?_eq_some_iff.1 hn).1
      have l2 : m < L.length := by rw [hl]; exact (List.getElem?_eq_some_iff.1 hm).1
      have e1 := hin n l1
      rw [he, ← hin m l2] at e1
      exact (List.getElem?_inj l1 hd).1 e1
    · by_cases hl' : n < L.length
      · obtain ⟨⟨b', h1, _⟩, _⟩ := hb n hl'
        rw [h1] at hn
        rcases hn with hn | hn <;> cases hn
      · have := rho_ge L σ.length n (by omega)
        exact .inl (List.getElem?_eq_none_iff.2 this)
  have hnf : ∀ n, σi[n]? ≠ some En.fresh := fun n hn => by
    have hl' : n < L.length := by rw [hl]; exact (List.getElem?_eq_some_iff.1 hn).1
    obtain ⟨⟨b', h1, _⟩, _⟩ := hb n hl'
    rw [h1] at hn
    cases hn
  refine (h.2 _ S w us hren ((VRe.ren _ _ _).1 ha)).mono ?_
  rintro o w' ⟨u, ι', S', ho, hu, hs, hx⟩
  -- the caller's names
  have hpar : ∀ n, n < L.length → ι' n = ι (rho L σ.length n) := fun n hn => by
    obtain ⟨_, b, h1⟩ := hb n hn
    rcases (hx.par n (by omega)).2 b h1 with h2 | h2
    · exact absurd h2 (hnf n)
    · exact h2.1
  let ι2 : Nat → Option Nat := fun m => if m < σ.length then ι m else ι' (L.length + (m - σ.length))
  have h2 : (fun n => ι2 (rho L σ.length n)) = ι' := by
    funext n
    by_cases hn : n < L.length
    · have e := hin n hn
      have hm := hlt _ (List.mem_of_getElem? e)
      show (if _ then _ else _) = _
      rw [if_pos hm, hpar n hn]
    · have e := rho_eq L σ.length n (by omega)
      show (if _ then _ else _) = _
      rw [e, if_neg (by omega)]
      congr 1
      omega
  have hnam : ∀ n g, ι n = some g → ι2 n = some g := fun n g hg => by
    have : n < σ.length := by
      rcases Nat.lt_or_ge n σ.length with h | h
      · exact h
      · rw [H.top n (.inl (List.getElem?_eq_none_iff.2 h))] at hg
        cases hg
    show (if _ then _ else _) = _
    rw [if_pos this]
    exact hg
  have how : ∀ k, Ow (fun n => ι (rho L σ.length n)) σi k → ∃ n, n < L.length ∧ ι (rho L σ.length n) = some k := fun k ⟨n, b, h1, h2⟩ =>
    ⟨n, by rw [hl]; exact (List.getElem?_eq_some_iff.1 h1).1, h2⟩
  have how2 : ∀ k, Ow (fun n => ι (rho L σ.length n)) σi k → Ow ι σ k := fun k hk => by
    obtain ⟨n, hn, h1⟩ := how k hk
    obtain ⟨⟨b, _, h2⟩, _⟩ := hb n hn
    exact ⟨_, _, h2, h1⟩
  have hkeep : ∀ k, k < w.heap.size → ¬ Ow ι σ k → w'.heap[k]? = w.heap[k]? := fun k hk hn => hx.keep k hk (fun h => hn (how2 k h))
  have M : Mov ι ι2 S S' w w' := ⟨hnam, hx.sub, fun k hk => hkeep k (H.imm k hk) (H.ow_not hk), hx.siz⟩
  -- what lives behind the call
  have cases_ : ∀ m b, (wb (rho L σ.length) L σo σ)[m]? = some (.live b) →
      (∃ n c, m = rho L σ.length n ∧ σo[n]? = some (.live c) ∧ b = c.ren (rho L σ.length)) ∨ (m < σ.length ∧ m ∉ L ∧ σ[m]? = some (.live b)) := fun m b hm => by
    by_cases hmL : m ∈ L
    · obtain ⟨n, hn, rfl⟩ := List.mem_iff_getElem.1 hmL
      obtain ⟨_, c, hc⟩ := hb n hn
      have e := hin n hn
      rw [wb_in hd hlo hlt (List.getElem?_eq_getElem hn) hc] at hm
      injection hm with hm
      injection hm with hm
      rw [List.getElem?_eq_getElem hn] at e
      injection e with e
      exact .inl ⟨n, c, e, hc, hm.symm⟩
    · by_cases hlt' : m < σ.length
      · rw [wb_far hlt' hmL] at hm
        exact .inr ⟨hlt', hmL, hm⟩
      · obtain ⟨j, rfl⟩ : ∃ j, m = σ.length + j := ⟨m - σ.length, by omega⟩
        rw [wb_new j hlo] at hm
        cases hc : σo[L.length + j]? with
        | none => rw [hc] at hm; cases hm
        | some x =>
          rw [hc] at hm
          cases x with
          | live c =>
            injection hm with hm
            injection hm with hm
            refine .inl ⟨L.length + j, c, ?_, hc, hm.symm⟩
            rw [rho_eq L σ.length _ (by omega)]
            omega
          | dead => cases hm
          | fresh => cases hm
  have nofar : ∀ m b k n c, m < σ.length → m ∉ L → σ[m]? = some (.live b) → ι m = some k → σo[n]? = some (.live c) → ι' n = some k → False := fun m b k n c h1 h2 h3 h4 h5 h6 => by
    have hk := H.lt ⟨m, b, h3, h4⟩
    rcases hx.new k ⟨n, c, h5, h6⟩ with h | h
    · omega
    · obtain ⟨n', hn', h7⟩ := how k h
      obtain ⟨⟨b', _, h8⟩, _⟩ := hb n' hn'
      have := H.inj m _ b _ k h3 h8 h4 h7
      exact h2 (this ▸ List.mem_of_getElem? (hin n' hn'))
  refine ⟨u, ι2, S', ho, ?_, ⟨⟨?_, ?_, ?_, hs.imm, ?_⟩, ⟨hx.os, hx.tape, hx.output, hx.size, hkeep, hx.siz, hx.sub, ?_, ?_, wb_len, ?_⟩, hnam⟩⟩
  · rw [VR.ren, h2]
    exact hu
  · intro m b hm
    rcases cases_ m b hm with ⟨n, c, rfl, h3, rfl⟩ | ⟨h3, h4, h5⟩
    · rcases hs.blk n c h3 with ⟨e1, e2⟩ | ⟨g, d, e1, e2, e3⟩
      · refine .inl ⟨(congrFun h2 n).trans e1, ?_⟩
        show AV.renL _ c.cells = []
        rw [e2]
        rfl
      refine .inr ⟨g, d, ?_, e2, ?_⟩
      · have := congrFun h2 n
        exact this.trans e1
      · have := (VRl.ren (ι := ι2) (S := S') (w := w') (rho L σ.length) c.cells d.toList).2 (by rw [h2]; exact e3)
        exact this
    · rcases H.blk m b h5 with ⟨e1, e2⟩ | ⟨g, d, e1, e2, e3⟩
      · exact .inl ⟨(if_pos h3).trans e1, e2⟩
      refine .inr ⟨g, d, hnam m g e1, ?_, VRl.mov M _ _ e3⟩
      rw [hx.keep g (H.lt ⟨m, b, h5, e1⟩) (fun h => ?_)]
      · exact e2
      · obtain ⟨n', hn', h7⟩ := how g h
        obtain ⟨⟨b', _, h8⟩, _⟩ := hb n' hn'
        have := H.inj m _ b _ g h5 h8 e1 h7
        exact h4 (this ▸ List.mem_of_getElem? (hin n' hn'))
  · intro m m' b b' g hm hm' e1 e2
    rcases cases_ m b hm with ⟨n, c, rfl, h3, rfl⟩ | ⟨h3, h4, h5⟩ <;> rcases cases_ m' b' hm' with ⟨n', c', rfl, h3', rfl⟩ | ⟨h3', h4', h5'⟩
    · have f1 : ι' n = some g := by rw [← h2]; exact e1
      have f2 : ι' n' = some g := by rw [← h2]; exact e2
      rw [hs.inj n n' c c' g h3 h3' f1 f2]
    · have f1 : ι' n = some g := by rw [← h2]; exact e1
      have f2 : ι m' = some g := by
        have : ι2 m' = ι m' := if_pos h3'
        rw [← this]; exact e2
      exact (nofar m' b' g n c h3' h4' h5' f2 h3 f1).elim
    · have f1 : ι' n' = some g := by rw [← h2]; exact e2
      have f2 : ι m = some g := by
        have : ι2 m = ι m := if_pos h3
        rw [← this]; exact e1
      exact (nofar m b g n' c' h3 h4 h5 f2 h3' f1).elim
    · have f1 : ι m = some g := by
        have : ι2 m = ι m := if_pos h3
        rw [← this]; exact e1
      have f2 : ι m' = some g := by
        have : ι2 m' = ι m' := if_pos h3'
        rw [← this]; exact e2
      exact H.inj m m' b b' g h5 h5' f1 f2
  · intro m b g hm e1 hS
    rcases cases_ m b hm with ⟨n, c, rfl, h3, rfl⟩ | ⟨h3, h4, h5⟩
    · have f1 : ι' n = some g := by rw [← h2]; exact e1
      exact hs.own n c g h3 f1 hS
    · have f1 : ι m = some g := by
        have : ι2 m = ι m := if_pos h3
        rw [← this]; exact e1
      rcases hx.imn g hS with h | h | h
      · exact H.own m b g h5 f1 h
      · have := H.lt ⟨m, b, h5, f1⟩
        omega
      · obtain ⟨n', hn', h7⟩ := how g h
        obtain ⟨⟨b', _, h8⟩, _⟩ := hb n' hn'
        have := H.inj m _ b _ g h5 h8 f1 h7
        exact h4 (this ▸ List.mem_of_getElem? (hin n' hn'))
  · intro m hm
    by_cases hlt' : m < σ.length
    · have hmL : m ∉ L := fun h => by
        obtain ⟨n, hn, rfl⟩ := List.mem_iff_getElem.1 h
        obtain ⟨_, c, hc⟩ := hb n hn
        rw [wb_in hd hlo hlt (List.getElem?_eq_getElem hn) hc] at hm
        rcases hm with hm | hm <;> cases hm
      rw [wb_far hlt' hmL] at hm
      show (if _ then _ else _) = _
      rw [if_pos hlt']
      exact H.top m hm
    · obtain ⟨j, rfl⟩ : ∃ j, m = σ.length + j := ⟨m - σ.length, by omega⟩
      rw [wb_new j hlo] at hm
      show (if _ then _ else _) = _
      rw [if_neg (by omega)]
      have e : L.length + (σ.length + j - σ.length) = L.length + j := by omega
      rw [e]
      apply hs.top
      cases hc : σo[L.length + j]? with
      | none => exact .inl rfl
      | some x =>
        rw [hc] at hm
        cases x with
        | live c => rcases hm with hm | hm <;> cases hm
        | dead => rcases hm with hm | hm <;> cases hm
        | fresh => exact .inr rfl
  · rintro k ⟨m, b, hm, e1⟩
    rcases cases_ m b hm with ⟨n, c, rfl, h3, rfl⟩ | ⟨h3, h4, h5⟩
    · have f1 : ι' n = some k := by rw [← h2]; exact e1
      rcases hx.new k ⟨n, c, h3, f1⟩ with h | h
      · exact .inl h
      · exact .inr (how2 k h)
    · have f1 : ι m = some k := by
        have : ι2 m = ι m := if_pos h3
        rw [← this]; exact e1
      exact .inr ⟨m, b, h5, f1⟩
  · intro k hk
    rcases hx.imn k hk with h | h | h
    · exact .inl h
    · exact .inr (.inl h)
    · exact .inr (.inr (how2 k h))
  · intro m hm
    refine ⟨fun h => ?_, fun b h => ?_⟩
    · by_cases hmL : m ∈ L
      · obtain ⟨n, hn, rfl⟩ := List.mem_iff_getElem.1 hmL
        obtain ⟨_, c, hc⟩ := hb n hn
        rw [wb_in hd hlo hlt (List.getElem?_eq_getElem hn) hc] at h
        cases h
      · rw [wb_far hm hmL] at h
        exact h
    · refine .inr ⟨if_pos hm, ?_⟩
      by_cases hmL : m ∈ L
      · obtain ⟨n, hn, rfl⟩ := List.mem_iff_getElem.1 hmL
        obtain ⟨⟨b', _, h1⟩, _⟩ := hb n hn
        have e := hin n hn
        rw [List.getElem?_eq_getElem hn] at e
        injection e with e
        rw [e]
        exact ⟨_, h1⟩
      · rw [wb_far hm hmL] at h
        exact ⟨b, h⟩

/-! ### Types -/
structure TI where
  desc : TypeDesc
  size : Nat
  bytes : Nat
  zero : Value
def TI.agg (i : TI) : Bool := match i.desc with
  | .struct _ => true
  | .array _ _ => true
  | _ => false
abbrev TE := List (Nat × TI)
def ti : TE → Nat → Option TI
  | [], _ => none
  | (k, i) :: r, t => bif k == t then some i else ti r t
def TI.ok (P : Program) (t : TypeId) (i : TI) : Prop := P.underlying t = some i.desc ∧ ∃ inf, P.info? t = some inf ∧ inf.size = i.size ∧ inf.bytes = i.bytes ∧ inf.zero = some i.zero
def TEok (P : Program) (te : TE) : Prop := ∀ t i, ti te t = some i → i.ok P t
def TEall (P : Program) : TE → Prop
  | [] => True
  | (t, i) :: r => TI.ok P t i ∧ TEall P r
theorem TEok.of_all {P : Program} : ∀ {te : TE}, TEall P te → TEok P te
  | [], _, t, i, h => by simp [ti] at h
  | (k, j) :: r, H, t, i, h => by
    unfold ti at h
    cases hb : (k == t)
    · rw [hb, cond_false] at h
      exact TEok.of_all H.2 t i h
    · rw [hb, cond_true] at h
      have e : k = t := by simpa using hb
      injection h with h
      subst h e
      exact H.1
theorem TI.mk_ok {P : Program} {t : TypeId} {i : TI} (h1 : P.underlying t = some i.desc) (h2 : (P.info? t).map (fun j => (j.size, j.bytes, j.zero)) = some (i.size, i.bytes, some i.zero)) : i.ok P t := by
  refine ⟨h1, ?_⟩
  cases h : P.info? t with
  | none => rw [h] at h2; cases h2
  | some j =>
    rw [h] at h2
    injection h2 with h2
    injection h2 with h3 h4
    injection h4 with h4 h5
    exact ⟨j, rfl, h3, h4, h5⟩
theorem ok_isAgg {P : Program} {t : TypeId} {i : TI} (h : i.ok P t) (w : World) : (isAgg t).run P w = .ok i.agg w := by
  unfold isAgg TI.agg
  rw [Sem.run_bind, run_underlying h.1 w]
  cases i.desc <;> simp
theorem ok_sizeOf {P : Program} {t : TypeId} {i : TI} (h : i.ok P t) (w : World) : (sizeOf t).run P w = .ok i.size w := by
  obtain ⟨_, j, h1, h2, _⟩ := h
  simp [sizeOf, typeInfo, h1, h2]
theorem ok_zero {P : Program} {t : TypeId} {i : TI} (h : i.ok P t) (w : World) : (zeroValue t).run P w = .ok i.zero w := by
  obtain ⟨_, j, h1, _, _, h2⟩ := h
  simp [zeroValue, typeInfo, h1, h2]
theorem ok_und {P : Program} {t : TypeId} {i : TI} (h : i.ok P t) (w : World) : (underlying t).run P w = .ok i.desc w := run_underlying h.1 w
theorem ok_info {P : Program} {t : TypeId} {i : TI} (h : i.ok P t) : (P.info? t).map (·.size) = some i.size := by
  obtain ⟨_, j, h1, h2, _⟩ := h
  simp [h1, h2]

/-! ### Cells -/
def nth {α : Type} : List α → Nat → Option α
  | [], _ => none
  | x :: _, 0 => some x
  | _ :: r, n + 1 => nth r n
theorem nth_eq {α : Type} : ∀ (l : List α) (n : Nat), nth l n = l[n]?
  | [], n => by simp [nth]
  | x :: r, 0 => rfl
  | x :: r, n + 1 => by simpa [nth] using nth_eq r n
def sub : List AV → Nat → Nat → Option (List AV)
  | _, 0, _ => some []
  | cs, n + 1, o => match nth cs o with
    | some x => (sub cs n (o + 1)).map (x :: ·)
    | none => none
section
variable {ι : Nat → Option Nat} {S : Nat → Prop} {w : World}
theorem VRl.nth {cs : List AV} {l : List Value} (h : VRl ι S w cs l) {o : Nat} {x : AV} (hx : nth cs o = some x) : ∃ u, l[o]? = some u ∧ VR ι S w x u := h.get ((nth_eq cs o) ▸ hx)
theorem VRl.sub {cs : List AV} {l : List Value} (h : VRl ι S w cs l) : ∀ {n o : Nat} {xs : List AV}, sub cs n o = some xs → ∃ us, VRe ι S w xs us ∧ us.length = n ∧ ∀ j v, us[j]? = some v → l[o + j]? = some v
  | 0, o, xs, hx => by
    simp only [Ab.sub, Option.some.injEq] at hx
    subst hx
    exact ⟨[], by simp [VRe], rfl, by simp⟩
  | n + 1, o, xs, hx => by
    unfold Ab.sub at hx
    cases h1 : Ab.nth cs o with
    | none => rw [h1] at hx; cases hx
    | some x =>
      rw [h1] at hx
      simp only [Option.map_eq_some_iff] at hx
      obtain ⟨ys, h2, rfl⟩ := hx
      obtain ⟨u, h3, h4⟩ := h.nth h1
      obtain ⟨us, h5, h6, h7⟩ := VRl.sub h h2
      refine ⟨u :: us, by simp only [VRe]; exact ⟨u, us, rfl, h4, h5⟩, by simp [h6], fun j v hj => ?_⟩
      cases j with
      | zero => simpa [h3] using hj
      | succ j =>
        simp only [List.getElem?_cons_succ] at hj
        rw [← h7 j v hj]
        congr 1
        omega
end
/-- What lies at a pointer. -/
def cellsAt (σ : Sto) : AV → Option (List AV × Nat)
  | .p n o => match nth σ n with
    | some (.live b) => some (b.cells, o)
    | _ => none
  | .tp cs o => some (cs, o)
  | _ => none
def ldA (i : TI) (σ : Sto) (x : AV) : Option AV := match cellsAt σ x with
  | some (cs, o) => bif i.agg then (sub cs i.size o).map .agg else nth cs o
  | none => none
section
variable {P : Program} {ι : Nat → Option Nat} {S : Nat → Prop} {w : World} {σ : Sto}
theorem cellsAt_ok (H : SR ι S σ w) {x : AV} {cs : List AV} {o : Nat} (h : cellsAt σ x = some (cs, o)) {u : Value} (hu : VR ι S w x u) :
    ∃ g k c ty fz, u = .pointer (some ⟨g, k + o, none⟩) ∧ w.heap[g]? = some (Obj.cells c ty fz) ∧ VRl ι S w cs (c.toList.drop k) := by
  cases x with
  | p n o' =>
    simp only [cellsAt, nth_eq] at h
    split at h
    · rename_i b hb
      injection h with h
      injection h with h1 h2
      subst h1 h2
      simp only [VR] at hu
      obtain ⟨g', h4, h5⟩ := hu
      rcases H.blk n b hb with ⟨h1, _⟩ | ⟨g, c, h1, h2, h3⟩
      · rw [h1] at h4
        cases h4
      rw [h1] at h4
      injection h4 with h4
      subst h4
      exact ⟨g, 0, c, _, _, by simpa using h5, h2, by simpa using h3⟩
    · cases h
  | tp ds k =>
    simp only [cellsAt, Option.some.injEq] at h
    injection h with h1 h2
    subst h1 h2
    simp only [VR] at hu
    obtain ⟨g, o', c, ty, fz, h1, h2, h3, h4⟩ := hu
    exact ⟨g, o', c, ty, fz, h1, h3, h4⟩
  | _ => simp [cellsAt] at h
theorem cell_at {g o : Nat} {c : Array Value} {ty : TypeId} {fz : Nat × Nat} (h : w.heap[g]? = some (Obj.cells c ty fz)) : w.cell? ⟨g, o, none⟩ = c[o]? := by
  unfold World.cell?
  simp [h]
theorem load_ok {t : TypeId} {i : TI} (hi : i.ok P t) (H : SR ι S σ w) {x y : AV} (h : ldA i σ x = some y) {u : Value} (hu : VR ι S w x u) :
    ∃ v, (Instr.loadAt t u).run P w = .ok v w ∧ VR ι S w y v := by
  unfold ldA at h
  cases hc : cellsAt σ x with
  | none => rw [hc] at h; cases h
  | some p =>
    obtain ⟨cs, o⟩ := p
    rw [hc] at h
    obtain ⟨g, k, c, ty, fz, rfl, h1, h2⟩ := cellsAt_ok H hc hu
    simp only at h
    cases ha : i.agg
    · rw [ha, cond_false] at h
      obtain ⟨v, h3, h4⟩ := h2.nth h
      refine ⟨v, ?_, h4⟩
      have hcell : w.cell? ⟨g, k + o, none⟩ = some v := by
        rw [cell_at h1, ← Array.getElem?_toList]
        rw [List.getElem?_drop] at h3
        exact h3
      simp [Instr.loadAt, Instr.sureAddr, loadVar, ok_isAgg hi w, ha, hcell]
    · rw [ha, cond_true] at h
      simp only [Option.map_eq_some_iff] at h
      obtain ⟨ys, h3, rfl⟩ := h
      obtain ⟨us, h4, h5, h6⟩ := h2.sub h3
      refine ⟨.agg us.toArray, ?_, by simp only [VR]; exact ⟨_, rfl, h4⟩⟩
      refine run_loadAt_mid w g (k + o) t us i.desc (fun j v hj => ?_) hi.1 (by unfold TI.agg at ha; cases hd : i.desc <;> simp_all [TypeDesc.isRow]) (by rw [ok_info hi, h5])
      rw [cell_at h1, ← Array.getElem?_toList]
      have := h6 j v hj
      rw [List.getElem?_drop] at this
      rw [← this]
      congr 1
      omega
end
/-- Values that fill one cell. -/
def AV.one : AV → Bool
  | .v x => x.oneCell'
  | .agg _ => false
  | .tup _ => false
  | _ => true
def AV.cells : AV → List AV
  | .agg cs => cs
  | .v (.agg cs) => cs.toList.map .v
  | x => [x]
def ones : List AV → Bool
  | [] => true
  | x :: r => x.one && ones r
def setN {α : Type} : List α → Nat → α → List α
  | [], _, _ => []
  | _ :: r, 0, y => y :: r
  | x :: r, n + 1, y => x :: setN r n y
theorem setN_eq {α : Type} : ∀ (l : List α) (n : Nat) (y : α), setN l n y = l.set n y
  | [], n, y => by simp [setN]
  | x :: r, 0, y => rfl
  | x :: r, n + 1, y => by simp [setN, setN_eq r n y]
def sets : List AV → Nat → List AV → List AV
  | cs, _, [] => cs
  | cs, o, x :: r => sets (setN cs o x) (o + 1) r
theorem sets_len : ∀ (xs cs : List AV) (o : Nat), (sets cs o xs).length = cs.length
  | [], cs, o => rfl
  | x :: r, cs, o => by
    unfold sets
    rw [sets_len r, setN_eq]
    simp
section
variable {P : Program} {ι : Nat → Option Nat} {S : Nat → Prop} {w : World} {σ : Sto}
theorem VRe_v : ∀ (l : List Value), VRe ι S w (l.map .v) l
  | [] => by simp [VRe]
  | x :: r => by simp only [List.map_cons, VRe, VR]; exact ⟨x, r, rfl, rfl, VRe_v r⟩
theorem VR.cells {x : AV} {u : Value} (h : VR ι S w x u) : VRe ι S w x.cells u.cells.toList := by
  cases x with
  | agg cs =>
    simp only [VR] at h
    obtain ⟨c, rfl, h⟩ := h
    exact h
  | v x =>
    simp only [VR] at h
    subst h
    cases u <;> first | (simp [AV.cells, Value.cells, VRe, VR]; done) | exact VRe_v _
  | p n o => simp only [VR] at h; obtain ⟨g, h1, rfl⟩ := h; simp [AV.cells, Value.cells, VRe, VR, h1]
  | tp cs k =>
    have h' := h
    simp only [VR] at h
    obtain ⟨g, o, c, ty, fz, rfl, _⟩ := h
    simp only [AV.cells, Value.cells, VRe]
    exact ⟨_, [], rfl, h', rfl⟩
  | sl n o l e =>
    have h' := h
    simp only [VR] at h
    obtain ⟨A, cap, rfl, _⟩ := h
    simp only [AV.cells, Value.cells, VRe]
    exact ⟨_, [], rfl, h', rfl⟩
  | ts l cs =>
    have h' := h
    simp only [VR] at h
    obtain ⟨A, cap, rfl, _⟩ := h
    simp only [AV.cells, Value.cells, VRe]
    exact ⟨_, [], rfl, h', rfl⟩
  | tup cs =>
    have h' := h
    simp only [VR] at h
    obtain ⟨c, rfl, _⟩ := h
    simp only [AV.cells, Value.cells, VRe]
    exact ⟨_, [], rfl, h', rfl⟩
  | fn f a b =>
    have h' := h
    simp only [VR] at h
    obtain ⟨x, y, rfl, _⟩ := h
    simp only [AV.cells, Value.cells, VRe]
    exact ⟨_, [], rfl, h', rfl⟩
theorem one_ok {x : AV} {u : Value} (h : VR ι S w x u) (h1 : x.one = true) : u.oneCell' = true := by
  cases x with
  | v x => simp only [VR] at h; subst h; exact h1
  | p n o => simp only [VR] at h; obtain ⟨g, _, rfl⟩ := h; rfl
  | tp cs k => simp only [VR] at h; obtain ⟨g, o, c, ty, fz, rfl, _⟩ := h; rfl
  | sl n o l e => simp only [VR] at h; obtain ⟨A, cap, rfl, _⟩ := h; rfl
  | ts l cs => simp only [VR] at h; obtain ⟨A, cap, rfl, _⟩ := h; rfl
  | fn f a b => simp only [VR] at h; obtain ⟨x, y, rfl, _⟩ := h; rfl
  | agg cs => cases h1
  | tup cs => cases h1
theorem ones_ok : ∀ {xs : List AV} {us : List Value}, VRe ι S w xs us → ones xs = true → ∀ v ∈ us, v.oneCell' = true
  | [], us, h, _, v, hv => by simp only [VRe] at h; subst h; simp at hv
  | x :: r, us, h, h1, v, hv => by
    simp only [VRe] at h
    obtain ⟨u, us, rfl, h2, h3⟩ := h
    simp only [ones, Bool.and_eq_true] at h1
    rcases List.mem_cons.1 hv with rfl | hv
    · exact one_ok h2 h1.1
    · exact ones_ok h3 h1.2 v hv
theorem heap_setCell (w : World) (g o : Nat) (v : Value) {c : Array Value} {ty : TypeId} {fz : Nat × Nat} (h : w.heap[g]? = some (Obj.cells c ty fz)) (k : Nat) :
    (w.setCell ⟨g, o, none⟩ v).heap[k]? = if k = g then some (Obj.cells (c.setIfInBounds o v) ty fz) else w.heap[k]? := by
  unfold World.setCell
  have hl : g < w.heap.size := (Array.getElem?_eq_some_iff.1 h).1
  by_cases e : k = g
  · subst e
    simp [Array.getElem?_modify, h]
  · rw [if_neg e]
    simp [Array.getElem?_modify, Ne.symm e]
theorem Step.cell (H : SR ι S σ w) {nm g : Nat} {b : Blk} {c : Array Value} (hb : σ[nm]? = some (.live b)) (hg : ι nm = some g) (hc0 : w.heap[g]? = some (.cells c b.ty (0, 0))) (hc : VRl ι S w b.cells c.toList)
    {x : AV} {u : Value} (hx : VR ι S w x u) (o : Nat) : Step σ ι S w (σ.set nm (.live ⟨b.ty, b.cells.set o x⟩)) ι S (w.setCell ⟨g, o, none⟩ u) := by
  have hsz : (w.setCell ⟨g, o, none⟩ u).heap.size = w.heap.size := by
    unfold World.setCell
    split <;> simp
  refine Step.put (c' := c.setIfInBounds o u) H hb hg hc0 (by simp) rfl (heap_setCell w g o u hc0) hsz ?_ ?_ ?_ ?_
  · unfold World.setCell; split <;> rfl
  · unfold World.setCell; split <;> rfl
  · unfold World.setCell; split <;> rfl
  · have := VRl.set o hc hx
    simpa using this
theorem Step.cells : ∀ {xs : List AV} {us : List Value} {σ : Sto} {w : World} {b : Blk} (nm g o : Nat), SR ι S σ w → σ[nm]? = some (.live b) → ι nm = some g → VRe ι S w xs us →
    Step σ ι S w (σ.set nm (.live ⟨b.ty, sets b.cells o xs⟩)) ι S (w.setCells g o us)
  | [], us, σ, w, b, nm, g, o, H, hb, hg, h => by
    simp only [VRe] at h
    subst h
    have e : σ.set nm (.live ⟨b.ty, sets b.cells o []⟩) = σ := by
      obtain ⟨hl, he⟩ := List.getElem?_eq_some_iff.1 hb
      show σ.set nm (.live b) = σ
      rw [← he, List.set_getElem_self]
    rw [e]
    exact Step.refl H
  | x :: xs, us, σ, w, b, nm, g, o, H, hb, hg, h => by
    simp only [VRe] at h
    obtain ⟨u, r, rfl, h1, h2⟩ := h
    rcases H.blk nm b hb with ⟨e1, _⟩ | ⟨g', c, e1, e2, e3⟩
    · rw [hg] at e1
      cases e1
    rw [hg] at e1
    injection e1 with e1
    subst e1
    have s1 := Step.cell H hb hg e2 e3 h1 o
    have hl : nm < σ.length := (List.getElem?_eq_some_iff.1 hb).1
    have s2 := Step.cells (xs := xs) (us := r) (b := ⟨b.ty, b.cells.set o x⟩) nm g (o + 1) s1.sr (by simp [hl]) hg (VRe.mov (s1.mov H) _ _ h2)
    have := s1.trans s2
    rw [List.set_set] at this
    simp only [sets, setN_eq]
    exact this
end
/-- A store. -/
def stA (σ : Sto) (i : TI) (x y : AV) : Option (Prop × Sto) := match x with
  | .p n o => match nth σ n with
    | some (.live b) => bif y.cells.length == i.size && ones y.cells then some (o + i.size ≤ b.cells.length, setN σ n (.live ⟨b.ty, sets b.cells o y.cells⟩)) else none
    | _ => none
  | _ => none
theorem store_ok {P : Program} {ι : Nat → Option Nat} {S : Nat → Prop} {w : World} {σ σ' : Sto} {t : TypeId} {i : TI} (hi : i.ok P t) (H : SR ι S σ w) {x y : AV} {cnd : Prop} (h : stA σ i x y = some (cnd, σ')) (hcd : cnd) {u v : Value} (hu : VR ι S w x u) (hv : VR ι S w y v) :
    ∃ w', (Instr.storeAt t u v).run P w = .ok () w' ∧ Step σ ι S w σ' ι S w' := by
  unfold stA at h
  cases x with
  | p n o =>
    simp only [nth_eq] at h
    split at h
    · rename_i b hb
      cases hcnd : (y.cells.length == i.size && ones y.cells)
      · rw [hcnd] at h; cases h
      · rw [hcnd, cond_true] at h
        injection h with h
        injection h with h h'
        subst h h'
        have c3 := hcd
        simp only [Bool.and_eq_true, beq_iff_eq] at hcnd
        obtain ⟨c1, c2⟩ := hcnd
        rw [setN_eq]
        simp only [VR] at hu
        obtain ⟨g', e4, rfl⟩ := hu
        rcases H.blk n b hb with ⟨e1, _⟩ | ⟨g, c, e1, e2, e3⟩
        · rw [e1] at e4
          cases e4
        rw [e1] at e4
        injection e4 with e4
        subst e4
        have hcs := VR.cells hv
        have hlen := VRe.len hcs
        have hsz : v.cells.size = i.size := by rw [← c1, ← hlen]; simp
        refine ⟨w.setCells g o v.cells.toList, ?_, Step.cells n g o H hb e1 hcs⟩
        have hcl := VRl.len e3
        have hst := run_storeCells_cells (P := P) g o v.cells.toList 0 w (fun j hj => by
          rw [cell_at e2]
          simp only [Array.length_toList] at hj hcl
          have : o + j < c.size := by omega
          simp [this]) (fun j hj => by simp [World.frozen?, e2]) (ones_ok hcs c2)
        simp only [Nat.add_zero] at hst
        simp [Instr.storeAt, Instr.sureAddr, storeVar, ok_sizeOf hi w, hsz, hst]
    · cases h
  | _ => cases h

/-! ### Operations -/
inductive Rs where
  | bad
  | val (x : AV)
  | need (c : Prop) (x : AV)
  | new (b : Blk) (x : AV)
  | newc (c : Prop) (b : Blk) (x : AV)
  | sto (c : Prop) (σ : Sto)
  | sv (c : Prop) (σ : Sto) (x : AV)
def kEq : IntKind → IntKind → Bool
  | .i8, .i8 => true
  | .i16, .i16 => true
  | .i32, .i32 => true
  | .i64, .i64 => true
  | .u8, .u8 => true
  | .u16, .u16 => true
  | .u32, .u32 => true
  | .u64, .u64 => true
  | _, _ => false
theorem kEq_ok {a b : IntKind} (h : kEq a b = true) : a = b := by cases a <;> cases b <;> first | rfl | cases h
/-- Bits of two numbers. -/
def andA (k : IntKind) (a b : Int) : Int := k.wrap (BitVec.ofInt k.bits a &&& BitVec.ofInt k.bits b).toNat
def xorA (k : IntKind) (a b : Int) : Int := k.wrap (BitVec.ofInt k.bits a ^^^ BitVec.ofInt k.bits b).toNat
def shrA (k : IntKind) (a b : Int) : Int := a.fdiv (2 ^ min b.toNat k.bits)
def shA (op : BinOp) (k : IntKind) (a b : Int) : Rs := match op with
  | .shr => .need (0 ≤ b) (.v (.int k (shrA k a b)))
  | _ => .bad
def intA (op : BinOp) (k : IntKind) (a b : Int) : Rs := match op with
  | .and => .val (.v (.int k (andA k a b)))
  | .xor => .val (.v (.int k (xorA k a b)))
  | .add => .val (.v (.int k (k.wrap (a + b))))
  | .sub => .val (.v (.int k (k.wrap (a - b))))
  | .mul => .val (.v (.int k (k.wrap (a * b))))
  | .quo => .need (b ≠ 0) (.v (.int k (k.wrap (a.tdiv b))))
  | .rem => .need (b ≠ 0) (.v (.int k (a.tmod b)))
  | .eql => .val (.v (.bool (a == b)))
  | .neq => .val (.v (.bool (a != b)))
  | .lss => .val (.v (.bool (decide (a < b))))
  | .leq => .val (.v (.bool (decide (a ≤ b))))
  | .gtr => .val (.v (.bool (decide (a > b))))
  | .geq => .val (.v (.bool (decide (a ≥ b))))
  | _ => .bad
def isPtr : TypeDesc → Bool
  | .pointer _ => true
  | _ => false
def isBool : TypeDesc → Bool
  | .bool => true
  | _ => false
def isStr : TypeDesc → Bool
  | .string => true
  | _ => false
def eqA (i : TI) (neg : Bool) : AV → AV → Rs
  | .v (.bool a), .v (.bool b) => bif isBool i.desc then .val (.v (.bool (bif neg then !(a == b) else a == b))) else .bad
  | .p _ _, .v (.pointer none) => bif isPtr i.desc then .val (.v (.bool neg)) else .bad
  | .tp _ _, .v (.pointer none) => bif isPtr i.desc then .val (.v (.bool neg)) else .bad
  | .v (.pointer none), .v (.pointer none) => bif isPtr i.desc then .val (.v (.bool (!neg))) else .bad
  | _, _ => .bad
def strA (op : BinOp) (a b : ByteArray) : Rs := match op with
  | .add => .need (a.size + b.size ≤ 9223372036854775807) (.v (.string (a ++ b)))
  | .eql => .val (.v (.bool (a.toList == b.toList)))
  | .neq => .val (.v (.bool (!(a.toList == b.toList))))
  | _ => .bad
def binA (i : TI) (op : BinOp) (x y : AV) : Rs := match x, y with
  | .v (.int k a), .v (.int k' b) => bif kEq k k' then intA op k a b else shA op k a b
  | .v (.string a), .v (.string b) => strA op a b
  | x, y => match op with
    | .eql => eqA i false x y
    | .neq => eqA i true x y
    | _ => .bad
def unA (op : UnOp) (x : AV) : Rs := match op, x with
  | .not, .v (.bool b) => .val (.v (.bool (!b)))
  | .neg, .v (.int k n) => .val (.v (.int k (k.wrap (0 - n))))
  | _, _ => .bad
/-- What an operation without effect says. -/
def Says (P : Program) (s : Sem Value) (ι : Nat → Option Nat) (S : Nat → Prop) (w : World) : Rs → Prop
  | .val x => ∃ u, s.run P w = .ok u w ∧ VR ι S w x u
  | .need c x => c → ∃ u, s.run P w = .ok u w ∧ VR ι S w x u
  | _ => True
section
variable {P : Program} {ι : Nat → Option Nat} {S : Nat → Prop} {w : World} {σ : Sto}
theorem equalIn_bool (d : Nat) {t : TypeId} (h : P.underlying t = some .bool) (a b : Bool) : (Op.equalIn (d + 1) t (.bool a) (.bool b)).run P w = .ok (a == b) w := by
  simp only [Op.equalIn, Sem.run_bind, run_underlying h, Result.andThen_ok, Sem.run_pure]
theorem equal_bool {t : TypeId} (h : P.underlying t = some .bool) (a b : Bool) : (Op.equal t (.bool a) (.bool b)).run P w = .ok (a == b) w := equalIn_bool 9999 h a b
theorem equalIn_nil (d : Nat) {t el : TypeId} (h : P.underlying t = some (.pointer el)) (a : Addr) : (Op.equalIn (d + 1) t (.pointer (some a)) (.pointer none)).run P w = .ok false w := by
  simp only [Op.equalIn, Sem.run_bind, run_underlying h, Result.andThen_ok, Sem.run_pure]
theorem equal_nil {t el : TypeId} (h : P.underlying t = some (.pointer el)) (a : Addr) : (Op.equal t (.pointer (some a)) (.pointer none)).run P w = .ok false w := equalIn_nil 9999 h a
theorem equalIn_nils (d : Nat) {t el : TypeId} (h : P.underlying t = some (.pointer el)) : (Op.equalIn (d + 1) t (.pointer none) (.pointer none)).run P w = .ok true w := by
  simp only [Op.equalIn, Sem.run_bind, run_underlying h, Result.andThen_ok, Sem.run_pure, Option.isNone_none]
theorem equal_nils {t el : TypeId} (h : P.underlying t = some (.pointer el)) : (Op.equal t (.pointer none) (.pointer none)).run P w = .ok true w := equalIn_nils 9999 h
theorem binA_ok {t : TypeId} {i : TI} (hi : i.ok P t) (op : BinOp) (px py : Operand) {x y : AV} {u v : Value} (hu : VR ι S w x u) (hv : VR ι S w y v) :
    Says P (do eqGuard op t px py u v; binOp op t u v) ι S w (binA i op x y) := by
  unfold binA
  split
  · rename_i k a k' b
    simp only [VR] at hu hv
    subst hu hv
    cases hk : kEq k k'
    · have hg : ∀ op, (eqGuard op t px py (.int k a) (.int k' b)).run P w = .ok () w := fun op => by cases op <;> simp [eqGuard]
      cases op <;> first
        | exact trivial
        | (simp only [cond_false, shA, Says]
           intro hc
           have hc' : ¬ b < 0 := by omega
           simp [hg, binOp, Op.shift, hc', VR, shrA]
           done)
    · obtain rfl := kEq_ok hk
      have hg : ∀ op, (eqGuard op t px py (.int k a) (.int k b)).run P w = .ok () w := fun op => by cases op <;> simp [eqGuard]
      cases op <;> first
        | (simp [intA, Says, Sem.run_bind, hg, binOp, Op.intBits, VR, andA, xorA]; done)
        | (simp [intA, Says, Sem.run_bind, hg, binOp, Op.intArith, Op.intDiv, Op.intCmp, VR]; done)
        | (simp only [cond_true, intA, Says]; intro hc; simp [hg, binOp, Op.intDiv, hc, VR]; done)
        | trivial
  · rename_i a b
    simp only [VR] at hu hv
    subst hu hv
    have hg : ∀ op, (eqGuard op t px py (.string a) (.string b)).run P w = .ok () w := fun op => by cases op <;> simp [eqGuard]
    cases op <;> first
      | (simp [strA, Says, Sem.run_bind, hg, binOp, Op.stringOp, VR]; done)
      | (simp only [strA, Says]; intro hc; have hc' : ¬ ((a.size + b.size : Nat) : Int) > IntKind.i64.max := by (have : IntKind.i64.max = 9223372036854775807 := by decide); omega
         simp only [Sem.run_bind, hg, binOp, Op.stringOp, Result.andThen_ok, if_neg hc']; exact ⟨_, rfl, rfl⟩)
      | trivial
  · rename_i h1 h2
    clear h1 h2
    have key : ∀ (neg : Bool) (op' : BinOp), (op' = .eql ∧ neg = false ∨ op' = .neq ∧ neg = true) → Says P (do eqGuard op' t px py u v; binOp op' t u v) ι S w (eqA i neg x y) := by
      intro neg op' hop
      unfold eqA
      split
      · rename_i a b
        simp only [VR] at hu hv
        subst hu hv
        cases hd : isBool i.desc
        · exact trivial
        · have hd' : i.desc = .bool := by cases h : i.desc <;> simp_all [isBool]
          have hund := hi.1
          rw [hd'] at hund
          have hg : ∀ op, (eqGuard op t px py (.bool a) (.bool b)).run P w = .ok () w := fun op => by cases op <;> simp [eqGuard]
          rcases hop with ⟨rfl, rfl⟩ | ⟨rfl, rfl⟩ <;> simp [Says, Sem.run_bind, hg, binOp, equal_bool hund, VR]
      · simp only [VR] at hu hv
        obtain ⟨g, _, rfl⟩ := hu
        subst hv
        cases hd : isPtr i.desc
        · exact trivial
        · obtain ⟨el, hd'⟩ : ∃ el, i.desc = .pointer el := by cases h : i.desc <;> simp_all [isPtr]
          have hund := hi.1
          rw [hd'] at hund
          have hg : ∀ (op : BinOp) (a : Option Addr), (eqGuard op t px py (.pointer a) (.pointer none)).run P w = .ok () w := fun op a => by cases op <;> simp [eqGuard]
          rcases hop with ⟨rfl, rfl⟩ | ⟨rfl, rfl⟩ <;> simp [Says, Sem.run_bind, hg, binOp, equal_nil hund, VR]
      · simp only [VR] at hu hv
        obtain ⟨g, o, c, ty, fz, rfl, _⟩ := hu
        subst hv
        cases hd : isPtr i.desc
        · exact trivial
        · obtain ⟨el, hd'⟩ : ∃ el, i.desc = .pointer el := by cases h : i.desc <;> simp_all [isPtr]
          have hund := hi.1
          rw [hd'] at hund
          have hg : ∀ (op : BinOp) (a : Option Addr), (eqGuard op t px py (.pointer a) (.pointer none)).run P w = .ok () w := fun op a => by cases op <;> simp [eqGuard]
          rcases hop with ⟨rfl, rfl⟩ | ⟨rfl, rfl⟩ <;> simp [Says, Sem.run_bind, hg, binOp, equal_nil hund, VR]
      · simp only [VR] at hu hv
        subst hu hv
        cases hd : isPtr i.desc
        · exact trivial
        · obtain ⟨el, hd'⟩ : ∃ el, i.desc = .pointer el := by cases h : i.desc <;> simp_all [isPtr]
          have hund := hi.1
          rw [hd'] at hund
          have hg : ∀ (op : BinOp) (a : Option Addr), (eqGuard op t px py (.pointer a) (.pointer none)).run P w = .ok () w := fun op a => by cases op <;> simp [eqGuard]
          rcases hop with ⟨rfl, rfl⟩ | ⟨rfl, rfl⟩ <;> simp [Says, Sem.run_bind, hg, binOp, equal_nils hund, VR]
      · exact trivial
    cases op <;> first | exact trivial | exact key false _ (.inl ⟨rfl, rfl⟩) | exact key true _ (.inr ⟨rfl, rfl⟩)
theorem unA_ok (op : UnOp) {x : AV} {u : Value} (hu : VR ι S w x u) : Says P (Op.unary op u) ι S w (unA op x) := by
  unfold unA
  split
  · simp only [VR] at hu
    subst hu
    simp [Says, Op.unary, VR]
  · simp only [VR] at hu
    subst hu
    simp [Says, Op.unary, Op.intArith, VR]
  · exact trivial
end

/-! ### Places, parts, lengths -/
def isSl : TypeDesc → Bool
  | .slice _ => true
  | _ => false
def slElem : TypeDesc → Nat
  | .slice e => e
  | _ => 0
def fieldsOf : TypeDesc → List Field
  | .struct fs => fs.toList
  | _ => []
def fieldAddrA (te : TE) (i : TI) (f : Nat) (x : AV) : Rs := match nth (fieldsOf i.desc) f with
  | some fd => match ti te fd.type with
    | some j => bif j.size == 0 then .bad else match x with
      | .p n o => .val (.p n (o + fd.offset))
      | .tp cs o => .val (.tp cs (o + fd.offset))
      | _ => .bad
    | none => .bad
  | none => .bad
def indexAddrA (te : TE) (i : TI) (x y : AV) : Rs := match y with
  | .v (.int _ n) => bif isSl i.desc then match ti te (slElem i.desc) with
    | some j => match x with
      | .sl m o len e => bif e == j.size then .need (0 ≤ n ∧ n < len) (.p m (o + n.toNat * e)) else .bad
      | .ts len cs => .need (0 ≤ n ∧ n < len ∧ 0 < cs.length) (.tp cs (n.toNat * j.size))
      | _ => .bad
    | none => .bad else .bad
  | _ => .bad
def lenA (i : TI) : AV → Rs
  | .sl _ _ len _ => bif isSl i.desc then .val (.v (.int .i64 len)) else .bad
  | .ts len _ => bif isSl i.desc then .val (.v (.int .i64 len)) else .bad
  | .v (.slice _ n _) => bif isSl i.desc then .val (.v (.int .i64 n)) else .bad
  | .v (.string s) => bif isStr i.desc then .val (.v (.int .i64 s.size)) else .bad
  | _ => .bad
def extractA (x : AV) (k : Nat) : Rs := match x with
  | .tup cs => match nth cs k with
    | some y => .val y
    | none => .bad
  | _ => .bad
def nilCheckA : AV → Rs
  | .p n o => .val (.p n o)
  | .tp cs o => .val (.tp cs o)
  | _ => .bad
def intOf? : TypeDesc → Option IntKind
  | .int k => some k
  | _ => none
def convA (i : TI) : AV → Rs
  | .v (.int _ n) => match i.desc with
    | .int k => .val (.v (.int k (k.wrap n)))
    | _ => .bad
  | _ => .bad
section
variable {P : Program} {ι : Nat → Option Nat} {S : Nat → Prop} {w : World} {σ : Sto} {te : TE}
theorem toList_nth {α : Type} {a : Array α} {n : Nat} {x : α} (h : nth a.toList n = some x) : a[n]? = some x := by
  rw [nth_eq] at h
  simpa using h
theorem add_addr (g o k : Nat) : (⟨g, o, none⟩ : Addr).add k = ⟨g, o + k, none⟩ := Addr.add_mid g o k
theorem fieldAddrA_ok (hte : TEok P te) {t : TypeId} {i : TI} (hi : i.ok P t) (f : Nat) {x : AV} {u : Value} (hu : VR ι S w x u) : Says P (Instr.fieldAt t u f) ι S w (fieldAddrA te i f x) := by
  unfold fieldAddrA
  split
  · rename_i fd hf
    split
    · rename_i j hj
      cases hz : (j.size == 0)
      · rw [cond_false]
        have hz' : j.size ≠ 0 := by simpa using hz
        have hs : ∃ fs, i.desc = .struct fs ∧ fs[f]? = some fd := by
          cases hd : i.desc <;> rw [hd] at hf <;> first | exact ⟨_, rfl, toList_nth hf⟩ | (simp [fieldsOf, nth] at hf)
        obtain ⟨fs, hd, hfs⟩ := hs
        have hund := hi.1
        rw [hd] at hund
        have key : ∀ (g o : Nat), (Instr.fieldAt t (.pointer (some ⟨g, o, none⟩)) f).run P w = .ok (.pointer (some ⟨g, o + fd.offset, none⟩)) w := fun g o => by
          simp [Instr.fieldAt, run_underlying hund, hfs, Instr.sureAddr, fieldPlace, ok_sizeOf (hte _ _ hj) w, hz', add_addr]
        split
        · simp only [VR] at hu
          obtain ⟨g, h1, rfl⟩ := hu
          exact ⟨_, key g _, by simp only [VR]; exact ⟨g, h1, rfl⟩⟩
        · simp only [VR] at hu
          obtain ⟨g, o, c, ty, fz, rfl, h2, h3, h4⟩ := hu
          exact ⟨_, key g _, by simp only [VR]; exact ⟨g, o, c, ty, fz, by rw [Nat.add_assoc], h2, h3, h4⟩⟩
        · exact trivial
      · exact trivial
    · exact trivial
  · exact trivial
theorem indexAddrA_ok (hte : TEok P te) {t : TypeId} {i : TI} (hi : i.ok P t) {x y : AV} {u v : Value} (hu : VR ι S w x u) (hv : VR ι S w y v) : Says P (Instr.indexAt t u v) ι S w (indexAddrA te i x y) := by
  unfold indexAddrA
  split
  · rename_i k n
    simp only [VR] at hv
    subst hv
    cases hs : isSl i.desc
    · exact trivial
    · rw [cond_true]
      obtain ⟨el, hd⟩ : ∃ el, i.desc = .slice el := by cases h : i.desc <;> simp_all [isSl]
      have hund := hi.1
      rw [hd] at hund ⊢
      simp only [slElem]
      split
      · rename_i j hj
        have hsz := ok_sizeOf (hte _ _ hj) w
        have key : ∀ (g o len cap : Nat), 0 ≤ n ∧ n < (len : Int) → (Instr.indexAt t (.slice (some ⟨g, o, none⟩) len cap) (.int k n)).run P w = .ok (.pointer (some ⟨g, o + n.toNat * j.size, none⟩)) w := fun g o len cap hc => by
          simp [Instr.indexAt, asIntOf, run_underlying hund, hc.1, hc.2, hsz, add_addr]
        split
        · rename_i m o len e
          cases he : (e == j.size)
          · exact trivial
          · have he' : e = j.size := by simpa using he
            subst he'
            rw [cond_true]
            intro hc
            simp only [VR] at hu
            obtain ⟨A, cap, rfl, h3, h4⟩ := hu
            rcases h4 with h4 | ⟨g, c, ty, rfl, h1, _, _⟩
            · omega
            · exact ⟨_, key g o len cap hc, by simp only [VR]; exact ⟨g, h1, rfl⟩⟩
        · rename_i len cs
          rintro ⟨c1, c2, c3⟩
          simp only [VR] at hu
          obtain ⟨A, cap, rfl, h2, h3⟩ := hu
          rcases h3 with h3 | ⟨g, o, c, ty, fz, rfl, h4, h5, h6⟩
          · subst h3; simp at c3
          · exact ⟨_, key g o len cap ⟨c1, c2⟩, by simp only [VR]; exact ⟨g, o, c, ty, fz, rfl, h4, h5, h6⟩⟩
        · exact trivial
      · exact trivial
  · exact trivial
theorem lenA_ok {t : TypeId} {i : TI} (hi : i.ok P t) {x : AV} {u : Value} (hu : VR ι S w x u) (ats : Array TypeId) (ty : TypeId) (ha : ats[0]? = some t) : Says P (Builtin.len_ ats ty #[u]) ι S w (lenA i x) := by
  have hsl : isSl i.desc = true → ∃ el, P.underlying t = some (.slice el) := fun h => by
    obtain ⟨el, hd⟩ : ∃ el, i.desc = .slice el := by cases h' : i.desc <;> simp_all [isSl]
    exact ⟨el, hd ▸ hi.1⟩
  have hst : isStr i.desc = true → P.underlying t = some .string := fun h => by
    have hd : i.desc = .string := by cases h' : i.desc <;> simp_all [isStr]
    exact hd ▸ hi.1
  unfold lenA
  split
  · rename_i a b len d
    simp only [VR] at hu
    obtain ⟨A, cap, rfl, _⟩ := hu
    cases hb : isSl i.desc
    · exact trivial
    · obtain ⟨el, h⟩ := hsl hb
      exact ⟨.int .i64 (len : Int), by simp [Builtin.len_, ha, run_underlying h, goInt], by simp only [VR]⟩
  · rename_i len cs
    simp only [VR] at hu
    obtain ⟨A, cap, rfl, _⟩ := hu
    cases hb : isSl i.desc
    · exact trivial
    · obtain ⟨el, h⟩ := hsl hb
      exact ⟨.int .i64 (len : Int), by simp [Builtin.len_, ha, run_underlying h, goInt], by simp only [VR]⟩
  · rename_i a len c
    simp only [VR] at hu
    subst hu
    cases hb : isSl i.desc
    · exact trivial
    · obtain ⟨el, h⟩ := hsl hb
      exact ⟨.int .i64 (len : Int), by simp [Builtin.len_, ha, run_underlying h, goInt], by simp only [VR]⟩
  · rename_i s
    simp only [VR] at hu
    subst hu
    cases hb : isStr i.desc
    · exact trivial
    · exact ⟨.int .i64 (s.size : Int), by simp [Builtin.len_, ha, run_underlying (hst hb), goInt], by simp only [VR]⟩
  · exact trivial
theorem VRe.get {xs : List AV} {us : List Value} (h : VRe ι S w xs us) {k : Nat} {x : AV} (hx : nth xs k = some x) : ∃ u, us[k]? = some u ∧ VR ι S w x u := (VRl.ofE h).nth hx
theorem extractA_ok {x : AV} {u : Value} (hu : VR ι S w x u) (k : Nat) : Says P (Instr.extract u k) ι S w (extractA x k) := by
  unfold extractA
  split
  · rename_i cs
    split
    · rename_i y hy
      simp only [VR] at hu
      obtain ⟨c, rfl, h⟩ := hu
      obtain ⟨v, h1, h2⟩ := h.get hy
      have h1' : c[k]? = some v := by simpa using h1
      exact ⟨v, by simp [Instr.extract, h1'], h2⟩
    · exact trivial
  · exact trivial
theorem convA_ok {t s : TypeId} {i j : TI} (hi : i.ok P t) (hj : j.ok P s) {x : AV} {u : Value} (hu : VR ι S w x u) : Says P (convert s t u) ι S w (convA i x) := by
  unfold convA
  split
  · rename_i k n
    simp only [VR] at hu
    subst hu
    split
    · rename_i k' hk
      have hund := hi.1
      rw [hk] at hund
      refine ⟨.int k' (k'.wrap n), ?_, by simp only [VR]⟩
      unfold convert
      simp only [Sem.run_bind, ok_und hj w, run_underlying hund, Result.andThen_ok]
      cases j.desc <;> rfl
    · exact trivial
  · exact trivial
end

/-! ### Slices of slices, structs built, new blocks -/
def loA : Option AV → Option Int
  | none => some 0
  | some (.v (.int _ n)) => some n
  | _ => none
def hiA (len : Nat) : Option AV → Option Int
  | none => some len
  | some (.v (.int _ n)) => some n
  | _ => none
def sliceR (te : TE) (i : TI) (x : AV) (l : Int) (h : Option AV) : Rs := match x with
  | .sl m o len e => match hiA len h, ti te (slElem i.desc) with
    | some h, some j => bif isSl i.desc && e == j.size then .need (0 ≤ l ∧ l ≤ h ∧ h ≤ len) (.sl m (o + l.toNat * e) (h.toNat - l.toNat) e) else .bad
    | _, _ => .bad
  | .ts len cs => match hiA len h, ti te (slElem i.desc) with
    | some h, some j => bif isSl i.desc then .need (0 ≤ l ∧ l ≤ h ∧ h ≤ len) (.ts (h.toNat - l.toNat) ((cs.drop (l.toNat * j.size)).take ((h.toNat - l.toNat) * j.size))) else .bad
    | _, _ => .bad
  | .v (.string s) => match hiA s.size h with
    | some h => bif isStr i.desc then .need (0 ≤ l ∧ l ≤ h ∧ h ≤ s.size) (.v (.string (s.extract l.toNat h.toNat))) else .bad
    | _ => .bad
  | _ => .bad
def sliceA (te : TE) (i : TI) (x : AV) (lo hi : Option AV) : Rs := match loA lo with
  | some l => sliceR te i x l hi
  | none => .bad
section
variable {P : Program} {ι : Nat → Option Nat} {S : Nat → Prop} {w : World} {σ : Sto} {te : TE}
def VRo (ι : Nat → Option Nat) (S : Nat → Prop) (w : World) : Option AV → Option Value → Prop
  | none, none => True
  | some x, some u => VR ι S w x u
  | _, _ => False
theorem loA_ok {x : Option AV} {u : Option Value} (h : VRo ι S w x u) {l : Int} (hl : loA x = some l) : u = none ∧ l = 0 ∨ ∃ k, u = some (.int k l) := by
  cases x with
  | none =>
    cases u with
    | none =>
      simp only [loA, Option.some.injEq] at hl
      exact .inl ⟨rfl, hl.symm⟩
    | some _ => exact h.elim
  | some x =>
    cases u with
    | none => exact h.elim
    | some u =>
      unfold loA at hl
      split at hl
      · rename_i h'
        cases h'
      · rename_i k n h'
        injection h' with h'
        subst h'
        injection hl with hl
        subst hl
        have h2 : VR ι S w (.v (.int k n)) u := h
        simp only [VR] at h2
        exact .inr ⟨k, by rw [h2]⟩
      · cases hl
theorem hiA_ok {x : Option AV} {u : Option Value} {len : Nat} (h : VRo ι S w x u) {l : Int} (hl : hiA len x = some l) : u = none ∧ l = len ∨ ∃ k, u = some (.int k l) := by
  cases x with
  | none =>
    cases u with
    | none =>
      simp only [hiA, Option.some.injEq] at hl
      exact .inl ⟨rfl, hl.symm⟩
    | some _ => exact h.elim
  | some x =>
    cases u with
    | none => exact h.elim
    | some u =>
      unfold hiA at hl
      split at hl
      · rename_i h'
        cases h'
      · rename_i k n h'
        injection h' with h'
        subst h'
        injection hl with hl
        subst hl
        have h2 : VR ι S w (.v (.int k n)) u := h
        simp only [VR] at h2
        exact .inr ⟨k, by rw [h2]⟩
      · cases hl
theorem bounds_ok (b : Bool) {len cap : Nat} {lo hi : Option Value} {l h : Int} (hlo : lo = none ∧ l = 0 ∨ ∃ k, lo = some (.int k l)) (hhi : hi = none ∧ h = len ∨ ∃ k, hi = some (.int k h)) (h0 : 0 ≤ l) (h1 : l ≤ h) (h2 : h ≤ cap) :
    (Instr.sliceBounds b len cap lo hi none).run P w = .ok (l.toNat, h.toNat, cap) w := by
  have h3 : 0 ≤ h := Int.le_trans h0 h1
  have eh : (h.toNat : Int) = h := Int.toNat_of_nonneg h3
  rcases hlo with ⟨rfl, rfl⟩ | ⟨k, rfl⟩ <;> rcases hhi with ⟨rfl, rfl⟩ | ⟨k', rfl⟩ <;> simp_all [Instr.sliceBounds, run_sliceBound]
theorem sliceA_ok (hte : TEok P te) {t : TypeId} {i : TI} (hi : i.ok P t) {x : AV} {u : Value} (hu : VR ι S w x u) {lo hi' : Option AV} {ulo uhi : Option Value} (hlo : VRo ι S w lo ulo) (hhi : VRo ι S w hi' uhi) :
    Says P (Instr.sliceAt t u ulo uhi none) ι S w (sliceA te i x lo hi') := by
  unfold sliceA
  cases hl : loA lo with
  | none => exact trivial
  | some l =>
    have hl' := loA_ok hlo hl
    simp only
    unfold sliceR
    split
    · rename_i m o len e
      split
      · rename_i h j hh hj
        cases hb : (isSl i.desc && e == j.size)
        · exact trivial
        · rw [cond_true]
          simp only [Bool.and_eq_true, beq_iff_eq] at hb
          obtain ⟨hb, rfl⟩ := hb
          obtain ⟨el, hd⟩ : ∃ el, i.desc = .slice el := by cases h : i.desc <;> simp_all [isSl]
          have hund := hi.1
          rw [hd] at hund hj
          simp only [slElem] at hj
          rintro ⟨c1, c2, c3⟩
          simp only [VR] at hu
          obtain ⟨A, cap, rfl, h3, h4⟩ := hu
          have hbd := bounds_ok (P := P) (w := w) true (len := len) (cap := cap) hl' (hiA_ok hhi hh) c1 c2 (by omega)
          have hsz := ok_sizeOf (hte _ _ hj) w
          refine ⟨.slice (if cap = l.toNat then A else A.map (·.add (l.toNat * j.size))) (h.toNat - l.toNat) (cap - l.toNat), ?_, ?_⟩
          · simp [Instr.sliceAt, Instr.slice, run_underlying hund, hbd, hsz]
          · simp only [VR]
            refine ⟨_, _, rfl, by omega, ?_⟩
            by_cases e : cap = l.toNat
            · exact .inl (by omega)
            · rcases h4 with h4 | ⟨g, c, ty, rfl, h1, h5, h6⟩
              · omega
              · refine .inr ⟨g, c, ty, by rw [if_neg e]; simp [add_addr], h1, h5, ?_⟩
                have : l.toNat * j.size + (cap - l.toNat) * j.size = cap * j.size := by
                  rw [← Nat.add_mul]
                  congr 1
                  omega
                omega
      · exact trivial
    · rename_i len cs
      split
      · rename_i h j hh hj
        cases hb : isSl i.desc
        · exact trivial
        · rw [cond_true]
          obtain ⟨el, hd⟩ : ∃ el, i.desc = .slice el := by cases h : i.desc <;> simp_all [isSl]
          have hund := hi.1
          rw [hd] at hund hj
          simp only [slElem] at hj
          rintro ⟨c1, c2, c3⟩
          simp only [VR] at hu
          obtain ⟨A, cap, rfl, h2, h3⟩ := hu
          have hbd := bounds_ok (P := P) (w := w) true (len := len) (cap := cap) hl' (hiA_ok hhi hh) c1 c2 (by omega)
          have hsz := ok_sizeOf (hte _ _ hj) w
          refine ⟨.slice (if cap = l.toNat then A else A.map (·.add (l.toNat * j.size))) (h.toNat - l.toNat) (cap - l.toNat), ?_, ?_⟩
          · simp [Instr.sliceAt, Instr.slice, run_underlying hund, hbd, hsz]
          · simp only [VR]
            refine ⟨_, _, rfl, by omega, ?_⟩
            rcases h3 with h3 | ⟨g, o, c, ty, fz, rfl, h4, h5, h6⟩
            · subst h3; simp
            · by_cases e : cap = l.toNat
              · refine .inl ?_
                rw [show h.toNat - l.toNat = 0 by omega, Nat.zero_mul, List.take_zero]
              · rw [if_neg e]
                refine .inr ⟨g, o + l.toNat * j.size, c, ty, fz, by simp [add_addr], h4, h5, ?_⟩
                rw [← List.drop_drop]
                exact VRl.take _ (VRl.drop _ h6)
      · exact trivial
    · rename_i s
      split
      · rename_i h hh
        cases hb : isStr i.desc
        · exact trivial
        · rw [cond_true]
          have hd : i.desc = .string := by cases h' : i.desc <;> simp_all [isStr]
          have hund := hi.1
          rw [hd] at hund
          rintro ⟨c1, c2, c3⟩
          simp only [VR] at hu
          subst hu
          have hbd := bounds_ok (P := P) (w := w) false (len := s.size) (cap := s.size) hl' (hiA_ok hhi hh) c1 c2 c3
          exact ⟨.string (s.extract l.toNat h.toNat), by simp [Instr.sliceAt, Instr.slice, run_underlying hund, hbd], by simp only [VR]⟩
      · exact trivial
    · exact trivial
end
/-- The cells of a zero value. -/
def zeroA (i : TI) : List AV := i.zero.cells.toList.map .v
def fillA (place : Nat → Option (Nat × Nat)) : List AV → List (Nat × AV) → Option (List AV)
  | cs, [] => some cs
  | cs, (i, x) :: r => match place i with
    | some (off, size) => bif x.cells.length == size && Nat.ble (off + size) cs.length then fillA place (sets cs off x.cells) r else none
    | none => none
def placesA (te : TE) : List Field → Option (List (Nat × Nat))
  | [] => some []
  | f :: r => match ti te f.type, placesA te r with
    | some j, some ps => some ((f.offset, j.size) :: ps)
    | _, _ => none
def isStruct : TypeDesc → Bool
  | .struct _ => true
  | _ => false
def buildA (te : TE) (i : TI) (parts : List (Nat × AV)) : Rs := bif isStruct i.desc then match placesA te (fieldsOf i.desc) with
  | some ps => match fillA (nth ps) (zeroA i) parts with
    | some cs => .val (.agg cs)
    | none => .bad
  | none => .bad else .bad
def repA (n : Nat) (cs : List AV) : List AV := (List.replicate n cs).flatten
def buildSliceA (te : TE) (i : TI) (nm len : Nat) (parts : List (Nat × AV)) : Rs := bif isSl i.desc then match ti te (slElem i.desc) with
  | some j => bif Nat.ble (len * j.size) 16777216 && (zeroA j).length == j.size && !(j.size == 0) then match fillA (fun k => some (k * j.size, j.size)) (repA len (zeroA j)) parts with
    | some cs => .new ⟨slElem i.desc, cs⟩ (.sl nm 0 len j.size)
    | none => .bad else .bad
  | none => .bad else .bad
def makeA (te : TE) (i : TI) (nm : Nat) (x y : AV) : Rs := match x, y with
  | .v (.int _ l), .v (.int _ c) => bif isSl i.desc then match ti te (slElem i.desc) with
    | some j => bif (zeroA j).length == j.size then .newc (0 ≤ l ∧ l = c ∧ (j.bytes : Int) * c ≤ 281474976710656 ∧ c ≤ 9223372036854775807) ⟨slElem i.desc, repA l.toNat (zeroA j)⟩ (.sl nm 0 l.toNat j.size) else .bad
    | none => .bad else .bad
  | _, _ => .bad
def VRp (ι : Nat → Option Nat) (S : Nat → Prop) (w : World) : List (Nat × AV) → List (Nat × Value) → Prop
  | [], us => us = []
  | (i, x) :: r, us => ∃ u us', us = (i, u) :: us' ∧ VR ι S w x u ∧ VRp ι S w r us'
section
variable {P : Program} {ι : Nat → Option Nat} {S : Nat → Prop} {w : World} {σ : Sto} {te : TE}
theorem VRe.set {xs : List AV} {us : List Value} (i : Nat) {x : AV} {u : Value} (H : VRe ι S w xs us) (h : VR ι S w x u) : VRe ι S w (xs.set i x) (us.set i u) := by
  have h1 := VRl.set i (VRl.ofE H) h
  have h2 := VRl.toE h1
  have e : (us.set i u).take (xs.set i x).length = us.set i u := by
    apply List.take_of_length_le
    simp [VRe.len H]
  rw [e] at h2
  exact h2
theorem foldl_sets : ∀ {ys : List AV} {vs : List Value} {xs : List AV} {a : Array Value} (off j : Nat), VRe ι S w ys vs → VRe ι S w xs a.toList →
    VRe ι S w (sets xs (off + j) ys) ((vs.zipIdx j).foldl (fun cs (c, j) => cs.setIfInBounds (off + j) c) a).toList ∧ ((vs.zipIdx j).foldl (fun cs (c, j) => cs.setIfInBounds (off + j) c) a).size = a.size
  | [], vs, xs, a, off, j, h, H => by
    simp only [VRe] at h
    subst h
    exact ⟨H, rfl⟩
  | y :: ys, vs, xs, a, off, j, h, H => by
    simp only [VRe] at h
    obtain ⟨v, r, rfl, h1, h2⟩ := h
    have h3 : VRe ι S w (xs.set (off + j) y) (a.setIfInBounds (off + j) v).toList := by
      simpa using VRe.set (off + j) H h1
    have := foldl_sets (off := off) (j + 1) h2 h3
    simp only [List.zipIdx_cons, List.foldl_cons, sets, setN_eq]
    refine ⟨this.1, ?_⟩
    rw [this.2]
    simp
theorem fillA_ok {pl pl' : Nat → Option (Nat × Nat)} (hp : ∀ n x, pl n = some x → pl' n = some x) : ∀ {ps : List (Nat × AV)} {us : List (Nat × Value)} {xs ys : List AV} {a : Array Value}, VRp ι S w ps us → VRe ι S w xs a.toList → fillA pl xs ps = some ys →
    ∃ c, Instr.fill pl' a us = some c ∧ VRe ι S w ys c.toList
  | [], us, xs, ys, a, h, H, hf => by
    simp only [VRp] at h
    subst h
    simp only [fillA, Option.some.injEq] at hf
    subst hf
    exact ⟨a, rfl, H⟩
  | (i, x) :: ps, us, xs, ys, a, h, H, hf => by
    simp only [VRp] at h
    obtain ⟨u, us', rfl, h1, h2⟩ := h
    unfold fillA at hf
    split at hf
    · rename_i off size hpl
      cases hb : (x.cells.length == size && Nat.ble (off + size) xs.length)
      · rw [hb] at hf; cases hf
      · rw [hb, cond_true] at hf
        simp only [Bool.and_eq_true, beq_iff_eq, Nat.ble_eq] at hb
        have hcs := VR.cells h1
        have hl := VRe.len hcs
        have hl2 := VRe.len H
        simp only [Array.length_toList] at hl hl2
        have h3 := foldl_sets off 0 hcs H
        rw [Nat.add_zero] at h3
        obtain ⟨c, h4, h5⟩ := fillA_ok hp h2 h3.1 hf
        refine ⟨c, ?_, h5⟩
        unfold Instr.fill
        rw [hp _ _ hpl]
        have e1 : ¬ (u.cells.size ≠ size || off + u.cells.size > a.size) = true := by
          simp
          omega
        simp only
        rw [if_neg e1]
        have e2 : (u.cells.zipIdx.foldl (fun cs (c, j) => cs.setIfInBounds (off + j) c) a) = ((u.cells.toList.zipIdx 0).foldl (fun cs (c, j) => cs.setIfInBounds (off + j) c) a) := by
          rw [← Array.foldl_toList]
          simp
        rw [e2]
        exact h4
    · cases hf
theorem zeroA_ok (i : TI) : VRe ι S w (zeroA i) i.zero.cells.toList := VRe_v _
theorem placesA_ok (hte : TEok P te) : ∀ {fs : List Field} {ps : List (Nat × Nat)}, placesA te fs = some ps → (fs.mapM fun f => (do pure (f.offset, ← sizeOf f.type) : Sem (Nat × Nat))).run P w = .ok ps w
  | [], ps, h => by
    simp only [placesA, Option.some.injEq] at h
    subst h
    simp
  | f :: fs, ps, h => by
    unfold placesA at h
    split at h
    · rename_i j qs h1 h2
      injection h with h
      subst h
      have := placesA_ok hte h2
      simp only [List.mapM_cons, Sem.run_bind, ok_sizeOf (hte _ _ h1) w, Result.andThen_ok, Sem.run_pure, this]
    · cases h
theorem buildA_ok (hte : TEok P te) {t : TypeId} {i : TI} (hi : i.ok P t) {ps : List (Nat × AV)} {us : List (Nat × Value)} (h : VRp ι S w ps us) : Says P (Instr.build t us.toArray) ι S w (buildA te i ps) := by
  unfold buildA
  cases hs : isStruct i.desc
  · exact trivial
  · rw [cond_true]
    obtain ⟨fs, hd⟩ : ∃ fs, i.desc = .struct fs := by cases h : i.desc <;> simp_all [isStruct]
    have hund := hi.1
    rw [hd] at hund ⊢
    simp only [fieldsOf]
    split
    · rename_i qs hq
      split
      · rename_i cs hc
        obtain ⟨c, h1, h2⟩ := fillA_ok (pl' := (qs.toArray[·]?)) (fun n x hx => by rw [nth_eq] at hx; simpa using hx) h (zeroA_ok i) hc
        refine ⟨.agg c, ?_, by simp only [VR]; exact ⟨c, rfl, h2⟩⟩
        have hm := placesA_ok (w := w) hte hq
        have hm' : (fs.mapM fun f => (do pure (f.offset, ← sizeOf f.type) : Sem (Nat × Nat))).run P w = .ok qs.toArray w := by
          rw [Array.mapM_eq_mapM_toList, Sem.run_map, hm]
          rfl
        simp only [Instr.build, Sem.run_bind, ok_zero hi w, run_underlying hund, Result.andThen_ok, hm', h1, Sem.run_pure]
      · exact trivial
    · exact trivial
theorem VRe.rep {xs : List AV} {us : List Value} (H : VRe ι S w xs us) : ∀ n, VRe ι S w (repA n xs) (List.replicate n us).flatten
  | 0 => by simp [repA, VRe]
  | n + 1 => by
    have := VRe.rep H n
    simp only [repA, List.replicate_succ, List.flatten_cons] at this ⊢
    exact VRe.append H this
theorem made_toList (z : Array Value) (n : Nat) : (madeCells z (n * z.size)).toList = (List.replicate n z.toList).flatten := by
  induction n with
  | zero => simp [madeCells]
  | succ n ih =>
    apply List.ext_getElem?
    intro k
    have key : ∀ m k : Nat, k < m * z.size → (madeCells z (m * z.size)).toList[k]? = some z[k % z.size]! := fun m k h => by simp [madeCells, h]
    rw [List.replicate_succ, List.flatten_cons]
    by_cases h : k < z.size
    · rw [List.getElem?_append_left (by simpa using h), key (n + 1) k (by rw [Nat.add_mul]; omega), Nat.mod_eq_of_lt h]
      simp [h]
    · rw [List.getElem?_append_right (by simpa using h), ← ih]
      simp only [Array.length_toList]
      by_cases h2 : k < (n + 1) * z.size
      · have h3 : k - z.size < n * z.size := by rw [Nat.add_mul] at h2; omega
        rw [key (n + 1) k h2, key n _ h3]
        have : k % z.size = (k - z.size) % z.size := by
          rw [Nat.mod_eq_sub_mod (by omega)]
        rw [this]
      · have h3 : ¬ k - z.size < n * z.size := by rw [Nat.add_mul] at h2; omega
        simp [madeCells, h2, h3]
end

/-! ### New blocks -/
structure Adds (σ : Sto) (nm : Nat) (b : Blk) (σ' : Sto) : Prop where
  free : σ[nm]? = none ∨ σ[nm]? = some .fresh
  there : σ'[nm]? = some (.live b)
  else_ : ∀ n, n ≠ nm → σ'[n]? = σ[n]?
  len : σ.length ≤ σ'.length
theorem Adds.last (σ : Sto) (b : Blk) : Adds σ σ.length b (σ ++ [.live b]) :=
  ⟨.inl (by simp), by simp, fun n h => by
    rcases Nat.lt_or_ge n σ.length with h1 | h1
    · rw [List.getElem?_append_left h1]
    · rw [List.getElem?_eq_none_iff.2 (by simp; omega), List.getElem?_eq_none_iff.2 h1], by simp⟩
def Makes (P : Program) (s : Sem Value) (σ : Sto) (ι : Nat → Option Nat) (S : Nat → Prop) (w : World) (σ' : Sto) (x : AV) : Prop :=
  ∃ u w' ι', s.run P w = .ok u w' ∧ Step σ ι S w σ' ι' S w' ∧ VR ι' S w' x u
section
variable {P : Program} {ι : Nat → Option Nat} {S : Nat → Prop} {w : World} {σ σ' : Sto} {te : TE} {nm : Nat}
def pushed (w : World) (c : Array Value) (t : TypeId) : World := { w with heap := w.heap.push (.cells c t) }
theorem run_row (t : TypeId) (c : Array Value) : (newRow t c).run P w = .ok ⟨w.heap.size, 0, none⟩ (pushed w c t) := rfl
theorem made (H : SR ι S σ w) {b : Blk} (hA : Adds σ nm b σ') {c : Array Value} (hc : VRl ι S w b.cells c.toList) :
    Step σ ι S w σ' (fun n => if n = nm then some w.heap.size else ι n) S (pushed w c b.ty) ∧ (pushed w c b.ty).heap[w.heap.size]? = some (Obj.cells c b.ty (0, 0)) :=
  ⟨Step.make H hA.free rfl rfl rfl rfl hc hA.there hA.else_ hA.len, by show (w.heap.push _)[w.heap.size]? = _; simp⟩
theorem made_p (H : SR ι S σ w) {b : Blk} (hA : Adds σ nm b σ') {c : Array Value} (hc : VRl ι S w b.cells c.toList) {s : Sem Value}
    (hr : s.run P w = .ok (.pointer (some ⟨w.heap.size, 0, none⟩)) (pushed w c b.ty)) : Makes P s σ ι S w σ' (.p nm 0) :=
  ⟨_, _, _, hr, (made H hA hc).1, by simp only [VR]; exact ⟨w.heap.size, by simp, rfl⟩⟩
theorem made_sl (H : SR ι S σ w) {b : Blk} (hA : Adds σ nm b σ') {c : Array Value} (hc : VRl ι S w b.cells c.toList) {s : Sem Value} {len cap e : Nat} (hl : len ≤ cap) (hz : cap * e ≤ c.size)
    (hr : s.run P w = .ok (.slice (some ⟨w.heap.size, 0, none⟩) len cap) (pushed w c b.ty)) : Makes P s σ ι S w σ' (.sl nm 0 len e) :=
  ⟨_, _, _, hr, (made H hA hc).1, by simp only [VR]; exact ⟨_, cap, rfl, hl, .inr ⟨w.heap.size, c, b.ty, rfl, by simp, (made H hA hc).2, by omega⟩⟩⟩
theorem alloc_ok {t : TypeId} {i : TI} (hi : i.ok P t) (H : SR ι S σ w) (hA : Adds σ nm ⟨t, zeroA i⟩ σ') (v : Value) : Makes P (Instr.alloc t true v) σ ι S w σ' (.p nm 0) := by
  refine made_p H hA (c := i.zero.cells) (VRl.ofE (zeroA_ok i)) ?_
  simp only [Instr.alloc, Sem.run_bind, ok_zero hi w, Result.andThen_ok, newVar]
  cases v <;> rfl
theorem box_ok (t : TypeId) (H : SR ι S σ w) {x : AV} {u : Value} (hu : VR ι S w x u) (hA : Adds σ nm ⟨t, x.cells⟩ σ') : Makes P (Instr.box t u) σ ι S w σ' (.p nm 0) :=
  made_p H hA (c := u.cells) (VRl.ofE (VR.cells hu)) rfl
theorem buildSliceA_raw (hte : TEok P te) {t : TypeId} {i : TI} (hi : i.ok P t) {len : Nat} {ps : List (Nat × AV)} {us : List (Nat × Value)} (h : VRp ι S w ps us) {b : Blk} {x : AV} (hb : buildSliceA te i nm len ps = .new b x) :
    ∃ (c : Array Value) (es : Nat), x = .sl nm 0 len es ∧ VRl ι S w b.cells c.toList ∧ len * es ≤ c.size ∧ (Instr.buildSlice t len us.toArray).run P w = .ok (.slice (some ⟨w.heap.size, 0, none⟩) len len) (pushed w c b.ty) := by
  unfold buildSliceA at hb
  cases hs : isSl i.desc
  · rw [hs] at hb; cases hb
  · rw [hs, cond_true] at hb
    obtain ⟨el, hd⟩ : ∃ el, i.desc = .slice el := by cases h : i.desc <;> simp_all [isSl]
    have hund := hi.1
    rw [hd] at hund hb
    simp only [slElem] at hb
    split at hb
    · rename_i j hj
      cases hc : (Nat.ble (len * j.size) 16777216 && (zeroA j).length == j.size && !(j.size == 0))
      · rw [hc] at hb; cases hb
      · rw [hc, cond_true] at hb
        simp only [Bool.and_eq_true, Nat.ble_eq, beq_iff_eq, Bool.not_eq_true', beq_eq_false_iff_ne] at hc
        obtain ⟨⟨c1, c2⟩, c3⟩ := hc
        split at hb
        · rename_i cs hf
          injection hb with h1 h2
          subst h1 h2
          have hz : j.zero.cells.size = j.size := by rw [← c2]; simp [zeroA]
          have hm : VRe ι S w (repA len (zeroA j)) (madeCells j.zero.cells (len * j.size)).toList := by
            rw [← hz, made_toList]
            exact VRe.rep (zeroA_ok j) len
          obtain ⟨c, h3, h4⟩ := fillA_ok (fun _ _ h => h) h hm hf
          have hjk := hte _ _ hj
          have hlen : cs.length = len * j.size := by
            have : ∀ (pl : Nat → Option (Nat × Nat)) (ps : List (Nat × AV)) (xs ys : List AV), fillA pl xs ps = some ys → ys.length = xs.length := by
              intro pl ps
              induction ps with
              | nil => intro xs ys h; simp only [fillA, Option.some.injEq] at h; rw [h]
              | cons p ps ih =>
                intro xs ys h
                obtain ⟨a, x⟩ := p
                unfold fillA at h
                split at h
                · cases hb : (x.cells.length == _ && Nat.ble _ xs.length)
                  · rw [hb] at h; cases h
                  · rw [hb, cond_true] at h
                    rw [ih _ _ h, sets_len]
                · cases h
            rw [this _ _ _ _ hf]
            simp [repA, c2]
          have hcl : c.size = len * j.size := by
            have := VRe.len h4
            simp only [Array.length_toList] at this
            omega
          refine ⟨c, j.size, rfl, VRl.ofE h4, by omega, ?_⟩
          have n1 : ¬ len * j.size > 2 ^ 24 := by omega
          simp only [Instr.buildSlice, Sem.run_bind, run_underlying hund, Result.andThen_ok, ok_sizeOf hjk w, if_neg n1]
          have fin : ∀ z : Array Value, (Array.range (len * j.size)).map (fun x => z[x % z.size]!) = madeCells j.zero.cells (len * j.size) →
              (match Instr.fill (fun i => some (i * j.size, j.size)) ((Array.range (len * j.size)).map (fun x => z[x % z.size]!)) us with
                | some cells => (do pure (.slice (some (← newRow el cells)) len len) : Sem Value)
                | x => stuck "buildSlice: a part of the wrong size").run P w = .ok (.slice (some ⟨w.heap.size, 0, none⟩) len len) (pushed w c el) := fun z e => by
            rw [e, h3]
            rfl
          by_cases hn : len * j.size = 0
          · rw [if_pos hn]
            exact fin #[] (by rw [hn]; simp [madeCells])
          · rw [if_neg hn]
            simp only [Sem.run_bind, ok_zero hjk w, Result.andThen_ok, Sem.run_pure]
            exact fin j.zero.cells rfl
        · cases hb
    · cases hb
theorem buildSliceA_ok (hte : TEok P te) {t : TypeId} {i : TI} (hi : i.ok P t) (H : SR ι S σ w) {len : Nat} {ps : List (Nat × AV)} {us : List (Nat × Value)} (h : VRp ι S w ps us) {b : Blk} {x : AV} (hb : buildSliceA te i nm len ps = .new b x) (hA : Adds σ nm b σ') :
    Makes P (Instr.buildSlice t len us.toArray) σ ι S w σ' x := by
  obtain ⟨c, es, rfl, h1, h2, h3⟩ := buildSliceA_raw hte hi h hb
  exact made_sl H hA (c := c) (cap := len) h1 (Nat.le_refl _) h2 h3
theorem makeA_ok (hte : TEok P te) {t : TypeId} {i : TI} (hi : i.ok P t) (H : SR ι S σ w) {x y : AV} {u v : Value} (hu : VR ι S w x u) (hv : VR ι S w y v) {c : Prop} {b : Blk} {r : AV} (hb : makeA te i nm x y = .newc c b r) (hc : c) (hA : Adds σ nm b σ') :
    Makes P (Instr.makeSlice t u v) σ ι S w σ' r := by
  unfold makeA at hb
  split at hb
  · rename_i k l k' l'
    simp only [VR] at hu hv
    subst hu hv
    cases hs : isSl i.desc
    · rw [hs] at hb; cases hb
    · rw [hs, cond_true] at hb
      obtain ⟨el, hd⟩ : ∃ el, i.desc = .slice el := by cases h : i.desc <;> simp_all [isSl]
      have hund := hi.1
      rw [hd] at hund hb
      simp only [slElem] at hb
      split at hb
      · rename_i j hj
        cases hl : ((zeroA j).length == j.size)
        · rw [hl] at hb; cases hb
        · rw [hl, cond_true] at hb
          injection hb with h1 h2 h3
          subst h1 h2 h3
          obtain ⟨c1, rfl, c3, c4⟩ := hc
          have hz : j.zero.cells.size = j.size := by have : (zeroA j).length = j.size := by simpa using hl
                                                     rw [← this]; simp [zeroA]
          obtain ⟨_, inf, i1, i2, i3, i4⟩ := hte _ _ hj
          have hr := run_make (P := P) w t el inf j.zero hund i1 i4 k k' l l c1 (Int.le_refl _) (by rw [i3]; exact c3) c4
          have hm : VRe ι S w (repA l.toNat (zeroA j)) (madeCells j.zero.cells (l.toNat * j.size)).toList := by
            rw [← hz, made_toList]
            exact VRe.rep (zeroA_ok j) _
          rw [i2] at hr
          exact made_sl H hA (c := madeCells j.zero.cells (l.toNat * j.size)) (cap := l.toNat) (VRl.ofE hm) (Nat.le_refl _) (by rw [size_madeCells]; exact Nat.le_refl _) hr
      · cases hb
  · cases hb
end

/-! ### A slice that holds nothing; append -/
theorem Step.virt {ι : Nat → Option Nat} {S : Nat → Prop} {w : World} {σ σ' : Sto} (H : SR ι S σ w) {nm : Nat} {t : TypeId} (hA : Adds σ nm ⟨t, []⟩ σ') : Step σ ι S w σ' ι S w := by
  have hfree := H.top nm hA.free
  have lv : ∀ n x, σ'[n]? = some (En.live x) → n = nm ∨ n ≠ nm ∧ σ[n]? = some (En.live x) := fun n x h => by
    by_cases e : n = nm
    · exact .inl e
    · exact .inr ⟨e, (hA.else_ n e) ▸ h⟩
  refine ⟨⟨?_, ?_, ?_, H.imm, ?_⟩, ⟨rfl, rfl, rfl, Nat.le_refl _, fun _ _ _ => rfl, fun _ c ty fz h => ⟨c, h, rfl⟩, fun _ h => h, ?_, fun _ h => .inl h, hA.len, ?_⟩, fun _ _ h => h⟩
  · intro n x h
    rcases lv n x h with rfl | ⟨_, h1⟩
    · rw [hA.there] at h
      injection h with h
      injection h with h
      subst h
      exact .inl ⟨hfree, rfl⟩
    · exact H.blk n x h1
  · intro n m x y g hx hy hn hm
    rcases lv n x hx with rfl | ⟨_, h1⟩
    · rw [hfree] at hn; cases hn
    · rcases lv m y hy with rfl | ⟨_, h2⟩
      · rw [hfree] at hm; cases hm
      · exact H.inj n m x y g h1 h2 hn hm
  · intro n x g hx hn
    rcases lv n x hx with rfl | ⟨_, h1⟩
    · rw [hfree] at hn; cases hn
    · exact H.own n x g h1 hn
  · intro n hn
    by_cases e : n = nm
    · exact e ▸ hfree
    · rw [hA.else_ n e] at hn
      exact H.top n hn
  · rintro k ⟨n, x, hx, hn⟩
    rcases lv n x hx with rfl | ⟨_, h1⟩
    · rw [hfree] at hn; cases hn
    · exact .inr ⟨n, x, h1, hn⟩
  · intro n hn
    by_cases e : n = nm
    · subst e
      rcases hA.free with h | h
      · have := List.getElem?_eq_none_iff.1 h
        omega
      · exact ⟨fun _ => h, fun _ _ => .inl h⟩
    · rw [hA.else_ n e]
      exact ⟨fun h => h, fun x hx => .inr ⟨rfl, x, hx⟩⟩
/-- A name gives its block to another name; the block's cells may change. -/
theorem Step.swap {ι : Nat → Option Nat} {S : Nat → Prop} {w w' : World} {σ σ' : Sto} (H : SR ι S σ w) {n nm g : Nat} {b b' : Blk} {c c' : Array Value} (hb : σ[n]? = some (.live b)) (hg : ι n = some g)
    (hc0 : w.heap[g]? = some (.cells c b.ty (0, 0))) (hsz : c'.size = c.size) (hty : b'.ty = b.ty) (hw : ∀ k, w'.heap[k]? = if k = g then some (.cells c' b.ty (0, 0)) else w.heap[k]?) (hhs : w'.heap.size = w.heap.size)
    (ho : w'.os = w.os) (ht : w'.tape = w.tape) (hp : w'.output = w.output) (hc : VRl ι S w b'.cells c'.toList)
    (hfr : σ[nm]? = none ∨ σ[nm]? = some .fresh) (h0 : σ'[n]? = some .dead) (h1 : σ'[nm]? = some (.live b')) (h2 : ∀ m, m ≠ nm → m ≠ n → σ'[m]? = σ[m]?) (h3 : σ.length ≤ σ'.length) :
    Step σ ι S w σ' (fun m => if m = nm then some g else ι m) S w' := by
  have hfree := H.top nm hfr
  have hs : ¬ S g := H.own n b g hb hg
  have hk : ∀ k, k ≠ g → w'.heap[k]? = w.heap[k]? := fun k h => by rw [hw, if_neg h]
  have hz : ∀ (k : Nat) (d : Array Value) (ty : TypeId) (fz : Nat × Nat), w.heap[k]? = some (.cells d ty fz) → ∃ d', w'.heap[k]? = some (Obj.cells d' ty fz) ∧ d'.size = d.size := fun k d ty fz h => by
    by_cases e : k = g
    · subst e
      rw [hc0] at h
      injection h with h
      injection h with h1 h2 h3
      subst h1 h2 h3
      exact ⟨c', by rw [hw, if_pos rfl], hsz⟩
    · exact ⟨d, (hk k e).trans h, rfl⟩
  have hnam : ∀ m k, ι m = some k → (if m = nm then some g else ι m) = some k := fun m k h => by
    rw [if_neg (fun e => by rw [e, hfree] at h; cases h)]
    exact h
  have M : Mov ι (fun m => if m = nm then some g else ι m) S S w w' := ⟨hnam, fun _ h => h, fun k h => hk k (fun e => hs (e ▸ h)), hz⟩
  have lv : ∀ m x, σ'[m]? = some (En.live x) → m = nm ∨ m ≠ nm ∧ m ≠ n ∧ σ[m]? = some (En.live x) := fun m x h => by
    by_cases e : m = nm
    · exact .inl e
    · have e2 : m ≠ n := fun e2 => by rw [e2, h0] at h; cases h
      exact .inr ⟨e, e2, (h2 m e e2) ▸ h⟩
  have ow : ∀ m k x, σ'[m]? = some (En.live x) → (if m = nm then some g else ι m) = some k → Ow ι σ k := fun m k x hx hm => by
    rcases lv m x hx with rfl | ⟨e, _, h4⟩
    · rw [if_pos rfl] at hm
      injection hm with hm
      exact ⟨n, b, hb, hm ▸ hg⟩
    · rw [if_neg e] at hm
      exact ⟨m, x, h4, hm⟩
  refine ⟨⟨?_, ?_, ?_, fun k h => by rw [hhs]; exact H.imm k h, ?_⟩, ⟨ho, ht, hp, Nat.le_of_eq hhs.symm, fun k _ ho => hk k (fun e => ho ⟨n, b, hb, e ▸ hg⟩), hz, fun _ h => h, ?_, fun _ h => .inl h, h3, ?_⟩, hnam⟩
  · intro m x h
    rcases lv m x h with rfl | ⟨e, e2, h4⟩
    · rw [h1] at h
      injection h with h
      injection h with h
      subst h
      exact .inr ⟨g, c', if_pos rfl, by rw [hw, if_pos rfl, hty], VRl.mov M _ _ hc⟩
    · rcases H.blk m x h4 with ⟨e3, e4⟩ | ⟨k, d, e3, e4, e5⟩
      · exact .inl ⟨(if_neg e).trans e3, e4⟩
      · refine .inr ⟨k, d, hnam m k e3, ?_, VRl.mov M _ _ e5⟩
        rw [hk k (fun h' => e2 (H.inj m n x b g h4 hb (h' ▸ e3) hg))]
        exact e4
  · intro m m' x y k hx hy hm hm'
    have hm1 : (if m = nm then some g else ι m) = some k := hm
    have hm2 : (if m' = nm then some g else ι m') = some k := hm'
    rcases lv m x hx with rfl | ⟨e, e2, h4⟩ <;> rcases lv m' y hy with rfl | ⟨e', e2', h4'⟩
    · rfl
    · rw [if_pos rfl] at hm1
      rw [if_neg e'] at hm2
      injection hm1 with hm1
      subst hm1
      exact absurd (H.inj m' n y b _ h4' hb hm2 hg) e2'
    · rw [if_pos rfl] at hm2
      rw [if_neg e] at hm1
      injection hm2 with hm2
      subst hm2
      exact absurd (H.inj m n x b _ h4 hb hm1 hg) e2
    · rw [if_neg e] at hm1
      rw [if_neg e'] at hm2
      exact H.inj m m' x y k h4 h4' hm1 hm2
  · intro m x k hx hm
    obtain ⟨m', x', h5, h6⟩ := ow m k x hx hm
    exact H.own m' x' k h5 h6
  · intro m hm
    show (if m = nm then some g else ι m) = none
    by_cases e : m = nm
    · rw [e, h1] at hm
      rcases hm with hm | hm <;> cases hm
    · rw [if_neg e]
      by_cases e2 : m = n
      · rw [e2, h0] at hm
        rcases hm with hm | hm <;> cases hm
      · rw [h2 m e e2] at hm
        exact H.top m hm
  · rintro k ⟨m, x, hx, hm⟩
    exact .inr (ow m k x hx hm)
  · intro m hm
    by_cases e : m = nm
    · rw [e]
      rcases hfr with h | h
      · have := List.getElem?_eq_none_iff.1 h
        omega
      · exact ⟨fun _ => h, fun _ _ => .inl h⟩
    · refine ⟨fun h => ?_, fun x hx => ?_⟩
      · by_cases e2 : m = n
        · rw [e2, h0] at h; cases h
        · rw [h2 m e e2] at h
          exact h
      · rcases lv m x hx with e2 | ⟨_, _, h4⟩
        · exact absurd e2 e
        · exact .inr ⟨if_neg e, x, h4⟩
def setA (c : Array Value) (o : Nat) : List Value → Array Value
  | [] => c
  | v :: r => setA (c.setIfInBounds o v) (o + 1) r
theorem setA_size : ∀ (vs : List Value) (c : Array Value) (o : Nat), (setA c o vs).size = c.size
  | [], _, _ => rfl
  | v :: r, c, o => by
    unfold setA
    rw [setA_size r]
    simp
theorem setA_toList : ∀ (vs : List Value) (c : Array Value) (o : Nat), o + vs.length ≤ c.size → (setA c o vs).toList = c.toList.take o ++ (vs ++ c.toList.drop (o + vs.length))
  | [], c, o, _ => by simp [setA]
  | v :: r, c, o, h => by
    simp only [List.length_cons] at h
    unfold setA
    rw [setA_toList r _ (o + 1) (by simp; omega)]
    have hl : o < c.toList.length := by simp; omega
    have e1 : (c.setIfInBounds o v).toList = c.toList.set o v := by simp
    rw [e1, List.take_set, List.drop_set]
    have e2 : (c.toList.take (o + 1)).set o v = c.toList.take o ++ [v] := by
      rw [List.take_succ_eq_append_getElem hl, List.set_append_right _ _ (by simp; omega)]
      simp
      have : o - min o c.size = 0 := by simp at hl; omega
      rw [this]
      rfl
    rw [e2, if_pos (by omega)]
    simp
    congr 1
    omega
theorem heap_setCells {g : Nat} : ∀ (vs : List Value) (w : World) (o : Nat) {c : Array Value} {ty : TypeId} {fz : Nat × Nat}, w.heap[g]? = some (Obj.cells c ty fz) →
    (∀ k, (w.setCells g o vs).heap[k]? = if k = g then some (Obj.cells (setA c o vs) ty fz) else w.heap[k]?) ∧ (w.setCells g o vs).heap.size = w.heap.size ∧ (w.setCells g o vs).os = w.os ∧ (w.setCells g o vs).tape = w.tape ∧ (w.setCells g o vs).output = w.output
  | [], w, o, c, ty, fz, h => ⟨fun k => by
      by_cases e : k = g
      · subst e; rw [if_pos rfl]; exact h
      · rw [if_neg e]; rfl, rfl, rfl, rfl, rfl⟩
  | v :: r, w, o, c, ty, fz, h => by
    have h1 := heap_setCell w g o v h
    have hg : (w.setCell ⟨g, o, none⟩ v).heap[g]? = some (Obj.cells (c.setIfInBounds o v) ty fz) := by rw [h1, if_pos rfl]
    obtain ⟨h2, h3, h4, h5, h6⟩ := heap_setCells r (w.setCell ⟨g, o, none⟩ v) (o + 1) hg
    have hsz : (w.setCell ⟨g, o, none⟩ v).heap.size = w.heap.size := by unfold World.setCell; split <;> simp
    refine ⟨fun k => ?_, h3.trans hsz, h4.trans ?_, h5.trans ?_, h6.trans ?_⟩
    · show ((w.setCell ⟨g, o, none⟩ v).setCells g (o + 1) r).heap[k]? = _
      rw [h2 k]
      by_cases e : k = g
      · rw [if_pos e, if_pos e]; rfl
      · rw [if_neg e, if_neg e, h1, if_neg e]
    · unfold World.setCell; split <;> rfl
    · unfold World.setCell; split <;> rfl
    · unfold World.setCell; split <;> rfl
/-- What an append takes up. -/
def srcA (σ : Sto) (e : Nat) : AV → Option (Nat × List AV)
  | .sl m o l _ => match nth σ m with
    | some (.live b) => some (l, (b.cells.drop o).take (l * e))
    | _ => none
  | .ts l cs => some (l, cs.take (l * e))
  | .v (.slice none 0 0) => some (0, [])
  | .v (.string s) => some (s.size, s.data.toList.map fun b => .v (.int .u8 b.toNat))
  | _ => none
def srcOk (e : Nat) (d : TypeDesc) : AV → Bool
  | .sl _ _ _ e' => isSl d && e' == e
  | .v (.string _) => isStr d && e == 1
  | _ => isSl d
section
variable {P : Program} {ι : Nat → Option Nat} {S : Nat → Prop} {w : World} {σ σ' : Sto} {te : TE} {nm : Nat}
theorem src_ok (H : SR ι S σ w) {tx : TypeId} {d : TypeDesc} (hk : P.underlying tx = some d) {e : Nat} {x : AV} {u : Value} (hu : VR ι S w x u) {l : Nat} {ys : List AV} (hs : srcA σ e x = some (l, ys)) (hd : srcOk e d x = true)
    (hl : ys.length = l * e) (h1 : ones ys = true) : ∃ news, Src P e tx u l news w ∧ VRe ι S w ys news := by
  have hsl : isSl d = true → ∃ e', P.underlying tx = some (.slice e') := fun h => by
    obtain ⟨el, hd⟩ : ∃ el, d = .slice el := by cases h' : d <;> simp_all [isSl]
    exact ⟨el, hd ▸ hk⟩
  have fin : ∀ (e' : TypeId) (g o : Nat) (cap : Nat) (c : Array Value) (ty : TypeId) (fz : Nat × Nat) (zs : List AV), P.underlying tx = some (.slice e') → w.heap[g]? = some (Obj.cells c ty fz) → VRl ι S w zs (c.toList.drop o) → ys = zs.take (l * e) →
      ∃ news, Src P e tx (.slice (some ⟨g, o, none⟩) l cap) l news w ∧ VRe ι S w ys news := by
    intro e' g o cap c ty fz zs hu h2 h3 h4
    have h5 := VRl.toE (VRl.take (l * e) h3)
    rw [← h4, hl] at h5
    refine ⟨_, Src.ofSlice w hu _ _ _ _ ?_ ?_ (ones_ok h5 h1), h5⟩
    · rw [VRe.len h5, hl]
    · intro j v hj
      rw [Addr.add_mid, cell_at h2, ← Array.getElem?_toList]
      rw [List.getElem?_take] at hj
      split at hj
      · rw [List.getElem?_drop] at hj
        exact hj
      · cases hj
  unfold srcA at hs
  split at hs
  · rename_i m o l' e'
    simp only [nth_eq] at hs
    split at hs
    · rename_i b hb
      injection hs with hs
      injection hs with h2 h3
      subst h2
      simp only [srcOk, Bool.and_eq_true, beq_iff_eq] at hd
      obtain ⟨el, hun⟩ := hsl hd.1
      simp only [VR] at hu
      obtain ⟨A, cap, rfl, h4, h5⟩ := hu
      have hE : ∀ (A : Option Addr), l' = 0 → ∃ news, Src P e tx (.slice A l' cap) l' news w ∧ VRe ι S w ys news := fun A h0 => by
        subst h0
        have : ys = [] := List.eq_nil_of_length_eq_zero (by rw [hl, Nat.zero_mul])
        subst this
        cases A with
        | none => exact ⟨[], Src.ofNil w hun _, by simp only [VRe]⟩
        | some a => exact ⟨[], Src.ofSlice w hun a 0 cap [] (by simp) (by simp) (by simp), by simp only [VRe]⟩
      rcases h5 with h5 | ⟨g, c, ty, rfl, h6, h7, _⟩
      · exact hE A (by omega)
      · rcases H.blk m b hb with ⟨h8, _⟩ | ⟨g', c', h8, h9, h10⟩
        · rw [h8] at h6; cases h6
        · rw [h8] at h6
          injection h6 with h6
          subst h6
          exact fin el g' o cap c' _ _ (b.cells.drop o) hun h9 (VRl.drop o h10) h3.symm
    · cases hs
  · rename_i l' cs
    injection hs with hs
    injection hs with h2 h3
    subst h2
    have hd' : isSl d = true := hd
    obtain ⟨el, hun⟩ := hsl hd'
    simp only [VR] at hu
    obtain ⟨A, cap, rfl, h4, h5⟩ := hu
    rcases h5 with h5 | ⟨g, o, c, ty, fz, rfl, _, h6, h7⟩
    · subst h5
      simp only [List.take_nil] at h3
      subst h3
      have h0 : l' * e = 0 := by simpa using hl.symm
      have hlen : ([] : List Value).length = l' * e := by simp [h0]
      cases A with
      | none =>
        refine ⟨[], ⟨.inl ⟨el, hun⟩, fun _ => rfl, ?_, ?_, hlen, by simp⟩, by simp only [VRe]⟩ <;> simp [Builtin.firstCells]
      | some a => exact ⟨[], Src.ofSlice w hun a l' cap [] hlen (by simp) (by simp), by simp only [VRe]⟩
    · exact fin el g o cap c ty fz cs hun h6 h7 h3.symm
  · injection hs with hs
    injection hs with h2 h3
    subst h2 h3
    have hd' : isSl d = true := hd
    obtain ⟨el, hun⟩ := hsl hd'
    simp only [VR] at hu
    subst hu
    exact ⟨[], Src.ofNil w hun 0, by simp only [VRe]⟩
  · rename_i s
    injection hs with hs
    injection hs with h2 h3
    subst h2 h3
    simp only [srcOk, Bool.and_eq_true, beq_iff_eq] at hd
    obtain ⟨hd, rfl⟩ := hd
    have hd' : d = .string := by cases h' : d <;> simp_all [isStr]
    subst hd'
    simp only [VR] at hu
    subst hu
    refine ⟨_, Src.ofString w hk s, ?_⟩
    have : (s.data.toList.map fun b => AV.v (.int .u8 b.toNat)) = (byteCells s).map .v := by simp [byteCells]
    rw [this]
    exact VRe_v _
  · cases hs
/-- append(s, x..): the old name is gone, a new one stands for the whole. -/
theorem append_ok (hte : TEok P te) {t tx : TypeId} {i : TI} {j : TI} {d : TypeDesc} (hi : i.ok P t) {el : TypeId} (hd : i.desc = .slice el) (hj : ti te el = some j) (hx : P.underlying tx = some d) (H : SR ι S σ w)
    {n len : Nat} {b : Blk} (hb : σ[n]? = some (.live b)) (hty : b.ty = el) {x : AV} {u v : Value} (hu : VR ι S w (.sl n 0 len j.size) u) (hv : VR ι S w x v) {l : Nat} {ys : List AV} (hs : srcA σ j.size x = some (l, ys)) (hso : srcOk j.size d x = true)
    (hl : ys.length = l * j.size) (h1 : ones ys = true) (hlen : len * j.size ≤ b.cells.length) (hbd : 2 * (len + l) * j.bytes ≤ 281474976710656) (h63 : len + l ≤ 9223372036854775807) (hjz : j.zero.cells.size = j.size)
    (hfr : σ[nm]? = none ∨ σ[nm]? = some .fresh) (h0 : σ'[n]? = some .dead) (h2 : σ'[nm]? = some (.live ⟨el, b.cells.take (len * j.size) ++ ys⟩)) (h3 : ∀ m, m ≠ nm → m ≠ n → σ'[m]? = σ[m]?) (h4 : σ.length ≤ σ'.length) (ty : TypeId) :
    Makes P (Builtin.append_ #[t, tx] ty #[u, v]) σ ι S w σ' (.sl nm 0 (len + l) j.size) := by
  obtain ⟨news, hsrc, hnews⟩ := src_ok H hx hv hs hso hl h1
  obtain ⟨_, inf, i1, i2, i3, i4⟩ := hte _ _ hj
  have hund := hi.1
  rw [hd] at hund
  have hnl : news.length = l * j.size := by rw [VRe.len hnews, hl]
  have hnn : nm ≠ n := fun e => by
    rw [e, hb] at hfr
    rcases hfr with h | h <;> cases h
  have hsrc' : Src P inf.size tx v l news w := i2 ▸ hsrc
  simp only [VR] at hu
  obtain ⟨A, cap, rfl, hlc, hA⟩ := hu
  -- the old name away first
  by_cases hroom : len + l ≤ cap
  · rcases hA with h0' | ⟨g, c, ty', rfl, hg, hc0, hcap⟩
    · -- nothing at all
      have hlen0 : len = 0 := by omega
      have hl0 : l = 0 := by omega
      subst hlen0 hl0 h0'
      have hys : ys = [] := List.eq_nil_of_length_eq_zero (by rw [hl, Nat.zero_mul])
      subst hys
      have hnews0 : news = [] := List.eq_nil_of_length_eq_zero (by rw [hnl, Nat.zero_mul])
      subst hnews0
      have hr := run_append_nothing w t tx ty el inf hund i1 A 0 0 (Nat.le_refl _) v hsrc'
      -- by way of a store without the old name
      let σm : Sto := σ.set n .dead
      have hnl' : n < σ.length := (List.getElem?_eq_some_iff.1 hb).1
      have sm : Step σ ι S w σm ι S w := by
        have lv : ∀ m z, σm[m]? = some (En.live z) → m ≠ n ∧ σ[m]? = some (En.live z) := fun m z h => by
          by_cases e : m = n
          · subst e
            have : σm[m]? = some En.dead := by simp [σm, hnl']
            rw [this] at h; cases h
          · exact ⟨e, by rw [← h]; exact (List.getElem?_set_ne (Ne.symm e)).symm⟩
        refine ⟨⟨fun m z h => H.blk m z (lv m z h).2, fun m m' z z' k h h' => H.inj m m' z z' k (lv m z h).2 (lv m' z' h').2, fun m z k h => H.own m z k (lv m z h).2, H.imm, fun m hm => ?_⟩, ⟨rfl, rfl, rfl, Nat.le_refl _, fun _ _ _ => rfl, fun _ c ty fz h => ⟨c, h, rfl⟩, fun _ h => h, ?_, fun _ h => .inl h, by simp [σm], ?_⟩, fun _ _ h => h⟩
        · by_cases e : m = n
          · subst e
            have : σm[m]? = some En.dead := by simp [σm, hnl']
            rw [this] at hm
            rcases hm with hm | hm <;> cases hm
          · have : σm[m]? = σ[m]? := List.getElem?_set_ne (Ne.symm e)
            rw [this] at hm
            exact H.top m hm
        · rintro k ⟨m, z, h, hk⟩
          exact .inr ⟨m, z, (lv m z h).2, hk⟩
        · intro m _
          refine ⟨fun h => ?_, fun z hz => .inr ⟨rfl, z, (lv m z hz).2⟩⟩
          by_cases e : m = n
          · subst e
            have : σm[m]? = some En.dead := by simp [σm, hnl']
            rw [this] at h; cases h
          · have : σm[m]? = σ[m]? := List.getElem?_set_ne (Ne.symm e)
            rw [this] at h
            exact h
      have hA' : Adds σm nm ⟨el, []⟩ σ' := by
        refine ⟨?_, by simpa using h2, fun m hm => ?_, by simpa [σm] using h4⟩
        · have : σm[nm]? = σ[nm]? := List.getElem?_set_ne (Ne.symm hnn)
          rw [this]; exact hfr
        · by_cases e : m = n
          · subst e
            rw [h0]
            simp [σm, hnl']
          · rw [h3 m hm e]
            exact (List.getElem?_set_ne (Ne.symm e)).symm
      refine ⟨_, w, ι, hr, sm.trans (Step.virt sm.sr hA'), ?_⟩
      simp only [VR]
      exact ⟨A, 0, rfl, Nat.le_refl _, .inl rfl⟩
    · -- there is room
      rcases H.blk n b hb with ⟨e1, _⟩ | ⟨g', c', e1, e2, e3⟩
      · rw [e1] at hg; cases hg
      rw [e1] at hg
      injection hg with hg
      subst hg
      rw [hc0] at e2
      injection e2 with e2
      injection e2 with q1 q2 q3
      subst q1
      have hfit : len * j.size + news.length ≤ c.size := by
        rw [hnl, ← Nat.add_mul]
        have := Nat.mul_le_mul_right j.size hroom
        omega
      have hr := run_append_room_src w t tx ty el inf hund i1 g' 0 len cap v l news hsrc' hroom
        (fun k hk => by rw [cell_at hc0]; rw [i2]; have : 0 + len * j.size + k < c.size := by omega
                        rw [Array.getElem?_eq_getElem this]; rfl)
        (fun k hk => by simp [World.frozen?, hc0])
      rw [i2, Nat.zero_add] at hr
      obtain ⟨w1, w2, w3, w4, w5⟩ := heap_setCells news w (len * j.size) hc0
      have hVR : VRl ι S w (b.cells.take (len * j.size) ++ ys) (setA c (len * j.size) news).toList := by
        rw [setA_toList _ _ _ hfit]
        have k1 := VRl.toE (VRl.take (len * j.size) e3)
        rw [List.length_take, Nat.min_eq_left hlen] at k1
        refine VRl.append k1 ?_
        have k2 := VRl.append (ys := []) (vs := c.toList.drop (len * j.size + news.length)) hnews (by simp only [VRl])
        simpa using k2
      have hs2 := Step.swap (b' := ⟨el, b.cells.take (len * j.size) ++ ys⟩) H hb e1 (by rw [hc0, ← q2]) (setA_size _ _ _) hty.symm (by rw [← q2]; exact w1) w2 w3 w4 w5 hVR hfr h0 h2 h3 h4
      refine ⟨_, _, _, hr, hs2, ?_⟩
      simp only [VR]
      refine ⟨_, cap, rfl, hroom, .inr ⟨g', setA c (len * j.size) news, ty', rfl, by simp, by rw [w1, if_pos rfl], ?_⟩⟩
      rw [setA_size]
      exact hcap
  · -- a new row
    have hcs : cap < len + l := by omega
    have holds : ∃ olds, (∀ w' : World, w'.heap = w.heap → (Builtin.firstCells j.size len (.slice A len cap)).run P w' = .ok olds.toArray w') ∧ VRe ι S w (b.cells.take (len * j.size)) olds ∧ olds.length = len * j.size := by
      rcases hA with h0' | ⟨g, c, ty', rfl, hg, hc0, hcap⟩
      · have hlen0 : len = 0 := by omega
        subst hlen0
        refine ⟨[], fun w' _ => ?_, by simp [VRe], by simp⟩
        cases A with
        | none => rfl
        | some a => simp [Builtin.firstCells, loadCells, loadCellsFrom]
      · rcases H.blk n b hb with ⟨e1, _⟩ | ⟨g', c', e1, e2, e3⟩
        · rw [e1] at hg; cases hg
        rw [e1] at hg
        injection hg with hg
        subst hg
        have k1 := VRl.toE (VRl.take (len * j.size) e3)
        rw [List.length_take, Nat.min_eq_left hlen] at k1
        have k2 : (c'.toList.take (len * j.size)).length = len * j.size := by rw [VRe.len k1, List.length_take, Nat.min_eq_left hlen]
        refine ⟨_, fun w' hw' => ?_, k1, k2⟩
        have hh : w'.heap[g']? = some (Obj.cells c' b.ty (0, 0)) := by rw [hw']; exact e2
        have := run_loadCells_list (P := P) w' ⟨g', 0, none⟩ (c'.toList.take (len * j.size)) (fun k z hk => by
          rw [Addr.add_mid, cell_at hh, ← Array.getElem?_toList, Nat.zero_add]
          rw [List.getElem?_take] at hk
          split at hk
          · exact hk
          · cases hk)
        rw [k2] at this
        exact this
    obtain ⟨olds, ho1, ho2, ho3⟩ := holds
    have hbd' : Builtin.nextslicecap (len + l) cap * inf.bytes ≤ 281474976710656 := by
      rw [i3]
      exact Nat.le_trans (Nat.mul_le_mul_right _ (nextslicecap_le hcs)) hbd
    have hr := run_append_grow_src w t tx ty el inf j.zero hund i1 i4 A len cap olds (by rw [i2]; exact ho1 _ rfl) v l news hsrc' hcs (by omega) hbd'
    have hge := grownCap_ge w (len + l) cap el
    let cN : Array Value := (olds ++ news).toArray ++ Builtin.zeroCells j.zero.cells (grownCap w (len + l) cap el - (len + l))
    have hcN : cN.size = grownCap w (len + l) cap el * j.size := by
      have e1 : cN.size = (olds.length + news.length) + (grownCap w (len + l) cap el - (len + l)) * j.zero.cells.size := by
        simp [cN, size_zeroCells]
      rw [e1, ho3, hnl, hjz, ← Nat.add_mul, ← Nat.add_mul]
      congr 1
      omega
    have hVR : VRl ι S w (b.cells.take (len * j.size) ++ ys) cN.toList := by
      have k2 := VRl.append (ys := []) (vs := (Builtin.zeroCells j.zero.cells (grownCap w (len + l) cap el - (len + l))).toList) (VRe.append ho2 hnews) (by simp only [VRl])
      simpa [cN] using k2
    -- the new block, then the old name away
    have hd0 := Step.drew H (w.drawn + 1)
    let σ1 : Sto := σ'.set n (.live b)
    have hnl' : n < σ'.length := (List.getElem?_eq_some_iff.1 h0).1
    have hA1 : Adds σ nm ⟨el, b.cells.take (len * j.size) ++ ys⟩ σ1 := by
      refine ⟨hfr, ?_, fun m hm => ?_, by simpa [σ1] using h4⟩
      · have : σ1[nm]? = σ'[nm]? := List.getElem?_set_ne (Ne.symm hnn)
        rw [this]; exact h2
      · by_cases e : m = n
        · subst e
          rw [hb]
          simp [σ1, hnl']
        · have : σ1[m]? = σ'[m]? := List.getElem?_set_ne (Ne.symm e)
          rw [this, h3 m hm e]
    have hVR' : VRl ι S { w with drawn := w.drawn + 1 } (b.cells.take (len * j.size) ++ ys) cN.toList := VRl.mov (hd0.mov H) _ _ hVR
    have hm := made (b := ⟨el, b.cells.take (len * j.size) ++ ys⟩) hd0.sr hA1 hVR'
    have s2 := hd0.trans hm.1
    -- away
    have s3 : Step σ1 (fun m => if m = nm then some w.heap.size else ι m) S (pushed { w with drawn := w.drawn + 1 } cN el) σ' (fun m => if m = nm then some w.heap.size else ι m) S (pushed { w with drawn := w.drawn + 1 } cN el) := by
      have H1 := s2.sr
      have hn1 : σ1[n]? = some (.live b) := by simp [σ1, hnl']
      have ne1 : ∀ m, m ≠ n → σ1[m]? = σ'[m]? := fun m h => List.getElem?_set_ne (Ne.symm h)
      have lv : ∀ m z, σ'[m]? = some (En.live z) → σ1[m]? = some (En.live z) := fun m z h => by
        have e : m ≠ n := fun e => by rw [e, h0] at h; cases h
        rw [ne1 m e]; exact h
      refine ⟨⟨fun m z h => H1.blk m z (lv m z h), fun m m' z z' k h h' => H1.inj m m' z z' k (lv m z h) (lv m' z' h'), fun m z k h => H1.own m z k (lv m z h), H1.imm, fun m hm => ?_⟩, ⟨rfl, rfl, rfl, Nat.le_refl _, fun _ _ _ => rfl, fun _ c ty fz h => ⟨c, h, rfl⟩, fun _ h => h, ?_, fun _ h => .inl h, by simp [σ1], ?_⟩, fun _ _ h => h⟩
      · have e : m ≠ n := fun e => by rw [e, h0] at hm; rcases hm with hm | hm <;> cases hm
        rw [← ne1 m e] at hm
        exact H1.top m hm
      · rintro k ⟨m, z, h, hk⟩
        exact .inr ⟨m, z, lv m z h, hk⟩
      · intro m _
        refine ⟨fun h => ?_, fun z hz => .inr ⟨rfl, z, lv m z hz⟩⟩
        have e : m ≠ n := fun e => by rw [e, h0] at h; cases h
        rw [ne1 m e]; exact h
    refine ⟨_, _, _, hr, s2.trans s3, ?_⟩
    simp only [VR]
    exact ⟨_, grownCap w (len + l) cap el, rfl, hge, .inr ⟨w.heap.size, cN, el, rfl, by simp, hm.2, by rw [hcN]; omega⟩⟩
end

/-! ### The walk, computed -/
def appA (te : TE) (i : TI) (d : TypeDesc) (σ : Sto) (s x : AV) : Rs := match s with
  | .sl n o len e => bif o == 0 && isSl i.desc then match nth σ n, ti te (slElem i.desc), srcA σ e x with
    | some (.live b), some j, some (l, ys) => bif b.ty == slElem i.desc && e == j.size && j.zero.cells.size == j.size && srcOk e d x then
        .sv (ys.length = l * e ∧ ones ys = true ∧ len * e ≤ b.cells.length ∧ 2 * (len + l) * j.bytes ≤ 281474976710656 ∧ len + l ≤ 9223372036854775807)
          (setN σ n .dead ++ [.live ⟨slElem i.desc, b.cells.take (len * e) ++ ys⟩]) (.sl σ.length 0 (len + l) e) else .bad
    | _, _, _ => .bad else .bad
  | _ => .bad
def evs (fr : Fr) : List Operand → Option (List AV)
  | [] => some []
  | o :: r => match ev fr o, evs fr r with
    | some x, some xs => some (x :: xs)
    | _, _ => none
def evp (fr : Fr) : List (Nat × Operand) → Option (List (Nat × AV))
  | [] => some []
  | (i, o) :: r => match ev fr o, evp fr r with
    | some x, some xs => some ((i, x) :: xs)
    | _, _ => none
def evo (fr : Fr) : Option Operand → Option (Option AV)
  | none => some none
  | some o => (ev fr o).map some
def o1 (f : AV → Rs) : Option AV → Rs
  | some x => f x
  | none => .bad
def o2 (f : AV → AV → Rs) : Option AV → Option AV → Rs
  | some x, some y => f x y
  | _, _ => .bad
def ot (f : TI → Rs) : Option TI → Rs
  | some i => f i
  | none => .bad
def ol (f : List (Nat × AV) → Rs) : Option (List (Nat × AV)) → Rs
  | some x => f x
  | none => .bad
def rv : Option AV → Rs
  | some x => .val x
  | none => .bad
def rs : Option (Prop × Sto) → Rs
  | some (c, σ) => .sto c σ
  | none => .bad
def pickA : Option AV → Option AV → Option AV → Rs
  | some (.v (.bool true)), some x, _ => .val x
  | some (.v (.bool false)), _, some x => .val x
  | _, _, _ => .bad
def minA : AV → AV → Rs
  | .v (.int k a), .v (.int k' b) => bif kEq k k' then .val (.v (.int k (if b < a then b else a))) else .bad
  | _, _ => .bad
def maxA : AV → AV → Rs
  | .v (.int k a), .v (.int k' b) => bif kEq k k' then .val (.v (.int k (if b > a then b else a))) else .bad
  | _, _ => .bad
def builtA (te : TE) (fr : Fr) (σ : Sto) : Builtin → List Operand → List TypeId → Rs
  | .len, [x], [t] => ot (fun i => o1 (lenA i) (ev fr x)) (ti te t)
  | .append, [s, x], [t, tx] => ot (fun i => ot (fun j => o2 (appA te i j.desc σ) (ev fr s) (ev fr x)) (ti te tx)) (ti te t)
  | .min, [x, y], _ => o2 minA (ev fr x) (ev fr y)
  | .max, [x, y], _ => o2 maxA (ev fr x) (ev fr y)
  | _, _, _ => .bad
def fnA (f : Fn) : Option (List AV) → Option (List AV) → Rs
  | some a, some b => .val (.fn f a b)
  | _, _ => .bad
def sl2 (f : Option AV → Option AV → Rs) : Option (Option AV) → Option (Option AV) → Rs
  | some x, some y => f x y
  | _, _ => .bad
/-! ### Strings: a byte of one, bytes made into one -/
def byteAt (s : ByteArray) (n : Nat) : Int := ((s.data.toList.getD n 0).toNat : Int)
def indexS (i : TI) (x y : AV) : Rs := match x, y with
  | .v (.string s), .v (.int _ n) => bif isStr i.desc then .need (0 ≤ n ∧ n < s.size) (.v (.int .u8 (byteAt s n.toNat))) else .bad
  | _, _ => .bad
def isU8 : TypeDesc → Bool
  | .int .u8 => true
  | _ => false
def u8s : Nat → List AV → Option (List Int)
  | 0, _ => some []
  | n + 1, .v (.int .u8 k) :: r => (u8s n r).map (k :: ·)
  | _, _ => none
def bytesAt (σ : Sto) : AV → Option (List Int)
  | .sl m o l _ => match nth σ m with
    | some (.live b) => u8s l (b.cells.drop o)
    | _ => none
  | .ts l cs => u8s l cs
  | _ => none
def pushAll (ns : List Int) : ByteArray := ns.foldl (fun r n => r.push (UInt8.ofNat n.toNat)) ByteArray.empty
def strS : Option (List Int) → Rs
  | some (n :: ns) => .val (.v (.string (pushAll (n :: ns))))
  | _ => .bad
def convS (te : TE) (j : TI) (σ : Sto) (x : AV) : Rs := match ti te (slElem j.desc) with
  | some q => bif isSl j.desc && (isU8 q.desc && q.size == 1) then strS (bytesAt σ x) else .bad
  | none => .bad
def convD (te : TE) (j i : TI) (σ : Sto) (x : AV) : Rs := bif isStr i.desc then convS te j σ x else convA i x
section
variable {P : Program} {ι : Nat → Option Nat} {S : Nat → Prop} {w : World} {σ : Sto} {te : TE}
theorem indexS_ok {t : TypeId} {i : TI} (hi : i.ok P t) {x y : AV} {u v : Value} (hu : VR ι S w x u) (hv : VR ι S w y v) : Says P (Instr.index t u v) ι S w (indexS i x y) := by
  unfold indexS
  split
  · rename_i s k n
    simp only [VR] at hu hv
    subst hu hv
    cases hs : isStr i.desc
    · exact trivial
    · rw [cond_true]
      have hd : i.desc = .string := by cases h : i.desc <;> simp_all [isStr]
      have hund := hi.1
      rw [hd] at hund
      intro hc
      refine ⟨_, by rw [run_index_string w t s k n hund, dif_pos hc], ?_⟩
      simp only [VR]
      unfold byteAt
      congr 2
      have hlt : n.toNat < s.data.toList.length := by
        have h2 : s.data.toList.length = s.size := Array.length_toList
        rw [h2]; omega
      rw [List.getD_eq_getElem?_getD, List.getElem?_eq_getElem hlt, Option.getD_some, Array.getElem_toList]
      rfl
  · exact trivial
theorem u8s_ok : ∀ {l : Nat} {cs : List AV} {us : List Value} {ns : List Int}, VRl ι S w cs us → u8s l cs = some ns → ns.length = l ∧ ∀ (j : Nat) (v : Value), (ns.map (Value.int .u8))[j]? = some v → us[j]? = some v
  | 0, cs, us, ns, _, h => by
    simp only [u8s, Option.some.injEq] at h
    subst h
    exact ⟨rfl, fun j v hj => by simp at hj⟩
  | l + 1, cs, us, ns, H, h => by
    unfold u8s at h
    split at h
    · rename_i h0; cases h0
    · rename_i l' k r hl
      cases hl
      cases hr : u8s l r with
      | none => rw [hr] at h; cases h
      | some ms =>
        rw [hr] at h
        injection h with h
        subst h
        simp only [VRl] at H
        obtain ⟨v0, us', rfl, h1, h2⟩ := H
        simp only [VR] at h1
        subst h1
        obtain ⟨e1, e2⟩ := u8s_ok h2 hr
        refine ⟨by simp [e1], fun j v hj => ?_⟩
        cases j with
        | zero => simpa using hj
        | succ j => simpa using e2 j v (by simpa using hj)
    · cases h
theorem cells_str (hw : w.heap.size = w.heap.size) {g o : Nat} {c : Array Value} {ty : TypeId} {fz : Nat × Nat} (hg : w.heap[g]? = some (Obj.cells c ty fz)) {cs : List AV} {l cap : Nat} {ns : List Int} (hc : VRl ι S w cs (c.toList.drop o)) (hn : u8s l cs = some ns) {s d e : TypeId} (hs : P.underlying s = some (.slice e)) (he : P.underlying e = some (.int .u8)) (hd : P.underlying d = some .string) :
    (convert s d (.slice (some ⟨g, o, none⟩) l cap)).run P w = .ok (.string (pushAll ns)) w := by
  obtain ⟨e1, e2⟩ := u8s_ok hc hn
  rw [run_convert_bytes_string w s d e (some ⟨g, o, none⟩) l cap hs he hd]
  have hl := run_loadCells_list (P := P) w ⟨g, o, none⟩ (ns.map (Value.int .u8)) (fun j v hj => by
    have h3 := e2 j v hj
    rw [List.getElem?_drop] at h3
    rw [add_addr, cell_at hg]
    simpa using h3)
  simp only [List.length_map, e1] at hl
  rw [run_bytesToString w ⟨g, o, none⟩ l cap ns hl]
  rfl
theorem convS_ok (hte : TEok P te) (H : SR ι S σ w) {t s : TypeId} {i j : TI} (hi : i.ok P t) (hj : j.ok P s) (hst : isStr i.desc = true) {x : AV} {u : Value} (hu : VR ι S w x u) : Says P (convert s t u) ι S w (convS te j σ x) := by
  unfold convS
  split
  · rename_i q hq
    cases hb : isSl j.desc && (isU8 q.desc && q.size == 1)
    · exact trivial
    · rw [cond_true]
      simp only [Bool.and_eq_true] at hb
      obtain ⟨b1, b2, b3⟩ := hb
      obtain ⟨el, hel⟩ : ∃ el, j.desc = .slice el := by cases h : j.desc <;> simp_all [isSl]
      have hsl := hj.1
      rw [hel] at hsl hq
      have hu8 := (hte _ _ hq).1
      have hqd : q.desc = .int .u8 := by
        cases h : q.desc with
        | int k => rw [h] at b2; cases k <;> simp_all [isU8]
        | _ => rw [h] at b2; simp [isU8] at b2
      rw [hqd] at hu8
      have hsd : i.desc = .string := by cases h : i.desc <;> simp_all [isStr]
      have hstr := hi.1
      rw [hsd] at hstr
      cases hby : bytesAt σ x with
      | none => exact trivial
      | some ns =>
        cases ns with
        | nil => exact trivial
        | cons n ns =>
          refine ⟨.string (pushAll (n :: ns)), ?_, by simp only [VR]⟩
          cases x with
          | sl m o l e =>
            simp only [bytesAt] at hby
            simp only [VR] at hu
            obtain ⟨A, cap, rfl, h3, h4⟩ := hu
            split at hby
            · rename_i b hm
              rw [nth_eq] at hm
              have hl0 : l ≠ 0 := fun h => by subst h; simp [u8s] at hby
              rcases h4 with h4 | ⟨g, c, ty, rfl, h5, h6, h7⟩
              · omega
              · rcases H.blk m b hm with ⟨h8, _⟩ | ⟨g', c', h8, h9, h10⟩
                · rw [h5] at h8; cases h8
                · rw [h5] at h8
                  injection h8 with h8
                  subst h8
                  exact cells_str rfl h9 (VRl.drop o h10) hby hsl hu8 hstr
            · cases hby
          | ts l cs =>
            simp only [bytesAt] at hby
            simp only [VR] at hu
            obtain ⟨A, cap, rfl, h3, h4⟩ := hu
            rcases h4 with rfl | ⟨g, o, c, ty, fz, rfl, h5, h6, h7⟩
            · cases l <;> simp [u8s] at hby
            · exact cells_str rfl h6 h7 hby hsl hu8 hstr
          | _ => cases hby
  · exact trivial
theorem convD_ok (hte : TEok P te) (H : SR ι S σ w) {t s : TypeId} {i j : TI} (hi : i.ok P t) (hj : j.ok P s) {x : AV} {u : Value} (hu : VR ι S w x u) : Says P (convert s t u) ι S w (convD te j i σ x) := by
  unfold convD
  cases h : isStr i.desc
  · exact convA_ok hi hj hu
  · exact convS_ok hte H hi hj h hu
end
def opA (te : TE) (fr : Fr) (σ : Sto) : Op → Rs
  | .move x => rv (ev fr x)
  | .assign x => rv (ev fr x)
  | .pick c a b => pickA (ev fr c) (ev fr a) (ev fr b)
  | .alloc t => ot (fun i => .new ⟨t, zeroA i⟩ (.p σ.length 0)) (ti te t)
  | .box t x => o1 (fun x => .new ⟨t, x.cells⟩ (.p σ.length 0)) (ev fr x)
  | .build t ps => ot (fun i => ol (buildA te i) (evp fr ps.toList)) (ti te t)
  | .buildSlice t n ps => ot (fun i => ol (buildSliceA te i σ.length n) (evp fr ps.toList)) (ti te t)
  | .load t x => ot (fun i => o1 (fun x => rv (ldA i σ x)) (ev fr x)) (ti te t)
  | .store t x y => ot (fun i => o2 (fun x y => rs (stA σ i x y)) (ev fr x) (ev fr y)) (ti te t)
  | .binOp op t x y _ => ot (fun i => o2 (binA i op) (ev fr x) (ev fr y)) (ti te t)
  | .unOp op _ x => o1 (unA op) (ev fr x)
  | .convert s t x => ot (fun j => ot (fun i => o1 (convD te j i σ) (ev fr x)) (ti te t)) (ti te s)
  | .index t x y => ot (fun i => o2 (indexS i) (ev fr x) (ev fr y)) (ti te t)
  | .fieldAddr t x f => ot (fun i => o1 (fieldAddrA te i f) (ev fr x)) (ti te t)
  | .indexAddr t x y => ot (fun i => o2 (indexAddrA te i) (ev fr x) (ev fr y)) (ti te t)
  | .extract x k => o1 (fun x => extractA x k) (ev fr x)
  | .nilCheck x => o1 nilCheckA (ev fr x)
  | .slice t x lo hi none => ot (fun i => o1 (fun x => sl2 (sliceA te i x) (evo fr lo) (evo fr hi)) (ev fr x)) (ti te t)
  | .makeSlice t x y => ot (fun i => o2 (makeA te i σ.length) (ev fr x) (ev fr y)) (ti te t)
  | .makeFunc f a b => fnA f (evs fr a.toList) (evs fr b.toList)
  | .call ⟨.builtin b, args, ats⟩ => builtA te fr σ b args.toList ats.toList
  | _ => .bad
/-- What an operation does, by what 'opA' says. -/
def Does (e : Env) (fr : Fr) (σ : Sto) (o : Oper) : Rs → Prop
  | .bad => True
  | .val x => ∀ ι S a w, Sim e fr σ ι S a w → ∃ u, (execOp a.eval o).run e.P w = .ok (.value u) w ∧ VR ι S w x u
  | .need c x => c → ∀ ι S a w, Sim e fr σ ι S a w → ∃ u, (execOp a.eval o).run e.P w = .ok (.value u) w ∧ VR ι S w x u
  | .new b x => ∀ ι S a w, Sim e fr σ ι S a w → ∃ u w' ι', (execOp a.eval o).run e.P w = .ok (.value u) w' ∧ Step σ ι S w (σ ++ [.live b]) ι' S w' ∧ VR ι' S w' x u
  | .newc c b x => c → ∀ ι S a w, Sim e fr σ ι S a w → ∃ u w' ι', (execOp a.eval o).run e.P w = .ok (.value u) w' ∧ Step σ ι S w (σ ++ [.live b]) ι' S w' ∧ VR ι' S w' x u
  | .sv c σ' x => c → ∀ ι S a w, Sim e fr σ ι S a w → ∃ u w' ι', (execOp a.eval o).run e.P w = .ok (.value u) w' ∧ Step σ ι S w σ' ι' S w' ∧ VR ι' S w' x u
  | .sto c σ' => c → ∀ ι S a w, Sim e fr σ ι S a w → ∃ w', (execOp a.eval o).run e.P w = .ok .skip w' ∧ Step σ ι S w σ' ι S w'
section
variable {e : Env} {fr : Fr} {σ : Sto} {te : TE} {ι : Nat → Option Nat} {S : Nat → Prop} {a : Act} {w : World}
theorem Sim.evs (H : Sim e fr σ ι S a w) : ∀ {os : List Operand} {xs : List AV}, evs fr os = some xs → VRe ι S w xs (os.map a.eval)
  | [], xs, h => by
    simp only [Ab.evs, Option.some.injEq] at h
    subst h
    simp [VRe]
  | o :: r, xs, h => by
    unfold Ab.evs at h
    split at h
    · rename_i x ys h1 h2
      injection h with h
      subst h
      simp only [List.map_cons, VRe]
      exact ⟨_, _, rfl, H.ev h1, Sim.evs H h2⟩
    · cases h
theorem Sim.evp (H : Sim e fr σ ι S a w) : ∀ {os : List (Nat × Operand)} {xs : List (Nat × AV)}, evp fr os = some xs → VRp ι S w xs (os.map fun (i, x) => (i, a.eval x))
  | [], xs, h => by
    simp only [Ab.evp, Option.some.injEq] at h
    subst h
    simp [VRp]
  | (i, o) :: r, xs, h => by
    unfold Ab.evp at h
    split at h
    · rename_i x ys h1 h2
      injection h with h
      subst h
      simp only [List.map_cons, VRp]
      exact ⟨_, _, rfl, H.ev h1, Sim.evp H h2⟩
    · cases h
theorem Sim.evo (H : Sim e fr σ ι S a w) {o : Option Operand} {x : Option AV} (h : evo fr o = some x) : VRo ι S w x (o.map a.eval) := by
  cases o with
  | none =>
    simp only [Ab.evo, Option.some.injEq] at h
    subst h
    trivial
  | some o =>
    simp only [Ab.evo, Option.map_eq_some_iff] at h
    obtain ⟨y, h1, rfl⟩ := h
    exact H.ev h1
theorem says_does {s : (Operand → Value) → Sem Value} {o : Oper} (ho : ∀ ρ, execOp ρ o = (do pure (.value (← s ρ)))) {r : Rs} (h : ∀ ι S a w, Sim e fr σ ι S a w → Says e.P (s a.eval) ι S w r) (hr : ∀ b x, r ≠ .new b x) (hr2 : ∀ c b x, r ≠ .newc c b x) (hr3 : ∀ c s x, r ≠ .sv c s x) (hr4 : ∀ c s, r ≠ .sto c s) : Does e fr σ o r := by
  cases r with
  | bad => trivial
  | val x =>
    intro ι S a w H
    obtain ⟨u, h1, h2⟩ := h ι S a w H
    exact ⟨u, by rw [ho, Sem.run_bind, h1]; rfl, h2⟩
  | need c x =>
    intro hc ι S a w H
    obtain ⟨u, h1, h2⟩ := h ι S a w H hc
    exact ⟨u, by rw [ho, Sem.run_bind, h1]; rfl, h2⟩
  | new b x => exact absurd rfl (hr b x)
  | newc c b x => exact absurd rfl (hr2 c b x)
  | sv c s x => exact absurd rfl (hr3 c s x)
  | sto c s => exact absurd rfl (hr4 c s)
/-- Results without effect. -/
def Rs.calm : Rs → Bool
  | .bad => true
  | .val _ => true
  | .need _ _ => true
  | _ => false
theorem says_does' {s : (Operand → Value) → Sem Value} {o : Oper} (ho : ∀ ρ, execOp ρ o = (do pure (.value (← s ρ)))) {r : Rs} (hr : r.calm = true) (h : ∀ ι S a w, Sim e fr σ ι S a w → Says e.P (s a.eval) ι S w r) : Does e fr σ o r :=
  says_does ho h (fun b x e => by rw [e] at hr; cases hr) (fun c b x e => by rw [e] at hr; cases hr) (fun c s x e => by rw [e] at hr; cases hr) (fun c s e => by rw [e] at hr; cases hr)
theorem makes_does {s : (Operand → Value) → Sem Value} {o : Oper} (ho : ∀ ρ, execOp ρ o = (do pure (.value (← s ρ)))) {σ' : Sto} {x : AV} (h : ∀ ι S a w, Sim e fr σ ι S a w → Makes e.P (s a.eval) σ ι S w σ' x) :
    ∀ ι S a w, Sim e fr σ ι S a w → ∃ u w' ι', (execOp a.eval o).run e.P w = .ok (.value u) w' ∧ Step σ ι S w σ' ι' S w' ∧ VR ι' S w' x u := by
  intro ι S a w H
  obtain ⟨u, w', ι', h1, h2, h3⟩ := h ι S a w H
  exact ⟨u, w', ι', by rw [ho, Sem.run_bind, h1]; rfl, h2, h3⟩
theorem calm_bif (b : Bool) (r : Rs) (h : r.calm = true) : (bif b then r else .bad).calm = true := by
  cases b
  · rfl
  · exact h
theorem binA_calm (i : TI) (op : BinOp) (x y : AV) : (binA i op x y).calm = true := by
  unfold binA
  split
  · cases kEq _ _ <;> cases op <;> rfl
  · cases op <;> rfl
  · have : ∀ neg x y, (eqA i neg x y).calm = true := fun neg x y => by
      unfold eqA
      split
      · cases isBool i.desc <;> rfl
      · cases isPtr i.desc <;> rfl
      · cases isPtr i.desc <;> rfl
      · cases isPtr i.desc <;> rfl
      · rfl
    cases op <;> first | rfl | exact this _ _ _
theorem unA_calm (op : UnOp) (x : AV) : (unA op x).calm = true := by unfold unA; split <;> rfl
theorem convA_calm (i : TI) (x : AV) : (convA i x).calm = true := by
  unfold convA
  split
  · split <;> rfl
  · rfl
theorem strS_calm (o : Option (List Int)) : (strS o).calm = true := by unfold strS; split <;> rfl
theorem convD_calm (j i : TI) (x : AV) : (convD te j i σ x).calm = true := by
  unfold convD
  cases isStr i.desc
  · exact convA_calm i x
  · rw [cond_true]
    unfold convS
    split
    · exact calm_bif _ _ (strS_calm _)
    · rfl
theorem convD_mono {σ1 : Sto} (hm : ∀ m b, nth σ1 m = some (.live b) → nth σ m = some (.live b)) (j i : TI) (y : AV) : (∀ x, convD te j i σ1 y = .val x → convD te j i σ y = .val x) ∧ (∀ c x, convD te j i σ1 y = .need c x → convD te j i σ y = .need c x) := by
  have hb : ∀ ns, bytesAt σ1 y = some ns → bytesAt σ y = some ns := fun ns h => by
    cases y with
    | sl m o l e =>
      simp only [bytesAt] at h ⊢
      split at h
      · rename_i b hb
        rw [hm m b hb]
        exact h
      · cases h
    | _ => exact h
  unfold convD
  cases isStr i.desc
  · exact ⟨fun _ h => h, fun _ _ h => h⟩
  · simp only [cond_true]
    unfold convS
    cases ti te (slElem j.desc) with
    | none => exact ⟨fun _ h => h, fun _ _ h => h⟩
    | some q =>
      simp only
      cases isSl j.desc && (isU8 q.desc && q.size == 1)
      · exact ⟨fun _ h => h, fun _ _ h => h⟩
      · simp only [cond_true]
        cases h1 : bytesAt σ1 y with
        | none => exact ⟨fun _ h => (by cases h), fun _ _ h => (by cases h)⟩
        | some ns => rw [hb ns h1]; exact ⟨fun _ h => h, fun _ _ h => h⟩
theorem indexS_calm (i : TI) (x y : AV) : (indexS i x y).calm = true := by
  unfold indexS
  split
  · exact calm_bif _ _ rfl
  · rfl
theorem fieldAddrA_calm (i : TI) (f : Nat) (x : AV) : (fieldAddrA te i f x).calm = true := by
  unfold fieldAddrA
  split
  · split
    · rename_i j hj
      cases (j.size == 0)
      · simp only [cond_false]; split <;> rfl
      · rfl
    · rfl
  · rfl
theorem indexAddrA_calm (i : TI) (x y : AV) : (indexAddrA te i x y).calm = true := by
  unfold indexAddrA
  split
  · cases isSl i.desc
    · rfl
    · simp only [cond_true]
      split
      · split
        · exact calm_bif _ _ rfl
        · rfl
        · rfl
      · rfl
  · rfl
theorem lenA_calm (i : TI) (x : AV) : (lenA i x).calm = true := by
  unfold lenA
  split
  · cases isSl i.desc <;> rfl
  · cases isSl i.desc <;> rfl
  · cases isSl i.desc <;> rfl
  · cases isStr i.desc <;> rfl
  · rfl
theorem extractA_calm (x : AV) (k : Nat) : (extractA x k).calm = true := by
  unfold extractA
  split
  · split <;> rfl
  · rfl
theorem buildA_calm (i : TI) (ps : List (Nat × AV)) : (buildA te i ps).calm = true := by
  unfold buildA
  cases isStruct i.desc
  · rfl
  · simp only [cond_true]
    split
    · split <;> rfl
    · rfl
theorem sliceA_calm (i : TI) (x : AV) (lo hi : Option AV) : (sliceA te i x lo hi).calm = true := by
  unfold sliceA
  split
  · unfold sliceR
    split
    · split
      · exact calm_bif _ _ rfl
      · rfl
    · split
      · cases isSl i.desc <;> rfl
      · rfl
    · split
      · cases isStr i.desc <;> rfl
      · rfl
    · rfl
  · rfl
theorem buildSliceA_form (i : TI) (nm n : Nat) (ps : List (Nat × AV)) : buildSliceA te i nm n ps = .bad ∨ ∃ b x, buildSliceA te i nm n ps = .new b x := by
  unfold buildSliceA
  cases isSl i.desc
  · exact .inl rfl
  · simp only [cond_true]
    split
    · rename_i j hj
      cases (Nat.ble (n * j.size) 16777216 && (zeroA j).length == j.size && !(j.size == 0))
      · exact .inl rfl
      · simp only [cond_true]
        split
        · exact .inr ⟨_, _, rfl⟩
        · exact .inl rfl
    · exact .inl rfl
theorem makeA_form (i : TI) (nm : Nat) (x y : AV) : makeA te i nm x y = .bad ∨ ∃ c b r, makeA te i nm x y = .newc c b r := by
  unfold makeA
  split
  · cases isSl i.desc
    · exact .inl rfl
    · simp only [cond_true]
      split
      · rename_i j hj
        cases ((zeroA j).length == j.size)
        · exact .inl rfl
        · exact .inr ⟨_, _, _, rfl⟩
      · exact .inl rfl
  · exact .inl rfl
theorem builtin_len_ex (ρ : Operand → Value) (o : Oper) {x : Operand} {ats : Array TypeId} (h : o.op = .call ⟨.builtin .len, #[x], ats⟩) : execOp ρ o = (do pure (.value (← Builtin.len_ ats o.type #[ρ x]))) := by
  obtain ⟨dst, op, type, pos, after, guard⟩ := o
  obtain rfl := (h : op = _)
  simp [execOp, resolve, invoke, builtin]
theorem builtin_append_ex (ρ : Operand → Value) (o : Oper) {x y : Operand} {ats : Array TypeId} (h : o.op = .call ⟨.builtin .append, #[x, y], ats⟩) : execOp ρ o = (do pure (.value (← Builtin.append_ ats o.type #[ρ x, ρ y]))) := by
  obtain ⟨dst, op, type, pos, after, guard⟩ := o
  obtain rfl := (h : op = _)
  simp [execOp, resolve, invoke, builtin]
theorem builtin_min_ex (ρ : Operand → Value) (o : Oper) {x y : Operand} {ats : Array TypeId} (h : o.op = .call ⟨.builtin .min, #[x, y], ats⟩) : execOp ρ o = (do pure (.value (← Builtin.min_ ats o.type #[ρ x, ρ y]))) := by
  obtain ⟨dst, op, type, pos, after, guard⟩ := o
  obtain rfl := (h : op = _)
  simp [execOp, resolve, invoke, builtin]
theorem builtin_max_ex (ρ : Operand → Value) (o : Oper) {x y : Operand} {ats : Array TypeId} (h : o.op = .call ⟨.builtin .max, #[x, y], ats⟩) : execOp ρ o = (do pure (.value (← Builtin.max_ ats o.type #[ρ x, ρ y]))) := by
  obtain ⟨dst, op, type, pos, after, guard⟩ := o
  obtain rfl := (h : op = _)
  simp [execOp, resolve, invoke, builtin]
theorem append_does (hte : TEok e.P te) {o : Oper} {x y : Operand} {t tx : TypeId} (h : o.op = .call ⟨.builtin .append, #[x, y], #[t, tx]⟩) {i j : TI} (hi : ti te t = some i) (hj : ti te tx = some j) {s z : AV} (hs : ev fr x = some s) (hz : ev fr y = some z) :
    Does e fr σ o (appA te i j.desc σ s z) := by
  unfold appA
  split
  · rename_i n off len es
    cases hc : (off == 0 && isSl i.desc)
    · trivial
    · rw [cond_true]
      simp only [Bool.and_eq_true, beq_iff_eq] at hc
      obtain ⟨rfl, hsl⟩ := hc
      obtain ⟨el, hd⟩ : ∃ el, i.desc = .slice el := by cases h : i.desc <;> simp_all [isSl]
      rw [hd]
      simp only [slElem]
      split
      · rename_i b k l ys hb hk hsrc
        cases hc : (b.ty == el && es == k.size && k.zero.cells.size == k.size && srcOk es j.desc z)
        · trivial
        · rw [cond_true]
          simp only [Bool.and_eq_true, beq_iff_eq] at hc
          obtain ⟨⟨⟨c1, rfl⟩, c3⟩, c4⟩ := hc
          rintro ⟨d1, d2, d3, d4, d5⟩
          refine makes_does (s := fun ρ => Builtin.append_ #[t, tx] o.type #[ρ x, ρ y]) (fun ρ => builtin_append_ex ρ o h) fun ι S a w H => ?_
          rw [nth_eq] at hb
          have hnl : n < σ.length := (List.getElem?_eq_some_iff.1 hb).1
          have hsl : (setN σ n .dead).length = σ.length := by rw [setN_eq]; simp
          refine append_ok (nm := σ.length) hte (hte _ _ hi) hd hk (hte _ _ hj).1 H.sr hb c1 (H.ev hs) (H.ev hz) hsrc c4 d1 d2 d3 d4 d5 c3 (.inl (by simp)) ?_ ?_ (fun m h1 h2 => ?_) (by simp [hsl]) o.type
          · rw [List.getElem?_append_left (by omega), setN_eq]
            simp [hnl]
          · rw [List.getElem?_append_right (by omega), hsl]
            simp
          · rcases Nat.lt_or_ge m σ.length with h3 | h3
            · rw [List.getElem?_append_left (by omega), setN_eq, List.getElem?_set_ne (Ne.symm h2)]
            · rw [List.getElem?_eq_none_iff.2 (by simp [hsl]; omega), List.getElem?_eq_none_iff.2 h3]
      · trivial
  · trivial
set_option maxHeartbeats 1000000 in
theorem opA_ok (hte : TEok e.P te) (o : Oper) : Does e fr σ o (opA te fr σ o.op) := by
  obtain ⟨dst, op, type, pos, after, guard⟩ := o
  simp only
  unfold opA
  split
  · rename_i x
    cases hx : ev fr x with
    | none => trivial
    | some y => exact fun ι S a w H => ⟨_, rfl, H.ev hx⟩
  · rename_i x
    cases hx : ev fr x with
    | none => trivial
    | some y => exact fun ι S a w H => ⟨_, rfl, H.ev hx⟩
  · rename_i c x y
    cases hc : ev fr c with
    | none => unfold pickA; split <;> first | trivial | (rename_i h; cases h)
    | some z =>
      by_cases hb : ∃ b, z = .v (.bool b)
      · obtain ⟨b, rfl⟩ := hb
        cases b
        · cases hy : ev fr y with
          | none => unfold pickA; split <;> first | trivial | (rename_i h _; cases h) | (rename_i h1 h2; cases h2)
          | some y' =>
            intro ι S a w H
            have h3 := H.ev hc
            simp only [VR] at h3
            exact ⟨_, by simp [execOp, h3, asBool], H.ev hy⟩
        · cases hx : ev fr x with
          | none => unfold pickA; split <;> first | trivial | (rename_i h _; cases h) | (rename_i h1 h2; cases h2)
          | some x' =>
            intro ι S a w H
            have h3 := H.ev hc
            simp only [VR] at h3
            exact ⟨_, by simp [execOp, h3, asBool], H.ev hx⟩
      · unfold pickA
        split
        · rename_i h _
          injection h with h
          exact absurd ⟨true, h⟩ hb
        · rename_i h _
          injection h with h
          exact absurd ⟨false, h⟩ hb
        · trivial
  · rename_i t
    cases hi : ti te t with
    | none => trivial
    | some i => exact makes_does (s := fun ρ => Instr.alloc t true (.tuple #[])) (fun ρ => rfl) fun ι S a w H => alloc_ok (hte _ _ hi) H.sr (Adds.last _ _) _
  · rename_i t x
    cases hx : ev fr x with
    | none => trivial
    | some y => exact makes_does (s := fun ρ => Instr.box t (ρ x)) (fun ρ => rfl) fun ι S a w H => box_ok t H.sr (H.ev hx) (Adds.last _ _)
  · rename_i t ps
    cases hi : ti te t with
    | none => trivial
    | some i =>
      cases hp : evp fr ps.toList with
      | none => trivial
      | some qs =>
        refine says_does' (s := fun ρ => Instr.build t (ps.map fun (i, x) => (i, ρ x))) (fun ρ => rfl) (buildA_calm i qs) fun ι S a w H => ?_
        have h1 := buildA_ok hte (hte _ _ hi) (H.evp hp)
        have h2 : ((ps.toList.map fun (i, x) => (i, a.eval x)).toArray) = ps.map fun (i, x) => (i, a.eval x) := by rw [← Array.toList_map, Array.toArray_toList]
        rw [h2] at h1
        exact h1
  · rename_i t n ps
    cases hi : ti te t with
    | none => trivial
    | some i =>
      cases hp : evp fr ps.toList with
      | none => trivial
      | some qs =>
        show Does e fr σ _ (buildSliceA te i σ.length n qs)
        rcases buildSliceA_form (te := te) i σ.length n qs with h | ⟨b, x, h⟩
        · rw [h]; trivial
        · rw [h]
          refine makes_does (s := fun ρ => Instr.buildSlice t n (ps.map fun (i, x) => (i, ρ x))) (fun ρ => rfl) fun ι S a w H => ?_
          have h1 := buildSliceA_ok hte (hte _ _ hi) H.sr (H.evp hp) h (Adds.last σ b)
          have h2 : ((ps.toList.map fun (i, x) => (i, a.eval x)).toArray) = ps.map fun (i, x) => (i, a.eval x) := by rw [← Array.toList_map, Array.toArray_toList]
          rw [h2] at h1
          exact h1
  · rename_i t x
    cases hi : ti te t with
    | none => trivial
    | some i =>
      cases hx : ev fr x with
      | none => trivial
      | some y =>
        show Does e fr σ _ (rv (ldA i σ y))
        cases hl : ldA i σ y with
        | none => trivial
        | some z =>
          intro ι S a w H
          obtain ⟨v, h1, h2⟩ := load_ok (hte _ _ hi) H.sr hl (H.ev hx)
          exact ⟨v, by simp [execOp, h1], h2⟩
  · rename_i t x y
    cases hi : ti te t with
    | none => trivial
    | some i =>
      cases hx : ev fr x with
      | none => trivial
      | some x' =>
        cases hy : ev fr y with
        | none => trivial
        | some y' =>
          show Does e fr σ _ (rs (stA σ i x' y'))
          cases hl : stA σ i x' y' with
          | none => trivial
          | some p =>
            obtain ⟨cnd, σ'⟩ := p
            intro hcd ι S a w H
            obtain ⟨w', h1, h2⟩ := store_ok (hte _ _ hi) H.sr hl hcd (H.ev hx) (H.ev hy)
            exact ⟨w', by simp [execOp, h1], h2⟩
  · rename_i op' t x y yt
    cases hi : ti te t with
    | none => trivial
    | some i =>
      cases hx : ev fr x with
      | none => trivial
      | some x' =>
        cases hy : ev fr y with
        | none => trivial
        | some y' =>
          exact says_does' (s := fun ρ => do eqGuard op' t x y (ρ x) (ρ y); binOp op' t (ρ x) (ρ y)) (fun ρ => rfl) (binA_calm i op' x' y') fun ι S a w H => binA_ok (hte _ _ hi) op' x y (H.ev hx) (H.ev hy)
  · rename_i op' t x
    cases hx : ev fr x with
    | none => trivial
    | some x' => exact says_does' (s := fun ρ => Op.unary op' (ρ x)) (fun ρ => rfl) (unA_calm op' x') fun ι S a w H => unA_ok op' (H.ev hx)
  · rename_i s t x
    cases hs : ti te s with
    | none => trivial
    | some j =>
      cases hi : ti te t with
      | none => trivial
      | some i =>
        cases hx : ev fr x with
        | none => trivial
        | some x' => exact says_does' (s := fun ρ => convert s t (ρ x)) (fun ρ => rfl) (convD_calm j i x') fun ι S a w H => convD_ok hte H.sr (hte _ _ hi) (hte _ _ hs) (H.ev hx)
  · rename_i t x y
    cases hi : ti te t with
    | none => trivial
    | some i =>
      cases hx : ev fr x with
      | none => trivial
      | some x' =>
        cases hy : ev fr y with
        | none => trivial
        | some y' => exact says_does' (s := fun ρ => Instr.index t (ρ x) (ρ y)) (fun ρ => rfl) (indexS_calm i x' y') fun ι S a w H => indexS_ok (hte _ _ hi) (H.ev hx) (H.ev hy)
  · rename_i t x f
    cases hi : ti te t with
    | none => trivial
    | some i =>
      cases hx : ev fr x with
      | none => trivial
      | some x' => exact says_does' (s := fun ρ => Instr.fieldAt t (ρ x) f) (fun ρ => rfl) (fieldAddrA_calm i f x') fun ι S a w H => fieldAddrA_ok hte (hte _ _ hi) f (H.ev hx)
  · rename_i t x y
    cases hi : ti te t with
    | none => trivial
    | some i =>
      cases hx : ev fr x with
      | none => trivial
      | some x' =>
        cases hy : ev fr y with
        | none => trivial
        | some y' => exact says_does' (s := fun ρ => Instr.indexAt t (ρ x) (ρ y)) (fun ρ => rfl) (indexAddrA_calm i x' y') fun ι S a w H => indexAddrA_ok hte (hte _ _ hi) (H.ev hx) (H.ev hy)
  · rename_i x k
    cases hx : ev fr x with
    | none => trivial
    | some x' => exact says_does' (s := fun ρ => Instr.extract (ρ x) k) (fun ρ => rfl) (extractA_calm x' k) fun ι S a w H => extractA_ok (H.ev hx) k
  · rename_i x
    cases hx : ev fr x with
    | none => trivial
    | some x' =>
      show Does e fr σ _ (nilCheckA x')
      unfold nilCheckA
      split
      · intro ι S a w H
        have h1 := H.ev hx
        have h2 := h1
        simp only [VR] at h1
        obtain ⟨g, _, h3⟩ := h1
        exact ⟨_, by simp [execOp, h3], h2⟩
      · intro ι S a w H
        have h1 := H.ev hx
        have h2 := h1
        simp only [VR] at h1
        obtain ⟨g, o, c, ty, fz, h3, _⟩ := h1
        exact ⟨_, by simp [execOp, h3], h2⟩
      · trivial
  · rename_i t x lo hi'
    cases hi : ti te t with
    | none => trivial
    | some i =>
      cases hx : ev fr x with
      | none => trivial
      | some x' =>
        cases hlo : evo fr lo with
        | none => trivial
        | some lo' =>
          cases hhi : evo fr hi' with
          | none => trivial
          | some hi'' => exact says_does' (s := fun ρ => Instr.sliceAt t (ρ x) (lo.map ρ) (hi'.map ρ) none) (fun ρ => rfl) (sliceA_calm i x' lo' hi'') fun ι S a w H => sliceA_ok hte (hte _ _ hi) (H.ev hx) (H.evo hlo) (H.evo hhi)
  · rename_i t x y
    cases hi : ti te t with
    | none => trivial
    | some i =>
      cases hx : ev fr x with
      | none => trivial
      | some x' =>
        cases hy : ev fr y with
        | none => trivial
        | some y' =>
          show Does e fr σ _ (makeA te i σ.length x' y')
          rcases makeA_form (te := te) i σ.length x' y' with h | ⟨c, b, r, h⟩
          · rw [h]; trivial
          · rw [h]
            intro hc
            exact makes_does (s := fun ρ => Instr.makeSlice t (ρ x) (ρ y)) (fun ρ => rfl) fun ι S a w H => makeA_ok hte (hte _ _ hi) H.sr (H.ev hx) (H.ev hy) h hc (Adds.last σ b)
  · rename_i f xs ys
    cases hx : evs fr xs.toList with
    | none => trivial
    | some xs' =>
      cases hy : evs fr ys.toList with
      | none => trivial
      | some ys' =>
        intro ι S a w H
        refine ⟨.func f (xs.map a.eval) (ys.map a.eval), rfl, ?_⟩
        simp only [VR]
        exact ⟨_, _, rfl, by simpa using H.evs hx, by simpa using H.evs hy⟩
  · rename_i b args ats
    obtain ⟨args⟩ := args
    obtain ⟨ats⟩ := ats
    show Does e fr σ _ (builtA te fr σ b args ats)
    unfold builtA
    split
    · rename_i x t
      cases hi : ti te t with
      | none => trivial
      | some i =>
        cases hx : ev fr x with
        | none => trivial
        | some x' => exact says_does' (s := fun ρ => Builtin.len_ #[t] type #[ρ x]) (fun ρ => builtin_len_ex ρ _ rfl) (lenA_calm i x') fun ι S a w H => lenA_ok (hte _ _ hi) (H.ev hx) _ _ rfl
    · rename_i x y t tx
      cases hi : ti te t with
      | none => trivial
      | some i =>
        cases hj : ti te tx with
        | none => trivial
        | some j =>
          cases hx : ev fr x with
          | none => trivial
          | some x' =>
            cases hy : ev fr y with
            | none => trivial
            | some y' => exact append_does hte rfl hi hj hx hy
    · rename_i x y
      cases hx : ev fr x with
      | none => trivial
      | some x' =>
        cases hy : ev fr y with
        | none => trivial
        | some y' =>
          show Does e fr σ _ (minA x' y')
          unfold minA
          split
          · rename_i k p k' q
            cases hk : kEq k k'
            · trivial
            · obtain rfl := kEq_ok hk
              intro ι S a w H
              have h1 := H.ev hx
              have h2 := H.ev hy
              simp only [VR] at h1 h2
              refine ⟨.int k (if q < p then q else p), ?_, by simp only [VR]⟩
              rw [builtin_min_ex _ _ rfl]
              simp [h1, h2, Builtin.min_, Builtin.min2]
          · trivial
    · rename_i x y
      cases hx : ev fr x with
      | none => trivial
      | some x' =>
        cases hy : ev fr y with
        | none => trivial
        | some y' =>
          show Does e fr σ _ (maxA x' y')
          unfold maxA
          split
          · rename_i k p k' q
            cases hk : kEq k k'
            · trivial
            · obtain rfl := kEq_ok hk
              intro ι S a w H
              have h1 := H.ev hx
              have h2 := H.ev hy
              simp only [VR] at h1 h2
              refine ⟨.int k (if q > p then q else p), ?_, by simp only [VR]⟩
              rw [builtin_max_ex _ _ rfl]
              simp [h1, h2, Builtin.max_, Builtin.max2]
          · trivial
    · trivial
  · trivial
end

/-! ### The walk's rule -/
/-- A test: both ways, unless it is known. -/
def Br : Bool → Prop → Prop → Prop
  | true, A, _ => A
  | false, _, B => B
theorem Br.mk {b : Bool} {A B : Prop} (h1 : b = true → A) (h2 : b = false → B) : Br b A B := by
  cases b
  · exact h2 rfl
  · exact h1 rfl
inductive Gd where
  | go
  | skip
  | bad
def gdB : Bool → Bool → Gd
  | true, true => .go
  | false, false => .go
  | true, false => .skip
  | false, true => .skip
def gdA (all : List Oper) (fr : Fr) : Option (Nat × Bool) → Gd
  | none => .go
  | some (j, want) => match nth all j with
    | some o => match o.dst with
      | some t => match get fr t with
        | some (.v (.bool b)) => gdB b want
        | some (.tup _) => .skip
        | _ => .bad
      | none => .bad
    | none => .bad
def isCall : Op → Bool
  | .call ⟨.value _, _, _⟩ => true
  | _ => false
abbrev Rec := List KI → Fr → Sto → Prop
def stepC (rec : Rec) (a b : Code) (k : List KI) (fr : Fr) (σ : Sto) : Option AV → Prop
  | some (.v (.bool t)) => Br t (rec (.code a :: k) fr σ) (rec (.code b :: k) fr σ)
  | _ => False
def stepX (rec : Rec) (fr : Fr) (σ : Sto) : Option (List KI) → Prop
  | some k => rec k fr σ
  | none => False
def stepR (rec : Rec) (nt : Nat) (all : Array Oper) (d : Option Nat) (r : List Oper) (k : List KI) (fr : Fr) (σ : Sto) : Rs → Prop
  | .val x => match d with
    | some d => bif decide (d < nt) then rec (.ops all r :: k) (put d x fr) σ else False
    | none => False
  | .need c x => match d with
    | some d => bif decide (d < nt) then c ∧ rec (.ops all r :: k) (put d x fr) σ else False
    | none => False
  | .new b x => match d with
    | some d => bif decide (d < nt) then rec (.ops all r :: k) (put d x fr) (σ ++ [.live b]) else False
    | none => False
  | .newc c b x => match d with
    | some d => bif decide (d < nt) then c ∧ rec (.ops all r :: k) (put d x fr) (σ ++ [.live b]) else False
    | none => False
  | .sv c σ' x => match d with
    | some d => bif decide (d < nt) then c ∧ rec (.ops all r :: k) (put d x fr) σ' else False
    | none => False
  | .sto c σ' => match d with
    | some _ => False
    | none => c ∧ rec (.ops all r :: k) fr σ'
  | .bad => False
def stepS (rec : Rec) (nt : Nat) (all : Array Oper) (d : Option Nat) (r : List Oper) (k : List KI) (fr : Fr) (σ : Sto) : Prop := match d with
  | some d => bif decide (d < nt) then rec (.ops all r :: k) (put d (.tup []) fr) σ else False
  | none => rec (.ops all r :: k) fr σ
def stepG (te : TE) (nt : Nat) (e : Env) (rec : Rec) (all : Array Oper) (o : Oper) (r : List Oper) (k : List KI) (fr : Fr) (σ : Sto) : Gd → Prop
  | .go => bif isCall o.op then Go e (.ops all (o :: r) :: k) fr σ else stepR rec nt all o.dst r k fr σ (opA te fr σ o.op)
  | .skip => stepS rec nt all o.dst r k fr σ
  | .bad => False
def step (te : TE) (nt : Nat) (e : Env) (rec : Rec) : List KI → Fr → Sto → Prop
  | .code (.seq a b) :: k, fr, σ => rec (.code a :: .code b :: k) fr σ
  | .code .skip :: k, fr, σ => rec k fr σ
  | .code (.block id c) :: k, fr, σ => rec (.code c :: .blk id :: k) fr σ
  | .code (.exit id) :: k, fr, σ => stepX rec fr σ (popTo id k)
  | .code (.cond c a b) :: k, fr, σ => stepC rec a b k fr σ (ev fr c)
  | .code (.region _ ops false) :: k, fr, σ => rec (.ops ops ops.toList :: k) fr σ
  | .ops _ [] :: k, fr, σ => rec k fr σ
  | .ops all (o :: r) :: k, fr, σ => stepG te nt e rec all o r k fr σ (gdA all.toList fr o.guard)
  | .blk _ :: k, fr, σ => rec k fr σ
  | k, fr, σ => Go e k fr σ
def run (te : TE) (nt : Nat) (e : Env) : Nat → List KI → Fr → Sto → Prop
  | 0, k, fr, σ => Go e k fr σ
  | n + 1, k, fr, σ => step te nt e (run te nt e n) k fr σ
theorem gd_split {te : TE} {nt : Nat} {e : Env} {rec : Rec} {all : Array Oper} {o : Oper} {r : List Oper} {k : List KI} {fr : Fr} {σ : Sto} {b want : Bool}
    (h1 : b = true → stepG te nt e rec all o r k fr σ (gdB true want)) (h2 : b = false → stepG te nt e rec all o r k fr σ (gdB false want)) : stepG te nt e rec all o r k fr σ (gdB b want) := by
  cases b
  · exact h2 rfl
  · exact h1 rfl
section
variable {e : Env} {k : List KI} {fr : Fr} {σ σ' : Sto} {te : TE} {nt : Nat} {all : Array Oper} {o : Oper} {r : List Oper}
theorem wanted_of {a : Act} {ι : Nat → Option Nat} {S : Nat → Prop} {w : World} (H : Sim e fr σ ι S a w) {b : Bool} (h : match gdA all.toList fr o.guard with | .go => b = true | .skip => b = false | .bad => False) :
    Region.wanted o (yielded all a.tmps) = b := by
  unfold Region.wanted
  cases hg : o.guard with
  | none =>
    rw [hg] at h
    simp only [gdA] at h
    exact h.symm
  | some p =>
    obtain ⟨j, want⟩ := p
    rw [hg] at h
    unfold gdA at h
    simp only at h
    cases ho : nth all.toList j with
    | none => rw [ho] at h; exact h.elim
    | some o' =>
      rw [ho] at h
      simp only at h
      cases hd : o'.dst with
      | none => rw [hd] at h; exact h.elim
      | some t =>
        rw [hd] at h
        simp only at h
        cases hx : get fr t with
        | none => rw [hx] at h; exact h.elim
        | some x =>
          rw [hx] at h
          obtain ⟨u, h1, h2⟩ := H.get hx
          have hall : all[j]? = some o' := toList_nth ho
          have hy : ∀ c, x = .v (.bool c) → yielded all a.tmps j = some c := fun c hc => by
            subst hc
            simp only [VR] at h2
            subst h2
            simp [yielded, hall, hd, h1]
          have hfin : ∀ c, x = .v (.bool c) → b = (c == want) → (yielded all a.tmps j == some want) = b := fun c hc hb => by
            rw [hy c hc, hb]
            cases c <;> cases want <;> rfl
          simp only
          cases x with
          | v x =>
            cases x with
            | bool c =>
              refine hfin c rfl ?_
              cases c <;> cases want <;> exact h
            | _ => exact h.elim
          | tup cs =>
            simp only [VR] at h2
            obtain ⟨c, hc, _⟩ := h2
            have hn : yielded all a.tmps j = none := by simp [yielded, hall, hd, h1, hc]
            rw [hn]
            exact h.symm
          | _ => exact h.elim
theorem Go.op_val (hnt : e.nt = nt) {d : Nat} (hd : o.dst = some d) (hdn : d < nt) (hg : gdA all.toList fr o.guard = .go) {x : AV} {T : Sto → (Nat → Option Nat) → (Nat → Prop) → Act → World → Prop}
    (hdo : ∀ ι S a w, Sim e fr σ ι S a w → ∃ u w' ι' S', (execOp a.eval o).run e.P w = .ok (.value u) w' ∧ Step σ ι S w σ' ι' S' w' ∧ VR ι' S' w' x u)
    (h : Go e (.ops all r :: k) (put d x fr) σ') : Go e (.ops all (o :: r) :: k) fr σ := by
  intro ι S a w H
  have hw : Region.wanted o (yielded all a.tmps) = true := wanted_of H (b := true) (by rw [hg])
  obtain ⟨u, w', ι', S', h1, h2, h3⟩ := hdo ι S a w H
  show wpList e.P all (Kpost e k) (o :: r) a w
  unfold wpList
  rw [if_pos hw]
  left
  unfold Oper.wp
  rw [h1, Oper.upon_value, hd]
  exact h ι' S' _ w' ((H.step h2).put (by omega) h3)
theorem Go.op_sto (hd : o.dst = none) (hg : gdA all.toList fr o.guard = .go)
    (hdo : ∀ ι S a w, Sim e fr σ ι S a w → ∃ w', (execOp a.eval o).run e.P w = .ok .skip w' ∧ Step σ ι S w σ' ι S w')
    (h : Go e (.ops all r :: k) fr σ') : Go e (.ops all (o :: r) :: k) fr σ := by
  intro ι S a w H
  have hw : Region.wanted o (yielded all a.tmps) = true := wanted_of H (b := true) (by rw [hg])
  obtain ⟨w', h1, h2⟩ := hdo ι S a w H
  show wpList e.P all (Kpost e k) (o :: r) a w
  unfold wpList
  rw [if_pos hw]
  left
  unfold Oper.wp
  rw [h1, Oper.upon_skip, hd]
  exact h ι S _ w' (H.step h2)
theorem VR.undef_ {ι : Nat → Option Nat} {S : Nat → Prop} {w : World} : VR ι S w (.tup []) undef := by simp only [VR, VRe]; exact ⟨#[], rfl, rfl⟩
theorem Go.op_skip (hnt : e.nt = nt) (hg : gdA all.toList fr o.guard = .skip) (h : stepS (Go e) nt all o.dst r k fr σ) : Go e (.ops all (o :: r) :: k) fr σ := by
  intro ι S a w H
  have hw : Region.wanted o (yielded all a.tmps) = false := wanted_of H (b := false) (by rw [hg])
  show wpList e.P all (Kpost e k) (o :: r) a w
  unfold wpList
  rw [if_neg (by rw [hw]; simp)]
  unfold stepS at h
  split at h
  · rename_i d hd
    rw [hd]
    cases hb : decide (d < nt)
    · rw [hb] at h; exact h.elim
    · rw [hb, cond_true] at h
      exact h ι S _ w (H.put (by have := of_decide_eq_true hb; omega) VR.undef_)
  · rename_i hd
    rw [hd]
    exact h ι S _ w H
theorem stepR_ok (hte : TEok e.P te) (hnt : e.nt = nt) (hg : gdA all.toList fr o.guard = .go) (h : stepR (Go e) nt all o.dst r k fr σ (opA te fr σ o.op)) : Go e (.ops all (o :: r) :: k) fr σ := by
  have hd := opA_ok (fr := fr) (σ := σ) hte o
  generalize opA te fr σ o.op = q at h hd
  unfold stepR at h
  cases q with
  | bad => exact h.elim
  | val x =>
    simp only at h
    split at h
    · rename_i d hdst
      cases hb : decide (d < nt)
      · rw [hb] at h; exact h.elim
      · rw [hb, cond_true] at h
        refine Go.op_val (T := fun _ _ _ _ _ => True) hnt hdst (of_decide_eq_true hb) hg (fun ι S a w H => ?_) h
        obtain ⟨u, h1, h2⟩ := hd ι S a w H
        exact ⟨u, w, ι, S, h1, Step.refl H.sr, h2⟩
    · exact h.elim
  | need c x =>
    simp only at h
    split at h
    · rename_i d hdst
      cases hb : decide (d < nt)
      · rw [hb] at h; exact h.elim
      · rw [hb, cond_true] at h
        refine Go.op_val (T := fun _ _ _ _ _ => True) hnt hdst (of_decide_eq_true hb) hg (fun ι S a w H => ?_) h.2
        obtain ⟨u, h1, h2⟩ := hd h.1 ι S a w H
        exact ⟨u, w, ι, S, h1, Step.refl H.sr, h2⟩
    · exact h.elim
  | new b x =>
    simp only at h
    split at h
    · rename_i d hdst
      cases hb : decide (d < nt)
      · rw [hb] at h; exact h.elim
      · rw [hb, cond_true] at h
        refine Go.op_val (T := fun _ _ _ _ _ => True) hnt hdst (of_decide_eq_true hb) hg (fun ι S a w H => ?_) h
        obtain ⟨u, w', ι', h1, h2, h3⟩ := hd ι S a w H
        exact ⟨u, w', ι', S, h1, h2, h3⟩
    · exact h.elim
  | newc c b x =>
    simp only at h
    split at h
    · rename_i d hdst
      cases hb : decide (d < nt)
      · rw [hb] at h; exact h.elim
      · rw [hb, cond_true] at h
        refine Go.op_val (T := fun _ _ _ _ _ => True) hnt hdst (of_decide_eq_true hb) hg (fun ι S a w H => ?_) h.2
        obtain ⟨u, w', ι', h1, h2, h3⟩ := hd h.1 ι S a w H
        exact ⟨u, w', ι', S, h1, h2, h3⟩
    · exact h.elim
  | sv c s x =>
    simp only at h
    split at h
    · rename_i d hdst
      cases hb : decide (d < nt)
      · rw [hb] at h; exact h.elim
      · rw [hb, cond_true] at h
        refine Go.op_val (T := fun _ _ _ _ _ => True) hnt hdst (of_decide_eq_true hb) hg (fun ι S a w H => ?_) h.2
        obtain ⟨u, w', ι', h1, h2, h3⟩ := hd h.1 ι S a w H
        exact ⟨u, w', ι', S, h1, h2, h3⟩
    · exact h.elim
  | sto c s =>
    simp only at h
    split at h
    · exact h.elim
    · rename_i hdst
      exact Go.op_sto hdst hg (hd h.1) h.2
theorem step_ok (hte : TEok e.P te) (hnt : e.nt = nt) : ∀ {k : List KI} {fr : Fr} {σ : Sto}, step te nt e (Go e) k fr σ → Go e k fr σ := by
  intro k fr σ h
  unfold step at h
  split at h
  · exact Go.seq h
  · exact Go.skip h
  · exact Go.block h
  · rename_i id k
    cases hp : popTo id k with
    | none => rw [hp] at h; exact h.elim
    | some k' => rw [hp] at h; exact Go.exit hp h
  · rename_i c a b k
    cases hx : ev fr c with
    | none => rw [hx] at h; exact h.elim
    | some x =>
      rw [hx] at h
      unfold stepC at h
      split at h
      · rename_i t ht
        injection ht with ht
        subst ht
        intro ι S x w H
        have h1 := H.ev hx
        simp only [VR] at h1
        cases t
        · exact wp_cond_false h1 (h ι S x w H)
        · exact wp_cond_true h1 (h ι S x w H)
      · exact h.elim
  · exact Go.region h
  · exact Go.opsNil h
  · rename_i all o r k
    generalize hg : gdA all.toList fr o.guard = g at h
    unfold stepG at h
    cases g with
    | go =>
      simp only at h
      cases hc : isCall o.op
      · rw [hc, cond_false] at h
        exact stepR_ok hte hnt hg h
      · rw [hc, cond_true] at h
        exact h
    | skip => exact Go.op_skip hnt hg h
    | bad => exact h.elim
  · exact Go.blk h
  · exact h
theorem Br.mono {b : Bool} {A B A' B' : Prop} (h1 : A → A') (h2 : B → B') (h : Br b A B) : Br b A' B' := by
  cases b
  · exact h2 h
  · exact h1 h
theorem step_mono {rec rec' : Rec} (hr : ∀ k fr σ, rec k fr σ → rec' k fr σ) : ∀ {k : List KI} {fr : Fr} {σ : Sto}, step te nt e rec k fr σ → step te nt e rec' k fr σ := by
  intro k fr σ h
  unfold step at h ⊢
  split at h
  · exact hr _ _ _ h
  · exact hr _ _ _ h
  · exact hr _ _ _ h
  · rename_i id k
    cases hp : popTo id k with
    | none => rw [hp] at h; exact h.elim
    | some k' => rw [hp] at h; exact hr _ _ _ h
  · rename_i c a b k
    cases hx : ev fr c with
    | none => rw [hx] at h; exact h.elim
    | some x =>
      rw [hx] at h
      unfold stepC at h ⊢
      split at h
      · rename_i t ht
        injection ht with ht
        subst ht
        exact Br.mono (hr _ _ _) (hr _ _ _) h
      · exact h.elim
  · exact hr _ _ _ h
  · exact hr _ _ _ h
  · rename_i all o r k
    generalize gdA all.toList fr o.guard = g at h ⊢
    unfold stepG at h ⊢
    cases g with
    | go =>
      simp only at h ⊢
      cases hc : isCall o.op
      · rw [hc, cond_false] at h
        rw [cond_false]
        generalize opA te fr σ o.op = q at h ⊢
        unfold stepR at h ⊢
        cases q with
        | bad => exact h.elim
        | sto c s =>
          simp only at h ⊢
          split at h
          · exact h.elim
          · rename_i hd
            first | (rw [hd]; exact ⟨h.1, hr _ _ _ h.2⟩) | exact ⟨h.1, hr _ _ _ h.2⟩
        | val x =>
          simp only at h ⊢
          split at h
          · rename_i d hd
            cases hb : decide (d < nt)
            · rw [hb] at h; exact h.elim
            · rw [hb, cond_true] at h
              first | (rw [hd]; simp only [hb, cond_true]; exact hr _ _ _ h) | (simp only [hb, cond_true]; exact hr _ _ _ h)
          · exact h.elim
        | new b x =>
          simp only at h ⊢
          split at h
          · rename_i d hd
            cases hb : decide (d < nt)
            · rw [hb] at h; exact h.elim
            · rw [hb, cond_true] at h
              first | (rw [hd]; simp only [hb, cond_true]; exact hr _ _ _ h) | (simp only [hb, cond_true]; exact hr _ _ _ h)
          · exact h.elim
        | need c x =>
          simp only at h ⊢
          split at h
          · rename_i d hd
            cases hb : decide (d < nt)
            · rw [hb] at h; exact h.elim
            · rw [hb, cond_true] at h
              first | (rw [hd]; simp only [hb, cond_true]; exact ⟨h.1, hr _ _ _ h.2⟩) | (simp only [hb, cond_true]; exact ⟨h.1, hr _ _ _ h.2⟩)
          · exact h.elim
        | newc c b x =>
          simp only at h ⊢
          split at h
          · rename_i d hd
            cases hb : decide (d < nt)
            · rw [hb] at h; exact h.elim
            · rw [hb, cond_true] at h
              first | (rw [hd]; simp only [hb, cond_true]; exact ⟨h.1, hr _ _ _ h.2⟩) | (simp only [hb, cond_true]; exact ⟨h.1, hr _ _ _ h.2⟩)
          · exact h.elim
        | sv c s x =>
          simp only at h ⊢
          split at h
          · rename_i d hd
            cases hb : decide (d < nt)
            · rw [hb] at h; exact h.elim
            · rw [hb, cond_true] at h
              first | (rw [hd]; simp only [hb, cond_true]; exact ⟨h.1, hr _ _ _ h.2⟩) | (simp only [hb, cond_true]; exact ⟨h.1, hr _ _ _ h.2⟩)
          · exact h.elim
      · rw [hc, cond_true] at h
        rw [cond_true]
        exact h
    | skip =>
      have h' : stepS rec nt all o.dst r k fr σ := h
      show stepS rec' nt all o.dst r k fr σ
      unfold stepS at h' ⊢
      split at h'
      · rename_i d hd
        cases hb : decide (d < nt)
        · rw [hb] at h'; exact h'.elim
        · rw [hb, cond_true] at h'
          rw [cond_true]
          exact hr _ _ _ h'
      · exact hr _ _ _ h'
    | bad => exact h.elim
  · exact hr _ _ _ h
  · exact h
/-- The walk goes on as 'run' computes. -/
theorem Go.run (hte : TEok e.P te) (hnt : e.nt = nt) : ∀ (n : Nat) {k : List KI} {fr : Fr} {σ : Sto}, Ab.run te nt e n k fr σ → Go e k fr σ
  | 0, _, _, _, h => h
  | n + 1, _, _, _, h => step_ok hte hnt (step_mono (fun _ _ _ h => Go.run hte hnt n h) h)
end

/-! ### Calls -/
def calleeA (fr : Fr) : Op → Option (Nat × List AV)
  | .call ⟨.value f, args, _⟩ => match ev fr f, evs fr args.toList with
    | some (.fn (.func n) a b), some xs => some (n, a ++ (xs ++ b))
    | _, _ => none
  | _ => none
theorem callFunc_ok {P : Program} {n : FuncId} (h : Callable P n) (args : Array Value) (w : World) : (callFunc n args).run P w = .ok (.enter n args) w := by
  obtain ⟨fn, h1, h2, h3⟩ := h
  obtain ⟨c, hc⟩ := Option.isSome_iff_exists.1 h2
  have h3' : ¬ fn.name = "runtime.NumGoroutine" := by simpa using h3
  simp [callFunc, h1, h3', hc]
section
variable {e : Env} {k : List KI} {fr : Fr} {σ σ' : Sto} {te : TE} {nt : Nat} {all : Array Oper} {o : Oper} {r : List Oper} {P : Program}
theorem callee_run {n : Nat} {xs : List AV} (h : calleeA fr o.op = some (n, xs)) (hC : Callable e.P n) {ι : Nat → Option Nat} {S : Nat → Prop} {a : Act} {w : World} (H : Sim e fr σ ι S a w) :
    ∃ us, (execOp a.eval o).run e.P w = .ok (.enter n us.toArray) w ∧ VRe ι S w xs us := by
  obtain ⟨dst, op, type, pos, after, guard⟩ := o
  simp only at h
  unfold calleeA at h
  split at h
  · rename_i f args ats
    split at h
    · rename_i n' p q ys hf hy
      injection h with h
      injection h with h1 h2
      subst h1 h2
      have hv := H.ev hf
      simp only [VR] at hv
      obtain ⟨x, y, hv, h3, h4⟩ := hv
      have h5 := H.evs hy
      refine ⟨x.toList ++ (args.toList.map a.eval ++ y.toList), ?_, VRe.append h3 (VRe.append h5 h4)⟩
      have h6 : (x ++ args.map a.eval) ++ y = (x.toList ++ (args.toList.map a.eval ++ y.toList)).toArray := by
        apply Array.ext'
        simp
      rw [← h6]
      simp [execOp, resolve, hv, Deferred.ofValue, invoke, callFunc_ok hC]
    · cases h
  · cases h
theorem Go.call {n : Nat} {xs args : List AV} {σi σo : Sto} {x : AV} (hP : e.P = P) (C : AC P n args σi x σo) (L : List Nat) (hop : calleeA fr o.op = some (n, xs)) (hg : gdA all.toList fr o.guard = .go) {d : Nat} (hd : o.dst = some d) (hdn : d < e.nt)
    (hx : xs = AV.renL (rho L σ.length) args) (hL : Lend L σi σo σ) (h : Go e (.ops all r :: k) (put d (x.ren (rho L σ.length)) fr) (wb (rho L σ.length) L σo σ)) : Go e (.ops all (o :: r) :: k) fr σ := by
  subst hP
  intro ι S a w H
  have hw : Region.wanted o (yielded all a.tmps) = true := wanted_of H (b := true) (by rw [hg])
  obtain ⟨us, h1, h2⟩ := callee_run hop C.1 H
  show wpList e.P all (Kpost e k) (o :: r) a w
  unfold wpList
  rw [if_pos hw]
  left
  unfold Oper.wp
  rw [h1, Oper.upon_enter]
  refine (C.use L hL H.sr (hx ▸ h2)).mono ?_
  rintro en w' ⟨u, ι', S', rfl, h3, h4⟩
  rw [hd]
  exact h ι' S' _ w' ((H.step h4).put hdn h3)
theorem Lend.nil (σo σ : Sto) : Lend [] [] σo σ := ⟨List.nodup_nil, rfl, Nat.zero_le _, fun n h => by cases h⟩
theorem Go.call0 {n : Nat} {xs args : List AV} {σo : Sto} {x : AV} (hP : e.P = P) (C : AC P n args [] x σo) (hop : calleeA fr o.op = some (n, xs)) (hg : gdA all.toList fr o.guard = .go) {d : Nat} (hd : o.dst = some d) (hdn : d < e.nt)
    (hx : xs = AV.renL (rho [] σ.length) args) (h : Go e (.ops all r :: k) (put d (x.ren (rho [] σ.length)) fr) (σ ++ σo.map (En.ren (rho [] σ.length)))) : Go e (.ops all (o :: r) :: k) fr σ :=
  Go.call hP C [] hop hg hd hdn hx (Lend.nil _ _) h
end

/-! ### The same, in first-order words: rules for 'simp' -/
def ld1e (o : Nat) : Option En → Rs
  | some (.live b) => rv (nth b.cells o)
  | _ => .bad
def ld1 (σ : Sto) : Option AV → Rs
  | some (.p n o) => ld1e o (nth σ n)
  | some (.tp cs o) => rv (nth cs o)
  | _ => .bad
def rva : Option (List AV) → Rs
  | some cs => .val (.agg cs)
  | none => .bad
def ldne (z o : Nat) : Option En → Rs
  | some (.live b) => rva (sub b.cells z o)
  | _ => .bad
def ldn (z : Nat) (σ : Sto) : Option AV → Rs
  | some (.p n o) => ldne z o (nth σ n)
  | some (.tp cs o) => rva (sub cs z o)
  | _ => .bad
def subc (x : Option AV) (r : Option (List AV)) : Option (List AV) := match x, r with
  | some x, some r => some (x :: r)
  | _, _ => none
def stT (z : Nat) (σ : Sto) (m o : Nat) (y : AV) : Option En → Rs
  | some (.live b) => bif y.cells.length == z && ones y.cells then .sto (o + z ≤ b.cells.length) (setN σ m (.live ⟨b.ty, sets b.cells o y.cells⟩)) else .bad
  | _ => .bad
def stS (z : Nat) (σ : Sto) : Option AV → Option AV → Rs
  | some (.p m o), some y => stT z σ m o y (nth σ m)
  | _, _ => .bad
def boxA (t nm : Nat) : Option AV → Rs
  | some x => .new ⟨t, x.cells⟩ (.p nm 0)
  | none => .bad
def bldr : Option (List AV) → Rs
  | some cs => .val (.agg cs)
  | none => .bad
def bld (zs : List AV) (ps : List (Nat × Nat)) : Option (List (Nat × AV)) → Rs
  | some qs => bldr (fillA (nth ps) zs qs)
  | none => .bad
def fillB (place : Nat → Option (Nat × Nat)) (cs : List AV) (x : AV) (r : List (Nat × AV)) : Option (Nat × Nat) → Option (List AV)
  | some (off, size) => bif x.cells.length == size && Nat.ble (off + size) cs.length then fillA place (sets cs off x.cells) r else none
  | none => none
def bsr (el nm n sz : Nat) : Option (List AV) → Rs
  | some cs => .new ⟨el, cs⟩ (.sl nm 0 n sz)
  | none => .bad
def bsl (el nm n sz : Nat) (zs : List AV) : Option (List (Nat × AV)) → Rs
  | some qs => bsr el nm n sz (fillA (fun k => some (k * sz, sz)) zs qs)
  | none => .bad
def faA (off : Nat) : Option AV → Rs
  | some (.p n o) => .val (.p n (o + off))
  | some (.tp cs o) => .val (.tp cs (o + off))
  | _ => .bad
def iaA (sz : Nat) : Option AV → Option AV → Rs
  | some (.sl m o len e), some (.v (.int _ n)) => bif e == sz then .need (0 ≤ n ∧ n < len) (.p m (o + n.toNat * e)) else .bad
  | some (.ts len cs), some (.v (.int _ n)) => .need (0 ≤ n ∧ n < len ∧ 0 < cs.length) (.tp cs (n.toNat * sz))
  | _, _ => .bad
def lnA : Option AV → Rs
  | some (.sl _ _ len _) => .val (.v (.int .i64 len))
  | some (.ts len _) => .val (.v (.int .i64 len))
  | some (.v (.slice _ n _)) => .val (.v (.int .i64 n))
  | _ => .bad
def lnS : Option AV → Rs
  | some (.v (.string s)) => .val (.v (.int .i64 s.size))
  | _ => .bad
def exA (k : Nat) : Option AV → Rs
  | some (.tup cs) => rv (nth cs k)
  | _ => .bad
def mkB (el bytes sz nm : Nat) (zs : List AV) : Option AV → Option AV → Rs
  | some (.v (.int _ l)), some (.v (.int _ c)) => .newc (0 ≤ l ∧ l = c ∧ (bytes : Int) * c ≤ 281474976710656 ∧ c ≤ 9223372036854775807) ⟨el, repA l.toNat zs⟩ (.sl nm 0 l.toNat sz)
  | _, _ => .bad
def slcT (sz : Nat) (l : Int) (x : AV) : Option Int → Rs
  | some h => match x with
    | .sl m o len e => bif e == sz then .need (0 ≤ l ∧ l ≤ h ∧ h ≤ len) (.sl m (o + l.toNat * e) (h.toNat - l.toNat) e) else .bad
    | .ts len cs => .need (0 ≤ l ∧ l ≤ h ∧ h ≤ len) (.ts (h.toNat - l.toNat) ((cs.drop (l.toNat * sz)).take ((h.toNat - l.toNat) * sz)))
    | _ => .bad
  | none => .bad
def slcU (sz : Nat) (hi : Option AV) (x : AV) : Option Int → Rs
  | some l => match x with
    | .sl m o len e => slcT sz l (.sl m o len e) (hiA len hi)
    | .ts len cs => slcT sz l (.ts len cs) (hiA len hi)
    | _ => .bad
  | none => .bad
def slcA (sz : Nat) : Option AV → Option (Option AV) → Option (Option AV) → Rs
  | some x, some lo, some hi => slcU sz hi x (loA lo)
  | _, _, _ => .bad
def slsT (s : ByteArray) (l : Int) : Option Int → Rs
  | some h => .need (0 ≤ l ∧ l ≤ h ∧ h ≤ s.size) (.v (.string (s.extract l.toNat h.toNat)))
  | none => .bad
def slsU (hi : Option AV) (x : AV) : Option Int → Rs
  | some l => match x with
    | .v (.string s) => slsT s l (hiA s.size hi)
    | _ => .bad
  | none => .bad
def slsA : Option AV → Option (Option AV) → Option (Option AV) → Rs
  | some x, some lo, some hi => slsU hi x (loA lo)
  | _, _, _ => .bad
def apC (el bytes e : Nat) (σ : Sto) (n len : Nat) : Option En → Option (Nat × List AV) → Rs
  | some (.live b), some (l, ys) => bif b.ty == el then .sv (ys.length = l * e ∧ ones ys = true ∧ len * e ≤ b.cells.length ∧ 2 * (len + l) * bytes ≤ 281474976710656 ∧ len + l ≤ 9223372036854775807)
      (setN σ n .dead ++ [.live ⟨el, b.cells.take (len * e) ++ ys⟩]) (.sl σ.length 0 (len + l) e) else .bad
  | _, _ => .bad
def srcE (e : Nat) : AV → Bool
  | .sl _ _ _ e' => e' == e
  | .v (.string _) => false
  | _ => true
def apA (el bytes sz : Nat) (σ : Sto) : Option AV → Option AV → Rs
  | some (.sl n o len e), some x => bif o == 0 && e == sz && srcE e x then apC el bytes e σ n len (nth σ n) (srcA σ e x) else .bad
  | _, _ => .bad
def srcB (o l e : Nat) : Option En → Option (Nat × List AV)
  | some (.live b) => some (l, (b.cells.drop o).take (l * e))
  | _ => none
def calB (xs : Option (List AV)) : Option AV → Option (Nat × List AV)
  | some (.fn (.func n) a b) => xs.map fun xs => (n, a ++ (xs ++ b))
  | _ => none
section
variable {te : TE} {fr : Fr} {σ : Sto} {t : Nat} {i : TI} {nt : Nat} {e : Env} {rec : Rec} {k : List KI} {all : Array Oper} {o : Oper} {r : List Oper}
theorem op_move (x : Operand) : opA te fr σ (.move x) = rv (ev fr x) := rfl
theorem op_assign (x : Operand) : opA te fr σ (.assign x) = rv (ev fr x) := rfl
theorem op_pick (c a b : Operand) : opA te fr σ (.pick c a b) = pickA (ev fr c) (ev fr a) (ev fr b) := rfl
theorem op_un (op : UnOp) (t : Nat) (x : Operand) : opA te fr σ (.unOp op t x) = o1 (unA op) (ev fr x) := rfl
theorem op_box (t : Nat) (x : Operand) : opA te fr σ (.box t x) = boxA t σ.length (ev fr x) := by show o1 _ _ = _; cases ev fr x <;> rfl
theorem op_nc (x : Operand) : opA te fr σ (.nilCheck x) = o1 nilCheckA (ev fr x) := rfl
theorem op_mf (f : Fn) (a b : Array Operand) : opA te fr σ (.makeFunc f a b) = fnA f (evs fr a.toList) (evs fr b.toList) := rfl
theorem op_ex (x : Operand) (n : Nat) : opA te fr σ (.extract x n) = exA n (ev fr x) := by
  show o1 _ _ = _
  cases ev fr x with
  | none => rfl
  | some y => cases y <;> first | rfl | (show (match nth _ n with | some y => Rs.val y | none => .bad) = rv _; cases nth _ n <;> rfl)
theorem op_min (x y : Operand) (ats : Array TypeId) : opA te fr σ (.call ⟨.builtin .min, #[x, y], ats⟩) = o2 minA (ev fr x) (ev fr y) := rfl
theorem op_max (x y : Operand) (ats : Array TypeId) : opA te fr σ (.call ⟨.builtin .max, #[x, y], ats⟩) = o2 maxA (ev fr x) (ev fr y) := rfl
theorem alloc_eq (h : ti te t = some i) {zs : List AV} (hz : zeroA i = zs) : opA te fr σ (.alloc t) = .new ⟨t, zs⟩ (.p σ.length 0) := by
  simp only [opA, h, ot, hz]
theorem build_eq (h : ti te t = some i) (hs : isStruct i.desc = true) {ps : List (Nat × Nat)} (hp : placesA te (fieldsOf i.desc) = some ps) {zs : List AV} (hz : zeroA i = zs) (qs : Array (Nat × Operand)) :
    opA te fr σ (.build t qs) = bld zs ps (evp fr qs.toList) := by
  simp only [opA, h, ot]
  cases evp fr qs.toList with
  | none => rfl
  | some q =>
    simp only [ol, buildA, hs, cond_true, hp, hz, bld]
    cases fillA (nth ps) zs q <;> rfl
theorem bs_eq (h : ti te t = some i) (hs : isSl i.desc = true) {j : TI} (hj : ti te (slElem i.desc) = some j) {el sz : Nat} (he : slElem i.desc = el) (hz : j.size = sz) (n : Nat) (hg : (Nat.ble (n * sz) 16777216 && (zeroA j).length == sz && !(sz == 0)) = true) {zs : List AV} (hzs : repA n (zeroA j) = zs) (qs : Array (Nat × Operand)) :
    opA te fr σ (.buildSlice t n qs) = bsl el σ.length n sz zs (evp fr qs.toList) := by
  subst he hz
  simp only [opA, h, ot]
  cases evp fr qs.toList with
  | none => rfl
  | some q =>
    simp only [ol, buildSliceA, hs, cond_true, hj, hg, hzs, bsl]
    cases fillA (fun k => some (k * j.size, j.size)) zs q <;> rfl
theorem ld1_eq (h : ti te t = some i) (ha : i.agg = false) (x : Operand) : opA te fr σ (.load t x) = ld1 σ (ev fr x) := by
  simp only [opA, h, ot]
  cases ev fr x with
  | none => rfl
  | some y =>
    simp only [o1, ldA]
    cases y with
    | p n o =>
      simp only [cellsAt, ld1]
      cases nth σ n with
      | none => rfl
      | some z => cases z <;> simp [ld1e, ha, rv]
    | tp cs o => simp [cellsAt, ld1, ha]
    | _ => rfl
theorem ldn_eq (h : ti te t = some i) (ha : i.agg = true) {z : Nat} (hz : i.size = z) (x : Operand) : opA te fr σ (.load t x) = ldn z σ (ev fr x) := by
  subst hz
  have key : ∀ q : Option (List AV), rv (q.map .agg) = rva q := fun q => by cases q <;> rfl
  simp only [opA, h, ot]
  cases ev fr x with
  | none => rfl
  | some y =>
    simp only [o1, ldA]
    cases y with
    | p n o =>
      simp only [cellsAt, ldn]
      cases nth σ n with
      | none => rfl
      | some z => cases z <;> first | rfl | (simp only [ldne, ha, cond_true]; exact key _)
    | tp cs o => simp [cellsAt, ldn, ha, key]
    | _ => rfl
theorem st_eq (h : ti te t = some i) {z : Nat} (hz : i.size = z) (x y : Operand) : opA te fr σ (.store t x y) = stS z σ (ev fr x) (ev fr y) := by
  subst hz
  simp only [opA, h, ot]
  cases ev fr x with
  | none => rfl
  | some x' =>
    cases ev fr y with
    | none => cases x' <;> rfl
    | some y' =>
      simp only [o2, stA]
      cases x' with
      | p n o =>
        simp only [stS]
        cases nth σ n with
        | none => rfl
        | some z =>
          cases z with
          | live b => simp only [stT]; cases (y'.cells.length == i.size && ones y'.cells) <;> rfl
          | _ => rfl
      | _ => rfl
theorem bin_eq (h : ti te t = some i) (op : BinOp) (x y : Operand) (z : Nat) : opA te fr σ (.binOp op t x y z) = o2 (binA i op) (ev fr x) (ev fr y) := by
  simp only [opA, h, ot]
theorem cv_eq {s : Nat} {j : TI} (hs : ti te s = some j) (h : ti te t = some i) (hn : isStr i.desc = false) (x : Operand) : opA te fr σ (.convert s t x) = o1 (convA i) (ev fr x) := by
  simp only [opA, h, hs, ot]
  cases ev fr x with
  | none => rfl
  | some y => simp only [o1, convD, hn, cond_false]
def cvS (σ : Sto) : Option AV → Rs
  | some x => strS (bytesAt σ x)
  | none => .bad
theorem cvs_eq {s : Nat} {j : TI} (hs : ti te s = some j) (h : ti te t = some i) (hn : isStr i.desc = true) {q : TI} (hq : ti te (slElem j.desc) = some q) (hb : (isSl j.desc && (isU8 q.desc && q.size == 1)) = true) (x : Operand) : opA te fr σ (.convert s t x) = cvS σ (ev fr x) := by
  simp only [opA, h, hs, ot]
  cases ev fr x with
  | none => rfl
  | some y => simp only [o1, convD, hn, cond_true, convS, hq, hb, cvS]
def ixS : Option AV → Option AV → Rs
  | some (.v (.string s)), some (.v (.int _ n)) => .need (0 ≤ n ∧ n < s.size) (.v (.int .u8 (byteAt s n.toNat)))
  | _, _ => .bad
theorem ix_eq (h : ti te t = some i) (hs : isStr i.desc = true) (x y : Operand) : opA te fr σ (.index t x y) = ixS (ev fr x) (ev fr y) := by
  simp only [opA, h, ot]
  cases ev fr x with
  | none => rfl
  | some a =>
    cases ev fr y with
    | none =>
      simp only [o2]
      unfold ixS
      split <;> first | rfl | simp_all
    | some b =>
      simp only [o2, indexS, hs, cond_true]
      unfold ixS
      split <;> split <;> simp_all
theorem fa_eq (h : ti te t = some i) {f : Nat} {fd : Field} (hf : nth (fieldsOf i.desc) f = some fd) {j : TI} (hj : ti te fd.type = some j) (hz : (j.size == 0) = false) {off : Nat} (ho : fd.offset = off) (x : Operand) : opA te fr σ (.fieldAddr t x f) = faA off (ev fr x) := by
  subst ho
  simp only [opA, h, ot]
  cases ev fr x with
  | none => rfl
  | some y =>
    simp only [o1, fieldAddrA, hf, hj, hz, cond_false]
    cases y <;> rfl
theorem ia_eq (h : ti te t = some i) (hs : isSl i.desc = true) {j : TI} (hj : ti te (slElem i.desc) = some j) {sz : Nat} (hz : j.size = sz) (x y : Operand) : opA te fr σ (.indexAddr t x y) = iaA sz (ev fr x) (ev fr y) := by
  subst hz
  simp only [opA, h, ot]
  cases ev fr x with
  | none => rfl
  | some x' =>
    cases ev fr y with
    | none => cases x' <;> rfl
    | some y' =>
      simp only [o2, indexAddrA, hs, hj, cond_true]
      cases y' with
      | v v => cases v <;> cases x' <;> rfl
      | _ => cases x' <;> rfl
theorem ln_eq (h : ti te t = some i) (hs : isSl i.desc = true) (x : Operand) : opA te fr σ (.call ⟨.builtin .len, #[x], #[t]⟩) = lnA (ev fr x) := by
  have hst : isStr i.desc = false := by cases hd : i.desc <;> simp_all [isSl, isStr]
  show ot _ _ = _
  rw [h]
  simp only [ot]
  cases ev fr x with
  | none => rfl
  | some y =>
    simp only [o1, lenA, hs, hst, cond_true, cond_false]
    cases y with
    | v v => cases v <;> rfl
    | _ => rfl
theorem lns_eq (h : ti te t = some i) (hs : isStr i.desc = true) (x : Operand) : opA te fr σ (.call ⟨.builtin .len, #[x], #[t]⟩) = lnS (ev fr x) := by
  have hst : isSl i.desc = false := by cases hd : i.desc <;> simp_all [isSl, isStr]
  show ot _ _ = _
  rw [h]
  simp only [ot]
  cases ev fr x with
  | none => rfl
  | some y =>
    simp only [o1, lenA, hs, hst, cond_true, cond_false]
    cases y with
    | v v => cases v <;> rfl
    | _ => rfl
theorem mk_eq (h : ti te t = some i) (hs : isSl i.desc = true) {j : TI} (hj : ti te (slElem i.desc) = some j) {el bytes sz : Nat} (he : slElem i.desc = el) (hz : j.size = sz) (hb : j.bytes = bytes) {zs : List AV} (hzs : zeroA j = zs) (hl : (zs.length == sz) = true) (x y : Operand) :
    opA te fr σ (.makeSlice t x y) = mkB el bytes sz σ.length zs (ev fr x) (ev fr y) := by
  subst he hz hb hzs
  simp only [opA, h, ot]
  cases ev fr x with
  | none => rfl
  | some x' =>
    cases ev fr y with
    | none => cases x' with
      | v v => cases v <;> rfl
      | _ => rfl
    | some y' =>
      simp only [o2, makeA, hs, hj, hl, cond_true]
      cases x' with
      | v v => cases v <;> (cases y' with
        | v v' => cases v' <;> rfl
        | _ => rfl)
      | _ => rfl
theorem sl_eq (h : ti te t = some i) (hs : isSl i.desc = true) {j : TI} (hj : ti te (slElem i.desc) = some j) {sz : Nat} (hz : j.size = sz) (x : Operand) (lo hi : Option Operand) :
    opA te fr σ (.slice t x lo hi none) = slcA sz (ev fr x) (evo fr lo) (evo fr hi) := by
  subst hz
  have hst : isStr i.desc = false := by cases hd : i.desc <;> simp_all [isSl, isStr]
  have key : ∀ (x' : AV) (l : Int) (h' : Option AV), sliceR te i x' l h' = slcU j.size h' x' (some l) := by
    intro x' l h'
    unfold sliceR
    cases x' with
    | sl m o len e' =>
      simp only [hj, hs, Bool.true_and, slcU]
      cases hiA len h' <;> rfl
    | ts len cs =>
      simp only [hj, hs, slcU]
      cases hiA len h' <;> rfl
    | v v =>
      cases v with
      | string s =>
        simp only [hst, slcU]
        cases hiA s.size h' <;> rfl
      | _ => rfl
    | _ => rfl
  simp only [opA, h, ot]
  cases ev fr x with
  | none => rfl
  | some x' =>
    cases evo fr lo with
    | none => rfl
    | some lo' =>
      cases evo fr hi with
      | none => rfl
      | some hi' =>
        simp only [o1, sl2, sliceA, slcA]
        cases loA lo' with
        | none => rfl
        | some l => exact key x' l hi'
theorem sls_eq (h : ti te t = some i) (hs : isStr i.desc = true) (x : Operand) (lo hi : Option Operand) :
    opA te fr σ (.slice t x lo hi none) = slsA (ev fr x) (evo fr lo) (evo fr hi) := by
  have hst : isSl i.desc = false := by cases hd : i.desc <;> simp_all [isSl, isStr]
  have key : ∀ (x' : AV) (l : Int) (h' : Option AV), sliceR te i x' l h' = slsU h' x' (some l) := by
    intro x' l h'
    unfold sliceR
    cases x' with
    | sl m o len e' =>
      simp only [hst, Bool.false_and, slsU]
      cases hiA len h' <;> cases ti te (slElem i.desc) <;> rfl
    | ts len cs =>
      simp only [hst, slsU]
      cases hiA len h' <;> cases ti te (slElem i.desc) <;> rfl
    | v v =>
      cases v with
      | string s =>
        simp only [hs, slsU]
        cases hiA s.size h' <;> rfl
      | _ => rfl
    | _ => rfl
  simp only [opA, h, ot]
  cases ev fr x with
  | none => rfl
  | some x' =>
    cases evo fr lo with
    | none => rfl
    | some lo' =>
      cases evo fr hi with
      | none => rfl
      | some hi' =>
        simp only [o1, sl2, sliceA, slsA]
        cases loA lo' with
        | none => rfl
        | some l => exact key x' l hi'
theorem ap_eq (h : ti te t = some i) (hs : isSl i.desc = true) {j : TI} (hj : ti te (slElem i.desc) = some j) {el bytes sz : Nat} (he : slElem i.desc = el) (hz : j.size = sz) (hb : j.bytes = bytes) (hzs : (j.zero.cells.size == j.size) = true) (x y : Operand) :
    opA te fr σ (.call ⟨.builtin .append, #[x, y], #[t, t]⟩) = apA el bytes sz σ (ev fr x) (ev fr y) := by
  subst he hz hb
  have hst : isStr i.desc = false := by cases hd : i.desc <;> simp_all [isSl, isStr]
  show ot _ _ = _
  rw [h]
  simp only [ot]
  cases ev fr x with
  | none => rfl
  | some x' =>
    cases ev fr y with
    | none => cases x' <;> rfl
    | some y' =>
      simp only [o2, appA]
      cases x' with
      | sl n o len e =>
        simp only [hs, hj, Bool.and_true, apA]
        have key : srcOk e i.desc y' = srcE e y' := by
          cases y' with
          | v v => cases v <;> simp [srcOk, srcE, hs, hst]
          | _ => simp [srcOk, srcE, hs]
        cases ho : (o == 0)
        · rfl
        · simp only [cond_true, Bool.true_and]
          cases nth σ n with
          | none => cases hq : (e == j.size && srcE e y') <;> rfl
          | some z =>
            cases z with
            | live b =>
              cases hq : srcA σ e y' with
              | none => cases (e == j.size && srcE e y') <;> rfl
              | some p =>
                obtain ⟨l, ys⟩ := p
                simp only [apC, key, hzs, Bool.and_true]
                cases (b.ty == slElem i.desc) <;> cases (e == j.size) <;> cases srcE e y' <;> rfl
            | _ => cases (e == j.size && srcE e y') <;> cases srcA σ e y' <;> rfl
      | _ => rfl
end
def stepH (te : TE) (nt : Nat) (e : Env) (rec : Rec) (all : Array Oper) (o : Oper) (r : List Oper) (k : List KI) (fr : Fr) (σ : Sto) : Bool → Prop
  | true => Go e (.ops all (o :: r) :: k) fr σ
  | false => stepR rec nt all o.dst r k fr σ (opA te fr σ o.op)
def gdE (w : Bool) : Option AV → Gd
  | some (.v (.bool b)) => gdB b w
  | some (.tup _) => .skip
  | _ => .bad
def gdD (fr : Fr) (w : Bool) : Option Nat → Gd
  | some t => gdE w (get fr t)
  | none => .bad
def gdC (fr : Fr) (w : Bool) : Option Oper → Gd
  | some o => gdD fr w o.dst
  | none => .bad
section
variable {te : TE} {fr : Fr} {σ : Sto} {t : Nat} {i : TI} {nt : Nat} {e : Env} {rec : Rec} {k : List KI} {all : Array Oper} {o : Oper} {r : List Oper}
theorem q_run (n : Nat) : run te nt e (n + 1) k fr σ = step te nt e (run te nt e n) k fr σ := rfl
theorem q_seq (a b : Code) : step te nt e rec (.code (.seq a b) :: k) fr σ = rec (.code a :: .code b :: k) fr σ := rfl
theorem q_skip : step te nt e rec (.code .skip :: k) fr σ = rec k fr σ := rfl
theorem q_block (id : Nat) (c : Code) : step te nt e rec (.code (.block id c) :: k) fr σ = rec (.code c :: .blk id :: k) fr σ := rfl
theorem q_exit (id : Nat) : step te nt e rec (.code (.exit id) :: k) fr σ = stepX rec fr σ (popTo id k) := rfl
theorem q_cond (c : Operand) (a b : Code) : step te nt e rec (.code (.cond c a b) :: k) fr σ = stepC rec a b k fr σ (ev fr c) := rfl
theorem q_region (id : Nat) (ops : Array Oper) : step te nt e rec (.code (.region id ops false) :: k) fr σ = rec (.ops ops ops.toList :: k) fr σ := rfl
theorem q_nil : step te nt e rec (.ops all [] :: k) fr σ = rec k fr σ := rfl
theorem q_op : step te nt e rec (.ops all (o :: r) :: k) fr σ = stepG te nt e rec all o r k fr σ (gdA all.toList fr o.guard) := rfl
theorem q_blk (id : Nat) : step te nt e rec (.blk id :: k) fr σ = rec k fr σ := rfl
theorem q_loop (c : Code) : step te nt e rec (.code (.loop c) :: k) fr σ = Go e (.code (.loop c) :: k) fr σ := rfl
theorem q_ret : step te nt e rec (.code .ret :: k) fr σ = Go e (.code .ret :: k) fr σ := rfl
theorem q_open (id : Nat) (ops : Array Oper) : step te nt e rec (.code (.region id ops true) :: k) fr σ = Go e (.code (.region id ops true) :: k) fr σ := rfl
theorem q_inv (I : Act → World → Prop) : step te nt e rec (.inv I :: k) fr σ = Go e (.inv I :: k) fr σ := rfl
theorem q_fin : step te nt e rec [] fr σ = Go e [] fr σ := rfl
theorem q_go : stepG te nt e rec all o r k fr σ .go = stepH te nt e rec all o r k fr σ (isCall o.op) := by
  simp only [stepG, stepH]
  cases isCall o.op <;> rfl
theorem q_h0 : stepH te nt e rec all o r k fr σ false = stepR rec nt all o.dst r k fr σ (opA te fr σ o.op) := rfl
theorem q_h1 : stepH te nt e rec all o r k fr σ true = Go e (.ops all (o :: r) :: k) fr σ := rfl
theorem q_gskip : stepG te nt e rec all o r k fr σ .skip = stepS rec nt all o.dst r k fr σ := rfl
theorem q_stepC (a b : Code) (t : Bool) : stepC rec a b k fr σ (some (.v (.bool t))) = Br t (rec (.code a :: k) fr σ) (rec (.code b :: k) fr σ) := rfl
theorem q_brt (A B : Prop) : Br true A B = A := rfl
theorem q_brf (A B : Prop) : Br false A B = B := rfl
theorem q_stepX (k' : List KI) : stepX rec fr σ (some k') = rec k' fr σ := rfl
theorem q_sskip (d : Nat) : stepS rec nt all (some d) r k fr σ = bif decide (d < nt) then rec (.ops all r :: k) (put d (.tup []) fr) σ else False := rfl
theorem q_sskip0 : stepS rec nt all none r k fr σ = rec (.ops all r :: k) fr σ := rfl
theorem q_val (d : Nat) (x : AV) : stepR rec nt all (some d) r k fr σ (.val x) = bif decide (d < nt) then rec (.ops all r :: k) (put d x fr) σ else False := rfl
theorem q_need (d : Nat) (c : Prop) (x : AV) : stepR rec nt all (some d) r k fr σ (.need c x) = bif decide (d < nt) then c ∧ rec (.ops all r :: k) (put d x fr) σ else False := rfl
theorem q_new (d : Nat) (b : Blk) (x : AV) : stepR rec nt all (some d) r k fr σ (.new b x) = bif decide (d < nt) then rec (.ops all r :: k) (put d x fr) (σ ++ [.live b]) else False := rfl
theorem q_newc (d : Nat) (c : Prop) (b : Blk) (x : AV) : stepR rec nt all (some d) r k fr σ (.newc c b x) = bif decide (d < nt) then c ∧ rec (.ops all r :: k) (put d x fr) (σ ++ [.live b]) else False := rfl
theorem q_sv (d : Nat) (c : Prop) (σ' : Sto) (x : AV) : stepR rec nt all (some d) r k fr σ (.sv c σ' x) = bif decide (d < nt) then c ∧ rec (.ops all r :: k) (put d x fr) σ' else False := rfl
theorem q_sto (c : Prop) (σ' : Sto) : stepR rec nt all none r k fr σ (.sto c σ') = (c ∧ rec (.ops all r :: k) fr σ') := rfl
theorem q_c1 (x : Operand) : isCall (.move x) = false := rfl
theorem q_c2 (x : Operand) : isCall (.assign x) = false := rfl
theorem q_c3 (a b c : Operand) : isCall (.pick a b c) = false := rfl
theorem q_c4 (t : Nat) : isCall (.alloc t) = false := rfl
theorem q_c5 (t : Nat) (x : Operand) : isCall (.box t x) = false := rfl
theorem q_c6 (t : Nat) (p : Array (Nat × Operand)) : isCall (.build t p) = false := rfl
theorem q_c7 (t n : Nat) (p : Array (Nat × Operand)) : isCall (.buildSlice t n p) = false := rfl
theorem q_c8 (t : Nat) (x : Operand) : isCall (.load t x) = false := rfl
theorem q_c9 (t : Nat) (x y : Operand) : isCall (.store t x y) = false := rfl
theorem q_c10 (op : BinOp) (t : Nat) (x y : Operand) (z : Nat) : isCall (.binOp op t x y z) = false := rfl
theorem q_c11 (op : UnOp) (t : Nat) (x : Operand) : isCall (.unOp op t x) = false := rfl
theorem q_c12 (s t : Nat) (x : Operand) : isCall (.convert s t x) = false := rfl
theorem q_c13 (t : Nat) (x : Operand) (f : Nat) : isCall (.fieldAddr t x f) = false := rfl
theorem q_c14 (t : Nat) (x y : Operand) : isCall (.indexAddr t x y) = false := rfl
theorem q_c15 (x : Operand) (n : Nat) : isCall (.extract x n) = false := rfl
theorem q_c16 (x : Operand) : isCall (.nilCheck x) = false := rfl
theorem q_c17 (t : Nat) (x : Operand) (l h m : Option Operand) : isCall (.slice t x l h m) = false := rfl
theorem q_c18 (t : Nat) (x y : Operand) : isCall (.makeSlice t x y) = false := rfl
theorem q_c19 (f : Fn) (a b : Array Operand) : isCall (.makeFunc f a b) = false := rfl
theorem q_c20 (b : Builtin) (a : Array Operand) (t : Array TypeId) : isCall (.call ⟨.builtin b, a, t⟩) = false := rfl
theorem q_c21 (f : Operand) (a : Array Operand) (t : Array TypeId) : isCall (.call ⟨.value f, a, t⟩) = true := rfl
theorem q_c22 (t : Nat) (x y : Operand) : isCall (.index t x y) = false := rfl
theorem q_g0 (all : List Oper) : gdA all fr none = .go := rfl
theorem q_g1 (all : List Oper) (j : Nat) (w : Bool) : gdA all fr (some (j, w)) = gdC fr w (nth all j) := by
  show (match nth all j with | some o => _ | none => _) = _
  cases nth all j with
  | none => rfl
  | some o =>
    simp only [gdC]
    cases o.dst with
    | none => rfl
    | some t =>
      simp only [gdD]
      cases get fr t with
      | none => rfl
      | some x => cases x with
        | v v => cases v <;> rfl
        | _ => rfl
theorem q_gC (w : Bool) : gdC fr w (some o) = gdD fr w o.dst := rfl
theorem q_gD (w : Bool) (t : Nat) : gdD fr w (some t) = gdE w (get fr t) := rfl
theorem q_gEt (w : Bool) (cs : List AV) : gdE w (some (.tup cs)) = .skip := rfl
theorem q_gE (w b : Bool) : gdE w (some (.v (.bool b))) = gdB b w := rfl
theorem q_gB1 : gdB true true = .go := rfl
theorem q_gB2 : gdB true false = .skip := rfl
theorem q_gB3 : gdB false true = .skip := rfl
theorem q_gB4 : gdB false false = .go := rfl
theorem q_ev1 (t : Nat) : ev fr (.tmp t) = get fr t := rfl
theorem q_ev2 (c : Value) : ev fr (.const c) = some (.v c) := rfl
theorem q_ev3 (f : Nat) : ev fr (.func f) = some (.fn (.func f) [] []) := rfl
theorem q_evo0 : evo fr none = some none := rfl
theorem q_evo1 (o : Operand) : evo fr (some o) = (ev fr o).map some := rfl
theorem q_rv (x : AV) : rv (some x) = .val x := rfl
theorem q_rva (x : List AV) : rva (some x) = .val (.agg x) := rfl
theorem q_o1 (f : AV → Rs) (x : AV) : o1 f (some x) = f x := rfl
theorem q_o2 (f : AV → AV → Rs) (x y : AV) : o2 f (some x) (some y) = f x y := rfl
theorem q_pk1 (x : AV) (y : Option AV) : pickA (some (.v (.bool true))) (some x) y = .val x := by cases y <;> rfl
theorem q_pk2 (x : Option AV) (y : AV) : pickA (some (.v (.bool false))) x (some y) = .val y := by cases x <;> rfl
theorem q_ld1p (n o : Nat) : ld1 σ (some (.p n o)) = ld1e o (nth σ n) := rfl
theorem q_ld1e (o : Nat) (b : Blk) : ld1e o (some (.live b)) = rv (nth b.cells o) := rfl
theorem q_ld1t (cs : List AV) (o : Nat) : ld1 σ (some (.tp cs o)) = rv (nth cs o) := rfl
theorem q_ldnp (z n o : Nat) : ldn z σ (some (.p n o)) = ldne z o (nth σ n) := rfl
theorem q_ldne (z o : Nat) (b : Blk) : ldne z o (some (.live b)) = rva (sub b.cells z o) := rfl
theorem q_ldnt (z : Nat) (cs : List AV) (o : Nat) : ldn z σ (some (.tp cs o)) = rva (sub cs z o) := rfl
theorem q_sub0 (cs : List AV) (o : Nat) : sub cs 0 o = some [] := rfl
theorem q_sub1 (cs : List AV) (n o : Nat) : sub cs (n + 1) o = subc (nth cs o) (sub cs n (o + 1)) := by
  show (match nth cs o with | some x => (sub cs n (o + 1)).map (x :: ·) | none => none) = _
  cases nth cs o with
  | none => rfl
  | some x => cases sub cs n (o + 1) <;> rfl
theorem q_subc (x : AV) (r : List AV) : subc (some x) (some r) = some (x :: r) := rfl
theorem q_stS (z m o : Nat) (y : AV) : stS z σ (some (.p m o)) (some y) = stT z σ m o y (nth σ m) := rfl
theorem q_stT (z m o : Nat) (y : AV) (b : Blk) : stT z σ m o y (some (.live b)) = bif y.cells.length == z && ones y.cells then .sto (o + z ≤ b.cells.length) (setN σ m (.live ⟨b.ty, sets b.cells o y.cells⟩)) else .bad := rfl
theorem q_box (t nm : Nat) (x : AV) : boxA t nm (some x) = .new ⟨t, x.cells⟩ (.p nm 0) := rfl
theorem q_bldr (cs : List AV) : bldr (some cs) = .val (.agg cs) := rfl
theorem q_bld (zs : List AV) (ps : List (Nat × Nat)) (qs : List (Nat × AV)) : bld zs ps (some qs) = bldr (fillA (nth ps) zs qs) := rfl
theorem q_fill0 (pl : Nat → Option (Nat × Nat)) (cs : List AV) : fillA pl cs [] = some cs := rfl
theorem q_fill1 (pl : Nat → Option (Nat × Nat)) (cs : List AV) (i : Nat) (x : AV) (r : List (Nat × AV)) : fillA pl cs ((i, x) :: r) = fillB pl cs x r (pl i) := by
  unfold fillA
  cases pl i with
  | none => rfl
  | some p => rfl
theorem q_fillB (pl : Nat → Option (Nat × Nat)) (cs : List AV) (x : AV) (r : List (Nat × AV)) (off size : Nat) : fillB pl cs x r (some (off, size)) = bif x.cells.length == size && decide (off + size ≤ cs.length) then fillA pl (sets cs off x.cells) r else none := by
  have : decide (off + size ≤ cs.length) = Nat.ble (off + size) cs.length := by
    cases h : Nat.ble (off + size) cs.length
    · have : ¬ off + size ≤ cs.length := fun h' => by rw [Nat.ble_eq.mpr h'] at h; cases h
      simpa using this
    · simpa using Nat.ble_eq.mp h
  rw [this]
  rfl
theorem q_bsr (el nm n sz : Nat) (cs : List AV) : bsr el nm n sz (some cs) = .new ⟨el, cs⟩ (.sl nm 0 n sz) := rfl
theorem q_bsl (el nm n sz : Nat) (zs : List AV) (qs : List (Nat × AV)) : bsl el nm n sz zs (some qs) = bsr el nm n sz (fillA (fun k => some (k * sz, sz)) zs qs) := rfl
theorem q_fap (off n o : Nat) : faA off (some (.p n o)) = .val (.p n (o + off)) := rfl
theorem q_fat (off : Nat) (cs : List AV) (o : Nat) : faA off (some (.tp cs o)) = .val (.tp cs (o + off)) := rfl
theorem q_iasl (sz m o len e : Nat) (k : IntKind) (n : Int) : iaA sz (some (.sl m o len e)) (some (.v (.int k n))) = bif e == sz then .need (0 ≤ n ∧ n < len) (.p m (o + n.toNat * e)) else .bad := rfl
theorem q_iats (sz len : Nat) (cs : List AV) (k : IntKind) (n : Int) : iaA sz (some (.ts len cs)) (some (.v (.int k n))) = .need (0 ≤ n ∧ n < len ∧ 0 < cs.length) (.tp cs (n.toNat * sz)) := rfl
theorem q_lnsl (m o len e : Nat) : lnA (some (.sl m o len e)) = .val (.v (.int .i64 len)) := rfl
theorem q_lnts (len : Nat) (cs : List AV) : lnA (some (.ts len cs)) = .val (.v (.int .i64 len)) := rfl
theorem q_lnv (a : Option Addr) (n c : Nat) : lnA (some (.v (.slice a n c))) = .val (.v (.int .i64 n)) := rfl
theorem q_lnS (s : ByteArray) : lnS (some (.v (.string s))) = .val (.v (.int .i64 s.size)) := rfl
theorem q_exA (k : Nat) (cs : List AV) : exA k (some (.tup cs)) = rv (nth cs k) := rfl
theorem q_mkB (el bytes sz nm : Nat) (zs : List AV) (k k' : IntKind) (l c : Int) : mkB el bytes sz nm zs (some (.v (.int k l))) (some (.v (.int k' c))) = .newc (0 ≤ l ∧ l = c ∧ (bytes : Int) * c ≤ 281474976710656 ∧ c ≤ 9223372036854775807) ⟨el, repA l.toNat zs⟩ (.sl nm 0 l.toNat sz) := rfl
theorem q_lo0 : loA none = some 0 := rfl
theorem q_lo1 (k : IntKind) (n : Int) : loA (some (.v (.int k n))) = some n := rfl
theorem q_hi0 (len : Nat) : hiA len none = some (len : Int) := rfl
theorem q_hi1 (len : Nat) (k : IntKind) (n : Int) : hiA len (some (.v (.int k n))) = some n := rfl
theorem q_slcA (sz : Nat) (x : AV) (lo hi : Option AV) : slcA sz (some x) (some lo) (some hi) = slcU sz hi x (loA lo) := rfl
theorem q_slcU1 (sz m o len e : Nat) (hi : Option AV) (l : Int) : slcU sz hi (.sl m o len e) (some l) = slcT sz l (.sl m o len e) (hiA len hi) := rfl
theorem q_slcU2 (sz len : Nat) (cs : List AV) (hi : Option AV) (l : Int) : slcU sz hi (.ts len cs) (some l) = slcT sz l (.ts len cs) (hiA len hi) := rfl
theorem q_slcT1 (sz m o len e : Nat) (l h : Int) : slcT sz l (.sl m o len e) (some h) = bif e == sz then .need (0 ≤ l ∧ l ≤ h ∧ h ≤ len) (.sl m (o + l.toNat * e) (h.toNat - l.toNat) e) else .bad := rfl
theorem q_slcT2 (sz len : Nat) (cs : List AV) (l h : Int) : slcT sz l (.ts len cs) (some h) = .need (0 ≤ l ∧ l ≤ h ∧ h ≤ len) (.ts (h.toNat - l.toNat) ((cs.drop (l.toNat * sz)).take ((h.toNat - l.toNat) * sz))) := rfl
theorem q_ixS (s : ByteArray) (k : IntKind) (n : Int) : ixS (some (.v (.string s))) (some (.v (.int k n))) = .need (0 ≤ n ∧ n < s.size) (.v (.int .u8 (byteAt s n.toNat))) := rfl
def cvN (l o : Nat) : Option En → Rs
  | some (.live b) => strS (u8s l (b.cells.drop o))
  | _ => .bad
theorem q_cvS1 (σ : Sto) (m o l e : Nat) : cvS σ (some (.sl m o l e)) = cvN l o (nth σ m) := by
  simp only [cvS, bytesAt, cvN]
  cases nth σ m with
  | none => rfl
  | some x => cases x <;> rfl
theorem q_cvN (l o : Nat) (b : Blk) : cvN l o (some (.live b)) = strS (u8s l (b.cells.drop o)) := rfl
theorem q_u8s0 (cs : List AV) : u8s 0 cs = some [] := by cases cs <;> rfl
theorem q_u8s1 (n : Nat) (k : Int) (r : List AV) : u8s (n + 1) (.v (.int .u8 k) :: r) = (u8s n r).map (k :: ·) := rfl
theorem q_u8s2 (k : Int) (r : List AV) : u8s 1 (.v (.int .u8 k) :: r) = some [k] := rfl
theorem q_strS (n : Int) (ns : List Int) : strS (some (n :: ns)) = .val (.v (.string (pushAll (n :: ns)))) := rfl
theorem q_slsA (x : AV) (lo hi : Option AV) : slsA (some x) (some lo) (some hi) = slsU hi x (loA lo) := rfl
theorem q_slsU (s : ByteArray) (hi : Option AV) (l : Int) : slsU hi (.v (.string s)) (some l) = slsT s l (hiA s.size hi) := rfl
theorem q_slsT (s : ByteArray) (l h : Int) : slsT s l (some h) = .need (0 ≤ l ∧ l ≤ h ∧ h ≤ s.size) (.v (.string (s.extract l.toNat h.toNat))) := rfl
theorem q_apA (el bytes sz n o len e : Nat) (x : AV) : apA el bytes sz σ (some (.sl n o len e)) (some x) = bif o == 0 && e == sz && srcE e x then apC el bytes e σ n len (nth σ n) (srcA σ e x) else .bad := rfl
theorem q_apC (el bytes e n len l : Nat) (b : Blk) (ys : List AV) : apC el bytes e σ n len (some (.live b)) (some (l, ys)) = bif b.ty == el then .sv (ys.length = l * e ∧ ones ys = true ∧ len * e ≤ b.cells.length ∧ 2 * (len + l) * bytes ≤ 281474976710656 ∧ len + l ≤ 9223372036854775807)
      (setN σ n .dead ++ [.live ⟨el, b.cells.take (len * e) ++ ys⟩]) (.sl σ.length 0 (len + l) e) else .bad := rfl
theorem q_srcE1 (e a b c e' : Nat) : srcE e (.sl a b c e') = (e' == e) := rfl
theorem q_srcE2 (e n : Nat) (cs : List AV) : srcE e (.ts n cs) = true := rfl
theorem q_srcE3 (e : Nat) : srcE e (.v (.slice none 0 0)) = true := rfl
theorem q_srcA1 (e m o l e' : Nat) : srcA σ e (.sl m o l e') = srcB o l e (nth σ m) := by
  show (match nth σ m with | some (.live b) => _ | _ => _) = _
  cases nth σ m with
  | none => rfl
  | some z => cases z <;> rfl
theorem q_srcB (o l e : Nat) (b : Blk) : srcB o l e (some (.live b)) = some (l, (b.cells.drop o).take (l * e)) := rfl
theorem q_srcA2 (e l : Nat) (cs : List AV) : srcA σ e (.ts l cs) = some (l, cs.take (l * e)) := rfl
theorem q_srcA3 (e : Nat) : srcA σ e (.v (.slice none 0 0)) = some (0, []) := rfl
theorem q_fnA (f : Fn) (a b : List AV) : fnA f (some a) (some b) = .val (.fn f a b) := rfl
theorem q_nc1 (n o : Nat) : nilCheckA (.p n o) = .val (.p n o) := rfl
theorem q_nc2 (cs : List AV) (o : Nat) : nilCheckA (.tp cs o) = .val (.tp cs o) := rfl
theorem q_bin (op : BinOp) (k : IntKind) (a b : Int) : binA i op (.v (.int k a)) (.v (.int k b)) = intA op k a b := by
  show (bif kEq k k then intA op k a b else shA op k a b) = _
  have : kEq k k = true := by cases k <;> rfl
  rw [this, cond_true]
theorem q_bin2 (op : BinOp) (a b : ByteArray) : binA i op (.v (.string a)) (.v (.string b)) = strA op a b := rfl
theorem q_bin3 (a b : Bool) : binA i .eql (.v (.bool a)) (.v (.bool b)) = bif isBool i.desc then .val (.v (.bool (a == b))) else .bad := rfl
theorem q_bin4 (a b : Bool) : binA i .neq (.v (.bool a)) (.v (.bool b)) = bif isBool i.desc then .val (.v (.bool (!(a == b)))) else .bad := rfl
theorem q_bin5 (n o : Nat) : binA i .eql (.p n o) (.v (.pointer none)) = bif isPtr i.desc then .val (.v (.bool false)) else .bad := rfl
theorem q_bin6 (n o : Nat) : binA i .neq (.p n o) (.v (.pointer none)) = bif isPtr i.desc then .val (.v (.bool true)) else .bad := rfl
theorem q_bin7 (cs : List AV) (o : Nat) : binA i .eql (.tp cs o) (.v (.pointer none)) = bif isPtr i.desc then .val (.v (.bool false)) else .bad := rfl
theorem q_bin8 (cs : List AV) (o : Nat) : binA i .neq (.tp cs o) (.v (.pointer none)) = bif isPtr i.desc then .val (.v (.bool true)) else .bad := rfl
theorem q_bin9 : binA i .eql (.v (.pointer none)) (.v (.pointer none)) = bif isPtr i.desc then .val (.v (.bool true)) else .bad := rfl
theorem q_bin10 : binA i .neq (.v (.pointer none)) (.v (.pointer none)) = bif isPtr i.desc then .val (.v (.bool false)) else .bad := rfl
theorem q_shr (a b : Int) : binA i .shr (.v (.int .i64 a)) (.v (.int .u64 b)) = .need (0 ≤ b) (.v (.int .i64 (shrA .i64 a b))) := rfl
theorem q_i12 (k : IntKind) (a b : Int) : intA .and k a b = .val (.v (.int k (andA k a b))) := rfl
theorem q_i13 (k : IntKind) (a b : Int) : intA .xor k a b = .val (.v (.int k (xorA k a b))) := rfl
theorem q_i1 (k : IntKind) (a b : Int) : intA .add k a b = .val (.v (.int k (k.wrap (a + b)))) := rfl
theorem q_i2 (k : IntKind) (a b : Int) : intA .sub k a b = .val (.v (.int k (k.wrap (a - b)))) := rfl
theorem q_i3 (k : IntKind) (a b : Int) : intA .mul k a b = .val (.v (.int k (k.wrap (a * b)))) := rfl
theorem q_i4 (k : IntKind) (a b : Int) : intA .quo k a b = .need (b ≠ 0) (.v (.int k (k.wrap (a.tdiv b)))) := rfl
theorem q_i5 (k : IntKind) (a b : Int) : intA .rem k a b = .need (b ≠ 0) (.v (.int k (a.tmod b))) := rfl
theorem q_i6 (k : IntKind) (a b : Int) : intA .eql k a b = .val (.v (.bool (decide (a = b)))) := by
  show Rs.val (.v (.bool (a == b))) = _
  congr 3
theorem q_i7 (k : IntKind) (a b : Int) : intA .neq k a b = .val (.v (.bool (!decide (a = b)))) := by
  show Rs.val (.v (.bool (a != b))) = _
  congr 3
theorem q_i8 (k : IntKind) (a b : Int) : intA .lss k a b = .val (.v (.bool (decide (a < b)))) := rfl
theorem q_i9 (k : IntKind) (a b : Int) : intA .leq k a b = .val (.v (.bool (decide (a ≤ b)))) := rfl
theorem q_i10 (k : IntKind) (a b : Int) : intA .gtr k a b = .val (.v (.bool (decide (b < a)))) := rfl
theorem q_i11 (k : IntKind) (a b : Int) : intA .geq k a b = .val (.v (.bool (decide (b ≤ a)))) := rfl
theorem q_s1 (a b : ByteArray) : strA .add a b = .need (a.size + b.size ≤ 9223372036854775807) (.v (.string (a ++ b))) := rfl
theorem q_s2 (a b : ByteArray) : strA .eql a b = .val (.v (.bool (a.toList == b.toList))) := rfl
theorem q_s3 (a b : ByteArray) : strA .neq a b = .val (.v (.bool (!(a.toList == b.toList)))) := rfl
theorem q_u1 (b : Bool) : unA .not (.v (.bool b)) = .val (.v (.bool (!b))) := rfl
theorem q_u2 (k : IntKind) (n : Int) : unA .neg (.v (.int k n)) = .val (.v (.int k (k.wrap (0 - n)))) := rfl
theorem q_min (k : IntKind) (a b : Int) : minA (.v (.int k a)) (.v (.int k b)) = .val (.v (.int k (if b < a then b else a))) := by
  have : kEq k k = true := by cases k <;> rfl
  simp only [minA, this, cond_true]
theorem q_max (k : IntKind) (a b : Int) : maxA (.v (.int k a)) (.v (.int k b)) = .val (.v (.int k (if b > a then b else a))) := by
  have : kEq k k = true := by cases k <;> rfl
  simp only [maxA, this, cond_true]
theorem q_ce1 (cs : List AV) : (AV.agg cs).cells = cs := rfl
theorem q_ce2 (k : IntKind) (n : Int) : (AV.v (.int k n)).cells = [.v (.int k n)] := rfl
theorem q_ce3 (b : Bool) : (AV.v (.bool b)).cells = [.v (.bool b)] := rfl
theorem q_ce4 (a : Option Addr) (n c : Nat) : (AV.v (.slice a n c)).cells = [.v (.slice a n c)] := rfl
theorem q_ce5 (a : Option Addr) : (AV.v (.pointer a)).cells = [.v (.pointer a)] := rfl
theorem q_ce6 (s : ByteArray) : (AV.v (.string s)).cells = [.v (.string s)] := rfl
theorem q_ce7 (n o : Nat) : (AV.p n o).cells = [.p n o] := rfl
theorem q_ce8 (cs : List AV) (o : Nat) : (AV.tp cs o).cells = [.tp cs o] := rfl
theorem q_ce9 (n o l e : Nat) : (AV.sl n o l e).cells = [.sl n o l e] := rfl
theorem q_ce10 (n : Nat) (cs : List AV) : (AV.ts n cs).cells = [.ts n cs] := rfl
theorem q_ce11 (f : Fn) (a b : List AV) : (AV.fn f a b).cells = [.fn f a b] := rfl
theorem q_on2 (k : IntKind) (n : Int) : (AV.v (.int k n)).one = true := rfl
theorem q_on3 (b : Bool) : (AV.v (.bool b)).one = true := rfl
theorem q_on4 (a : Option Addr) (n c : Nat) : (AV.v (.slice a n c)).one = true := rfl
theorem q_on5 (a : Option Addr) : (AV.v (.pointer a)).one = true := rfl
theorem q_on6 (s : ByteArray) : (AV.v (.string s)).one = true := rfl
theorem q_on7 (n o : Nat) : (AV.p n o).one = true := rfl
theorem q_on8 (cs : List AV) (o : Nat) : (AV.tp cs o).one = true := rfl
theorem q_on9 (n o l e : Nat) : (AV.sl n o l e).one = true := rfl
theorem q_on10 (n : Nat) (cs : List AV) : (AV.ts n cs).one = true := rfl
theorem q_on11 (f : Fn) (a b : List AV) : (AV.fn f a b).one = true := rfl
theorem q_enr1 (ρ : Nat → Nat) (b : Blk) : (En.live b).ren ρ = .live ⟨b.ty, AV.renL ρ b.cells⟩ := rfl
end

/-! ### Ends of walks, in words that compute -/
def nodupB : List Nat → Bool
  | [] => true
  | x :: r => !(r.contains x) && nodupB r
theorem nodupB_ok : ∀ {l : List Nat}, nodupB l = true → l.Nodup
  | [], _ => List.nodup_nil
  | x :: r, h => by
    simp only [nodupB, Bool.and_eq_true, Bool.not_eq_true', List.contains_eq_mem, decide_eq_false_iff_not] at h
    exact List.nodup_cons.2 ⟨h.1, nodupB_ok h.2⟩
def keys : Fr → List Nat
  | [] => []
  | (k, _) :: r => k :: keys r
theorem mem_keys : ∀ {fr : Fr} {k : Nat} {x : AV}, (k, x) ∈ fr → k ∈ keys fr
  | (d, y) :: r, k, x, h => by
    rcases List.mem_cons.1 h with h | h
    · injection h with h1 h2
      subst h1
      simp [keys]
    · simp [keys, mem_keys h]
theorem once_of : ∀ {fr : Fr}, (keys fr).Nodup → once fr
  | [], _ => trivial
  | (k, x) :: r, h => by
    simp only [keys, List.nodup_cons] at h
    exact ⟨fun y hy => h.1 (mem_keys hy), once_of h.2⟩
def FitF (ρ : Nat → Nat) (fr : Fr) : Fr → Prop
  | [] => True
  | (d, x) :: r => get fr d = some (x.ren ρ) ∧ FitF ρ fr r
theorem FitF.get {ρ : Nat → Nat} {fr : Fr} : ∀ {fr' : Fr}, FitF ρ fr fr' → ∀ p ∈ fr', get fr p.1 = some (p.2.ren ρ)
  | [], _, p, h => by simp at h
  | (d, x) :: r, H, p, h => by
    rcases List.mem_cons.1 h with rfl | h
    · exact H.1
    · exact FitF.get H.2 p h
def FitL (ρ : Nat → Nat) (σ : Sto) : List Nat → Sto → Prop
  | [], [] => True
  | m :: L, .live b :: r => nth σ m = some (.live (b.ren ρ)) ∧ FitL ρ σ L r
  | _ :: L, .dead :: r => FitL ρ σ L r
  | _, _ => False
theorem FitL.len {ρ : Nat → Nat} {σ : Sto} : ∀ {L : List Nat} {σ' : Sto}, FitL ρ σ L σ' → L.length = σ'.length
  | [], [], _ => rfl
  | m :: L, .live b :: r, h => by simp [FitL.len h.2]
  | _ :: L, .dead :: r, h => by simp [FitL.len (L := L) (σ' := r) h]
  | [], _ :: _, h => h.elim
  | _ :: _, [], h => h.elim
  | _ :: _, .fresh :: _, h => h.elim
theorem FitL.at {ρ : Nat → Nat} {σ : Sto} : ∀ {L : List Nat} {σ' : Sto}, FitL ρ σ L σ' → ∀ {n m : Nat}, L[n]? = some m → match σ'[n]? with
    | some (.live b) => σ[m]? = some (.live (b.ren ρ))
    | some .dead => True
    | _ => False
  | [], [], _, n, m, h => by simp at h
  | k :: L, .live b :: r, H, 0, m, h => by
    simp only [List.getElem?_cons_zero, Option.some.injEq] at h ⊢
    subst h
    rw [← nth_eq]
    exact H.1
  | k :: L, .live b :: r, H, n + 1, m, h => by
    simp only [List.getElem?_cons_succ] at h ⊢
    exact FitL.at H.2 h
  | k :: L, .dead :: r, H, 0, m, h => by simp
  | k :: L, .dead :: r, H, n + 1, m, h => by
    simp only [List.getElem?_cons_succ] at h ⊢
    exact FitL.at (L := L) (σ' := r) H h
  | [], _ :: _, H, n, m, h => H.elim
  | _ :: _, [], H, n, m, h => H.elim
  | _ :: _, .fresh :: _, H, n, m, h => H.elim
/-- The first n0 names stay. -/
def firstOk : Nat → Nat → List Nat → Bool
  | _, 0, _ => true
  | i, n + 1, m :: L => m == i && firstOk (i + 1) n L
  | _, _ + 1, [] => false
theorem firstOk_ok : ∀ {i n0 : Nat} {L : List Nat}, firstOk i n0 L = true → n0 ≤ L.length ∧ ∀ n, n < n0 → L[n]? = some (i + n)
  | i, 0, L, _ => ⟨Nat.zero_le _, fun n h => by omega⟩
  | i, n0 + 1, m :: L, h => by
    simp only [firstOk, Bool.and_eq_true, beq_iff_eq] at h
    obtain ⟨rfl, h2⟩ := h
    obtain ⟨h3, h4⟩ := firstOk_ok h2
    refine ⟨by simpa using h3, fun n hn => ?_⟩
    cases n with
    | zero => rfl
    | succ n =>
      rw [List.getElem?_cons_succ, h4 n (by omega)]
      congr 1
      omega
  | i, n0 + 1, [], h => by simp [firstOk] at h
theorem Fit.mk' {n0 : Nat} {L : List Nat} {fr' fr : Fr} {σ' σ : Sto} (h1 : nodupB (keys fr') = true) (h2 : nodupB L = true) (h3 : firstOk 0 n0 L = true) (h4 : FitF (rho L σ.length) fr fr') (h5 : FitL (rho L σ.length) σ L σ') : Fit n0 L fr' σ' fr σ := by
  have hl := h5.len
  obtain ⟨h6, h7⟩ := firstOk_ok h3
  refine ⟨once_of (nodupB_ok h1), h4.get, nodupB_ok h2, hl, by omega, fun n hn => ?_⟩
  have e := rho_lt L σ.length n (by omega)
  refine ⟨fun hn0 => ?_, h5.at e⟩
  have := h7 n hn0
  rw [e, Nat.zero_add] at this
  exact Option.some.inj this
section
variable {e : Env} {k : List KI} {fr : Fr} {σ σ' : Sto} {r : AV} {te : TE}
theorem Go.round {X : Type} {pre : X → Prop} {μ : X → Nat} {F : X → Fr} {T : X → Sto} {m : Nat} (x : X) (L : List Nat) (hp : pre x) (hm : μ x < m) (h1 : nodupB (keys (F x)) = true) (h2 : nodupB L = true) (h3 : firstOk 0 e.σ0.length L = true)
    (h4 : FitF (rho L σ.length) fr (F x)) (h5 : FitL (rho L σ.length) σ L (T x)) : Go e (.inv (Again e pre μ F T m) :: k) fr σ :=
  Go.again x hp hm L (Fit.mk' h1 h2 h3 h4 h5)
theorem Go.to (fr' : Fr) (σ' : Sto) (L : List Nat) (h1 : nodupB (keys fr') = true) (h2 : nodupB L = true) (h3 : firstOk 0 e.σ0.length L = true) (h4 : FitF (rho L σ.length) fr fr') (h5 : FitL (rho L σ.length) σ L σ') (h : Go e k fr' σ') : Go e k fr σ :=
  Go.fit L (Fit.mk' h1 h2 h3 h4 h5) h
/-- The results of a function. -/
def resA (te : TE) (fr : Fr) (σ : Sto) : List ResultVar → Option (List AV)
  | [] => some []
  | .tmp t :: r => match get fr t, resA te fr σ r with
    | some x, some xs => some (x :: xs)
    | _, _ => none
  | .cell a t :: r => match ti te t, get fr a, resA te fr σ r with
    | some i, some p, some xs => match ldA i σ p with
      | some x => some (x :: xs)
      | none => none
    | _, _, _ => none
def tupA : List AV → AV
  | [x] => x
  | xs => .tup xs
def resM (tmps : Array Value) : ResultVar → Sem Value
  | .tmp t => pure (tmps.getD t undef)
  | .cell a t => do loadVar t (← asAddr (tmps.getD a undef))
theorem resA_ok (hte : TEok e.P te) {ι : Nat → Option Nat} {S : Nat → Prop} {a : Act} {w : World} (H : Sim e fr σ ι S a w) : ∀ {rs : List ResultVar} {xs : List AV}, resA te fr σ rs = some xs →
    ∃ us, VRe ι S w xs us ∧ (rs.mapM (resM a.tmps)).run e.P w = .ok us w
  | [], xs, h => by
    simp only [resA, Option.some.injEq] at h
    subst h
    exact ⟨[], by simp [VRe], by simp⟩
  | .tmp t :: rs, xs, h => by
    unfold resA at h
    split at h
    · rename_i x ys h1 h2
      injection h with h
      subst h
      obtain ⟨u, h3, h4⟩ := H.get h1
      obtain ⟨us, h5, h6⟩ := resA_ok hte H h2
      refine ⟨u :: us, by simp only [VRe]; exact ⟨u, us, rfl, h4, h5⟩, ?_⟩
      simp only [List.mapM_cons, Sem.run_bind, Sem.run_pure, Result.andThen_ok, h6, resM]
      simp [h3]
    · cases h
  | .cell b t :: rs, xs, h => by
    unfold resA at h
    split at h
    · rename_i i p ys h1 h2 h3
      split at h
      · rename_i x hx
        injection h with h
        subst h
        obtain ⟨u, h4, h5⟩ := H.get h2
        obtain ⟨v, h6, h7⟩ := load_ok (hte _ _ h1) H.sr hx h5
        obtain ⟨us, h8, h9⟩ := resA_ok hte H h3
        refine ⟨v :: us, by simp only [VRe]; exact ⟨v, us, rfl, h7, h8⟩, ?_⟩
        have hl : (resM a.tmps (.cell b t)).run e.P w = .ok v w := by
          show (do loadVar t (← asAddr (a.tmps.getD b undef)) : Sem Value).run e.P w = .ok v w
          have e1 : a.tmps.getD b undef = u := by simp [h4]
          rw [e1]
          cases p with
          | p n o =>
            simp only [VR] at h5
            obtain ⟨g, _, rfl⟩ := h5
            exact h6
          | tp cs o =>
            simp only [VR] at h5
            obtain ⟨g, o', c, ty, fz, rfl, _⟩ := h5
            exact h6
          | _ => simp [ldA, cellsAt] at hx
        simp only [List.mapM_cons, Sem.run_bind, hl, Result.andThen_ok, h9, Sem.run_pure]
      · cases h
    · cases h
theorem Go.retG {fn : Func} {xs : List AV} (hte : TEok e.P te) (hE : Ends e r σ') (hf : e.fn = fn) (L : List Nat) (hres : resA te fr σ fn.results.toList = some xs) (hr : tupA xs = r.ren (rho L σ.length))
    (h2 : nodupB L = true) (h3 : firstOk 0 e.σ0.length L = true) (h5 : FitL (rho L σ.length) σ L σ') : Go e (.code .ret :: k) fr σ := by
  refine Go.ret fun ι S a w H => ?_
  subst hf
  obtain ⟨us, h6, h7⟩ := resA_ok hte H hres
  have hF : Fit e.σ0.length L [] σ' fr σ := Fit.mk' rfl h2 h3 trivial h5
  have H' := H.fit hF
  have hrun : (results e.fn a.tmps).run e.P w = .ok (if h : us.length = 1 then us[0] else .tuple us.toArray) w := by
    have e1 : results e.fn a.tmps = (do let vs ← e.fn.results.mapM (resM a.tmps); pure (if h : vs.size = 1 then vs[0] else .tuple vs)) := by
      unfold results
      congr 1
    rw [e1, Array.mapM_eq_mapM_toList]
    simp only [Sem.run_bind, Sem.run_map, h7, Result.andThen_ok, Sem.run_pure, List.size_toArray]
    congr 1
  refine ⟨_, hrun, hE _ _ _ w ?_ H'.sr H'.ext⟩
  have h8 : VR (fun n => ι (rho L σ.length n)) S w r (if h : us.length = 1 then us[0] else .tuple us.toArray) := by
    refine (VR.ren _ r _).1 ?_
    rw [← hr]
    cases xs with
    | nil =>
      simp only [VRe] at h6
      subst h6
      simp only [tupA, VR]
      exact ⟨#[], by simp, by simp [VRe]⟩
    | cons x xs =>
      cases xs with
      | nil =>
        simp only [VRe] at h6
        obtain ⟨u, us', rfl, h9, rfl⟩ := h6
        simpa [tupA] using h9
      | cons y ys =>
        have hl := VRe.len h6
        have : ¬ us.length = 1 := by rw [hl]; simp
        rw [dif_neg this]
        simp only [tupA, VR]
        exact ⟨us.toArray, rfl, by simpa using h6⟩
  exact h8
end
def LendL (ρ : Nat → Nat) (σ : Sto) : List Nat → Sto → Sto → Prop
  | [], [], _ => True
  | m :: L, .live b :: r, .live _ :: r' => nth σ m = some (.live (b.ren ρ)) ∧ LendL ρ σ L r r'
  | _, _, _ => False
theorem LendL.ok {ρ : Nat → Nat} {σ : Sto} : ∀ {L : List Nat} {σi σo : Sto}, LendL ρ σ L σi σo → L.length = σi.length ∧ L.length ≤ σo.length ∧ ∀ (n m : Nat), L[n]? = some m → (∃ b, σi[n]? = some (En.live b) ∧ σ[m]? = some (En.live (b.ren ρ))) ∧ ∃ b, σo[n]? = some (En.live b)
  | [], [], _, _ => ⟨rfl, Nat.zero_le _, fun n m h => by simp at h⟩
  | k :: L, .live b :: r, .live c :: r', H => by
    obtain ⟨h1, h2, h3⟩ := LendL.ok H.2
    refine ⟨by simp [h1], by simp [h2], fun n m h => ?_⟩
    cases n with
    | zero =>
      simp only [List.getElem?_cons_zero, Option.some.injEq] at h ⊢
      subst h
      exact ⟨⟨b, rfl, by rw [← nth_eq]; exact H.1⟩, c, rfl⟩
    | succ n =>
      simp only [List.getElem?_cons_succ] at h ⊢
      exact h3 n m h
  | [], _ :: _, _, H => H.elim
  | _ :: _, [], _, H => H.elim
  | _ :: _, .live _ :: _, [], H => H.elim
  | _ :: _, .live _ :: _, .dead :: _, H => H.elim
  | _ :: _, .live _ :: _, .fresh :: _, H => H.elim
  | _ :: _, .dead :: _, _, H => H.elim
  | _ :: _, .fresh :: _, _, H => H.elim
theorem Lend.mk' {L : List Nat} {σi σo σ : Sto} (h1 : nodupB L = true) (h2 : LendL (rho L σ.length) σ L σi σo) : Lend L σi σo σ := by
  obtain ⟨a, b, c⟩ := h2.ok
  exact ⟨nodupB_ok h1, a, b, fun n hn => c n _ (rho_lt L σ.length n hn)⟩
/-- A loop is entered: the state is one of the family. -/
theorem Go.enter {e : Env} {k : List KI} {fr : Fr} {σ : Sto} {c : Code} {X : Type} (pre : X → Prop) (μ : X → Nat) (F : X → Fr) (T : X → Sto) (x : X) (L : List Nat) (h0 : pre x) (h1 : nodupB (keys (F x)) = true) (h2 : nodupB L = true) (h3 : firstOk 0 e.σ0.length L = true)
    (h4 : FitF (rho L σ.length) fr (F x)) (h5 : FitL (rho L σ.length) σ L (T x)) (round : ∀ x, pre x → Go e (.code c :: .inv (Again e pre μ F T (μ x)) :: k) (F x) (T x)) : Go e (.code (.loop c) :: k) fr σ :=
  Go.fit L (Fit.mk' h1 h2 h3 h4 h5) (Go.loop pre μ F T x h0 round)
end Go.Proofs.Ytjnlpomfjlpikaa.Ab
