import Derived.Test.YtmnahdoomnbdoaaWMore
import Derived.Test.YtmnahdoomnbdoaaWKept
import Derived.Test.YtmnahdoomnbdoaaWApart
/- What a walk holds, in one bundle: rows of the call's own and boxes, each in blocks of its own. -/
set_option linter.unusedVariables false
set_option linter.unusedSimpArgs false
namespace Go.Proofs.Ytmnahdoomnbdoaa.Bu
open Go.RowKit Go.Proofs.YtmnahdoomnbdoaaW.PrintWords Go.Proofs.YtmnahdoomnbdoaaW.PrintLast Go.Proofs.YtmnahdoomnbdoaaW.PrintMore

/-- One thing that is held: its blocks, and what is said of it. -/
structure Item where
  own : Nat → Prop
  is : World → Prop
  loc : ∀ {w w1 : World}, is w → (∀ k, own k → k < w.heap.size → w1.heap[k]? = w.heap[k]?) → is w1

/-- A row. -/
def row {α : Type} (d : Kd α) (e : Nat) (b : Nat) (v : Value) (xs : List α) (ok : Nat → Prop) : Item :=
  ⟨ok, fun w => d.R e w b ok v xs, fun h hm => Kd.R_step h hm⟩
/-- A box. -/
def box (g : Nat) (cs : Array Value) (t : Nat) : Item :=
  ⟨fun k => k = g, fun w => w.heap[g]? = some (.cells cs t (0, 0)), fun h hm => (hm g rfl (blk_lt h)).trans h⟩

structure Held (w0 w : World) (F : List Item) : Prop where
  below : Below w0.heap.size w0 w
  each : ∀ I ∈ F, I.is w ∧ ∀ k, I.own k → w0.heap.size ≤ k ∧ k < w.heap.size
  apart : F.Pairwise fun I J => ∀ k, I.own k → ¬ J.own k

section
variable {w0 w w1 : World} {F F' : List Item}
theorem Held.none_ (w : World) : Held w w [] := ⟨Below.refl _ _, (fun _ h => by cases h), List.Pairwise.nil⟩
theorem Held.of_below (h : Below w0.heap.size w0 w) : Held w0 w [] := ⟨h, (fun _ h => by cases h), List.Pairwise.nil⟩
/-- The items stay; the world grows. -/
theorem Held.move (H : Held w0 w F) (hb : Below w0.heap.size w0 w1) (hs : w.heap.size ≤ w1.heap.size) (hm : ∀ I ∈ F, ∀ k, I.own k → k < w.heap.size → w1.heap[k]? = w.heap[k]?) : Held w0 w1 F :=
  ⟨hb, fun I hI => ⟨I.loc (H.each I hI).1 (hm I hI), fun k hk => ⟨((H.each I hI).2 k hk).1, Nat.lt_of_lt_of_le ((H.each I hI).2 k hk).2 hs⟩⟩, H.apart⟩
theorem Held.grow (H : Held w0 w F) (hb : Below w.heap.size w w1) : Held w0 w1 F :=
  H.move (below_step H.below hb) hb.size (fun _ _ k _ hk => hb.block k hk)
theorem Held.drew (H : Held w0 w F) : Held w0 w.drew F := H.grow (below_drew (Below.refl _ _))
theorem Held.drewN (H : Held w0 w F) (m : Nat) : Held w0 (w.drewN m) F := H.grow (pw_below_drewN (Below.refl _ _) m)
/-- An item more, in blocks that came up behind w. -/
theorem Held.more (H : Held w0 w F) (hb : Below w.heap.size w w1) (I : Item) (h : I.is w1) (ho : ∀ k, I.own k → w.heap.size ≤ k ∧ k < w1.heap.size) : Held w0 w1 (I :: F) := by
  have H1 := H.grow hb
  refine ⟨H1.below, ?_, ?_⟩
  · intro J hJ
    rcases List.mem_cons.1 hJ with rfl | hJ
    · exact ⟨h, fun k hk => ⟨Nat.le_trans H.below.size (ho k hk).1, (ho k hk).2⟩⟩
    · exact H1.each J hJ
  · refine List.Pairwise.cons (fun J hJ k hk hk2 => ?_) H1.apart
    have h1 := (ho k hk).1
    have h2 := ((H.each J hJ).2 k hk2).2
    omega
/-- A row that a call has made. -/
theorem Held.fresh {α : Type} {d : Kd α} {e : Nat} {v : Value} {xs : List α} {ok' : Nat → Prop} (H : Held w0 w F) (hr : d.R e w1 w.heap.size ok' v xs) (hb : Below w.heap.size w w1) : ∃ ok, Held w0 w1 (row d e w0.heap.size v xs ok :: F) :=
  ⟨fun k => w.heap.size ≤ k ∧ k < w1.heap.size, H.more hb _ (Kd.R_lower (Kd.R_mono (Kd.R_bound hr) (fun _ hk => ⟨hk.2.1, hk.2.2.1⟩)) H.below.size) (fun _ hk => hk)⟩
/-- Two rows that a call has made, each its own. -/
theorem Held.fresh2 {α β : Type} {d : Kd α} {d2 : Kd β} {e e2 : Nat} {v v2 : Value} {xs : List α} {ys : List β} {ok1 ok2 : Nat → Prop} (H : Held w0 w F) (hr : d.R e w1 w.heap.size ok1 v xs) (hr2 : d2.R e2 w1 w.heap.size ok2 v2 ys) (hne : ∀ k, ok1 k → ¬ ok2 k) (hb : Below w.heap.size w w1) :
    ∃ ok ok', Held w0 w1 (row d e w0.heap.size v xs ok :: row d2 e2 w0.heap.size v2 ys ok' :: F) := by
  have H1 := H.more hb (row d2 e2 w0.heap.size v2 ys fun k => ok2 k ∧ w.heap.size ≤ k ∧ k < w1.heap.size) (Kd.R_lower (Kd.R_mono (Kd.R_bound hr2) (fun _ hk => ⟨hk.1, hk.2.1, hk.2.2.1⟩)) H.below.size) (fun _ hk => hk.2)
  refine ⟨fun k => ok1 k ∧ w.heap.size ≤ k ∧ k < w1.heap.size, fun k => ok2 k ∧ w.heap.size ≤ k ∧ k < w1.heap.size, ?_⟩
  refine ⟨H1.below, ?_, ?_⟩
  · intro J hJ
    rcases List.mem_cons.1 hJ with rfl | hJ
    · exact ⟨Kd.R_lower (Kd.R_mono (Kd.R_bound hr) (fun _ hk => ⟨hk.1, hk.2.1, hk.2.2.1⟩)) H.below.size, fun k hk => ⟨Nat.le_trans H.below.size hk.2.1, hk.2.2⟩⟩
    · exact H1.each J hJ
  · refine List.Pairwise.cons (fun J hJ k hk hk2 => ?_) H1.apart
    rcases List.mem_cons.1 hJ with rfl | hJ
    · exact hne k hk.1 hk2.1
    · have h1 := hk.2.1
      have h2 := ((H.each J hJ).2 k hk2).2
      omega
/-- Two flat rows, by their own blocks. -/
theorem Held.fresh2' {α β : Type} {d : Kd α} {d2 : Kd β} {e e2 : Nat} {v v2 : Value} {xs : List α} {ys : List β} {ok1 ok2 : Nat → Prop} (H : Held w0 w F) (hr : d.R e w1 w.heap.size ok1 v xs) (hr2 : d2.R e2 w1 w.heap.size ok2 v2 ys) (hE : d.E = []) (hE2 : d2.E = []) (hne : ∀ k, v.ownBlock = some k → v2.ownBlock ≠ some k) (hb : Below w.heap.size w w1) :
    ∃ ok ok', Held w0 w1 (row d e w0.heap.size v xs ok :: row d2 e2 w0.heap.size v2 ys ok' :: F) :=
  H.fresh2 (Kd.R_tight hE hr) (Kd.R_tight hE2 hr2) (fun k h1 h2 => hne k h1.symm h2.symm) hb
/-- A box that came up. -/
theorem Held.boxed {g : Nat} {cs : Array Value} {t : Nat} (H : Held w0 w F) (hg : g = w.heap.size) (h : w1.heap[g]? = some (.cells cs t (0, 0))) (hb : Below w.heap.size w w1) : Held w0 w1 (box g cs t :: F) :=
  H.more hb _ h (fun k hk => by
    have hk' : k = g := hk
    subst hk'
    exact ⟨by omega, blk_lt h⟩)
theorem Held.get (H : Held w0 w F) (i : Nat) {I : Item} (hi : F[i]? = some I) : I.is w := (H.each I (List.mem_of_getElem? hi)).1
theorem Held.rowAt (H : Held w0 w F) (i : Nat) {α : Type} {d : Kd α} {e b : Nat} {v : Value} {xs : List α} {ok : Nat → Prop} (hi : F[i]? = some (row d e b v xs ok)) : d.R e w b ok v xs := H.get i hi
theorem Held.boxAt (H : Held w0 w F) (i : Nat) {g : Nat} {cs : Array Value} {t : Nat} (hi : F[i]? = some (box g cs t)) : w.heap[g]? = some (.cells cs t (0, 0)) := H.get i hi
theorem apart_at {R : Item → Item → Prop} (hs : ∀ I J, R I J → R J I) (h : F.Pairwise R) {i j : Nat} {I J : Item} (hi : F[i]? = some I) (hj : F[j]? = some J) (hne : i ≠ j) : R I J := by
  rw [List.pairwise_iff_getElem] at h
  obtain ⟨hil, rfl⟩ := List.getElem?_eq_some_iff.1 hi
  obtain ⟨hjl, rfl⟩ := List.getElem?_eq_some_iff.1 hj
  rcases Nat.lt_or_gt_of_ne hne with hlt | hgt
  · exact h i j hil hjl hlt
  · exact hs _ _ (h j i hjl hil hgt)
theorem Held.far (H : Held w0 w F) {i j : Nat} {I J : Item} (hi : F[i]? = some I) (hj : F[j]? = some J) (hne : i ≠ j) : ∀ k, I.own k → ¬ J.own k :=
  apart_at (fun _ _ h k h1 h2 => h k h2 h1) H.apart hi hj hne
/-- Item i is changed, in its own blocks or in such as came up behind w. -/
theorem Held.change (H : Held w0 w F) (i : Nat) {I J : Item} (hi : F[i]? = some I) (hb : Below w0.heap.size w0 w1) (hs : w.heap.size ≤ w1.heap.size) (hm : ∀ k, ¬ I.own k → k < w.heap.size → w1.heap[k]? = w.heap[k]?) (hJ : J.is w1)
    (ho : ∀ k, J.own k → (I.own k ∨ w.heap.size ≤ k) ∧ k < w1.heap.size) (hF : F.set i J = F') : Held w0 w1 F' := by
  subst hF
  have hil := (List.getElem?_eq_some_iff.1 hi).1
  refine ⟨hb, ?_, ?_⟩
  · intro K hK
    obtain ⟨j, hj⟩ := List.getElem?_of_mem hK
    by_cases hij : i = j
    · subst hij
      rw [List.getElem?_set_self hil] at hj
      obtain rfl := Option.some.inj hj
      refine ⟨hJ, fun k hk => ⟨?_, (ho k hk).2⟩⟩
      rcases (ho k hk).1 with h1 | h1
      · exact ((H.each I (List.mem_of_getElem? hi)).2 k h1).1
      · exact Nat.le_trans H.below.size h1
    · rw [List.getElem?_set_ne hij] at hj
      have hK := H.each K (List.mem_of_getElem? hj)
      exact ⟨K.loc hK.1 (fun k hk hlt => hm k (fun h => H.far hi hj hij k h hk) hlt), fun k hk => ⟨(hK.2 k hk).1, Nat.lt_of_lt_of_le (hK.2 k hk).2 hs⟩⟩
  · rw [List.pairwise_iff_getElem]
    intro a b ha hb' hab k h1 h2
    rw [List.length_set] at ha hb'
    have lt_ : ∀ {j : Nat} (hj : j < F.length), F[j].own k → k < w.heap.size := fun hj h => ((H.each _ (List.getElem_mem hj)).2 k h).2
    by_cases hia : i = a
    · subst hia
      rw [List.getElem_set_self] at h1
      rw [List.getElem_set_ne (by omega)] at h2
      rcases (ho k h1).1 with h3 | h3
      · exact H.far hi (List.getElem?_eq_getElem hb') (by omega) k h3 h2
      · have := lt_ hb' h2; omega
    · rw [List.getElem_set_ne hia] at h1
      by_cases hib : i = b
      · subst hib
        rw [List.getElem_set_self] at h2
        rcases (ho k h2).1 with h3 | h3
        · exact H.far hi (List.getElem?_eq_getElem ha) (by omega) k h3 h1
        · have := lt_ ha h1; omega
      · rw [List.getElem_set_ne hib] at h2
        exact H.far (List.getElem?_eq_getElem ha) (List.getElem?_eq_getElem hb') (by omega) k h1 h2
/-- A cell of box i is written. -/
theorem Held.put (H : Held w0 w F) (i : Nat) {g : Nat} {cs cs' : Array Value} {t : Nat} (hi : F[i]? = some (box g cs t)) (j : Nat) (u : Value) (hc : cs.setIfInBounds j u = cs') (hF : F.set i (box g cs' t) = F') : Held w0 (w.setCell ⟨g, j, none⟩ u) F' := by
  have hg := (H.each _ (List.mem_of_getElem? hi)).2 g rfl
  have hsz : (w.setCell ⟨g, j, none⟩ u).heap.size = w.heap.size := by
    unfold World.setCell
    split <;> simp
  refine H.change i hi (J := box g cs' t) (below_set H.below hg.1) (by rw [hsz]; exact Nat.le_refl _) (fun k hk _ => Below.heap_setCell w _ u k hk) (blk_put (H.boxAt i hi) j u hc) (fun k hk => ⟨.inl hk, ?_⟩) hF
  have hk' : k = g := hk
  subst hk'
  rw [hsz]
  exact hg.2
/-- Row i is written by a call. -/
theorem Held.kept {α : Type} {d : Kd α} {e : Nat} {v v' : Value} {xs ys : List α} {ok : Nat → Prop} (H : Held w0 w F) (i : Nat) (hi : F[i]? = some (row d e w0.heap.size v xs ok)) (hr : d.R e w1 w0.heap.size (fun k_ => (ok k_ ∨ w.heap.size ≤ k_)) v' ys) (hb : Below w0.heap.size w0 w1) (hk : Kept w w1 (fun k_ => ok k_)) : ∃ ok', Held w0 w1 (F.set i (row d e w0.heap.size v' ys ok')) :=
  ⟨_, H.change i hi hb hk.1 (fun k hn hlt => hk.2 k hlt hn) (J := row d e w0.heap.size v' ys fun k => (ok k ∨ w.heap.size ≤ k) ∧ k < w1.heap.size) (Kd.R_mono (Kd.R_bound hr) (fun _ h => ⟨h.1, h.2.2.1⟩)) (fun k h => h) rfl⟩
/-- Some of the items, in a new order. -/
theorem Held.pick (H : Held w0 w F) (ix : List Nat) (hn : ix.Nodup) (hF : ix.filterMap (fun i => F[i]?) = F') : Held w0 w F' := by
  subst hF
  refine ⟨H.below, ?_, ?_⟩
  · intro I hI
    obtain ⟨i, _, hi⟩ := List.mem_filterMap.1 hI
    exact H.each I (List.mem_of_getElem? hi)
  · induction ix with
    | nil => exact List.Pairwise.nil
    | cons i r ih =>
      rw [List.nodup_cons] at hn
      rw [List.filterMap_cons]
      cases hi : F[i]? with
      | none => exact ih hn.2
      | some I =>
        refine List.Pairwise.cons (fun J hJ => ?_) (ih hn.2)
        obtain ⟨j, hj, hj2⟩ := List.mem_filterMap.1 hJ
        exact H.far hi hj2 (fun e => hn.1 (e ▸ hj))
/-- What a call reads of row i. -/
theorem Held.reads (H : Held w0 w F) (i : Nat) {α : Type} {d : Kd α} {e b : Nat} {A : Option Addr} {n c : Nat} {xs : List α} {ok : Nat → Prop} (hi : F[i]? = some (row d e b (.slice A n c) xs ok)) : n = xs.length ∧ n ≤ c ∧ d.C w A xs.length xs := Kd.R_reads' (H.rowAt i hi)
theorem Held.cell (H : Held w0 w F) (i : Nat) {g : Nat} {cs : Array Value} {t : Nat} (hi : F[i]? = some (box g cs t)) (j : Nat) {u : Value} (hj : cs[j]? = some u) : w.cell? ⟨g, j, none⟩ = some u := (blk_cell (H.boxAt i hi) j).trans hj
theorem Held.frozen (H : Held w0 w F) (i : Nat) {g : Nat} {cs : Array Value} {t : Nat} (hi : F[i]? = some (box g cs t)) (j : Nat) : w.frozen? ⟨g, j, none⟩ = false := blk_frozen (H.boxAt i hi) j
end
/-- Cells j, j+1, .. of block g are written. -/
def putC : World → Nat → Nat → List Value → World
  | w, _, _, [] => w
  | w, g, j, v :: r => putC (w.setCell ⟨g, j, none⟩ v) g (j + 1) r
def putA : Array Value → Nat → List Value → Array Value
  | cs, _, [] => cs
  | cs, j, v :: r => putA (cs.setIfInBounds j v) (j + 1) r
theorem Held.putC {w0 : World} {i : Nat} {g : Nat} {t : Nat} : ∀ (vs : List Value) (w : World) (F F' : List Item) (cs cs' : Array Value) (j : Nat), Held w0 w F → F[i]? = some (box g cs t) → putA cs j vs = cs' → F.set i (box g cs' t) = F' → Held w0 (putC w g j vs) F'
  | [], w, F, F', cs, cs', j, H, hi, hc, hF => by
    have hc' : cs = cs' := hc
    subst hc'
    subst hF
    have h1 : F.set i (box g cs t) = F := by
      obtain ⟨hl, he⟩ := List.getElem?_eq_some_iff.1 hi
      rw [← he, List.set_getElem_self]
    rw [h1]
    exact H
  | v :: r, w, F, F', cs, cs', j, H, hi, hc, hF => by
    have hil := (List.getElem?_eq_some_iff.1 hi).1
    refine Held.putC r (w.setCell ⟨g, j, none⟩ v) (F.set i (box g (cs.setIfInBounds j v) t)) F' (cs.setIfInBounds j v) cs' (j + 1) (H.put i hi j v rfl rfl) (List.getElem?_set_self hil) hc ?_
    rw [List.set_set]
    exact hF
section
variable {P : Program} {ops : Array Oper} {rest : List Oper} {o : Oper} {a : Act} {Q : Exit → Act → World → Prop} {w0 W : World} {F F' : List Item}
theorem store_run {w1 : World} (hgd : o.guard = none) (hN : o.dst = none) (hrun : (execOp a.eval o).run P W = .ok .skip w1) (h : wpList P ops Q rest a w1) : wpList P ops Q (o :: rest) a W := by
  refine wpList_plain hgd fun K hK => ?_
  unfold Oper.wp
  rw [hrun]
  refine hK _ _ ?_
  rw [hN]
  exact h
/-- A store into box i of what is held. -/
theorem Held.store_ev (H : Held w0 W F) (i : Nat) {g : Nat} {cs cs' : Array Value} {t : Nat} (hi : F[i]? = some (box g cs t)) (vs : List Value) (hgd : o.guard = none) (hN : o.dst = none) (hrun : (execOp a.eval o).run P W = .ok .skip (Bu.putC W g 0 vs)) (hc : putA cs 0 vs = cs') (hF : F.set i (box g cs' t) = F')
    (h : ∀ w1, Held w0 w1 F' → wpList P ops Q rest a w1) : wpList P ops Q (o :: rest) a W :=
  store_run hgd hN hrun (h _ (Held.putC vs W F F' cs cs' 0 H hi hc hF))
/-- The same in a region of open order. -/
theorem Held.store_step {K : Act → World → Prop} (H : Held w0 W F) (i : Nat) {g : Nat} {cs cs' : Array Value} {t : Nat} (hi : F[i]? = some (box g cs t)) (vs : List Value) (hw : Region.wanted o (yielded ops a.tmps) = true) (hN : o.dst = none) (hrun : (execOp a.eval o).run P W = .ok .skip (Bu.putC W g 0 vs)) (hc : putA cs 0 vs = cs') (hF : F.set i (box g cs' t) = F')
    (h : ∀ w1, Held w0 w1 F' → K a w1) : if Region.wanted o (yielded ops a.tmps) = true then Oper.wp P o a W K Q else K (a.put none undef) W :=
  skip_ hw hN hrun (h _ (Held.putC vs W F F' cs cs' 0 H hi hc hF))
end
end Go.Proofs.Ytmnahdoomnbdoaa.Bu
