/- Contracts of functions of this claim that the print does not take, proved by hand. -/
import Derived.Test.YtmnahdoomnbdoaaProg
import Derived.Below
import Derived.Deep.Draws
import Derived.Deep.AppendLies
import Derived.Maps.AppendAt
import Derived.OwnWalk
import Derived.Laws.BytesArg
import Derived.Laws.MakeOwn
import Derived.Laws.OwnMore
import Derived.Deep.OwnRows
import Derived.Tactics
import Derived.Lib.ConvBytes
import Derived.Laws.Slices
import Derived.WalkKit
import Derived.KernelRfl
import Derived.RowKit3
import Derived.Deep.LoopGhost
import Derived.Deep.QuietTactic
import Derived.BigQuiet
import Derived.WideLaws
import Derived.Deep.DeepCutAuto
import Derived.Deep.CutBlock
import Derived.Deep.RegionHeld3
import Derived.Laws.Rows
import Derived.Lib.AppendStr
import Derived.ArgAppend
import Derived.Laws.IdiomCopy
import Derived.OrdersHeld
import Derived.Laws.BitsLemmas
import Derived.RowKit
import Derived.Test.YtmnahdoomnbdoaaWWords
import Derived.Test.YtmnahdoomnbdoaaWLast
import Derived.Test.YtmnahdoomnbdoaaWTab
import Derived.Test.YtmnahdoomnbdoaaWFour
import Derived.Test.YtmnahdoomnbdoaaWQPut
import Derived.Test.YtmnahdoomnbdoaaWApart
import Derived.Test.YtmnahdoomnbdoaaWArr
import Derived.Test.YtmnahdoomnbdoaaWZeros
import Derived.Test.YtmnahdoomnbdoaaWFoot
import Derived.Test.YtmnahdoomnbdoaaWKept
import Derived.Test.YtmnahdoomnbdoaaWShare
import Derived.Test.YtmnahdoomnbdoaaWN
import Derived.Test.YtmnahdoomnbdoaaWFootNe
import Derived.Test.YtmnahdoomnbdoaaWAt
import Derived.Test.YtmnahdoomnbdoaaWEqStruct
import Derived.Test.YtmnahdoomnbdoaaWRepsOne
import Derived.Test.YtmnahdoomnbdoaaWInv
import Derived.Test.YtmnahdoomnbdoaaWInvWords
import Derived.Test.YtmnahdoomnbdoaaWGuard
import Derived.Test.YtmnahdoomnbdoaaWNEv
import Derived.Test.YtmnahdoomnbdoaaWMore
import Derived.Deep.Slices
import Derived.ChangeArms
import Derived.ChangeSame
import Derived.Deep.Strs
import Derived.DataReads
import Derived.DataElems
namespace Go.Proofs.Ytmnahdoomnbdoaa.Ext
open Go.RowKit Go.Proofs.YtmnahdoomnbdoaaW.PrintWords Go.Proofs.YtmnahdoomnbdoaaW.PrintLast Go.Proofs.YtmnahdoomnbdoaaW.PrintMore
set_option linter.unusedVariables false
set_option linter.unusedSimpArgs false

/-! ### What is read as a datum of a type reads as a kind -/
section
open Go.WideShapes
variable {H : Type} {enc : TypeId × Value → H} {P : Program} {w : World}
def Rd {α : Type} (enc : TypeId × Value → H) (P : Program) (w : World) (t : TypeId) (d : Kd α) (G : α → Prop) : Prop :=
  ∀ (fuel : Nat) (cs : List Value) (x : DataW H × List MemPlace), DataW.trod enc P w 0 (fun _ => true) true fuel t cs = some x → ∃ a, d.K w a cs ∧ G a
theorem rd_int {t : TypeId} {k : IntKind} (ht : P.underlying t = some (.int k)) : Rd enc P w t (Kd.int k) (fun n => (Lit.int k n).wf = true) := by
  intro fuel cs x h
  obtain ⟨n, rfl, _, hw⟩ := DataW.trod_int ht h
  exact ⟨n, rfl, hw⟩
theorem rd_bool {t : TypeId} (ht : P.underlying t = some .bool) : Rd enc P w t Kd.bool (fun _ => True) := by
  intro fuel cs x h
  obtain ⟨b, rfl, _⟩ := DataW.trod_bool ht h
  exact ⟨b, rfl, trivial⟩
theorem rd_string {t : TypeId} (ht : P.underlying t = some .string) : Rd enc P w t Kd.string (fun s => s.size ≤ maxLen) := by
  intro fuel cs x h
  obtain ⟨s, rfl, _, hs⟩ := DataW.trod_string ht h
  exact ⟨s, rfl, hs⟩
theorem list_of {α : Type} {Q : Nat → α → Prop} : ∀ len : Nat, (∀ i, i < len → ∃ p, Q i p) → ∃ xs : List α, xs.length = len ∧ ∀ j p, xs[j]? = some p → Q j p := by
  intro len
  induction len with
  | zero => intro _; exact ⟨[], rfl, fun j p h => by simp at h⟩
  | succ n ih =>
    intro h
    obtain ⟨xs, hl, hx⟩ := ih (fun i hi => h i (by omega))
    obtain ⟨p, hp⟩ := h n (by omega)
    refine ⟨xs ++ [p], by simp [hl], fun j q hq => ?_⟩
    by_cases hj : j < xs.length
    · rw [List.getElem?_append_left hj] at hq
      exact hx j q hq
    · have hj2 := (List.getElem?_eq_some_iff.1 hq).1
      simp at hj2
      have e : j = n := by omega
      subst e
      rw [List.getElem?_append_right (by omega), hl] at hq
      simp at hq
      subst hq
      exact hp
theorem rd_slice {α : Type} {t e : TypeId} {d : Kd α} {G : α → Prop} (ht : P.underlying t = some (.slice e)) (hz : P.cellsOf e = d.sz) (hd : Rd enc P w e d G) :
    Rd enc P w t (Kd.slice e d) (fun l => (∀ a ∈ l, G a) ∧ l.length ≤ maxLen) := by
  intro fuel cs x h
  rcases Go.Deep.open_slice ht h with ⟨rfl, _⟩ | ⟨a, len, cap, m, n, D, Pl, rfl, hb, hl, hm, hmm, _, hel⟩
  · exact ⟨[], ⟨none, 0, rfl, Nat.le_refl _, Kd.C_nil _ _⟩, by simp⟩
  · simp only [if_true] at hmm
    have hQ : ∀ i, i < len → ∃ p : α, (∃ c, c.length = d.sz ∧ d.K w p c ∧ ∀ i' u, c[i']? = some u → w.cell? (a.add (i * d.sz + i')) = some u) ∧ G p := by
      intro i hi
      obtain ⟨cs', hc, htr⟩ := hel i (by omega)
      obtain ⟨p, hK, hG⟩ := hd n cs' _ htr
      obtain ⟨_, hlen, hcell⟩ := World.cells?_some hc
      refine ⟨p, ⟨cs', d.K_len hK, hK, fun i' u hu => ?_⟩, hG⟩
      have hi' : i' < P.cellsOf e := by
        have := (List.getElem?_eq_some_iff.1 hu).1
        rw [d.K_len hK, ← hz] at this
        exact this
      have := hcell i' hi'
      rw [Addr.add_add, hz] at this
      rw [this, hu]
    obtain ⟨xs, hlen, hxs⟩ := list_of len hQ
    refine ⟨xs, ⟨some a, cap, by rw [hlen], by omega, hlen ▸ hlen, by simp only [maxLen] at hm; omega, fun _ => ⟨a, rfl, fun j p hj => (hxs j p hj).1⟩⟩, fun b hb' => ?_, by simp only [maxLen] at hm ⊢; omega⟩
    obtain ⟨j, hj, rfl⟩ := List.mem_iff_getElem.1 hb'
    exact (hxs j _ (List.getElem?_eq_getElem hj)).2
theorem rd_struct2 {α β γ : Type} {t : TypeId} {f0 f1 : Field} {a : Kd α} {b : Kd β} {f : γ → α × β} {mk : α → β → γ} {G0 : α → Prop} {G1 : β → Prop} (ht : P.underlying t = some (.struct #[f0, f1]))
    (o0 : f0.offset = 0) (z0 : P.cellsOf f0.type = a.sz) (o1 : f1.offset = a.sz) (z1 : P.cellsOf f1.type = b.sz) (zt : P.cellsOf t = a.sz + b.sz) (hf : ∀ x y, f (mk x y) = (x, y))
    (h0 : Rd enc P w f0.type a G0) (h1 : Rd enc P w f1.type b G1) : Rd enc P w t (Kd.iso (Kd.pair a b) f) (fun x => G0 (f x).1 ∧ G1 (f x).2) := by
  intro fuel cs x h
  obtain ⟨y0, y1, n, _, hl, t0, t1⟩ := Go.ChangeShapes.trod_struct2 ht h
  obtain ⟨u, hu, gu⟩ := h0 _ _ _ t0
  obtain ⟨v, hv, gv⟩ := h1 _ _ _ t1
  refine ⟨mk u v, ?_, by simp only [hf]; exact ⟨gu, gv⟩⟩
  show (Kd.pair a b).K w (f (mk u v)) cs
  rw [hf]
  refine ⟨_, _, ?_, hu, hv⟩
  rw [o0, z0, o1, z1, List.drop_zero, List.take_of_length_le (l := cs.drop a.sz) (by rw [List.length_drop]; omega), List.take_append_drop]
theorem rd_struct3 {α β γ δ : Type} {t : TypeId} {f0 f1 f2 : Field} {a : Kd α} {b : Kd β} {c : Kd γ} {f : δ → α × (β × γ)} {mk : α → β → γ → δ} {G0 : α → Prop} {G1 : β → Prop} {G2 : γ → Prop} (ht : P.underlying t = some (.struct #[f0, f1, f2]))
    (o0 : f0.offset = 0) (z0 : P.cellsOf f0.type = a.sz) (o1 : f1.offset = a.sz) (z1 : P.cellsOf f1.type = b.sz) (o2 : f2.offset = a.sz + b.sz) (z2 : P.cellsOf f2.type = c.sz) (zt : P.cellsOf t = a.sz + (b.sz + c.sz)) (hf : ∀ x y z, f (mk x y z) = (x, (y, z)))
    (h0 : Rd enc P w f0.type a G0) (h1 : Rd enc P w f1.type b G1) (h2 : Rd enc P w f2.type c G2) : Rd enc P w t (Kd.iso (Kd.pair a (Kd.pair b c)) f) (fun x => G0 (f x).1 ∧ G1 (f x).2.1 ∧ G2 (f x).2.2) := by
  intro fuel cs x h
  obtain ⟨y0, y1, y2, n, _, hl, t0, t1, t2⟩ := Go.Deep.trod_struct3 ht h
  obtain ⟨u, hu, gu⟩ := h0 _ _ _ t0
  obtain ⟨v, hv, gv⟩ := h1 _ _ _ t1
  obtain ⟨z, hz, gz⟩ := h2 _ _ _ t2
  refine ⟨mk u v z, ?_, by simp only [hf]; exact ⟨gu, gv, gz⟩⟩
  show (Kd.pair a (Kd.pair b c)).K w (f (mk u v z)) cs
  rw [hf]
  refine ⟨_, _, ?_, hu, ⟨_, _, rfl, hv, hz⟩⟩
  rw [o0, z0, o1, z1, o2, z2, List.drop_zero, List.take_of_length_le (l := cs.drop (a.sz + b.sz)) (by rw [List.length_drop]; omega)]
  rw [← List.drop_drop, List.take_append_drop, List.take_append_drop]
end

end Go.Proofs.Ytmnahdoomnbdoaa.Ext
