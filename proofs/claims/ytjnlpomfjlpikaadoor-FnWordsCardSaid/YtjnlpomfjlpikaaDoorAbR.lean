/- What a law's arguments are, read as they are given. -/
import Derived.Test.YtjnlpomfjlpikaaDoorAbB
import Derived.WalkKit
import Derived.ProofKit
import Derived.OpenShut
import Derived.ShutString
import Derived.ChangeOld
import Derived.Below
import Derived.SizedLaws
import Derived.Deep.Slices
import Derived.Deep.Strs
import Derived.ChangeArms
import Derived.ChangeSame
import Derived.DataReads
import Derived.DataElems
set_option linter.unusedVariables false
set_option linter.unusedSimpArgs false
namespace Go.Proofs.YtjnlpomfjlpikaaDoor.Ab
open Go Go.RowKit
/-! ### What a law's arguments are -/
section
open Go.WideShapes
variable {H : Type} {enc : TypeId × Value → H} {P : Program} {w : World}
/-- Cells as they are given: nobody writes them. -/
abbrev VG (w : World) : List AV → List Value → Prop := VRe (fun _ => none) (fun k => k < w.heap.size) w
def RdA {α : Type} (enc : TypeId × Value → H) (P : Program) (w : World) (t : TypeId) (C : α → List AV) (G : α → Prop) : Prop :=
  ∀ (fuel : Nat) (cs : List Value) (x : DataW H × List MemPlace), DataW.trod enc P w 0 (fun _ => true) true fuel t cs = some x → ∃ a, VG w (C a) cs ∧ G a
theorem rdA_int {t : TypeId} {k : IntKind} (ht : P.underlying t = some (.int k)) : RdA enc P w t (fun n => [.v (.int k n)]) (fun n => (Lit.int k n).wf = true) := by
  intro fuel cs x h
  obtain ⟨n, rfl, _, hw⟩ := DataW.trod_int ht h
  exact ⟨n, by simp [VG, VRe, VR], hw⟩
theorem rdA_bool {t : TypeId} (ht : P.underlying t = some .bool) : RdA enc P w t (fun b => [.v (.bool b)]) (fun _ => True) := by
  intro fuel cs x h
  obtain ⟨b, rfl, _⟩ := DataW.trod_bool ht h
  exact ⟨b, by simp [VG, VRe, VR], trivial⟩
theorem rdA_string {t : TypeId} (ht : P.underlying t = some .string) : RdA enc P w t (fun s => [.v (.string s)]) (fun s => s.size ≤ maxLen) := by
  intro fuel cs x h
  obtain ⟨s, rfl, _, hs⟩ := DataW.trod_string ht h
  exact ⟨s, by simp [VG, VRe, VR], hs⟩
theorem listA {α : Type} {Q : Nat → α → Prop} : ∀ len : Nat, (∀ i, i < len → ∃ p, Q i p) → ∃ xs : List α, xs.length = len ∧ ∀ j p, xs[j]? = some p → Q j p := by
  intro len
  induction len with
  | zero => intro _; exact ⟨[], rfl, fun j p h => by simp at h⟩
  | succ n ih =>
    intro h
    obtain ⟨xs, hl, hx⟩ := ih (fun i hi => h i (by omega))
    obtain ⟨p, hp⟩ := h n (by omega)
    refine ⟨xs ++ [p], by simp [hl], fun j q hq => ?_⟩
    by_cases hj : j < xs.length
    · rw [List.getElem?_append_left hj] at hq
      exact hx j q hq
    · have hj2 := (List.getElem?_eq_some_iff.1 hq).1
      simp at hj2
      have e : j = n := by omega
      subst e
      rw [List.getElem?_append_right (by omega), hl] at hq
      simp at hq
      subst hq
      exact hp
/-- A row's cells, element after element. -/
theorem rowA {α : Type} {C : α → List AV} {sz o : Nat} {c : Array Value} (hz : ∀ a, (C a).length = sz) : ∀ (xs : List α) (j : Nat),
    (∀ i p, xs[i]? = some p → ∃ cs, cs.length = sz ∧ VG w (C p) cs ∧ ∀ i', i' < sz → c[o + (j + i) * sz + i']? = cs[i']?) → VRl (fun _ => none) (fun k => k < w.heap.size) w (xs.flatMap C) (c.toList.drop (o + j * sz))
  | [], j, _ => by simp [VRl]
  | x :: xs, j, h => by
    obtain ⟨cs, h1, h2, h3⟩ := h 0 x rfl
    have rest := rowA (c := c) (o := o) hz xs (j + 1) (fun i p hp => by
      obtain ⟨cs, h4, h5, h6⟩ := h (i + 1) p hp
      exact ⟨cs, h4, h5, fun i' hi' => by rw [← h6 i' hi', show j + 1 + i = j + (i + 1) by omega]⟩)
    have hd : c.toList.drop (o + j * sz) = cs ++ c.toList.drop (o + (j + 1) * sz) := by
      apply List.ext_getElem?
      intro m
      rw [List.getElem?_drop]
      by_cases hm : m < sz
      · rw [List.getElem?_append_left (by omega), ← h3 m hm]
        simp
      · rw [List.getElem?_append_right (by omega), List.getElem?_drop, h1]
        congr 1
        rw [Nat.add_mul]
        omega
    rw [hd, List.flatMap_cons]
    exact VRl.append h2 rest
theorem add_at (g o n : Nat) : (⟨g, o, none⟩ : Addr).add n = ⟨g, o + n, none⟩ := by
  unfold Addr.add
  split
  · rename_i h; rw [h]; rfl
  · rfl
theorem rdA_slice {α : Type} {t e : TypeId} {C : α → List AV} {G : α → Prop} {sz : Nat} (ht : P.underlying t = some (.slice e)) (hz : P.cellsOf e = sz) (hp : 0 < sz) (hC : ∀ a, (C a).length = sz) (hd : RdA enc P w e C G) :
    RdA enc P w t (fun l : List α => [.ts l.length (l.flatMap C)]) (fun l => (∀ a ∈ l, G a) ∧ l.length ≤ maxLen) := by
  intro fuel cs x h
  rcases Go.Deep.open_slice ht h with ⟨rfl, _⟩ | ⟨a, len, cap, m, n, D, Pl, rfl, hb, hl, hm, hmm, _, hel⟩
  · exact ⟨[], by simp only [VG, VRe, VR]; exact ⟨_, _, rfl, ⟨none, 0, rfl, Nat.le_refl _, .inl rfl⟩, rfl⟩, by simp⟩
  · simp only [if_true] at hmm
    have hQ : ∀ i, i < len → ∃ p : α, (∃ c, c.length = sz ∧ VG w (C p) c ∧ ∀ i', i' < sz → w.cell? (a.add (i * sz + i')) = c[i']?) ∧ G p := by
      intro i hi
      obtain ⟨cs', hc, htr⟩ := hel i (by omega)
      obtain ⟨p, hK, hG⟩ := hd n cs' _ htr
      obtain ⟨_, hlen, hcell⟩ := World.cells?_some hc
      refine ⟨p, ⟨cs', by rw [hlen, hz], hK, fun i' hi' => ?_⟩, hG⟩
      have := hcell i' (by rw [hz]; exact hi')
      rw [Addr.add_add, hz] at this
      exact this
    obtain ⟨xs, hlen, hxs⟩ := listA len hQ
    refine ⟨xs, ?_, fun b hb' => ?_, by simp only [maxLen] at hm ⊢; omega⟩
    · simp only [VG, VRe, VR]
      refine ⟨_, _, rfl, ⟨some a, cap, by rw [hlen], by omega, ?_⟩, rfl⟩
      rcases xs with _ | ⟨x0, xs⟩
      · exact .inl rfl
      · right
        obtain ⟨⟨c0, e1, e2, e3⟩, _⟩ := hxs 0 x0 rfl
        have hc0 : c0[0]? = some c0[0] := List.getElem?_eq_getElem (by omega)
        have h0 := (e3 0 hp).trans hc0
        obtain ⟨g, off, spot⟩ := a
        unfold World.cell? at h0
        split at h0
        · rename_i c ty fz hcell
          have hs : spot = none := by
            split at h0
            · cases h0
            · rename_i hs
              simpa [Addr.add] using hs
          subst hs
          have hcell' : w.heap[g]? = some (Obj.cells c ty fz) := by simpa [Addr.add] using hcell
          refine ⟨g, off, c, ty, fz, rfl, (Array.getElem?_eq_some_iff.1 hcell').1, hcell', ?_⟩
          have := rowA (w := w) (c := c) (o := off) hC (x0 :: xs) 0 (fun i p hp' => by
            obtain ⟨⟨cs, f1, f2, f3⟩, _⟩ := hxs i p hp'
            refine ⟨cs, f1, f2, fun i' hi' => ?_⟩
            have := f3 i' hi'
            rw [add_at] at this
            unfold World.cell? at this
            simp only [hcell'] at this
            rw [← this]
            simp [Nat.add_assoc])
          simpa using this
        · cases h0
    · obtain ⟨j, hj, rfl⟩ := List.mem_iff_getElem.1 hb'
      exact (hxs j _ (List.getElem?_eq_getElem hj)).2
theorem rdA_struct2 {α β : Type} {t : TypeId} {f0 f1 : Field} {a : α → List AV} {b : β → List AV} {G0 : α → Prop} {G1 : β → Prop} (ht : P.underlying t = some (.struct #[f0, f1]))
    (o0 : f0.offset = 0) (o1 : f1.offset = P.cellsOf f0.type) (zt : P.cellsOf t = P.cellsOf f0.type + P.cellsOf f1.type)
    (h0 : RdA enc P w f0.type a G0) (h1 : RdA enc P w f1.type b G1) : RdA enc P w t (fun x : α × β => a x.1 ++ b x.2) (fun x => G0 x.1 ∧ G1 x.2) := by
  intro fuel cs x h
  obtain ⟨y0, y1, n, _, hl, t0, t1⟩ := Go.ChangeShapes.trod_struct2 ht h
  obtain ⟨u, hu, gu⟩ := h0 _ _ _ t0
  obtain ⟨v, hv, gv⟩ := h1 _ _ _ t1
  refine ⟨(u, v), ?_, gu, gv⟩
  have : cs = (cs.drop f0.offset).take (P.cellsOf f0.type) ++ (cs.drop f1.offset).take (P.cellsOf f1.type) := by
    rw [o0, o1, List.drop_zero, List.take_of_length_le (l := cs.drop _) (by rw [List.length_drop]; omega), List.take_append_drop]
  rw [this]
  exact VRe.append hu hv
theorem rdA_struct3 {α β γ : Type} {t : TypeId} {f0 f1 f2 : Field} {a : α → List AV} {b : β → List AV} {c : γ → List AV} {G0 : α → Prop} {G1 : β → Prop} {G2 : γ → Prop} (ht : P.underlying t = some (.struct #[f0, f1, f2]))
    (o0 : f0.offset = 0) (o1 : f1.offset = P.cellsOf f0.type) (o2 : f2.offset = P.cellsOf f0.type + P.cellsOf f1.type) (zt : P.cellsOf t = P.cellsOf f0.type + P.cellsOf f1.type + P.cellsOf f2.type)
    (h0 : RdA enc P w f0.type a G0) (h1 : RdA enc P w f1.type b G1) (h2 : RdA enc P w f2.type c G2) : RdA enc P w t (fun x : α × β × γ => a x.1 ++ (b x.2.1 ++ c x.2.2)) (fun x => G0 x.1 ∧ G1 x.2.1 ∧ G2 x.2.2) := by
  intro fuel cs x h
  obtain ⟨y0, y1, y2, n, _, hl, t0, t1, t2⟩ := Go.Deep.trod_struct3 ht h
  obtain ⟨u, hu, gu⟩ := h0 _ _ _ t0
  obtain ⟨v, hv, gv⟩ := h1 _ _ _ t1
  obtain ⟨z, hz, gz⟩ := h2 _ _ _ t2
  refine ⟨(u, v, z), ?_, gu, gv, gz⟩
  have : cs = (cs.drop f0.offset).take (P.cellsOf f0.type) ++ ((cs.drop f1.offset).take (P.cellsOf f1.type) ++ (cs.drop f2.offset).take (P.cellsOf f2.type)) := by
    rw [o0, o1, o2, List.drop_zero, List.take_of_length_le (l := cs.drop (_ + _)) (by rw [List.length_drop]; omega), ← List.drop_drop, List.take_append_drop, List.take_append_drop]
  rw [this]
  exact VRe.append hu (VRe.append hv hz)
theorem laws_calls {f : FuncId} {args : List AV} (h : AC P f args [] (.v (.bool true)) []) {us : List Value} (hv : VG w args us) :
    Calls P f us.toArray w fun e w' => e = .returned (.bool true) ∧ Below w.heap.size w w' := by
  refine (h.2 (fun _ => none) (fun k => k < w.heap.size) w us ⟨fun n b hn => by simp at hn, fun n m b b' g hn => by simp at hn, fun n b g hn => by simp at hn, fun _ hk => hk, fun _ _ => rfl⟩ hv).mono ?_
  rintro o w' ⟨u, ι', S', rfl, h1, h2, h3⟩
  simp only [VR] at h1
  subst h1
  exact ⟨rfl, h3.os, h3.tape, h3.output, h3.size, fun k hk => h3.keep k hk (fun ⟨n, b, hn, _⟩ => by simp at hn)⟩
end
end Go.Proofs.YtjnlpomfjlpikaaDoor.Ab
