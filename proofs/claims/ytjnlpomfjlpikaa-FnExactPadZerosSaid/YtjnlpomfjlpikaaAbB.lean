/- The same: regions whose order is open, calls that look, names for what holds nothing. -/
import Derived.Test.YtjnlpomfjlpikaaAbA
import Derived.Lib.SliceRun
set_option linter.unusedVariables false
set_option linter.unusedSimpArgs false
namespace Go.Proofs.Ytjnlpomfjlpikaa.Ab
open Go Go.RowKit

/-! ### Regions whose order is open -/
/-- What must be done ahead of each operation: lists of indexes. -/
def befs : List (List Nat) → List Oper → List (List Nat)
  | acc, [] => acc
  | acc, o :: r => befs (acc ++ [(o.after.toList.filter (Region.binds .any)).flatMap fun ed => ed.on :: ((nth acc ed.on).getD [])]) r
def dsts : List Oper → List Nat
  | [] => []
  | o :: r => match o.dst with
    | some d => d :: dsts r
    | none => dsts r
/-- Edges lead back; no slot is written twice. -/
def backOk : Nat → List Oper → Bool
  | _, [] => true
  | i, o :: r => (o.after.toList.filter (Region.binds .any)).all (fun ed => Nat.blt ed.on i) && backOk (i + 1) r
def tailB : Nat → List Oper → Bool
  | _, [] => true
  | n, o :: r => (o.after.toList.filter (Region.binds .any)).any (fun ed => ed.on + 1 == n) && tailB (n + 1) r
def setD (D : Nat → Bool) (i : Nat) : Nat → Bool := fun j => j == i || D j
/-- Downward closed. -/
def Closed (ops : Array Oper) (D : Nat → Bool) : Prop := ∀ (i : Nat) (o : Oper), D i = true → ops[i]? = some o → ∀ ed ∈ o.after, Region.binds .any ed = true → D ed.on = true
/-- The state when the operations of D are done: V tells their values. -/
structure Zst (e : Env) (m : Nat) (fr : Fr) (T : (Nat → Bool) → Sto) (V : Nat → Option (Nat × AV)) (D : Nat → Bool) (ι : Nat → Option Nat) (S : Nat → Prop) (a : Act) (w : World) : Prop where
  defers : a.defers = []
  size : a.tmps.size = e.nt
  old : ∀ t x, (t, x) ∈ fr → ∃ u, a.tmps[t]? = some u ∧ VR ι S w x u
  new : ∀ j t x, j < m → D j = true → V j = some (t, x) → ∃ u, a.tmps[t]? = some u ∧ VR ι S w x u
  sr : SR ι S (T D) w
  ext : Ext e.σ0 e.ι0 e.S0 e.w0 (T D) ι S w
/-- The tail: one after the other. -/
def Tails (ops : Array Oper) (m : Nat) : Prop := ∀ (i : Nat) (o : Oper), m < i → ops[i]? = some o → ∃ ed ∈ o.after, Region.binds .any ed = true ∧ ed.on + 1 = i
def listedTo (ops : Array Oper) (n : Nat) (listed : Array Bool) : Prop := listed.size = ops.size ∧ ∀ i, i < ops.size → listed.getD i false = decide (i < n)
section
variable {e : Env} {k : List KI} {fr frB : Fr} {σ : Sto} {ops : Array Oper} {T : (Nat → Bool) → Sto} {V : Nat → Option (Nat × AV)}
theorem backOk_at : ∀ {l : List Oper} {i : Nat}, backOk i l = true → ∀ {n : Nat} {o : Oper}, l[n]? = some o → ∀ ed ∈ o.after, Region.binds .any ed = true → ed.on < i + n
  | [], i, _, n, o, h, _, _, _ => by simp at h
  | o' :: r, i, H, n, o, h, ed, he, hb => by
    simp only [backOk, Bool.and_eq_true] at H
    cases n with
    | zero =>
      simp only [List.getElem?_cons_zero, Option.some.injEq] at h
      subst h
      have := List.all_eq_true.1 H.1 ed (by simp [he, hb])
      simpa [Nat.blt_eq] using this
    | succ n =>
      simp only [List.getElem?_cons_succ] at h
      have := backOk_at H.2 h ed he hb
      omega
theorem dsts_uniq : ∀ {l : List Oper}, (dsts l).Nodup → ∀ {i j : Nat} {o o' : Oper} {d : Nat}, l[i]? = some o → l[j]? = some o' → o.dst = some d → o'.dst = some d → i = j
  | [], _, i, j, o, o', d, h, _, _, _ => by simp at h
  | q :: r, H, i, j, o, o', d, hi, hj, hd, hd' => by
    have mem : ∀ {l : List Oper} {n : Nat} {p : Oper}, l[n]? = some p → p.dst = some d → d ∈ dsts l := by
      intro l
      induction l with
      | nil => intro n p h; simp at h
      | cons z l ih =>
        intro n p h hp
        cases n with
        | zero =>
          simp only [List.getElem?_cons_zero, Option.some.injEq] at h
          subst h
          simp [dsts, hp]
        | succ n =>
          simp only [List.getElem?_cons_succ] at h
          have := ih h hp
          unfold dsts
          split <;> simp [this]
    have htail : (dsts r).Nodup := by
      unfold dsts at H
      split at H
      · exact (List.nodup_cons.1 H).2
      · exact H
    have hhead : q.dst = some d → d ∉ dsts r := fun h => by
      unfold dsts at H
      rw [h] at H
      exact (List.nodup_cons.1 H).1
    cases i with
    | zero =>
      simp only [List.getElem?_cons_zero, Option.some.injEq] at hi
      subst hi
      cases j with
      | zero => rfl
      | succ j =>
        simp only [List.getElem?_cons_succ] at hj
        exact absurd (mem hj hd') (hhead hd)
    | succ i =>
      simp only [List.getElem?_cons_succ] at hi
      cases j with
      | zero =>
        simp only [List.getElem?_cons_zero, Option.some.injEq] at hj
        subst hj
        exact absurd (mem hi hd) (hhead hd')
      | succ j =>
        simp only [List.getElem?_cons_succ] at hj
        rw [dsts_uniq htail hi hj hd hd']
/-- What is asked of operation i when those of D are done. -/
def Ob (e : Env) (k : List KI) (ops : Array Oper) (frI : Fr) (T : (Nat → Bool) → Sto) (V : Nat → Option (Nat × AV)) (i : Nat) (o : Oper) (D : Nat → Bool) : Prop :=
  ∀ ι S a w, Sim e frI (T D) ι S a w → ∀ K : Act → World → Prop,
    (∀ u w' ι' S', Step (T D) ι S w (T (setD D i)) ι' S' w' → (∀ d x, V i = some (d, x) → o.dst = some d ∧ VR ι' S' w' x u) → K (a.put o.dst u) w') → wpOp e.P ops (Kpost e k) i K a w
theorem any_tail {P : Program} {ops : Array Oper} {Q : Exit → Act → World → Prop} {m : Nat} (hback : ∀ (i : Nat) (o : Oper), ops[i]? = some o → ∀ ed ∈ o.after, Region.binds .any ed = true → ed.on < i) (ht : Tails ops m) :
    ∀ (fuel n : Nat) (listed : Array Bool) (a : Act) (w : World), m ≤ n → n ≤ ops.size → ops.size ≤ fuel + n → listedTo ops n listed → wpList P ops Q (ops.toList.drop n) a w → wpAny P .any ops Q fuel listed a w := by
  have lt : ∀ {n : Nat} {listed : Array Bool}, listedTo ops n listed → ∀ {i : Nat} {b : Bool}, i < ops.size → listed.getD i b = decide (i < n) := fun {n listed} h {i b} hi => by
    have h1 := h.2 i hi
    have : i < listed.size := by rw [h.1]; exact hi
    rw [← h1]
    simp [this]
  have rdy : ∀ {n : Nat} {listed : Array Bool}, m ≤ n → listedTo ops n listed → ∀ j, j ∈ Region.ready .any ops listed → j = n := fun {n listed} hmn h j hj => by
    obtain ⟨h1, o, ho, h2⟩ := mem_ready.1 hj
    have hlt := (Array.getElem?_eq_some_iff.1 ho).1
    rw [lt h hlt] at h1
    have hge : n ≤ j := by simpa using h1
    rcases Nat.eq_or_lt_of_le hge with h3 | h3
    · exact h3.symm
    · obtain ⟨ed, he, hb, hon⟩ := ht j o (by omega) ho
      have h4 := h2 ed he hb
      rw [lt h (by omega)] at h4
      have : ed.on < n := by simpa using h4
      omega
  intro fuel
  induction fuel with
  | zero =>
    intro n listed a w hmn hns hfu hl hw
    have hn : n = ops.size := by omega
    subst hn
    refine ⟨List.eq_nil_iff_forall_not_mem.2 fun j hj => ?_, ?_⟩
    · obtain ⟨h1, o, ho, h2⟩ := mem_ready.1 hj
      have hlt := (Array.getElem?_eq_some_iff.1 ho).1
      have := rdy hmn hl j hj
      omega
    · rw [List.drop_of_length_le (by simp)] at hw
      exact hw
  | succ fuel ih =>
    intro n listed a w hmn hns hfu hl hw
    rcases Nat.eq_or_lt_of_le hns with hn | hn
    · subst hn
      refine ⟨fun _ => ?_, fun j hj => ?_⟩
      · rw [List.drop_of_length_le (by simp)] at hw
        exact hw
      · obtain ⟨h1, o, ho, h2⟩ := mem_ready.1 hj
        have hlt := (Array.getElem?_eq_some_iff.1 ho).1
        have := rdy hmn hl j hj
        omega
    · have ho : ops[n]? = some ops[n] := Array.getElem?_eq_getElem hn
      have hd : ops.toList.drop n = ops[n] :: ops.toList.drop (n + 1) := by
        rw [List.drop_eq_getElem_cons (by simpa using hn)]
        simp
      rw [hd] at hw
      refine ⟨fun hr => ?_, fun j hj => ?_⟩
      · have : n ∈ Region.ready .any ops listed := by
          refine mem_ready.2 ⟨?_, _, ho, fun ed he hb => ?_⟩
          · rw [lt hl hn]; simp
          · have := hback n _ ho ed he hb
            rw [lt hl (by omega)]
            simpa using this
        rw [hr] at this
        cases this
      · have := rdy hmn hl j hj
        subst this
        have key : ∀ a w, wpList P ops Q (ops.toList.drop (j + 1)) a w → wpAny P .any ops Q fuel (listed.setIfInBounds j true) a w := fun a w h =>
          ih (j + 1) _ a w (by omega) (by omega) (by omega) ⟨by simp [hl.1], fun i hi => by
            by_cases hji : j = i
            · subst hji
              have : j < listed.size := by rw [hl.1]; exact hi
              simp [this]
            · rw [getD_set_ne false hji, hl.2 i hi]
              simp only [decide_eq_decide]
              omega⟩ h
        unfold wpOp
        rw [ho]
        unfold wpList at hw
        simp only
        split
        · rename_i hwant
          rw [if_pos hwant] at hw
          exact hw.imp (Oper.wp_mono key) id
        · rename_i hwant
          rw [if_neg hwant] at hw
          exact key _ _ hw
theorem Go.openZ {id m : Nat} (hm : e.P.follows .mixedOrders = true) (hmsz : m ≤ ops.size)
    (bk : ∀ (i : Nat) (o : Oper), ops[i]? = some o → ∀ ed ∈ o.after, Region.binds .any ed = true → ed.on < i) (ht : Tails ops m)
    (hgate : ∀ (o : Oper) (D : Nat → Bool), ops[m]? = some o → Closed ops D → (∀ ed ∈ o.after, Region.binds .any ed = true → D ed.on = true) → ∀ i, i < m → D i = true)
    (uq : ∀ (i j : Nat) (o o' : Oper) (d : Nat), i < m → j < m → ops[i]? = some o → ops[j]? = some o' → o.dst = some d → o'.dst = some d → i = j) (hT0 : T (fun _ => false) = σ)
    (hB : ∀ t x, (t, x) ∈ frB → (t, x) ∈ fr ∧ ∀ (j : Nat) (o : Oper), j < m → ops[j]? = some o → o.dst ≠ some t)
    (hV : ∀ i d x, i < m → V i = some (d, x) → ∃ o, ops[i]? = some o ∧ o.dst = some d)
    (hnt : ∀ (i : Nat) (d : Nat) (x : AV), i < m → V i = some (d, x) → d < e.nt)
    (hob : ∀ (D : Nat → Bool) (i : Nat) (o : Oper), i < m → ops[i]? = some o → D i = false → Closed ops D → (∀ j, m ≤ j → D j = false) → (∀ ed ∈ o.after, Region.binds .any ed = true → D ed.on = true) →
      ∃ frI : Fr, once frI ∧ (∀ t x, (t, x) ∈ frI → (t, x) ∈ frB ∨ ∃ j, j < m ∧ D j = true ∧ V j = some (t, x)) ∧ Ob e k ops frI T V i o D)
    (hend : ∀ D : Nat → Bool, (∀ i, i < m → D i = true) → (∀ j, m ≤ j → D j = false) → ∀ ι S a w, Zst e m frB T V D ι S a w → Kpost e (.ops ops (ops.toList.drop m) :: k) .normal a w) :
    Go e (.code (.region id ops true) :: k) fr σ := by
  intro ι S a w H
  refine wp_region_any hm ?_
  have hd := Step.drew H.sr (w.drawn + 1)
  have H1 := H.step hd
  -- the invariant along the way
  have key : ∀ (fuel : Nat) (listed : Array Bool) (D : Nat → Bool) (ι : Nat → Option Nat) (S : Nat → Prop) (a : Act) (w : World), listed.size = ops.size → (∀ i, listed.getD i true = false → D i = false) → (∀ i, i < ops.size → listed.getD i false = D i) →
      (∀ i, m ≤ i → D i = false) → Closed ops D → ops.size ≤ fuel + (List.range ops.size).countP D → Zst e m frB T V D ι S a w → wpAny e.P .any ops (Kpost e k) fuel listed a w := by
    intro fuel
    induction fuel with
    | zero =>
      intro listed D ι S a w hsz hl0 hl1 hout hcl hcnt Z
      have hall : ∀ i, i < ops.size → D i = true := fun i hi => by
        have h1 : (List.range ops.size).countP D = (List.range ops.size).length := Nat.le_antisymm List.countP_le_length (by simpa using hcnt)
        exact (List.countP_eq_length.1 h1) i (by simpa using hi)
      have hms : m = ops.size := by
        rcases Nat.eq_or_lt_of_le hmsz with h | h
        · exact h
        · have h1 := hall m h
          rw [hout m (Nat.le_refl _)] at h1
          cases h1
      exact any_tail bk ht 0 m listed a w (Nat.le_refl _) hmsz (by omega) ⟨hsz, fun i hi => by rw [hl1 i hi, hall i hi]; simp; omega⟩ (hend D (fun i hi => hall i (by omega)) hout ι S a w Z)
    | succ fuel ih =>
      intro listed D ι S a w hsz hl0 hl1 hout hcl hcnt Z
      by_cases hdone : ∀ i, i < m → D i = true
      · refine any_tail bk ht (fuel + 1) m listed a w (Nat.le_refl _) hmsz ?_ ⟨hsz, fun i hi => ?_⟩ (hend D hdone hout ι S a w Z)
        · have hc : (List.range ops.size).countP D ≤ m := by
            have h1 : (List.range ops.size).countP D ≤ (List.range ops.size).countP (fun i => decide (i < m)) := List.countP_mono_left fun z _ hz => by
              rcases Nat.lt_or_ge z m with h | h
              · simpa using h
              · rw [hout z h] at hz; cases hz
            have h2 : ∀ n, (List.range n).countP (fun i => decide (i < m)) ≤ m := by
              intro n
              induction n with
              | zero => simp
              | succ n ihn =>
                rw [List.range_succ, List.countP_append]
                by_cases hn : n < m
                · have h3 : (List.range n).countP (fun i => decide (i < m)) ≤ n := by
                    have := List.countP_le_length (p := fun i => decide (i < m)) (l := List.range n)
                    simpa using this
                  simp [hn]
                  omega
                · simp [hn]
                  exact ihn
            exact Nat.le_trans h1 (h2 _)
          omega
        · rw [hl1 i hi]
          rcases Nat.lt_or_ge i m with h | h
          · rw [hdone i h]; simp [h]
          · rw [hout i h]; simp; omega
      refine ⟨fun hr => ?_, fun i hi => ?_⟩
      · -- nothing is ready: all are done
        refine absurd (fun i hi => ?_) hdone
        induction i using Nat.strongRecOn with
        | _ i ihi =>
          cases hD : D i with
          | true => rfl
          | false =>
            exfalso
            have hi' : i < ops.size := by omega
            have : i ∈ Region.ready .any ops listed := by
              refine mem_ready.2 ⟨?_, ops[i], Array.getElem?_eq_getElem hi', fun ed he hb => ?_⟩
              · have := hl1 i hi'
                rw [hD] at this
                have hsz' : i < listed.size := by omega
                simpa [hsz'] using this
              · have hlt := bk i _ (Array.getElem?_eq_getElem hi') ed he hb
                rw [hl1 ed.on (by omega)]
                exact ihi ed.on hlt (by omega)
            rw [hr] at this
            cases this
      · obtain ⟨h1, o, ho, h2⟩ := mem_ready.1 hi
        have hlt := (Array.getElem?_eq_some_iff.1 ho).1
        have hDi := hl0 i h1
        have hdep : ∀ ed ∈ o.after, Region.binds .any ed = true → D ed.on = true := fun ed he hb => by
          have := h2 ed he hb
          rw [hl1 ed.on (by have := bk i o ho ed he hb; omega)] at this
          exact this
        have him : i < m := by
          rcases Nat.lt_or_ge i m with h | h
          · exact h
          · exfalso
            rcases Nat.eq_or_lt_of_le h with h3 | h3
            · subst h3
              exact hdone (hgate o D ho hcl hdep)
            · obtain ⟨ed, he, hb, hon⟩ := ht i o h3 ho
              have h4 := hdep ed he hb
              rw [hout ed.on (by omega)] at h4
              cases h4
        obtain ⟨frI, hoI, hmI, hOb⟩ := hob D i o him ho hDi hcl hout hdep
        have hSim : Sim e frI (T D) ι S a w := ⟨Z.defers, Z.size, hoI, fun t x hx => by
          rcases hmI t x hx with h | ⟨j, hjm, hj, hv⟩
          · exact Z.old t x h
          · exact Z.new j t x hjm hj hv, Z.sr, Z.ext⟩
        refine hOb ι S a w hSim _ fun u w' ι' S' hs hv => ?_
        have M := hs.mov Z.sr
        have hsizes : (a.put o.dst u).tmps.size = e.nt := by
          have := Z.size
          unfold Act.put
          split <;> simp_all
        have hdef : (a.put o.dst u).defers = [] := by
          have := Z.defers
          unfold Act.put
          split <;> simp_all
        have keepSlot : ∀ (t : Nat) (x : AV), o.dst ≠ some t → (∃ v, a.tmps[t]? = some v ∧ VR ι S w x v) → ∃ v, (a.put o.dst u).tmps[t]? = some v ∧ VR ι' S' w' x v := fun t x hne ⟨v, h3, h4⟩ => by
          refine ⟨v, ?_, VR.mov M _ _ h4⟩
          unfold Act.put
          split
          · rename_i d hd
            have : d ≠ t := fun h => hne (h ▸ hd)
            simp [Array.getElem?_setIfInBounds_ne this, h3]
          · exact h3
        refine ih (listed.setIfInBounds i true) (setD D i) ι' S' _ w' (by simp [hsz]) (fun j hj => ?_) (fun j hj => ?_) (fun j hj => ?_) ?_ ?_ ⟨hdef, hsizes, fun t x hx => keepSlot t x ((hB t x hx).2 i o him ho) (Z.old t x hx), fun j t x hjm hj hvj => ?_, hs.sr, Z.ext.trans hs.ext⟩
        · by_cases hji : i = j
          · subst hji
            have : i < listed.size := by omega
            simp [this] at hj
          · rw [getD_set_ne true hji] at hj
            have := hl0 j hj
            simp only [setD, this, Bool.or_false, beq_eq_false_iff_ne, ne_eq]
            exact fun h => hji h.symm
        · by_cases hji : i = j
          · subst hji
            have : i < listed.size := by omega
            simp [this, setD]
          · rw [getD_set_ne false hji, hl1 j hj]
            have : (j == i) = false := by simpa using fun h => hji h.symm
            simp [setD, this]
        · have : (j == i) = false := by simp; omega
          simp [setD, this, hout j hj]
        · intro j oj hj hoj ed he hb
          simp only [setD, Bool.or_eq_true, beq_iff_eq] at hj ⊢
          rcases hj with rfl | hj
          · rw [ho] at hoj
            injection hoj with hoj
            subst hoj
            exact .inr (hdep ed he hb)
          · exact .inr (hcl j oj hj hoj ed he hb)
        · have hc : (List.range ops.size).countP D + 1 ≤ (List.range ops.size).countP (setD D i) := by
            have gen : ∀ (l : List Nat), i ∈ l → l.countP D + 1 ≤ l.countP (setD D i) := by
              intro l
              induction l with
              | nil => intro h; cases h
              | cons y l ihl =>
                intro h
                have mono : l.countP D ≤ l.countP (setD D i) := List.countP_mono_left fun z _ hz => by simp [setD, hz]
                simp only [List.countP_cons]
                by_cases hy : y = i
                · subst hy
                  simp [setD, hDi]
                  omega
                · rcases List.mem_cons.1 h with h | h
                  · exact absurd h.symm hy
                  · have := ihl h
                    have e1 : setD D i y = D y := by
                      have : (y == i) = false := by simpa using hy
                      simp [setD, this]
                    rw [e1]
                    omega
            exact gen _ (by simpa using hlt)
          omega
        · by_cases hji : j = i
          · subst hji
            obtain ⟨hdst, hvr⟩ := hv t x hvj
            refine ⟨u, ?_, hvr⟩
            have := Z.size
            have hlt' := hnt j t x him hvj
            rw [hdst]
            simp [Act.put, this, hlt']
          · have hj' : D j = true := by
              simp only [setD, Bool.or_eq_true, beq_iff_eq] at hj
              exact hj.resolve_left hji
            obtain ⟨oj, hoj, hdj⟩ := hV j t x hjm hvj
            exact keepSlot t x (fun h => hji (uq j i oj o t hjm him hoj ho hdj h)) (Z.new j t x hjm hj' hvj)
  refine key ops.size _ (fun _ => false) ι S a _ (by simp) (fun i _ => rfl) (fun i hi => by simp [hi]) (fun _ _ => rfl) (fun i o hi => by cases hi) (by simp) ⟨H1.defers, H1.size, fun t x hx => ?_, (fun j t x hjm hj => by cases hj), (by rw [hT0]; exact H1.sr), (by rw [hT0]; exact H1.ext)⟩
  exact H1.frm t x (hB t x hx).1
end

/-! ### Operations look at their operands only -/
def agree (fr fr' : Fr) (os : List Operand) : Prop := ∀ t, Operand.tmp t ∈ os → get fr t = get fr' t
section
variable {fr fr' : Fr} {te : TE} {σ : Sto}
theorem agree.cons {o : Operand} {os : List Operand} (h : agree fr fr' (o :: os)) : agree fr fr' [o] ∧ agree fr fr' os :=
  ⟨fun t ht => h t (by rw [List.mem_singleton] at ht; exact ht ▸ List.mem_cons_self), fun t ht => h t (List.mem_cons_of_mem _ ht)⟩
theorem agree.sub {os os' : List Operand} (h : agree fr fr' os) (hs : ∀ o ∈ os', o ∈ os) : agree fr fr' os' := fun t ht => h t (hs _ ht)
theorem ev_congr {o : Operand} (h : agree fr fr' [o]) : ev fr o = ev fr' o := by
  cases o with
  | tmp t => exact h t (by simp)
  | _ => rfl
theorem evs_congr : ∀ {os : List Operand}, agree fr fr' os → evs fr os = evs fr' os
  | [], _ => rfl
  | o :: os, h => by
    unfold evs
    rw [ev_congr h.cons.1, evs_congr h.cons.2]
theorem evp_congr : ∀ {ps : List (Nat × Operand)}, agree fr fr' (ps.map (·.2)) → evp fr ps = evp fr' ps
  | [], _ => rfl
  | (i, o) :: ps, h => by
    unfold evp
    rw [ev_congr (agree.cons (os := ps.map (·.2)) h).1, evp_congr (agree.cons (os := ps.map (·.2)) h).2]
theorem evo_congr {o : Option Operand} (h : ∀ x, o = some x → agree fr fr' [x]) : evo fr o = evo fr' o := by
  cases o with
  | none => rfl
  | some x => show (ev fr x).map some = (ev fr' x).map some; rw [ev_congr (h x rfl)]
theorem one_of {os : List Operand} (h : agree fr fr' os) {o : Operand} (ho : o ∈ os) : ev fr o = ev fr' o := ev_congr fun t ht => h t (by rw [List.mem_singleton] at ht; exact ht ▸ ho)
theorem builtA_congr (b : Builtin) (os : List Operand) (ts : List TypeId) (h : agree fr fr' os) : builtA te fr σ b os ts = builtA te fr' σ b os ts := by
  unfold builtA
  split <;> first
    | rfl
    | (rename_i x t; rw [one_of (o := x) h (by simp)]; done)
    | (rename_i x y _ _; rw [one_of (o := x) h (by simp), one_of (o := y) h (by simp)]; done)
    | (rename_i x y; rw [one_of (o := x) h (by simp), one_of (o := y) h (by simp)]; done)
theorem opA_congr (op : Op) (h : agree fr fr' op.operands.toList) : opA te fr σ op = opA te fr' σ op := by
  cases op with
  | move x => exact congrArg rv (one_of h (by simp [Op.operands]))
  | assign x => exact congrArg rv (one_of h (by simp [Op.operands]))
  | pick c a b => show pickA _ _ _ = pickA _ _ _; rw [one_of (o := c) h (by simp [Op.operands]), one_of (o := a) h (by simp [Op.operands]), one_of (o := b) h (by simp [Op.operands])]
  | box t x => unfold opA; simp only; rw [one_of (o := x) h (by simp [Op.operands])]
  | build t ps =>
    unfold opA; simp only
    rw [evp_congr (ps := ps.toList) (h.sub fun o ho => by simpa [Op.operands] using ho)]
  | buildSlice t n ps =>
    unfold opA; simp only
    rw [evp_congr (ps := ps.toList) (h.sub fun o ho => by simpa [Op.operands] using ho)]
  | load t x => unfold opA; simp only; rw [one_of (o := x) h (by simp [Op.operands])]
  | store t x y => unfold opA; simp only; rw [one_of (o := x) h (by simp [Op.operands]), one_of (o := y) h (by simp [Op.operands])]
  | nilCheck x => unfold opA; simp only; rw [one_of (o := x) h (by simp [Op.operands])]
  | binOp b t x y t' => unfold opA; simp only; rw [one_of (o := x) h (by simp [Op.operands]), one_of (o := y) h (by simp [Op.operands])]
  | unOp b t x => unfold opA; simp only; rw [one_of (o := x) h (by simp [Op.operands])]
  | convert s t x => unfold opA; simp only; rw [one_of (o := x) h (by simp [Op.operands])]
  | fieldAddr t x f => unfold opA; simp only; rw [one_of (o := x) h (by simp [Op.operands])]
  | indexAddr t x y => unfold opA; simp only; rw [one_of (o := x) h (by simp [Op.operands]), one_of (o := y) h (by simp [Op.operands])]
  | index t x y => unfold opA; simp only; rw [one_of (o := x) h (by simp [Op.operands]), one_of (o := y) h (by simp [Op.operands])]
  | extract x i => unfold opA; simp only; rw [one_of (o := x) h (by simp [Op.operands])]
  | makeSlice t x y => unfold opA; simp only; rw [one_of (o := x) h (by simp [Op.operands]), one_of (o := y) h (by simp [Op.operands])]
  | makeFunc f a b =>
    unfold opA; simp only
    rw [evs_congr (os := a.toList) (h.sub fun o ho => by simp [Op.operands]; exact .inl (by simpa using ho)), evs_congr (os := b.toList) (h.sub fun o ho => by simp [Op.operands]; exact .inr (by simpa using ho))]
  | slice t x lo hi mx =>
    unfold opA
    cases mx with
    | some m => rfl
    | none =>
      simp only
      rw [one_of (o := x) h (by simp [Op.operands]), evo_congr (o := lo) (fun y hy => (h.sub fun o ho => by simp only [List.mem_singleton] at ho; subst ho; simp [Op.operands, hy])), evo_congr (o := hi) (fun y hy => (h.sub fun o ho => by simp only [List.mem_singleton] at ho; subst ho; simp [Op.operands, hy]))]
  | call c =>
    obtain ⟨f, as, ts⟩ := c
    cases f with
    | builtin b =>
      unfold opA
      exact builtA_congr b _ _ (h.sub fun o ho => by simpa [Op.operands, Call.operands] using ho)
    | _ => rfl
  | _ => rfl
theorem calleeA_congr (op : Op) (h : agree fr fr' op.operands.toList) : calleeA fr op = calleeA fr' op := by
  cases op with
  | call c =>
    obtain ⟨f, as, ts⟩ := c
    cases f with
    | value f =>
      unfold calleeA
      simp only
      rw [one_of (o := f) h (by simp [Op.operands, Call.operands]), evs_congr (os := as.toList) (h.sub fun o ho => by simp [Op.operands, Call.operands]; exact .inr (by simpa using ho))]
    | _ => rfl
  | _ => rfl
/-- What an operation looks at, its guard's answer with it. -/
def agreeO (all : Array Oper) (o : Oper) (fr fr' : Fr) : Prop := ∀ t, t ∈ o.looksAt all → get fr t = get fr' t
theorem agreeO.op {all : Array Oper} {o : Oper} (h : agreeO all o fr fr') : agree fr fr' o.op.operands.toList := fun t ht => h t (by
  unfold Oper.looksAt
  refine List.mem_append_left _ (List.mem_filterMap.2 ⟨_, ht, rfl⟩))
theorem gdA_congr {all : Array Oper} {o : Oper} (h : agreeO all o fr fr') : gdA all.toList fr o.guard = gdA all.toList fr' o.guard := by
  unfold agreeO Oper.looksAt at h
  cases hg : o.guard with
  | none => rfl
  | some p =>
    obtain ⟨j, w⟩ := p
    unfold gdA
    simp only
    rw [nth_eq]
    cases hj : all.toList[j]? with
    | none => rfl
    | some q =>
      simp only
      cases hd : q.dst with
      | none => rfl
      | some t =>
        simp only
        rw [h t]
        refine List.mem_append_right _ ?_
        rw [hg]
        have : all[j]? = some q := by simpa using hj
        simp [this, hd]
end

/-! ### The open part, computed -/
section
variable {ι : Nat → Option Nat} {S : Nat → Prop} {w : World} {σ : Sto} {P : Program} {te : TE}
theorem Step.junk (H : SR ι S σ w) (c : Array Value) (t : TypeId) : Step σ ι S w σ ι S (pushed w c t) := by
  have hold2 : ∀ k, k < w.heap.size → (pushed w c t).heap[k]? = w.heap[k]? := fun k h => by
    show (w.heap.push _)[k]? = _
    rw [Array.getElem?_push, if_neg (by omega)]
  have hold : ∀ (k : Nat) o, w.heap[k]? = some o → (pushed w c t).heap[k]? = some o := fun k o h => by
    rw [hold2 k (Array.getElem?_eq_some_iff.1 h).1, h]
  have M : Mov ι ι S S w (pushed w c t) := ⟨fun _ _ h => h, fun _ h => h, fun k h => hold2 k (H.imm k h), fun k c ty fz h => ⟨c, hold k _ h, rfl⟩⟩
  refine ⟨⟨?_, H.inj, H.own, ?_, H.top⟩, ⟨rfl, rfl, rfl, by simp [pushed], fun k hk _ => hold2 k hk, fun k c ty fz h => ⟨c, hold k _ h, rfl⟩, fun _ h => h, ?_, fun _ h => .inl h, Nat.le_refl _, fun n _ => ⟨fun h => h, fun x hx => .inr ⟨rfl, x, hx⟩⟩⟩, fun _ _ h => h⟩
  · intro n x h
    rcases H.blk n x h with h1 | ⟨g, d, e1, e2, e3⟩
    · exact .inl h1
    · exact .inr ⟨g, d, e1, hold g _ e2, VRl.mov M _ _ e3⟩
  · intro k hk
    have := H.imm k hk
    simp [pushed]
    omega
  · rintro k ⟨n, x, hx, hn⟩
    exact .inr ⟨n, x, hx, hn⟩
theorem build0 (hte : TEok P te) {t el : TypeId} {i j : TI} (hi : i.ok P t) (hd : i.desc = .slice el) (hj : j.ok P el) : (Instr.buildSlice t 0 #[]).run P w = .ok (.slice (some ⟨w.heap.size, 0, none⟩) 0 0) (pushed w #[] el) := by
  have hund := hi.1
  rw [hd] at hund
  simp only [Instr.buildSlice, Sem.run_bind, run_underlying hund, Result.andThen_ok, ok_sizeOf hj w]
  rw [if_neg (by omega), if_pos (by omega)]
  have e0 : (Array.range (0 * j.size)).map (fun x => (#[] : Array Value)[x % (#[] : Array Value).size]!) = #[] := by simp
  have fin : ∀ z : Array Value, z = #[] → (match Instr.fill (fun i => some (i * j.size, j.size)) z [] with
      | some cells => (do pure (.slice (some (← newRow el cells)) (0 : Nat) (0 : Nat)) : Sem Value)
      | x => stuck "buildSlice: a part of the wrong size").run P w = .ok (.slice (some ⟨w.heap.size, 0, none⟩) 0 0) (pushed w #[] el) := fun z e => by
    rw [e]
    rfl
  exact fin _ e0
theorem opA_nil {fr : Fr} {op : Op} : (∀ x, opA te fr [] op = .val x → opA te fr σ op = .val x) ∧ (∀ c x, opA te fr [] op = .need c x → opA te fr σ op = .need c x) := by
  have cells0 : ∀ x y, cellsAt [] x = some y → cellsAt σ x = some y := fun x y h => by
    cases x with
    | p n o => simp [cellsAt, nth] at h
    | _ => exact h
  have ld0 : ∀ i x y, ldA i [] x = some y → ldA i σ x = some y := fun i x y h => by
    unfold ldA at h ⊢
    split at h
    · rename_i cs o hc
      rw [cells0 _ _ hc]
      exact h
    · cases h
  have blt : ∀ b os ts, (∀ x, builtA te fr [] b os ts = .val x → builtA te fr σ b os ts = .val x) ∧ (∀ c x, builtA te fr [] b os ts = .need c x → builtA te fr σ b os ts = .need c x) := fun b os ts => by
    have app : ∀ i d s x, appA te i d ([] : Sto) s x = .bad := fun i d s x => by
      unfold appA
      split
      · rename_i n o len e
        cases h1 : (o == 0 && isSl i.desc)
        · rfl
        · have : nth ([] : Sto) n = none := by rw [nth_eq]; simp
          rw [this]
          rfl
      · rfl
    unfold builtA
    split <;> first
      | exact ⟨fun _ h => h, fun _ _ h => h⟩
      | (rename_i s x t tx
         cases ti te t <;> first | exact ⟨fun _ h => (by cases h), fun _ _ h => (by cases h)⟩ | skip
         cases ti te tx <;> first | exact ⟨fun _ h => (by cases h), fun _ _ h => (by cases h)⟩ | skip
         cases ev fr s <;> first | exact ⟨fun _ h => (by cases h), fun _ _ h => (by cases h)⟩ | skip
         cases ev fr x <;> first | exact ⟨fun _ h => (by cases h), fun _ _ h => (by cases h)⟩ | skip
         simp only [ot, o2, app]
         exact ⟨fun _ h => (by cases h), fun _ _ h => (by cases h)⟩)
  cases op with
  | load t x =>
    unfold opA
    simp only
    cases ti te t with
    | none => exact ⟨fun _ h => (by cases h), fun _ _ h => (by cases h)⟩
    | some i =>
      cases ev fr x with
      | none => exact ⟨fun _ h => (by cases h), fun _ _ h => (by cases h)⟩
      | some y =>
        simp only [ot, o1]
        constructor
        · intro z h
          cases hl : ldA i [] y with
          | none => rw [hl] at h; cases h
          | some v => rw [hl] at h; rw [ld0 _ _ _ hl]; exact h
        · intro c z h
          cases hl : ldA i [] y with
          | none => rw [hl] at h; cases h
          | some v => rw [hl] at h; rw [ld0 _ _ _ hl]; exact h
  | alloc t => unfold opA; simp only; cases ti te t <;> exact ⟨fun _ h => (by cases h), fun _ _ h => (by cases h)⟩
  | box t x => unfold opA; simp only; cases ev fr x <;> exact ⟨fun _ h => (by cases h), fun _ _ h => (by cases h)⟩
  | store t x y =>
    unfold opA
    simp only
    cases ti te t <;> cases ev fr x <;> cases ev fr y <;> simp only [ot, o2] <;> first
      | exact ⟨fun _ h => (by cases h), fun _ _ h => (by cases h)⟩
      | (unfold rs; split <;> exact ⟨fun _ h => (by cases h), fun _ _ h => (by cases h)⟩)
  | buildSlice t n ps =>
    unfold opA
    simp only
    cases ti te t with
    | none => exact ⟨fun _ h => (by cases h), fun _ _ h => (by cases h)⟩
    | some i =>
      cases evp fr ps.toList with
      | none => exact ⟨fun _ h => (by cases h), fun _ _ h => (by cases h)⟩
      | some qs =>
        simp only [ot, ol]
        rcases buildSliceA_form (te := te) i ([] : Sto).length n qs with h | ⟨b, x, h⟩ <;> rw [h] <;> exact ⟨fun _ h => (by cases h), fun _ _ h => (by cases h)⟩
  | makeSlice t x y =>
    unfold opA
    simp only
    cases ti te t <;> cases ev fr x <;> cases ev fr y <;> simp only [ot, o2] <;> first
      | exact ⟨fun _ h => (by cases h), fun _ _ h => (by cases h)⟩
      | (rename_i i x' y'
         rcases makeA_form (te := te) i ([] : Sto).length x' y' with h | ⟨c, b, r, h⟩ <;> rw [h] <;> exact ⟨fun _ h => (by cases h), fun _ _ h => (by cases h)⟩)
  | call c =>
    obtain ⟨f, as, ts⟩ := c
    cases f with
    | builtin b => exact blt b _ _
    | _ => exact ⟨fun _ h => (by cases h), fun _ _ h => (by cases h)⟩
  | convert s t x =>
    unfold opA
    simp only
    cases ti te s with
    | none => exact ⟨fun _ h => (by cases h), fun _ _ h => (by cases h)⟩
    | some j =>
      cases ti te t with
      | none => exact ⟨fun _ h => (by cases h), fun _ _ h => (by cases h)⟩
      | some i =>
        cases ev fr x with
        | none => exact ⟨fun _ h => (by cases h), fun _ _ h => (by cases h)⟩
        | some y => exact convD_mono (fun m b h => by rw [nth_eq] at h; simp at h) j i y
  | slice t x lo hi mx => cases mx <;> exact ⟨fun _ h => h, fun _ _ h => h⟩
  | _ => exact ⟨fun _ h => h, fun _ _ h => h⟩
end
section
variable {ι : Nat → Option Nat} {S : Nat → Prop} {w : World} {σ : Sto} {P : Program} {te : TE}
theorem Step.newFz (H : SR ι S σ w) (c : Array Value) (t : TypeId) : Step σ ι S w σ ι (fun k => S k ∨ k = w.heap.size) (pushed w c t) := by
  have hold2 : ∀ k, k < w.heap.size → (pushed w c t).heap[k]? = w.heap[k]? := fun k h => by
    show (w.heap.push _)[k]? = _
    rw [Array.getElem?_push, if_neg (by omega)]
  have hold : ∀ (k : Nat) o, w.heap[k]? = some o → (pushed w c t).heap[k]? = some o := fun k o h => by
    rw [hold2 k (Array.getElem?_eq_some_iff.1 h).1, h]
  have M : Mov ι ι S (fun k => S k ∨ k = w.heap.size) w (pushed w c t) := ⟨fun _ _ h => h, fun _ h => .inl h, fun k h => hold2 k (H.imm k h), fun k c ty fz h => ⟨c, hold k _ h, rfl⟩⟩
  refine ⟨⟨?_, H.inj, ?_, ?_, H.top⟩, ⟨rfl, rfl, rfl, by simp [pushed], fun k hk _ => hold2 k hk, fun k c ty fz h => ⟨c, hold k _ h, rfl⟩, fun _ h => .inl h, ?_, ?_, Nat.le_refl _, fun n _ => ⟨fun h => h, fun x hx => .inr ⟨rfl, x, hx⟩⟩⟩, fun _ _ h => h⟩
  · intro n x h
    rcases H.blk n x h with h1 | ⟨g, d, e1, e2, e3⟩
    · exact .inl h1
    · exact .inr ⟨g, d, e1, hold g _ e2, VRl.mov M _ _ e3⟩
  · intro n b g h e1 h2
    rcases h2 with h2 | h2
    · exact H.own n b g h e1 h2
    · have := H.lt ⟨n, b, h, e1⟩
      omega
  · intro k hk
    rcases hk with hk | hk
    · have := H.imm k hk
      simp [pushed]
      omega
    · simp [pushed]
      omega
  · rintro k ⟨n, x, hx, hn⟩
    exact .inr ⟨n, x, hx, hn⟩
  · intro k hk
    rcases hk with hk | hk
    · exact .inl hk
    · exact .inr (.inl (by omega))
/-- A new slice that nobody will write. -/
theorem buildSliceZ (hte : TEok P te) {t : TypeId} {i : TI} (hi : i.ok P t) (H : SR ι S σ w) {len : Nat} {ps : List (Nat × AV)} {us : List (Nat × Value)} (h : VRp ι S w ps us) {b : Blk} {x : AV} {nm : Nat} (hb : buildSliceA te i nm len ps = .new b x) :
    ∃ u w' S', (Instr.buildSlice t len us.toArray).run P w = .ok u w' ∧ Step σ ι S w σ ι S' w' ∧ VR ι S' w' (.ts len b.cells) u := by
  obtain ⟨c, es, rfl, h1, h2, h3⟩ := buildSliceA_raw hte hi h hb
  have hs := Step.newFz H c b.ty
  refine ⟨_, _, _, h3, hs, ?_⟩
  simp only [VR]
  refine ⟨_, len, rfl, Nat.le_refl _, .inr ⟨w.heap.size, 0, c, b.ty, (0, 0), rfl, .inr rfl, ?_, ?_⟩⟩
  · show (w.heap.push _)[w.heap.size]? = _
    simp
  · have hold2 : ∀ k, k < w.heap.size → (pushed w c b.ty).heap[k]? = w.heap[k]? := fun k h => by
      show (w.heap.push _)[k]? = _
      rw [Array.getElem?_push, if_neg (by omega)]
    have hold : ∀ (k : Nat) o, w.heap[k]? = some o → (pushed w c b.ty).heap[k]? = some o := fun k o h => by
      rw [hold2 k (Array.getElem?_eq_some_iff.1 h).1, h]
    have M : Mov ι ι S (fun k => S k ∨ k = w.heap.size) w (pushed w c b.ty) := ⟨fun _ _ h => h, fun _ h => .inl h, fun k h => hold2 k (H.imm k h), fun k c ty fz h => ⟨c, hold k _ h, rfl⟩⟩
    exact VRl.mov M _ _ h1
end
def isCh : Op → Bool
  | .call ⟨.value _, _, _⟩ => true
  | .call ⟨.builtin .append, _, _⟩ => true
  | .store _ _ _ => true
  | _ => false
def isAl : Op → Bool
  | .alloc _ => true
  | _ => false
def isBn : Op → Bool
  | .buildSlice _ _ _ => true
  | _ => false
def isB0 : Op → Option TypeId
  | .buildSlice t 0 ⟨[]⟩ => some t
  | _ => none
abbrev Fl := Option (Nat × Nat)
def mkE (fl : Fl) (done : Bool) (σ : Sto) : Sto := match fl with
  | none => σ
  | some (_, nm) => bif done then σ else setN σ nm .fresh
def keepE (fl : Fl) (σ σ' : Sto) : Prop := match fl with
  | none => True
  | some (_, nm) => nth σ' nm = nth σ nm
def flIs : Fl → Nat → Option Nat
  | none, _ => none
  | some (i, nm), j => bif i == j then some nm else none
def lookN : List (Nat × Nat) → Nat → Option Nat
  | [], _ => none
  | (i, nm) :: r, j => bif i == j then some nm else lookN r j
/-- What is asked of an operation, between two states of the store. -/
def ObO (e : Env) (k : List KI) (all : Array Oper) (o : Oper) (fr : Fr) (σ σ' : Sto) (v : Option (Nat × AV)) : Prop :=
  ∀ ι S a w, Sim e fr σ ι S a w → ∀ K : Act → World → Prop, (∀ u w' ι' S', Step σ ι S w σ' ι' S' w' → (∀ d x, v = some (d, x) → o.dst = some d ∧ VR ι' S' w' x u) → K (a.put o.dst u) w') →
    if Region.wanted o (yielded all a.tmps) then o.wp e.P a w K (Kpost e k) ∨ (o.asks e.P a w ∧ LetsOut (Kpost e k)) else K (a.put o.dst undef) w
def ZC (e : Env) (k : List KI) (all : Array Oper) (z : Bool) (fl : Fl) (o : Oper) (fr : Fr) (σ : Sto) (c : Fr → Sto → Prop) : Prop :=
  ∃ d σ' x, z = true ∧ o.dst = some d ∧ d < e.nt ∧ keepE fl σ σ' ∧ (∀ fr', agreeO all o fr fr' → ∀ b, ObO e k all o fr' (mkE fl b σ) (mkE fl b σ') (some (d, x))) ∧ c (put d x fr) σ'
def zS (z : Bool) (fl : Fl) (nt : Nat) (fr : Fr) (c : Fr → Sto → Prop) : Option Nat → Rs → Prop
  | none, .sto cd σ' => bif z && fl.isNone then cd ∧ c fr σ' else False
  | some d, .sv cd σ' x => bif z && fl.isNone && decide (d < nt) then cd ∧ c (put d x fr) σ' else False
  | _, _ => False
def zP (d : Nat) (fr : Fr) (σ : Sto) (c : Fr → Sto → Prop) : Rs → Prop
  | .val x => c (put d x fr) σ
  | .need cd x => cd ∧ c (put d x fr) σ
  | _ => False
def zF (d nm : Nat) (fr : Fr) (σ : Sto) (c : Fr → Sto → Prop) : Rs → Prop
  | .new b _ => nth σ nm = some (.live b) ∧ c (put d (.p nm 0) fr) σ
  | _ => False
def zN (d : Nat) (fr : Fr) (σ : Sto) (c : Fr → Sto → Prop) : Rs → Prop
  | .new b (.sl _ _ len _) => c (put d (.ts len b.cells) fr) σ
  | _ => False
def zB (te : TE) (d nm : Nat) (fr : Fr) (σ : Sto) (c : Fr → Sto → Prop) (o : Op) : Option TypeId → Prop
  | some t => match ti te t with
    | some i => bif isSl i.desc then match ti te (slElem i.desc) with
      | some j => c (put d (.sl nm 0 0 j.size) fr) σ
      | none => False else False
    | none => False
  | none => bif isBn o then zN d fr σ c (opA te fr [] o) else False
def zV (te : TE) (z : Bool) (fl : Fl) (o : Oper) (fr : Fr) (σ : Sto) (c : Fr → Sto → Prop) (d : Nat) : Option Nat → Option Nat → Prop
  | some nm, _ => bif isAl o.op then zF d nm fr σ c (opA te [] [] o.op) else False
  | none, some nm => zB te d nm fr σ c o.op (isB0 o.op)
  | none, none => zP d fr σ c (opA te fr (bif z then [] else σ) o.op)
def zD (te : TE) (nt : Nat) (z : Bool) (fl : Fl) (pv : List (Nat × Nat)) (i : Nat) (o : Oper) (fr : Fr) (σ : Sto) (c : Fr → Sto → Prop) : Option Nat → Prop
  | some d => bif decide (d < nt) then zV te z fl o fr σ c d (flIs fl i) (lookN pv i) else False
  | none => False
def zK (nt : Nat) (fr : Fr) (σ : Sto) (c : Fr → Sto → Prop) : Option Nat → Option Nat → Prop
  | none, some d => bif decide (d < nt) then c (put d (.tup []) fr) σ else False
  | none, none => c fr σ
  | some _, _ => False
def zG (te : TE) (nt : Nat) (e : Env) (k : List KI) (all : Array Oper) (z : Bool) (fl : Fl) (pv : List (Nat × Nat)) (i : Nat) (o : Oper) (fr : Fr) (σ : Sto) (c : Fr → Sto → Prop) : Gd → Prop
  | .skip => zK nt fr σ c (flIs fl i) o.dst
  | .go => bif isCh o.op && (flIs fl i).isNone then bif isCall o.op then ZC e k all z fl o fr σ c else zS z fl nt fr c o.dst (opA te fr σ o.op) else zD te nt z fl pv i o fr σ c o.dst
  | .bad => False
def zr (te : TE) (nt : Nat) (e : Env) (k : List KI) (all : Array Oper) (z : Bool) (fl : Fl) (pv : List (Nat × Nat)) (tail : List Oper) : Nat → List Oper → Fr → Sto → Prop
  | _, [], fr, σ => Go e (.ops all tail :: k) fr σ
  | i, o :: r, fr, σ => zG te nt e k all z fl pv i o fr σ (zr te nt e k all z fl pv tail (i + 1) r) (gdA all.toList fr o.guard)

def nxt (o : Oper) (v : Option (Nat × AV)) (fr : Fr) : Fr := match v, o.dst with
  | some (d, x), _ => put d x fr
  | none, some d => del d fr
  | none, none => fr
def vOk (nt : Nat) (o : Oper) (v : Option (Nat × AV)) : Prop := ∀ d x, v = some (d, x) → o.dst = some d ∧ d < nt
def K1 (e : Env) (k : List KI) (all : Array Oper) (z : Bool) (o : Oper) (fr : Fr) (σ : Sto) (v : Option (Nat × AV)) : Prop :=
  ∀ fr', agreeO all o fr fr' → ∀ σ', (z = true ∨ σ' = σ) → ObO e k all o fr' σ' σ' v
def K2 (e : Env) (k : List KI) (all : Array Oper) (nm : Nat) (o : Oper) (fr : Fr) (σ : Sto) (v : Option (Nat × AV)) : Prop :=
  ∃ b, nth σ nm = some (.live b) ∧ ∀ fr', agreeO all o fr fr' → ∀ σ', nth σ' nm = some (.live b) → ObO e k all o fr' (setN σ' nm .fresh) σ' v
def K3 (e : Env) (k : List KI) (all : Array Oper) (fl : Fl) (o : Oper) (fr : Fr) (σ σ' : Sto) (v : Option (Nat × AV)) : Prop :=
  ∀ fr', agreeO all o fr fr' → ∀ b, ObO e k all o fr' (mkE fl b σ) (mkE fl b σ') v
section
variable {e : Env} {k : List KI} {fr : Fr} {σ σ' : Sto} {te : TE} {nt : Nat} {all : Array Oper} {o : Oper} {fl : Fl} {z : Bool} {pv : List (Nat × Nat)}
theorem ObO.of (hw : gdA all.toList fr o.guard = .go) {v : Option (Nat × AV)} {σ σ' : Sto}
    (h : ∀ ι S a w, Sim e fr σ ι S a w → ∃ u w' ι' S', (execOp a.eval o).run e.P w = .ok (.value u) w' ∧ Step σ ι S w σ' ι' S' w' ∧ (∀ d x, v = some (d, x) → o.dst = some d ∧ VR ι' S' w' x u)) : ObO e k all o fr σ σ' v := by
  intro ι S a w H K hK
  have hwant : Region.wanted o (yielded all a.tmps) = true := wanted_of H (b := true) (by rw [hw])
  rw [if_pos hwant]
  obtain ⟨u, w', ι', S', h1, h2, h3⟩ := h ι S a w H
  left
  unfold Oper.wp
  rw [h1, Oper.upon_value]
  exact hK u w' ι' S' h2 h3
theorem ObO.sk (hw : gdA all.toList fr o.guard = .skip) {v : Option (Nat × AV)} (hv : ∀ d x, v = some (d, x) → o.dst = some d ∧ x = .tup []) : ObO e k all o fr σ σ v := by
  intro ι S a w H K hK
  have hwant : Region.wanted o (yielded all a.tmps) = false := wanted_of H (b := false) (by rw [hw])
  rw [if_neg (by rw [hwant]; simp)]
  exact hK undef w ι S (Step.refl H.sr) (fun d x h => ⟨(hv d x h).1, (hv d x h).2 ▸ VR.undef_⟩)
theorem ObO.st (hw : gdA all.toList fr o.guard = .go) (hd : o.dst = none)
    (h : ∀ ι S a w, Sim e fr σ ι S a w → ∃ w', (execOp a.eval o).run e.P w = .ok .skip w' ∧ Step σ ι S w σ' ι S w') : ObO e k all o fr σ σ' none := by
  intro ι S a w H K hK
  have hwant : Region.wanted o (yielded all a.tmps) = true := wanted_of H (b := true) (by rw [hw])
  rw [if_pos hwant]
  obtain ⟨w', h1, h2⟩ := h ι S a w H
  left
  unfold Oper.wp
  rw [h1, Oper.upon_skip]
  have := hK undef w' ι S h2 (fun _ _ h => by cases h)
  rw [hd] at this ⊢
  exact this
theorem isB0_ok {op : Op} {t : TypeId} (h : isB0 op = some t) : op = .buildSlice t 0 #[] := by
  unfold isB0 at h
  split at h
  · injection h with h
    subst h
    rfl
  · cases h
theorem zG_ok (hte : TEok e.P te) (hnt : e.nt = nt) {i : Nat} {c : Fr → Sto → Prop} (h : zG te nt e k all z fl pv i o fr σ c (gdA all.toList fr o.guard)) :
    ∃ v, vOk nt o v ∧ ((flIs fl i = none ∧ K1 e k all z o fr σ v ∧ c (nxt o v fr) σ) ∨ (∃ nm, flIs fl i = some nm ∧ K2 e k all nm o fr σ v ∧ c (nxt o v fr) σ) ∨
      (flIs fl i = none ∧ isCh o.op = true ∧ z = true ∧ ∃ σ', K3 e k all fl o fr σ σ' v ∧ keepE fl σ σ' ∧ c (nxt o v fr) σ')) := by
  cases hg : gdA all.toList fr o.guard with
  | bad => rw [hg] at h; exact h.elim
  | skip =>
    rw [hg] at h
    have h : zK nt fr σ c (flIs fl i) o.dst := h
    unfold zK at h
    split at h
    · rename_i d hf hd
      cases hb : decide (d < nt)
      · rw [hb] at h; exact h.elim
      · rw [hb, cond_true] at h
        have hv : ∀ d' x, some (d, AV.tup []) = some (d', x) → o.dst = some d' ∧ x = .tup [] := fun d' x e => by
          injection e with e
          injection e with e1 e2
          subst e1 e2
          exact ⟨hd, rfl⟩
        refine ⟨some (d, .tup []), fun d' x e => ⟨(hv d' x e).1, ?_⟩, .inl ⟨hf, fun fr' ha σ' _ => ObO.sk ((gdA_congr ha).symm.trans hg) hv, h⟩⟩
        injection e with e
        injection e with e1 e2
        subst e1
        exact of_decide_eq_true hb
    · rename_i hf hd
      exact ⟨none, (fun _ _ h => by cases h), .inl ⟨hf, fun fr' ha σ' _ => ObO.sk ((gdA_congr ha).symm.trans hg) (fun _ _ h => by cases h), by unfold nxt; rw [hd]; exact h⟩⟩
    · exact h.elim
  | go =>
    rw [hg] at h
    have gd : ∀ {fr'}, agreeO all o fr fr' → gdA all.toList fr' o.guard = .go := fun ha => (gdA_congr ha).symm.trans hg
    have h : bif isCh o.op && (flIs fl i).isNone then bif isCall o.op then ZC e k all z fl o fr σ c else zS z fl nt fr c o.dst (opA te fr σ o.op) else zD te nt z fl pv i o fr σ c o.dst := h
    cases hc : (isCh o.op && (flIs fl i).isNone)
    · rw [hc, cond_false] at h
      unfold zD at h
      split at h
      · rename_i d hd
        cases hdn : decide (d < nt)
        · rw [hdn] at h; exact h.elim
        · rw [hdn, cond_true] at h
          have hdn : d < nt := by simpa using hdn
          have vok : ∀ x, vOk nt o (some (d, x)) := fun x d' x' e => by
            injection e with e
            injection e with e1 e2
            subst e1
            exact ⟨hd, hdn⟩
          have got : ∀ {ι S w} {x : AV} {u : Value}, VR ι S w x u → ∀ d' x', some (d, x) = some (d', x') → o.dst = some d' ∧ VR ι S w x' u := fun hv d' x' e => by
            injection e with e
            injection e with e1 e2
            subst e1 e2
            exact ⟨hd, hv⟩
          unfold zV at h
          split at h
          · rename_i nm hf
            cases ha : isAl o.op
            · rw [ha] at h; exact h.elim
            · rw [ha, cond_true] at h
              unfold zF at h
              split at h
              · rename_i b x hop
                refine ⟨some (d, .p nm 0), vok _, .inr (.inl ⟨nm, hf, ⟨b, h.1, fun fr' hag σ' hb => ObO.of (gd hag) fun ι S a w H => ?_⟩, h.2⟩)⟩
                obtain ⟨t, ho⟩ : ∃ t, o.op = .alloc t := by
                  unfold isAl at ha
                  split at ha
                  · exact ⟨_, by assumption⟩
                  · cases ha
                rw [ho] at hop
                unfold opA at hop
                simp only at hop
                cases hi : ti te t with
                | none => rw [hi] at hop; cases hop
                | some ii =>
                  rw [hi] at hop
                  simp only [ot] at hop
                  injection hop with e1 e2
                  subst e1
                  rw [nth_eq] at hb
                  have hlt : nm < σ'.length := (List.getElem?_eq_some_iff.1 hb).1
                  have hA : Adds (setN σ' nm .fresh) nm ⟨t, zeroA ii⟩ σ' := ⟨.inr (by rw [setN_eq]; simp [hlt]), hb, fun n hn => by rw [setN_eq, List.getElem?_set_ne (Ne.symm hn)], by rw [setN_eq]; simp⟩
                  obtain ⟨u, w', ι', h1, h2, h3⟩ := alloc_ok (hte _ _ hi) H.sr hA (.tuple #[])
                  refine ⟨u, w', ι', S, ?_, h2, got h3⟩
                  obtain ⟨dst, op, type, pos, after, guard⟩ := o
                  simp only at ho
                  subst ho
                  show (do pure (Next.value (← Instr.alloc t true (.tuple #[]))) : Sem _).run e.P w = _
                  rw [Sem.run_bind, h1]
                  rfl
              · exact h.elim
          · rename_i nm hf hl
            unfold zB at h
            split at h
            · rename_i t ht
              have ho := isB0_ok ht
              split at h
              · rename_i ii hi
                cases hs : isSl ii.desc
                · rw [hs] at h; exact h.elim
                · rw [hs, cond_true] at h
                  obtain ⟨el, hdsc⟩ : ∃ el, ii.desc = .slice el := by cases h : ii.desc <;> simp_all [isSl]
                  rw [hdsc] at h
                  simp only [slElem] at h
                  split at h
                  · rename_i j hj
                    refine ⟨some (d, .sl nm 0 0 j.size), vok _, .inl ⟨hf, fun fr' hag σ' _ => ObO.of (gd hag) fun ι S a w H => ?_, h⟩⟩
                    refine ⟨.slice (some ⟨w.heap.size, 0, none⟩) 0 0, pushed w #[] el, ι, S, ?_, Step.junk H.sr _ _, got (by simp only [VR]; exact ⟨_, 0, rfl, Nat.le_refl _, .inl rfl⟩)⟩
                    obtain ⟨dst, op, type, pos, after, guard⟩ := o
                    simp only at ho
                    subst ho
                    show (do pure (Next.value (← Instr.buildSlice t 0 ((#[] : Array (Nat × Operand)).map fun (i, x) => (i, a.eval x)))) : Sem _).run e.P w = _
                    rw [Array.map_empty, Sem.run_bind, build0 hte (hte _ _ hi) hdsc (hte _ _ hj)]
                    rfl
                  · exact h.elim
              · exact h.elim
            · cases hbn : isBn o.op
              · rw [hbn] at h; exact h.elim
              rw [hbn, cond_true] at h
              obtain ⟨t, len, ps, ho⟩ : ∃ t len ps, o.op = .buildSlice t len ps := by
                unfold isBn at hbn
                split at hbn
                · exact ⟨_, _, _, by assumption⟩
                · cases hbn
              unfold zN at h
              split at h
              · rename_i b nm0 o0 len0 es0 hop
                refine ⟨some (d, .ts len0 b.cells), vok _, .inl ⟨hf, fun fr' hag σ' _ => ObO.of (gd hag) fun ι S a w H => ?_, h⟩⟩
                rw [opA_congr o.op hag.op] at hop
                rw [ho] at hop
                unfold opA at hop
                simp only at hop
                cases hi : ti te t with
                | none => rw [hi] at hop; cases hop
                | some ii =>
                  rw [hi] at hop
                  cases hp : evp fr' ps.toList with
                  | none => rw [hp] at hop; cases hop
                  | some qs =>
                    rw [hp] at hop
                    simp only [ot, ol] at hop
                    have hlen : len0 = len := by
                      obtain ⟨c, es, e1, _⟩ := buildSliceA_raw (w := w) hte (hte _ _ hi) (H.evp hp) hop
                      injection e1
                    obtain ⟨u, w', S', h1, h2, h3⟩ := buildSliceZ hte (hte _ _ hi) H.sr (H.evp hp) hop
                    have h4 : ((ps.toList.map fun (i, x) => (i, a.eval x)).toArray) = ps.map fun (i, x) => (i, a.eval x) := by rw [← Array.toList_map, Array.toArray_toList]
                    rw [h4] at h1
                    refine ⟨u, w', ι, S', ?_, h2, got (hlen ▸ h3)⟩
                    obtain ⟨dst, op, type, pos, after, guard⟩ := o
                    simp only at ho
                    subst ho
                    show (do pure (Next.value (← Instr.buildSlice t len (ps.map fun (i, x) => (i, a.eval x)))) : Sem _).run e.P w = _
                    rw [Sem.run_bind, h1]
                    rfl
              · exact h.elim
          · rename_i hf hl
            have nil : ∀ {fr' σ'}, agreeO all o fr fr' → (z = true ∨ σ' = σ) → (∀ x, opA te fr (bif z then [] else σ) o.op = .val x → opA te fr' σ' o.op = .val x) ∧ (∀ cd x, opA te fr (bif z then [] else σ) o.op = .need cd x → opA te fr' σ' o.op = .need cd x) := fun {fr' σ'} hag hz => by
              rw [← opA_congr o.op hag.op]
              cases z with
              | true => exact opA_nil
              | false =>
                rcases hz with hz | rfl
                · cases hz
                · exact ⟨fun _ h => h, fun _ _ h => h⟩
            unfold zP at h
            split at h
            · rename_i x hop
              refine ⟨some (d, x), vok _, .inl ⟨hf, fun fr' hag σ' hz => ObO.of (gd hag) fun ι S a w H => ?_, h⟩⟩
              have hD := opA_ok (fr := fr') (σ := σ') hte o
              rw [(nil hag hz).1 _ hop] at hD
              obtain ⟨u, h1, h2⟩ := hD ι S a w H
              exact ⟨u, w, ι, S, h1, Step.refl H.sr, got h2⟩
            · rename_i cd x hop
              refine ⟨some (d, x), vok _, .inl ⟨hf, fun fr' hag σ' hz => ObO.of (gd hag) fun ι S a w H => ?_, h.2⟩⟩
              have hD := opA_ok (fr := fr') (σ := σ') hte o
              rw [(nil hag hz).2 _ _ hop] at hD
              obtain ⟨u, h1, h2⟩ := hD h.1 ι S a w H
              exact ⟨u, w, ι, S, h1, Step.refl H.sr, got h2⟩
            · exact h.elim
      · exact h.elim
    · rw [hc, cond_true] at h
      simp only [Bool.and_eq_true, Option.isNone_iff_eq_none] at hc
      obtain ⟨hc, hf⟩ := hc
      cases hcl : isCall o.op
      · rw [hcl, cond_false] at h
        unfold zS at h
        split at h
        · rename_i cd σ' hd hop
          cases hz : (z && fl.isNone)
          · rw [hz] at h; exact h.elim
          · rw [hz, cond_true] at h
            simp only [Bool.and_eq_true, Option.isNone_iff_eq_none] at hz
            obtain ⟨hz, hfl⟩ := hz
            have mk0 : ∀ b σ, mkE fl b σ = σ := fun b σ => by rw [hfl]; rfl
            refine ⟨none, (fun _ _ h => by cases h), .inr (.inr ⟨hf, hc, hz, σ', fun fr' hag b => ?_, by rw [hfl]; trivial, by unfold nxt; rw [hd]; exact h.2⟩)⟩
            rw [mk0, mk0]
            have hD := opA_ok (fr := fr') (σ := σ) hte o
            rw [← opA_congr o.op hag.op, hop] at hD
            exact ObO.st (gd hag) hd (hD h.1)
        · rename_i d cd σ' x hd hop
          cases hz : (z && fl.isNone && decide (d < nt))
          · rw [hz] at h; exact h.elim
          · rw [hz, cond_true] at h
            simp only [Bool.and_eq_true, Option.isNone_iff_eq_none, decide_eq_true_eq] at hz
            obtain ⟨⟨hz, hfl⟩, hdn⟩ := hz
            have mk0 : ∀ b σ, mkE fl b σ = σ := fun b σ => by rw [hfl]; rfl
            refine ⟨some (d, x), ?_, .inr (.inr ⟨hf, hc, hz, σ', fun fr' hag b => ?_, by rw [hfl]; trivial, h.2⟩)⟩
            · intro d' x' e
              injection e with e
              injection e with e1 e2
              subst e1
              exact ⟨hd, hdn⟩
            · rw [mk0, mk0]
              refine ObO.of (gd hag) fun ι S a w H => ?_
              have hD := opA_ok (fr := fr') (σ := σ) hte o
              rw [← opA_congr o.op hag.op, hop] at hD
              obtain ⟨u, w', ι', h1, h2, h3⟩ := hD h.1 ι S a w H
              refine ⟨u, w', ι', S, h1, h2, fun d' x' e => ?_⟩
              injection e with e
              injection e with e1 e2
              subst e1 e2
              exact ⟨hd, h3⟩
        · exact h.elim
      · rw [hcl, cond_true] at h
        obtain ⟨d, σ', x, h1, h2, h3, h4, h5, h6⟩ := h
        refine ⟨some (d, x), ?_, .inr (.inr ⟨hf, hc, h1, σ', h5, h4, h6⟩)⟩
        intro d' x' e
        injection e with e
        injection e with e1 e2
        subst e1
        exact ⟨h2, hnt ▸ h3⟩
end
/-! ### The open part: the rule -/
def lastS (σ : Sto) : List (Nat × Sto) → Sto
  | [] => σ
  | c :: r => lastS c.2 r
def pickS (D : Nat → Bool) (σ : Sto) : List (Nat × Sto) → Sto
  | [] => σ
  | c :: r => bif D c.1 then pickS D c.2 r else σ
def flD (fl : Fl) (D : Nat → Bool) : Bool := match fl with
  | none => true
  | some (i, _) => D i
structure It (e : Env) (k : List KI) (all : Array Oper) (nt : Nat) (z : Bool) (fl : Fl) (σ : Sto) (Cs : List (Nat × Sto)) (n : Nat) (o : Oper) (fr fr1 : Fr) (v : Option (Nat × AV)) : Prop where
  ok : vOk nt o v
  nx : fr1 = nxt o v fr
  kind : (flIs fl n = none ∧ (∀ c ∈ Cs, c.1 ≠ n) ∧ K1 e k all z o fr σ v) ∨ (∃ nm, flIs fl n = some nm ∧ (∀ c ∈ Cs, c.1 ≠ n) ∧ K2 e k all nm o fr σ v) ∨
    (flIs fl n = none ∧ isCh o.op = true ∧ z = true ∧ ∃ l1 σ' l2, Cs = l1 ++ (n, σ') :: l2 ∧ (∀ c ∈ l1, c.1 < n) ∧ (∀ c ∈ l2, n < c.1) ∧ K3 e k all fl o fr (lastS σ l1) σ' v)
section
variable {e : Env} {k : List KI} {fr : Fr} {σ σ' : Sto} {te : TE} {nt : Nat} {all : Array Oper} {o : Oper} {fl : Fl} {z : Bool} {pv : List (Nat × Nat)}
theorem keepE.trans {σ'' : Sto} (h : keepE fl σ σ') (h' : keepE fl σ' σ'') : keepE fl σ σ'' := by
  unfold keepE at *
  split
  · trivial
  · exact h'.trans h
theorem zr_ok (hte : TEok e.P te) (hnt : e.nt = nt) {tail : List Oper} : ∀ (l : List Oper) (i : Nat) (fr : Fr) (σ : Sto), zr te nt e k all z fl pv tail i l fr σ →
    ∃ (V : Nat → Option (Nat × AV)) (F : Nat → Fr) (Cs : List (Nat × Sto)), F i = fr ∧ Go e (.ops all tail :: k) (F (i + l.length)) (lastS σ Cs) ∧ (z = false → Cs = []) ∧
      (∀ c ∈ Cs, i ≤ c.1 ∧ c.1 < i + l.length ∧ (∀ o, l[c.1 - i]? = some o → isCh o.op = true) ∧ keepE fl σ c.2) ∧ ∀ j o, l[j]? = some o → It e k all nt z fl σ Cs (i + j) o (F (i + j)) (F (i + j + 1)) (V (i + j))
  | [], i, fr, σ, h => ⟨fun _ => none, fun _ => fr, [], rfl, h, fun _ => rfl, (fun c hc => by cases hc), fun j o hj => by simp at hj⟩
  | o :: r, i, fr, σ, h => by
    obtain ⟨v, hv, h⟩ := zG_ok (i := i) hte hnt (by exact h)
    have tech : ∀ (σ1 : Sto) (V : Nat → Option (Nat × AV)) (F : Nat → Fr) (Cs : List (Nat × Sto)) (Cs' : List (Nat × Sto)), F (i + 1) = nxt o v fr →
        (∀ j o, r[j]? = some o → It e k all nt z fl σ1 Cs (i + 1 + j) o (F (i + 1 + j)) (F (i + 1 + j + 1)) (V (i + 1 + j))) →
        (∀ n o fr fr1 v, i < n → It e k all nt z fl σ1 Cs n o fr fr1 v → It e k all nt z fl σ Cs' n o fr fr1 v) →
        It e k all nt z fl σ Cs' i o fr (nxt o v fr) v →
        ∀ j o', (o :: r)[j]? = some o' → It e k all nt z fl σ Cs' (i + j) o' ((fun n => if n = i then fr else F n) (i + j)) ((fun n => if n = i then fr else F n) (i + j + 1)) ((fun n => if n = i then v else V n) (i + j)) := by
      intro σ1 V F Cs Cs' hF hr ht h0 j o' hj
      cases j with
      | zero =>
        simp only [List.getElem?_cons_zero, Option.some.injEq] at hj
        subst hj
        simp only [Nat.add_zero, if_true, Nat.succ_ne_self, if_false, hF]
        exact h0
      | succ j =>
        simp only [List.getElem?_cons_succ] at hj
        have := ht (i + 1 + j) o' _ _ _ (by omega) (hr j o' hj)
        have e1 : i + (j + 1) = i + 1 + j := by omega
        have n1 : ¬ (i + 1 + j = i) := by omega
        have n2 : ¬ (i + 1 + j + 1 = i) := by omega
        simp only [e1, if_neg n1, if_neg n2]
        exact this
    have lenE : ∀ (F : Nat → Fr), (fun n => if n = i then fr else F n) (i + (o :: r).length) = F (i + 1 + r.length) := fun F => by
      have : ¬ (i + (o :: r).length = i) := by simp
      simp only [if_neg this]
      congr 1
      simp
      omega
    have chs : ∀ (Cs : List (Nat × Sto)) (σ1 : Sto), keepE fl σ σ1 → (∀ c ∈ Cs, i + 1 ≤ c.1 ∧ c.1 < i + 1 + r.length ∧ (∀ o, r[c.1 - (i + 1)]? = some o → isCh o.op = true) ∧ keepE fl σ1 c.2) →
        ∀ c ∈ Cs, i ≤ c.1 ∧ c.1 < i + (o :: r).length ∧ (∀ o', (o :: r)[c.1 - i]? = some o' → isCh o'.op = true) ∧ keepE fl σ c.2 := fun Cs σ1 hk hC c hc => by
      obtain ⟨h1, h2, h3, h4⟩ := hC c hc
      refine ⟨by omega, by simp; omega, fun o' ho' => ?_, hk.trans h4⟩
      obtain ⟨m, hm⟩ : ∃ m, c.1 - i = m + 1 := ⟨c.1 - i - 1, by omega⟩
      rw [hm, List.getElem?_cons_succ] at ho'
      have : c.1 - (i + 1) = m := by omega
      exact h3 o' (by rw [this]; exact ho')
    have krefl : keepE fl σ σ := by unfold keepE; split <;> trivial
    rcases h with ⟨h1, h2, h3⟩ | ⟨nm, h1, h2, h3⟩ | ⟨h1, h2, hz, σ', h3, h4, h5⟩
    · obtain ⟨V, F, Cs, hF, hg, hzc, hC, hr⟩ := zr_ok hte hnt r (i + 1) _ _ h3
      refine ⟨fun n => if n = i then v else V n, fun n => if n = i then fr else F n, Cs, by simp, by rw [lenE]; exact hg, hzc, chs Cs σ krefl hC, tech σ V F Cs Cs hF hr (fun _ _ _ _ _ _ h => h) ⟨hv, rfl, .inl ⟨h1, fun c hc => ?_, h2⟩⟩⟩
      have := (hC c hc).1
      omega
    · obtain ⟨V, F, Cs, hF, hg, hzc, hC, hr⟩ := zr_ok hte hnt r (i + 1) _ _ h3
      refine ⟨fun n => if n = i then v else V n, fun n => if n = i then fr else F n, Cs, by simp, by rw [lenE]; exact hg, hzc, chs Cs σ krefl hC, tech σ V F Cs Cs hF hr (fun _ _ _ _ _ _ h => h) ⟨hv, rfl, .inr (.inl ⟨nm, h1, fun c hc => ?_, h2⟩)⟩⟩
      have := (hC c hc).1
      omega
    · obtain ⟨V, F, Cs, hF, hg, hzc, hC, hr⟩ := zr_ok hte hnt r (i + 1) _ _ h5
      refine ⟨fun n => if n = i then v else V n, fun n => if n = i then fr else F n, (i, σ') :: Cs, by simp, by rw [lenE]; exact hg, (fun h => by rw [hz] at h; cases h), fun c hc => ?_, tech σ' V F Cs _ hF hr (fun n o' fr' fr1 v' hn h => ⟨h.ok, h.nx, ?_⟩) ⟨hv, rfl, .inr (.inr ⟨h1, h2, hz, [], σ', Cs, rfl, (fun c hc => by cases hc), fun c hc => ?_, h3⟩)⟩⟩
      · rcases List.mem_cons.1 hc with rfl | hc
        · exact ⟨Nat.le_refl _, by simp, (fun o' ho' => by simp at ho'; rw [← ho']; exact h2), h4⟩
        · exact chs Cs σ' h4 hC c hc
      · rcases h.kind with ⟨e1, e2, e3⟩ | ⟨nm, e1, e2, b, e3, e4⟩ | ⟨e1, e2, e3, l1, σ2, l2, e4, e5, e6, e7⟩
        · refine .inl ⟨e1, fun c hc => ?_, fun fr'' hag σ'' _ => e3 fr'' hag σ'' (.inl hz)⟩
          rcases List.mem_cons.1 hc with rfl | hc
          · exact Nat.ne_of_lt hn
          · exact e2 c hc
        · refine .inr (.inl ⟨nm, e1, fun c hc => ?_, b, ?_, e4⟩)
          · rcases List.mem_cons.1 hc with rfl | hc
            · exact Nat.ne_of_lt hn
            · exact e2 c hc
          · cases fl with
            | none => cases e1
            | some p =>
              obtain ⟨q, nm'⟩ := p
              simp only [flIs] at e1
              have : nm' = nm := by
                cases hq : (q == n)
                · rw [hq] at e1; cases e1
                · rw [hq] at e1
                  injection e1
              subst this
              exact (show nth σ' nm' = nth σ nm' from h4) ▸ e3
        · refine .inr (.inr ⟨e1, e2, e3, (i, σ') :: l1, σ2, l2, by rw [e4]; rfl, fun c hc => ?_, e6, e7⟩)
          rcases List.mem_cons.1 hc with rfl | hc
          · exact hn
          · exact e5 c hc
      · exact Nat.lt_of_lt_of_le (Nat.lt_succ_self i) (hC c hc).1

def rdOk (l : List Oper) (ops : Array Oper) (m : Nat) (B : List (List Nat)) (i : Nat) : Bool := match nth l i, nth B i with
  | some o, some b => (o.looksAt ops).all (fun t => (List.range m).all fun j => match nth l j with
      | some q => (match q.dst with | some d => !(d == t) | none => true) || (b.elem j && Nat.blt j i)
      | none => true) &&
    (!isCh o.op || (List.range i).all (fun j => match nth l j with
      | some q => !isCh q.op || b.elem j
      | none => true))
  | _, _ => false
def gateB (m : Nat) : Option (List Nat) → Bool
  | some b => (List.range m).all fun j => b.elem j
  | none => true
def flOk (m : Nat) : Fl → Bool
  | none => true
  | some (i, _) => Nat.blt i m
def zOk (m : Nat) (ops : Array Oper) (z : Bool) (fl : Fl) : Bool :=
  Nat.ble m ops.toList.length && backOk 0 ops.toList && nodupB (dsts (ops.toList.take m)) && tailB (m + 1) (ops.toList.drop (m + 1)) && gateB m (nth (befs [] ops.toList) m) && (List.range m).all (rdOk ops.toList ops m (befs [] ops.toList)) && (z || fl.isNone) && flOk m fl
theorem elem_ok {b : List Nat} {j : Nat} (h : b.elem j = true) : j ∈ b := by simpa using h
theorem befs_ok {ops : Array Oper} {D : Nat → Bool} (hD : Closed ops D) : ∀ (l : List Oper) (acc : List (List Nat)), (∀ (n : Nat) (b : List Nat), acc[n]? = some b → ∀ o, ops[n]? = some o → (∀ ed ∈ o.after, Region.binds .any ed = true → D ed.on = true) → ∀ j ∈ b, D j = true) →
    (∀ n o, l[n]? = some o → ops[acc.length + n]? = some o) → ∀ (n : Nat) (b : List Nat), (befs acc l)[n]? = some b → ∀ o, ops[n]? = some o → (∀ ed ∈ o.after, Region.binds .any ed = true → D ed.on = true) → ∀ j ∈ b, D j = true
  | [], acc, h, _, n, b, hn => h n b hn
  | o :: r, acc, h, hl, n, b, hn => by
    unfold befs at hn
    have h0 : ops[acc.length]? = some o := by simpa using hl 0 o rfl
    refine befs_ok hD r _ (fun n b hn o' ho' hdep j hj => ?_) (fun n o' ho' => ?_) n b hn
    · rcases Nat.lt_or_ge n acc.length with hlt | hge
      · rw [List.getElem?_append_left hlt] at hn
        exact h n b hn o' ho' hdep j hj
      · rw [List.getElem?_append_right hge] at hn
        have hn0 : n - acc.length = 0 := by
          rcases Nat.eq_zero_or_pos (n - acc.length) with h | h
          · exact h
          · rw [List.getElem?_eq_none_iff.2 (by simp; omega)] at hn
            cases hn
        rw [hn0] at hn
        have hne : n = acc.length := by omega
        subst hne
        simp only [List.getElem?_cons_zero, Option.some.injEq] at hn
        subst hn
        obtain ⟨ed, he, hj⟩ := List.mem_flatMap.1 hj
        rw [h0] at ho'
        injection ho' with ho'
        subst ho'
        simp only [List.mem_filter, Array.mem_toList_iff] at he
        have hon := hdep ed he.1 he.2
        rcases List.mem_cons.1 hj with rfl | hj
        · exact hon
        · rw [nth_eq] at hj
          cases hb : acc[ed.on]? with
          | none => rw [hb] at hj; simp at hj
          | some b' =>
            rw [hb] at hj
            simp only [Option.getD_some] at hj
            cases hoo : ops[ed.on]? with
            | none =>
              have h1 := (List.getElem?_eq_some_iff.1 hb).1
              have h2 := Array.getElem?_eq_none_iff.1 hoo
              have h3 := (Array.getElem?_eq_some_iff.1 h0).1
              omega
            | some o2 => exact h ed.on b' hb o2 hoo (fun ed2 he2 hb2 => hD ed.on o2 hon hoo ed2 he2 hb2) j hj
    · have := hl (n + 1) o' (by simpa using ho')
      simp only [List.length_append, List.length_cons, List.length_nil]
      rw [show acc.length + (0 + 1) + n = acc.length + (n + 1) by omega]
      exact this
theorem tailB_ok : ∀ {l : List Oper} {n : Nat}, tailB n l = true → ∀ {i : Nat} {o : Oper}, l[i]? = some o → ∃ ed ∈ o.after, Region.binds .any ed = true ∧ ed.on + 1 = n + i
  | [], n, _, i, o, h => by simp at h
  | q :: r, n, H, i, o, h => by
    simp only [tailB, Bool.and_eq_true] at H
    cases i with
    | zero =>
      simp only [List.getElem?_cons_zero, Option.some.injEq] at h
      subst h
      obtain ⟨ed, h1, h2⟩ := List.any_eq_true.1 H.1
      simp only [List.mem_filter, Array.mem_toList_iff] at h1
      exact ⟨ed, h1.1, h1.2, by simpa using h2⟩
    | succ i =>
      simp only [List.getElem?_cons_succ] at h
      obtain ⟨ed, h1, h2, h3⟩ := tailB_ok H.2 h
      exact ⟨ed, h1, h2, by omega⟩
theorem get_filter {p : Nat → Bool} {t : Nat} (hp : p t = true) : ∀ {fr : Fr}, get (fr.filter fun q => p q.1) t = get fr t
  | [] => rfl
  | (s, x) :: r => by
    rw [List.filter_cons]
    by_cases hs : s = t
    · subst hs
      rw [if_pos hp]
      simp [get]
    · have hb : (s == t) = false := by simpa using hs
      split
      · simp only [get, hb, cond_false]
        exact get_filter hp
      · simp only [get, hb, cond_false]
        exact get_filter hp
theorem once_filter {p : Nat × AV → Bool} : ∀ {fr : Fr}, once fr → once (fr.filter p)
  | [], _ => trivial
  | (s, x) :: r, h => by
    rw [List.filter_cons]
    split
    · exact ⟨fun y hy => h.1 y (List.mem_filter.1 hy).1, once_filter h.2⟩
    · exact once_filter h.2
theorem pick_pre {D : Nat → Bool} {l2 : List (Nat × Sto)} : ∀ {l1 : List (Nat × Sto)} {σ : Sto}, (∀ c ∈ l1, D c.1 = true) → pickS D σ (l1 ++ l2) = pickS D (lastS σ l1) l2
  | [], _, _ => rfl
  | c :: r, σ, h => by
    simp only [List.cons_append, pickS, lastS]
    rw [h c List.mem_cons_self, cond_true]
    exact pick_pre fun c' hc' => h c' (List.mem_cons_of_mem _ hc')
theorem pick_congr {D D' : Nat → Bool} : ∀ {l : List (Nat × Sto)} {σ : Sto}, (∀ c ∈ l, D c.1 = D' c.1) → pickS D σ l = pickS D' σ l
  | [], _, _ => rfl
  | c :: r, σ, h => by
    simp only [pickS]
    rw [h c List.mem_cons_self, pick_congr fun c' hc' => h c' (List.mem_cons_of_mem _ hc')]
theorem pick_mem {D : Nat → Bool} {Q : Sto → Prop} : ∀ {l : List (Nat × Sto)} {σ : Sto}, Q σ → (∀ c ∈ l, Q c.2) → Q (pickS D σ l)
  | [], _, h, _ => h
  | c :: r, σ, h, h' => by
    simp only [pickS]
    cases D c.1
    · exact h
    · exact pick_mem (h' c List.mem_cons_self) fun c' hc' => h' c' (List.mem_cons_of_mem _ hc')
theorem pick_none {D : Nat → Bool} {l : List (Nat × Sto)} {σ : Sto} (h : ∀ c ∈ l, D c.1 = false) : pickS D σ l = σ := by
  cases l with
  | nil => rfl
  | cons c r => simp only [pickS]; rw [h c List.mem_cons_self]; rfl
theorem flIs_none {fl : Fl} {i nm n : Nat} (h : flIs fl n = none) (hf : fl = some (i, nm)) : i ≠ n := by
  subst hf
  intro e
  subst e
  simp [flIs] at h
theorem Go.openC {id : Nat} {ops : Array Oper} (m : Nat) (z : Bool) (fl : Fl) (pv : List (Nat × Nat)) (σ0 : Sto) (hte : TEok e.P te) (hnt : e.nt = nt) (hm : e.P.follows .mixedOrders = true) (hs : zOk m ops z fl = true) (hT0 : mkE fl fl.isNone σ0 = σ)
    (h : zr te nt e k ops z fl pv (ops.toList.drop m) 0 (ops.toList.take m) fr σ0) : Go e (.code (.region id ops true) :: k) fr σ := by
  intro ι S a w H
  have ho := H.one
  simp only [zOk, Bool.and_eq_true] at hs
  obtain ⟨⟨⟨⟨⟨⟨⟨hmsz, hback⟩, huniq⟩, htail⟩, hgate⟩, hrd⟩, hzf⟩, hflm⟩ := hs
  have hmsz : m ≤ ops.size := by simpa using hmsz
  have bk : ∀ (i : Nat) (o : Oper), ops[i]? = some o → ∀ ed ∈ o.after, Region.binds .any ed = true → ed.on < i := fun i o ho ed he hb => by
    have := backOk_at hback (n := i) (o := o) (by simpa using ho) ed he hb
    omega
  have ht : Tails ops m := fun i o hi ho => by
    obtain ⟨ed, h1, h2, h3⟩ := tailB_ok htail (i := i - (m + 1)) (o := o) (by
      rw [List.getElem?_drop, show m + 1 + (i - (m + 1)) = i by omega]
      simpa using ho)
    exact ⟨ed, h1, h2, by omega⟩
  have hbf : ∀ {D : Nat → Bool}, Closed ops D → ∀ (n : Nat) (b : List Nat), (befs [] ops.toList)[n]? = some b → ∀ o, ops[n]? = some o → (∀ ed ∈ o.after, Region.binds .any ed = true → D ed.on = true) → ∀ j ∈ b, D j = true := fun hD n b hn =>
    befs_ok hD ops.toList [] (fun n b hn => by simp at hn) (fun n o ho => by simpa using ho) n b hn
  have hblen : ∀ (l : List Oper) (acc : List (List Nat)), (befs acc l).length = acc.length + l.length := by
    intro l
    induction l with
    | nil => intro acc; simp [befs]
    | cons o r ih => intro acc; simp only [befs]; rw [ih]; simp; omega
  have tk : ∀ {i : Nat} {o : Oper}, i < m → ops[i]? = some o → (ops.toList.take m)[i]? = some o := fun hi ho => by
    rw [List.getElem?_take_of_lt hi]
    simpa using ho
  have uq : ∀ (i j : Nat) (o o' : Oper) (d : Nat), i < m → j < m → ops[i]? = some o → ops[j]? = some o' → o.dst = some d → o'.dst = some d → i = j := fun i j o o' d hi hj h1 h2 h3 h4 =>
    dsts_uniq (nodupB_ok huniq) (tk hi h1) (tk hj h2) h3 h4
  obtain ⟨V, F, Cs, hF0, hgo, hzc, hC, hI⟩ := zr_ok hte hnt _ 0 fr σ0 h
  have hlen : (ops.toList.take m).length = m := by simp; omega
  rw [hlen, Nat.zero_add] at hgo
  have item : ∀ {i : Nat} {o : Oper}, i < m → ops[i]? = some o → It e k ops nt z fl σ0 Cs i o (F i) (F (i + 1)) (V i) := fun {i o} hi ho => by
    have := hI i o (tk hi ho)
    simpa using this
  have hCs : ∀ c ∈ Cs, c.1 < m ∧ ∃ o, ops[c.1]? = some o ∧ isCh o.op = true := fun c hc => by
    obtain ⟨_, h2, h3, _⟩ := hC c hc
    rw [hlen, Nat.zero_add] at h2
    have h4 : ops[c.1]? = some ops[c.1] := Array.getElem?_eq_getElem (by omega)
    exact ⟨h2, _, h4, h3 _ (by simpa using tk h2 h4)⟩
  have rd : ∀ {i : Nat} {o : Oper}, i < m → ops[i]? = some o → ∃ b, (befs [] ops.toList)[i]? = some b ∧ (∀ t ∈ o.looksAt ops, ∀ j q, j < m → ops[j]? = some q → q.dst = some t → j ∈ b ∧ j < i) ∧ (isCh o.op = true → ∀ j q, j < i → ops[j]? = some q → isCh q.op = true → j ∈ b) := fun {i o} hi ho => by
    have h1 := List.all_eq_true.1 hrd i (by simpa using hi)
    unfold rdOk at h1
    have h2 : nth ops.toList i = some o := by rw [nth_eq]; simpa using ho
    rw [h2] at h1
    cases hb : nth (befs [] ops.toList) i with
    | none => rw [hb] at h1; cases h1
    | some b =>
      rw [hb] at h1
      simp only [Bool.and_eq_true] at h1
      refine ⟨b, by rw [← nth_eq]; exact hb, fun t ht j q hj hq hd => ?_, fun hc j q hj hq hcq => ?_⟩
      · have h3 := List.all_eq_true.1 (List.all_eq_true.1 h1.1 t ht) j (by simpa using hj)
        have h4 : nth ops.toList j = some q := by rw [nth_eq]; simpa using hq
        rw [h4] at h3
        simp only [hd, beq_self_eq_true, Bool.not_true, Bool.false_or, Bool.and_eq_true] at h3
        exact ⟨elem_ok h3.1, by simpa using h3.2⟩
      · have h3 := h1.2
        rw [hc] at h3
        simp only [Bool.not_true, Bool.false_or] at h3
        have h5 := List.all_eq_true.1 h3 j (by simpa using hj)
        have h4 : nth ops.toList j = some q := by rw [nth_eq]; simpa using hq
        rw [h4] at h5
        simp only [hcq, Bool.not_true, Bool.false_or] at h5
        exact elem_ok h5
  -- the frames along the way
  have hFonce : ∀ n, n ≤ m → once (F n) := by
    intro n
    induction n with
    | zero => intro _; rw [hF0]; exact ho
    | succ n ih =>
      intro hn
      have I := item (i := n) (by omega) (Array.getElem?_eq_getElem (by omega))
      rw [I.nx]
      unfold nxt
      split
      · exact put_once (ih (by omega))
      · exact del_once (ih (by omega))
      · exact ih (by omega)
  have hFmem : ∀ n, n ≤ m → ∀ t x, (t, x) ∈ F n → (∃ j, j < n ∧ V j = some (t, x)) ∨ ((t, x) ∈ fr ∧ ∀ j o, j < n → ops[j]? = some o → o.dst ≠ some t) := by
    intro n
    induction n with
    | zero => intro _ t x hx; rw [hF0] at hx; exact .inr ⟨hx, fun j o hj => by omega⟩
    | succ n ih =>
      intro hn t x hx
      have hon : ops[n]? = some ops[n] := Array.getElem?_eq_getElem (by omega)
      have I := item (i := n) (by omega) hon
      have ext : ((t, x) ∈ F n ∧ ops[n].dst ≠ some t) → (∃ j, j < n + 1 ∧ V j = some (t, x)) ∨ ((t, x) ∈ fr ∧ ∀ j o, j < n + 1 → ops[j]? = some o → o.dst ≠ some t) := fun ⟨h1, h2⟩ => by
        rcases ih (by omega) t x h1 with ⟨j, hj, hv⟩ | ⟨h3, h4⟩
        · exact .inl ⟨j, by omega, hv⟩
        · refine .inr ⟨h3, fun j o hj ho => ?_⟩
          rcases Nat.lt_or_ge j n with h5 | h5
          · exact h4 j o h5 ho
          · have : j = n := by omega
            subst this
            rw [hon] at ho
            injection ho with ho
            rw [← ho]
            exact h2
      rw [I.nx] at hx
      unfold nxt at hx
      split at hx
      · rename_i d y hv
        rcases mem_put (hFonce n (by omega)) hx with ⟨rfl, rfl⟩ | ⟨h1, h2⟩
        · exact .inl ⟨n, by omega, hv⟩
        · refine ext ⟨h2, fun hd => h1 ?_⟩
          have := (I.ok _ _ hv).1
          rw [hd] at this
          injection this
      · rename_i d hv hd
        obtain ⟨h1, h2⟩ := mem_del hx
        refine ext ⟨h1, fun hd' => h2 ?_⟩
        rw [hd] at hd'
        injection hd' with hd'
        exact hd'.symm
      · rename_i hv hd
        exact ext ⟨hx, fun hd' => by rw [hd] at hd'; cases hd'⟩
  let isD : Nat → Nat → Bool := fun t j => match ops[j]? with
    | some q => match q.dst with | some d => d == t | none => false
    | none => false
  have isD_ok : ∀ {t j : Nat} {q : Oper}, ops[j]? = some q → (isD t j = true ↔ q.dst = some t) := fun {t j q} hq => by
    simp only [isD, hq]
    cases q.dst <;> simp
  let frB : Fr := fr.filter fun p => (List.range m).all fun j => !isD p.1 j
  let T : (Nat → Bool) → Sto := fun D => mkE fl (flD fl D) (pickS D σ0 Cs)
  refine Go.openZ (m := m) (T := T) (V := V) (frB := frB) (σ := σ) hm hmsz bk ht (fun o D ho hcl hdep i hi => ?_) uq ?_ (fun t x hx => ?_) (fun i d x hi hv => ?_) (fun i d x hi hv => ?_) (fun D i o hi ho hDi hcl hout hdep => ?_) (fun D hall hout ι S a w Z => ?_) ι S a w H
  · have h1 : (befs [] ops.toList)[m]? = some ((befs [] ops.toList)[m]'(by rw [hblen]; simp; exact (Array.getElem?_eq_some_iff.1 ho).1)) := List.getElem?_eq_getElem _
    have h2 : nth (befs [] ops.toList) m = _ := (nth_eq _ _).trans h1
    rw [h2] at hgate
    have h3 := List.all_eq_true.1 hgate i (by simpa using hi)
    exact hbf hcl m _ h1 o ho hdep i (elem_ok h3)
  · show mkE fl (flD fl fun _ => false) (pickS (fun _ => false) σ0 Cs) = σ
    rw [pick_none fun _ _ => rfl, ← hT0]
    cases fl <;> rfl
  · simp only [frB, List.mem_filter] at hx
    refine ⟨hx.1, fun j o hj ho hd => ?_⟩
    have h1 := List.all_eq_true.1 hx.2 j (by simpa using hj)
    rw [(isD_ok ho).2 hd] at h1
    cases h1
  · have hon : ops[i]? = some ops[i] := Array.getElem?_eq_getElem (by omega)
    exact ⟨_, hon, ((item hi hon).ok _ _ hv).1⟩
  · have hon : ops[i]? = some ops[i] := Array.getElem?_eq_getElem (by omega)
    rw [hnt]
    exact ((item hi hon).ok _ _ hv).2
  · -- one operation
    obtain ⟨b, hb, hlook, hchn⟩ := rd hi ho
    have hbD : ∀ j ∈ b, D j = true := hbf hcl i b hb o ho hdep
    have I := item hi ho
    let av : Nat → Bool := fun t => (List.range m).all fun j => !isD t j || (D j && Nat.blt j i)
    have av_ok : ∀ {t : Nat}, av t = true → ∀ j q, j < m → ops[j]? = some q → q.dst = some t → D j = true ∧ j < i := fun {t} hav j q hj hq hd => by
      have h1 := List.all_eq_true.1 hav j (by simpa using hj)
      rw [(isD_ok hq).2 hd] at h1
      simpa using h1
    have hag : agreeO ops o (F i) ((F i).filter fun p => av p.1) := fun t ht => by
      symm
      refine get_filter (List.all_eq_true.2 fun j hj => ?_)
      have hj : j < m := by simpa using hj
      have hq : ops[j]? = some ops[j] := Array.getElem?_eq_getElem (by omega)
      cases hd : isD t j with
      | false => rfl
      | true =>
        obtain ⟨h1, h2⟩ := hlook t ht j _ hj hq ((isD_ok hq).1 hd)
        simp [hbD j h1, h2]
    refine ⟨(F i).filter fun p => av p.1, once_filter (hFonce i (by omega)), fun t x hx => ?_, ?_⟩
    · obtain ⟨h1, h2⟩ := List.mem_filter.1 hx
      rcases hFmem i (by omega) t x h1 with ⟨j, hj, hv⟩ | ⟨h3, h4⟩
      · have hq : ops[j]? = some ops[j] := Array.getElem?_eq_getElem (by omega)
        have hd := ((item (i := j) (by omega) hq).ok _ _ hv).1
        exact .inr ⟨j, by omega, (av_ok h2 j _ (by omega) hq hd).1, hv⟩
      · refine .inl (List.mem_filter.2 ⟨h3, List.all_eq_true.2 fun j hj => ?_⟩)
        have hj : j < m := by simpa using hj
        have hq : ops[j]? = some ops[j] := Array.getElem?_eq_getElem (by omega)
        cases hd : isD t j with
        | false => rfl
        | true =>
          obtain ⟨h5, h6⟩ := av_ok h2 j _ hj hq ((isD_ok hq).1 hd)
          exact absurd ((isD_ok hq).1 hd) (h4 j _ h6 hq)
    · have fin : ObO e k ops o ((F i).filter fun p => av p.1) (T D) (T (setD D i)) (V i) → Ob e k ops ((F i).filter fun p => av p.1) T V i o D := fun hO ι S a w hSim K hK => by
        unfold wpOp
        rw [ho]
        exact hO ι S a w hSim K hK
      have stay : (∀ c ∈ Cs, c.1 ≠ i) → pickS (setD D i) σ0 Cs = pickS D σ0 Cs := fun hne => pick_congr fun c hc => by
        have : (c.1 == i) = false := by simpa using hne c hc
        simp [setD, this]
      have flst : flIs fl i = none → flD fl (setD D i) = flD fl D := fun hf => by
        cases hfl : fl with
        | none => rfl
        | some p =>
          obtain ⟨q, nm⟩ := p
          have hne := flIs_none hf hfl
          have : (q == i) = false := by simpa using hne
          simp [flD, setD, this]
      rcases I.kind with ⟨h1, h2, h3⟩ | ⟨nm, h1, h2, bb, h3, h4⟩ | ⟨h1, h2, h3, l1, σ', l2, h4, h5, h6, h7⟩
      · refine fin ?_
        have e1 : T (setD D i) = T D := by simp only [T]; rw [stay h2, flst h1]
        rw [e1]
        refine h3 _ hag _ ?_
        rw [Bool.or_eq_true] at hzf
        rcases hz : z with _ | _
        · refine .inr ?_
          rw [hz] at hzf
          simp only [Bool.false_eq_true, Option.isNone_iff_eq_none, false_or] at hzf
          simp only [T, hzf, hzc hz]
          rfl
        · exact .inl rfl
      · refine fin ?_
        cases hfl : fl with
        | none => rw [hfl] at h1; cases h1
        | some p =>
          obtain ⟨q, nm'⟩ := p
          have hq : q = i ∧ nm' = nm := by
            rw [hfl] at h1
            simp only [flIs] at h1
            cases hq : (q == i)
            · rw [hq] at h1; cases h1
            · rw [hq, cond_true] at h1
              injection h1 with h1
              exact ⟨by simpa using hq, h1⟩
          obtain ⟨rfl, rfl⟩ := hq
          have e0 : T D = setN (pickS D σ0 Cs) nm' .fresh := by simp [T, hfl, mkE, flD, hDi]
          have e1 : T (setD D q) = pickS D σ0 Cs := by simp only [T, hfl, mkE, flD, setD, beq_self_eq_true, Bool.true_or, cond_true]; exact stay h2
          rw [e0, e1]
          refine h4 _ hag _ (pick_mem (Q := fun s => nth s nm' = some (.live bb)) h3 fun c hc => ?_)
          have := (hC c hc).2.2.2
          rw [hfl] at this
          exact (show nth c.2 nm' = nth σ0 nm' from this).trans h3
      · refine fin ?_
        have hl1 : ∀ c ∈ l1, D c.1 = true := fun c hc => by
          obtain ⟨_, q, hq, hcq⟩ := hCs c (by rw [h4]; exact List.mem_append_left _ hc)
          exact hbD _ (hchn h2 c.1 q (h5 c hc) hq hcq)
        have hl2 : ∀ c ∈ l2, D c.1 = false := fun c hc => by
          obtain ⟨hcm, q, hq, hcq⟩ := hCs c (by rw [h4]; exact List.mem_append_right _ (List.mem_cons_of_mem _ hc))
          cases hDc : D c.1 with
          | false => rfl
          | true =>
            obtain ⟨b', hb', _, hch'⟩ := rd hcm hq
            have := hbf hcl c.1 b' hb' q hq (fun ed he hbd => hcl c.1 q hDc hq ed he hbd) i (hch' hcq i o (h6 c hc) ho h2)
            rw [hDi] at this
            cases this
        have e0 : T D = mkE fl (flD fl D) (lastS σ0 l1) := by
          simp only [T]
          rw [h4, pick_pre hl1]
          simp only [pickS, hDi, cond_false]
        have e1 : T (setD D i) = mkE fl (flD fl D) σ' := by
          simp only [T]
          rw [flst h1, h4, pick_pre (fun c hc => by simp [setD, hl1 c hc])]
          simp only [pickS, setD, beq_self_eq_true, Bool.true_or, cond_true]
          rw [pick_none]
          intro c hc
          have : (c.1 == i) = false := by
            have := h6 c hc
            rw [beq_eq_false_iff_ne]
            omega
          show (c.1 == i || D c.1) = false
          rw [this, hl2 c hc]
          rfl
        rw [e0, e1]
        exact h7 _ hag _
  · have eT : T D = lastS σ0 Cs := by
      have h1 : pickS D σ0 Cs = lastS σ0 Cs := by
        have := pick_pre (D := D) (l2 := []) (l1 := Cs) (σ := σ0) fun c hc => hall c.1 (hCs c hc).1
        simpa [pickS] using this
      simp only [T]
      rw [h1]
      cases hfl : fl with
      | none => rfl
      | some p =>
        obtain ⟨q, nm⟩ := p
        rw [hfl] at hflm
        have : q < m := by simpa [flOk] using hflm
        simp [mkE, flD, hall q this]
    rw [← eT] at hgo
    refine hgo ι S a w ⟨Z.defers, Z.size, hFonce m (Nat.le_refl _), fun t x hx => ?_, Z.sr, Z.ext⟩
    rcases hFmem m (Nat.le_refl _) t x hx with ⟨j, hj, hv⟩ | ⟨h3, h4⟩
    · exact Z.new j t x hj (hall j hj) hv
    · refine Z.old t x (List.mem_filter.2 ⟨h3, List.all_eq_true.2 fun j hj => ?_⟩)
      have hj : j < m := by simpa using hj
      have hq : ops[j]? = some ops[j] := Array.getElem?_eq_getElem (by omega)
      cases hd : isD t j with
      | false => rfl
      | true => exact absurd ((isD_ok hq).1 hd) (h4 j _ hj hq)
end
section
variable {e : Env} {k : List KI} {fr : Fr} {σ σ' : Sto} {te : TE} {nt : Nat} {all : Array Oper} {o : Oper} {fl : Fl} {z : Bool} {pv : List (Nat × Nat)} {P : Program} {c : Fr → Sto → Prop}
theorem zd_split {i : Nat} {b want : Bool} (h1 : b = true → zG te nt e k all z fl pv i o fr σ c (gdB true want)) (h2 : b = false → zG te nt e k all z fl pv i o fr σ c (gdB false want)) : zG te nt e k all z fl pv i o fr σ c (gdB b want) := by
  cases b
  · exact h2 rfl
  · exact h1 rfl
def flLt : Fl → Nat → Prop
  | none, _ => True
  | some (_, nm), n => nm < n
theorem mkE_len (b : Bool) : (mkE fl b σ).length = σ.length := by
  unfold mkE
  split
  · rfl
  · cases b
    · simp [setN_eq]
    · rfl
theorem mkE_app {X : Sto} (b : Bool) (h : flLt fl σ.length) : mkE fl b (σ ++ X) = mkE fl b σ ++ X := by
  unfold mkE
  split
  · rfl
  · cases b
    · have h' : _ < σ.length := h
      simp only [cond_false, setN_eq]
      rw [List.set_append_left _ _ h']
    · rfl
theorem ZC.call0 {n : Nat} {xs args : List AV} {σo : Sto} {x : AV} (hP : e.P = P) (C : AC P n args [] x σo) (hop : calleeA fr o.op = some (n, xs)) (hg : gdA all.toList fr o.guard = .go) {d : Nat} (hd : o.dst = some d) (hdn : d < e.nt)
    (hx : xs = AV.renL (rho [] σ.length) args) (hz : z = true) (hfl : flLt fl σ.length) (h : c (put d (x.ren (rho [] σ.length)) fr) (σ ++ σo.map (En.ren (rho [] σ.length)))) : ZC e k all z fl o fr σ c := by
  subst hP
  refine ⟨d, _, _, hz, hd, hdn, ?_, fun fr' hag b => ?_, h⟩
  · unfold keepE
    split
    · trivial
    · have h' : _ < σ.length := hfl
      rw [nth_eq, nth_eq, List.getElem?_append_left h']
  · rw [mkE_app b hfl]
    intro ι S a w H K hK
    have hwant : Region.wanted o (yielded all a.tmps) = true := wanted_of H (b := true) (by rw [← gdA_congr hag, hg])
    rw [if_pos hwant]
    obtain ⟨us, h1, h2⟩ := callee_run ((calleeA_congr o.op hag.op).symm.trans hop) C.1 H
    left
    unfold Oper.wp
    rw [h1, Oper.upon_enter]
    refine (C.use [] (Lend.nil _ _) H.sr (by rw [mkE_len]; exact hx ▸ h2)).mono ?_
    rintro en w' ⟨u, ι', S', rfl, h3, h4⟩
    rw [mkE_len] at h3 h4
    refine hK u w' ι' S' h4 fun d' x' ee => ?_
    injection ee with ee
    injection ee with e1 e2
    subst e1 e2
    exact ⟨hd, h3⟩
theorem ZC.call {n : Nat} {xs args : List AV} {σi σo : Sto} {x : AV} (hP : e.P = P) (C : AC P n args σi x σo) (L : List Nat) (hop : calleeA fr o.op = some (n, xs)) (hg : gdA all.toList fr o.guard = .go) {d : Nat} (hd : o.dst = some d) (hdn : d < e.nt)
    (hx : xs = AV.renL (rho L σ.length) args) (hL : Lend L σi σo σ) (hz : z = true) (h : c (put d (x.ren (rho L σ.length)) fr) (wb (rho L σ.length) L σo σ)) : ZC e k all z none o fr σ c := by
  subst hP
  refine ⟨d, _, _, hz, hd, hdn, trivial, fun fr' hag b => ?_, h⟩
  show ObO e k all o fr' σ _ _
  intro ι S a w H K hK
  have hwant : Region.wanted o (yielded all a.tmps) = true := wanted_of H (b := true) (by rw [← gdA_congr hag, hg])
  rw [if_pos hwant]
  obtain ⟨us, h1, h2⟩ := callee_run ((calleeA_congr o.op hag.op).symm.trans hop) C.1 H
  left
  unfold Oper.wp
  rw [h1, Oper.upon_enter]
  refine (C.use L hL H.sr (hx ▸ h2)).mono ?_
  rintro en w' ⟨u, ι', S', rfl, h3, h4⟩
  refine hK u w' ι' S' h4 fun d' x' ee => ?_
  injection ee with ee
  injection ee with e1 e2
  subst e1 e2
  exact ⟨hd, h3⟩
/-- A name for a slice that holds nothing. -/
theorem Go.virt (t : TypeId) (h : Go e k fr (σ ++ [.live ⟨t, []⟩])) : Go e k fr σ := fun ι S a w H => h ι S a w (H.step (Step.virt H.sr (Adds.last σ ⟨t, []⟩)))
theorem Go.weak (d : Nat) {x : AV} (y : AV) (hx : get fr d = some x) (hxy : ∀ ι S w u, VR ι S w x u → VR ι S w y u) (h : Go e k (put d y fr) σ) : Go e k fr σ := fun ι S a w H =>
  h ι S a w ⟨H.defers, H.size, put_once H.one, fun t v hv => by
    rcases mem_put H.one hv with ⟨rfl, rfl⟩ | ⟨h1, h2⟩
    · obtain ⟨u, h3, h4⟩ := H.get hx
      exact ⟨u, h3, hxy _ _ _ _ h4⟩
    · exact H.frm t v h2, H.sr, H.ext⟩
/-- The nil slice as a slice of a name's that holds nothing. -/
theorem Go.nilsl (d nm s : Nat) (hx : get fr d = some (.v (.slice none 0 0))) (h : Go e k (put d (.sl nm 0 0 s) fr) σ) : Go e k fr σ :=
  Go.weak d _ hx (fun ι S w u hu => by simp only [VR] at hu ⊢; exact ⟨none, 0, hu, Nat.le_refl _, .inl rfl⟩) h
/-- The nil slice as a slice that nobody writes. -/
theorem Go.nilts (d : Nat) (hx : get fr d = some (.v (.slice none 0 0))) (h : Go e k (put d (.ts 0 []) fr) σ) : Go e k fr σ :=
  Go.weak d _ hx (fun ι S w u hu => by simp only [VR] at hu ⊢; refine ⟨none, 0, hu, Nat.le_refl _, ?_⟩; simp) h
theorem Step.fresh {ι : Nat → Option Nat} {S : Nat → Prop} {w : World} (H : SR ι S σ w) : Step σ ι S w (σ ++ [.fresh]) ι S w := by
  have at_ : ∀ n x, (σ ++ [En.fresh])[n]? = some (En.live x) → σ[n]? = some (En.live x) := fun n x h => by
    rcases Nat.lt_or_ge n σ.length with h1 | h1
    · rwa [List.getElem?_append_left h1] at h
    · rw [List.getElem?_append_right h1] at h
      rcases Nat.eq_zero_or_pos (n - σ.length) with h2 | h2
      · rw [h2] at h; cases h
      · rw [List.getElem?_eq_none_iff.2 (by simp; omega)] at h; cases h
  have fr_ : ∀ n, ((σ ++ [En.fresh])[n]? = none ∨ (σ ++ [En.fresh])[n]? = some En.fresh) → σ[n]? = none ∨ σ[n]? = some En.fresh := fun n h => by
    rcases Nat.lt_or_ge n σ.length with h1 | h1
    · rwa [List.getElem?_append_left h1] at h
    · exact .inl (List.getElem?_eq_none_iff.2 h1)
  refine ⟨⟨fun n x h => H.blk n x (at_ n x h), fun n m x y g hx hy => H.inj n m x y g (at_ n x hx) (at_ m y hy), fun n x g h => H.own n x g (at_ n x h), H.imm, fun n h => H.top n (fr_ n h)⟩, ⟨rfl, rfl, rfl, Nat.le_refl _, fun _ _ _ => rfl, fun _ c ty fz h => ⟨c, h, rfl⟩, fun _ h => h, ?_, fun _ h => .inl h, by simp, fun n hn => ?_⟩, fun _ _ h => h⟩
  · rintro g ⟨n, x, hx, hn⟩
    exact .inr ⟨n, x, at_ n x hx, hn⟩
  · rw [List.getElem?_append_left hn]
    exact ⟨fun h => h, fun x hx => .inr ⟨rfl, x, hx⟩⟩
theorem Go.fresh (h : Go e k fr (σ ++ [.fresh])) : Go e k fr σ := fun ι S a w H => h ι S a w (H.step (Step.fresh H.sr))
/-- Nothing but what looks: no order matters. -/
theorem Go.openP {id : Nat} {ops : Array Oper} (m : Nat) (hte : TEok e.P te) (hnt : e.nt = nt) (hm : e.P.follows .mixedOrders = true) (hs : zOk m ops false none = true)
    (h : zr te nt e k ops false none [] (ops.toList.drop m) 0 (ops.toList.take m) fr σ) : Go e (.code (.region id ops true) :: k) fr σ :=
  Go.openC m false none [] σ hte hnt hm hs rfl h
/-- With a chain of calls, stores, appends. -/
theorem Go.openK {id : Nat} {ops : Array Oper} (m : Nat) (pv : List (Nat × Nat)) (hte : TEok e.P te) (hnt : e.nt = nt) (hm : e.P.follows .mixedOrders = true) (hs : zOk m ops true none = true)
    (h : zr te nt e k ops true none pv (ops.toList.drop m) 0 (ops.toList.take m) fr σ) : Go e (.code (.region id ops true) :: k) fr σ :=
  Go.openC m true none pv σ hte hnt hm hs rfl h
def zA1 (f : Sto → Prop) (σ : Sto) : Rs → Prop
  | .new b _ => f (σ ++ [.live b])
  | _ => False
def zA (te : TE) (f : Sto → Prop) (σ : Sto) : Option Oper → Prop
  | some o => zA1 f σ (opA te [] [] o.op)
  | none => False
/-- The same, and 'alloc' at any time. -/
theorem Go.openA {id : Nat} {ops : Array Oper} (m i : Nat) (pv : List (Nat × Nat)) (hte : TEok e.P te) (hnt : e.nt = nt) (hm : e.P.follows .mixedOrders = true) (hs : zOk m ops true (some (i, σ.length)) = true)
    (h : zA te (zr te nt e k ops true (some (i, σ.length)) pv (ops.toList.drop m) 0 (ops.toList.take m) fr) σ (nth ops.toList i)) : Go e (.code (.region id ops true) :: k) fr σ := by
  unfold zA at h
  split at h
  · unfold zA1 at h
    split at h
    · refine Go.fresh (Go.openC m true (some (i, σ.length)) pv _ hte hnt hm hs ?_ h)
      simp [mkE, setN_eq]
    · exact h.elim
  · exact h.elim
end
section
variable {te : TE} {nt : Nat} {e : Env} {k : List KI} {all : Array Oper} {z : Bool} {fl : Fl} {pv : List (Nat × Nat)} {tail : List Oper} {i : Nat} {o : Oper} {r : List Oper} {fr : Fr} {σ : Sto} {c : Fr → Sto → Prop}
theorem q_zr0 : zr te nt e k all z fl pv tail i [] fr σ = Go e (.ops all tail :: k) fr σ := rfl
theorem q_zr1 : zr te nt e k all z fl pv tail i (o :: r) fr σ = zG te nt e k all z fl pv i o fr σ (zr te nt e k all z fl pv tail (i + 1) r) (gdA all.toList fr o.guard) := rfl
theorem q_zgs : zG te nt e k all z fl pv i o fr σ c .skip = zK nt fr σ c (flIs fl i) o.dst := rfl
theorem q_zgg : zG te nt e k all z fl pv i o fr σ c .go = bif isCh o.op && (flIs fl i).isNone then bif isCall o.op then ZC e k all z fl o fr σ c else zS z fl nt fr c o.dst (opA te fr σ o.op) else zD te nt z fl pv i o fr σ c o.dst := rfl
theorem q_zk1 (d : Nat) : zK nt fr σ c none (some d) = bif decide (d < nt) then c (put d (.tup []) fr) σ else False := rfl
theorem q_zk2 : zK nt fr σ c none none = c fr σ := rfl
theorem q_zd (d : Nat) : zD te nt z fl pv i o fr σ c (some d) = bif decide (d < nt) then zV te z fl o fr σ c d (flIs fl i) (lookN pv i) else False := rfl
theorem q_zv1 (d nm : Nat) (y : Option Nat) : zV te z fl o fr σ c d (some nm) y = bif isAl o.op then zF d nm fr σ c (opA te [] [] o.op) else False := rfl
theorem q_zv2 (d nm : Nat) : zV te z fl o fr σ c d none (some nm) = zB te d nm fr σ c o.op (isB0 o.op) := rfl
theorem q_zv3 (d : Nat) : zV te z fl o fr σ c d none none = zP d fr σ c (opA te fr (bif z then [] else σ) o.op) := rfl
theorem q_bn (t n : Nat) (ps : Array (Nat × Operand)) : isBn (.buildSlice t n ps) = true := rfl
theorem q_bn0 (t n : Nat) (p : Nat × Operand) (ps : List (Nat × Operand)) : isB0 (.buildSlice t (n + 1) ⟨p :: ps⟩) = none := rfl
theorem q_bn1 (t : Nat) (p : Nat × Operand) (ps : List (Nat × Operand)) : isB0 (.buildSlice t 1 ⟨p :: ps⟩) = none := rfl
theorem q_zbn (d nm : Nat) (op : Op) : zB te d nm fr σ c op none = bif isBn op then zN d fr σ c (opA te fr [] op) else False := rfl
theorem q_zn (d nm o' len es : Nat) (b : Blk) : zN d fr σ c (.new b (.sl nm o' len es)) = c (put d (.ts len b.cells) fr) σ := rfl
theorem q_zp1 (d : Nat) (x : AV) : zP d fr σ c (.val x) = c (put d x fr) σ := rfl
theorem q_zp2 (d : Nat) (x : AV) (cd : Prop) : zP d fr σ c (.need cd x) = (cd ∧ c (put d x fr) σ) := rfl
theorem q_zf (d nm : Nat) (b : Blk) (x : AV) : zF d nm fr σ c (.new b x) = (nth σ nm = some (.live b) ∧ c (put d (.p nm 0) fr) σ) := rfl
theorem q_zs1 (cd : Prop) (σ' : Sto) : zS z fl nt fr c none (.sto cd σ') = bif z && fl.isNone then cd ∧ c fr σ' else False := rfl
theorem q_zs2 (d : Nat) (cd : Prop) (σ' : Sto) (x : AV) : zS z fl nt fr c (some d) (.sv cd σ' x) = bif z && fl.isNone && decide (d < nt) then cd ∧ c (put d x fr) σ' else False := rfl
theorem q_za (f : Sto → Prop) : zA te f σ (some o) = zA1 f σ (opA te [] [] o.op) := rfl
theorem q_za1 (f : Sto → Prop) (b : Blk) (x : AV) : zA1 f σ (.new b x) = f (σ ++ [.live b]) := rfl
theorem q_fi0 (j : Nat) : flIs none j = none := rfl
theorem q_fi1 (i nm j : Nat) : flIs (some (i, nm)) j = bif i == j then some nm else none := rfl
theorem q_ln0 (j : Nat) : lookN [] j = none := rfl
theorem q_ln1 (i nm j : Nat) (r : List (Nat × Nat)) : lookN ((i, nm) :: r) j = bif i == j then some nm else lookN r j := rfl
theorem q_h01 (x : Operand) : isCh (.move x) = false := rfl
theorem q_h02 (x : Operand) : isCh (.assign x) = false := rfl
theorem q_h03 (a b c : Operand) : isCh (.pick a b c) = false := rfl
theorem q_h04 (t : Nat) : isCh (.alloc t) = false := rfl
theorem q_h05 (t : Nat) (x : Operand) : isCh (.box t x) = false := rfl
theorem q_h06 (t : Nat) (p : Array (Nat × Operand)) : isCh (.build t p) = false := rfl
theorem q_h07 (t n : Nat) (p : Array (Nat × Operand)) : isCh (.buildSlice t n p) = false := rfl
theorem q_h08 (t : Nat) (x : Operand) : isCh (.load t x) = false := rfl
theorem q_h09 (t : Nat) (x y : Operand) : isCh (.store t x y) = true := rfl
theorem q_h10 (op : BinOp) (t : Nat) (x y : Operand) (z : Nat) : isCh (.binOp op t x y z) = false := rfl
theorem q_h11 (op : UnOp) (t : Nat) (x : Operand) : isCh (.unOp op t x) = false := rfl
theorem q_h12 (s t : Nat) (x : Operand) : isCh (.convert s t x) = false := rfl
theorem q_h13 (t : Nat) (x : Operand) (f : Nat) : isCh (.fieldAddr t x f) = false := rfl
theorem q_h14 (t : Nat) (x y : Operand) : isCh (.indexAddr t x y) = false := rfl
theorem q_h15 (x : Operand) (n : Nat) : isCh (.extract x n) = false := rfl
theorem q_h16 (x : Operand) : isCh (.nilCheck x) = false := rfl
theorem q_h17 (t : Nat) (x : Operand) (l h m : Option Operand) : isCh (.slice t x l h m) = false := rfl
theorem q_h18 (t : Nat) (x y : Operand) : isCh (.makeSlice t x y) = false := rfl
theorem q_h19 (f : Fn) (a b : Array Operand) : isCh (.makeFunc f a b) = false := rfl
theorem q_h20 (a : Array Operand) (t : Array TypeId) : isCh (.call ⟨.builtin .append, a, t⟩) = true := rfl
theorem q_h21 (a : Array Operand) (t : Array TypeId) : isCh (.call ⟨.builtin .len, a, t⟩) = false := rfl
theorem q_h22 (f : Operand) (a : Array Operand) (t : Array TypeId) : isCh (.call ⟨.value f, a, t⟩) = true := rfl
theorem q_h23 (a : Array Operand) (t : Array TypeId) : isCh (.call ⟨.builtin .min, a, t⟩) = false := rfl
theorem q_h25 (t : Nat) (x y : Operand) : isCh (.index t x y) = false := rfl
theorem q_h24 (a : Array Operand) (t : Array TypeId) : isCh (.call ⟨.builtin .max, a, t⟩) = false := rfl
theorem q_al (t : Nat) : isAl (.alloc t) = true := rfl
theorem q_b0 (t : Nat) : isB0 (.buildSlice t 0 #[]) = some t := rfl
end

/-! ### Calls that look at what is the caller's own -/
mutual
def plainA : AV → Bool
  | .v _ => true
  | .p _ _ => true
  | .sl _ _ _ _ => true
  | .tp _ _ => false
  | .ts _ cs => cs.isEmpty
  | .agg cs => plainL cs
  | .tup cs => plainL cs
  | .fn _ a b => plainL a && plainL b
def plainL : List AV → Bool
  | [] => true
  | x :: xs => plainA x && plainL xs
end
section
variable {ι : Nat → Option Nat} {S S' : Nat → Prop} {w : World}
mutual
theorem VR.plain : ∀ (x : AV) (u : Value), plainA x = true → VR ι S w x u → VR ι S' w x u
  | .v x, u, _, h => by simpa only [VR] using h
  | .p n o, u, _, h => by simpa only [VR] using h
  | .sl n o l e, u, _, h => by simpa only [VR] using h
  | .tp cs o, u, hp, h => by cases hp
  | .ts n cs, u, hp, h => by
    simp only [VR] at h ⊢
    obtain ⟨A, cap, h1, h2, _⟩ := h
    exact ⟨A, cap, h1, h2, .inl (by simpa [plainA] using hp)⟩
  | .agg cs, u, hp, h => by
    simp only [VR] at h ⊢
    obtain ⟨c, h1, h2⟩ := h
    exact ⟨c, h1, VRe.plain cs c.toList hp h2⟩
  | .tup cs, u, hp, h => by
    simp only [VR] at h ⊢
    obtain ⟨c, h1, h2⟩ := h
    exact ⟨c, h1, VRe.plain cs c.toList hp h2⟩
  | .fn f a b, u, hp, h => by
    simp only [VR] at h ⊢
    simp only [plainA, Bool.and_eq_true] at hp
    obtain ⟨x, y, h1, h2, h3⟩ := h
    exact ⟨x, y, h1, VRe.plain a _ hp.1 h2, VRe.plain b _ hp.2 h3⟩
theorem VRl.plain : ∀ (xs : List AV) (us : List Value), plainL xs = true → VRl ι S w xs us → VRl ι S' w xs us
  | [], us, _, h => by simp only [VRl]
  | x :: xs, us, hp, h => by
    simp only [VRl] at h ⊢
    simp only [plainL, Bool.and_eq_true] at hp
    obtain ⟨v, r, h1, h2, h3⟩ := h
    exact ⟨v, r, h1, VR.plain x v hp.1 h2, VRl.plain xs r hp.2 h3⟩
theorem VRe.plain : ∀ (xs : List AV) (us : List Value), plainL xs = true → VRe ι S w xs us → VRe ι S' w xs us
  | [], us, _, h => by simpa only [VRe] using h
  | x :: xs, us, hp, h => by
    simp only [VRe] at h ⊢
    simp only [plainL, Bool.and_eq_true] at hp
    obtain ⟨v, r, h1, h2, h3⟩ := h
    exact ⟨v, r, h1, VR.plain x v hp.1 h2, VRe.plain xs r hp.2 h3⟩
end
end
def plainE : En → Bool
  | .live b => plainL b.cells
  | _ => true
def plainS : Sto → Bool
  | [] => true
  | x :: r => plainE x && plainS r
/-- A value of the caller's as a callee sees it that only looks: what it reaches is written by nobody. -/
def res (σ : Sto) : Nat → AV → AV
  | 0, _ => .v undef
  | _ + 1, .v x => .v x
  | f + 1, .p n o => match nth σ n with
    | some (.live b) => .tp (b.cells.map (res σ f)) o
    | _ => .v undef
  | f + 1, .sl n o len e => match nth σ n with
    | some (.live b) => .ts len (((b.cells.drop o).take (len * e)).map (res σ f))
    | _ => .v undef
  | f + 1, .tp cs o => .tp (cs.map (res σ f)) o
  | f + 1, .ts n cs => .ts n (cs.map (res σ f))
  | f + 1, .agg cs => .agg (cs.map (res σ f))
  | f + 1, .tup cs => .tup (cs.map (res σ f))
  | f + 1, .fn g a b => .fn g (a.map (res σ f)) (b.map (res σ f))
/-- Does the looking go deep enough? -/
def resOk (σ : Sto) : Nat → AV → Bool
  | 0, _ => false
  | _ + 1, .v _ => true
  | f + 1, .p n _ => match nth σ n with
    | some (.live b) => b.cells.all (resOk σ f)
    | _ => false
  | f + 1, .sl n o len e => match nth σ n with
    | some (.live b) => ((b.cells.drop o).take (len * e)).all (resOk σ f)
    | _ => false
  | f + 1, .tp cs _ => cs.all (resOk σ f)
  | f + 1, .ts _ cs => cs.all (resOk σ f)
  | f + 1, .agg cs => cs.all (resOk σ f)
  | f + 1, .tup cs => cs.all (resOk σ f)
  | f + 1, .fn _ a b => a.all (resOk σ f) && b.all (resOk σ f)
section
variable {ι : Nat → Option Nat} {S : Nat → Prop} {w : World} {σ : Sto}
def nowhere : Nat → Option Nat := fun _ => none
def below (w : World) : Nat → Prop := fun k => k < w.heap.size
theorem res_l {f : Nat} (ih : ∀ x u, resOk σ f x = true → VR ι S w x u → VR nowhere (below w) w (res σ f x) u) : ∀ (xs : List AV) (us : List Value), xs.all (resOk σ f) = true → VRl ι S w xs us → VRl nowhere (below w) w (xs.map (res σ f)) us
  | [], us, _, h => by simp only [List.map_nil, VRl]
  | x :: xs, us, hp, h => by
    simp only [List.map_cons, VRl] at h ⊢
    simp only [List.all_cons, Bool.and_eq_true] at hp
    obtain ⟨v, r, h1, h2, h3⟩ := h
    exact ⟨v, r, h1, ih x v hp.1 h2, res_l ih xs r hp.2 h3⟩
theorem res_e {f : Nat} (ih : ∀ x u, resOk σ f x = true → VR ι S w x u → VR nowhere (below w) w (res σ f x) u) : ∀ (xs : List AV) (us : List Value), xs.all (resOk σ f) = true → VRe ι S w xs us → VRe nowhere (below w) w (xs.map (res σ f)) us
  | [], us, _, h => by simpa only [List.map_nil, VRe] using h
  | x :: xs, us, hp, h => by
    simp only [List.map_cons, VRe] at h ⊢
    simp only [List.all_cons, Bool.and_eq_true] at hp
    obtain ⟨v, r, h1, h2, h3⟩ := h
    exact ⟨v, r, h1, ih x v hp.1 h2, res_e ih xs r hp.2 h3⟩
theorem res_ok (H : SR ι S σ w) : ∀ (f : Nat) (x : AV) (u : Value), resOk σ f x = true → VR ι S w x u → VR nowhere (below w) w (res σ f x) u
  | 0, x, u, hp, h => by simp [resOk] at hp
  | f + 1, .v x, u, hp, h => by simpa only [res, VR] using h
  | f + 1, .p n o, u, hp, h => by
    have ih := res_ok H f
    simp only [resOk, res, nth_eq] at hp ⊢
    cases hn : σ[n]? with
    | none => rw [hn] at hp; cases hp
    | some en =>
      rw [hn] at hp
      cases en with
      | live b =>
        simp only at hp ⊢
        simp only [VR] at h ⊢
        obtain ⟨g, h1, h2⟩ := h
        rcases H.blk n b hn with ⟨h3, _⟩ | ⟨g', c, h3, h4, h5⟩
        · rw [h1] at h3; cases h3
        · rw [h1] at h3
          injection h3 with h3
          subst h3
          exact ⟨g, 0, c, _, _, by rw [h2, Nat.zero_add], (Array.getElem?_eq_some_iff.1 h4).1, h4, res_l ih _ _ hp (by simpa using h5)⟩
      | _ => cases hp
  | f + 1, .sl n o len e, u, hp, h => by
    have ih := res_ok H f
    simp only [resOk, res, nth_eq] at hp ⊢
    cases hn : σ[n]? with
    | none => rw [hn] at hp; cases hp
    | some en =>
      rw [hn] at hp
      cases en with
      | live b =>
        simp only at hp ⊢
        simp only [VR] at h ⊢
        obtain ⟨A, cap, h1, h2, h3⟩ := h
        refine ⟨A, cap, h1, h2, ?_⟩
        rcases h3 with h3 | ⟨g, c, ty, h4, h5, h6, h7⟩
        · have : len = 0 := by omega
          subst this
          simp
        · rcases H.blk n b hn with ⟨h8, _⟩ | ⟨g', c', h8, h9, h10⟩
          · rw [h5] at h8; cases h8
          · rw [h5] at h8
            injection h8 with h8
            subst h8
            rw [h6] at h9
            injection h9 with h9
            injection h9 with e1 e2 e3
            subst e1
            exact .inr ⟨g, o, c, _, _, h4, (Array.getElem?_eq_some_iff.1 h6).1, h6, res_l ih _ _ hp (VRl.take _ (VRl.drop o h10))⟩
      | _ => cases hp
  | f + 1, .tp cs k, u, hp, h => by
    have ih := res_ok H f
    simp only [resOk, res] at hp ⊢
    simp only [VR] at h ⊢
    obtain ⟨g, o, c, ty, fz, h1, h2, h3, h4⟩ := h
    exact ⟨g, o, c, ty, fz, h1, (Array.getElem?_eq_some_iff.1 h3).1, h3, res_l ih _ _ hp h4⟩
  | f + 1, .ts len cs, u, hp, h => by
    have ih := res_ok H f
    simp only [resOk, res] at hp ⊢
    simp only [VR] at h ⊢
    obtain ⟨A, cap, h1, h2, h3⟩ := h
    refine ⟨A, cap, h1, h2, ?_⟩
    rcases h3 with rfl | ⟨g, o, c, ty, fz, h4, h5, h6, h7⟩
    · exact .inl rfl
    · exact .inr ⟨g, o, c, ty, fz, h4, (Array.getElem?_eq_some_iff.1 h6).1, h6, res_l ih _ _ hp h7⟩
  | f + 1, .agg cs, u, hp, h => by
    have ih := res_ok H f
    simp only [resOk, res] at hp ⊢
    simp only [VR] at h ⊢
    obtain ⟨c, h1, h2⟩ := h
    exact ⟨c, h1, res_e ih _ _ hp h2⟩
  | f + 1, .tup cs, u, hp, h => by
    have ih := res_ok H f
    simp only [resOk, res] at hp ⊢
    simp only [VR] at h ⊢
    obtain ⟨c, h1, h2⟩ := h
    exact ⟨c, h1, res_e ih _ _ hp h2⟩
  | f + 1, .fn g a b, u, hp, h => by
    have ih := res_ok H f
    simp only [resOk, Bool.and_eq_true, res] at hp ⊢
    simp only [VR] at h ⊢
    obtain ⟨x, y, h1, h2, h3⟩ := h
    exact ⟨x, y, h1, res_e ih _ _ hp.1 h2, res_e ih _ _ hp.2 h3⟩
theorem rho_nil (base n : Nat) : rho [] base n = base + n := rfl
/-- A call that looks at what is the caller's own, and gives back what is new. -/
theorem AC.look {P : Program} {f : FuncId} {args : List AV} {σo : Sto} {r : AV} (h : AC P f args [] r σo) (hr : plainA r = true) (ho : plainS σo = true) {us : List Value} (H : SR ι S σ w) (ha : VRe nowhere (below w) w args us) :
    Calls P f us.toArray w fun o w' => ∃ u ι' S', o = .returned u ∧ VR ι' S' w' (r.ren (rho [] σ.length)) u ∧ Step σ ι S w (σ ++ σo.map (En.ren (rho [] σ.length))) ι' S' w' := by
  have H0 : SR nowhere (below w) [] w := ⟨fun n b hn => by simp at hn, fun n m b b' g hn => by simp at hn, fun n b g hn => by simp at hn, fun _ hk => hk, fun _ _ => rfl⟩
  refine (h.2 nowhere (below w) w us H0 ha).mono ?_
  rintro o w' ⟨u, ι1, S1, rfl, h1, h2, h3⟩
  let ι2 : Nat → Option Nat := fun n => if n < σ.length then ι n else ι1 (n - σ.length)
  have hren : (fun n => ι2 (rho [] σ.length n)) = ι1 := by
    funext n
    have : ¬ σ.length + n < σ.length := by omega
    simp only [ι2, rho_nil, if_neg this]
    congr 1
    omega
  have plS : ∀ (σo : Sto) (n : Nat) (b : Blk), plainS σo = true → σo[n]? = some (En.live b) → plainL b.cells = true := by
    intro σo
    induction σo with
    | nil => intro n b _ hn; simp at hn
    | cons x r ih =>
      intro n b hp hn
      simp only [plainS, Bool.and_eq_true] at hp
      cases n with
      | zero =>
        simp only [List.getElem?_cons_zero, Option.some.injEq] at hn
        subst hn
        exact hp.1
      | succ n => exact ih n b hp.2 (by simpa using hn)
  have hkeep : ∀ k, k < w.heap.size → w'.heap[k]? = w.heap[k]? := fun k hk => h3.keep k hk (fun ⟨n, b, hn, _⟩ => (by simp at hn))
  have hnam : ∀ n g, ι n = some g → ι2 n = some g := fun n g hg => by
    have : n < σ.length := by
      rcases Nat.lt_or_ge n σ.length with h | h
      · exact h
      · have := H.top n (.inl (List.getElem?_eq_none_iff.2 h))
        rw [hg] at this; cases this
    simp only [ι2, if_pos this]
    exact hg
  have M : Mov ι ι2 S S w w' := ⟨hnam, fun _ h => h, fun k hk => hkeep k (H.imm k hk), h3.siz⟩
  have old : ∀ n, n < σ.length → (σ ++ σo.map (En.ren (rho [] σ.length)))[n]? = σ[n]? := fun n hn => List.getElem?_append_left hn
  have new : ∀ (n : Nat) (b : Blk), ¬ n < σ.length → (σ ++ σo.map (En.ren (rho [] σ.length)))[n]? = some (En.live b) → ∃ b', σo[n - σ.length]? = some (En.live b') ∧ b = b'.ren (rho [] σ.length) := fun n b hn hb => by
    rw [List.getElem?_append_right (by omega), List.getElem?_map] at hb
    cases hs : σo[n - σ.length]? with
    | none => rw [hs] at hb; cases hb
    | some en =>
      rw [hs] at hb
      cases en with
      | live b' =>
        simp only [Option.map_some, En.ren, Option.some.injEq, En.live.injEq] at hb
        exact ⟨b', rfl, hb.symm⟩
      | dead => simp [En.ren] at hb
      | fresh => simp [En.ren] at hb
  have size1 : ∀ (n : Nat) (b : Blk) (g : Nat), σo[n]? = some (En.live b) → ι1 n = some g → w.heap.size ≤ g := fun n b g hn hg => by
    rcases h3.new g ⟨n, b, hn, hg⟩ with h | ⟨m, _, hm, _⟩
    · exact h
    · simp at hm
  have hlt : ∀ (n : Nat) (b : Blk) (g : Nat), σ[n]? = some (En.live b) → ι n = some g → g < w.heap.size := fun n b g hb hg => H.lt ⟨n, b, hb, hg⟩
  have i1 : ∀ {n}, n < σ.length → ι2 n = ι n := fun hn => if_pos hn
  have i2 : ∀ {n}, ¬ n < σ.length → ι2 n = ι1 (n - σ.length) := fun hn => if_neg hn
  have SRn : SR ι2 S (σ ++ σo.map (En.ren (rho [] σ.length))) w' := by
    refine ⟨fun n b hb => ?_, fun n m b b' g hb hb' hn hm => ?_, fun n b g hb hn => ?_, fun k hk => Nat.lt_of_lt_of_le (H.imm k hk) h3.size, fun n hn => ?_⟩
    · by_cases hlt : n < σ.length
      · rw [old n hlt] at hb
        rcases H.blk n b hb with ⟨e1, e2⟩ | ⟨g, c, e1, e2, e3⟩
        · exact .inl ⟨(i1 hlt).trans e1, e2⟩
        · exact .inr ⟨g, c, hnam n g e1, (hkeep g (Array.getElem?_eq_some_iff.1 e2).1).trans e2, VRl.mov M _ _ e3⟩
      · obtain ⟨b', hb', rfl⟩ := new n b hlt hb
        rcases h2.blk _ b' hb' with ⟨e1, e2⟩ | ⟨g, c, e1, e2, e3⟩
        · exact .inl ⟨(i2 hlt).trans e1, by simp [Blk.ren, e2, AV.renL]⟩
        · refine .inr ⟨g, c, (i2 hlt).trans e1, e2, ?_⟩
          rw [show (b'.ren (rho [] σ.length)).cells = AV.renL (rho [] σ.length) b'.cells from rfl, VRl.ren, hren]
          exact VRl.plain _ _ (plS σo _ b' ho hb') e3
    · by_cases hn1 : n < σ.length <;> by_cases hm1 : m < σ.length
      · rw [old n hn1] at hb
        rw [old m hm1] at hb'
        rw [i1 hn1] at hn
        rw [i1 hm1] at hm
        exact H.inj n m b b' g hb hb' hn hm
      · rw [old n hn1] at hb
        obtain ⟨b2, hb2, _⟩ := new m b' hm1 hb'
        rw [i1 hn1] at hn
        rw [i2 hm1] at hm
        have := hlt n b g hb hn
        have := size1 _ b2 g hb2 hm
        omega
      · rw [old m hm1] at hb'
        obtain ⟨b2, hb2, _⟩ := new n b hn1 hb
        rw [i1 hm1] at hm
        rw [i2 hn1] at hn
        have := hlt m b' g hb' hm
        have := size1 _ b2 g hb2 hn
        omega
      · obtain ⟨b2, hb2, _⟩ := new n b hn1 hb
        obtain ⟨b3, hb3, _⟩ := new m b' hm1 hb'
        rw [i2 hn1] at hn
        rw [i2 hm1] at hm
        have := h2.inj _ _ b2 b3 g hb2 hb3 hn hm
        omega
    · by_cases hn1 : n < σ.length
      · rw [old n hn1] at hb
        rw [i1 hn1] at hn
        exact H.own n b g hb hn
      · obtain ⟨b2, hb2, _⟩ := new n b hn1 hb
        rw [i2 hn1] at hn
        have h4 := size1 _ b2 g hb2 hn
        intro hs
        have := H.imm g hs
        omega
    · by_cases hn1 : n < σ.length
      · rw [old n hn1] at hn
        rw [i1 hn1]
        exact H.top n hn
      · rw [i2 hn1]
        refine h2.top _ ?_
        rw [List.getElem?_append_right (by omega), List.getElem?_map] at hn
        cases hs : σo[n - σ.length]? with
        | none => exact .inl rfl
        | some en =>
          rw [hs] at hn
          cases en <;> simp [En.ren] at hn
  refine ⟨u, ι2, S, rfl, ?_, SRn, ⟨h3.os, h3.tape, h3.output, h3.size, fun k hk _ => hkeep k hk, h3.siz, fun _ h => h, ?_, fun _ h => .inl h, by simp, fun n hn => ?_⟩, hnam⟩
  · rw [VR.ren, hren]
    exact VR.plain _ _ hr h1
  · rintro k ⟨n, b, hb, hn⟩
    by_cases hn1 : n < σ.length
    · rw [old n hn1] at hb
      rw [i1 hn1] at hn
      exact .inr ⟨n, b, hb, hn⟩
    · obtain ⟨b2, hb2, _⟩ := new n b hn1 hb
      rw [i2 hn1] at hn
      exact .inl (size1 _ b2 k hb2 hn)
  · rw [old n hn]
    exact ⟨fun h => h, fun b hb => .inr ⟨i1 hn, b, hb⟩⟩
end
section
variable {e : Env} {k : List KI} {fr : Fr} {σ σ' : Sto} {te : TE} {nt : Nat} {all : Array Oper} {o : Oper} {r : List Oper} {P : Program} {fl : Fl} {z : Bool} {c : Fr → Sto → Prop}
/-- A call that looks at what is the caller's own ('f' tells how deep). -/
theorem Go.callB (f : Nat) {n : Nat} {xs args : List AV} {σo : Sto} {x : AV} (hP : e.P = P) (C : AC P n args [] x σo) (hop : calleeA fr o.op = some (n, xs)) (hg : gdA all.toList fr o.guard = .go) {d : Nat} (hd : o.dst = some d) (hdn : d < e.nt)
    (hok : xs.all (resOk σ f) = true) (hx : xs.map (res σ f) = args) (hpr : plainA x = true) (hpo : plainS σo = true) (h : Go e (.ops all r :: k) (put d (x.ren (rho [] σ.length)) fr) (σ ++ σo.map (En.ren (rho [] σ.length)))) : Go e (.ops all (o :: r) :: k) fr σ := by
  subst hP
  subst hx
  intro ι S a w H
  have hw : Region.wanted o (yielded all a.tmps) = true := wanted_of H (b := true) (by rw [hg])
  obtain ⟨us, h1, h2⟩ := callee_run hop C.1 H
  show wpList e.P all (Kpost e k) (o :: r) a w
  unfold wpList
  rw [if_pos hw]
  left
  unfold Oper.wp
  rw [h1, Oper.upon_enter]
  refine (C.look hpr hpo H.sr (res_e (fun x u => res_ok H.sr f x u) xs us hok h2)).mono ?_
  rintro en w' ⟨u, ι', S', rfl, h3, h4⟩
  rw [hd]
  exact h ι' S' _ w' ((H.step h4).put hdn h3)
theorem ZC.callB (f : Nat) {n : Nat} {xs args : List AV} {σo : Sto} {x : AV} (hP : e.P = P) (C : AC P n args [] x σo) (hop : calleeA fr o.op = some (n, xs)) (hg : gdA all.toList fr o.guard = .go) {d : Nat} (hd : o.dst = some d) (hdn : d < e.nt)
    (hok : ∀ b, xs.all (resOk (mkE fl b σ) f) = true) (hx : ∀ b, xs.map (res (mkE fl b σ) f) = args) (hpr : plainA x = true) (hpo : plainS σo = true) (hz : z = true) (hfl : flLt fl σ.length)
    (h : c (put d (x.ren (rho [] σ.length)) fr) (σ ++ σo.map (En.ren (rho [] σ.length)))) : ZC e k all z fl o fr σ c := by
  subst hP
  refine ⟨d, _, _, hz, hd, hdn, ?_, fun fr' hag b => ?_, h⟩
  · unfold keepE
    split
    · trivial
    · have h' : _ < σ.length := hfl
      rw [nth_eq, nth_eq, List.getElem?_append_left h']
  · rw [mkE_app b hfl]
    intro ι S a w H K hK
    have hwant : Region.wanted o (yielded all a.tmps) = true := wanted_of H (b := true) (by rw [← gdA_congr hag, hg])
    rw [if_pos hwant]
    obtain ⟨us, h1, h2⟩ := callee_run ((calleeA_congr o.op hag.op).symm.trans hop) C.1 H
    left
    unfold Oper.wp
    rw [h1, Oper.upon_enter]
    have ha := res_e (fun x u => res_ok H.sr f x u) xs us (hok b) h2
    rw [hx b] at ha
    refine (C.look hpr hpo H.sr ha).mono ?_
    rintro en w' ⟨u, ι', S', rfl, h3, h4⟩
    rw [mkE_len] at h3 h4
    refine hK u w' ι' S' h4 fun d' x' ee => ?_
    injection ee with ee
    injection ee with e1 e2
    subst e1 e2
    exact ⟨hd, h3⟩
end
section
variable (σ : Sto) (f : Nat)
theorem q_rs1 (x : Value) : res σ (f + 1) (.v x) = .v x := rfl
theorem q_rs2 (cs : List AV) (o : Nat) : res σ (f + 1) (.tp cs o) = .tp (cs.map (res σ f)) o := rfl
theorem q_rs3 (cs : List AV) (n : Nat) : res σ (f + 1) (.ts n cs) = .ts n (cs.map (res σ f)) := rfl
theorem q_rs4 (cs : List AV) : res σ (f + 1) (.agg cs) = .agg (cs.map (res σ f)) := rfl
def resS (f n o len e : Nat) : Option En → AV
  | some (.live b) => .ts len (((b.cells.drop o).take (len * e)).map (res σ f))
  | _ => .v undef
def resP (f n o : Nat) : Option En → AV
  | some (.live b) => .tp (b.cells.map (res σ f)) o
  | _ => .v undef
theorem q_rs5 (n o len e : Nat) : res σ (f + 1) (.sl n o len e) = resS σ f n o len e (nth σ n) := by
  show (match nth σ n with | some (.live b) => _ | _ => _) = _
  cases nth σ n with
  | none => rfl
  | some en => cases en <;> rfl
theorem q_rs6 (n o : Nat) : res σ (f + 1) (.p n o) = resP σ f n o (nth σ n) := by
  show (match nth σ n with | some (.live b) => _ | _ => _) = _
  cases nth σ n with
  | none => rfl
  | some en => cases en <;> rfl
theorem q_rs7 (n o len e : Nat) (b : Blk) : resS σ f n o len e (some (.live b)) = .ts len (((b.cells.drop o).take (len * e)).map (res σ f)) := rfl
theorem q_rs8 (n o : Nat) (b : Blk) : resP σ f n o (some (.live b)) = .tp (b.cells.map (res σ f)) o := rfl
theorem q_ro1 (x : Value) : resOk σ (f + 1) (.v x) = true := rfl
theorem q_ro2 (cs : List AV) (o : Nat) : resOk σ (f + 1) (.tp cs o) = cs.all (resOk σ f) := rfl
theorem q_ro3 (cs : List AV) (n : Nat) : resOk σ (f + 1) (.ts n cs) = cs.all (resOk σ f) := rfl
theorem q_ro4 (cs : List AV) : resOk σ (f + 1) (.agg cs) = cs.all (resOk σ f) := rfl
def rokS (f n o len e : Nat) : Option En → Bool
  | some (.live b) => ((b.cells.drop o).take (len * e)).all (resOk σ f)
  | _ => false
def rokP (f n o : Nat) : Option En → Bool
  | some (.live b) => b.cells.all (resOk σ f)
  | _ => false
theorem q_ro5 (n o len e : Nat) : resOk σ (f + 1) (.sl n o len e) = rokS σ f n o len e (nth σ n) := by
  show (match nth σ n with | some (.live b) => _ | _ => _) = _
  cases nth σ n with
  | none => rfl
  | some en => cases en <;> rfl
theorem q_ro6 (n o : Nat) : resOk σ (f + 1) (.p n o) = rokP σ f n o (nth σ n) := by
  show (match nth σ n with | some (.live b) => _ | _ => _) = _
  cases nth σ n with
  | none => rfl
  | some en => cases en <;> rfl
theorem q_ro7 (n o len e : Nat) (b : Blk) : rokS σ f n o len e (some (.live b)) = ((b.cells.drop o).take (len * e)).all (resOk σ f) := rfl
theorem q_ro8 (n o : Nat) (b : Blk) : rokP σ f n o (some (.live b)) = b.cells.all (resOk σ f) := rfl
end
section
variable {e : Env} {k : List KI} {fr : Fr} {σ : Sto} {te : TE} {nt : Nat} {all : Array Oper} {o : Oper} {r : List Oper}
/-- Is a slice nil? Either way, unless it is known. -/
theorem Go.isnil (hte : TEok e.P te) {t t' el len d : Nat} {x y : Operand} {i : TI} {cs : List AV} (hop : o.op = .binOp .eql t x y t') (hi : ti te t = some i) (hs : i.desc = .slice el) (hx : ev fr x = some (.ts len cs)) (hy : ev fr y = some (.v (.slice none 0 0)))
    (hg : gdA all.toList fr o.guard = .go) (hd : o.dst = some d) (hdn : d < e.nt) (h1 : cs = [] → Go e (.ops all r :: k) (put d (.v (.bool true)) fr) σ) (h2 : Go e (.ops all r :: k) (put d (.v (.bool false)) fr) σ) : Go e (.ops all (o :: r) :: k) fr σ := by
  intro ι S a w H
  have hw : Region.wanted o (yielded all a.tmps) = true := wanted_of H (b := true) (by rw [hg])
  have hvx := H.ev hx
  have hvy := H.ev hy
  simp only [VR] at hvx hvy
  obtain ⟨A, cap, hA, hl, hc⟩ := hvx
  have hund := (hte _ _ hi).1
  rw [hs] at hund
  have hex : (execOp a.eval o).run e.P w = .ok (.value (.bool A.isNone)) w := by
    obtain ⟨dst, op, type, pos, after, guard⟩ := o
    simp only at hop
    subst hop
    have hgd : (eqGuard .eql t x y (.slice A len cap) (.slice none 0 0)).run e.P w = .ok () w := by simp [eqGuard]
    show (do pure (Next.value (← (do eqGuard .eql t x y (a.eval x) (a.eval y); binOp .eql t (a.eval x) (a.eval y)))) : Sem _).run e.P w = _
    rw [hA, hvy, Sem.run_bind, Sem.run_bind, hgd]
    simp only [Result.andThen_ok]
    rw [Lib.run_eql_slice_nil w t el A len cap 0 0 hund]
    rfl
  show wpList e.P all (Kpost e k) (o :: r) a w
  unfold wpList
  rw [if_pos hw]
  left
  unfold Oper.wp
  rw [hex, Oper.upon_value, hd]
  cases A with
  | none =>
    rcases hc with hc | ⟨g, o', c, ty, fz, hc, _⟩
    · exact h1 hc ι S _ w (H.put hdn (by simp only [VR]; rfl))
    · cases hc
  | some A => exact h2 ι S _ w (H.put hdn (by simp only [VR]; rfl))
end
section
variable {ι : Nat → Option Nat} {S : Nat → Prop} {w : World} {σ : Sto}
/-- The same block, told with fewer words. -/
theorem Step.retell (H : SR ι S σ w) {nm : Nat} {b b' : Blk} (hb : σ[nm]? = some (.live b)) (ht : b'.ty = b.ty) (h0 : b.cells = [] → b'.cells = []) (hc : ∀ us, VRl ι S w b.cells us → VRl ι S w b'.cells us) : Step σ ι S w (setN σ nm (.live b')) ι S w := by
  have hlt : nm < σ.length := (List.getElem?_eq_some_iff.1 hb).1
  have at_ : ∀ n, n ≠ nm → (setN σ nm (.live b'))[n]? = σ[n]? := fun n hn => by rw [setN_eq, List.getElem?_set_ne (Ne.symm hn)]
  have me : (setN σ nm (.live b'))[nm]? = some (.live b') := by rw [setN_eq]; simp [hlt]
  have lv : ∀ n x, (setN σ nm (.live b'))[n]? = some (En.live x) → ∃ y, σ[n]? = some (En.live y) := fun n x h => by
    by_cases e : n = nm
    · exact ⟨b, e ▸ hb⟩
    · exact ⟨x, (at_ n e) ▸ h⟩
  refine ⟨⟨fun n x h => ?_, fun n m x y g hx hy => ?_, fun n x g hx => ?_, H.imm, fun n hn => ?_⟩, ⟨rfl, rfl, rfl, Nat.le_refl _, fun _ _ _ => rfl, fun _ c ty fz h => ⟨c, h, rfl⟩, fun _ h => h, ?_, fun _ h => .inl h, by rw [setN_eq]; simp, fun n hn => ?_⟩, fun _ _ h => h⟩
  · by_cases e : n = nm
    · subst e
      rw [me] at h
      injection h with h
      injection h with h
      subst h
      rcases H.blk n b hb with ⟨h1, h2⟩ | ⟨g, c, h1, h2, h3⟩
      · exact .inl ⟨h1, h0 h2⟩
      · exact .inr ⟨g, c, h1, by rw [ht]; exact h2, hc _ h3⟩
    · rw [at_ n e] at h
      exact H.blk n x h
  · obtain ⟨x', hx'⟩ := lv n x hx
    obtain ⟨y', hy'⟩ := lv m y hy
    exact H.inj n m x' y' g hx' hy'
  · obtain ⟨x', hx'⟩ := lv n x hx
    exact H.own n x' g hx'
  · by_cases e : n = nm
    · subst e
      rw [me] at hn
      rcases hn with hn | hn <;> cases hn
    · rw [at_ n e] at hn
      exact H.top n hn
  · rintro k ⟨n, x, hx, hn⟩
    obtain ⟨x', hx'⟩ := lv n x hx
    exact .inr ⟨n, x', hx', hn⟩
  · refine ⟨fun h => ?_, fun x h => ?_⟩
    · by_cases e : n = nm
      · subst e
        rw [me] at h
        cases h
      · rw [at_ n e] at h
        exact h
    · obtain ⟨x', hx'⟩ := lv n x h
      exact .inr ⟨rfl, x', hx'⟩
theorem VRl.weaken : ∀ {xs : List AV} {us : List Value} {i : Nat} {x y : AV}, VRl ι S w xs us → xs[i]? = some x → (∀ u, VR ι S w x u → VR ι S w y u) → VRl ι S w (xs.set i y) us
  | [], us, i, x, y, h, hi, _ => by simp at hi
  | z :: xs, us, i, x, y, h, hi, hxy => by
    simp only [VRl] at h
    obtain ⟨v, r, h1, h2, h3⟩ := h
    cases i with
    | zero =>
      simp only [List.getElem?_cons_zero, Option.some.injEq] at hi
      subst hi
      simp only [List.set_cons_zero, VRl]
      exact ⟨v, r, h1, hxy v h2, h3⟩
    | succ i =>
      simp only [List.getElem?_cons_succ] at hi
      simp only [List.set_cons_succ, VRl]
      exact ⟨v, r, h1, h2, VRl.weaken h3 hi hxy⟩
end
section
variable {e : Env} {k : List KI} {fr : Fr} {σ : Sto}
/-- A cell that holds the nil slice, told as a slice that holds nothing. -/
theorem Go.nilcell (nm i m s : Nat) {b : Blk} (hb : nth σ nm = some (.live b)) (hc : nth b.cells i = some (.v (.slice none 0 0))) (h : Go e k fr (setN σ nm (.live ⟨b.ty, setN b.cells i (.sl m 0 0 s)⟩))) : Go e k fr σ := fun ι S a w H =>
  h ι S a w (H.step (Step.retell (b := b) H.sr (by rw [← nth_eq]; exact hb) rfl (fun h => by rw [h] at hc; rw [nth_eq] at hc; simp at hc) fun us hu => by
    rw [setN_eq]
    refine VRl.weaken hu (by rw [← nth_eq]; exact hc) fun u hu => ?_
    simp only [VR] at hu ⊢
    exact ⟨none, 0, hu, Nat.le_refl _, .inl rfl⟩))
/-- .. as one that nobody writes. -/
theorem Go.nilcellT (nm i : Nat) {b : Blk} (hb : nth σ nm = some (.live b)) (hc : nth b.cells i = some (.v (.slice none 0 0))) (h : Go e k fr (setN σ nm (.live ⟨b.ty, setN b.cells i (.ts 0 [])⟩))) : Go e k fr σ := fun ι S a w H =>
  h ι S a w (H.step (Step.retell (b := b) H.sr (by rw [← nth_eq]; exact hb) rfl (fun h => by rw [h] at hc; rw [nth_eq] at hc; simp at hc) fun us hu => by
    rw [setN_eq]
    refine VRl.weaken hu (by rw [← nth_eq]; exact hc) fun u hu => ?_
    simp only [VR] at hu ⊢
    refine ⟨none, 0, hu, Nat.le_refl _, ?_⟩; simp))
end
end Go.Proofs.Ytjnlpomfjlpikaa.Ab
