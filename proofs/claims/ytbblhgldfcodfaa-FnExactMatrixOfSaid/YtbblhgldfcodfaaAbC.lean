/- Contracts of the given program's functions and of the reference's (walks). -/
import Derived.Test.YtbblhgldfcodfaaAbB
set_option linter.unusedVariables false
set_option linter.unusedSimpArgs false
namespace Go.Proofs.Ytbblhgldfcodfaa.Ab
open Go
/-! ### Regions whose order is open: operations that look at blocks which the chain leaves as they are; 'makeSlice' in the chain -/
def isCx : Op → Bool
  | .makeSlice _ _ _ => true
  | .buildSlice _ _ _ => true
  | op => isCh op
section
variable {te : TE} {σ σ1 : Sto}
theorem opA_sub (hs : ∀ n b, nth σ1 n = some (.live b) → nth σ n = some (.live b)) {fr : Fr} {op : Op} (hx : isCx op = false) : (∀ x, opA te fr σ1 op = .val x → opA te fr σ op = .val x) ∧ (∀ c x, opA te fr σ1 op = .need c x → opA te fr σ op = .need c x) := by
  have cells0 : ∀ x y, cellsAt σ1 x = some y → cellsAt σ x = some y := fun x y h => by
    cases x with
    | p n o =>
      simp only [cellsAt] at h ⊢
      split at h
      · rename_i b hb
        rw [hs n b hb]
        exact h
      · cases h
    | _ => exact h
  have ld0 : ∀ i x y, ldA i σ1 x = some y → ldA i σ x = some y := fun i x y h => by
    unfold ldA at h ⊢
    split at h
    · rename_i cs o hc
      rw [cells0 _ _ hc]
      exact h
    · cases h
  cases op with
  | load t x =>
    unfold opA
    simp only
    cases ti te t with
    | none => exact ⟨fun _ h => (by cases h), fun _ _ h => (by cases h)⟩
    | some i =>
      cases ev fr x with
      | none => exact ⟨fun _ h => (by cases h), fun _ _ h => (by cases h)⟩
      | some y =>
        simp only [ot, o1]
        constructor
        · intro z h
          cases hl : ldA i σ1 y with
          | none => rw [hl] at h; cases h
          | some v => rw [hl] at h; rw [ld0 _ _ _ hl]; exact h
        · intro c z h
          cases hl : ldA i σ1 y with
          | none => rw [hl] at h; cases h
          | some v => rw [hl] at h; rw [ld0 _ _ _ hl]; exact h
  | alloc t => unfold opA; simp only; cases ti te t <;> exact ⟨fun _ h => (by cases h), fun _ _ h => (by cases h)⟩
  | box t x => unfold opA; simp only; cases ev fr x <;> exact ⟨fun _ h => (by cases h), fun _ _ h => (by cases h)⟩
  | store t x y => cases hx
  | buildSlice t n ps =>
    unfold opA
    simp only
    cases ti te t with
    | none => exact ⟨fun _ h => (by cases h), fun _ _ h => (by cases h)⟩
    | some i =>
      cases evp fr ps.toList with
      | none => exact ⟨fun _ h => (by cases h), fun _ _ h => (by cases h)⟩
      | some qs =>
        simp only [ot, ol]
        rcases buildSliceA_form (te := te) i σ1.length n qs with h | ⟨b, x, h⟩ <;> rw [h] <;> exact ⟨fun _ h => (by cases h), fun _ _ h => (by cases h)⟩
  | makeSlice t x y => cases hx
  | call c =>
    obtain ⟨f, as, ts⟩ := c
    cases f with
    | builtin b =>
      show (∀ x, builtA te fr σ1 b as.toList ts.toList = .val x → builtA te fr σ b as.toList ts.toList = .val x) ∧ (∀ c x, builtA te fr σ1 b as.toList ts.toList = .need c x → builtA te fr σ b as.toList ts.toList = .need c x)
      unfold builtA
      split <;> first
        | exact ⟨fun _ h => h, fun _ _ h => h⟩
        | (exfalso; cases hx)
    | _ => exact ⟨fun _ h => (by cases h), fun _ _ h => (by cases h)⟩
  | slice t x lo hi mx => cases mx <;> exact ⟨fun _ h => h, fun _ _ h => h⟩
  | _ => exact ⟨fun _ h => h, fun _ _ h => h⟩
end
def onlyK (kp : List Nat) : Nat → Sto → Sto
  | _, [] => []
  | i, x :: r => (bif kp.elem i then x else .dead) :: onlyK kp (i + 1) r
def kept (σ σ' : Sto) : List Nat → Prop
  | [] => True
  | n :: r => nth σ' n = nth σ n ∧ kept σ σ' r
theorem kept_refl {σ : Sto} : ∀ (kp : List Nat), kept σ σ kp
  | [] => trivial
  | n :: r => ⟨rfl, kept_refl r⟩
theorem kept_trans {σ σ' σ'' : Sto} : ∀ {kp : List Nat}, kept σ σ' kp → kept σ' σ'' kp → kept σ σ'' kp
  | [], _, _ => trivial
  | n :: r, h, h' => ⟨h'.1.trans h.1, kept_trans h.2 h'.2⟩
theorem kept_at {σ σ' : Sto} : ∀ {kp : List Nat}, kept σ σ' kp → ∀ n ∈ kp, nth σ' n = nth σ n
  | [], _, n, h => by cases h
  | m :: r, h, n, hn => by
    rcases List.mem_cons.1 hn with rfl | hn
    · exact h.1
    · exact kept_at h.2 n hn
theorem onlyK_at {kp : List Nat} : ∀ {σ : Sto} {i n : Nat} {b : Blk}, nth (onlyK kp i σ) n = some (.live b) → nth σ n = some (.live b) ∧ i + n ∈ kp
  | [], i, n, b, h => by simp [onlyK, nth] at h
  | x :: r, i, 0, b, h => by
    simp only [onlyK, nth] at h ⊢
    cases hk : kp.elem i
    · rw [hk] at h; cases h
    · rw [hk] at h
      exact ⟨h, by simpa using hk⟩
  | x :: r, i, n + 1, b, h => by
    simp only [onlyK, nth] at h ⊢
    obtain ⟨h1, h2⟩ := onlyK_at h
    exact ⟨h1, by rw [show i + (n + 1) = i + 1 + n by omega]; exact h2⟩
theorem onlyK_sub {kp : List Nat} {σ σ' : Sto} (hk : kept σ σ' kp) : ∀ n b, nth (onlyK kp 0 σ) n = some (.live b) → nth σ' n = some (.live b) := fun n b h => by
  obtain ⟨h1, h2⟩ := onlyK_at h
  rw [Nat.zero_add] at h2
  rw [kept_at hk n h2, h1]
def YC (e : Env) (k : List KI) (all : Array Oper) (kp : List Nat) (o : Oper) (fr : Fr) (σ : Sto) (c : Fr → Sto → Prop) : Prop :=
  ∃ d σ' x, o.dst = some d ∧ d < e.nt ∧ kept σ σ' kp ∧ (∀ fr', agreeO all o fr fr' → ObO e k all o fr' σ σ' (some (d, x))) ∧ c (put d x fr) σ'
def yS (kp : List Nat) (nt : Nat) (fr : Fr) (σ : Sto) (c : Fr → Sto → Prop) : Option Nat → Rs → Prop
  | none, .sto cd σ' => cd ∧ kept σ σ' kp ∧ c fr σ'
  | some d, .sv cd σ' x => bif decide (d < nt) then cd ∧ kept σ σ' kp ∧ c (put d x fr) σ' else False
  | some d, .newc cd b x => bif decide (d < nt) then cd ∧ kept σ (σ ++ [.live b]) kp ∧ c (put d x fr) (σ ++ [.live b]) else False
  | some d, .new b x => bif decide (d < nt) then kept σ (σ ++ [.live b]) kp ∧ c (put d x fr) (σ ++ [.live b]) else False
  | _, _ => False
def yP (d : Nat) (fr : Fr) (σ : Sto) (c : Fr → Sto → Prop) : Rs → Prop
  | .val x => c (put d x fr) σ
  | .need cd x => cd ∧ c (put d x fr) σ
  | _ => False
def yD (te : TE) (nt : Nat) (kp : List Nat) (o : Oper) (fr : Fr) (σ : Sto) (c : Fr → Sto → Prop) : Option Nat → Prop
  | some d => bif decide (d < nt) then yP d fr σ c (opA te fr (onlyK kp 0 σ) o.op) else False
  | none => False
def yK (nt : Nat) (fr : Fr) (σ : Sto) (c : Fr → Sto → Prop) : Option Nat → Prop
  | some d => bif decide (d < nt) then c (put d (.tup []) fr) σ else False
  | none => c fr σ
def yG (te : TE) (nt : Nat) (e : Env) (k : List KI) (all : Array Oper) (kp : List Nat) (o : Oper) (fr : Fr) (σ : Sto) (c : Fr → Sto → Prop) : Gd → Prop
  | .skip => yK nt fr σ c o.dst
  | .go => bif isCx o.op then bif isCall o.op then YC e k all kp o fr σ c else yS kp nt fr σ c o.dst (opA te fr σ o.op) else yD te nt kp o fr σ c o.dst
  | .bad => False
def yr (te : TE) (nt : Nat) (e : Env) (k : List KI) (all : Array Oper) (kp : List Nat) (tail : List Oper) : List Oper → Fr → Sto → Prop
  | [], fr, σ => Go e (.ops all tail :: k) fr σ
  | o :: r, fr, σ => yG te nt e k all kp o fr σ (yr te nt e k all kp tail r) (gdA all.toList fr o.guard)
def Y1 (e : Env) (k : List KI) (all : Array Oper) (kp : List Nat) (o : Oper) (fr : Fr) (σ : Sto) (v : Option (Nat × AV)) : Prop :=
  ∀ fr', agreeO all o fr fr' → ∀ σ', kept σ σ' kp → ObO e k all o fr' σ' σ' v
def Y3 (e : Env) (k : List KI) (all : Array Oper) (o : Oper) (fr : Fr) (σ σ' : Sto) (v : Option (Nat × AV)) : Prop :=
  ∀ fr', agreeO all o fr fr' → ObO e k all o fr' σ σ' v
section
variable {e : Env} {k : List KI} {fr : Fr} {σ σ' : Sto} {te : TE} {nt : Nat} {all : Array Oper} {o : Oper} {kp : List Nat}
theorem yG_ok (hte : TEok e.P te) (hnt : e.nt = nt) {c : Fr → Sto → Prop} (h : yG te nt e k all kp o fr σ c (gdA all.toList fr o.guard)) :
    ∃ v, vOk nt o v ∧ ((Y1 e k all kp o fr σ v ∧ c (nxt o v fr) σ) ∨ (isCx o.op = true ∧ ∃ σ', Y3 e k all o fr σ σ' v ∧ kept σ σ' kp ∧ c (nxt o v fr) σ')) := by
  have vok : ∀ {d x}, o.dst = some d → d < nt → vOk nt o (some (d, x)) := fun hd hdn d' x' e => by
    injection e with e
    injection e with e1 e2
    subst e1
    exact ⟨hd, hdn⟩
  have got : ∀ {d ι S w} {x : AV} {u : Value}, o.dst = some d → VR ι S w x u → ∀ d' x', some (d, x) = some (d', x') → o.dst = some d' ∧ VR ι S w x' u := fun hd hv d' x' e => by
    injection e with e
    injection e with e1 e2
    subst e1 e2
    exact ⟨hd, hv⟩
  cases hg : gdA all.toList fr o.guard with
  | bad => rw [hg] at h; exact h.elim
  | skip =>
    rw [hg] at h
    have h : yK nt fr σ c o.dst := h
    unfold yK at h
    split at h
    · rename_i d hd
      cases hb : decide (d < nt)
      · rw [hb] at h; exact h.elim
      · rw [hb, cond_true] at h
        exact ⟨some (d, .tup []), vok hd (of_decide_eq_true hb), .inl ⟨fun fr' ha σ' _ => ObO.sk ((gdA_congr ha).symm.trans hg) (fun d' x e => by
          injection e with e
          injection e with e1 e2
          subst e1 e2
          exact ⟨hd, rfl⟩), h⟩⟩
    · rename_i hd
      exact ⟨none, (fun _ _ h => by cases h), .inl ⟨fun fr' ha σ' _ => ObO.sk ((gdA_congr ha).symm.trans hg) (fun _ _ h => by cases h), by unfold nxt; rw [hd]; exact h⟩⟩
  | go =>
    rw [hg] at h
    have gd : ∀ {fr'}, agreeO all o fr fr' → gdA all.toList fr' o.guard = .go := fun ha => (gdA_congr ha).symm.trans hg
    have h : bif isCx o.op then bif isCall o.op then YC e k all kp o fr σ c else yS kp nt fr σ c o.dst (opA te fr σ o.op) else yD te nt kp o fr σ c o.dst := h
    cases hc : isCx o.op
    · rw [hc, cond_false] at h
      unfold yD at h
      split at h
      · rename_i d hd
        cases hdn : decide (d < nt)
        · rw [hdn] at h; exact h.elim
        · rw [hdn, cond_true] at h
          have hdn : d < nt := by simpa using hdn
          have up : ∀ {fr' σ'}, agreeO all o fr fr' → kept σ σ' kp → (∀ x, opA te fr (onlyK kp 0 σ) o.op = .val x → opA te fr' σ' o.op = .val x) ∧ (∀ cd x, opA te fr (onlyK kp 0 σ) o.op = .need cd x → opA te fr' σ' o.op = .need cd x) := fun {fr' σ'} hag hk => by
            rw [← opA_congr o.op hag.op]
            exact opA_sub (onlyK_sub hk) hc
          unfold yP at h
          split at h
          · rename_i x hop
            refine ⟨some (d, x), vok hd hdn, .inl ⟨fun fr' hag σ' hk => ObO.of (gd hag) fun ι S a w H => ?_, h⟩⟩
            have hD := opA_ok (fr := fr') (σ := σ') hte o
            rw [(up hag hk).1 _ hop] at hD
            obtain ⟨u, h1, h2⟩ := hD ι S a w H
            exact ⟨u, w, ι, S, h1, Step.refl H.sr, got hd h2⟩
          · rename_i cd x hop
            refine ⟨some (d, x), vok hd hdn, .inl ⟨fun fr' hag σ' hk => ObO.of (gd hag) fun ι S a w H => ?_, h.2⟩⟩
            have hD := opA_ok (fr := fr') (σ := σ') hte o
            rw [(up hag hk).2 _ _ hop] at hD
            obtain ⟨u, h1, h2⟩ := hD h.1 ι S a w H
            exact ⟨u, w, ι, S, h1, Step.refl H.sr, got hd h2⟩
          · exact h.elim
      · exact h.elim
    · rw [hc, cond_true] at h
      cases hcl : isCall o.op
      · rw [hcl, cond_false] at h
        unfold yS at h
        split at h
        · rename_i cd σ' hd hop
          refine ⟨none, (fun _ _ h => by cases h), .inr ⟨rfl, σ', fun fr' hag => ?_, h.2.1, by unfold nxt; rw [hd]; exact h.2.2⟩⟩
          have hD := opA_ok (fr := fr') (σ := σ) hte o
          rw [← opA_congr o.op hag.op, hop] at hD
          exact ObO.st (gd hag) hd (hD h.1)
        · rename_i d cd σ' x hd hop
          cases hz : decide (d < nt)
          · rw [hz] at h; exact h.elim
          · rw [hz, cond_true] at h
            refine ⟨some (d, x), vok hd (of_decide_eq_true hz), .inr ⟨rfl, σ', fun fr' hag => ObO.of (gd hag) fun ι S a w H => ?_, h.2.1, h.2.2⟩⟩
            have hD := opA_ok (fr := fr') (σ := σ) hte o
            rw [← opA_congr o.op hag.op, hop] at hD
            obtain ⟨u, w', ι', h1, h2, h3⟩ := hD h.1 ι S a w H
            exact ⟨u, w', ι', S, h1, h2, got hd h3⟩
        · rename_i d cd b x hd hop
          cases hz : decide (d < nt)
          · rw [hz] at h; exact h.elim
          · rw [hz, cond_true] at h
            refine ⟨some (d, x), vok hd (of_decide_eq_true hz), .inr ⟨rfl, _, fun fr' hag => ObO.of (gd hag) fun ι S a w H => ?_, h.2.1, h.2.2⟩⟩
            have hD := opA_ok (fr := fr') (σ := σ) hte o
            rw [← opA_congr o.op hag.op, hop] at hD
            obtain ⟨u, w', ι', h1, h2, h3⟩ := hD h.1 ι S a w H
            exact ⟨u, w', ι', S, h1, h2, got hd h3⟩
        · rename_i d b x hd hop
          cases hz : decide (d < nt)
          · rw [hz] at h; exact h.elim
          · rw [hz, cond_true] at h
            refine ⟨some (d, x), vok hd (of_decide_eq_true hz), .inr ⟨rfl, _, fun fr' hag => ObO.of (gd hag) fun ι S a w H => ?_, h.1, h.2⟩⟩
            have hD := opA_ok (fr := fr') (σ := σ) hte o
            rw [← opA_congr o.op hag.op, hop] at hD
            obtain ⟨u, w', ι', h1, h2, h3⟩ := hD ι S a w H
            exact ⟨u, w', ι', S, h1, h2, got hd h3⟩
        · exact h.elim
      · rw [hcl, cond_true] at h
        obtain ⟨d, σ', x, h2, h3, h4, h5, h6⟩ := h
        exact ⟨some (d, x), vok h2 (hnt ▸ h3), .inr ⟨rfl, σ', h5, h4, h6⟩⟩
end
structure Iy (e : Env) (k : List KI) (all : Array Oper) (nt : Nat) (kp : List Nat) (σ : Sto) (Cs : List (Nat × Sto)) (n : Nat) (o : Oper) (fr fr1 : Fr) (v : Option (Nat × AV)) : Prop where
  ok : vOk nt o v
  nx : fr1 = nxt o v fr
  kind : ((∀ c ∈ Cs, c.1 ≠ n) ∧ Y1 e k all kp o fr σ v) ∨
    (isCx o.op = true ∧ ∃ l1 σ' l2, Cs = l1 ++ (n, σ') :: l2 ∧ (∀ c ∈ l1, c.1 < n) ∧ (∀ c ∈ l2, n < c.1) ∧ Y3 e k all o fr (lastS σ l1) σ' v)
section
variable {e : Env} {k : List KI} {fr : Fr} {σ σ' : Sto} {te : TE} {nt : Nat} {all : Array Oper} {o : Oper} {kp : List Nat}
theorem yr_ok (hte : TEok e.P te) (hnt : e.nt = nt) {tail : List Oper} : ∀ (l : List Oper) (i : Nat) (fr : Fr) (σ : Sto), yr te nt e k all kp tail l fr σ →
    ∃ (V : Nat → Option (Nat × AV)) (F : Nat → Fr) (Cs : List (Nat × Sto)), F i = fr ∧ Go e (.ops all tail :: k) (F (i + l.length)) (lastS σ Cs) ∧
      (∀ c ∈ Cs, i ≤ c.1 ∧ c.1 < i + l.length ∧ (∀ o, l[c.1 - i]? = some o → isCx o.op = true) ∧ kept σ c.2 kp) ∧ ∀ j o, l[j]? = some o → Iy e k all nt kp σ Cs (i + j) o (F (i + j)) (F (i + j + 1)) (V (i + j))
  | [], i, fr, σ, h => ⟨fun _ => none, fun _ => fr, [], rfl, h, (fun c hc => by cases hc), fun j o hj => by simp at hj⟩
  | o :: r, i, fr, σ, h => by
    obtain ⟨v, hv, h⟩ := yG_ok hte hnt (by exact h)
    have tech : ∀ (σ1 : Sto) (V : Nat → Option (Nat × AV)) (F : Nat → Fr) (Cs : List (Nat × Sto)) (Cs' : List (Nat × Sto)), F (i + 1) = nxt o v fr →
        (∀ j o, r[j]? = some o → Iy e k all nt kp σ1 Cs (i + 1 + j) o (F (i + 1 + j)) (F (i + 1 + j + 1)) (V (i + 1 + j))) →
        (∀ n o fr fr1 v, i < n → Iy e k all nt kp σ1 Cs n o fr fr1 v → Iy e k all nt kp σ Cs' n o fr fr1 v) →
        Iy e k all nt kp σ Cs' i o fr (nxt o v fr) v →
        ∀ j o', (o :: r)[j]? = some o' → Iy e k all nt kp σ Cs' (i + j) o' ((fun n => if n = i then fr else F n) (i + j)) ((fun n => if n = i then fr else F n) (i + j + 1)) ((fun n => if n = i then v else V n) (i + j)) := by
      intro σ1 V F Cs Cs' hF hr ht h0 j o' hj
      cases j with
      | zero =>
        simp only [List.getElem?_cons_zero, Option.some.injEq] at hj
        subst hj
        simp only [Nat.add_zero, if_true, Nat.succ_ne_self, if_false, hF]
        exact h0
      | succ j =>
        simp only [List.getElem?_cons_succ] at hj
        have := ht (i + 1 + j) o' _ _ _ (by omega) (hr j o' hj)
        have e1 : i + (j + 1) = i + 1 + j := by omega
        have n1 : ¬ (i + 1 + j = i) := by omega
        have n2 : ¬ (i + 1 + j + 1 = i) := by omega
        simp only [e1, if_neg n1, if_neg n2]
        exact this
    have lenE : ∀ (F : Nat → Fr), (fun n => if n = i then fr else F n) (i + (o :: r).length) = F (i + 1 + r.length) := fun F => by
      have : ¬ (i + (o :: r).length = i) := by simp
      simp only [if_neg this]
      congr 1
      simp
      omega
    have chs : ∀ (Cs : List (Nat × Sto)) (σ1 : Sto), kept σ σ1 kp → (∀ c ∈ Cs, i + 1 ≤ c.1 ∧ c.1 < i + 1 + r.length ∧ (∀ o, r[c.1 - (i + 1)]? = some o → isCx o.op = true) ∧ kept σ1 c.2 kp) →
        ∀ c ∈ Cs, i ≤ c.1 ∧ c.1 < i + (o :: r).length ∧ (∀ o', (o :: r)[c.1 - i]? = some o' → isCx o'.op = true) ∧ kept σ c.2 kp := fun Cs σ1 hk hC c hc => by
      obtain ⟨h1, h2, h3, h4⟩ := hC c hc
      refine ⟨by omega, by simp; omega, fun o' ho' => ?_, kept_trans hk h4⟩
      obtain ⟨m, hm⟩ : ∃ m, c.1 - i = m + 1 := ⟨c.1 - i - 1, by omega⟩
      rw [hm, List.getElem?_cons_succ] at ho'
      have : c.1 - (i + 1) = m := by omega
      exact h3 o' (by rw [this]; exact ho')
    rcases h with ⟨h2, h3⟩ | ⟨h2, σ', h3, h4, h5⟩
    · obtain ⟨V, F, Cs, hF, hg, hC, hr⟩ := yr_ok hte hnt r (i + 1) _ _ h3
      refine ⟨fun n => if n = i then v else V n, fun n => if n = i then fr else F n, Cs, by simp, by rw [lenE]; exact hg, chs Cs σ (kept_refl kp) hC, tech σ V F Cs Cs hF hr (fun _ _ _ _ _ _ h => h) ⟨hv, rfl, .inl ⟨fun c hc => ?_, h2⟩⟩⟩
      have := (hC c hc).1
      omega
    · obtain ⟨V, F, Cs, hF, hg, hC, hr⟩ := yr_ok hte hnt r (i + 1) _ _ h5
      refine ⟨fun n => if n = i then v else V n, fun n => if n = i then fr else F n, (i, σ') :: Cs, by simp, by rw [lenE]; exact hg, fun c hc => ?_, tech σ' V F Cs _ hF hr (fun n o' fr' fr1 v' hn h => ⟨h.ok, h.nx, ?_⟩) ⟨hv, rfl, .inr ⟨h2, [], σ', Cs, rfl, (fun c hc => by cases hc), fun c hc => ?_, h3⟩⟩⟩
      · rcases List.mem_cons.1 hc with rfl | hc
        · exact ⟨Nat.le_refl _, by simp, (fun o' ho' => by simp at ho'; rw [← ho']; exact h2), h4⟩
        · exact chs Cs σ' h4 hC c hc
      · rcases h.kind with ⟨e2, e3⟩ | ⟨e2, l1, σ2, l2, e4, e5, e6, e7⟩
        · refine .inl ⟨fun c hc => ?_, fun fr'' hag σ'' hk => e3 fr'' hag σ'' ?_⟩
          · rcases List.mem_cons.1 hc with rfl | hc
            · exact Nat.ne_of_lt hn
            · exact e2 c hc
          · have key : ∀ {kp' : List Nat}, kept σ σ' kp' → kept σ σ'' kp' → kept σ' σ'' kp' := by
              intro kp'
              induction kp' with
              | nil => intro _ _; trivial
              | cons n r ih => exact fun a b => ⟨b.1.trans a.1.symm, ih a.2 b.2⟩
            exact key h4 hk
        · refine .inr ⟨e2, (i, σ') :: l1, σ2, l2, by rw [e4]; rfl, fun c hc => ?_, e6, e7⟩
          rcases List.mem_cons.1 hc with rfl | hc
          · exact hn
          · exact e5 c hc
      · exact Nat.lt_of_lt_of_le (Nat.lt_succ_self i) (hC c hc).1
def rdOx (l : List Oper) (ops : Array Oper) (m : Nat) (B : List (List Nat)) (i : Nat) : Bool := match nth l i, nth B i with
  | some o, some b => (o.looksAt ops).all (fun t => (List.range m).all fun j => match nth l j with
      | some q => (match q.dst with | some d => !(d == t) | none => true) || (b.elem j && Nat.blt j i)
      | none => true) &&
    (!isCx o.op || (List.range i).all (fun j => match nth l j with
      | some q => !isCx q.op || b.elem j
      | none => true))
  | _, _ => false
def zOx (m : Nat) (ops : Array Oper) : Bool :=
  Nat.ble m ops.toList.length && backOk 0 ops.toList && nodupB (dsts (ops.toList.take m)) && tailB (m + 1) (ops.toList.drop (m + 1)) && gateB m (nth (befs [] ops.toList) m) && (List.range m).all (rdOx ops.toList ops m (befs [] ops.toList))
/-- A region whose order is open: operations that look at blocks which stay (kp), and a chain. -/
theorem Go.openX {id : Nat} {ops : Array Oper} (m : Nat) (kp : List Nat) (hte : TEok e.P te) (hnt : e.nt = nt) (hm : e.P.follows .mixedOrders = true) (hs : zOx m ops = true)
    (h : yr te nt e k ops kp (ops.toList.drop m) (ops.toList.take m) fr σ) : Go e (.code (.region id ops true) :: k) fr σ := by
  intro ι S a w H
  have ho := H.one
  simp only [zOx, Bool.and_eq_true] at hs
  obtain ⟨⟨⟨⟨⟨hmsz, hback⟩, huniq⟩, htail⟩, hgate⟩, hrd⟩ := hs
  have hmsz : m ≤ ops.size := by simpa using hmsz
  have bk : ∀ (i : Nat) (o : Oper), ops[i]? = some o → ∀ ed ∈ o.after, Region.binds .any ed = true → ed.on < i := fun i o ho ed he hb => by
    have := backOk_at hback (n := i) (o := o) (by simpa using ho) ed he hb
    omega
  have ht : Tails ops m := fun i o hi ho => by
    obtain ⟨ed, h1, h2, h3⟩ := tailB_ok htail (i := i - (m + 1)) (o := o) (by
      rw [List.getElem?_drop, show m + 1 + (i - (m + 1)) = i by omega]
      simpa using ho)
    exact ⟨ed, h1, h2, by omega⟩
  have hbf : ∀ {D : Nat → Bool}, Closed ops D → ∀ (n : Nat) (b : List Nat), (befs [] ops.toList)[n]? = some b → ∀ o, ops[n]? = some o → (∀ ed ∈ o.after, Region.binds .any ed = true → D ed.on = true) → ∀ j ∈ b, D j = true := fun hD n b hn =>
    befs_ok hD ops.toList [] (fun n b hn => by simp at hn) (fun n o ho => by simpa using ho) n b hn
  have hblen : ∀ (l : List Oper) (acc : List (List Nat)), (befs acc l).length = acc.length + l.length := by
    intro l
    induction l with
    | nil => intro acc; simp [befs]
    | cons o r ih => intro acc; simp only [befs]; rw [ih]; simp; omega
  have tk : ∀ {i : Nat} {o : Oper}, i < m → ops[i]? = some o → (ops.toList.take m)[i]? = some o := fun hi ho => by
    rw [List.getElem?_take_of_lt hi]
    simpa using ho
  have uq : ∀ (i j : Nat) (o o' : Oper) (d : Nat), i < m → j < m → ops[i]? = some o → ops[j]? = some o' → o.dst = some d → o'.dst = some d → i = j := fun i j o o' d hi hj h1 h2 h3 h4 =>
    dsts_uniq (nodupB_ok huniq) (tk hi h1) (tk hj h2) h3 h4
  obtain ⟨V, F, Cs, hF0, hgo, hC, hI⟩ := yr_ok hte hnt _ 0 fr σ h
  have hlen : (ops.toList.take m).length = m := by simp; omega
  rw [hlen, Nat.zero_add] at hgo
  have item : ∀ {i : Nat} {o : Oper}, i < m → ops[i]? = some o → Iy e k ops nt kp σ Cs i o (F i) (F (i + 1)) (V i) := fun {i o} hi ho => by
    have := hI i o (tk hi ho)
    simpa using this
  have hCs : ∀ c ∈ Cs, c.1 < m ∧ ∃ o, ops[c.1]? = some o ∧ isCx o.op = true := fun c hc => by
    obtain ⟨_, h2, h3, _⟩ := hC c hc
    rw [hlen, Nat.zero_add] at h2
    have h4 : ops[c.1]? = some ops[c.1] := Array.getElem?_eq_getElem (by omega)
    exact ⟨h2, _, h4, h3 _ (by simpa using tk h2 h4)⟩
  have rd : ∀ {i : Nat} {o : Oper}, i < m → ops[i]? = some o → ∃ b, (befs [] ops.toList)[i]? = some b ∧ (∀ t ∈ o.looksAt ops, ∀ j q, j < m → ops[j]? = some q → q.dst = some t → j ∈ b ∧ j < i) ∧ (isCx o.op = true → ∀ j q, j < i → ops[j]? = some q → isCx q.op = true → j ∈ b) := fun {i o} hi ho => by
    have h1 := List.all_eq_true.1 hrd i (by simpa using hi)
    unfold rdOx at h1
    have h2 : nth ops.toList i = some o := by rw [nth_eq]; simpa using ho
    rw [h2] at h1
    cases hb : nth (befs [] ops.toList) i with
    | none => rw [hb] at h1; cases h1
    | some b =>
      rw [hb] at h1
      simp only [Bool.and_eq_true] at h1
      refine ⟨b, by rw [← nth_eq]; exact hb, fun t ht j q hj hq hd => ?_, fun hc j q hj hq hcq => ?_⟩
      · have h3 := List.all_eq_true.1 (List.all_eq_true.1 h1.1 t ht) j (by simpa using hj)
        have h4 : nth ops.toList j = some q := by rw [nth_eq]; simpa using hq
        rw [h4] at h3
        simp only [hd, beq_self_eq_true, Bool.not_true, Bool.false_or, Bool.and_eq_true] at h3
        exact ⟨elem_ok h3.1, by simpa using h3.2⟩
      · have h3 := h1.2
        rw [hc] at h3
        simp only [Bool.not_true, Bool.false_or] at h3
        have h5 := List.all_eq_true.1 h3 j (by simpa using hj)
        have h4 : nth ops.toList j = some q := by rw [nth_eq]; simpa using hq
        rw [h4] at h5
        simp only [hcq, Bool.not_true, Bool.false_or] at h5
        exact elem_ok h5
  -- the frames along the way
  have hFonce : ∀ n, n ≤ m → once (F n) := by
    intro n
    induction n with
    | zero => intro _; rw [hF0]; exact ho
    | succ n ih =>
      intro hn
      have I := item (i := n) (by omega) (Array.getElem?_eq_getElem (by omega))
      rw [I.nx]
      unfold nxt
      split
      · exact put_once (ih (by omega))
      · exact del_once (ih (by omega))
      · exact ih (by omega)
  have hFmem : ∀ n, n ≤ m → ∀ t x, (t, x) ∈ F n → (∃ j, j < n ∧ V j = some (t, x)) ∨ ((t, x) ∈ fr ∧ ∀ j o, j < n → ops[j]? = some o → o.dst ≠ some t) := by
    intro n
    induction n with
    | zero => intro _ t x hx; rw [hF0] at hx; exact .inr ⟨hx, fun j o hj => by omega⟩
    | succ n ih =>
      intro hn t x hx
      have hon : ops[n]? = some ops[n] := Array.getElem?_eq_getElem (by omega)
      have I := item (i := n) (by omega) hon
      have ext : ((t, x) ∈ F n ∧ ops[n].dst ≠ some t) → (∃ j, j < n + 1 ∧ V j = some (t, x)) ∨ ((t, x) ∈ fr ∧ ∀ j o, j < n + 1 → ops[j]? = some o → o.dst ≠ some t) := fun ⟨h1, h2⟩ => by
        rcases ih (by omega) t x h1 with ⟨j, hj, hv⟩ | ⟨h3, h4⟩
        · exact .inl ⟨j, by omega, hv⟩
        · refine .inr ⟨h3, fun j o hj ho => ?_⟩
          rcases Nat.lt_or_ge j n with h5 | h5
          · exact h4 j o h5 ho
          · have : j = n := by omega
            subst this
            rw [hon] at ho
            injection ho with ho
            rw [← ho]
            exact h2
      rw [I.nx] at hx
      unfold nxt at hx
      split at hx
      · rename_i d y hv
        rcases mem_put (hFonce n (by omega)) hx with ⟨rfl, rfl⟩ | ⟨h1, h2⟩
        · exact .inl ⟨n, by omega, hv⟩
        · refine ext ⟨h2, fun hd => h1 ?_⟩
          have := (I.ok _ _ hv).1
          rw [hd] at this
          injection this
      · rename_i d hv hd
        obtain ⟨h1, h2⟩ := mem_del hx
        refine ext ⟨h1, fun hd' => h2 ?_⟩
        rw [hd] at hd'
        injection hd' with hd'
        exact hd'.symm
      · rename_i hv hd
        exact ext ⟨hx, fun hd' => by rw [hd] at hd'; cases hd'⟩
  let isD : Nat → Nat → Bool := fun t j => match ops[j]? with
    | some q => match q.dst with | some d => d == t | none => false
    | none => false
  have isD_ok : ∀ {t j : Nat} {q : Oper}, ops[j]? = some q → (isD t j = true ↔ q.dst = some t) := fun {t j q} hq => by
    simp only [isD, hq]
    cases q.dst <;> simp
  let frB : Fr := fr.filter fun p => (List.range m).all fun j => !isD p.1 j
  let T : (Nat → Bool) → Sto := fun D => pickS D σ Cs
  refine Go.openZ (m := m) (T := T) (V := V) (frB := frB) (σ := σ) hm hmsz bk ht (fun o D ho hcl hdep i hi => ?_) uq ?_ (fun t x hx => ?_) (fun i d x hi hv => ?_) (fun i d x hi hv => ?_) (fun D i o hi ho hDi hcl hout hdep => ?_) (fun D hall hout ι S a w Z => ?_) ι S a w H
  · have h1 : (befs [] ops.toList)[m]? = some ((befs [] ops.toList)[m]'(by rw [hblen]; simp; exact (Array.getElem?_eq_some_iff.1 ho).1)) := List.getElem?_eq_getElem _
    have h2 : nth (befs [] ops.toList) m = _ := (nth_eq _ _).trans h1
    rw [h2] at hgate
    have h3 := List.all_eq_true.1 hgate i (by simpa using hi)
    exact hbf hcl m _ h1 o ho hdep i (elem_ok h3)
  · exact pick_none fun _ _ => rfl
  · simp only [frB, List.mem_filter] at hx
    refine ⟨hx.1, fun j o hj ho hd => ?_⟩
    have h1 := List.all_eq_true.1 hx.2 j (by simpa using hj)
    rw [(isD_ok ho).2 hd] at h1
    cases h1
  · have hon : ops[i]? = some ops[i] := Array.getElem?_eq_getElem (by omega)
    exact ⟨_, hon, ((item hi hon).ok _ _ hv).1⟩
  · have hon : ops[i]? = some ops[i] := Array.getElem?_eq_getElem (by omega)
    rw [hnt]
    exact ((item hi hon).ok _ _ hv).2
  · -- one operation
    obtain ⟨b, hb, hlook, hchn⟩ := rd hi ho
    have hbD : ∀ j ∈ b, D j = true := hbf hcl i b hb o ho hdep
    have I := item hi ho
    let av : Nat → Bool := fun t => (List.range m).all fun j => !isD t j || (D j && Nat.blt j i)
    have av_ok : ∀ {t : Nat}, av t = true → ∀ j q, j < m → ops[j]? = some q → q.dst = some t → D j = true ∧ j < i := fun {t} hav j q hj hq hd => by
      have h1 := List.all_eq_true.1 hav j (by simpa using hj)
      rw [(isD_ok hq).2 hd] at h1
      simpa using h1
    have hag : agreeO ops o (F i) ((F i).filter fun p => av p.1) := fun t ht => by
      symm
      refine get_filter (List.all_eq_true.2 fun j hj => ?_)
      have hj : j < m := by simpa using hj
      have hq : ops[j]? = some ops[j] := Array.getElem?_eq_getElem (by omega)
      cases hd : isD t j with
      | false => rfl
      | true =>
        obtain ⟨h1, h2⟩ := hlook t ht j _ hj hq ((isD_ok hq).1 hd)
        simp [hbD j h1, h2]
    refine ⟨(F i).filter fun p => av p.1, once_filter (hFonce i (by omega)), fun t x hx => ?_, ?_⟩
    · obtain ⟨h1, h2⟩ := List.mem_filter.1 hx
      rcases hFmem i (by omega) t x h1 with ⟨j, hj, hv⟩ | ⟨h3, h4⟩
      · have hq : ops[j]? = some ops[j] := Array.getElem?_eq_getElem (by omega)
        have hd := ((item (i := j) (by omega) hq).ok _ _ hv).1
        exact .inr ⟨j, by omega, (av_ok h2 j _ (by omega) hq hd).1, hv⟩
      · refine .inl (List.mem_filter.2 ⟨h3, List.all_eq_true.2 fun j hj => ?_⟩)
        have hj : j < m := by simpa using hj
        have hq : ops[j]? = some ops[j] := Array.getElem?_eq_getElem (by omega)
        cases hd : isD t j with
        | false => rfl
        | true =>
          obtain ⟨h5, h6⟩ := av_ok h2 j _ hj hq ((isD_ok hq).1 hd)
          exact absurd ((isD_ok hq).1 hd) (h4 j _ h6 hq)
    · have fin : ObO e k ops o ((F i).filter fun p => av p.1) (T D) (T (setD D i)) (V i) → Ob e k ops ((F i).filter fun p => av p.1) T V i o D := fun hO ι S a w hSim K hK => by
        unfold wpOp
        rw [ho]
        exact hO ι S a w hSim K hK
      have stay : (∀ c ∈ Cs, c.1 ≠ i) → pickS (setD D i) σ Cs = pickS D σ Cs := fun hne => pick_congr fun c hc => by
        have : (c.1 == i) = false := by simpa using hne c hc
        simp [setD, this]
      rcases I.kind with ⟨h2, h3⟩ | ⟨h2, l1, σ', l2, h4, h5, h6, h7⟩
      · refine fin ?_
        have e1 : T (setD D i) = T D := stay h2
        rw [e1]
        exact h3 _ hag _ (pick_mem (Q := fun s => kept σ s kp) (kept_refl kp) fun c hc => (hC c hc).2.2.2)
      · refine fin ?_
        have hl1 : ∀ c ∈ l1, D c.1 = true := fun c hc => by
          obtain ⟨_, q, hq, hcq⟩ := hCs c (by rw [h4]; exact List.mem_append_left _ hc)
          exact hbD _ (hchn h2 c.1 q (h5 c hc) hq hcq)
        have hl2 : ∀ c ∈ l2, D c.1 = false := fun c hc => by
          obtain ⟨hcm, q, hq, hcq⟩ := hCs c (by rw [h4]; exact List.mem_append_right _ (List.mem_cons_of_mem _ hc))
          cases hDc : D c.1 with
          | false => rfl
          | true =>
            obtain ⟨b', hb', _, hch'⟩ := rd hcm hq
            have := hbf hcl c.1 b' hb' q hq (fun ed he hbd => hcl c.1 q hDc hq ed he hbd) i (hch' hcq i o (h6 c hc) ho h2)
            rw [hDi] at this
            cases this
        have e0 : T D = lastS σ l1 := by
          simp only [T]
          rw [h4, pick_pre hl1]
          simp only [pickS, hDi, cond_false]
        have e1 : T (setD D i) = σ' := by
          simp only [T]
          rw [h4, pick_pre (fun c hc => by simp [setD, hl1 c hc])]
          simp only [pickS, setD, beq_self_eq_true, Bool.true_or, cond_true]
          rw [pick_none]
          intro c hc
          have : (c.1 == i) = false := by
            have := h6 c hc
            rw [beq_eq_false_iff_ne]
            omega
          show (c.1 == i || D c.1) = false
          rw [this, hl2 c hc]
          rfl
        rw [e0, e1]
        exact h7 _ hag
  · have eT : T D = lastS σ Cs := by
      have := pick_pre (D := D) (l2 := []) (l1 := Cs) (σ := σ) fun c hc => hall c.1 (hCs c hc).1
      simpa [pickS] using this
    rw [← eT] at hgo
    refine hgo ι S a w ⟨Z.defers, Z.size, hFonce m (Nat.le_refl _), fun t x hx => ?_, Z.sr, Z.ext⟩
    rcases hFmem m (Nat.le_refl _) t x hx with ⟨j, hj, hv⟩ | ⟨h3, h4⟩
    · exact Z.new j t x hj (hall j hj) hv
    · refine Z.old t x (List.mem_filter.2 ⟨h3, List.all_eq_true.2 fun j hj => ?_⟩)
      have hj : j < m := by simpa using hj
      have hq : ops[j]? = some ops[j] := Array.getElem?_eq_getElem (by omega)
      cases hd : isD t j with
      | false => rfl
      | true => exact absurd ((isD_ok hq).1 hd) (h4 j _ hj hq)
theorem YC.call0 {P : Program} {c : Fr → Sto → Prop} {n : Nat} {xs args : List AV} {σo : Sto} {x : AV} (hP : e.P = P) (C : AC P n args [] x σo) (hop : calleeA fr o.op = some (n, xs)) (hg : gdA all.toList fr o.guard = .go) {d : Nat} (hd : o.dst = some d) (hdn : d < e.nt)
    (hx : xs = AV.renL (rho [] σ.length) args) (hk : kept σ (σ ++ σo.map (En.ren (rho [] σ.length))) kp) (h : c (put d (x.ren (rho [] σ.length)) fr) (σ ++ σo.map (En.ren (rho [] σ.length)))) : YC e k all kp o fr σ c := by
  subst hP
  refine ⟨d, _, _, hd, hdn, hk, fun fr' hag => ?_, h⟩
  intro ι S a w H K hK
  have hwant : Region.wanted o (yielded all a.tmps) = true := wanted_of H (b := true) (by rw [← gdA_congr hag, hg])
  rw [if_pos hwant]
  obtain ⟨us, h1, h2⟩ := callee_run ((calleeA_congr o.op hag.op).symm.trans hop) C.1 H
  left
  unfold Oper.wp
  rw [h1, Oper.upon_enter]
  refine (C.use [] (Lend.nil _ _) H.sr (hx ▸ h2)).mono ?_
  rintro en w' ⟨u, ι', S', rfl, h3, h4⟩
  refine hK u w' ι' S' h4 fun d' x' ee => ?_
  injection ee with ee
  injection ee with e1 e2
  subst e1 e2
  exact ⟨hd, h3⟩
end
section
variable {te : TE} {nt : Nat} {e : Env} {k : List KI} {all : Array Oper} {kp : List Nat} {tail : List Oper} {o : Oper} {r : List Oper} {fr : Fr} {σ : Sto} {c : Fr → Sto → Prop}
theorem q_yr0 : yr te nt e k all kp tail [] fr σ = Go e (.ops all tail :: k) fr σ := rfl
theorem q_yr1 : yr te nt e k all kp tail (o :: r) fr σ = yG te nt e k all kp o fr σ (yr te nt e k all kp tail r) (gdA all.toList fr o.guard) := rfl
theorem q_ygs : yG te nt e k all kp o fr σ c .skip = yK nt fr σ c o.dst := rfl
theorem q_ygg : yG te nt e k all kp o fr σ c .go = bif isCx o.op then bif isCall o.op then YC e k all kp o fr σ c else yS kp nt fr σ c o.dst (opA te fr σ o.op) else yD te nt kp o fr σ c o.dst := rfl
theorem q_yk1 (d : Nat) : yK nt fr σ c (some d) = bif decide (d < nt) then c (put d (.tup []) fr) σ else False := rfl
theorem q_yk2 : yK nt fr σ c none = c fr σ := rfl
theorem q_yd (d : Nat) : yD te nt kp o fr σ c (some d) = bif decide (d < nt) then yP d fr σ c (opA te fr (onlyK kp 0 σ) o.op) else False := rfl
theorem q_yp1 (d : Nat) (x : AV) : yP d fr σ c (.val x) = c (put d x fr) σ := rfl
theorem q_yp2 (d : Nat) (x : AV) (cd : Prop) : yP d fr σ c (.need cd x) = (cd ∧ c (put d x fr) σ) := rfl
theorem q_ys1 (cd : Prop) (σ' : Sto) : yS kp nt fr σ c none (.sto cd σ') = (cd ∧ kept σ σ' kp ∧ c fr σ') := rfl
theorem q_ys2 (d : Nat) (cd : Prop) (σ' : Sto) (x : AV) : yS kp nt fr σ c (some d) (.sv cd σ' x) = bif decide (d < nt) then cd ∧ kept σ σ' kp ∧ c (put d x fr) σ' else False := rfl
theorem q_ys3 (d : Nat) (cd : Prop) (b : Blk) (x : AV) : yS kp nt fr σ c (some d) (.newc cd b x) = bif decide (d < nt) then cd ∧ kept σ (σ ++ [.live b]) kp ∧ c (put d x fr) (σ ++ [.live b]) else False := rfl
theorem q_ys4 (d : Nat) (b : Blk) (x : AV) : yS kp nt fr σ c (some d) (.new b x) = bif decide (d < nt) then kept σ (σ ++ [.live b]) kp ∧ c (put d x fr) (σ ++ [.live b]) else False := rfl
theorem q_cx07 (t n : Nat) (p : Array (Nat × Operand)) : isCx (.buildSlice t n p) = true := rfl
theorem q_cx01 (x : Operand) : isCx (.move x) = false := rfl
theorem q_cx02 (x : Operand) : isCx (.assign x) = false := rfl
theorem q_cx03 (a b c : Operand) : isCx (.pick a b c) = false := rfl
theorem q_cx06 (t : Nat) (p : Array (Nat × Operand)) : isCx (.build t p) = false := rfl
theorem q_cx08 (t : Nat) (x : Operand) : isCx (.load t x) = false := rfl
theorem q_cx09 (t : Nat) (x y : Operand) : isCx (.store t x y) = true := rfl
theorem q_cx10 (op : BinOp) (t : Nat) (x y : Operand) (z : Nat) : isCx (.binOp op t x y z) = false := rfl
theorem q_cx11 (op : UnOp) (t : Nat) (x : Operand) : isCx (.unOp op t x) = false := rfl
theorem q_cx12 (s t : Nat) (x : Operand) : isCx (.convert s t x) = false := rfl
theorem q_cx13 (t : Nat) (x : Operand) (f : Nat) : isCx (.fieldAddr t x f) = false := rfl
theorem q_cx14 (t : Nat) (x y : Operand) : isCx (.indexAddr t x y) = false := rfl
theorem q_cx15 (x : Operand) (n : Nat) : isCx (.extract x n) = false := rfl
theorem q_cx16 (x : Operand) : isCx (.nilCheck x) = false := rfl
theorem q_cx17 (t : Nat) (x : Operand) (l h m : Option Operand) : isCx (.slice t x l h m) = false := rfl
theorem q_cx18 (t : Nat) (x y : Operand) : isCx (.makeSlice t x y) = true := rfl
theorem q_cx20 (a : Array Operand) (t : Array TypeId) : isCx (.call ⟨.builtin .append, a, t⟩) = true := rfl
theorem q_cx21 (a : Array Operand) (t : Array TypeId) : isCx (.call ⟨.builtin .len, a, t⟩) = false := rfl
theorem q_cx22 (f : Operand) (a : Array Operand) (t : Array TypeId) : isCx (.call ⟨.value f, a, t⟩) = true := rfl
end
end Go.Proofs.Ytbblhgldfcodfaa.Ab
