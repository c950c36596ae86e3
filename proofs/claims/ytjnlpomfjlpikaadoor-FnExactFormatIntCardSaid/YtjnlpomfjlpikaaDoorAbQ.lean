/- Contracts of the given program's functions and of the reference's (walks). -/
import Derived.WideLaws
import Derived.Test.YtjnlpomfjlpikaaDoorAbA
import Derived.Test.YtjnlpomfjlpikaaDoorAbB
import Derived.Test.YtjnlpomfjlpikaaDoorAbP
import Derived.Test.YtjnlpomfjlpikaaDoorAbR
set_option linter.unusedVariables false
set_option linter.unusedSimpArgs false
namespace Go.Proofs.YtjnlpomfjlpikaaDoor.Ab
open Go
/-! ### Contracts that ask something of the world (what a package's table holds) -/
def Stays (Φ : World → Prop) : Prop := ∀ w w' : World, (∀ k, k < w.heap.size → w'.heap[k]? = w.heap[k]?) → w.heap.size ≤ w'.heap.size → Φ w → Φ w'
def ACw (Φ : World → Prop) (P : Program) (f : FuncId) (args : List AV) (r : AV) : Prop :=
  Callable P f ∧ ∀ ι S w us, Φ w → SR ι S [] w → VRe ι S w args us → Calls P f us.toArray w fun o w' => ∃ u ι' S', o = .returned u ∧ VR ι' S' w' r u ∧ SR ι' S' [] w' ∧ Ext [] ι S w [] ι' S' w'
theorem AC.toW {Φ : World → Prop} {P : Program} {f : FuncId} {args : List AV} {r : AV} (h : AC P f args [] r []) : ACw Φ P f args r := ⟨h.1, fun ι S w us _ => h.2 ι S w us⟩
theorem ACw.intro {Φ : World → Prop} {P : Program} {f : FuncId} {fn : Func} {c : Code} {args : List AV} {r : AV} (nt : Nat) (hf : P.funcs[f]? = some fn) (hb : fn.body = some c) (hm : (fn.name == "runtime.NumGoroutine") = false)
    (hn : fn.ntmps = nt) (hl : args.length ≤ nt)
    (h : ∀ e : Env, e.P = P → e.fn = fn → e.nt = nt → e.σ0 = [] → Φ e.w0 → Ends e r [] → Go e [.code c] (args0 0 args) []) : ACw Φ P f args r := by
  refine ⟨⟨fn, hf, by rw [hb]; rfl, hm⟩, fun ι S w us hΦ hs ha => ?_⟩
  have hlen := VRe.len ha
  refine calls_of_wp hf hb ?_
  have key := h ⟨P, fn, nt, [], ι, S, w, fun o w' => ∃ u ι' S', o = .returned u ∧ VR ι' S' w' r u ∧ SR ι' S' [] w' ∧ Ext [] ι S w [] ι' S' w'⟩ rfl rfl rfl rfl hΦ
    (fun u ι' S' w' h1 h2 h3 => ⟨u, ι', S', rfl, h1, h2, h3⟩) ι S { tmps := us.toArray ++ Array.replicate (fn.ntmps - us.toArray.size) undef, defers := [] } w
    ⟨rfl, by simp [hn, hlen]; omega, args0_once _ _, fun d x hx => by
      obtain ⟨u, h1, h2⟩ := args0_get ha hx
      refine ⟨u, ?_, h2⟩
      have hd : d < us.length := (List.getElem?_eq_some_iff.1 h1).1
      simp only [Nat.sub_zero] at h1
      rw [Array.getElem?_append_left (by simpa using hd)]
      simpa using h1, hs, Ext.refl⟩
  exact wp_mono key (fun x a w hq => hq)
section
theorem AC.useAt {P : Program} {f : FuncId} {args : List AV} {σi σo σ : Sto} {R : AV → Prop} {w : World} (h : ∀ ι S us, SR ι S σi w → VRe ι S w args us → Calls P f us.toArray w fun o w' => ∃ r u ι' S', R r ∧ o = .returned u ∧ VR ι' S' w' r u ∧ SR ι' S' σo w' ∧ Ext σi ι S w σo ι' S' w') (L : List Nat) (hL : Lend L σi σo σ) {ι : Nat → Option Nat} {S : Nat → Prop} {us : List Value}
    (H : SR ι S σ w) (ha : VRe ι S w (AV.renL (rho L σ.length) args) us) :
    Calls P f us.toArray w fun o w' => ∃ r u ι' S', R r ∧ o = .returned u ∧ VR ι' S' w' (r.ren (rho L σ.length)) u ∧ Step σ ι S w (wb (rho L σ.length) L σo σ) ι' S' w' := by
  obtain ⟨hd, hl, hlo, hb⟩ := hL
  have hin : ∀ n, n < L.length → L[n]? = some (rho L σ.length n) := fun n hn => rho_lt L σ.length n hn
  have hlt : ∀ m ∈ L, m < σ.length := fun m hm => by
    obtain ⟨n, hn, rfl⟩ := List.mem_iff_getElem.1 hm
    obtain ⟨⟨b, _, h2⟩, _⟩ := hb n hn
    have e := hin n hn
    rw [List.getElem?_eq_getElem hn] at e
    injection e with e
    rw [e]
    exact (List.getElem?_eq_some_iff.1 h2).1
  have hren : SR (fun n => ι (rho L σ.length n)) S σi w := by
    refine H.ren _ (fun n b hn => ?_) (fun n m b b' hn hm he => ?_) (fun n hn => ?_)
    · have hl' : n < L.length := by rw [hl]; exact (List.getElem?_eq_some_iff.1 hn).1
      obtain ⟨⟨b', h1, h2⟩, _⟩ := hb n hl'
      rw [hn] at h1
      injection h1 with h1
      injection h1 with h1
      subst h1
      exact h2
    · have l1 : n < L.length := by rw [hl]; exact (List.getElem?_eq_some_iff.1 hn).1
      have l2 : m < L.length := by rw [hl]; exact (List.getElem?_eq_some_iff.1 hm).1
      have e1 := hin n l1
      rw [he, ← hin m l2] at e1
      exact (List.getElem?_inj l1 hd).1 e1
    · by_cases hl' : n < L.length
      · obtain ⟨⟨b', h1, _⟩, _⟩ := hb n hl'
        rw [h1] at hn
        rcases hn with hn | hn <;> cases hn
      · have := rho_ge L σ.length n (by omega)
        exact .inl (List.getElem?_eq_none_iff.2 this)
  have hnf : ∀ n, σi[n]? ≠ some En.fresh := fun n hn => by
    have hl' : n < L.length := by rw [hl]; exact (List.getElem?_eq_some_iff.1 hn).1
    obtain ⟨⟨b', h1, _⟩, _⟩ := hb n hl'
    rw [h1] at hn
    cases hn
  refine (h _ S us hren ((VRe.ren _ _ _).1 ha)).mono ?_
  rintro o w' ⟨r, u, ι', S', hR, ho, hu, hs, hx⟩
  -- the caller's names
  have hpar : ∀ n, n < L.length → ι' n = ι (rho L σ.length n) := fun n hn => by
    obtain ⟨_, b, h1⟩ := hb n hn
    rcases (hx.par n (by omega)).2 b h1 with h2 | h2
    · exact absurd h2 (hnf n)
    · exact h2.1
  let ι2 : Nat → Option Nat := fun m => if m < σ.length then ι m else ι' (L.length + (m - σ.length))
  have h2 : (fun n => ι2 (rho L σ.length n)) = ι' := by
    funext n
    by_cases hn : n < L.length
    · have e := hin n hn
      have hm := hlt _ (List.mem_of_getElem? e)
      show (if _ then _ else _) = _
      rw [if_pos hm, hpar n hn]
    · have e := rho_eq L σ.length n (by omega)
      show (if _ then _ else _) = _
      rw [e, if_neg (by omega)]
      congr 1
      omega
  have hnam : ∀ n g, ι n = some g → ι2 n = some g := fun n g hg => by
    have : n < σ.length := by
      rcases Nat.lt_or_ge n σ.length with h | h
      · exact h
      · rw [H.top n (.inl (List.getElem?_eq_none_iff.2 h))] at hg
        cases hg
    show (if _ then _ else _) = _
    rw [if_pos this]
    exact hg
  have how : ∀ k, Ow (fun n => ι (rho L σ.length n)) σi k → ∃ n, n < L.length ∧ ι (rho L σ.length n) = some k := fun k ⟨n, b, h1, h2⟩ =>
    ⟨n, by rw [hl]; exact (List.getElem?_eq_some_iff.1 h1).1, h2⟩
  have how2 : ∀ k, Ow (fun n => ι (rho L σ.length n)) σi k → Ow ι σ k := fun k hk => by
    obtain ⟨n, hn, h1⟩ := how k hk
    obtain ⟨⟨b, _, h2⟩, _⟩ := hb n hn
    exact ⟨_, _, h2, h1⟩
  have hkeep : ∀ k, k < w.heap.size → ¬ Ow ι σ k → w'.heap[k]? = w.heap[k]? := fun k hk hn => hx.keep k hk (fun h => hn (how2 k h))
  have M : Mov ι ι2 S S' w w' := ⟨hnam, hx.sub, fun k hk => hkeep k (H.imm k hk) (H.ow_not hk), hx.siz⟩
  -- what lives behind the call
  have cases_ : ∀ m b, (wb (rho L σ.length) L σo σ)[m]? = some (.live b) →
      (∃ n c, m = rho L σ.length n ∧ σo[n]? = some (.live c) ∧ b = c.ren (rho L σ.length)) ∨ (m < σ.length ∧ m ∉ L ∧ σ[m]? = some (.live b)) := fun m b hm => by
    by_cases hmL : m ∈ L
    · obtain ⟨n, hn, rfl⟩ := List.mem_iff_getElem.1 hmL
      obtain ⟨_, c, hc⟩ := hb n hn
      have e := hin n hn
      rw [wb_in hd hlo hlt (List.getElem?_eq_getElem hn) hc] at hm
      injection hm with hm
      injection hm with hm
      rw [List.getElem?_eq_getElem hn] at e
      injection e with e
      exact .inl ⟨n, c, e, hc, hm.symm⟩
    · by_cases hlt' : m < σ.length
      · rw [wb_far hlt' hmL] at hm
        exact .inr ⟨hlt', hmL, hm⟩
      · obtain ⟨j, rfl⟩ : ∃ j, m = σ.length + j := ⟨m - σ.length, by omega⟩
        rw [wb_new j hlo] at hm
        cases hc : σo[L.length + j]? with
        | none => rw [hc] at hm; cases hm
        | some x =>
          rw [hc] at hm
          cases x with
          | live c =>
            injection hm with hm
            injection hm with hm
            refine .inl ⟨L.length + j, c, ?_, hc, hm.symm⟩
            rw [rho_eq L σ.length _ (by omega)]
            omega
          | dead => cases hm
          | fresh => cases hm
  have nofar : ∀ m b k n c, m < σ.length → m ∉ L → σ[m]? = some (.live b) → ι m = some k → σo[n]? = some (.live c) → ι' n = some k → False := fun m b k n c h1 h2 h3 h4 h5 h6 => by
    have hk := H.lt ⟨m, b, h3, h4⟩
    rcases hx.new k ⟨n, c, h5, h6⟩ with h | h
    · omega
    · obtain ⟨n', hn', h7⟩ := how k h
      obtain ⟨⟨b', _, h8⟩, _⟩ := hb n' hn'
      have := H.inj m _ b _ k h3 h8 h4 h7
      exact h2 (this ▸ List.mem_of_getElem? (hin n' hn'))
  refine ⟨r, u, ι2, S', hR, ho, ?_, ⟨⟨?_, ?_, ?_, hs.imm, ?_⟩, ⟨hx.os, hx.tape, hx.output, hx.size, hkeep, hx.siz, hx.sub, ?_, ?_, wb_len, ?_⟩, hnam⟩⟩
  · rw [VR.ren, h2]
    exact hu
  · intro m b hm
    rcases cases_ m b hm with ⟨n, c, rfl, h3, rfl⟩ | ⟨h3, h4, h5⟩
    · rcases hs.blk n c h3 with ⟨e1, e2⟩ | ⟨g, d, e1, e2, e3⟩
      · refine .inl ⟨(congrFun h2 n).trans e1, ?_⟩
        show AV.renL _ c.cells = []
        rw [e2]
        rfl
      refine .inr ⟨g, d, ?_, e2, ?_⟩
      · have := congrFun h2 n
        exact this.trans e1
      · have := (VRl.ren (ι := ι2) (S := S') (w := w') (rho L σ.length) c.cells d.toList).2 (by rw [h2]; exact e3)
        exact this
    · rcases H.blk m b h5 with ⟨e1, e2⟩ | ⟨g, d, e1, e2, e3⟩
      · exact .inl ⟨(if_pos h3).trans e1, e2⟩
      refine .inr ⟨g, d, hnam m g e1, ?_, VRl.mov M _ _ e3⟩
      rw [hx.keep g (H.lt ⟨m, b, h5, e1⟩) (fun h => ?_)]
      · exact e2
      · obtain ⟨n', hn', h7⟩ := how g h
        obtain ⟨⟨b', _, h8⟩, _⟩ := hb n' hn'
        have := H.inj m _ b _ g h5 h8 e1 h7
        exact h4 (this ▸ List.mem_of_getElem? (hin n' hn'))
  · intro m m' b b' g hm hm' e1 e2
    rcases cases_ m b hm with ⟨n, c, rfl, h3, rfl⟩ | ⟨h3, h4, h5⟩ <;> rcases cases_ m' b' hm' with ⟨n', c', rfl, h3', rfl⟩ | ⟨h3', h4', h5'⟩
    · have f1 : ι' n = some g := by rw [← h2]; exact e1
      have f2 : ι' n' = some g := by rw [← h2]; exact e2
      rw [hs.inj n n' c c' g h3 h3' f1 f2]
    · have f1 : ι' n = some g := by rw [← h2]; exact e1
      have f2 : ι m' = some g := by
        have : ι2 m' = ι m' := if_pos h3'
        rw [← this]; exact e2
      exact (nofar m' b' g n c h3' h4' h5' f2 h3 f1).elim
    · have f1 : ι' n' = some g := by rw [← h2]; exact e2
      have f2 : ι m = some g := by
        have : ι2 m = ι m := if_pos h3
        rw [← this]; exact e1
      exact (nofar m b g n' c' h3 h4 h5 f2 h3' f1).elim
    · have f1 : ι m = some g := by
        have : ι2 m = ι m := if_pos h3
        rw [← this]; exact e1
      have f2 : ι m' = some g := by
        have : ι2 m' = ι m' := if_pos h3'
        rw [← this]; exact e2
      exact H.inj m m' b b' g h5 h5' f1 f2
  · intro m b g hm e1 hS
    rcases cases_ m b hm with ⟨n, c, rfl, h3, rfl⟩ | ⟨h3, h4, h5⟩
    · have f1 : ι' n = some g := by rw [← h2]; exact e1
      exact hs.own n c g h3 f1 hS
    · have f1 : ι m = some g := by
        have : ι2 m = ι m := if_pos h3
        rw [← this]; exact e1
      rcases hx.imn g hS with h | h | h
      · exact H.own m b g h5 f1 h
      · have := H.lt ⟨m, b, h5, f1⟩
        omega
      · obtain ⟨n', hn', h7⟩ := how g h
        obtain ⟨⟨b', _, h8⟩, _⟩ := hb n' hn'
        have := H.inj m _ b _ g h5 h8 f1 h7
        exact h4 (this ▸ List.mem_of_getElem? (hin n' hn'))
  · intro m hm
    by_cases hlt' : m < σ.length
    · have hmL : m ∉ L := fun h => by
        obtain ⟨n, hn, rfl⟩ := List.mem_iff_getElem.1 h
        obtain ⟨_, c, hc⟩ := hb n hn
        rw [wb_in hd hlo hlt (List.getElem?_eq_getElem hn) hc] at hm
        rcases hm with hm | hm <;> cases hm
      rw [wb_far hlt' hmL] at hm
      show (if _ then _ else _) = _
      rw [if_pos hlt']
      exact H.top m hm
    · obtain ⟨j, rfl⟩ : ∃ j, m = σ.length + j := ⟨m - σ.length, by omega⟩
      rw [wb_new j hlo] at hm
      show (if _ then _ else _) = _
      rw [if_neg (by omega)]
      have e : L.length + (σ.length + j - σ.length) = L.length + j := by omega
      rw [e]
      apply hs.top
      cases hc : σo[L.length + j]? with
      | none => exact .inl rfl
      | some x =>
        rw [hc] at hm
        cases x with
        | live c => rcases hm with hm | hm <;> cases hm
        | dead => rcases hm with hm | hm <;> cases hm
        | fresh => exact .inr rfl
  · rintro k ⟨m, b, hm, e1⟩
    rcases cases_ m b hm with ⟨n, c, rfl, h3, rfl⟩ | ⟨h3, h4, h5⟩
    · have f1 : ι' n = some k := by rw [← h2]; exact e1
      rcases hx.new k ⟨n, c, h3, f1⟩ with h | h
      · exact .inl h
      · exact .inr (how2 k h)
    · have f1 : ι m = some k := by
        have : ι2 m = ι m := if_pos h3
        rw [← this]; exact e1
      exact .inr ⟨m, b, h5, f1⟩
  · intro k hk
    rcases hx.imn k hk with h | h | h
    · exact .inl h
    · exact .inr (.inl h)
    · exact .inr (.inr (how2 k h))
  · intro m hm
    refine ⟨fun h => ?_, fun b h => ?_⟩
    · by_cases hmL : m ∈ L
      · obtain ⟨n, hn, rfl⟩ := List.mem_iff_getElem.1 hmL
        obtain ⟨_, c, hc⟩ := hb n hn
        rw [wb_in hd hlo hlt (List.getElem?_eq_getElem hn) hc] at h
        cases h
      · rw [wb_far hm hmL] at h
        exact h
    · refine .inr ⟨if_pos hm, ?_⟩
      by_cases hmL : m ∈ L
      · obtain ⟨n, hn, rfl⟩ := List.mem_iff_getElem.1 hmL
        obtain ⟨⟨b', _, h1⟩, _⟩ := hb n hn
        have e := hin n hn
        rw [List.getElem?_eq_getElem hn] at e
        injection e with e
        rw [e]
        exact ⟨_, h1⟩
      · rw [wb_far hm hmL] at h
        exact ⟨b, h⟩
variable {e : Env} {k : List KI} {fr : Fr} {σ : Sto} {te : TE} {nt : Nat} {all : Array Oper} {o : Oper} {rest : List Oper} {P : Program}
/-- A contract whose answer is one of several. -/
def ACx (Φ : World → Prop) (P : Program) (f : FuncId) (args : List AV) (R : AV → Prop) : Prop :=
  Callable P f ∧ ∀ ι S w us, Φ w → SR ι S [] w → VRe ι S w args us → Calls P f us.toArray w fun o w' => ∃ r u ι' S', R r ∧ o = .returned u ∧ VR ι' S' w' r u ∧ SR ι' S' [] w' ∧ Ext [] ι S w [] ι' S' w'
theorem Go.call0x {Φ : World → Prop} {n : Nat} {xs args : List AV} {R : AV → Prop} (hP : e.P = P) (h0 : e.σ0 = []) (hst : Stays Φ) (hw0 : Φ e.w0) (C : ACx Φ P n args R) (hop : calleeA fr o.op = some (n, xs)) (hg : gdA all.toList fr o.guard = .go) {d : Nat} (hd : o.dst = some d) (hdn : d < e.nt)
    (hx : xs = AV.renL (rho [] σ.length) args) (h : ∀ x, R x → Go e (.ops all rest :: k) (put d (x.ren (rho [] σ.length)) fr) (σ ++ [])) : Go e (.ops all (o :: rest) :: k) fr σ := by
  subst hP
  intro ι S a w H
  have hw : Region.wanted o (yielded all a.tmps) = true := wanted_of H (b := true) (by rw [hg])
  have hΦ : Φ w := hst e.w0 w (fun k hk => H.ext.keep k hk (fun ⟨n, b, hn, _⟩ => by rw [h0] at hn; simp at hn)) H.ext.size hw0
  obtain ⟨us, h1, h2⟩ := callee_run hop C.1 H
  show wpList e.P all (Kpost e k) (o :: rest) a w
  unfold wpList
  rw [if_pos hw]
  left
  unfold Oper.wp
  rw [h1, Oper.upon_enter]
  refine (AC.useAt (σi := []) (σo := []) (fun ι S us => C.2 ι S w us hΦ) [] (Lend.nil _ _) H.sr (hx ▸ h2)).mono ?_
  rintro en w' ⟨x, u, ι', S', hR, rfl, h3, h4⟩
  rw [hd]
  exact h x hR ι' S' _ w' ((H.step h4).put hdn h3)
theorem AC.lookAt {P : Program} {f : FuncId} {args : List AV} {σo σ : Sto} {r : AV} {ι : Nat → Option Nat} {S : Nat → Prop} {w : World} (h : ∀ ι S us, SR ι S [] w → VRe ι S w args us → Calls P f us.toArray w fun o w' => ∃ u ι' S', o = .returned u ∧ VR ι' S' w' r u ∧ SR ι' S' σo w' ∧ Ext [] ι S w σo ι' S' w') (hr : plainA r = true) (ho : plainS σo = true) {us : List Value} (H : SR ι S σ w) (ha : VRe nowhere (below w) w args us) :
    Calls P f us.toArray w fun o w' => ∃ u ι' S', o = .returned u ∧ VR ι' S' w' (r.ren (rho [] σ.length)) u ∧ Step σ ι S w (σ ++ σo.map (En.ren (rho [] σ.length))) ι' S' w' := by
  have H0 : SR nowhere (below w) [] w := ⟨fun n b hn => by simp at hn, fun n m b b' g hn => by simp at hn, fun n b g hn => by simp at hn, fun _ hk => hk, fun _ _ => rfl⟩
  refine (h nowhere (below w) us H0 ha).mono ?_
  rintro o w' ⟨u, ι1, S1, rfl, h1, h2, h3⟩
  let ι2 : Nat → Option Nat := fun n => if n < σ.length then ι n else ι1 (n - σ.length)
  have hren : (fun n => ι2 (rho [] σ.length n)) = ι1 := by
    funext n
    have : ¬ σ.length + n < σ.length := by omega
    simp only [ι2, rho_nil, if_neg this]
    congr 1
    omega
  have plS : ∀ (σo : Sto) (n : Nat) (b : Blk), plainS σo = true → σo[n]? = some (En.live b) → plainL b.cells = true := by
    intro σo
    induction σo with
    | nil => intro n b _ hn; simp at hn
    | cons x r ih =>
      intro n b hp hn
      simp only [plainS, Bool.and_eq_true] at hp
      cases n with
      | zero =>
        simp only [List.getElem?_cons_zero, Option.some.injEq] at hn
        subst hn
        exact hp.1
      | succ n => exact ih n b hp.2 (by simpa using hn)
  have hkeep : ∀ k, k < w.heap.size → w'.heap[k]? = w.heap[k]? := fun k hk => h3.keep k hk (fun ⟨n, b, hn, _⟩ => (by simp at hn))
  have hnam : ∀ n g, ι n = some g → ι2 n = some g := fun n g hg => by
    have : n < σ.length := by
      rcases Nat.lt_or_ge n σ.length with h | h
      · exact h
      · have := H.top n (.inl (List.getElem?_eq_none_iff.2 h))
        rw [hg] at this; cases this
    simp only [ι2, if_pos this]
    exact hg
  have M : Mov ι ι2 S S w w' := ⟨hnam, fun _ h => h, fun k hk => hkeep k (H.imm k hk), h3.siz⟩
  have old : ∀ n, n < σ.length → (σ ++ σo.map (En.ren (rho [] σ.length)))[n]? = σ[n]? := fun n hn => List.getElem?_append_left hn
  have new : ∀ (n : Nat) (b : Blk), ¬ n < σ.length → (σ ++ σo.map (En.ren (rho [] σ.length)))[n]? = some (En.live b) → ∃ b', σo[n - σ.length]? = some (En.live b') ∧ b = b'.ren (rho [] σ.length) := fun n b hn hb => by
    rw [List.getElem?_append_right (by omega), List.getElem?_map] at hb
    cases hs : σo[n - σ.length]? with
    | none => rw [hs] at hb; cases hb
    | some en =>
      rw [hs] at hb
      cases en with
      | live b' =>
        simp only [Option.map_some, En.ren, Option.some.injEq, En.live.injEq] at hb
        exact ⟨b', rfl, hb.symm⟩
      | dead => simp [En.ren] at hb
      | fresh => simp [En.ren] at hb
  have size1 : ∀ (n : Nat) (b : Blk) (g : Nat), σo[n]? = some (En.live b) → ι1 n = some g → w.heap.size ≤ g := fun n b g hn hg => by
    rcases h3.new g ⟨n, b, hn, hg⟩ with h | ⟨m, _, hm, _⟩
    · exact h
    · simp at hm
  have hlt : ∀ (n : Nat) (b : Blk) (g : Nat), σ[n]? = some (En.live b) → ι n = some g → g < w.heap.size := fun n b g hb hg => H.lt ⟨n, b, hb, hg⟩
  have i1 : ∀ {n}, n < σ.length → ι2 n = ι n := fun hn => if_pos hn
  have i2 : ∀ {n}, ¬ n < σ.length → ι2 n = ι1 (n - σ.length) := fun hn => if_neg hn
  have SRn : SR ι2 S (σ ++ σo.map (En.ren (rho [] σ.length))) w' := by
    refine ⟨fun n b hb => ?_, fun n m b b' g hb hb' hn hm => ?_, fun n b g hb hn => ?_, fun k hk => Nat.lt_of_lt_of_le (H.imm k hk) h3.size, fun n hn => ?_⟩
    · by_cases hlt : n < σ.length
      · rw [old n hlt] at hb
        rcases H.blk n b hb with ⟨e1, e2⟩ | ⟨g, c, e1, e2, e3⟩
        · exact .inl ⟨(i1 hlt).trans e1, e2⟩
        · exact .inr ⟨g, c, hnam n g e1, (hkeep g (Array.getElem?_eq_some_iff.1 e2).1).trans e2, VRl.mov M _ _ e3⟩
      · obtain ⟨b', hb', rfl⟩ := new n b hlt hb
        rcases h2.blk _ b' hb' with ⟨e1, e2⟩ | ⟨g, c, e1, e2, e3⟩
        · exact .inl ⟨(i2 hlt).trans e1, by simp [Blk.ren, e2, AV.renL]⟩
        · refine .inr ⟨g, c, (i2 hlt).trans e1, e2, ?_⟩
          rw [show (b'.ren (rho [] σ.length)).cells = AV.renL (rho [] σ.length) b'.cells from rfl, VRl.ren, hren]
          exact VRl.plain _ _ (plS σo _ b' ho hb') e3
    · by_cases hn1 : n < σ.length <;> by_cases hm1 : m < σ.length
      · rw [old n hn1] at hb
        rw [old m hm1] at hb'
        rw [i1 hn1] at hn
        rw [i1 hm1] at hm
        exact H.inj n m b b' g hb hb' hn hm
      · rw [old n hn1] at hb
        obtain ⟨b2, hb2, _⟩ := new m b' hm1 hb'
        rw [i1 hn1] at hn
        rw [i2 hm1] at hm
        have := hlt n b g hb hn
        have := size1 _ b2 g hb2 hm
        omega
      · rw [old m hm1] at hb'
        obtain ⟨b2, hb2, _⟩ := new n b hn1 hb
        rw [i1 hm1] at hm
        rw [i2 hn1] at hn
        have := hlt m b' g hb' hm
        have := size1 _ b2 g hb2 hn
        omega
      · obtain ⟨b2, hb2, _⟩ := new n b hn1 hb
        obtain ⟨b3, hb3, _⟩ := new m b' hm1 hb'
        rw [i2 hn1] at hn
        rw [i2 hm1] at hm
        have := h2.inj _ _ b2 b3 g hb2 hb3 hn hm
        omega
    · by_cases hn1 : n < σ.length
      · rw [old n hn1] at hb
        rw [i1 hn1] at hn
        exact H.own n b g hb hn
      · obtain ⟨b2, hb2, _⟩ := new n b hn1 hb
        rw [i2 hn1] at hn
        have h4 := size1 _ b2 g hb2 hn
        intro hs
        have := H.imm g hs
        omega
    · by_cases hn1 : n < σ.length
      · rw [old n hn1] at hn
        rw [i1 hn1]
        exact H.top n hn
      · rw [i2 hn1]
        refine h2.top _ ?_
        rw [List.getElem?_append_right (by omega), List.getElem?_map] at hn
        cases hs : σo[n - σ.length]? with
        | none => exact .inl rfl
        | some en =>
          rw [hs] at hn
          cases en <;> simp [En.ren] at hn
  refine ⟨u, ι2, S, rfl, ?_, SRn, ⟨h3.os, h3.tape, h3.output, h3.size, fun k hk _ => hkeep k hk, h3.siz, fun _ h => h, ?_, fun _ h => .inl h, by simp, fun n hn => ?_⟩, hnam⟩
  · rw [VR.ren, hren]
    exact VR.plain _ _ hr h1
  · rintro k ⟨n, b, hb, hn⟩
    by_cases hn1 : n < σ.length
    · rw [old n hn1] at hb
      rw [i1 hn1] at hn
      exact .inr ⟨n, b, hb, hn⟩
    · obtain ⟨b2, hb2, _⟩ := new n b hn1 hb
      rw [i2 hn1] at hn
      exact .inl (size1 _ b2 k hb2 hn)
  · rw [old n hn]
    exact ⟨fun h => h, fun b hb => .inr ⟨i1 hn, b, hb⟩⟩
/-- A block, told with its first n cells alone. -/
theorem Go.fewer (nm n : Nat) {b : Blk} (hb : nth σ nm = some (.live b)) (h : Go e k fr (setN σ nm (.live ⟨b.ty, b.cells.take n⟩))) : Go e k fr σ := fun ι S a w H =>
  h ι S a w (H.step (Step.retell (b := b) H.sr (by rw [← nth_eq]; exact hb) rfl (fun h => by rw [h]; simp) fun us hu => VRl.take n hu))
theorem ACx.intro {Φ : World → Prop} {f : FuncId} {fn : Func} {c : Code} {args : List AV} {R : AV → Prop} (nt : Nat) (hf : P.funcs[f]? = some fn) (hb : fn.body = some c) (hm : (fn.name == "runtime.NumGoroutine") = false)
    (hn : fn.ntmps = nt) (hl : args.length ≤ nt)
    (h : ∀ e : Env, e.P = P → e.fn = fn → e.nt = nt → e.σ0 = [] → Φ e.w0 → (∀ r, R r → Ends e r []) → Go e [.code c] (args0 0 args) []) : ACx Φ P f args R := by
  refine ⟨⟨fn, hf, by rw [hb]; rfl, hm⟩, fun ι S w us hΦ hs ha => ?_⟩
  have hlen := VRe.len ha
  refine calls_of_wp hf hb ?_
  have key := h ⟨P, fn, nt, [], ι, S, w, fun o w' => ∃ r u ι' S', R r ∧ o = .returned u ∧ VR ι' S' w' r u ∧ SR ι' S' [] w' ∧ Ext [] ι S w [] ι' S' w'⟩ rfl rfl rfl rfl hΦ
    (fun r hr u ι' S' w' h1 h2 h3 => ⟨r, u, ι', S', hr, rfl, h1, h2, h3⟩) ι S { tmps := us.toArray ++ Array.replicate (fn.ntmps - us.toArray.size) undef, defers := [] } w
    ⟨rfl, by simp [hn, hlen]; omega, args0_once _ _, fun d x hx => by
      obtain ⟨u, h1, h2⟩ := args0_get ha hx
      refine ⟨u, ?_, h2⟩
      have hd : d < us.length := (List.getElem?_eq_some_iff.1 h1).1
      simp only [Nat.sub_zero] at h1
      rw [Array.getElem?_append_left (by simpa using hd)]
      simpa using h1, hs, Ext.refl⟩
  exact wp_mono key (fun x a w hq => hq)
/-- A contract with own new memory, under a premise on the world. -/
def ACv (Φ : World → Prop) (P : Program) (f : FuncId) (args : List AV) (r : AV) (σo : Sto) : Prop :=
  Callable P f ∧ ∀ ι S w us, Φ w → SR ι S [] w → VRe ι S w args us → Calls P f us.toArray w fun o w' => ∃ u ι' S', o = .returned u ∧ VR ι' S' w' r u ∧ SR ι' S' σo w' ∧ Ext [] ι S w σo ι' S' w'
theorem AC.toV {Φ : World → Prop} {f : FuncId} {args : List AV} {r : AV} {σo : Sto} (h : AC P f args [] r σo) : ACv Φ P f args r σo := ⟨h.1, fun ι S w us _ => h.2 ι S w us⟩
theorem ACw.toV {Φ : World → Prop} {f : FuncId} {args : List AV} {r : AV} (h : ACw Φ P f args r) : ACv Φ P f args r [] := h
theorem ACv.weak {Φ Ψ : World → Prop} {f : FuncId} {args : List AV} {r : AV} {σo : Sto} (h : ACv Ψ P f args r σo) (hm : ∀ w, Φ w → Ψ w) : ACv Φ P f args r σo := ⟨h.1, fun ι S w us hΦ => h.2 ι S w us (hm w hΦ)⟩
theorem ACv.intro {Φ : World → Prop} {f : FuncId} {fn : Func} {c : Code} {args : List AV} {r : AV} {σo : Sto} (nt : Nat) (hf : P.funcs[f]? = some fn) (hb : fn.body = some c) (hm : (fn.name == "runtime.NumGoroutine") = false)
    (hn : fn.ntmps = nt) (hl : args.length ≤ nt)
    (h : ∀ e : Env, e.P = P → e.fn = fn → e.nt = nt → e.σ0 = [] → Φ e.w0 → Ends e r σo → Go e [.code c] (args0 0 args) []) : ACv Φ P f args r σo := by
  refine ⟨⟨fn, hf, by rw [hb]; rfl, hm⟩, fun ι S w us hΦ hs ha => ?_⟩
  have hlen := VRe.len ha
  refine calls_of_wp hf hb ?_
  have key := h ⟨P, fn, nt, [], ι, S, w, fun o w' => ∃ u ι' S', o = .returned u ∧ VR ι' S' w' r u ∧ SR ι' S' σo w' ∧ Ext [] ι S w σo ι' S' w'⟩ rfl rfl rfl rfl hΦ
    (fun u ι' S' w' h1 h2 h3 => ⟨u, ι', S', rfl, h1, h2, h3⟩) ι S { tmps := us.toArray ++ Array.replicate (fn.ntmps - us.toArray.size) undef, defers := [] } w
    ⟨rfl, by simp [hn, hlen]; omega, args0_once _ _, fun d x hx => by
      obtain ⟨u, h1, h2⟩ := args0_get ha hx
      refine ⟨u, ?_, h2⟩
      have hd : d < us.length := (List.getElem?_eq_some_iff.1 h1).1
      simp only [Nat.sub_zero] at h1
      rw [Array.getElem?_append_left (by simpa using hd)]
      simpa using h1, hs, Ext.refl⟩
  exact wp_mono key (fun x a w hq => hq)
theorem Go.holds0 {Φ : World → Prop} (h0 : e.σ0 = []) (hst : Stays Φ) (hw0 : Φ e.w0) {ι : Nat → Option Nat} {S : Nat → Prop} {a : Act} {w : World} (H : Sim e fr σ ι S a w) : Φ w :=
  hst e.w0 w (fun k hk => H.ext.keep k hk (fun ⟨n, b, hn, _⟩ => by rw [h0] at hn; simp at hn)) H.ext.size hw0
theorem Go.call0v {Φ : World → Prop} {n : Nat} {xs args : List AV} {x : AV} {σo : Sto} (hP : e.P = P) (h0 : e.σ0 = []) (hst : Stays Φ) (hw0 : Φ e.w0) (C : ACv Φ P n args x σo) (hop : calleeA fr o.op = some (n, xs)) (hg : gdA all.toList fr o.guard = .go) {d : Nat} (hd : o.dst = some d) (hdn : d < e.nt)
    (hx : xs = AV.renL (rho [] σ.length) args) (h : Go e (.ops all rest :: k) (put d (x.ren (rho [] σ.length)) fr) (σ ++ σo.map (En.ren (rho [] σ.length)))) : Go e (.ops all (o :: rest) :: k) fr σ := by
  subst hP
  intro ι S a w H
  have hw : Region.wanted o (yielded all a.tmps) = true := wanted_of H (b := true) (by rw [hg])
  have hΦ : Φ w := Go.holds0 h0 hst hw0 H
  obtain ⟨us, h1, h2⟩ := callee_run hop C.1 H
  show wpList e.P all (Kpost e k) (o :: rest) a w
  unfold wpList
  rw [if_pos hw]
  left
  unfold Oper.wp
  rw [h1, Oper.upon_enter]
  refine (AC.useAt (σi := []) (σo := σo) (R := (· = x)) (fun ι S us hs ha => (C.2 ι S w us hΦ hs ha).mono fun o w' ⟨u, ι', S', a1, a2, a3, a4⟩ => ⟨x, u, ι', S', rfl, a1, a2, a3, a4⟩) [] (Lend.nil _ _) H.sr (hx ▸ h2)).mono ?_
  rintro en w' ⟨y, u, ι', S', rfl, rfl, h3, h4⟩
  rw [hd]
  exact h ι' S' _ w' ((H.step h4).put hdn h3)
/-- A call that looks at what is the caller's own, under a premise on the world. -/
theorem Go.callBv (f : Nat) {Φ : World → Prop} {n : Nat} {xs args : List AV} {σo : Sto} {x : AV} (hP : e.P = P) (h0 : e.σ0 = []) (hst : Stays Φ) (hw0 : Φ e.w0) (C : ACv Φ P n args x σo) (hop : calleeA fr o.op = some (n, xs)) (hg : gdA all.toList fr o.guard = .go) {d : Nat} (hd : o.dst = some d) (hdn : d < e.nt)
    (hok : xs.all (resOk σ f) = true) (hx : xs.map (res σ f) = args) (hpr : plainA x = true) (hpo : plainS σo = true) (h : Go e (.ops all rest :: k) (put d (x.ren (rho [] σ.length)) fr) (σ ++ σo.map (En.ren (rho [] σ.length)))) : Go e (.ops all (o :: rest) :: k) fr σ := by
  subst hP
  subst hx
  intro ι S a w H
  have hw : Region.wanted o (yielded all a.tmps) = true := wanted_of H (b := true) (by rw [hg])
  have hΦ : Φ w := Go.holds0 h0 hst hw0 H
  obtain ⟨us, h1, h2⟩ := callee_run hop C.1 H
  show wpList e.P all (Kpost e k) (o :: rest) a w
  unfold wpList
  rw [if_pos hw]
  left
  unfold Oper.wp
  rw [h1, Oper.upon_enter]
  refine (AC.lookAt (fun ι S us hs ha => C.2 ι S w us hΦ hs ha) hpr hpo H.sr (res_e (fun x u => res_ok H.sr f x u) xs us hok h2)).mono ?_
  rintro en w' ⟨u, ι', S', rfl, h3, h4⟩
  rw [hd]
  exact h ι' S' _ w' ((H.step h4).put hdn h3)
theorem ACw.toX {Φ : World → Prop} {f : FuncId} {args : List AV} {r : AV} (h : ACw Φ P f args r) : ACx Φ P f args (· = r) :=
  ⟨h.1, fun ι S w us hΦ hs ha => (h.2 ι S w us hΦ hs ha).mono fun o w' ⟨u, ι', S', h1, h2, h3, h4⟩ => ⟨r, u, ι', S', rfl, h1, h2, h3, h4⟩⟩
theorem Go.call0w {Φ : World → Prop} {n : Nat} {xs args : List AV} {x : AV} (hP : e.P = P) (h0 : e.σ0 = []) (hst : Stays Φ) (hw0 : Φ e.w0) (C : ACw Φ P n args x) (hop : calleeA fr o.op = some (n, xs)) (hg : gdA all.toList fr o.guard = .go) {d : Nat} (hd : o.dst = some d) (hdn : d < e.nt)
    (hx : xs = AV.renL (rho [] σ.length) args) (h : Go e (.ops all rest :: k) (put d (x.ren (rho [] σ.length)) fr) (σ ++ [])) : Go e (.ops all (o :: rest) :: k) fr σ :=
  Go.call0x hP h0 hst hw0 C.toX hop hg hd hdn hx fun _ hr => hr ▸ h
theorem AC.toX {Φ : World → Prop} {f : FuncId} {args : List AV} {r : AV} (h : AC P f args [] r []) : ACx Φ P f args (· = r) := h.toW.toX
theorem q_run0 (te : TE) (nt : Nat) (e : Env) (k : List KI) (fr : Fr) (σ : Sto) : run te nt e 0 k fr σ = Go e k fr σ := rfl
/-- An error is compared with nil. -/
theorem Go.neNil {t : TypeId} {x : Nat} {v : Value} {b : Bool} (hP : e.P = P) (hi : P.underlying t = some (.interface (P.methodsAt t))) (hop : o.op = .binOp .neq t (.tmp x) (.const .nilIface) t) (hg : gdA all.toList fr o.guard = .go) {d : Nat} (hd : o.dst = some d) (hdn : d < e.nt)
    (hx : get fr x = some (.v v)) (hv : (v = .nilIface ∧ b = false) ∨ (∃ u y, v = .iface u y) ∧ b = true) (h : Go e (.ops all rest :: k) (put d (.v (.bool b)) fr) σ) : Go e (.ops all (o :: rest) :: k) fr σ := by
  subst hP
  intro ι S a w H
  have hw : Region.wanted o (yielded all a.tmps) = true := wanted_of H (b := true) (by rw [hg])
  obtain ⟨u, h1, h2⟩ := H.get hx
  simp only [VR] at h2
  subst h2
  show wpList e.P all (Kpost e k) (o :: rest) a w
  unfold wpList
  rw [if_pos hw]
  left
  unfold Oper.wp
  have hr : (execOp a.eval o).run e.P w = .ok (.value (.bool b)) w := by
    obtain ⟨dst, op, type, pos, after, guard⟩ := o
    simp only at hop
    subst hop
    have hev : a.eval (.tmp x) = u := by
      have hx' : ev fr (.tmp x) = some (.v u) := hx
      have := H.ev hx'
      simpa only [VR] using this
    show (do pure (Next.value (← (do eqGuard .neq t (.tmp x) (.const .nilIface) (a.eval (.tmp x)) .nilIface; Go.binOp .neq t (a.eval (.tmp x)) .nilIface))) : Sem _).run e.P w = _
    rw [hev]
    rcases hv with ⟨rfl, rfl⟩ | ⟨⟨q, y, rfl⟩, rfl⟩
    · have e1 : eqGuard .neq t (.tmp x) (.const .nilIface) .nilIface .nilIface = pure () := by simp [eqGuard]
      rw [e1]
      simp only [Sem.run_bind, Sem.run_pure, Result.andThen_ok, run_neq_nil_nil w t hi]
    · have e1 : eqGuard .neq t (.tmp x) (.const .nilIface) (.iface q y) .nilIface = pure () := by simp [eqGuard]
      rw [e1]
      simp only [Sem.run_bind, Sem.run_pure, Result.andThen_ok, run_neq_held_nil w t q y hi]
  rw [hr, Oper.upon_value, hd]
  exact h ι S _ w (H.put hdn (by simp only [VR]))
end
open Go.RowKit in
theorem laws_callsW {Φ : World → Prop} {P : Program} {w : World} {f : FuncId} {args : List AV} (h : ACw Φ P f args (.v (.bool true))) (hΦ : Φ w) {us : List Value} (hv : VG w args us) :
    Calls P f us.toArray w fun e w' => e = .returned (.bool true) ∧ Below w.heap.size w w' := by
  refine (h.2 (fun _ => none) (fun k => k < w.heap.size) w us hΦ ⟨fun n b hn => by simp at hn, fun n m b b' g hn => by simp at hn, fun n b g hn => by simp at hn, fun _ hk => hk, fun _ _ => rfl⟩ hv).mono ?_
  rintro o w' ⟨u, ι', S', rfl, h1, h2, h3⟩
  simp only [VR] at h1
  subst h1
  exact ⟨rfl, h3.os, h3.tape, h3.output, h3.size, fun k hk => h3.keep k hk (fun ⟨n, b, hn, _⟩ => by simp at hn)⟩
end Go.Proofs.YtjnlpomfjlpikaaDoor.Ab
