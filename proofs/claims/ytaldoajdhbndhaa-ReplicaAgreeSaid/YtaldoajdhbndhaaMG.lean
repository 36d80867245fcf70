/- Texts of this claim, one behind the other: RepAh, RepAi, RepAj, RepKe, RepAk, RepAl, RepLa, RepLb, RepLc, RepTe, RepTd, RepTg, RepTa. -/
import Derived.Test.YtaldoajdhbndhaaMF

/- What a replica does keeps what is so of all of them. -/

namespace Go.Proofs.Ytaldoajdhbndhaa.Pa

set_option linter.unusedVariables false

set_option linter.unusedSimpArgs false
theorem Safe.less {N : Nat} {g : Gh} {u : Int} {k j : Nat} (h : Safe N g u k) (hj : j ≤ k) : Safe N g u j := by
  obtain ⟨v, h1, h2, ⟨Q, hQ, hq⟩, h4, h5⟩ := h
  exact ⟨v, h1, h2, ⟨Q, hQ, fun i hi => Nat.le_trans hj (hq i hi)⟩, by omega, (take_pre_take hj).trans h5⟩
theorem had_zero {c : Int} {e : Entry} : ∀ {l : List Entry} {i o : Int}, hadTo c e l i o = 0 → o = 0 ∧ ∀ x ∈ l, x.client = e.client → x.request < e.request
  | [], i, o, h => ⟨h, fun x hx => by cases hx⟩
  | x :: l, i, o, h => by
    rw [hadTo] at h
    split at h
    · rename_i hx
      obtain ⟨h1, h2⟩ := had_zero h
      refine ⟨h1, fun y hy => ?_⟩
      rcases List.mem_cons.1 hy with e | e
      · rw [e]; intro hc; rcases hx with hx | hx; exact absurd hc hx; exact hx
      · exact h2 y e
    · split at h
      · cases h
      · obtain ⟨h1, _⟩ := had_zero h
        cases h1
theorem Step.submit {N : Nat} {i : Int} {g : Gh} {r : Rp} (e : Entry) : Step N i g r (submitR r e).1 := by
  unfold submitR
  split
  · exact Step.refl _ _ _ _
  split
  · exact Step.refl _ _ _ _
  split
  · exact Step.refl _ _ _ _
  split
  · exact Step.refl _ _ _ _
  rename_i hr her hhd hfl
  intro hg h
  obtain ⟨hc, hp⟩ := role_one (show roleR r = 1 by omega)
  have hnv := h.norm hc
  have hs := h.ok.stn
  have hcf := h.ok.cfg
  have hn := h.n
  have hpi : r.s.normal % (N : Int) = i := by rw [hnv, ← mod_prim h, hp, h.id]
  have hlg := (h.prim _ h.d hpi).2 rfl
  have hh : hadTo r.s.commit e r.s.log 0 0 = 0 := by
    have : ¬ hadR r e ≠ 0 := hhd
    unfold hadR at this
    omega
  obtain ⟨e', he'⟩ : ∃ q, q = { e with view := r.s.view } := ⟨_, rfl⟩
  rw [← he']
  have her' : entryR e' = true := by rw [he']; exact entryR_view (by simpa using her) hs.1
  have hl1 : g.G r.s.normal <+: r.s.log ++ [e'] := by rw [← hlg]; exact List.prefix_append _ _
  have hin : Inc (r.s.log ++ [e']) := by
    refine Inc.snoc (by rw [hlg]; exact hg.inc _ h.d) (fun x hx hxc => ?_)
    rw [he'] at hxc ⊢
    exact (had_zero hh).2 x hx hxc
  have x1 : Ext N i g (g.setG r.s.normal (r.s.log ++ [e'])) := setG_ext hpi hl1
  have g1 := setG_inv hg h.d hl1 hin
  have hvw : (g.setG r.s.normal (r.s.log ++ [e'])).vw i ≤ r.s.normal := by show g.vw i ≤ _; rw [h.vw, hnv]; exact Int.le_refl _
  have hG : (g.setG r.s.normal (r.s.log ++ [e'])).G r.s.normal = r.s.log ++ [e'] := by rw [setG_at, if_pos rfl]
  have x2 : Ext N i _ ((g.setG r.s.normal (r.s.log ++ [e'])).setAc i r.s.normal (r.s.log ++ [e']).length) := setAc_ext hvw (by show g.Ac i _ ≤ _; rw [h.acn]; simp)
  have g2 := setAc_inv (n := (r.s.log ++ [e']).length) g1 hvw h.d (by rw [hG]; exact Nat.le_refl _)
  have x := x1.trans x2
  obtain ⟨g', hgd⟩ : ∃ q, q = (g.setG r.s.normal (r.s.log ++ [e'])).setAc i r.s.normal (r.s.log ++ [e']).length := ⟨_, rfl⟩
  have hG' : g'.G r.s.normal = r.s.log ++ [e'] := by rw [hgd]; exact hG
  have hA' : ∀ w, g'.Ac i w = if w = r.s.normal then (r.s.log ++ [e']).length else g.Ac i w := fun w => by
    rw [hgd, setAc_at]
    by_cases hw : w = r.s.normal
    · rw [if_pos ⟨rfl, hw⟩, if_pos hw]
    · rw [if_neg (fun q => hw q.2), if_neg hw]; rfl
  have hD' : ∀ w, g'.D w ↔ g.D w := fun w => by rw [hgd]; exact Iff.rfl
  have hV' : g'.vw i = g.vw i := by rw [hgd]; rfl
  rw [← hgd] at x g2
  have hop : RpOk (putR r [e']) := h.ok.put (by have : ¬ (r.s.log.length : Int) = 64 := hfl; simp; omega) (fun y hy => by rw [List.mem_singleton.1 hy]; exact her')
  have hR : RInv N g' i (putR r [e']) := ⟨hop, h.n, h.id, by rw [hV']; exact h.vw, (hD' _).2 h.d, by show g'.L r.s.normal <+: r.s.log ++ [e']; rw [x.L _ h.d]; exact h.lo.trans (List.prefix_append _ _), by show r.s.log ++ [e'] <+: g'.G r.s.normal; rw [hG']; exact List.prefix_refl _, by show g'.Ac i r.s.normal = (r.s.log ++ [e']).length; rw [hA', if_pos rfl], fun w hw => by
      have hw : r.s.normal < w := hw
      rw [hA', if_neg (by omega)]; exact h.acz w hw, h.safe.ext x h.d, fun w hw hwp => ⟨(h.prim w ((hD' w).1 hw) hwp).1, fun q => by
      have q : w = r.s.normal := q
      rw [q, hG']; rfl⟩, fun p hp => ⟨(h.acks p hp).1, by have h1 := (h.acks p hp).2; have h2 := x.acm p.1 r.s.view; show p.2 ≤ (g'.Ac p.1 r.s.view : Int); omega⟩, fun p hp => by obtain ⟨q1, q2, q3⟩ := h.chgs p hp; exact ⟨q1, q2.ext x, q3⟩, fun m hm => (h.out m hm).ext x⟩
  refine ⟨g', g2, x, hR.say _ (fun j j1 j2 j3 => ⟨msgR_mk (show (1 : Int) ≤ 1 ∧ (1 : Int) ≤ 8 by decide) hs.1 (show (0 : Int) ≤ 0 ∧ (0 : Int) ≤ 1099511627776 by decide) (by show 0 ≤ r.id ∧ r.id ≤ 6; omega) (by show 0 ≤ j ∧ j ≤ 6; omega) (by have : ¬ (r.s.log.length : Int) = 64 := hfl; show 0 ≤ (r.s.log.length : Int) + 1 ∧ (r.s.log.length : Int) + 1 ≤ 64; omega) (by show 0 ≤ r.s.commit ∧ r.s.commit ≤ 64; omega) (by simp) (fun y hy => by rw [List.mem_singleton.1 hy]; exact her'), by show r.id < _; omega, j2, fun q => j3 q.symm, by show r.s.view ≤ g'.vw r.id; rw [h.id, hV', h.vw]; exact Int.le_refl _, fun _ => ?_, fun q => (by cases q), fun q => (by cases q), fun q => (by cases q), fun q => (by rcases q with q | q <;> cases q)⟩)⟩
  refine ⟨by show g'.D r.s.view; rw [← hnv]; exact (hD' _).2 h.d, ⟨e', rfl, by show 1 ≤ (r.s.log.length : Int) + 1; omega, ?_⟩, by show Safe N g' r.s.view r.s.commit.toNat; rw [← hnv]; exact h.safe.ext x h.d⟩
  show (g'.G r.s.view)[((r.s.log.length : Int) + 1).toNat - 1]? = some e'
  rw [← hnv, hG', show ((r.s.log.length : Int) + 1).toNat - 1 = r.s.log.length by omega, List.getElem?_append_right (Nat.le_refl _), Nat.sub_self]
  rfl
theorem max_toNat {a b : Int} (ha : 0 ≤ a) (hb : 0 ≤ b) : (max a b).toNat = max a.toNat b.toNat := by omega
theorem Safe.max_ {N : Nat} {g : Gh} {u : Int} {a b : Nat} (ha : Safe N g u a) (hb : Safe N g u b) : Safe N g u (max a b) := by
  rcases Nat.le_total a b with h | h
  · rw [Nat.max_eq_right h]; exact hb
  · rw [Nat.max_eq_left h]; exact ha
theorem Step.take {N : Nat} {i : Int} {g : Gh} {r : Rp} {m : Msg} (hm : MInv N g m) (hk : m.kind = 6 ∨ m.kind = 8) (hv : r.s.view ≤ m.view) (hne : m.view % (N : Int) ≠ i) (hnew : r.s.view < m.view ∨ r.ch = true ∨ extendsR r m.log = true) : Step N i g r (takeR r m) := by
  unfold takeR
  split
  case isFalse => exact Step.refl _ _ _ _
  rename_i hf
  intro hg h
  have hs := h.ok.stn
  have hcf := h.ok.cfg
  have hn := h.n
  obtain ⟨k1, k2, k3, k4, k5⟩ := hm.k6 hk
  have hmn := msgR_num hm.right
  have hml := msgR_log hm.right
  have hft := fitsR_iff.1 hf
  have hA : g.Ac i m.view ≤ m.log.length := by
    by_cases hlt : r.s.normal < m.view
    · rw [h.acz _ hlt]; exact Nat.zero_le _
    · have e1 : r.s.normal = m.view := by omega
      have e2 : r.s.view = m.view := by omega
      rcases hnew with q | q | q
      · omega
      · have := h.chlt q; omega
      · unfold extendsR at q
        rw [Bool.and_eq_true, decide_eq_true_eq] at q
        rw [← e1, h.acn]
        exact Nat.le_of_lt q.1
  have hv1 : g.vw i ≤ m.view := by rw [h.vw]; exact hv
  have x1 : Ext N i g (g.setVw i m.view) := setVw_ext hv1
  have g1 := setVw_inv hg hv1
  have hv2 : (g.setVw i m.view).vw i ≤ m.view := by rw [setVw_vw, if_pos rfl]; exact Int.le_refl _
  have x2 : Ext N i _ ((g.setVw i m.view).setAc i m.view m.log.length) := setAc_ext hv2 hA
  have g2 := setAc_inv (n := m.log.length) g1 hv2 k1 (k3.length_le)
  have x := x1.trans x2
  obtain ⟨g', hgd⟩ : ∃ q, q = (g.setVw i m.view).setAc i m.view m.log.length := ⟨_, rfl⟩
  rw [← hgd] at x g2
  have hA' : ∀ w, g'.Ac i w = if w = m.view then m.log.length else g.Ac i w := fun w => by
    rw [hgd, setAc_at]
    by_cases hw : w = m.view
    · rw [if_pos ⟨rfl, hw⟩, if_pos hw]
    · rw [if_neg (fun q => hw q.2), if_neg hw]; rfl
  have hV' : g'.vw i = m.view := by rw [hgd]; show (g.setVw i m.view).vw i = _; rw [setVw_vw, if_pos rfl]
  have hD' : ∀ w, g'.D w ↔ g.D w := fun w => by rw [hgd]; exact Iff.rfl
  have hsf : Safe N g' m.view (max r.s.commit (min m.commit (m.log.length : Int))).toNat := by
    rw [max_toNat (by omega) (by omega)]
    refine Safe.max_ ((h.safe.ext x h.d).up g2 ((hD' _).2 k1) (by omega)) ?_
    rw [Int.min_eq_left k5]
    exact k4.ext x k1
  have hR : RInv N g' i (tookR r m) := ⟨h.ok.took hm.right hf, h.n, h.id, hV', (hD' _).2 k1, by show g'.L m.view <+: m.log; rw [x.L _ k1]; exact k2, k3.trans (x.G _ k1), by show g'.Ac i m.view = m.log.length; rw [hA', if_pos rfl], fun w hw => by
      have hw : m.view < w := hw
      rw [hA', if_neg (by omega)]; exact h.acz w (by omega), hsf, fun w hw hwp => by
      have h1 := (h.prim w ((hD' w).1 hw) hwp).1
      exact ⟨by show w ≤ m.view; omega, fun q => absurd hwp (by rw [show w = m.view from q]; exact hne)⟩, fun p hp => (by cases hp), fun p hp => (by cases hp), fun q hq => (h.out q hq).ext x⟩
  have hpl := prim_lt h.ok m.view
  have hpn : primR r m.view < (N : Int) := by rw [mod_prim h]; exact Int.emod_lt_of_pos _ (by omega)
  exact ⟨g', g2, x, hR.send _ _ (minv_small hR ⟨hpl.1, hpn, by rw [mod_prim h]; show _ ≠ r.id; rw [h.id]; exact hne⟩ (.inl rfl) (by omega) (fun _ => by show (m.log.length : Int) ≤ (g'.Ac i m.view : Int); rw [hA', if_pos rfl]; exact Int.le_refl _))⟩
theorem ackTo_spec (r : Rp) (l : List (Int × Int)) : ∀ n : Nat, ackTo r l n = r.s.commit ∨ ∃ k : Nat, k ≤ n ∧ ackTo r l n = (k : Int) ∧ halfR r ≤ ackN l (k : Int)
  | 0 => .inl rfl
  | n + 1 => by
    rw [ackTo]
    split
    · split
      · exact .inr ⟨n + 1, Nat.le_refl _, rfl, by assumption⟩
      · rcases ackTo_spec r l n with h | ⟨k, h1, h2⟩
        · exact .inl h
        · exact .inr ⟨k, by omega, h2⟩
    · exact .inl rfl
theorem Step.ack {N : Nat} {i : Int} {g : Gh} {r : Rp} {m : Msg} (hm : MInv N g m) (hk : m.kind = 2) (hsrc : m.src ≠ i) : Step N i g r (ackR r m) := by
  intro hg h
  have hmn := msgR_num hm.right
  have hokA := h.ok.ack hm.right ⟨hmn.2.2.2.1.1, by rw [h.n]; exact hm.src⟩
  unfold ackR at hokA ⊢
  split
  · exact ⟨g, hg, Ext.refl _ _ _, h⟩
  rename_i hc
  rw [if_neg hc] at hokA
  have hv : m.view = r.s.view := Classical.byContradiction fun q => hc (.inl q)
  have hro : roleR r = 1 := Classical.byContradiction fun q => hc (.inr q)
  obtain ⟨hch, hp⟩ := role_one hro
  have hnv := h.norm hch
  have hs := h.ok.stn
  have hcf := h.ok.cfg
  have hn := h.n
  have hak : ∀ p ∈ acksR r m, p.1 ≠ i ∧ p.2 ≤ (g.Ac p.1 r.s.view : Int) := fun p hp => by
    rcases mem_ups hp with e | e
    · rw [e]
      refine ⟨hsrc, ?_⟩
      have h1 := hm.k2 hk
      rw [hv] at h1
      have h2 : (look m.src r.acks).getD 0 ≤ (g.Ac m.src r.s.view : Int) := by
        cases hl : look m.src r.acks with
        | none => show (0 : Int) ≤ _; omega
        | some v => exact (h.acks _ (look_mem hl)).2
      show max _ (min _ _) ≤ (g.Ac m.src r.s.view : Int)
      omega
    · exact h.acks p e
  refine ⟨g, hg, Ext.refl _ _ _, hokA, h.n, h.id, h.vw, h.d, h.lo, h.hi, h.acn, h.acz, ?_, h.prim, hak, h.chgs, h.out⟩
  show Safe N g r.s.normal (ackTo r (acksR r m) r.s.log.length).toNat
  rcases ackTo_spec r (acksR r m) r.s.log.length with e | ⟨k, k1, k2, k3⟩
  · rw [e]; exact h.safe
  · rw [k2, Int.toNat_natCast]
    refine ⟨r.s.normal, Int.le_refl _, h.d, ⟨i :: ((acksR r m).filter (fun p => decide ((k : Int) ≤ p.2))).map (·.1), ⟨?_, fun j hj => ?_, ?_⟩, fun j hj => ?_⟩, Nat.le_trans k1 h.hi.length_le, List.take_prefix _ _⟩
    · rw [List.nodup_cons]
      refine ⟨fun hi => ?_, (hokA.nod.1).sublist (List.filter_sublist.map _)⟩
      obtain ⟨p, hp, e⟩ := List.mem_map.1 hi
      exact (hak p (List.mem_filter.1 hp).1).1 e
    · rcases List.mem_cons.1 hj with e | e
      · rw [e, ← h.id, ← hn]; exact ⟨hcf.2.1, hcf.2.2.1⟩
      · obtain ⟨p, hp, e⟩ := List.mem_map.1 e
        have := hokA.acks p (List.mem_filter.1 hp).1
        rw [← e, ← hn]
        exact ⟨this.1, this.2.1⟩
    · unfold ackN at k3
      unfold halfR at k3
      rw [hn] at k3
      rw [List.length_cons, List.length_map]
      omega
    · rcases List.mem_cons.1 hj with e | e
      · rw [e, h.acn]; exact k1
      · obtain ⟨p, hp, e⟩ := List.mem_map.1 e
        have h1 := (hak p (List.mem_filter.1 hp).1).2
        have h2 := (List.mem_filter.1 hp).2
        rw [decide_eq_true_eq] at h2
        rw [← e, hnv]
        omega
/-- A message that tells all of a view that has begun. -/
theorem minv_told {N : Nat} {g : Gh} {i : Int} {r : Rp} (h : RInv N g i r) (hch : r.ch = false) {kind : Int} (hk : kind = 6 ∨ kind = 8) {j : Int} (hj : 0 ≤ j ∧ j < (N : Int) ∧ j ≠ r.id) : MInv N g { toldR r kind with view := r.s.view, src := r.id, dst := j } := by
  have hc := h.ok.cfg
  have hn := h.n
  have hs := h.ok.stn
  have hnv := h.norm hch
  refine ⟨msgR_mk ?_ hs.1 (show (0 : Int) ≤ 0 ∧ (0 : Int) ≤ 1099511627776 by decide) (by show 0 ≤ r.id ∧ r.id ≤ 6; omega) (by show 0 ≤ j ∧ j ≤ 6; omega) (by show 0 ≤ (r.s.log.length : Int) ∧ (r.s.log.length : Int) ≤ 64; omega) (by show 0 ≤ r.s.commit ∧ r.s.commit ≤ 64; omega) ?_ hs.2.2.2.2.2, by show r.id < _; omega, by show j < _; omega, fun e => hj.2.2 e.symm, ?_, fun e => ?_, fun e => ?_, fun e => ?_, fun e => ?_, fun e => ?_⟩
  · show 1 ≤ kind ∧ kind ≤ 8; omega
  · show if kind = 1 then _ else if kind = 5 ∨ kind = 6 ∨ kind = 8 then _ else _
    rw [if_neg (by omega), if_pos (by omega)]; exact hs.2.2.1
  · show r.s.view ≤ g.vw r.id
    rw [h.id, h.vw]; exact Int.le_refl _
  · have : kind = 1 := e; omega
  · have : kind = 2 := e; omega
  · have : kind = 3 := e; omega
  · have : kind = 5 := e; omega
  · show g.D r.s.view ∧ g.L r.s.view <+: r.s.log ∧ r.s.log <+: g.G r.s.view ∧ Safe N g r.s.view r.s.commit.toNat ∧ r.s.commit ≤ (r.s.log.length : Int)
    rw [← hnv]
    exact ⟨h.d, h.lo, h.hi, h.safe, hs.2.2.2.1.2⟩
theorem Step.told {N : Nat} {i : Int} {g : Gh} {r : Rp} (hch : r.ch = false) {kind : Int} (hk : kind = 6 ∨ kind = 8) {j : Int} (hj : 0 ≤ j ∧ j < (N : Int) ∧ j ≠ i) : Step N i g r (sendR r j (toldR r kind)) := fun hg h =>
  ⟨g, hg, Ext.refl _ _ _, h.send _ _ (minv_told h hch hk ⟨hj.1, hj.2.1, by rw [h.id]; exact hj.2.2⟩)⟩
theorem pre_snoc {l l' : List Entry} {e : Entry} (h : l <+: l') (he : l'[l.length]? = some e) : l ++ [e] <+: l' := by
  obtain ⟨t, rfl⟩ := h
  rw [List.getElem?_append_right (Nat.le_refl _), Nat.sub_self] at he
  cases t with
  | nil => simp at he
  | cons x t =>
    simp at he
    subst he
    exact ⟨t, by simp⟩
theorem Step.follow1 {N : Nat} {i : Int} {g : Gh} {r : Rp} {m : Msg} (hm : msgR m = true) : Step N i g r (follow1R r m) := by
  unfold follow1R
  split
  · exact (Step.enter ⟨‹_›, (msgR_num hm).2.1.2⟩).trans (fun _ _ => Step.quiet 0)
  · exact Step.quiet 0
theorem Step.follow2 {N : Nat} {i : Int} {g : Gh} {r : Rp} {m : Msg} (hm : MInv N g m) (hv : r.s.view = m.view) (hp : m.view % (N : Int) ≠ i) : Step N i g r (follow2R r m) := by
  unfold follow2R
  split
  case isFalse => exact Step.refl _ _ _ _
  rename_i hc
  intro hg h
  have hnv := h.norm hc.1
  have hs := h.ok.stn
  obtain ⟨k1, ⟨e, k2, k3, k4⟩, k5⟩ := hm.k1 hc.2.1
  have hnm : r.s.normal = m.view := by rw [hnv, hv]
  have hat : (g.G r.s.normal)[r.s.log.length]? = some e := by
    rw [hnm, ← k4]
    congr 1
    have := hc.2.2
    omega
  have hlt : r.s.log.length < (g.G r.s.normal).length := (List.getElem?_eq_some_iff.1 hat).1
  have hvw : g.vw i ≤ r.s.normal := by rw [h.vw, hnv]; exact Int.le_refl _
  have x : Ext N i g (g.setAc i r.s.normal (r.s.log.length + 1)) := setAc_ext hvw (by rw [h.acn]; omega)
  have g1 := setAc_inv (n := r.s.log.length + 1) hg hvw h.d hlt
  have hok := h.ok.follow2 hm.right
  unfold follow2R at hok
  rw [if_pos hc] at hok
  refine ⟨_, g1, x, ⟨hok, h.n, h.id, h.vw, h.d, h.lo.trans (List.prefix_append _ _), by show r.s.log ++ m.log <+: _; rw [k2]; exact pre_snoc h.hi hat, ?_, fun w hw => ?_, h.safe.ext x h.d, fun w hw hwp => ⟨(h.prim w hw hwp).1, fun q => absurd hwp ?_⟩, fun p hp => ⟨(h.acks p hp).1, ?_⟩, fun p hp => by obtain ⟨q1, q2, q3⟩ := h.chgs p hp; exact ⟨q1, q2.ext x, q3⟩, fun q hq => (h.out q hq).ext x⟩⟩
  · show (g.setAc i r.s.normal (r.s.log.length + 1)).Ac i r.s.normal = (r.s.log ++ m.log).length
    rw [setAc_at, if_pos ⟨rfl, rfl⟩, k2]; simp
  · have hw : r.s.normal < w := hw
    rw [setAc_at, if_neg (by omega)]; exact h.acz w hw
  · rw [show w = r.s.normal from q, hnm]; exact hp
  · have h1 := (h.acks p hp).2
    have h2 := x.acm p.1 r.s.view
    show p.2 ≤ ((g.setAc i r.s.normal (r.s.log.length + 1)).Ac p.1 r.s.view : Int)
    omega
theorem Step.raise {N : Nat} {i : Int} {g : Gh} {r : Rp} {c : Int} (hc : Safe N g r.s.normal c.toNat) : Step N i g r (raiseR r c) := fun hg h => by
  have hs := h.ok.stn
  refine ⟨g, hg, Ext.refl _ _ _, h.ok.raise c, h.n, h.id, h.vw, h.d, h.lo, h.hi, h.acn, h.acz, ?_, h.prim, h.acks, h.chgs, h.out⟩
  show Safe N g r.s.normal (max r.s.commit (min c (r.s.log.length : Int))).toNat
  by_cases h0 : 0 ≤ c
  · rw [max_toNat (by omega) (by omega)]
    exact Safe.max_ h.safe (hc.less (by omega))
  · rw [show max r.s.commit (min c (r.s.log.length : Int)) = r.s.commit by omega]
    exact h.safe
theorem Step.follow {N : Nat} {i : Int} {g : Gh} {r : Rp} {m : Msg} (hm : MInv N g m) (hk : m.kind = 1 ∨ m.kind = 3) (hv : r.s.view ≤ m.view) (hsrc : m.src ≠ i) : Step N i g r (followR r m) := by
  unfold followR
  split
  · exact Step.refl _ _ _ _
  rename_i hps
  intro hg h
  have hps : m.src = m.view % (N : Int) := by rw [← mod_prim h]; omega
  have hp : m.view % (N : Int) ≠ i := by rw [← hps]; exact hsrc
  have hsn : 0 ≤ m.src ∧ m.src < (N : Int) := ⟨(msgR_num hm.right).2.2.2.1.1, hm.src⟩
  obtain ⟨g1, q1, q2, q3⟩ := (Step.follow1 (i := i) (g := g) (N := N) hm.right) hg h
  have hm1 := hm.ext q2
  have hv1 : (follow1R r m).s.view = m.view := by
    unfold follow1R
    split
    · rfl
    · show r.s.view = m.view; omega
  obtain ⟨r1, hr1⟩ : ∃ q, q = follow1R r m := ⟨_, rfl⟩
  rw [← hr1] at q3 hv1 ⊢
  obtain ⟨g2, p1, p2, p3⟩ := (Step.follow2 hm1 hv1 hp) q1 q3
  have hm2 := hm1.ext p2
  have hv2 : (follow2R r1 m).s.view = m.view := by unfold follow2R; split <;> exact hv1
  obtain ⟨r2, hr2⟩ : ∃ q, q = follow2R r1 m := ⟨_, rfl⟩
  rw [← hr2] at p3 hv2 ⊢
  refine ⟨g2, p1, q2.trans p2, ?_⟩
  have hs2 := p3.ok.stn
  have h3 : RInv N g2 i (follow3R r2 m) := by
    unfold follow3R
    split
    · exact p3.send _ _ (minv_small p3 ⟨hsn.1, hsn.2, by rw [p3.id]; exact hsrc⟩ (.inr (.inr rfl)) (by omega) (fun e => by cases e))
    · exact p3
  have e3 : (follow3R r2 m).s = r2.s ∧ (follow3R r2 m).ch = r2.ch := by unfold follow3R; split <;> exact ⟨rfl, rfl⟩
  obtain ⟨r3, hr3⟩ : ∃ q, q = follow3R r2 m := ⟨_, rfl⟩
  rw [← hr3] at h3 e3 ⊢
  unfold follow4R
  split
  · exact h3
  rename_i hch
  have hch : r3.ch = false := by simpa using hch
  have hnv := h3.norm hch
  have hvv : r3.s.normal = m.view := by rw [hnv, e3.1, hv2]
  have hsf : Safe N g2 r3.s.normal m.commit.toNat := by
    rw [hvv]
    rcases hk with e | e
    · exact (hm2.k1 e).2.2
    · exact (hm2.k3 e).2
  have h4 : RInv N g2 i (raiseR r3 m.commit) := by
    refine ⟨h3.ok.raise _, h3.n, h3.id, h3.vw, h3.d, h3.lo, h3.hi, h3.acn, h3.acz, ?_, h3.prim, h3.acks, h3.chgs, h3.out⟩
    have hs3 := h3.ok.stn
    show Safe N g2 r3.s.normal (max r3.s.commit (min m.commit (r3.s.log.length : Int))).toNat
    have := (msgR_num hm.right).2.2.2.2.2.2
    rw [max_toNat (by omega) (by omega)]
    exact Safe.max_ h3.safe (hsf.less (by omega))
  split
  · exact h4
  · refine h4.send _ _ (minv_small h4 ⟨hsn.1, hsn.2, by rw [h4.id]; exact hsrc⟩ (.inl rfl) (by have := h3.ok.stn; omega) (fun _ => ?_))
    show (r3.s.log.length : Int) ≤ (g2.Ac i r3.s.view : Int)
    rw [← hnv, h3.acn]
    exact Int.le_refl _
end Go.Proofs.Ytaldoajdhbndhaa.Pa


/- A view begins: its log is the best one of more than half, and so has all that is chosen. -/

namespace Go.Proofs.Ytaldoajdhbndhaa.Pa

set_option linter.unusedVariables false

set_option linter.unusedSimpArgs false

/-- What replica j had when it was in a change to view u: normal view and log. -/
structure Tell (N : Nat) (g : Gh) (u : Int) (j n : Int) (l : List Entry) : Prop where
  vw : u ≤ g.vw j
  lt : n < u
  d : g.D n
  lo : g.L n <+: l
  hi : l <+: g.G n
  acn : g.Ac j n = l.length
  acz : ∀ v, n < v → v < u → g.Ac j v = 0
theorem ChMsg.tell {N : Nat} {g : Gh} {m : Msg} {u : Int} (h : ChMsg N g m) (hu : m.view = u) : Tell N g u m.src m.normal m.log := by
  subst hu
  exact ⟨h.vw, h.lt, h.d, h.lo, h.hi, h.acn, h.acz⟩
theorem RInv.tell {N : Nat} {g : Gh} {i : Int} {r : Rp} (h : RInv N g i r) (hc : r.ch = true) : Tell N g r.s.view i r.s.normal r.s.log :=
  ⟨by rw [h.vw]; exact Int.le_refl _, h.chlt hc, h.d, h.lo, h.hi, h.acn, fun v hv _ => h.acz v hv⟩
/-- No better than (bn, bl). -/
def Below_ (bn : Int) (bl : List Entry) (n : Int) (l : List Entry) : Prop := n < bn ∨ (n = bn ∧ l.length ≤ bl.length)
/-- More than half have told, and (bn, bl) is the best of it. -/
structure Best_ (N : Nat) (g : Gh) (i u : Int) (Q : List Int) (bn : Int) (bl : List Entry) : Prop where
  maj : Maj N Q
  mem : i ∈ Q
  tells : ∀ j ∈ Q, ∃ n l, Tell N g u j n l ∧ Below_ bn bl n l
  d : g.D bn
  lt : bn < u
  lo : g.L bn <+: bl
  hi : bl <+: g.G bn
  new : ¬ g.D u
  vw : g.vw i = u
/-- What more than half of P have of view v, as far as they are in Q, the best has. -/
theorem Best_.has {N : Nat} {g : Gh} {i u : Int} {Q : List Int} {bn : Int} {bl : List Entry} (h : Best_ N g i u Q bn bl) {v : Int} (hv : bn ≤ v) (hvu : v < u) {k : Nat} {P : List Int} (hP : Maj N P) (hp : ∀ j ∈ P, j ∈ Q → k ≤ g.Ac j v) : (g.G v).take k <+: bl := by
  obtain ⟨j, h1, h2⟩ := hP.meet h.maj
  have hk := hp j h1 h2
  obtain ⟨n, l, ht, hb⟩ := h.tells j h2
  by_cases hn : n < v
  · rw [ht.acz v hn hvu] at hk
    rw [Nat.le_zero.1 hk, List.take_zero]
    exact List.nil_prefix
  · rcases hb with hb | ⟨hb1, hb2⟩
    · omega
    · have e : v = bn := by omega
      subst e
      subst hb1
      rw [ht.acn] at hk
      rw [pre_take h.hi (Nat.le_trans hk hb2)]
      exact List.take_prefix _ _
theorem Best_.chosen {N : Nat} {g : Gh} {i u : Int} {Q : List Int} {bn : Int} {bl : List Entry} (hg : GInv N g) (h : Best_ N g i u Q bn bl) {v : Int} (hd : g.D v) (hvu : v < u) {k : Nat} (hc : Chosen N g v k) : (g.G v).take k <+: bl := by
  by_cases hlt : v < bn
  · exact (hg.chosen h.d hd hlt hc).trans h.lo
  · obtain ⟨P, hP, hp⟩ := hc
    exact h.has (by omega) hvu hP (fun j hj _ => hp j hj)
theorem found_at (g : Gh) (i u : Int) (l : List Entry) (j w : Int) : (g.found i u l).Ac j w = if j = i ∧ w = u then l.length else g.Ac j w := rfl
theorem found_L (g : Gh) (i u : Int) (l : List Entry) (w : Int) : (g.found i u l).L w = if w = u then l else g.L w := rfl
theorem found_G (g : Gh) (i u : Int) (l : List Entry) (w : Int) : (g.found i u l).G w = if w = u then l else g.G w := rfl
theorem Best_.ext {N : Nat} {g : Gh} {i u : Int} {Q : List Int} {bn : Int} {bl : List Entry} (hg : GInv N g) (h : Best_ N g i u Q bn bl) (hu : u % (N : Int) = i) : Ext N i g (g.found i u bl) := by
  have hne : ∀ v, g.D v → v ≠ u := fun v hv e => h.new (by rw [← e]; exact hv)
  refine ⟨fun v hv => .inr hv, fun v hv => by rw [found_L, if_neg (hne v hv)], fun v hv => by rw [found_G, if_neg (hne v hv)]; exact List.prefix_refl _, fun j w => ?_, fun j w hw => ?_, fun _ => Int.le_refl _, fun j hj => ⟨fun w => ?_, rfl⟩, fun v hv => ⟨fun hd => ?_, ?_⟩⟩
  · rw [found_at]
    split
    · rename_i e
      rw [e.2]
      have : g.Ac j u = 0 := Nat.eq_zero_of_not_pos (fun q => h.new (hg.ac j u q))
      omega
    · exact Nat.le_refl _
  · rw [found_at, if_neg]
    rintro ⟨e1, e2⟩
    rw [e1, h.vw, e2] at hw
    omega
  · rw [found_at, if_neg (fun e => hj e.1)]
  · rcases hd with e | e
    · exact absurd (by rw [e]; exact hu) hv
    · exact e
  · rw [found_G, if_neg]
    intro e
    exact hv (by rw [e]; exact hu)
theorem Best_.inv {N : Nat} {g : Gh} {i u : Int} {Q : List Int} {bn : Int} {bl : List Entry} (hg : GInv N g) (h : Best_ N g i u Q bn bl) : GInv N (g.found i u bl) := by
  have hne : ∀ v, g.D v → v ≠ u := fun v hv e => h.new (by rw [← e]; exact hv)
  have hz : ∀ j, g.Ac j u = 0 := fun j => Nat.eq_zero_of_not_pos (fun q => h.new (hg.ac j u q))
  refine ⟨hg.pos, fun v hv => ?_, fun j w hw => ?_, fun j w => ?_, fun v hv => ?_, fun a b ha hb hlt => ?_, fun v hv => ?_⟩
  · rw [found_L, found_G]
    by_cases e : v = u
    · rw [if_pos e, if_pos e]; exact List.prefix_refl _
    · rw [if_neg e, if_neg e]
      exact hg.pre v (hv.resolve_left e)
  · rw [found_at] at hw
    by_cases e : j = i ∧ w = u
    · exact .inl e.2
    · rw [if_neg e] at hw
      exact .inr (hg.ac j w hw)
  · rw [found_at, found_G]
    by_cases e : w = u
    · rw [if_pos e]
      split
      · exact Nat.le_refl _
      · rw [e, hz j]; exact Nat.zero_le _
    · rw [if_neg e, if_neg (fun q => e q.2)]
      exact hg.acl j w
  · by_cases e : v = u
    · rw [e]
      exact ⟨Q, h.maj, fun j hj => by obtain ⟨n, l, ht, _⟩ := h.tells j hj; exact ht.vw⟩
    · exact hg.top v (hv.resolve_left e)
  · by_cases ea : a = u
    · have hbD : g.D b := hb.resolve_left (by omega)
      have hbu : b ≠ u := by omega
      by_cases hbn : b < bn
      · obtain ⟨Q0, q1, q2, q3⟩ := hg.key bn b h.d hbD hbn
        refine ⟨Q0, q1, q2, fun k hk => ?_⟩
        obtain ⟨P, hP, hp⟩ := hk
        rw [found_L, if_pos ea, found_G, if_neg hbu]
        refine (q3 k ⟨P, hP, fun j hj hjq => ?_⟩).trans h.lo
        have := hp j hj hjq
        rw [found_at, if_neg (fun q => hbu q.2)] at this
        exact this
      · refine ⟨Q, h.maj, fun j hj => ?_, fun k hk => ?_⟩
        · obtain ⟨n, l, ht, _⟩ := h.tells j hj
          have := ht.vw
          show b < g.vw j
          omega
        · obtain ⟨P, hP, hp⟩ := hk
          rw [found_L, if_pos ea, found_G, if_neg hbu]
          refine h.has (by omega) (by omega) hP (fun j hj hjq => ?_)
          have := hp j hj hjq
          rw [found_at, if_neg (fun q => hbu q.2)] at this
          exact this
    · have haD : g.D a := ha.resolve_left ea
      by_cases eb : b = u
      · obtain ⟨Q0, q1, q2⟩ := hg.top a haD
        refine ⟨Q0, q1, fun j hj => by have := q2 j hj; show b < g.vw j; omega, fun k hk => ?_⟩
        obtain ⟨P, hP, hp⟩ := hk
        obtain ⟨j, j1, j2⟩ := hP.meet q1
        have hk0 := hp j j1 j2
        rw [found_at, if_neg, eb, hz j] at hk0
        · rw [Nat.le_zero.1 hk0, List.take_zero]
          exact List.nil_prefix
        · rintro ⟨e, _⟩
          have := q2 j j2
          rw [e, h.vw] at this
          omega
      · have hbD : g.D b := hb.resolve_left eb
        obtain ⟨Q0, q1, q2, q3⟩ := hg.key a b haD hbD hlt
        refine ⟨Q0, q1, q2, fun k hk => ?_⟩
        obtain ⟨P, hP, hp⟩ := hk
        rw [found_L, if_neg ea, found_G, if_neg eb]
        refine q3 k ⟨P, hP, fun j hj hjq => ?_⟩
        have := hp j hj hjq
        rw [found_at, if_neg (fun q => eb q.2)] at this
        exact this
  · rw [found_G]
    by_cases e : v = u
    · rw [if_pos e]
      exact (hg.inc bn h.d).pre h.hi
    · rw [if_neg e]
      exact hg.inc v (hv.resolve_left e)
theorem Best_.safe {N : Nat} {g : Gh} {i u : Int} {Q : List Int} {bn : Int} {bl : List Entry} (hg : GInv N g) (h : Best_ N g i u Q bn bl) {n : Int} (hn : n < u) {k : Nat} (hs : Safe N g n k) : Safe N (g.found i u bl) u k := by
  obtain ⟨v, h1, h2, h3, h4, h5⟩ := hs
  have hvu : v ≠ u := by omega
  have hc := h.chosen hg h2 (by omega) h3
  refine ⟨v, by omega, .inr h2, ?_, ?_, ?_⟩
  · obtain ⟨P, hP, hp⟩ := h3
    refine ⟨P, hP, fun j hj => ?_⟩
    rw [found_at, if_neg (fun q => hvu q.2)]
    exact hp j hj
  · rw [found_G, if_neg hvu]; exact h4
  · rw [found_G, if_neg hvu, found_G, if_pos rfl]; exact hc
end Go.Proofs.Ytaldoajdhbndhaa.Pa


/- What a replica does in a change, and at each message, keeps what is so of all of them. -/

namespace Go.Proofs.Ytaldoajdhbndhaa.Pa

set_option linter.unusedVariables false

set_option linter.unusedSimpArgs false
theorem take_of_pre {X Y : List Entry} {c : Nat} (h : X.take c <+: Y) (hc : c ≤ X.length) : Y.take c = X.take c := by
  have := List.prefix_iff_eq_take.1 h
  rw [List.length_take, Nat.min_eq_left hc] at this
  exact this.symm
theorem Below_.refl (n : Int) (l : List Entry) : Below_ n l n l := .inr ⟨rfl, Nat.le_refl _⟩
theorem Below_.trans {a b c : Int} {x y z : List Entry} (h : Below_ b y a x) (k : Below_ c z b y) : Below_ c z a x := by
  rcases h with h | ⟨h1, h2⟩ <;> rcases k with k | ⟨k1, k2⟩
  · exact .inl (by omega)
  · exact .inl (by omega)
  · exact .inl (by omega)
  · exact .inr ⟨by omega, by omega⟩
theorem look_of_mem {α : Type} : ∀ {L : List (Int × α)}, (L.map (·.1)).Nodup → ∀ {p : Int × α}, p ∈ L → look p.1 L = some p.2
  | [], _, p, h => by cases h
  | q :: L, hn, p, h => by
    rw [List.map_cons, List.nodup_cons] at hn
    rw [look_cons]
    rcases List.mem_cons.1 h with e | e
    · rw [e, if_pos rfl]
    · rw [if_neg]
      · exact look_of_mem hn.2 e
      · intro e2
        exact hn.1 (List.mem_map.2 ⟨p, e, e2.symm⟩)
/-- What does not fit is no better than one's own. -/
theorem unfit_own {N : Nat} {g : Gh} {i : Int} {r : Rp} (hg : GInv N g) (h : RInv N g i r) {m : Msg} (hm : ChMsg N g m) (hf : fitsR r m.log = false) : Below_ r.s.normal r.s.log m.normal m.log := by
  have hs := h.ok.stn
  obtain ⟨c, hc⟩ : ∃ c : Nat, r.s.commit = (c : Int) := ⟨r.s.commit.toNat, by omega⟩
  have hcl : c ≤ r.s.log.length := by omega
  have hno : ¬ ((c : Int) ≤ (m.log.length : Int) ∧ m.log.take c = r.s.log.take c) := fun e => by
    have : fitsR r m.log = true := fitsR_iff.2 (by rw [hc]; exact e)
    rw [this] at hf; cases hf
  by_cases h1 : m.normal < r.s.normal
  · exact .inl h1
  by_cases h2 : m.normal = r.s.normal
  · by_cases h3 : m.log.length ≤ r.s.log.length
    · exact .inr ⟨h2, h3⟩
    · exfalso
      have hp : r.s.log <+: m.log := pre_same h.hi (by rw [← h2]; exact hm.hi) (by omega)
      exact hno ⟨by omega, pre_take hp hcl⟩
  · exfalso
    obtain ⟨v, q1, q2, q3, q4, q5⟩ := h.safe
    rw [hc, Int.toNat_natCast] at q3 q4 q5
    have hk := (hg.chosen hm.d q2 (by omega) q3).trans hm.lo
    have e1 := take_of_pre hk q4
    have e2 := take_of_pre q5 q4
    have e3 : r.s.log.take c = (g.G v).take c := by rw [← e2, ← pre_take h.hi hcl]
    refine hno ⟨?_, by rw [e1, e3]⟩
    have := hk.length_le
    rw [List.length_take, Nat.min_eq_left q4] at this
    omega
/-- The best of what is told. -/
structure BestTo (r : Rp) (k : Nat) (b : Best) : Prop where
  own : Below_ b.normal b.log r.s.normal r.s.log
  all : ∀ j : Nat, j < k → ∀ m, look (j : Int) r.chgs = some m → Below_ b.normal b.log m.normal m.log
  one : (b.normal = r.s.normal ∧ b.log = r.s.log) ∨ ∃ p ∈ r.chgs, b.normal = p.2.normal ∧ b.log = p.2.log
  done : b.done = r.s.commit ∨ ∃ p ∈ r.chgs, b.done = p.2.commit
theorem best_to {N : Nat} {g : Gh} {i : Int} {r : Rp} (hg : GInv N g) (h : RInv N g i r) : ∀ k, BestTo r k (bestTo r k)
  | 0 => ⟨.refl _ _, fun j hj => by omega, .inl ⟨rfl, rfl⟩, .inl rfl⟩
  | k + 1 => by
    have ih := best_to hg h k
    rw [bestTo]
    obtain ⟨b, hb⟩ : ∃ b, b = bestTo r k := ⟨_, rfl⟩
    rw [← hb] at ih ⊢
    clear hb
    unfold bestStep
    split
    · rename_i hl
      refine ⟨ih.own, fun j hj m hm => ?_, ih.one, ih.done⟩
      by_cases e : j = k
      · rw [e, hl] at hm; cases hm
      · exact ih.all j (by omega) m hm
    · rename_i m hl
      have hmem := look_mem hl
      split
      · rename_i hf
        have hmb : Below_ (if better b m then m.normal else b.normal) (if better b m then m.log else b.log) b.normal b.log ∧ Below_ (if better b m then m.normal else b.normal) (if better b m then m.log else b.log) m.normal m.log := by
          by_cases hbt : better b m = true
          · rw [if_pos hbt, if_pos hbt]
            refine ⟨?_, .refl _ _⟩
            unfold better at hbt
            rw [Bool.or_eq_true, Bool.and_eq_true, decide_eq_true_eq, decide_eq_true_eq, decide_eq_true_eq] at hbt
            rcases hbt with e | e
            · exact .inl e
            · exact .inr ⟨e.1.symm, Nat.le_of_lt e.2⟩
          · rw [if_neg hbt, if_neg hbt]
            refine ⟨.refl _ _, ?_⟩
            unfold better at hbt
            rw [Bool.or_eq_true, Bool.and_eq_true, decide_eq_true_eq, decide_eq_true_eq, decide_eq_true_eq] at hbt
            by_cases e1 : m.normal < b.normal
            · exact .inl e1
            · have e2 : m.normal = b.normal := by
                have : ¬ b.normal < m.normal := fun e => hbt (.inl e)
                omega
              exact .inr ⟨e2, by have : ¬ b.log.length < m.log.length := fun e => hbt (.inr ⟨e2, e⟩); omega⟩
        refine ⟨ih.own.trans hmb.1, fun j hj m' hm' => ?_, ?_, ?_⟩
        · by_cases e : j = k
          · rw [e, hl] at hm'
            cases hm'
            exact hmb.2
          · exact (ih.all j (by omega) m' hm').trans hmb.1
        · by_cases hbt : better b m = true
          · refine .inr ⟨_, hmem, ?_, ?_⟩
            · show (if better b m then m.normal else b.normal) = m.normal
              rw [if_pos hbt]
            · show (if better b m then m.log else b.log) = m.log
              rw [if_pos hbt]
          · rcases ih.one with e | ⟨p, hp, e⟩
            · refine .inl ⟨?_, ?_⟩
              · show (if better b m then m.normal else b.normal) = _
                rw [if_neg hbt]; exact e.1
              · show (if better b m then m.log else b.log) = _
                rw [if_neg hbt]; exact e.2
            · refine .inr ⟨p, hp, ?_, ?_⟩
              · show (if better b m then m.normal else b.normal) = _
                rw [if_neg hbt]; exact e.1
              · show (if better b m then m.log else b.log) = _
                rw [if_neg hbt]; exact e.2
        · show max b.done m.commit = _ ∨ ∃ p ∈ r.chgs, max b.done m.commit = _
          rcases Int.le_total b.done m.commit with e | e
          · rw [Int.max_eq_right e]
            exact .inr ⟨_, hmem, rfl⟩
          · rw [Int.max_eq_left e]
            exact ih.done
      · rename_i hf
        have hf : fitsR r m.log = false := by simpa using hf
        have hcm := (h.chgs _ hmem).2.1
        refine ⟨ih.own, fun j hj m' hm' => ?_, ih.one, ih.done⟩
        by_cases e : j = k
        · rw [e, hl] at hm'
          cases hm'
          exact (unfit_own hg h hcm hf).trans ih.own
        · exact ih.all j (by omega) m' hm'
theorem Step.decide_ {N : Nat} {i : Int} {g : Gh} {r : Rp} : Step N i g r (decideR r) := by
  unfold decideR
  split
  case isFalse => exact Step.refl _ _ _ _
  rename_i hc
  intro hg h
  obtain ⟨hch, hp, hq⟩ := hc
  have hs := h.ok.stn
  have hcf := h.ok.cfg
  have hn := h.n
  have hB := best_to hg h r.n.toNat
  obtain ⟨b, hb⟩ : ∃ b, b = bestTo r r.n.toNat := ⟨_, rfl⟩
  have hok := h.ok.won r.n.toNat
  rw [← hb] at hB hok ⊢
  clear hb
  have hu : r.s.view % (N : Int) = i := by rw [← mod_prim h, hp, h.id]
  have htl := h.tell hch
  have hpl : ∀ p ∈ r.chgs, Tell N g r.s.view p.1 p.2.normal p.2.log := fun p hp => by
    obtain ⟨_, q2, q3, q4⟩ := h.chgs p hp
    rw [← q4]
    exact q2.tell q3
  have hone : g.D b.normal ∧ b.normal < r.s.view ∧ g.L b.normal <+: b.log ∧ b.log <+: g.G b.normal := by
    rcases hB.one with ⟨e1, e2⟩ | ⟨p, hp, e1, e2⟩
    · rw [e1, e2]; exact ⟨htl.d, htl.lt, htl.lo, htl.hi⟩
    · have := hpl p hp
      rw [e1, e2]; exact ⟨this.d, this.lt, this.lo, this.hi⟩
  have hbest : Best_ N g i r.s.view (i :: r.chgs.map (·.1)) b.normal b.log := by
    refine ⟨⟨?_, fun j hj => ?_, ?_⟩, List.mem_cons_self, fun j hj => ?_, hone.1, hone.2.1, hone.2.2.1, hone.2.2.2, fun hd => ?_, h.vw⟩
    · rw [List.nodup_cons]
      refine ⟨fun hi => ?_, h.ok.nod.2.2⟩
      obtain ⟨p, hp, e⟩ := List.mem_map.1 hi
      exact (h.chgs p hp).1 e
    · rcases List.mem_cons.1 hj with e | e
      · rw [e, ← h.id, ← hn]; exact ⟨hcf.2.1, hcf.2.2.1⟩
      · obtain ⟨p, hp, e⟩ := List.mem_map.1 e
        have := h.ok.chgs p hp
        rw [← e, ← hn]
        exact ⟨this.1, this.2.1⟩
    · unfold halfR at hq
      rw [hn] at hq
      rw [List.length_cons, List.length_map]
      omega
    · rcases List.mem_cons.1 hj with e | e
      · rw [e]; exact ⟨_, _, htl, hB.own⟩
      · obtain ⟨p, hp, e⟩ := List.mem_map.1 e
        have hp1 := h.ok.chgs p hp
        refine ⟨_, _, by rw [← e]; exact hpl p hp, hB.all p.1.toNat (by omega) p.2 ?_⟩
        rw [Int.toNat_of_nonneg hp1.1]
        exact look_of_mem h.ok.nod.2.2 hp
    · have := (h.prim _ hd hu).1
      have := h.chlt hch
      omega
  have x := hbest.ext hg hu
  have g1 := hbest.inv hg
  have hsf : Safe N (g.found i r.s.view b.log) r.s.view (min b.done (b.log.length : Int)).toNat := by
    rcases hB.done with e | ⟨p, hp, e⟩
    · exact (hbest.safe hg (h.chlt hch) h.safe).less (by omega)
    · have hcm := (h.chgs p hp).2.1
      exact (hbest.safe hg (hpl p hp).lt hcm.safe).less (by omega)
  obtain ⟨g', hg'⟩ : ∃ q, q = g.found i r.s.view b.log := ⟨_, rfl⟩
  have hA : ∀ w, g'.Ac i w = if w = r.s.view then b.log.length else g.Ac i w := fun w => by
    rw [hg', found_at]
    by_cases e : w = r.s.view
    · rw [if_pos ⟨rfl, e⟩, if_pos e]
    · rw [if_neg (fun q => e q.2), if_neg e]
  have hD : ∀ w, g'.D w ↔ (w = r.s.view ∨ g.D w) := fun w => by rw [hg']; exact Iff.rfl
  have hL : g'.L r.s.view = b.log := by rw [hg', found_L, if_pos rfl]
  have hG : g'.G r.s.view = b.log := by rw [hg', found_G, if_pos rfl]
  have hV : g'.vw i = r.s.view := by rw [hg']; exact h.vw
  rw [← hg'] at x g1 hsf
  clear hg'
  have hR : RInv N g' i (wonR r b) := ⟨hok, h.n, h.id, hV, (hD _).2 (.inl rfl), by show g'.L r.s.view <+: b.log; rw [hL]; exact List.prefix_refl _, by show b.log <+: g'.G r.s.view; rw [hG]; exact List.prefix_refl _, by show g'.Ac i r.s.view = b.log.length; rw [hA, if_pos rfl], fun w hw => by
      have hw : r.s.view < w := hw
      rw [hA, if_neg (by omega)]
      exact h.acz w (by omega), hsf, fun v hv hvp => by
      rcases (hD v).1 hv with e | e
      · exact ⟨by show v ≤ r.s.view; omega, fun _ => by rw [e, hG]; rfl⟩
      · have := (h.prim v e hvp).1
        have := h.chlt hch
        exact ⟨by show v ≤ r.s.view; omega, fun q => by have q : v = r.s.view := q; omega⟩, fun p hp => (by cases hp), fun p hp => (by cases hp), fun q hq => (h.out q hq).ext x⟩
  exact ⟨g', g1, x, hR.say _ (fun j j1 j2 j3 => minv_told hR rfl (.inl rfl) ⟨j1, j2, j3⟩)⟩
/-- A message that tells all that a replica in a change has. -/
theorem minv_change {N : Nat} {g : Gh} {i : Int} {r : Rp} (h : RInv N g i r) (hch : r.ch = true) {j : Int} (hj : 0 ≤ j ∧ j < (N : Int) ∧ j ≠ r.id) : MInv N g { ({ toldR r 5 with normal := r.s.normal } : Msg) with view := r.s.view, src := r.id, dst := j } := by
  have hc := h.ok.cfg
  have hn := h.n
  have hs := h.ok.stn
  have htl := h.tell hch
  refine ⟨msgR_mk (show (1 : Int) ≤ 5 ∧ (5 : Int) ≤ 8 by decide) hs.1 (by show 0 ≤ r.s.normal ∧ r.s.normal ≤ _; omega) (by show 0 ≤ r.id ∧ r.id ≤ 6; omega) (by show 0 ≤ j ∧ j ≤ 6; omega) (by show 0 ≤ (r.s.log.length : Int) ∧ (r.s.log.length : Int) ≤ 64; omega) (by show 0 ≤ r.s.commit ∧ r.s.commit ≤ 64; omega) ?_ hs.2.2.2.2.2, by show r.id < _; omega, by show j < _; omega, fun e => hj.2.2 e.symm, ?_, fun e => ?_, fun e => ?_, fun e => ?_, fun e => ?_, fun e => ?_⟩
  · show if (5 : Int) = 1 then _ else if (5 : Int) = 5 ∨ (5 : Int) = 6 ∨ (5 : Int) = 8 then _ else _
    rw [if_neg (by decide), if_pos (by decide)]; exact hs.2.2.1
  · show r.s.view ≤ g.vw r.id
    rw [h.id, h.vw]; exact Int.le_refl _
  · have : (5 : Int) = 1 := e; omega
  · have : (5 : Int) = 2 := e; omega
  · have : (5 : Int) = 3 := e; omega
  · refine ⟨?_, h.chlt hch, h.d, h.lo, h.hi, ?_, fun v v1 v2 => ?_, h.safe, hs.2.2.2.1.2⟩
    · show r.s.view ≤ g.vw r.id
      rw [h.id, h.vw]; exact Int.le_refl _
    · show g.Ac r.id r.s.normal = _
      rw [h.id]; exact h.acn
    · show g.Ac r.id v = 0
      rw [h.id]; exact h.acz v v1
  · have : (5 : Int) = 6 ∨ (5 : Int) = 8 := e; omega
theorem Step.see {N : Nat} {i : Int} {g : Gh} {r : Rp} : Step N i g r (seeR r) := by
  unfold seeR
  split
  case isFalse => exact Step.refl _ _ _ _
  rename_i hc
  have hsaid : Step N i g r { r with said := true } := fun hg h => ⟨g, hg, Ext.refl _ _ _, h.same (h.ok.sd true) ⟨rfl, rfl⟩ rfl (.inl rfl) (.inl rfl) (fun m hm => .inl hm)⟩
  split
  · exact hsaid.trans (fun _ _ => Step.decide_)
  · rename_i hp
    refine hsaid.trans (fun g' _ => fun hg h => ⟨g', hg, Ext.refl _ _ _, ?_⟩)
    have hpl := prim_lt h.ok r.s.view
    have hcf := h.ok.cfg
    have hn : r.n = (N : Int) := h.n
    have hpn : primR r r.s.view < (N : Int) := by
      have := mod_prim h r.s.view
      rw [show primR { r with said := true } r.s.view = primR r r.s.view from rfl] at this
      rw [this]
      have hcf1 : r.n = 3 ∨ r.n = 5 ∨ r.n = 7 := hcf.1
      exact Int.emod_lt_of_pos _ (by omega)
    exact h.send _ _ (minv_change h hc.1 ⟨hpl.1, hpn, hp⟩)
theorem Step.turn2 {N : Nat} {i : Int} {g : Gh} {r : Rp} {m : Msg} (hm : MInv N g m) (hv : r.s.view = m.view) (hsrc : m.src ≠ i) : Step N i g r (turn2R r m) := by
  have hmn := msgR_num hm.right
  unfold turn2R
  split
  · intro hg h
    have h1 : RInv N g i { r with starts := ups m.src true r.starts } := h.same (h.ok.start ⟨hmn.2.2.2.1.1, by rw [h.n]; exact hm.src⟩ true) ⟨rfl, rfl⟩ rfl (.inl rfl) (.inl rfl) (fun m hm => .inl hm)
    exact Step.see hg h1
  · split
    · rename_i hk
      intro hg h
      have h1 : RInv N g i { r with chgs := ups m.src m r.chgs } := ⟨h.ok.change ⟨hmn.2.2.2.1.1, by rw [h.n]; exact hm.src⟩ hm.right, h.n, h.id, h.vw, h.d, h.lo, h.hi, h.acn, h.acz, h.safe, h.prim, h.acks, fun p hp => by
        rcases mem_ups hp with e | e
        · rw [e]; exact ⟨hsrc, hm.k5 hk.1, hv.symm, rfl⟩
        · exact h.chgs p e, h.out⟩
      exact Step.decide_ hg h1
    · rename_i h4 h5
      split
      · rename_i hk
        refine Step.told ?_ (.inl rfl) ⟨hmn.2.2.2.1.1, hm.src, hsrc⟩
        cases hc : r.ch
        · rfl
        · exact absurd ⟨hk, hc⟩ h5
      · exact Step.refl _ _ _ _
theorem Step.turn {N : Nat} {i : Int} {g : Gh} {r : Rp} {m : Msg} (hm : MInv N g m) (hv : r.s.view ≤ m.view) (hsrc : m.src ≠ i) : Step N i g r (turnR r m) := by
  unfold turnR
  split
  · exact Step.refl _ _ _ _
  · by_cases h : r.s.view < m.view
    · rw [if_pos h]
      refine (Step.begin_ ⟨h, (msgR_num hm.right).2.1.2⟩).trans (fun g' x => Step.turn2 (hm.ext x) ?_ hsrc)
      obtain ⟨l, e, _⟩ := sayTo_same { enterR r m.view with starts := ups r.id true [] } (msgOp 4 0) r.n.toNat
      have e2 : beginR r m.view = _ := e
      rw [e2]; rfl
    · rw [if_neg h]
      exact Step.turn2 hm (by omega) hsrc
/-- A message that was said and is delivered. -/
theorem Step.deliver {N : Nat} {i : Int} {g : Gh} {r : Rp} {m : Msg} (hm : MInv N g m) (hi : r.id = i) : Step N i g r (deliverR r m).1 := by
  unfold deliverR
  split
  · exact Step.refl _ _ _ _
  rename_i hmt
  split
  · exact Step.refl _ _ _ _
  rename_i hv
  have hv : r.s.view ≤ m.view := by omega
  have hmn := msgR_num hm.right
  have hsrc : m.src ≠ i := by
    have : meantR r m = true := by simpa using hmt
    unfold meantR at this
    rw [Bool.and_eq_true, decide_eq_true_eq] at this
    rw [← hi]; exact this.2.2.1
  show Step N i g r (heardR r m)
  unfold heardR
  split
  · rename_i hk; exact Step.follow hm hk hv hsrc
  split
  · rename_i hk; exact Step.ack hm hk hsrc
  split
  · exact Step.turn hm hv hsrc
  split
  · rename_i hk
    split
    · rename_i hc
      intro hg h
      refine Step.take hm (.inl hk) hv ?_ ?_ hg h
      · rw [← mod_prim h, ← hc.1]; exact hsrc
      · have := hc.2
        unfold newerR at this
        rw [Bool.or_eq_true, decide_eq_true_eq] at this
        rcases this with e | e
        · exact .inl e
        · exact .inr (.inl e)
    · exact Step.refl _ _ _ _
  split
  · split
    · rename_i hc
      exact Step.told hc.2 (.inr rfl) ⟨hmn.2.2.2.1.1, hm.src, hsrc⟩
    · exact Step.refl _ _ _ _
  split
  · rename_i hk
    split
    · rename_i hc
      intro hg h
      refine Step.take hm (.inr hk) hv ?_ ?_ hg h
      · rw [← mod_prim h, ← h.id]; exact hc.1
      · rcases hc.2 with e | e
        · unfold newerR at e
          rw [Bool.or_eq_true, decide_eq_true_eq] at e
          rcases e with e | e
          · exact .inl e
          · exact .inr (.inl e)
        · exact .inr (.inr e)
    · exact Step.refl _ _ _ _
  · exact Step.refl _ _ _ _
end Go.Proofs.Ytaldoajdhbndhaa.Pa


/- What a replica keeps, and what it says, whatever it hears. No program in sight. -/

namespace Go.Proofs.Ytaldoajdhbndhaa.Pa

set_option linter.unusedVariables false

set_option linter.unusedSimpArgs false

/-- No view and no Commit goes down, what is committed stays, Active too. -/
structure Keep (a b : St) : Prop where
  view : a.view ≤ b.view
  normal : a.normal ≤ b.normal
  commit : a.commit ≤ b.commit
  log : b.log.take a.commit.toNat = a.log.take a.commit.toNat
  active : b.active = a.active
theorem Keep.refl (a : St) : Keep a a := ⟨Int.le_refl _, Int.le_refl _, Int.le_refl _, rfl, rfl⟩
theorem Keep.trans {a b c : St} (h : Keep a b) (k : Keep b c) : Keep a c := by
  refine ⟨Int.le_trans h.view k.view, Int.le_trans h.normal k.normal, Int.le_trans h.commit k.commit, ?_, k.active.trans h.active⟩
  have h1 : a.commit.toNat ≤ b.commit.toNat := by have := h.commit; omega
  have h2 : ∀ l : List Entry, l.take a.commit.toNat = (l.take b.commit.toNat).take a.commit.toNat := fun l => by rw [List.take_take, Nat.min_eq_left h1]
  rw [h2 c.log, k.log, ← h2 b.log, h.log]
theorem say_s (r : Rp) (m : Msg) : (sayR r m).s = r.s ∧ (sayR r m).n = r.n ∧ (sayR r m).id = r.id ∧ (sayR r m).ch = r.ch := by
  obtain ⟨l, e, _⟩ := sayTo_same r m r.n.toNat
  unfold sayR
  rw [e]
  exact ⟨rfl, rfl, rfl, rfl⟩
/-! ### What it says -/

/-- What is so of what is said: right, of its view, from itself, to others. -/
structure SayAt (r : Rp) (m : Msg) : Prop where
  right : msgR m = true
  src : m.src = r.id
  ne : m.dst ≠ r.id
  dst : m.dst < r.n
  view : m.view = r.s.view
  op : m.op ≤ (r.s.log.length : Int)
  commit : m.commit ≤ r.s.commit
theorem SayAt.mono {r r' : Rp} {m : Msg} (h : SayAt r m) (h1 : r'.n = r.n ∧ r'.id = r.id ∧ r'.s.view = r.s.view) (h2 : r.s.log.length ≤ r'.s.log.length) (h3 : r.s.commit ≤ r'.s.commit) : SayAt r' m :=
  ⟨h.right, by rw [h1.2.1]; exact h.src, by rw [h1.2.1]; exact h.ne, by rw [h1.1]; exact h.dst, by rw [h1.2.2]; exact h.view, by have := h.op; omega, by have := h.commit; omega⟩
def Says (r : Rp) : Prop := ∀ m ∈ r.out, SayAt r m
theorem Says.nil {r : Rp} (h : r.out = []) : Says r := fun m hm => by rw [h] at hm; cases hm
theorem Says.send {r : Rp} (h : Says r) {y : Int} {m : Msg} (hm : SayAt r { m with view := r.s.view, src := r.id, dst := y }) : Says (sendR r y m) := fun x hx => by
  rcases List.mem_append.1 hx with hx | hx
  · exact (h x hx).mono ⟨rfl, rfl, rfl⟩ (Nat.le_refl _) (Int.le_refl _)
  · rw [List.mem_singleton.1 hx]; exact hm.mono ⟨rfl, rfl, rfl⟩ (Nat.le_refl _) (Int.le_refl _)
theorem Says.say {r : Rp} (h : Says r) (hn : 0 ≤ r.n) {m : Msg} (hm : ∀ j : Int, 0 ≤ j → j < r.n → j ≠ r.id → SayAt r { m with view := r.s.view, src := r.id, dst := j }) : Says (sayR r m) := fun x hx => by
  have hs := say_s r m
  have key : SayAt r x := by
    rcases mem_sayTo r m _ x hx with hx | ⟨j, h1, h2, h3⟩
    · exact h x hx
    · rw [h3]; exact hm j (by omega) (by omega) h2
  exact key.mono ⟨hs.2.1, hs.2.2.1, by rw [hs.1]⟩ (by rw [hs.1]; exact Nat.le_refl _) (by rw [hs.1]; exact Int.le_refl _)
theorem Says.same {r r' : Rp} (h : Says r) (ho : r'.out = r.out) (h1 : r'.n = r.n ∧ r'.id = r.id ∧ r'.s.view = r.s.view) (h2 : r.s.log.length ≤ r'.s.log.length) (h3 : r.s.commit ≤ r'.s.commit) : Says r' := fun m hm => by
  rw [ho] at hm
  exact (h m hm).mono h1 h2 h3
theorem RpOk.n0 {r : Rp} (h : RpOk r) : 0 ≤ r.n := by have := h.cfg; omega
/-- Only of the beginning of a view has been spoken. -/
def Starts (r : Rp) : Prop := ∀ m ∈ r.out, SayAt r m ∧ m.op = 0 ∧ m.commit = 0
theorem Starts.nil {r : Rp} (h : r.out = []) : Starts r := fun m hm => by rw [h] at hm; cases hm
/-! ### How long it has been quiet -/
def Qt (a b : Rp) : Prop := b.quiet = a.quiet ∨ b.quiet = 0
theorem Qt.refl (a : Rp) : Qt a a := .inl rfl
theorem Qt.trans {a b c : Rp} (h : Qt a b) (k : Qt b c) : Qt a c := by
  unfold Qt at *
  rcases k with k | k
  · rw [k]; exact h
  · exact .inr k
theorem qt_say (r : Rp) (m : Msg) : Qt r (sayR r m) := by
  obtain ⟨l, e, _⟩ := sayTo_same r m r.n.toNat
  unfold sayR
  rw [e]
  exact .inl rfl
theorem qt_begin (r : Rp) (v : Int) : Qt r (beginR r v) := by
  unfold beginR
  refine Qt.trans (b := { enterR r v with starts := ups r.id true [] }) (.inr rfl) (qt_say _ _)
theorem qt_decide (r : Rp) : Qt r (decideR r) := by
  unfold decideR
  split
  · exact Qt.trans (b := wonR r (bestTo r r.n.toNat)) (.inr rfl) (qt_say _ _)
  · exact Qt.refl _
theorem qt_see (r : Rp) : Qt r (seeR r) := by
  unfold seeR
  split
  · split
    · exact Qt.trans (b := { r with said := true }) (.inl rfl) (qt_decide _)
    · exact .inl rfl
  · exact Qt.refl _
theorem qt_take (r : Rp) (m : Msg) : Qt r (takeR r m) := by
  unfold takeR
  split
  · exact .inr rfl
  · exact Qt.refl _
theorem qt_follow (r : Rp) (m : Msg) : Qt r (followR r m) := by
  unfold followR
  split
  · exact Qt.refl _
  · have k1 : (follow1R r m).quiet = 0 := by unfold follow1R; rfl
    have k2 : (follow2R (follow1R r m) m).quiet = 0 := by unfold follow2R; split <;> exact k1
    have k3 : (follow3R (follow2R (follow1R r m) m) m).quiet = 0 := by unfold follow3R; split <;> exact k2
    refine .inr ?_
    unfold follow4R
    split
    · exact k3
    · split <;> exact k3
theorem qt_ack (r : Rp) (m : Msg) : Qt r (ackR r m) := by
  unfold ackR
  split
  · exact Qt.refl _
  · exact .inl rfl
theorem qt_turn (r : Rp) (m : Msg) : Qt r (turnR r m) := by
  have h2 : ∀ q : Rp, Qt q (turn2R q m) := fun q => by
    unfold turn2R
    split
    · exact Qt.trans (b := { q with starts := ups m.src true q.starts }) (.inl rfl) (qt_see _)
    · split
      · exact Qt.trans (b := { q with chgs := ups m.src m q.chgs }) (.inl rfl) (qt_decide _)
      · split
        · exact .inl rfl
        · exact Qt.refl _
  unfold turnR
  split
  · exact Qt.refl _
  · split
    · exact (qt_begin r _).trans (h2 _)
    · exact h2 r
theorem qt_deliver (r : Rp) (m : Msg) : Qt r (deliverR r m).1 := by
  unfold deliverR
  split
  · exact Qt.refl _
  · split
    · exact Qt.refl _
    · show Qt r (heardR r m)
      unfold heardR
      split
      · exact qt_follow r m
      · split
        · exact qt_ack r m
        · split
          · exact qt_turn r m
          · split
            · split
              · exact qt_take r m
              · exact Qt.refl _
            · split
              · split
                · exact .inl rfl
                · exact Qt.refl _
              · split
                · split
                  · exact qt_take r m
                  · exact Qt.refl _
                · exact Qt.refl _
theorem qt_submit (r : Rp) (e : Entry) : Qt r (submitR r e).1 := by
  unfold submitR
  split
  · exact Qt.refl _
  · split
    · exact Qt.refl _
    · split
      · exact Qt.refl _
      · split
        · exact Qt.refl _
        · exact Qt.trans (b := putR r [{ e with view := r.s.view }]) (.inl rfl) (qt_say _ _)
theorem qt_tick {r : Rp} (h : 0 ≤ r.quiet) : 0 ≤ (tickR r).quiet ∧ (tickR r).quiet ≤ r.quiet + 1 := by
  unfold tickR
  split
  · have := qt_say r ⟨3, 0, 0, 0, r.s.log.length, r.s.commit, 0, []⟩
    unfold Qt at this
    omega
  · split
    · have := qt_begin { r with quiet := r.quiet + 1 } (r.s.view + 1)
      unfold Qt at this
      have e : ({ r with quiet := r.quiet + 1 } : Rp).quiet = r.quiet + 1 := rfl
      rw [e] at this
      omega
    · show 0 ≤ r.quiet + 1 ∧ r.quiet + 1 ≤ r.quiet + 1
      omega

/-! ### Its config stays -/
def Cf (a b : Rp) : Prop := b.n = a.n ∧ b.id = a.id ∧ b.tm = a.tm
theorem Cf.refl (a : Rp) : Cf a a := ⟨rfl, rfl, rfl⟩
theorem Cf.trans {a b c : Rp} (h : Cf a b) (k : Cf b c) : Cf a c := ⟨k.1.trans h.1, k.2.1.trans h.2.1, k.2.2.trans h.2.2⟩
theorem cf_say (r : Rp) (m : Msg) : Cf r (sayR r m) := by
  obtain ⟨l, e, _⟩ := sayTo_same r m r.n.toNat
  unfold sayR
  rw [e]
  exact ⟨rfl, rfl, rfl⟩
theorem cf_begin (r : Rp) (v : Int) : Cf r (beginR r v) := by
  unfold beginR
  exact Cf.trans (b := { enterR r v with starts := ups r.id true [] }) ⟨rfl, rfl, rfl⟩ (cf_say _ _)
end Go.Proofs.Ytaldoajdhbndhaa.Pa


/- Several replicas and what is under way between them: what is so of them all, and what follows. -/

namespace Go.Proofs.Ytaldoajdhbndhaa.Pa

set_option linter.unusedVariables false

set_option linter.unusedSimpArgs false

/-- N replicas between two calls, t steps behind the beginning, and the messages that may come. -/
def NInv (N t : Nat) (rs : List Rp) (net : List Msg) : Prop :=
  rs.length = N ∧ (∀ r ∈ rs, r.out = [] ∧ 0 ≤ r.quiet ∧ r.quiet ≤ (t : Int)) ∧ ∃ g, GInv N g ∧ (∀ (i : Nat) r, rs[i]? = some r → RInv N g (i : Int) r) ∧ ∀ m ∈ net, MInv N g m
theorem RInv.clear {N : Nat} {g : Gh} {i : Int} {r : Rp} (h : RInv N g i r) : RInv N g i { r with out := [] } := h.same (h.ok.out []) ⟨rfl, rfl⟩ rfl (.inl rfl) (.inl rfl) (fun m hm => by cases hm)
theorem NInv.sub {N t : Nat} {rs : List Rp} {net net' : List Msg} (h : NInv N t rs net) (hs : ∀ m ∈ net', m ∈ net) : NInv N t rs net' := by
  obtain ⟨h1, h2, g, h3, h4, h5⟩ := h
  exact ⟨h1, h2, g, h3, h4, fun m hm => h5 m (hs m hm)⟩
theorem NInv.later {N t t' : Nat} {rs : List Rp} {net : List Msg} (h : NInv N t rs net) (ht : t ≤ t') : NInv N t' rs net := by
  obtain ⟨h1, h2, h3⟩ := h
  exact ⟨h1, fun r hr => ⟨(h2 r hr).1, (h2 r hr).2.1, by have := (h2 r hr).2.2; omega⟩, h3⟩
theorem NInv.get {N t : Nat} {rs : List Rp} {net : List Msg} (h : NInv N t rs net) {i : Nat} (hi : i < N) : ∃ r, rs[i]? = some r ∧ RpOk r ∧ r.n = (N : Int) ∧ r.id = (i : Int) ∧ r.out = [] ∧ 0 ≤ r.quiet ∧ r.quiet ≤ (t : Int) := by
  obtain ⟨h1, h2, g, h3, h4, h5⟩ := h
  obtain ⟨r, hr⟩ : ∃ r, rs[i]? = some r := ⟨_, List.getElem?_eq_getElem (by omega)⟩
  have hR := h4 i r hr
  exact ⟨r, hr, hR.ok, hR.n, hR.id, h2 r (List.mem_of_getElem? hr)⟩
/-- A call of replica i: what it says comes to the messages. -/
theorem NInv.call {N t : Nat} {rs : List Rp} {net : List Msg} (h : NInv N t rs net) {i : Nat} {r r' : Rp} (hr : rs[i]? = some r) (hst : ∀ g, (∀ m ∈ net, MInv N g m) → Step N (i : Int) g r r') (hq : 0 ≤ r'.quiet ∧ r'.quiet ≤ r.quiet + 1) :
    NInv N (t + 1) (rs.set i { r' with out := [] }) (net ++ r'.out) := by
  obtain ⟨h1, h2, g, h3, h4, h5⟩ := h
  have hlt : i < rs.length := (List.getElem?_eq_some_iff.1 hr).1
  have hrq := h2 r (List.mem_of_getElem? hr)
  refine ⟨by rw [List.length_set]; exact h1, fun q hq' => ?_, ?_⟩
  · rcases List.mem_or_eq_of_mem_set hq' with e | e
    · have := h2 q e
      exact ⟨this.1, this.2.1, by have := this.2.2; omega⟩
    · rw [e]
      exact ⟨rfl, hq.1, by show r'.quiet ≤ ((t + 1 : Nat) : Int); have := hq.2; have := hrq.2.2; omega⟩
  · obtain ⟨g', q1, q2, q3⟩ := hst g h5 h3 (h4 i r hr)
    refine ⟨g', q1, fun j q hj => ?_, fun m hm => ?_⟩
    · by_cases e : j = i
      · subst e
        rw [List.getElem?_set_self hlt] at hj
        cases hj
        exact q3.clear
      · rw [List.getElem?_set_ne (fun e2 => e e2.symm)] at hj
        exact (h4 j q hj).ext q2 (by omega)
    · rcases List.mem_append.1 hm with e | e
      · exact (h5 m e).ext q2
      · exact q3.out m e
theorem NInv.tick {N t : Nat} {rs : List Rp} {net : List Msg} (h : NInv N t rs net) {i : Nat} {r : Rp} (hr : rs[i]? = some r) : NInv N (t + 1) (rs.set i { tickR r with out := [] }) (net ++ (tickR r).out) := by
  have hok : RpOk r := by obtain ⟨_, _, g, _, h4, _⟩ := h; exact (h4 i r hr).ok
  have hq := (h.2.1 r (List.mem_of_getElem? hr)).2.1
  exact h.call hr (fun g _ => Step.tick hok) (qt_tick hq)
theorem NInv.submit {N t : Nat} {rs : List Rp} {net : List Msg} (h : NInv N t rs net) {i : Nat} {r : Rp} (hr : rs[i]? = some r) (e : Entry) : NInv N (t + 1) (rs.set i { (submitR r e).1 with out := [] }) (net ++ (submitR r e).1.out) := by
  have hq := (h.2.1 r (List.mem_of_getElem? hr)).2.1
  refine h.call hr (fun g _ => Step.submit e) ?_
  have := qt_submit r e
  unfold Qt at this
  omega
theorem NInv.deliver {N t : Nat} {rs : List Rp} {net : List Msg} (h : NInv N t rs net) {m : Msg} (hm : m ∈ net) {i : Nat} (hi : m.dst = (i : Int)) {r : Rp} (hr : rs[i]? = some r) :
    NInv N (t + 1) (rs.set i { (deliverR r m).1 with out := [] }) (net ++ (deliverR r m).1.out) ∧ (deliverR r m).2 = 0 := by
  have hq := (h.2.1 r (List.mem_of_getElem? hr)).2.1
  obtain ⟨k1, k2, g, k3, k4, k5⟩ := id h
  have hR := k4 i r hr
  have hM := k5 m hm
  refine ⟨h.call hr (fun g' hg' => Step.deliver (hg' m hm) hR.id) ?_, ?_⟩
  · have := qt_deliver r m
    unfold Qt at this
    omega
  · have hmt : meantR r m = true := by
      unfold meantR
      rw [Bool.and_eq_true, decide_eq_true_eq]
      refine ⟨hM.right, by rw [hR.id]; exact hi, ?_, by rw [hR.n]; exact hM.src⟩
      have := hM.ne
      rw [hR.id]
      omega
    unfold deliverR
    rw [if_neg (by rw [hmt]; exact Bool.noConfusion)]
    split <;> rfl
theorem NInv.dst {N t : Nat} {rs : List Rp} {net : List Msg} (h : NInv N t rs net) {m : Msg} (hm : m ∈ net) : 0 ≤ m.dst ∧ m.dst < (N : Int) := by
  obtain ⟨k1, k2, g, k3, k4, k5⟩ := h
  have hM := k5 m hm
  exact ⟨(msgR_num hM.right).2.2.2.2.1.1, hM.dst⟩
/-- What two replicas have committed is the same as far as both have it. -/
theorem agree_commit {N : Nat} {g : Gh} {i j : Int} {a b : Rp} (hg : GInv N g) (ha : RInv N g i a) (hb : RInv N g j b) {k : Nat} (h1 : (k : Int) ≤ a.s.commit) (h2 : (k : Int) ≤ b.s.commit) : a.s.log.take k = b.s.log.take k := by
  have key : ∀ {i j : Int} {a b : Rp}, RInv N g i a → RInv N g j b → (k : Int) ≤ a.s.commit → (k : Int) ≤ b.s.commit → a.s.normal ≤ b.s.normal → a.s.log.take k = b.s.log.take k := by
    intro i j a b ha hb h1 h2 hle
    have sa := ha.ok.stn
    have sb := hb.ok.stn
    obtain ⟨v, q1, q2, q3, q4, q5, q6⟩ := (ha.safe.less (show k ≤ a.s.commit.toNat by omega)).low hg hb.d hle
    obtain ⟨v', p1, p2, p3, p4, p5⟩ := ha.safe.less (show k ≤ a.s.commit.toNat by omega)
    have e1 : a.s.log.take k = (g.G a.s.normal).take k := (pre_take ha.hi (by omega)).symm
    have e2 : b.s.log.take k = (g.G b.s.normal).take k := (pre_take hb.hi (by omega)).symm
    have hw : ∃ v, v ≤ a.s.normal ∧ g.D v ∧ Chosen N g v k ∧ k ≤ (g.G v).length ∧ (g.G v).take k <+: g.G a.s.normal := ha.safe.less (show k ≤ a.s.commit.toNat by omega)
    have e3 : (g.G a.s.normal).take k = (g.G b.s.normal).take k := by
      by_cases e : a.s.normal = b.s.normal
      · rw [e]
      · have hlt : v' < b.s.normal := by omega
        have c1 := (hg.chosen hb.d p2 hlt p3).trans (hg.pre _ hb.d)
        rw [take_of_pre p5 p4, take_of_pre c1 p4]
    rw [e1, e2, e3]
  rcases Int.le_total a.s.normal b.s.normal with h | h
  · exact key ha hb h1 h2 h
  · exact (key hb ha h2 h1 h).symm
theorem agree_view {N : Nat} {g : Gh} {i j : Int} {a b : Rp} (ha : RInv N g i a) (hb : RInv N g j b) (h : a.s.normal = b.s.normal) {k : Nat} (h1 : k ≤ a.s.log.length) (h2 : k ≤ b.s.log.length) : a.s.log.take k = b.s.log.take k := by
  rw [← pre_take ha.hi h1, ← pre_take hb.hi h2, h]
theorem one_primary {N : Nat} {g : Gh} {i j : Int} {a b : Rp} (ha : RInv N g i a) (hb : RInv N g j b) (h1 : roleR a = 1) (h2 : roleR b = 1) (h : a.s.view = b.s.view) : i = j := by
  have e1 := (role_one h1).2
  have e2 := (role_one h2).2
  rw [mod_prim ha, ha.id] at e1
  rw [mod_prim hb, hb.id, ← h] at e2
  omega
/-- What two replicas of a team agree on. -/
structure Alike (a b : Rp) : Prop where
  commit : ∀ k : Nat, (k : Int) ≤ a.s.commit → (k : Int) ≤ b.s.commit → a.s.log.take k = b.s.log.take k
  prim : ¬ (roleR a = 1 ∧ roleR b = 1 ∧ a.s.view = b.s.view)
  view : a.s.normal = b.s.normal → ∀ k, k ≤ a.s.log.length → k ≤ b.s.log.length → a.s.log.take k = b.s.log.take k
theorem NInv.alike {N t : Nat} {rs : List Rp} {net : List Msg} (h : NInv N t rs net) {i j : Nat} {a b : Rp} (ha : rs[i]? = some a) (hb : rs[j]? = some b) (hne : i ≠ j) : Alike a b := by
  obtain ⟨k1, k2, g, k3, k4, k5⟩ := h
  have hA := k4 i a ha
  have hB := k4 j b hb
  exact ⟨fun k h1 h2 => agree_commit k3 hA hB h1 h2, fun ⟨e1, e2, e3⟩ => hne (by have := one_primary hA hB e1 e2 e3; omega), fun e k h1 h2 => agree_view hA hB e h1 h2⟩
theorem NInv.inc {N t : Nat} {rs : List Rp} {net : List Msg} (h : NInv N t rs net) {i : Nat} {a : Rp} (ha : rs[i]? = some a) : Inc a.s.log := by
  obtain ⟨k1, k2, g, k3, k4, k5⟩ := h
  have hA := k4 i a ha
  exact (k3.inc _ hA.d).pre hA.hi
def emptyS : St := ⟨0, 0, 0, 0, []⟩
theorem empty_right : stR emptyS = true := by decide
theorem cfg_team {N id : Nat} (hN : N = 3 ∨ N = 5 ∨ N = 7) (hid : id < N) : cfgR (N : Int) (id : Int) 3 = true := by
  unfold cfgR
  rw [decide_eq_true_eq]
  omega
theorem NInv.start {N : Nat} (hN : N = 3 ∨ N = 5 ∨ N = 7) : NInv N 0 ((List.range N).map fun k : Nat => newR (N : Int) (k : Int) 3 emptyS) [] := by
  refine ⟨by simp, fun r hr => ?_, ⟨fun v => v = 0, fun _ => [], fun _ => [], fun _ _ => 0, fun _ => 0⟩, ⟨by omega, fun _ _ => List.prefix_refl _, fun i v h => (by cases h), fun i v => Nat.le_refl _, fun u hu => ⟨_, maj_all (by omega), fun j _ => by rw [hu]; exact Int.le_refl _⟩, fun u v hu hv hlt => by omega, fun v _ i j a b _ ha => by simp at ha⟩, fun i r hr => ?_, fun m hm => (by cases hm)⟩
  · obtain ⟨k, _, rfl⟩ := List.mem_map.1 hr
    exact ⟨rfl, Int.le_refl _, Int.le_refl _⟩
  · obtain ⟨k, hk, hk2, hk3⟩ : ∃ k : Nat, k < N ∧ newR (N : Int) (k : Int) 3 emptyS = r ∧ k = i := by
      rw [List.getElem?_map] at hr
      cases hq : (List.range N)[i]? with
      | none => rw [hq] at hr; cases hr
      | some q =>
        rw [hq] at hr
        obtain ⟨h1, h2⟩ := List.getElem?_eq_some_iff.1 hq
        rw [List.getElem_range] at h2
        rw [List.length_range] at h1
        subst h2
        exact ⟨i, h1, by simpa using hr, rfl⟩
    subst hk2
    subst hk3
    exact ⟨RpOk.new (cfg_team hN hk) empty_right, rfl, rfl, rfl, rfl, List.nil_prefix, List.nil_prefix, rfl, fun _ _ => rfl, Safe.zero (by omega) rfl, fun v hv _ => ⟨by rw [hv]; exact Int.le_refl _, fun _ => rfl⟩, fun p hp => (by cases hp), fun p hp => (by cases hp), fun m hm => (by cases hm)⟩
end Go.Proofs.Ytaldoajdhbndhaa.Pa


/- How much a replica says at one call. -/

namespace Go.Proofs.Ytaldoajdhbndhaa.Pa

set_option linter.unusedVariables false

set_option linter.unusedSimpArgs false

/-- So much more is said. -/
def Sl (k : Nat) (a b : Rp) : Prop := b.out.length ≤ a.out.length + k
theorem Sl.refl (k : Nat) (a : Rp) : Sl k a a := Nat.le_add_right _ _
theorem Sl.trans {j k : Nat} {a b c : Rp} (h : Sl j a b) (h2 : Sl k b c) : Sl (j + k) a c := by unfold Sl at *; omega
theorem Sl.more {j k : Nat} {a b : Rp} (h : Sl j a b) (hk : j ≤ k) : Sl k a b := by unfold Sl at *; omega
theorem sl_same {a b : Rp} (k : Nat) (h : b.out = a.out) : Sl k a b := by unfold Sl; rw [h]; omega
theorem sl_send (r : Rp) (y : Int) (m : Msg) : Sl 1 r (sendR r y m) := by
  unfold Sl
  show (r.out ++ [_]).length ≤ _
  simp
theorem sl_say {r : Rp} (hn : r.n ≤ 7) (m : Msg) : Sl 7 r (sayR r m) := by
  obtain ⟨l, e, hl⟩ := sayTo_same r m r.n.toNat
  unfold sayR Sl
  rw [e]
  show (r.out ++ l).length ≤ _
  rw [List.length_append]
  omega
theorem sl_begin {r : Rp} (hn : r.n ≤ 7) (v : Int) : Sl 7 r (beginR r v) := by
  have h := sl_say (r := { enterR r v with starts := ups r.id true [] }) hn (msgOp 4 0)
  exact h
theorem sl_decide {r : Rp} (hn : r.n ≤ 7) : Sl 7 r (decideR r) := by
  unfold decideR
  split
  · have h := sl_say (r := wonR r (bestTo r r.n.toNat)) hn (toldR (wonR r (bestTo r r.n.toNat)) 6)
    exact h
  · exact .refl _ _
theorem sl_see {r : Rp} (hn : r.n ≤ 7) : Sl 7 r (seeR r) := by
  unfold seeR
  split
  · split
    · have h := sl_decide (r := { r with said := true }) hn
      exact h
    · have h := sl_send { r with said := true } (primR { r with said := true } r.s.view) { toldR r 5 with normal := r.s.normal }
      exact h.more (by omega)
  · exact .refl _ _
theorem sl_take (r : Rp) (m : Msg) : Sl 1 r (takeR r m) := by
  unfold takeR
  split
  · have h := sl_send (tookR r m) (primR r m.view) (msgOp 2 m.log.length)
    exact h
  · exact .refl _ _
theorem sl_follow (r : Rp) (m : Msg) : Sl 2 r (followR r m) := by
  unfold followR
  split
  · exact .refl _ _
  · have e1 : (follow1R r m).out = r.out := by unfold follow1R; split <;> rfl
    have e2 : (follow2R (follow1R r m) m).out = r.out := by unfold follow2R; split <;> exact e1
    have e3 : Sl 1 r (follow3R (follow2R (follow1R r m) m) m) := by
      unfold follow3R
      split
      · have h := sl_send (follow2R (follow1R r m) m) m.src (msgOp 7 (follow2R (follow1R r m) m).s.log.length)
        unfold Sl at h ⊢
        rw [e2] at h
        exact h
      · exact sl_same 1 e2
    unfold follow4R
    split
    · exact e3.more (by omega)
    · split
      · exact e3.more (by omega)
      · exact e3.trans (sl_send _ _ _)
theorem sl_ack (r : Rp) (m : Msg) : Sl 0 r (ackR r m) := by
  unfold ackR
  split
  · exact .refl _ _
  · exact sl_same 0 rfl
theorem sl_turn {r : Rp} (hn : r.n ≤ 7) (m : Msg) : Sl 14 r (turnR r m) := by
  have h2 : ∀ q : Rp, q.n ≤ 7 → Sl 7 q (turn2R q m) := fun q hq => by
    unfold turn2R
    split
    · exact sl_see (r := { q with starts := ups m.src true q.starts }) hq
    · split
      · exact sl_decide (r := { q with chgs := ups m.src m q.chgs }) hq
      · split
        · exact (sl_send q m.src (toldR q 6)).more (by omega)
        · exact .refl _ _
  unfold turnR
  split
  · exact .refl _ _
  · split
    · exact (sl_begin hn _).trans (h2 _ (by rw [(cf_begin r m.view).1]; exact hn))
    · exact (h2 r hn).more (by omega)
theorem sl_deliver {r : Rp} (hn : r.n ≤ 7) (m : Msg) : Sl 14 r (deliverR r m).1 := by
  unfold deliverR
  split
  · exact .refl _ _
  split
  · exact .refl _ _
  show Sl 14 r (heardR r m)
  unfold heardR
  split
  · exact (sl_follow r m).more (by omega)
  split
  · exact (sl_ack r m).more (by omega)
  split
  · exact sl_turn hn m
  split
  · split
    · exact (sl_take r m).more (by omega)
    · exact .refl _ _
  split
  · split
    · exact (sl_send _ _ _).more (by omega)
    · exact .refl _ _
  split
  · split
    · exact (sl_take r m).more (by omega)
    · exact .refl _ _
  · exact .refl _ _
theorem sl_submit {r : Rp} (hn : r.n ≤ 7) (e : Entry) : Sl 14 r (submitR r e).1 := by
  unfold submitR
  split
  · exact .refl _ _
  split
  · exact .refl _ _
  split
  · exact .refl _ _
  split
  · exact .refl _ _
  · have h := sl_say (r := putR r [{ e with view := r.s.view }]) hn ⟨1, 0, 0, 0, (r.s.log.length : Int) + 1, r.s.commit, 0, [{ e with view := r.s.view }]⟩
    exact Sl.more (j := 7) h (by omega)
theorem sl_tick {r : Rp} (hn : r.n ≤ 7) : Sl 14 r (tickR r) := by
  unfold tickR
  split
  · exact (sl_say hn _).more (by omega)
  split
  · exact Sl.more (j := 7) (sl_begin (r := { r with quiet := r.quiet + 1 }) hn (r.s.view + 1)) (by omega)
  · exact sl_same _ rfl
end Go.Proofs.Ytaldoajdhbndhaa.Pa


/- What the laws of replicas share: types, a replica between two calls, an entry that changes nothing. -/

namespace Go.Proofs.Ytaldoajdhbndhaa.Pa

set_option linter.unusedVariables false

set_option linter.unusedSimpArgs false

open Go.RowKit Go.Proofs.Ytaldoajdhbndhaa.C

attribute [local go_sem] max2_int min2_int max_two min_two

theorem st_field2 (a b c d : Int) (A : Option Addr) (n k : Nat) (W : World) : (Instr.field 26 (.agg #[.int .i64 a, .int .i64 b, .int .i64 c, .int .i64 d, .slice A n k]) 2).run Try.prog W = .ok (.int .i64 c) W := by kernel_rfl
/-- A replica between two calls. -/
structure RQ (w : World) (p b1 b2 b3 : Nat) (X : Nat → Prop) (r : Rp) : Prop where
  ok : RpOk r
  out : r.out = []
  rep : ∃ A n c, Rep w w p b1 b2 b3 X r A n c (.slice none 0 0)
theorem RQ.chg {w w' : World} {p b1 b2 b3 : Nat} {X M : Nat → Prop} {r : Rp} (h : RQ w p b1 b2 b3 X r) (hc : Chg M w w') (hM : ∀ k, M k → k < w.heap.size → X k ∧ ¬ M4 p b1 b2 b3 k) : RQ w' p b1 b2 b3 X r := by
  obtain ⟨A, n, c, hr⟩ := h.rep
  exact ⟨h.ok, h.out, A, n, c, (hr.apart (hc.mono hM)).again h.out⟩
theorem RQ.far {w w' : World} {p b1 b2 b3 : Nat} {X : Nat → Prop} {r : Rp} (h : RQ w p b1 b2 b3 X r) (hc : Chg (fun _ => False) w w') : RQ w' p b1 b2 b3 X r := h.chg hc (fun _ h _ => h.elim)
theorem Stood.rq {w w' : World} {p b1 b2 b3 : Nat} {X : Nat → Prop} {r : Rp} {v : Value → Value} {e' : Ending} (h : Stood w p b1 b2 b3 X r v e' w') (hok : RpOk r) : ∃ A c, e' = .returned (v (.slice A r.out.length c)) ∧ RQ w' p b1 b2 b3 X { r with out := [] } ∧ Vec msgK 41 w' (fun k => w.heap.size ≤ k) (fun k => w.heap.size ≤ k) (.slice A r.out.length c) r.out ∧ Chg (M4 p b1 b2 b3) w w' := by
  obtain ⟨O', rfl, ⟨A', n', c', h1⟩, h2, h3⟩ := h
  obtain ⟨A, c, rfl⟩ := h2.form
  exact ⟨A, c, rfl, ⟨hok.out [], rfl, A', n', c', h1.again rfl⟩, h2, h3⟩
theorem RQ.lt {w : World} {p b1 b2 b3 : Nat} {X : Nat → Prop} {r : Rp} (h : RQ w p b1 b2 b3 X r) : ∀ k, M4 p b1 b2 b3 k → k < w.heap.size := by
  obtain ⟨A, n, c, hr⟩ := h.rep
  exact fun k hk => hr.sub.2 k (hr.sub.1 k hk)
/-- More blocks are kept apart, which were new behind it. -/
theorem RQ.widen {w w' : World} {p b1 b2 b3 : Nat} {X Y : Nat → Prop} {r : Rp} (h : RQ w p b1 b2 b3 X r) (hc : Chg (fun _ => False) w w') (hY : ∀ k, Y k → w.heap.size ≤ k ∧ k < w'.heap.size) : RQ w' p b1 b2 b3 (fun k => X k ∨ Y k) r := by
  obtain ⟨A, n, c, h0⟩ := h.rep
  refine ⟨h.ok, h.out, A, n, c, ?_⟩
  obtain ⟨V, h3, h4⟩ := h0.chgs
  have hs := hc.size
  have hl := h0.lt
  have hlg : ∀ k, Lg X (.slice none 0 0) k ∧ k < w.heap.size → Lg (fun k => X k ∨ Y k) (.slice none 0 0) k := fun k hk => ⟨fun e => by rcases e with e | e; exact hk.1.1 e; have := (hY k e).1; have := hk.2; omega, hk.1.2⟩
  exact ⟨Nat.le_refl _, by omega, h0.ne, ⟨fun k hk => .inl (h0.sub.1 k hk), fun k hk => by rcases hk with e | e; have := h0.sub.2 k e; omega; exact (hY k e).2⟩, hc.blk h0.blk (fun h => h), h0.acks.chg hc (fun h => h), h0.starts.chg hc (fun h => h), ⟨V, h3.chg hc (fun h => h), (h4.bound.chg hc (fun _ _ h => h)).mono hlg⟩, (h0.log.bound.chg hc (fun _ _ h => h)).mono hlg, by rw [h.out]; exact Vec.nil _ _ _ _ _⟩
theorem RQ.less {w : World} {p b1 b2 b3 : Nat} {X X' : Nat → Prop} {r : Rp} (h : RQ w p b1 b2 b3 X r) (h1 : ∀ k, M4 p b1 b2 b3 k → X' k) (h2 : ∀ k, X' k → X k) : RQ w p b1 b2 b3 X' r := by
  obtain ⟨A, n, c, hr⟩ := h.rep
  exact ⟨h.ok, h.out, A, n, c, hr.less h1 h2⟩
theorem RQ.of_new {R : Nat → Prop} {n id tm : Int} {s : St} {w : World} {e' : Ending} {w' : World} (h : NewTo R n id tm s w e' w') (hc : cfgR n id tm = true) (hs : stR s = true) : ∃ p b1 b2 b3, e' = .returned (.tuple #[.pointer (some ⟨p, 0, none⟩), .int .i64 0]) ∧ (∀ k, M4 p b1 b2 b3 k → w.heap.size ≤ k ∧ k < w'.heap.size) ∧ RQ w' p b1 b2 b3 (fun k => M4 p b1 b2 b3 k ∨ (¬ R k ∧ k < w.heap.size)) (newR n id tm s) ∧ Chg (fun _ => False) w w' := by
  rcases h with ⟨h, _⟩ | ⟨_, _, p, b1, b2, b3, A, k, c, rfl, h1, h2, h3⟩
  · exact absurd ⟨hc, hs⟩ h
  · exact ⟨p, b1, b2, b3, rfl, h1, ⟨RpOk.new hc hs, rfl, A, k, c, h2⟩, h3⟩
theorem rq_role {w : World} {p b1 b2 b3 : Nat} {X : Nat → Prop} {r : Rp} (h : RQ w p b1 b2 b3 X r) : Calls Try.prog 16 #[.pointer (some ⟨p, 0, none⟩)] w fun e' w' => e' = .returned (.int .i64 (roleR r)) ∧ Chg (fun _ => False) w w' := by
  obtain ⟨A, n, c, hr⟩ := h.rep
  exact role_any hr h.ok.cfg.1 h.ok.stn.1
theorem rq_state {w : World} {p b1 b2 b3 : Nat} {X : Nat → Prop} {r : Rp} (h : RQ w p b1 b2 b3 X r) : Calls Try.prog 15 #[.pointer (some ⟨p, 0, none⟩)] w (fun e' w' => ∃ A' c', e' = .returned (.agg #[.int .i64 r.s.view, .int .i64 r.s.normal, .int .i64 r.s.commit, .int .i64 r.s.active, .slice A' r.s.log.length c']) ∧ Ty.At entryK w' (fun k => w.heap.size ≤ k ∧ k < w'.heap.size) A' r.s.log.length c' r.s.log ∧ Chg (fun _ => False) w w') := by
  obtain ⟨A, n, c, hr⟩ := h.rep
  refine (rstate_any hr h.ok).mono ?_
  rintro e' w' ⟨A', n', c', rfl, hat, hc⟩
  obtain rfl := hat.1
  exact ⟨A', c', rfl, hat, hc⟩
/-- What a call makes of a replica and its messages. -/
def Did (w : World) (p b1 b2 b3 : Nat) (X : Nat → Prop) (r' : Rp) (v : Value → Value) (e' : Ending) (w' : World) : Prop :=
  ∃ A c, e' = .returned (v (.slice A r'.out.length c)) ∧ RQ w' p b1 b2 b3 X { r' with out := [] } ∧ Vec msgK 41 w' (fun k => w.heap.size ≤ k) (fun k => w.heap.size ≤ k) (.slice A r'.out.length c) r'.out ∧ Chg (M4 p b1 b2 b3) w w'
theorem rq_submit {w : World} {p b1 b2 b3 : Nat} {X : Nat → Prop} {r : Rp} (h : RQ w p b1 b2 b3 X r) {e : Entry} {R : Nat → Prop} {E1 : Option Addr} {m1 d1 : Nat} {E2 : Option Addr} {m2 d2 : Nat} (he : EntryAt w R e E1 m1 d1 E2 m2 d2) :
    Calls Try.prog 40 #[.pointer (some ⟨p, 0, none⟩), .agg #[.int .i64 e.view, .int .i64 e.client, .int .i64 e.request, .int .i64 e.dflt, .int .i64 e.closed, .int .i64 e.fuel, .int .i64 e.stack, .slice E1 m1 d1, .slice E2 m2 d2]] w (Did w p b1 b2 b3 X (submitR r e).1 (fun O => .tuple #[O, .int .i64 (submitR r e).2])) := by
  obtain ⟨A, n, c, hr⟩ := h.rep
  exact (submit_any hr he h.ok h.out).mono (fun e' w' h' => h'.rq (h.ok.submit e))
theorem rq_tick {w : World} {p b1 b2 b3 : Nat} {X : Nat → Prop} {r : Rp} (h : RQ w p b1 b2 b3 X r) (hq : 0 ≤ r.quiet ∧ r.quiet ≤ 1000000) :
    Calls Try.prog 41 #[.pointer (some ⟨p, 0, none⟩)] w (Did w p b1 b2 b3 X (tickR r) (fun O => O)) := by
  obtain ⟨A, n, c, hr⟩ := h.rep
  exact (tick_any hr h.ok h.out hq).mono (fun e' w' h' => h'.rq h.ok.tick)
theorem rq_deliver {w : World} {p b1 b2 b3 : Nat} {X : Nat → Prop} {r : Rp} (h : RQ w p b1 b2 b3 X r) {m : Msg} {R : Nat → Prop} {B : Option Addr} {k d : Nat} (hm : Ty.At entryK w R B k d m.log) (hR : ∀ j, R j → j < w.heap.size → ¬ M4 p b1 b2 b3 j) :
    Calls Try.prog 18 #[.pointer (some ⟨p, 0, none⟩), .agg #[.int .i64 m.kind, .int .i64 m.view, .int .i64 m.src, .int .i64 m.dst, .int .i64 m.op, .int .i64 m.commit, .int .i64 m.normal, .slice B k d]] w (Did w p b1 b2 b3 X (deliverR r m).1 (fun O => .tuple #[O, .int .i64 (deliverR r m).2])) := by
  obtain ⟨A, n, c, hr⟩ := h.rep
  exact (deliver_any hr hm hR h.ok h.out).mono (fun e' w' h' => h'.rq (h.ok.deliver m))
set_option maxHeartbeats 4000000 in
set_option maxRecDepth 100000 in
theorem entry15_any (c q : Int) (w : World) : Calls Try.prog 39 #[.int .i64 c, .int .i64 q] w fun e' w' => e' = .returned (.agg #[.int .i64 0, .int .i64 c, .int .i64 q, .int .i64 (-1), .int .i64 (-1), .int .i64 (-1), .int .i64 (-1), .slice none 0 0, .slice none 0 0]) ∧ Chg (fun _ => False) w w' := by
  go_enter Try.func39, Try.ntmps39
  go_wp2_with fail
  obtain ⟨W, hW⟩ : ∃ q_, q_ = w.alloc (.cells #[.int .i64 0, .int .i64 c, .int .i64 q, .int .i64 (-1), .int .i64 (-1), .int .i64 (-1), .int .i64 (-1), .slice none 0 0, .slice none 0 0] 56) := ⟨_, rfl⟩
  rw [← hW]
  have BX2 := hid (show W.heap[w.heap.size]? = some (.cells #[.int .i64 0, .int .i64 c, .int .i64 q, .int .i64 (-1), .int .i64 (-1), .int .i64 (-1), .int .i64 (-1), .slice none 0 0, .slice none 0 0] 56 (0, 0)) by rw [hW]; exact blk_new w _)
  have CW := hid (show Chg (fun _ => False) w W by rw [hW]; exact (Chg.refl _ w).alloc _)
  clear hW
  have z0 : W.cell? ⟨w.heap.size, 0, none⟩ = some (.int .i64 0) := (cellAt BX2.out 0).trans rfl
  have z1 : W.cell? ⟨w.heap.size, 1, none⟩ = some (.int .i64 c) := (cellAt BX2.out 1).trans rfl
  have z2 : W.cell? ⟨w.heap.size, 2, none⟩ = some (.int .i64 q) := (cellAt BX2.out 2).trans rfl
  have z3 : W.cell? ⟨w.heap.size, 3, none⟩ = some (.int .i64 (-1)) := (cellAt BX2.out 3).trans rfl
  have z4 : W.cell? ⟨w.heap.size, 4, none⟩ = some (.int .i64 (-1)) := (cellAt BX2.out 4).trans rfl
  have z5 : W.cell? ⟨w.heap.size, 5, none⟩ = some (.int .i64 (-1)) := (cellAt BX2.out 5).trans rfl
  have z6 : W.cell? ⟨w.heap.size, 6, none⟩ = some (.int .i64 (-1)) := (cellAt BX2.out 6).trans rfl
  have z7 : W.cell? ⟨w.heap.size, 7, none⟩ = some (.slice none 0 0) := (cellAt BX2.out 7).trans rfl
  have z8 : W.cell? ⟨w.heap.size, 8, none⟩ = some (.slice none 0 0) := (cellAt BX2.out 8).trans rfl
  refine bodyPost_ret (v := .agg #[.int .i64 0, .int .i64 c, .int .i64 q, .int .i64 (-1), .int .i64 (-1), .int .i64 (-1), .int .i64 (-1), .slice none 0 0, .slice none 0 0]) (by simp [results, Try.results39, go_sem, z0, z1, z2, z3, z4, z5, z6, z7, z8]) rfl ?_
  exact ⟨rfl, CW.out⟩
end Go.Proofs.Ytaldoajdhbndhaa.Pa


/- The anchor of the statements about replicas. -/

namespace Go.Proofs.Ytaldoajdhbndhaa.Pa

set_option linter.unusedVariables false

set_option linter.unusedSimpArgs false

open Go.RowKit Go.Proofs.Ytaldoajdhbndhaa.C

attribute [local go_sem] max2_int min2_int max_two min_two

def e15 : Entry := ⟨0, 1, 1, -1, -1, -1, -1, [], []⟩
def ra15 : Rp := newR 3 0 5 st0
def rb15 : Rp := newR 3 1 5 st0
def ra15' : Rp := { (submitR ra15 e15).1 with out := [] }
def m15 : Msg := ⟨1, 0, 0, 1, 1, 0, 0, [e15]⟩
def n15 : Msg := ⟨2, 0, 1, 0, 1, 0, 0, []⟩
theorem a15_1 : (submitR ra15 e15).1.out = [m15, { m15 with dst := 2 }] := by rfl
theorem a15_2 : (submitR ra15 e15).2 = 0 := by rfl
theorem a15_3 : (deliverR rb15 m15).1.out = [n15] := by rfl
theorem a15_4 : (deliverR rb15 m15).2 = 0 := by rfl
theorem a15_5 : (deliverR ra15' n15).2 = 0 := by rfl
theorem a15_6 : (deliverR ra15' n15).1.s.commit = 1 := by rfl
theorem a15_7 : (deliverR rb15 m15).1.s.commit = 0 := by rfl
def ra15'' : Rp := { (deliverR ra15' n15).1 with out := [] }
def rb15' : Rp := { (deliverR rb15 m15).1 with out := [] }
theorem a15_8 : roleR ra15 = 1 ∧ roleR rb15 = 0 := by decide
/-- The first of some messages, in memory. -/
theorem vec_head {w : World} {S D : Nat → Prop} {A : Option Addr} {n c : Nat} {m : Msg} {l : List Msg} (h : Vec msgK 41 w S D (.slice A n c) (m :: l)) : ∃ g B k d, A = some ⟨g, 0, none⟩ ∧ S g ∧ g < w.heap.size ∧ Ty.At entryK w (fun j => D j ∧ j ≠ g ∧ j < w.heap.size) B k d m.log ∧ ∀ W, Chg (fun _ => False) w W → W.cell? ⟨g, 0, none⟩ = some (.int .i64 m.kind) ∧ W.cell? ⟨g, 1, none⟩ = some (.int .i64 m.view) ∧ W.cell? ⟨g, 2, none⟩ = some (.int .i64 m.src) ∧ W.cell? ⟨g, 3, none⟩ = some (.int .i64 m.dst) ∧ W.cell? ⟨g, 4, none⟩ = some (.int .i64 m.op) ∧ W.cell? ⟨g, 5, none⟩ = some (.int .i64 m.commit) ∧ W.cell? ⟨g, 6, none⟩ = some (.int .i64 m.normal) ∧ W.cell? ⟨g, 7, none⟩ = some (.slice B k d) := by
  obtain ⟨g, cs, rfl, hg, hlt, hK, hc⟩ := h.get (by decide) (i := 0) (x := m) rfl
  have hK' : msgK.K w (fun j => D j ∧ j ≠ g ∧ j < w.heap.size) m cs.toArray.toList := by rw [List.toList_toArray]; exact hK
  obtain ⟨B, k, d, e2, hm⟩ := msg_open hK'
  have e3 := congrArg Array.toList e2
  rw [List.toList_toArray] at e3
  subst e3
  refine ⟨g, B, k, d, rfl, hg, hlt, hm, fun W hW => ?_⟩
  have h' : ∀ j u, ([.int .i64 m.kind, .int .i64 m.view, .int .i64 m.src, .int .i64 m.dst, .int .i64 m.op, .int .i64 m.commit, .int .i64 m.normal, .slice B k d] : List Value)[j]? = some u → W.cell? ⟨g, j, none⟩ = some u := fun j u hj => by
    have := hW.cell (hc j u hj) (fun h => h)
    rwa [Nat.zero_mul, Nat.zero_add] at this
  exact ⟨h' 0 _ rfl, h' 1 _ rfl, h' 2 _ rfl, h' 3 _ rfl, h' 4 _ rfl, h' 5 _ rfl, h' 6 _ rfl, h' 7 _ rfl⟩
set_option maxHeartbeats 4000000 in
set_option maxRecDepth 100000 in
theorem anchor15_any (w : World) : Calls Try.prog 11 #[] w fun e w' => e = .returned (.bool true) ∧ Chg (fun _ => False) w w' := by
  go_enter Try.func11, Try.ntmps11
  go_wp2_with fail
  refine (rnew_any (R := fun _ => False) (n := 3) (id := 0) (tm := 5) (s := st0) (k := 0) (at_nil_ _ _ _) (by decide) ⟨by decide, by decide, by decide⟩).mono ?_
  intro e1 w1 h1
  obtain ⟨p, b1, b2, b3, rfl, hb, hq, k1⟩ := RQ.of_new h1 (by decide) (by decide)
  have HB := hid hb
  have QA := hid (show RQ w1 p b1 b2 b3 (fun k => M4 p b1 b2 b3 k ∨ (¬ False ∧ k < w.heap.size)) ra15 from hq)
  have K1 := hid k1
  clear h1 hb hq k1
  go_wp2_with fail
  refine (rnew_any (R := fun _ => False) (n := 3) (id := 1) (tm := 5) (s := st0) (k := 0) (at_nil_ _ _ _) (by decide) ⟨by decide, by decide, by decide⟩).mono ?_
  intro e2 w2 h2
  obtain ⟨q, c1, c2, c3, rfl, hb, hq, k2⟩ := RQ.of_new h2 (by decide) (by decide)
  have HC := hid hb
  have K2 := hid (K1.out.trans k2 (fun _ h _ => h))
  obtain ⟨X, hX⟩ : ∃ X : Nat → Prop, ∀ k, X k ↔ (M4 p b1 b2 b3 k ∨ M4 q c1 c2 c3 k) := ⟨_, fun _ => Iff.rfl⟩
  have HX := hid hX
  replace QA := hid ((QA.out.widen k2 hb).less (X' := X) (fun k hk => (hX k).2 (.inl hk)) (fun k hk => by rcases (hX k).1 hk with h | h; exact .inl (.inl h); exact .inr h))
  have QB := hid (show RQ w2 q c1 c2 c3 X rb15 from hq.less (X' := X) (fun k hk => (hX k).2 (.inr hk)) (fun k hk => by rcases (hX k).1 hk with h | h; exact .inr ⟨fun h => h, (HB.out k h).2⟩; exact .inl h))
  have DJ := hid (show ∀ k, M4 p b1 b2 b3 k → ¬ M4 q c1 c2 c3 k from fun k h1 h2 => by have := (HB.out k h1).2; have := (HC.out k h2).1; omega)
  have NEW := hid (show ∀ k, X k → w.heap.size ≤ k from fun k hk => by rcases (hX k).1 hk with h | h; exact (HB.out k h).1; exact Nat.le_trans K1.out.size (HC.out k h).1)
  clear h2 hb hq k2 hX
  go_wp2_with fail
  refine (rq_role QA.out).mono ?_
  rintro e w3 ⟨rfl, k3⟩
  rw [a15_8.1]
  have K3 := hid (K2.out.trans k3 (fun _ h _ => h))
  replace QA := hid (QA.out.far k3)
  replace QB := hid (QB.out.far k3)
  clear k3
  go_wp2_with fail
  refine (rq_role QB.out).mono ?_
  rintro e w4 ⟨rfl, k4⟩
  rw [a15_8.2]
  have K4 := hid (K3.out.trans k4 (fun _ h _ => h))
  replace QA := hid (QA.out.far k4)
  replace QB := hid (QB.out.far k4)
  clear k4
  go_wp2_with fail
  refine (entry15_any 1 1 _).mono ?_
  rintro e w5 ⟨rfl, k5⟩
  have K5 := hid (K4.out.trans k5 (fun _ h _ => h))
  replace QA := hid (QA.out.far k5)
  replace QB := hid (QB.out.far k5)
  clear k5
  go_wp2_with fail
  refine (rq_submit QA.out (e := e15) (R := fun _ => False) ⟨by decide, at_nil_ _ _ _, at_nil_ _ _ _⟩).mono ?_
  rintro e w6 ⟨A, c, rfl, hq, hv, k6⟩
  rw [a15_1, a15_2]
  rw [a15_1] at hv
  have K6 := hid (show Chg (fun k => X k) w w6 from (K5.out.mono (S' := fun k => X k) (fun _ h _ => h.elim)).trans k6 (fun k hk _ => (HX.out k).2 (.inl hk)))
  have S5 := hid (show ∀ k, X k → k < w5.heap.size from fun k hk => by rcases (HX.out k).1 hk with h | h; exact QA.out.lt k h; exact QB.out.lt k h)
  have Z6 := hid k6.size
  replace QA := hid (show RQ w6 p b1 b2 b3 X ra15' from hq)
  replace QB := hid (QB.out.chg k6 (fun k hk _ => ⟨(HX.out k).2 (.inl hk), DJ.out k hk⟩))
  clear hq k6
  rw [show ([m15, { m15 with dst := 2 }] : List Msg).length = 2 from rfl]
  replace hv : Vec msgK 41 w6 (fun k => w5.heap.size ≤ k) (fun k => w5.heap.size ≤ k) (.slice A 2 c) [m15, { m15 with dst := 2 }] := hv
  obtain ⟨g, B, k, d, rfl, hg, hlt, hm, hcells⟩ := vec_head hv
  have HM := hid hm
  have HG := hid hg
  obtain ⟨o0, o1, o2, o3, o4, o5, o6, o7⟩ := hcells _ (Chg.refl _ w6)
  have O_0 : w6.cell? ⟨g, 0, none⟩ = some (.int .i64 1) := o0
  have O_1 : w6.cell? ⟨g, 1, none⟩ = some (.int .i64 0) := o1
  have O_2 : w6.cell? ⟨g, 2, none⟩ = some (.int .i64 0) := o2
  have O_3 : w6.cell? ⟨g, 3, none⟩ = some (.int .i64 1) := o3
  have O_4 : w6.cell? ⟨g, 4, none⟩ = some (.int .i64 1) := o4
  have O_5 : w6.cell? ⟨g, 5, none⟩ = some (.int .i64 0) := o5
  have O_6 : w6.cell? ⟨g, 6, none⟩ = some (.int .i64 0) := o6
  have O_7 := o7
  clear hcells o0 o1 o2 o3 o4 o5 o6 o7 hv hm hg hlt
  go_wp2_with fail
  clear O_0 O_1 O_2 O_3 O_4 O_5 O_6 O_7
  refine (rq_deliver QB.out (m := m15) HM.out (fun j hj _ e => by have h1 := S5.out j ((HX.out j).2 (.inr e)); have h2 := hj.1; omega)).mono ?_
  rintro e w7 ⟨A7, c7, rfl, hq, hv, k7⟩
  rw [a15_3, a15_4]
  rw [a15_3] at hv
  rw [show ([n15] : List Msg).length = 1 from rfl]
  have K7 := hid (K6.out.trans k7 (fun k hk _ => (HX.out k).2 (.inr hk)))
  have S6 := hid (show ∀ k, X k → k < w6.heap.size from fun k hk => by have := S5.out k hk; have := Z6.out; omega)
  have Z7 := hid k7.size
  replace QB := hid (show RQ w7 q c1 c2 c3 X rb15' from hq)
  replace QA := hid (QA.out.chg k7 (fun k hk _ => ⟨(HX.out k).2 (.inr hk), fun e => DJ.out k e hk⟩))
  clear hq k7
  replace hv : Vec msgK 41 w7 (fun k => w6.heap.size ≤ k) (fun k => w6.heap.size ≤ k) (.slice A7 1 c7) [n15] := hv
  obtain ⟨g7, B7, j7, d7, rfl, hg, hlt, hm, hcells⟩ := vec_head hv
  have HM7 := hid hm
  obtain ⟨o0, o1, o2, o3, o4, o5, o6, o7⟩ := hcells _ (Chg.refl _ w7)
  have O_0 : w7.cell? ⟨g7, 0, none⟩ = some (.int .i64 2) := o0
  have O_1 : w7.cell? ⟨g7, 1, none⟩ = some (.int .i64 0) := o1
  have O_2 : w7.cell? ⟨g7, 2, none⟩ = some (.int .i64 1) := o2
  have O_3 : w7.cell? ⟨g7, 3, none⟩ = some (.int .i64 0) := o3
  have O_4 : w7.cell? ⟨g7, 4, none⟩ = some (.int .i64 1) := o4
  have O_5 : w7.cell? ⟨g7, 5, none⟩ = some (.int .i64 0) := o5
  have O_6 : w7.cell? ⟨g7, 6, none⟩ = some (.int .i64 0) := o6
  have O_7 := o7
  clear hcells o0 o1 o2 o3 o4 o5 o6 o7 hv hm hg hlt
  go_wp2_with fail
  clear O_0 O_1 O_2 O_3 O_4 O_5 O_6 O_7
  refine (rq_deliver QA.out (m := n15) HM7.out (fun j hj _ e => by have h1 := S6.out j ((HX.out j).2 (.inl e)); have h2 := hj.1; omega)).mono ?_
  rintro e w8 ⟨A8, c8, rfl, hq, hv, k8⟩
  rw [a15_5]
  have K8 := hid (K7.out.trans k8 (fun k hk _ => (HX.out k).2 (.inl hk)))
  replace QA := hid (show RQ w8 p b1 b2 b3 X ra15'' from hq)
  replace QB := hid (QB.out.chg k8 (fun k hk _ => ⟨(HX.out k).2 (.inl hk), DJ.out k hk⟩))
  clear hq k8 hv
  go_wp2_with fail
  refine (rq_state QA.out).mono ?_
  rintro e w9 ⟨A9, c9, rfl, hat, k9⟩
  rw [show ra15''.s.commit = 1 from a15_6]
  have hfd := st_field2
  have K9 := hid (K8.out.trans k9 (fun _ h _ => h.elim))
  replace QB := hid (QB.out.far k9)
  clear hat k9
  go_wp2_with fail
  refine (rq_state QB.out).mono ?_
  rintro e w10 ⟨A10, c10, rfl, hat, k10⟩
  rw [show rb15'.s.commit = 0 from a15_7]
  have K10 := hid (K9.out.trans k10 (fun _ h _ => h.elim))
  clear hat k10
  go_wp2_with fail
  go_ret
  exact ⟨rfl, K10.out.mono (fun k hk hl => by have := NEW.out k hk; omega)⟩
end Go.Proofs.Ytaldoajdhbndhaa.Pa


/- A step of a replica, and which steps can be gone through with. -/

namespace Go.Proofs.Ytaldoajdhbndhaa.Pa

set_option linter.unusedVariables false

set_option linter.unusedSimpArgs false

open Go.RowKit Go.Proofs.Ytaldoajdhbndhaa.C

attribute [local go_sem] max2_int min2_int max_two min_two

theorem Did.none_ {w w' : World} {p b1 b2 b3 : Nat} {X : Nat → Prop} {r : Rp} {v : Value → Value} {e' : Ending} (h : RQ w p b1 b2 b3 X r) (hc : Chg (fun _ => False) w w') (he : e' = .returned (v (.slice none 0 0))) : Did w p b1 b2 b3 X r v e' w' :=
  ⟨none, 0, by rw [h.out]; exact he, by rw [out_nil h.out]; exact h.far hc, by rw [h.out]; exact Vec.nil _ _ _ _ _, hc.mono (fun _ h _ => h.elim)⟩
end Go.Proofs.Ytaldoajdhbndhaa.Pa


/- Several replicas in memory, and the messages between them. -/

namespace Go.Proofs.Ytaldoajdhbndhaa.Pa

set_option linter.unusedVariables false

set_option linter.unusedSimpArgs false

open Go.RowKit Go.Proofs.Ytaldoajdhbndhaa.C

/-- A pointer to a block's beginning. -/
def ptrK : Ty Nat where
  sz := 1
  K := fun _ _ x cs => cs = [.pointer (some ⟨x, 0, none⟩)]
  len := fun h => by rw [h]; rfl
  one := fun h u hu => by subst h; simp at hu; subst hu; rfl
  chg := fun h _ _ => h
  mono := fun h _ => h
  bound := fun h => h
theorem Vec.self {α : Type} {d : Ty α} {e : TypeId} {w : World} {S D : Nat → Prop} {v : Value} {xs : List α} (h : Vec d e w S D v xs) : Vec d e w (fun k => v.ownBlock = some k) D v xs := by
  obtain ⟨cells, h1, h2, h3⟩ := h
  exact ⟨cells, h1, fun k hk => hk, h3⟩
theorem Vec.off {α : Type} {d : Ty α} {e : TypeId} {w : World} {S D : Nat → Prop} {v : Value} {xs : List α} (h : Vec d e w S D v xs) : Vec d e w S (fun k => D k ∧ v.ownBlock ≠ some k) v xs := by
  obtain ⟨cells, h1, h2, h3⟩ := h
  exact ⟨cells, h1, h2, h3.mono (fun k hk => ⟨⟨hk.1, hk.2.1⟩, hk.2⟩)⟩
/-- More blocks are kept apart, which were new behind it; others of them may have changed. -/
theorem RQ.wider {w w' : World} {p b1 b2 b3 : Nat} {X Y M : Nat → Prop} {r : Rp} (h : RQ w p b1 b2 b3 X r) (hc : Chg M w w') (hM : ∀ k, M k → k < w.heap.size → X k ∧ ¬ M4 p b1 b2 b3 k) (hY : ∀ k, Y k → X k ∨ (w.heap.size ≤ k ∧ k < w'.heap.size)) : RQ w' p b1 b2 b3 (fun k => X k ∨ Y k) r := by
  obtain ⟨A, n, c, h0⟩ := h.rep
  refine ⟨h.ok, h.out, A, n, c, ?_⟩
  obtain ⟨V, h3, h4⟩ := h0.chgs
  have hs := hc.size
  have hl := h0.lt
  have hin : ∀ k, M4 p b1 b2 b3 k → ¬ M k := fun k hk hm => (hM k hm (h.lt k hk)).2 hk
  have hlg : ∀ k, Lg X (.slice none 0 0) k ∧ k < w.heap.size → Lg (fun k => X k ∨ Y k) (.slice none 0 0) k := fun k hk => ⟨fun e => by
    rcases e with e | e
    · exact hk.1.1 e
    · rcases hY k e with e | e
      · exact hk.1.1 e
      · have := hk.2; omega, hk.1.2⟩
  have hlm : ∀ k, Lg X (.slice none 0 0) k ∧ k < w.heap.size → ¬ M k := fun k hk hm => hk.1.1 (hM k hm hk.2).1
  exact ⟨Nat.le_refl _, by omega, h0.ne, ⟨fun k hk => .inl (h0.sub.1 k hk), fun k hk => by
    rcases hk with e | e
    · have := h0.sub.2 k e; omega
    · rcases hY k e with e | e
      · have := h0.sub.2 k e; omega
      · exact e.2⟩, hc.blk h0.blk (hin p (.inl rfl)), h0.acks.chg hc (hin b1 (.inr (.inl rfl))), h0.starts.chg hc (hin b2 (.inr (.inr (.inl rfl)))), ⟨V, h3.chg hc (hin b3 (.inr (.inr (.inr rfl)))), (h4.bound.chg hc hlm).mono hlg⟩, (h0.log.bound.chg hc hlm).mono hlg, by rw [h.out]; exact Vec.nil _ _ _ _ _⟩
abbrev P4 : Type := Nat × Nat × Nat × Nat
def m4 (q : P4) (k : Nat) : Prop := M4 q.1 q.2.1 q.2.2.1 q.2.2.2 k
/-- Replicas, where they lie; U: blocks that are kept apart from their logs. -/
structure Team (w : World) (U : Nat → Prop) (lv : Value) (ps : List P4) (rs : List Rp) : Prop where
  len : ps.length = rs.length
  vec : Vec ptrK 30 w U (fun _ => False) lv (ps.map (·.1))
  rq : ∀ (i : Nat) q r, ps[i]? = some q → rs[i]? = some r → RQ w q.1 q.2.1 q.2.2.1 q.2.2.2 U r
  sub : ∀ q ∈ ps, ∀ k, m4 q k → U k ∧ lv.ownBlock ≠ some k
  ap : ∀ (i j : Nat) q q', i ≠ j → ps[i]? = some q → ps[j]? = some q' → ∀ k, m4 q k → ¬ m4 q' k
  lt : ∀ k, U k → k < w.heap.size
/-- The messages that may come: their own row is one of U, their logs are not. -/
structure Net (w : World) (U : Nat → Prop) (ps : List P4) (lv nv : Value) (net : List Msg) : Prop where
  vec : Vec msgK 41 w U (fun k => ¬ U k) nv net
  off : ∀ q ∈ ps, ∀ k, m4 q k → nv.ownBlock ≠ some k
  ne : ∀ k, lv.ownBlock = some k → nv.ownBlock ≠ some k
theorem Team.widen {w w' : World} {U Y M : Nat → Prop} {lv : Value} {ps : List P4} {rs : List Rp} (h : Team w U lv ps rs) (hc : Chg M w w') (hM : ∀ k, M k → k < w.heap.size → U k ∧ (∀ q ∈ ps, ¬ m4 q k) ∧ lv.ownBlock ≠ some k) (hY : ∀ k, Y k → U k ∨ (w.heap.size ≤ k ∧ k < w'.heap.size)) : Team w' (fun k => U k ∨ Y k) lv ps rs where
  len := h.len
  vec := (h.vec.chg hc (fun k hk hm => (hM k hm (h.vec.lt k hk)).2.2 hk) (fun _ h => h.elim)).mono (fun k hk _ => .inl hk) (fun _ h _ => h)
  rq := fun i q r hq hr => (h.rq i q r hq hr).wider hc (fun k hm hl => ⟨(hM k hm hl).1, (hM k hm hl).2.1 q (List.mem_of_getElem? hq)⟩) hY
  sub := fun q hq k hk => ⟨.inl (h.sub q hq k hk).1, (h.sub q hq k hk).2⟩
  ap := h.ap
  lt := fun k hk => by
    have hs := hc.size
    rcases hk with e | e
    · have := h.lt k e; omega
    · rcases hY k e with e | e
      · have := h.lt k e; omega
      · exact e.2
theorem Team.far {w w' : World} {U : Nat → Prop} {lv : Value} {ps : List P4} {rs : List Rp} (h : Team w U lv ps rs) (hc : Chg (fun _ => False) w w') : Team w' U lv ps rs where
  len := h.len
  vec := h.vec.chg hc (fun _ _ h => h) (fun _ h => h.elim)
  rq := fun i q r hq hr => (h.rq i q r hq hr).far hc
  sub := h.sub
  ap := h.ap
  lt := fun k hk => Nat.lt_of_lt_of_le (h.lt k hk) hc.size
theorem Net.far {w w' : World} {U : Nat → Prop} {ps : List P4} {lv nv : Value} {net : List Msg} (h : Net w U ps lv nv net) (hc : Chg (fun _ => False) w w') : Net w' U ps lv nv net :=
  ⟨h.vec.chg hc (fun _ _ h => h) (fun _ _ _ _ h => h), h.off, h.ne⟩
/-- Replica i was called. -/
theorem Team.call {w w' : World} {U : Nat → Prop} {lv : Value} {ps : List P4} {rs : List Rp} (h : Team w U lv ps rs) {i : Nat} {q : P4} {r' : Rp} (hq : ps[i]? = some q) (hr : RQ w' q.1 q.2.1 q.2.2.1 q.2.2.2 U r') (hc : Chg (m4 q) w w') : Team w' U lv ps (rs.set i r') where
  len := by rw [List.length_set]; exact h.len
  vec := h.vec.chg hc (fun k hk hm => (h.sub q (List.mem_of_getElem? hq) k hm).2 hk) (fun _ h => h.elim)
  rq := fun j q' r hq' hr' => by
    by_cases e : j = i
    · subst e
      rw [hq] at hq'
      cases hq'
      have hlt : j < rs.length := by rw [← h.len]; exact (List.getElem?_eq_some_iff.1 hq).1
      rw [List.getElem?_set_self hlt] at hr'
      cases hr'
      exact hr
    · rw [List.getElem?_set_ne (fun e2 => e e2.symm)] at hr'
      exact (h.rq j q' r hq' hr').chg hc (fun k hm _ => ⟨(h.sub q (List.mem_of_getElem? hq) k hm).1, fun hk => h.ap i j q q' (fun e2 => e e2.symm) hq hq' k hm hk⟩)
  sub := h.sub
  ap := h.ap
  lt := fun k hk => Nat.lt_of_lt_of_le (h.lt k hk) hc.size
theorem Net.call {w w' : World} {U : Nat → Prop} {ps : List P4} {lv nv : Value} {net : List Msg} {rs : List Rp} (h : Net w U ps lv nv net) (ht : Team w U lv ps rs) {q : P4} (hq : q ∈ ps) (hc : Chg (m4 q) w w') : Net w' U ps lv nv net :=
  ⟨h.vec.chg hc (fun k hk hm => h.off q hq k hm hk) (fun k hk _ _ hm => hk (ht.sub q hq k hm).1), h.off, h.ne⟩
/-- Messages come to the net: the row may be a new one. -/
theorem Net.grow {w w' : World} {U : Nat → Prop} {ps : List P4} {lv nv nv' : Value} {net net' : List Msg} {rs : List Rp} (h : Net w U ps lv nv net) (ht : Team w U lv ps rs) (hv : Vec msgK 41 w' (fun k => U k ∨ w.heap.size ≤ k) (fun k => ¬ U k) nv' net') (hb : ∀ k, nv'.ownBlock = some k → nv.ownBlock = some k ∨ w.heap.size ≤ k) (hc : Chg (fun k => nv.ownBlock = some k) w w') :
    ∃ U' : Nat → Prop, (∀ k, U k → U' k) ∧ (∀ k, U' k → U k ∨ w.heap.size ≤ k) ∧ Team w' U' lv ps rs ∧ Net w' U' ps lv nv' net' := by
  refine ⟨fun k => U k ∨ nv'.ownBlock = some k, fun k hk => .inl hk, fun k hk => ?_, ?_, ?_⟩
  · rcases hk with e | e
    · exact .inl e
    · exact hv.inS k e
  · refine ht.widen hc (fun k hm _ => ⟨h.vec.inS k hm, fun q hq hk => h.off q hq k hk hm, fun e => h.ne k e hm⟩) (fun k hk => ?_)
    rcases hv.inS k hk with e | e
    · exact .inl e
    · exact .inr ⟨e, hv.lt k hk⟩
  · refine ⟨?_, fun q hq k hk e => ?_, fun k hk e => ?_⟩
    · obtain ⟨cells, h1, h2, h3⟩ := hv
      exact ⟨cells, h1, fun k hk => .inr hk, h3.mono (fun k hk => ⟨fun e => by
        rcases e with e | e
        · exact hk.1 e
        · exact hk.2.1 e, hk.2⟩)⟩
    · rcases hb k e with e | e
      · exact h.off q hq k hk e
      · have := ht.lt k (ht.sub q hq k hk).1
        omega
    · rcases hb k e with e | e
      · exact h.ne k hk e
      · have := ht.vec.lt k hk
        omega
/-- One more replica. -/
theorem Team.add {w wn w2 : World} {U : Nat → Prop} {lv lv' : Value} {ps : List P4} {rs : List Rp} (h : Team w U lv ps rs) {q : P4} {r : Rp} (hm : ∀ k, m4 q k → w.heap.size ≤ k ∧ k < wn.heap.size) (hq : RQ wn q.1 q.2.1 q.2.2.1 q.2.2.2 (fun k => m4 q k ∨ k < w.heap.size) r) (hn : Chg (fun _ => False) w wn) (h2 : Chg (fun k => lv.ownBlock = some k) wn w2) (hv : Vec ptrK 30 w2 (fun k => lv.ownBlock = some k ∨ wn.heap.size ≤ k) (fun _ => False) lv' (ps.map (·.1) ++ [q.1])) :
    ∃ U' : Nat → Prop, (∀ k, U' k → U k ∨ w.heap.size ≤ k) ∧ Team w2 U' lv' (ps ++ [q]) (rs ++ [r]) := by
  have hs1 := hn.size
  have hs2 := h2.size
  have hown : ∀ k, lv'.ownBlock = some k → lv.ownBlock = some k ∨ wn.heap.size ≤ k := fun k hk => hv.inS k hk
  have hlv : ∀ k, lv.ownBlock = some k → U k ∧ k < w.heap.size := fun k hk => ⟨h.vec.inS k hk, h.vec.lt k hk⟩
  have hall : Chg (fun k => lv.ownBlock = some k) w w2 := (hn.mono (fun _ h _ => h.elim)).trans h2 (fun _ h _ => h)
  refine ⟨fun k => U k ∨ (m4 q k ∨ lv'.ownBlock = some k), fun k hk => ?_, ⟨by simp [h.len], ?_, fun i q' r' hq' hr' => ?_, fun q' hq' k hk => ?_, fun i j a b hij ha hb k hka hkb => ?_, fun k hk => ?_⟩⟩
  · rcases hk with e | e | e
    · exact .inl e
    · exact .inr (hm k e).1
    · rcases hown k e with e | e
      · exact .inl (hlv k e).1
      · exact .inr (by omega)
  · obtain ⟨cells, v1, v2, v3⟩ := hv
    rw [List.map_append]
    exact ⟨cells, v1, fun k hk => .inr (.inr hk), v3⟩
  · have hY : ∀ k, m4 q k ∨ lv'.ownBlock = some k → U k ∨ (w.heap.size ≤ k ∧ k < w2.heap.size) := fun k hk => by
      rcases hk with e | e
      · have := hm k e; exact .inr ⟨this.1, by omega⟩
      · rcases hown k e with e2 | e2
        · exact .inl (hlv k e2).1
        · exact .inr ⟨by omega, hv.lt k e⟩
    by_cases hi : i < ps.length
    · rw [List.getElem?_append_left hi] at hq'
      rw [List.getElem?_append_left (by rw [← h.len]; exact hi)] at hr'
      exact (h.rq i q' r' hq' hr').wider hall (fun k hk _ => ⟨(hlv k hk).1, fun e => (h.sub q' (List.mem_of_getElem? hq') k e).2 hk⟩) hY
    · have hlt := (List.getElem?_eq_some_iff.1 hq').1
      rw [List.length_append, List.length_singleton] at hlt
      have e : i = ps.length := by omega
      rw [e, List.getElem?_append_right (Nat.le_refl _), Nat.sub_self] at hq'
      rw [e, h.len, List.getElem?_append_right (Nat.le_refl _), Nat.sub_self] at hr'
      simp at hq' hr'
      subst hq' hr'
      refine ((hq.wider (Y := fun k => lv'.ownBlock = some k) h2 (fun k hk _ => ⟨.inr (hlv k hk).2, fun e => ?_⟩) (fun k hk => ?_)).less (fun k hk => .inr (.inl hk)) (fun k hk => ?_))
      · have := (hm k e).1
        have := (hlv k hk).2
        omega
      · rcases hown k hk with e2 | e2
        · exact .inl (.inr (hlv k e2).2)
        · exact .inr ⟨e2, hv.lt k hk⟩
      · rcases hk with e2 | e2 | e2
        · exact .inl (.inr (h.lt k e2))
        · exact .inl (.inl e2)
        · exact .inr e2
  · rcases List.mem_append.1 hq' with e | e
    · refine ⟨.inl (h.sub q' e k hk).1, fun e2 => ?_⟩
      rcases hown k e2 with e3 | e3
      · exact (h.sub q' e k hk).2 e3
      · have := h.lt k (h.sub q' e k hk).1
        omega
    · rw [List.mem_singleton.1 e] at hk
      refine ⟨.inr (.inl hk), fun e2 => ?_⟩
      have := hm k hk
      rcases hown k e2 with e3 | e3
      · have := (hlv k e3).2; omega
      · omega
  · have key : ∀ (i : Nat) a, (ps ++ [q])[i]? = some a → (i < ps.length ∧ ps[i]? = some a) ∨ (i = ps.length ∧ a = q) := fun i a ha => by
      by_cases hi : i < ps.length
      · rw [List.getElem?_append_left hi] at ha
        exact .inl ⟨hi, ha⟩
      · have hlt := (List.getElem?_eq_some_iff.1 ha).1
        rw [List.length_append, List.length_singleton] at hlt
        have e : i = ps.length := by omega
        rw [e, List.getElem?_append_right (Nat.le_refl _), Nat.sub_self] at ha
        simp at ha
        exact .inr ⟨e, ha.symm⟩
    have old : ∀ (i : Nat) a, ps[i]? = some a → m4 a k → k < w.heap.size := fun i a ha hk => h.lt k (h.sub a (List.mem_of_getElem? ha) k hk).1
    rcases key i a ha with ⟨i1, i2⟩ | ⟨i1, i2⟩ <;> rcases key j b hb with ⟨j1, j2⟩ | ⟨j1, j2⟩
    · exact h.ap i j a b hij i2 j2 k hka hkb
    · have := old i a i2 hka
      have := (hm k (by rw [← j2]; exact hkb)).1
      omega
    · have := old j b j2 hkb
      have := (hm k (by rw [← i2]; exact hka)).1
      omega
    · omega
  · rcases hk with e | e | e
    · have := h.lt k e; omega
    · have := (hm k e).2; omega
    · exact hv.lt k e
theorem Team.none {w : World} : Team w (fun _ => False) (.slice none 0 0) [] [] := ⟨rfl, Vec.nil _ _ _ _ _, fun i q r hq => by simp at hq, fun q hq => (by cases hq), fun i j q q' _ hq => by simp at hq, fun _ h => h.elim⟩
theorem infoPtr : (Try.prog.info? 30).map (fun i => (i.zero, i.size, i.bytes)) = some (some (.pointer none), 1, 8) := by kernel_rfl
/-- A step of a script. -/
structure TStep where
  kind : Int
  n : Int
  client : Int
  request : Int
def stepK : Ty TStep := Ty.iso (Ty.pair (Ty.int .i64) (Ty.pair (Ty.int .i64) (Ty.pair (Ty.int .i64) (Ty.int .i64)))) (fun s => (s.kind, s.n, s.client, s.request))
theorem step_open {w : World} {S : Nat → Prop} {x : TStep} {cs : List Value} (h : stepK.K w S x cs) : cs = [.int .i64 x.kind, .int .i64 x.n, .int .i64 x.client, .int .i64 x.request] ∧ NumW x.kind ∧ NumW x.n ∧ NumW x.client ∧ NumW x.request := by
  obtain ⟨_, _, e1, ⟨rfl, w1⟩, _, _, rfl, ⟨rfl, w2⟩, _, _, rfl, ⟨rfl, w3⟩, rfl, w4⟩ := h
  exact ⟨e1, w1, w2, w3, w4⟩
theorem opens_step : Opens Try.prog 118 stepK := opens_struct Try.underlying118 (by kernel_rfl) (opensF_cons rfl rfl opens_int_ (opensF_cons rfl rfl opens_int_ (opensF_cons rfl rfl opens_int_ (opensF_last rfl rfl opens_int_)))) (fun s : TStep => (s.kind, s.n, s.client, s.request)) (fun p => ⟨p.1, p.2.1, p.2.2.1, p.2.2.2⟩) (fun _ => rfl)
theorem opens_steps : Opens Try.prog 80 (Ty.slice stepK) := opens_slice Try.underlying80 (by kernel_rfl) opens_step (by decide)
end Go.Proofs.Ytaldoajdhbndhaa.Pa


/- Parts of a row of one's own whose elements point elsewhere; an empty literal; what comes to the net. -/

namespace Go.Proofs.Ytaldoajdhbndhaa.Pa

set_option linter.unusedVariables false

set_option linter.unusedSimpArgs false

open Go.RowKit Go.Proofs.Ytaldoajdhbndhaa.C

/-- What is seen of a row: the elements' own regions stay apart from the row. -/
theorem Vec.parts {α : Type} {d : Ty α} {e : TypeId} {w : World} {S D : Nat → Prop} {A : Option Addr} {n c : Nat} {xs : List α} (h : Vec d e w S D (.slice A n c) xs) :
    n = xs.length ∧ n ≤ c ∧ c ≤ maxLen ∧ (A = none → c = 0) ∧ ∃ cells, Sees w (fun k => (Value.slice A n c).ownBlock = some k) A cells ∧ Ty.Row d w (fun k => D k ∧ (Value.slice A n c).ownBlock ≠ some k ∧ k < w.heap.size) xs cells := by
  obtain ⟨cells, h1, h2, h3⟩ := h
  have hn : n = xs.length := by
    obtain ⟨A', c', hv, _⟩ := own_sees h1
    injection hv
  subst hn
  obtain ⟨q1, q2, q3, q4⟩ := own_at h1
  exact ⟨rfl, q1, q2, q3, cells, q4, h3⟩
theorem vec_slice {α : Type} {d : Ty α} {e : TypeId} {w : World} {S D : Nat → Prop} {v : Value} {xs : List α} (h : Vec d e w S D v xs) {n : Nat} (hn : xs.length = n) : ∃ A c, v = .slice A n c := by subst hn; exact h.form
/-- An empty literal. -/
theorem Vec.made {α : Type} (d : Ty α) (e : TypeId) (w : World) (D : Nat → Prop) : Vec d e (w.alloc (.cells #[] e)) (fun k => k = w.heap.size) D (.slice (some ⟨w.heap.size, 0, none⟩) 0 0) [] := by
  refine ⟨[], World.ownsRow_made w #[] 0 (Nat.zero_le _) (by simp [maxLen]) (by simp), fun k hk => ?_, Ty.Row.nil _ _ _⟩
  simp [Value.ownBlock] at hk
  exact hk.symm
/-- What a replica says, as it comes to the net. -/
theorem said_news {w wt : World} {U : Nat → Prop} {lv nv : Value} {ps : List P4} {rs : List Rp} {net : List Msg} (T : Team w U lv ps rs) (N : Net w U ps lv nv net) {A : Option Addr} {n c : Nat} {out : List Msg} (hv : Vec msgK 41 wt (fun k => w.heap.size ≤ k) (fun k => w.heap.size ≤ k) (.slice A n c) out) :
    n = out.length ∧ n ≤ c ∧ (A = none → c = 0) ∧ ∃ news, Sees wt (fun _ => True) A news ∧ Ty.Row msgK wt (fun k => ¬ U k ∧ nv.ownBlock ≠ some k ∧ k < wt.heap.size) out news := by
  obtain ⟨h1, h2, _, h3, cells, h4, h5⟩ := Vec.parts hv
  refine ⟨h1, h2, h3, cells, h4.mono (fun _ _ => trivial), h5.mono (fun k hk => ⟨fun hu => ?_, fun e => ?_, hk.2.2⟩)⟩
  · have := T.lt k hu
    have := hk.1
    omega
  · have := N.vec.lt k e
    have := hk.1
    omega
/-- The net has grown: what the next question finds. -/
theorem way_end {w0 wt w2 : World} {U : Nat → Prop} {lv nv nv' : Value} {ps : List P4} {rs : List Rp} {net net' : List Msg} {N q : Nat} (T : Team wt U lv ps rs) (H : Net wt U ps lv nv net) (C : Chg (fun x => w0.heap.size ≤ x) w0 wt) (hU : ∀ x, U x → w0.heap.size ≤ x) (I : NInv N q rs net') (hv : Vec msgK 41 w2 (fun x => nv.ownBlock = some x ∨ wt.heap.size ≤ x) (fun k => ¬ U k) nv' net') (hc : Chg (fun x => nv.ownBlock = some x) wt w2) :
    ∃ U' : Nat → Prop, Team w2 U' lv ps rs ∧ Net w2 U' ps lv nv' net' ∧ NInv N q rs net' ∧ (∀ x, U' x → w0.heap.size ≤ x) ∧ Chg (fun x => w0.heap.size ≤ x) w0 w2 := by
  have hs := C.size
  obtain ⟨U', h1, h2, h3, h4⟩ := H.grow T (hv.mono (S' := fun k => U k ∨ wt.heap.size ≤ k) (fun k hk _ => hk.imp (fun e => H.vec.inS k e) id) (fun _ h _ => h)) (fun k hk => hv.inS k hk) hc
  refine ⟨U', h3, h4, I, fun x hx => ?_, C.trans hc (fun x hx _ => hU x (H.vec.inS x hx))⟩
  rcases h2 x hx with e | e
  · exact hU x e
  · omega
/-- A message of the net. -/
theorem Net.msg {w : World} {U : Nat → Prop} {ps : List P4} {lv : Value} {A : Option Addr} {n c : Nat} {net : List Msg} (h : Net w U ps lv (.slice A n c) net) {i : Nat} (hi : i < n) :
    ∃ m g B k d, net[i]? = some m ∧ m ∈ net ∧ A = some ⟨g, 0, none⟩ ∧ g < w.heap.size ∧ msgK.K w (fun x => ¬ U x ∧ x ≠ g ∧ x < w.heap.size) m [.int .i64 m.kind, .int .i64 m.view, .int .i64 m.src, .int .i64 m.dst, .int .i64 m.op, .int .i64 m.commit, .int .i64 m.normal, .slice B k d] ∧ Ty.At entryK w (fun x => ¬ U x ∧ x ≠ g ∧ x < w.heap.size) B k d m.log ∧
      ∀ j u, ([.int .i64 m.kind, .int .i64 m.view, .int .i64 m.src, .int .i64 m.dst, .int .i64 m.op, .int .i64 m.commit, .int .i64 m.normal, .slice B k d] : List Value)[j]? = some u → w.cell? ⟨g, i * 8 + j, none⟩ = some u := by
  have hn := (Vec.parts h.vec).1
  obtain ⟨m, hm⟩ : ∃ m, net[i]? = some m := ⟨_, List.getElem?_eq_getElem (by omega)⟩
  obtain ⟨g, cs, hA, _, hg, hK, hcs⟩ := h.vec.get (by decide) hm
  obtain ⟨B, k, d, e, hat⟩ := msg_open (cs := cs.toArray) (by simpa using hK)
  have e2 : cs = [.int .i64 m.kind, .int .i64 m.view, .int .i64 m.src, .int .i64 m.dst, .int .i64 m.op, .int .i64 m.commit, .int .i64 m.normal, .slice B k d] := by
    have := congrArg Array.toList e
    simpa using this
  subst e2
  exact ⟨m, g, B, k, d, hm, List.mem_of_getElem? hm, hA, hg, hK, hat, fun j u hj => hcs j u hj⟩
/-- The change that changes nothing, in memory. -/
theorem ent_at {w : World} {c q : Int} (hc : NumW c) (hq : NumW q) : EntryAt w (fun _ => False) ⟨0, c, q, -1, -1, -1, -1, [], []⟩ none 0 0 none 0 0 := by
  refine ⟨fun u hu => ?_, at_nil_ _ _ _, at_nil_ _ _ _⟩
  simp [Entry.nums] at hu
  rcases hu with rfl | rfl | rfl | rfl
  · decide
  · exact hc
  · exact hq
  · decide
end Go.Proofs.Ytaldoajdhbndhaa.Pa


/- Replicas play a script together: what a question at each step finds. -/

namespace Go.Proofs.Ytaldoajdhbndhaa.Pa

set_option linter.unusedVariables false

set_option linter.unusedSimpArgs false

open Go.RowKit Go.Proofs.Ytaldoajdhbndhaa.C

attribute [local go_sem] max2_int min2_int max_two min_two

/-- The number that a step names. -/
def kOf (n : Int) : Int := if n < 0 then -(n + 1) else n
theorem kOf_nat {n : Int} (h : -9223372036854775808 ≤ n ∧ n ≤ 9223372036854775807) : ∃ j : Nat, kOf n = (j : Int) ∧ (j : Int) ≤ 9223372036854775807 := by
  unfold kOf
  split
  · exact ⟨(-(n + 1)).toNat, by omega, by omega⟩
  · exact ⟨n.toNat, by omega, by omega⟩
def teamR (N k : Nat) : List Rp := (List.range k).map fun j : Nat => newR (N : Int) (j : Int) 3 emptyS
theorem teamR_succ (N k : Nat) : teamR N (k + 1) = teamR N k ++ [newR (N : Int) (k : Int) 3 emptyS] := by unfold teamR; rw [List.range_succ, List.map_append]; rfl
set_option maxHeartbeats 4000000 in
set_option maxRecDepth 100000 in
theorem together_any (fn : Nat) (eg : ∀ args w, (callFunc fn args).run Try.prog w = .ok (.enter fn args) w) (N : Nat) (hN : N = 3 ∨ N = 5 ∨ N = 7) (hcall : ∀ (W : World) (U : Nat → Prop) (lv : Value) (ps : List P4) (rs : List Rp) (net : List Msg) (t : Nat), Team W U lv ps rs → NInv N t rs net → Calls Try.prog fn #[lv] W (fun e W' => e = .returned (.bool true) ∧ Chg (fun _ => False) W W')) {w : World} {L : Option Addr} {ln lc : Nat} {l : List TStep} (hl : Ty.At stepK w (fun k => k < w.heap.size) L ln lc l) (hln : ln ≤ 120) :
    Calls Try.prog 33 #[.int .i64 (N : Int), .slice L ln lc, .func (.func fn) #[] #[]] w fun e w' => e = .returned (.bool true) ∧ Below w.heap.size w w' := by
  have HLL := hid hl
  have LN := hid hl.1
  have HCALL := hid hcall
  have HN := hid hN
  have HNB := hid (show 3 ≤ N ∧ N ≤ 7 by omega)
  have hnb7 : (N : Int) ≤ 7 := by omega
  clear hl hcall hN
  go_enter Try.func33, Try.ntmps33
  go_wp2_with fail
  go_loopw [7, 21] (fun lv i wr => ∃ (k : Nat) (A : Option Addr) (c : Nat) (U : Nat → Prop) (ps : List P4), k ≤ N ∧ i = .int .i64 k ∧ lv = .slice A k c ∧ Team wr U lv ps (teamR N k) ∧ (∀ x, U x → w.heap.size ≤ x) ∧ Chg (fun x => w.heap.size ≤ x) w wr) (fun _ i _ => N - (intOf i).toNat)
  case atStart => exact ⟨0, none, 0, fun _ => False, [], Nat.zero_le _, rfl, rfl, .none, fun _ h => h.elim, Chg.refl _ _⟩
  case round =>
    obtain ⟨k, A, c, U, ps, hk, rfl, rfl, hT, hU, hC⟩ := hrel
    have HT := hid hT
    have HU := hid hU
    have HC := hid hC
    have HK := hid hk
    clear hT hU hC
    by_cases hlt : k < N
    · have hlt2 : (k : Int) < (N : Int) := by omega
      have HLT := hid hlt
      go_wp2_with fail
      refine (rnew_any (R := fun _ => False) (s := emptyS) (n := (N : Int)) (id := (k : Int)) (tm := 3) (at_nil_ _ _ _) (by decide) ?_).mono ?_
      · have := HNB.out
        exact ⟨numW_of (by omega), numW_of (by omega), numW_of (by omega)⟩
      rintro e wn hnew
      obtain ⟨p, b1, b2, b3, rfl, hM, hQ, hcn⟩ := RQ.of_new hnew (cfg_team HN.out hlt) empty_right
      have HM := hid hM
      have HQ := hid hQ
      have HCN := hid hcn
      have HLV := hid HT.out.vec
      clear hnew hM hQ hcn
      go_wp2_with (first | ((with_reducible refine at_dst (N := 41) rfl ?_); obtain ⟨W1, hW1⟩ : ∃ q_, q_ = wn.alloc (.cells #[.pointer (some ⟨p, 0, none⟩)] 30) := ⟨_, rfl⟩; rw [← hW1]; have CW1 := hid (show Chg (fun _ => False) wn W1 from (by rw [hW1]; exact (Chg.refl _ wn).alloc _)); have CWA := hid (show Chg (fun _ => False) wr W1 from HCN.out.trans CW1.out (fun _ h _ => h)); have HV1 := hid (((Vec.self HT.out.vec).chg CWA.out (fun _ _ h => h) (fun _ h => h.elim)).mono (S' := fun x => (Value.slice A k c).ownBlock = some x) (D' := fun _ => False) (fun _ h _ => h) (fun _ h _ => h)); have HSEE := hid (show Sees W1 (fun x => x = wn.heap.size) (some ⟨wn.heap.size, 0, none⟩) [.pointer (some ⟨p, 0, none⟩)] from .inr ⟨_, rfl, rfl, (fun j u hj => by rw [add_at, Nat.zero_add, hW1, cellAt (blk_new wn _)]; simpa using hj)⟩); clear hW1; refine vec_list (d := ptrK) _ rfl (.tmp 38) (.tmp 40) 82 30 (.pointer none) 8 rfl Try.underlying82 infoPtr rfl (by decide) (by decide) (.slice A k c) rfl HV1.out (some ⟨wn.heap.size, 0, none⟩) 1 1 (ys := [p]) rfl (by simp) (by decide) rfl HSEE.out (Ty.Row.one_ rfl) (by have h1 := HLT.out; have h2 := HNB.out; have h3 : (ps.map (·.1)).length = k := (by rw [List.length_map, HT.out.len]; simp [teamR]); rw [h3]; omega) ?_; rw [show (ps.map (·.1)).length = k from (by rw [List.length_map, HT.out.len]; simp [teamR])]; intro A' c' w2 h1 h2; have G1 := hid h1; have G2 := hid h2; clear h1 h2))
      obtain ⟨U', hU', hT'⟩ := HT.out.add (q := (p, b1, b2, b3)) HM.out (HQ.out.less (fun x hx => .inl hx) (fun x hx => hx.imp id (fun h => ⟨fun h => h, h⟩))) HCN.out ((CW1.out.mono (fun _ h _ => h.elim)).trans G2.out (fun _ h _ => h)) (G1.out.mono (fun x hx _ => hx.imp id (fun h => Nat.le_trans CW1.out.size h)) (fun _ h _ => h))
      rw [← teamR_succ] at hT'
      have HT2 := hid hT'
      have HU2 := hid (show ∀ x, U' x → w.heap.size ≤ x from fun x hx => by
        rcases hU' x hx with e | e
        · exact HU.out x e
        · exact Nat.le_trans HC.out.size e)
      have HC2 := hid (show Chg (fun x => w.heap.size ≤ x) w w2 from ((HC.out.trans CWA.out (fun _ h _ => h.elim)).trans G2.out (fun x hx _ => HU.out x (HT.out.vec.inS x hx))))
      clear hU' hT'
      have hlt3 : (k : Int) < (N : Int) := by have := HLT.out; omega
      go_roundw
      case measure => simp [intOf]; omega
      case rel => first | exact ⟨k + 1, A', c', U', ps ++ [(p, b1, b2, b3)], HLT.out, by go_num, rfl, HT2.out, HU2.out, HC2.out⟩ | ((repeat apply Exists.intro); exact ⟨⟨k + 1, A', c', U', ps ++ [(p, b1, b2, b3)], HLT.out, by go_num, rfl, HT2.out, HU2.out, HC2.out⟩, rfl⟩)
    · have hkn : ¬ (k : Int) < (N : Int) := by omega
      obtain rfl : k = N := by have := HK.out; omega
      go_wp2_with fail
      go_loopw [11, 45] (fun nv i wr => ∃ (q : Nat) (An : Option Addr) (nn cn : Nat) (U : Nat → Prop) (rs : List Rp) (net : List Msg), q ≤ ln ∧ i = .int .i64 q ∧ nv = .slice An nn cn ∧ nn = net.length ∧ nn ≤ 20 * q ∧ Team wr U (.slice A k c) ps rs ∧ Net wr U ps (.slice A k c) nv net ∧ NInv k q rs net ∧ (∀ x, U x → w.heap.size ≤ x) ∧ Chg (fun x => w.heap.size ≤ x) w wr) (fun _ i _ => ln - (intOf i).toNat)
      case atStart => exact ⟨0, none, 0, 0, U, teamR k k, [], Nat.zero_le _, rfl, rfl, rfl, Nat.le_refl _, HT.out, ⟨Vec.nil _ _ _ _ _, fun q _ x _ e => by simp [Value.ownBlock] at e, fun x _ e => by simp [Value.ownBlock] at e⟩, NInv.start HN.out, HU.out, HC.out⟩
      case round =>
        obtain ⟨q, An, nn, cn, U1, rs, net, hq, rfl, rfl, hnn, hnl, hT1, hN1, hI, hU1, hC1⟩ := hrel
        have T1 := hid hT1
        have N1 := hid hN1
        have I1 := hid hI
        have U1E := hid hU1
        have C1 := hid hC1
        have HNN := hid hnn
        have HNL := hid hnl
        have HQL := hid hq
        clear hT1 hN1 hI hU1 hC1 hnn
        have hnb : (nn : Int) ≤ 2400 := by omega
        have hlnb : (ln : Int) ≤ 120 := by omega
        clear hnl
        by_cases hlt : q < ln
        · have hlt2 : (q : Int) < (ln : Int) := by omega
          have HLTQ := hid hlt
          obtain ⟨st, hx⟩ : ∃ st, l[q]? = some st := ⟨_, List.getElem?_eq_getElem (by have := LN.out; omega)⟩
          obtain ⟨a, cs, ha, haR, hK, hcs⟩ := (HLL.out.chg C1.out (fun x hx e => by have h1 : x < w.heap.size := hx; have h2 : w.heap.size ≤ x := e; omega)).get (by decide) hx
          obtain ⟨e1, n1, n2, n3, n4⟩ := step_open hK
          subst e1
          subst ha
          have hcs2 : ∀ j u, ([.int .i64 st.kind, .int .i64 st.n, .int .i64 st.client, .int .i64 st.request] : List Value)[j]? = some u → wr.cell? (a.add (q * 4 + j)) = some u := fun j u hj => hcs j u hj
          have x0 := elem_cell0 hcs2 _ rfl
          have x1 := elem_cell hcs2 0 _ rfl
          have x2 := elem_cell hcs2 1 _ rfl
          have x3 := elem_cell hcs2 2 _ rfl
          have NUM := hid (show NumW st.kind ∧ NumW st.n ∧ NumW st.client ∧ NumW st.request from ⟨n1, n2, n3, n4⟩)
          have HIN := hid (show -9223372036854775808 ≤ st.n ∧ st.n ≤ 9223372036854775807 by have h := n2; simp [NumW, Lit.wf, IntKind.min, IntKind.max, IntKind.signed, IntKind.bits] at h; omega)
          clear hx hK hcs hcs2 n1 n2 n3 n4 haR
          go_upto_region 15 with fail
          obtain ⟨bs, hbs⟩ : ∃ q_, q_ = wr.heap.size := ⟨_, rfl⟩
          obtain ⟨W1, hW1⟩ : ∃ q_, q_ = wr.alloc (.cells #[.int .i64 st.kind, .int .i64 st.n, .int .i64 st.client, .int .i64 st.request] 118) := ⟨_, rfl⟩
          have CW1 := hid (show Chg (fun _ => False) wr W1 by rw [hW1]; exact (Chg.refl _ wr).alloc _)
          have BW1 := hid (show W1.heap[bs]? = some (.cells #[.int .i64 st.kind, .int .i64 st.n, .int .i64 st.client, .int .i64 st.request] 118 (0, 0)) by rw [hW1, hbs]; exact blk_new wr _)
          have HBS := hid hbs
          rw [← hW1, ← hbs]
          clear hW1 hbs x0 x1 x2 x3
          go_upto_if 52 with fail
          go_cut [14] (fun v wx => v = .int .i64 (kOf st.n) ∧ W1 = wx)
          case first =>
            by_cases h0 : st.n < 0
            · have hw1 : IntKind.i64.wrap (st.n + 1) = st.n + 1 := IntWalk.i64_in _ (by have := HIN.out; omega)
              have hw2 : IntKind.i64.wrap (-(st.n + 1)) = -(st.n + 1) := IntWalk.i64_in _ (by have := HIN.out; omega)
              have hk0 := hid (show kOf st.n = -(st.n + 1) by unfold kOf; rw [if_pos h0])
              go_wp2_with fail
              go_meet
              rw [hk0.out]
              exact ⟨rfl, rfl⟩
            · have hk0 := hid (show kOf st.n = st.n by unfold kOf; rw [if_neg h0])
              go_wp2_with fail
              go_meet
              rw [hk0.out]
              exact ⟨rfl, rfl⟩
          case rest =>
            obtain ⟨rfl, rfl⟩ := hcut
            obtain ⟨kk, hkk, hkb⟩ := kOf_nat HIN.out
            rw [hkk]
            clear hkk
            go_upto_block 4 with fail
            go_cut [11] (fun nv wx => ∃ (An : Option Addr) (nn cn : Nat) (U : Nat → Prop) (rs : List Rp) (net : List Msg), nv = .slice An nn cn ∧ nn = net.length ∧ nn ≤ 20 * (q + 1) ∧ Team wx U (.slice A k c) ps rs ∧ Net wx U ps (.slice A k c) nv net ∧ NInv k (q + 1) rs net ∧ (∀ x, U x → w.heap.size ≤ x) ∧ Chg (fun x => w.heap.size ≤ x) w wx)
            case first =>
              have T2 := hid (T1.out.far CW1.out)
              have N2 := hid (N1.out.far CW1.out)
              have C2 := hid (C1.out.trans CW1.out (fun _ h _ => h.elim))
              have hnb0 : (3 : Int) ≤ (k : Int) := by have := HNB.out; omega
              have z0 : W1.cell? ⟨bs, 0, none⟩ = some (.int .i64 st.kind) := (cellAt BW1.out 0).trans rfl
              have z2 : W1.cell? ⟨bs, 2, none⟩ = some (.int .i64 st.client) := (cellAt BW1.out 2).trans rfl
              have z3 : W1.cell? ⟨bs, 3, none⟩ = some (.int .i64 st.request) := (cellAt BW1.out 3).trans rfl
              obtain ⟨j, hrem, hjk⟩ : ∃ j : Nat, (kk : Int) % (k : Int) = (j : Int) ∧ j < k := ⟨kk % k, (Int.natCast_emod kk k).symm, Nat.mod_lt _ (by have := HNB.out; omega)⟩
              have hjb : (j : Int) < (k : Int) := by omega
              obtain ⟨r, hr, hrok, hrn, hri, hro, hrq0, hrq1⟩ := I1.out.get hjk
              obtain ⟨qq, hqq⟩ : ∃ qq, ps[j]? = some qq := ⟨_, List.getElem?_eq_getElem (by have h1 := T2.out.len; have h2 := I1.out.1; omega)⟩
              obtain ⟨g, cs5, hA, hgS, hgl, hK, hcs⟩ := T2.out.vec.get (by decide) (i := j) (x := qq.1) (by rw [List.getElem?_map, hqq]; rfl)
              subst hK
              subst hA
              have y0 : W1.cell? ⟨g, j, none⟩ = some (.pointer (some ⟨qq.1, 0, none⟩)) := by have := hcs 0 _ rfl; simpa [ptrK] using this
              clear hcs
              by_cases k4 : st.kind = 4
              · have k4b : (st.kind == 4) = true := by simp [k4]
                clear k4
                go_wp2_with fail
                refine (rq_tick (T2.out.rq j qq r hqq hr) ⟨hrq0, by have := HLTQ.out; omega⟩).mono ?_
                rintro e wt ⟨Ao, co, rfl, hq', hv', kt⟩
                have TT := hid (T2.out.call hqq hq' kt)
                have NT := hid (N2.out.call T2.out (List.mem_of_getElem? hqq) kt)
                have CT := hid (show Chg (fun x => w.heap.size ≤ x) w wt from C2.out.trans kt (fun x hx _ => U1E.out x (T2.out.sub qq (List.mem_of_getElem? hqq) x hx).1))
                have IT := hid (I1.out.tick hr)
                have hsl : (tickR r).out.length ≤ 14 := by have := sl_tick (r := r) (by rw [hrn]; omega); unfold Sl at this; rw [hro] at this; simpa using this
                clear hq' kt y0 z0 z2 z3
                obtain ⟨s1, s2, s3, news, s4, s5⟩ := said_news T2.out N2.out hv'
                obtain ⟨on, hon⟩ : ∃ q_, q_ = (tickR r).out.length := ⟨_, rfl⟩
                have SL := hid (show on ≤ 14 by rw [hon]; exact hsl)
                have SLI : (on : Int) ≤ 14 := by have := SL.out; omega
                rw [← hon] at s2 ⊢
                have HON := hid hon
                have S2 := hid s2
                have S3 := hid s3
                have S4 := hid s4
                have S5 := hid s5
                clear s1 s2 s3 s4 s5 hon hsl hv'
                
                go_wp2_with (first | ((with_reducible refine at_dst (N := 109) rfl ?_); refine vec_list (d := msgK) _ rfl (.tmp 101) (.tmp 108) 27 41 (.agg #[.int .i64 0, .int .i64 0, .int .i64 0, .int .i64 0, .int .i64 0, .int .i64 0, .int .i64 0, .slice none 0 0]) 80 rfl Try.underlying27 infoMsgP rfl (by decide) (by decide) (.slice An nn cn) rfl (Vec.self NT.out.vec) (Ao) on co (ys := (tickR r).out) rfl S3.out S2.out HON.out S4.out S5.out (by have h1 := HNN.out; have h2 := SL.out; omega) ?_; rw [← HNN.out]; intro A' c' w2 h1 h2; have G1 := hid h1; have G2 := hid h2; clear h1 h2))
                obtain ⟨U', g3, g4, g5, g6, g7⟩ := way_end TT.out NT.out CT.out U1E.out IT.out G1.out G2.out
                go_meet
                exact ⟨A', nn + on, c', U', _, _, rfl, by rw [List.length_append, ← HNN.out, HON.out], by have := HNL.out; have := SL.out; omega, g3, g4, g5, g6, g7⟩
              have k4b : (st.kind == 4) = false := by simp [k4]
              clear k4
              by_cases k5 : st.kind = 5
              · have k5b : (st.kind == 5) = true := by simp [k5]
                clear k5
                go_upto_region 27 with fail
                have E_y : ∀ wx, Chg (fun _ => False) W1 wx → wx.cell? ⟨g, j, none⟩ = some (.pointer (some ⟨qq.1, 0, none⟩)) := fun wx hx => hx.cell y0 (fun h => h)
                have E_2 : ∀ wx, Chg (fun _ => False) W1 wx → wx.cell? ⟨bs, 2, none⟩ = some (.int .i64 st.client) := fun wx hx => hx.cell z2 (fun h => h)
                have E_3 : ∀ wx, Chg (fun _ => False) W1 wx → wx.cell? ⟨bs, 3, none⟩ = some (.int .i64 st.request) := fun wx hx => hx.cell z3 (fun h => h)
                clear y0 z0 z2 z3
                obtain ⟨en, hen⟩ : ∃ q_ : Entry, q_ = ⟨0, st.client, st.request, -1, -1, -1, -1, [], []⟩ := ⟨_, rfl⟩
                have HEN := hid hen
                have hsl : (submitR r en).1.out.length ≤ 14 := by have := sl_submit (r := r) (by rw [hrn]; omega) en; unfold Sl at this; rw [hro] at this; simpa using this
                have HSL0 := hid hsl
                have IT := hid (I1.out.submit hr en)
                have RQJ := hid (T2.out.rq j qq r hqq hr)
                clear hen hsl
                have hk0 : ¬ k = 0 := by omega
                have htm : Int.tmod (kk : Int) (k : Int) = (j : Int) := by rw [Int.tmod_eq_emod_of_nonneg (Int.natCast_nonneg _)]; exact hrem
                refine wpB_start (fun wx : World => Chg (fun _ => False) W1 wx) (by kernel_rfl) ?_
                have hHeld : (fun wx : World => Chg (fun _ => False) W1 wx) _ := (Chg.refl (fun _ => False) W1).drew
                -- 0: t115 := move t7 : 82
                refine wpB_take (i := 0) (v := ?_) (get_of_drop rfl) (by kernel_rfl) (by kernel_rfl) (by kernel_rfl) (by kernel_rfl) (fun _ _ _ h => h) (Or.inl ⟨by rfl, ?_⟩) hHeld ?_
                rotate_left
                · (intro w hSw; (try dsimp only at hSw); go_simp <;> with_reducible rfl)
                try simp only [Act.put, List.setIfInBounds_toArray, List.set_cons_zero, List.set_cons_succ]
                -- 1: t116 := move t14 : 3
                refine wpB_take (i := 1) (v := ?_) (get_of_drop rfl) (by kernel_rfl) (by kernel_rfl) (by kernel_rfl) (by kernel_rfl) (fun _ _ _ h => h) (Or.inl ⟨by rfl, ?_⟩) hHeld ?_
                rotate_left
                · (intro w hSw; (try dsimp only at hSw); go_simp <;> with_reducible rfl)
                try simp only [Act.put, List.setIfInBounds_toArray, List.set_cons_zero, List.set_cons_succ]
                -- 2: t117 := move t0 : 3
                refine wpB_take (i := 2) (v := ?_) (get_of_drop rfl) (by kernel_rfl) (by kernel_rfl) (by kernel_rfl) (by kernel_rfl) (fun _ _ _ h => h) (Or.inl ⟨by rfl, ?_⟩) hHeld ?_
                rotate_left
                · (intro w hSw; (try dsimp only at hSw); go_simp <;> with_reducible rfl)
                try simp only [Act.put, List.setIfInBounds_toArray, List.set_cons_zero, List.set_cons_succ]
                -- 3: t118 := binOp BinOp.rem 3 t116 t117 3 : 3
                refine wpB_take (i := 3) (v := ?_) (get_of_drop rfl) (by kernel_rfl) (by kernel_rfl) (by kernel_rfl) (by kernel_rfl) (fun _ _ _ h => h) (Or.inl ⟨by rfl, ?_⟩) hHeld ?_
                rotate_left
                · (intro w hSw; (try dsimp only at hSw); go_simp <;> with_reducible rfl)
                try simp only [Act.put, List.setIfInBounds_toArray, List.set_cons_zero, List.set_cons_succ]
                -- 4: t119 := indexAddr 82 t115 t118 : 0
                refine wpB_take (i := 4) (v := ?_) (get_of_drop rfl) (by kernel_rfl) (by kernel_rfl) (by kernel_rfl) (by kernel_rfl) (fun _ _ _ h => h) (Or.inl ⟨by rfl, ?_⟩) hHeld ?_
                rotate_left
                · (intro w hSw; (try dsimp only at hSw); go_simp <;> with_reducible rfl)
                try simp only [Act.put, List.setIfInBounds_toArray, List.set_cons_zero, List.set_cons_succ]
                -- 5: t120 := load 30 t119 : 30
                refine wpB_take (i := 5) (v := ?_) (get_of_drop rfl) (by kernel_rfl) (by kernel_rfl) (by kernel_rfl) (by kernel_rfl) (fun _ _ _ h => h) (Or.inl ⟨by rfl, ?_⟩) hHeld ?_
                rotate_left
                · (intro w hSw; (try dsimp only at hSw); go_simp <;> with_reducible rfl)
                try simp only [Act.put, List.setIfInBounds_toArray, List.set_cons_zero, List.set_cons_succ]
                -- 6: t121 := fieldAddr 118 t13 2 : 0
                refine wpB_take (i := 6) (v := ?_) (get_of_drop rfl) (by kernel_rfl) (by kernel_rfl) (by kernel_rfl) (by kernel_rfl) (fun _ _ _ h => h) (Or.inl ⟨by rfl, ?_⟩) hHeld ?_
                rotate_left
                · (intro w hSw; (try dsimp only at hSw); go_simp <;> with_reducible rfl)
                try simp only [Act.put, List.setIfInBounds_toArray, List.set_cons_zero, List.set_cons_succ]
                -- 7: t122 := load 3 t121 : 3
                refine wpB_take (i := 7) (v := ?_) (get_of_drop rfl) (by kernel_rfl) (by kernel_rfl) (by kernel_rfl) (by kernel_rfl) (fun _ _ _ h => h) (Or.inl ⟨by rfl, ?_⟩) hHeld ?_
                rotate_left
                · (intro w hSw; (try dsimp only at hSw); go_simp <;> with_reducible rfl)
                try simp only [Act.put, List.setIfInBounds_toArray, List.set_cons_zero, List.set_cons_succ]
                -- 8: t123 := fieldAddr 118 t13 3 : 0
                refine wpB_take (i := 8) (v := ?_) (get_of_drop rfl) (by kernel_rfl) (by kernel_rfl) (by kernel_rfl) (by kernel_rfl) (fun _ _ _ h => h) (Or.inl ⟨by rfl, ?_⟩) hHeld ?_
                rotate_left
                · (intro w hSw; (try dsimp only at hSw); go_simp <;> with_reducible rfl)
                try simp only [Act.put, List.setIfInBounds_toArray, List.set_cons_zero, List.set_cons_succ]
                -- 9: t124 := load 3 t123 : 3
                refine wpB_take (i := 9) (v := ?_) (get_of_drop rfl) (by kernel_rfl) (by kernel_rfl) (by kernel_rfl) (by kernel_rfl) (fun _ _ _ h => h) (Or.inl ⟨by rfl, ?_⟩) hHeld ?_
                rotate_left
                · (intro w hSw; (try dsimp only at hSw); go_simp <;> with_reducible rfl)
                try simp only [Act.put, List.setIfInBounds_toArray, List.set_cons_zero, List.set_cons_succ]
                -- 10: t125 := CALL fn39(t122, t124) : 56
                refine wpB_act (i := 10) (by kernel_rfl) (get_of_drop rfl) (fun K hK => ?_)
                go_simp
                refine (entry15_any st.client st.request _).mono ?_
                rintro e' wa ⟨rfl, hwa⟩
                have HWA := hid (show Chg (fun _ => False) W1 wa from hHeld.trans hwa (fun _ h _ => h))
                clear hwa
                refine hK.out _ _ ?_ (fun hHeld2 => ?_)
                · first | assumption | exact HWA.out
                clear hHeld hK K
                have hHeld := hHeld2
                clear hHeld2
                try simp only [Act.put, List.setIfInBounds_toArray, List.set_cons_zero, List.set_cons_succ]
                -- 11: t126 := CALL fn40(t120, t125) : 43 (BARRIER)
                refine wpB_bar (i := 11) (by kernel_rfl) (get_of_drop rfl) (by kernel_rfl) (fun K hK => ?_)
                go_simp
                have TA := hid (T2.out.far hHeld)
                have NA := hid (N2.out.far hHeld)
                have CA := hid (C2.out.trans hHeld (fun _ h _ => h.elim))
                refine (rq_submit (RQJ.out.far hHeld) (e := ⟨0, st.client, st.request, -1, -1, -1, -1, [], []⟩) (R := fun _ => False) (ent_at NUM.out.2.2.1 NUM.out.2.2.2)).mono ?_
                rw [← HEN.out]
                rintro e wt ⟨Ao, co, rfl, hq', hv', kt⟩
                have TT := hid (TA.out.call hqq hq' kt)
                have NT := hid (NA.out.call TA.out (List.mem_of_getElem? hqq) kt)
                have CT := hid (show Chg (fun x => w.heap.size ≤ x) w wt from CA.out.trans kt (fun x hx _ => U1E.out x (TA.out.sub qq (List.mem_of_getElem? hqq) x hx).1))
                have hsl := HSL0.out
                clear hq' kt
                obtain ⟨s1, s2, s3, news, s4, s5⟩ := said_news TA.out NA.out hv'
                obtain ⟨on, hon⟩ : ∃ q_, q_ = (submitR r en).1.out.length := ⟨_, rfl⟩
                have SL := hid (show on ≤ 14 by rw [hon]; exact hsl)
                have SLI : (on : Int) ≤ 14 := by have := SL.out; omega
                rw [← hon] at s2 ⊢
                have HON := hid hon
                have S2 := hid s2
                have S3 := hid s3
                have S4 := hid s4
                have S5 := hid s5
                clear s1 s2 s3 s4 s5 hon hsl hv'
                
                obtain ⟨er, her⟩ : ∃ q_, q_ = (submitR r en).2 := ⟨_, rfl⟩
                rw [← her]
                clear her
                refine hK.out _ _ (fun _ : World => True) ?_
                clear hHeld hK K
                have hHeld := trivial
                try simp only [Act.put, List.setIfInBounds_toArray, List.set_cons_zero, List.set_cons_succ]
                -- 12: t114 := move t126 : 43
                refine wpB_take (i := 12) (v := ?_) (get_of_drop rfl) (by kernel_rfl) (by kernel_rfl) (by kernel_rfl) (by kernel_rfl) (fun _ _ _ h => h) (Or.inl ⟨by rfl, ?_⟩) hHeld ?_
                rotate_left
                · (intro w hSw; (try dsimp only at hSw); go_simp <;> with_reducible rfl)
                try simp only [Act.put, List.setIfInBounds_toArray, List.set_cons_zero, List.set_cons_succ]
                -- 13: t127 := extract t114 0 : 27
                refine wpB_take (i := 13) (v := ?_) (get_of_drop rfl) (by kernel_rfl) (by kernel_rfl) (by kernel_rfl) (by kernel_rfl) (fun _ _ _ h => h) (Or.inl ⟨by rfl, ?_⟩) hHeld ?_
                rotate_left
                · (intro w hSw; (try dsimp only at hSw); go_simp <;> with_reducible rfl)
                try simp only [Act.put, List.setIfInBounds_toArray, List.set_cons_zero, List.set_cons_succ]
                -- 14: t128 := extract t114 1 : 31
                refine wpB_take (i := 14) (v := ?_) (get_of_drop rfl) (by kernel_rfl) (by kernel_rfl) (by kernel_rfl) (by kernel_rfl) (fun _ _ _ h => h) (Or.inl ⟨by rfl, ?_⟩) hHeld ?_
                rotate_left
                · (intro w hSw; (try dsimp only at hSw); go_simp <;> with_reducible rfl)
                try simp only [Act.put, List.setIfInBounds_toArray, List.set_cons_zero, List.set_cons_succ]
                -- 15: t15 := assign t127 : 27
                refine wpB_take (i := 15) (v := ?_) (get_of_drop rfl) (by kernel_rfl) (by kernel_rfl) (by kernel_rfl) (by kernel_rfl) (fun _ _ _ h => h) (Or.inl ⟨by rfl, ?_⟩) hHeld ?_
                rotate_left
                · (intro w hSw; (try dsimp only at hSw); go_simp <;> with_reducible rfl)
                try simp only [Act.put, List.setIfInBounds_toArray, List.set_cons_zero, List.set_cons_succ]
                -- 16: t16 := assign t128 : 31
                refine wpB_take (i := 16) (v := ?_) (get_of_drop rfl) (by kernel_rfl) (by kernel_rfl) (by kernel_rfl) (by kernel_rfl) (fun _ _ _ h => h) (Or.inl ⟨by rfl, ?_⟩) hHeld ?_
                rotate_left
                · (intro w hSw; (try dsimp only at hSw); go_simp <;> with_reducible rfl)
                try simp only [Act.put, List.setIfInBounds_toArray, List.set_cons_zero, List.set_cons_succ]
                refine wpB_done (by kernel_rfl) ?_ _
                clear hHeld E_y E_2 E_3
                go_wp2_with (first | ((with_reducible refine at_dst (N := 131) rfl ?_); refine vec_list (d := msgK) _ rfl (.tmp 129) (.tmp 130) 27 41 (.agg #[.int .i64 0, .int .i64 0, .int .i64 0, .int .i64 0, .int .i64 0, .int .i64 0, .int .i64 0, .slice none 0 0]) 80 rfl Try.underlying27 infoMsgP rfl (by decide) (by decide) (.slice An nn cn) rfl (Vec.self NT.out.vec) (Ao) on co (ys := (submitR r en).1.out) rfl S3.out S2.out HON.out S4.out S5.out (by have h1 := HNN.out; have h2 := SL.out; omega) ?_; rw [← HNN.out]; intro A' c' w2 h1 h2; have G1 := hid h1; have G2 := hid h2; clear h1 h2))
                obtain ⟨U', g3, g4, g5, g6, g7⟩ := way_end TT.out NT.out CT.out U1E.out IT.out G1.out G2.out
                go_meet
                exact ⟨A', nn + on, c', U', _, _, rfl, by rw [List.length_append, ← HNN.out, HON.out], by have := HNL.out; have := SL.out; omega, g3, g4, g5, g6, g7⟩
              have k5b : (st.kind == 5) = false := by simp [k5]
              clear k5
              by_cases n0 : nn = 0
              · have n0b : ((nn : Int) == 0) = true := by simp [n0]
                go_wp2_with fail
                go_meet
                exact ⟨An, nn, cn, U1, rs, net, rfl, HNN.out, by have := HNL.out; omega, T2.out, N2.out, I1.out.later (by omega), U1E.out, C2.out⟩
              have n0b : ((nn : Int) == 0) = false := by simp; omega
              by_cases kl : st.kind < 1
              · go_wp2_with fail
                go_meet
                exact ⟨An, nn, cn, U1, rs, net, rfl, HNN.out, by have := HNL.out; omega, T2.out, N2.out, I1.out.later (by omega), U1E.out, C2.out⟩
              by_cases kg : 3 < st.kind
              · go_wp2_with fail
                go_meet
                exact ⟨An, nn, cn, U1, rs, net, rfl, HNN.out, by have := HNL.out; omega, T2.out, N2.out, I1.out.later (by omega), U1E.out, C2.out⟩
              have n0' : 0 < nn := by omega
              have nk0 : ¬ nn = 0 := by omega
              obtain ⟨J, hrm, hJn⟩ : ∃ J : Nat, (kk : Int) % (nn : Int) = (J : Int) ∧ J < nn := ⟨kk % nn, (Int.natCast_emod kk nn).symm, Nat.mod_lt _ n0'⟩
              have hJb : (J : Int) < (nn : Int) := by omega
              have HJ := hid hJn
              have htj : Int.tmod (kk : Int) (nn : Int) = (J : Int) := by rw [Int.tmod_eq_emod_of_nonneg (Int.natCast_nonneg _)]; exact hrm
              obtain ⟨m, h, B, mk, md, hmJ, hmem, hAn, hhl, hMK, hML, hcM⟩ := N2.out.msg hJn
              subst hAn
              have MEM := hid hmem
              have HMK := hid hMK
              have HML := hid hML
              have HHL := hid hhl
              have c0 := (hcM 0 _ rfl)
              have c1 := (hcM 1 _ rfl)
              have c2 := (hcM 2 _ rfl)
              have c3 := (hcM 3 _ rfl)
              have c4 := (hcM 4 _ rfl)
              have c5 := (hcM 5 _ rfl)
              have c6 := (hcM 6 _ rfl)
              have c7 := (hcM 7 _ rfl)
              rw [Nat.add_zero] at c0
              clear hMK hML hcM hmem hmJ hhl
              by_cases k3 : st.kind = 3
              · have k3b : (st.kind == 3) = true := by simp [k3]
                clear k3
                go_wp2_with (first | ((with_reducible refine at_dst (N := 159) rfl ?_); obtain ⟨W3, hW3⟩ : ∃ q_, q_ = W1.alloc (.cells #[.int .i64 m.kind, .int .i64 m.view, .int .i64 m.src, .int .i64 m.dst, .int .i64 m.op, .int .i64 m.commit, .int .i64 m.normal, .slice B mk md] 41) := ⟨_, rfl⟩; rw [← hW3]; have CW3 := hid (show Chg (fun _ => False) W1 W3 from (by rw [hW3]; exact (Chg.refl _ W1).alloc _)); have T3 := hid (T2.out.far CW3.out); have N3 := hid (N2.out.far CW3.out); have HSE := hid (show Sees W3 (fun x => x = W1.heap.size) (some ⟨W1.heap.size, 0, none⟩) [.int .i64 m.kind, .int .i64 m.view, .int .i64 m.src, .int .i64 m.dst, .int .i64 m.op, .int .i64 m.commit, .int .i64 m.normal, .slice B mk md] from (by rw [hW3]; exact new_sees W1 _ _)); have HRO := hid (show Ty.Row msgK W3 (fun x => ¬ U1 x ∧ (Value.slice (some ⟨h, 0, none⟩) nn cn).ownBlock ≠ some x ∧ x < W3.heap.size) [m] [.int .i64 m.kind, .int .i64 m.view, .int .i64 m.src, .int .i64 m.dst, .int .i64 m.op, .int .i64 m.commit, .int .i64 m.normal, .slice B mk md] from Ty.Row.one_ (msgK.mono (msgK.chg HMK.out CW3.out (fun _ _ h => h)) (fun x hx => ⟨hx.1, fun e => hx.2.1 (by simp [Value.ownBlock] at e; exact e.symm), Nat.lt_of_lt_of_le hx.2.2 CW3.out.size⟩))); clear hW3; refine vec_list (d := msgK) _ rfl (.tmp 150) (.tmp 158) 27 41 (.agg #[.int .i64 0, .int .i64 0, .int .i64 0, .int .i64 0, .int .i64 0, .int .i64 0, .int .i64 0, .slice none 0 0]) 80 rfl Try.underlying27 infoMsgP rfl (by decide) (by decide) (.slice (some ⟨h, 0, none⟩) nn cn) rfl (Vec.self N3.out.vec) (some ⟨W1.heap.size, 0, none⟩) 1 1 (ys := [m]) rfl (by simp) (by decide) rfl HSE.out HRO.out (by have h1 := HNN.out; omega) ?_; rw [← HNN.out]; intro A' c' w2 h1 h2; have G1 := hid h1; have G2 := hid h2; clear h1 h2))
                have IT := hid (show NInv k (q + 1) rs (net ++ [m]) from (I1.out.later (by omega)).sub (fun x hx => by
                  rcases List.mem_append.1 hx with e | e
                  · exact e
                  · rw [List.mem_singleton.1 e]; exact MEM.out))
                obtain ⟨U', g3, g4, g5, g6, g7⟩ := way_end T3.out N3.out (C2.out.trans CW3.out (fun _ h _ => h.elim)) U1E.out IT.out G1.out G2.out
                go_meet
                exact ⟨A', nn + 1, c', U', _, _, rfl, by rw [List.length_append, ← HNN.out]; rfl, by have := HNL.out; omega, g3, g4, g5, g6, g7⟩
              have k3b : (st.kind == 3) = false := by simp [k3]
              clear k3
              obtain ⟨di, hdi, hdl⟩ : ∃ di : Nat, m.dst = (di : Int) ∧ di < k := by
                have h1 := I1.out.dst MEM.out
                exact ⟨m.dst.toNat, by omega, by omega⟩
              have HDI := hid hdi
              have hdb : (di : Int) < (k : Int) := by omega
              go_upto_region 18 with fail
              obtain ⟨bm, hbm⟩ : ∃ q_, q_ = W1.heap.size := ⟨_, rfl⟩
              obtain ⟨W4, hW4⟩ : ∃ q_, q_ = W1.alloc (.cells #[.int .i64 m.kind, .int .i64 m.view, .int .i64 m.src, .int .i64 (di : Int), .int .i64 m.op, .int .i64 m.commit, .int .i64 m.normal, .slice B mk md] 41) := ⟨_, rfl⟩
              have CW4 := hid (show Chg (fun _ => False) W1 W4 by rw [hW4]; exact (Chg.refl _ W1).alloc _)
              have BM := hid (show W4.heap[bm]? = some (.cells #[.int .i64 m.kind, .int .i64 m.view, .int .i64 m.src, .int .i64 (di : Int), .int .i64 m.op, .int .i64 m.commit, .int .i64 m.normal, .slice B mk md] 41 (0, 0)) by rw [hW4, hbm]; exact blk_new W1 _)
              have HBM := hid hbm
              rw [← hW4, ← hbm]
              clear hdi hW4 hbm c0 c1 c2 c3 c4 c5 c6 c7 y0 z0 z2 z3
              have T4 := hid (T2.out.far CW4.out)
              have N4 := hid (N2.out.far CW4.out)
              have C4 := hid (C2.out.trans CW4.out (fun _ h _ => h.elim))
              have BS4 := hid (CW4.out.blk BW1.out (fun h => h))
              have HML4 := hid (HML.out.chg CW4.out (fun _ _ h => h))
              obtain ⟨p1, p2, p3, p4, cells, hSee, hRow⟩ := Vec.parts N4.out.vec
              have P2 := hid p2
              have PSE := hid hSee
              have PRO := hid hRow
              have PL := hid (show cells.length = nn * 8 by rw [hRow.1, ← p1]; rfl)
              clear p1 p2 p3 p4 hSee hRow
              obtain ⟨A9, hA9⟩ : ∃ q_, q_ = (if cn = J + 1 then (some ⟨h, 0, none⟩ : Option Addr) else (some (⟨h, 0, none⟩ : Addr)).map (·.add ((J + 1) * 8))) := ⟨_, rfl⟩
              have PS9 := hid (show Sees W4 (fun x => (Value.slice (some ⟨h, 0, none⟩) nn cn).ownBlock = some x) A9 (cells.drop ((J + 1) * 8)) by rw [hA9]; exact Sees.cut PSE.out (by rw [PL.out]; exact Nat.mul_le_mul_right 8 P2.out) (by have := P2.out; omega))
              have PA9 := hid (show A9 ≠ none by rw [hA9]; split <;> simp)
              have hw9 : IntKind.i64.wrap ((J : Int) + 1) = (J : Int) + 1 := IntWalk.i64_in _ (by omega)
              have hcut1 := fun W => cut_to (P := Try.prog) 27 41 .i64 Try.underlying27 (info_parts infoMsgP).choose_spec.1 (some ⟨h, 0, none⟩) nn cn J (by have := P2.out; omega) W
              have hcut2 : ∀ W, (Instr.slice 27 (.slice (some ⟨h, 0, none⟩) nn cn) (some (.int .i64 ((J : Int) + 1))) none none).run Try.prog W = .ok (.slice A9 (nn - (J + 1)) (cn - (J + 1))) W := fun W => by
                have h1 := cut_from (P := Try.prog) 27 41 .i64 Try.underlying27 (info_parts infoMsgP).choose_spec.1 8 (info_parts infoMsgP).choose_spec.2.2.1 (some ⟨h, 0, none⟩) nn cn (J + 1) (by omega) W
                rw [← hA9] at h1
                exact h1
              clear hA9
              obtain ⟨nd, hnd⟩ : ∃ q_, q_ = nn - (J + 1) := ⟨_, rfl⟩
              obtain ⟨cd, hcd⟩ : ∃ q_, q_ = cn - (J + 1) := ⟨_, rfl⟩
              rw [← hnd, ← hcd] at hcut2
              have HND := hid hnd
              have HCD := hid hcd
              clear hnd hcd
              refine wpB_start (fun wx : World => Chg (fun _ => False) W4 wx) (by kernel_rfl) ?_
              have hHeld : (fun wx : World => Chg (fun _ => False) W4 wx) _ := (Chg.refl (fun _ => False) W4).drew
              generalize hgd : W4.drew = wd at hHeld ⊢
              clear hgd
              -- 1: t64 := move t11 : 27
              refine wpB_take (i := 1) (v := ?_) (get_of_drop rfl) (by kernel_rfl) (by kernel_rfl) (by kernel_rfl) (by kernel_rfl) (fun _ _ _ h => h) (Or.inl ⟨by rfl, ?_⟩) hHeld ?_
              rotate_left
              · (intro w hSw; (try dsimp only at hSw); go_simp <;> with_reducible rfl)
              try simp only [Act.put, List.setIfInBounds_toArray, List.set_cons_zero, List.set_cons_succ]
              -- 2: t65 := move t14 : 3
              refine wpB_take (i := 2) (v := ?_) (get_of_drop rfl) (by kernel_rfl) (by kernel_rfl) (by kernel_rfl) (by kernel_rfl) (fun _ _ _ h => h) (Or.inl ⟨by rfl, ?_⟩) hHeld ?_
              rotate_left
              · (intro w hSw; (try dsimp only at hSw); go_simp <;> with_reducible rfl)
              try simp only [Act.put, List.setIfInBounds_toArray, List.set_cons_zero, List.set_cons_succ]
              -- 3: t66 := move t11 : 27
              refine wpB_take (i := 3) (v := ?_) (get_of_drop rfl) (by kernel_rfl) (by kernel_rfl) (by kernel_rfl) (by kernel_rfl) (fun _ _ _ h => h) (Or.inl ⟨by rfl, ?_⟩) hHeld ?_
              rotate_left
              · (intro w hSw; (try dsimp only at hSw); go_simp <;> with_reducible rfl)
              try simp only [Act.put, List.setIfInBounds_toArray, List.set_cons_zero, List.set_cons_succ]
              -- 4: t67 := len(t66) types [27] : 3
              refine wpB_take (i := 4) (v := ?_) (get_of_drop rfl) (by kernel_rfl) (by kernel_rfl) (by kernel_rfl) (by kernel_rfl) (fun _ _ _ h => h) (Or.inl ⟨by rfl, ?_⟩) hHeld ?_
              rotate_left
              · (intro w hSw; (try dsimp only at hSw); go_simp <;> with_reducible rfl)
              try simp only [Act.put, List.setIfInBounds_toArray, List.set_cons_zero, List.set_cons_succ]
              -- 5: t68 := binOp BinOp.rem 3 t65 t67 3 : 3
              refine wpB_take (i := 5) (v := ?_) (get_of_drop rfl) (by kernel_rfl) (by kernel_rfl) (by kernel_rfl) (by kernel_rfl) (fun _ _ _ h => h) (Or.inl ⟨by rfl, ?_⟩) hHeld ?_
              rotate_left
              · (intro w hSw; (try dsimp only at hSw); go_simp <;> with_reducible rfl)
              try simp only [Act.put, List.setIfInBounds_toArray, List.set_cons_zero, List.set_cons_succ]
              -- 6: t69 := slice 27 t64 none some t68 none : 27
              refine wpB_take (i := 6) (v := ?_) (get_of_drop rfl) (by kernel_rfl) (by kernel_rfl) (by kernel_rfl) (by kernel_rfl) (fun _ _ _ h => h) (Or.inl ⟨by rfl, ?_⟩) hHeld ?_
              rotate_left
              · (intro w hSw; (try dsimp only at hSw); go_simp <;> with_reducible rfl)
              try simp only [Act.put, List.setIfInBounds_toArray, List.set_cons_zero, List.set_cons_succ]
              -- 8: t71 := move t11 : 27
              refine wpB_take (i := 8) (v := ?_) (get_of_drop rfl) (by kernel_rfl) (by kernel_rfl) (by kernel_rfl) (by kernel_rfl) (fun _ _ _ h => h) (Or.inl ⟨by rfl, ?_⟩) hHeld ?_
              rotate_left
              · (intro w hSw; (try dsimp only at hSw); go_simp <;> with_reducible rfl)
              try simp only [Act.put, List.setIfInBounds_toArray, List.set_cons_zero, List.set_cons_succ]
              -- 9: t72 := move t14 : 3
              refine wpB_take (i := 9) (v := ?_) (get_of_drop rfl) (by kernel_rfl) (by kernel_rfl) (by kernel_rfl) (by kernel_rfl) (fun _ _ _ h => h) (Or.inl ⟨by rfl, ?_⟩) hHeld ?_
              rotate_left
              · (intro w hSw; (try dsimp only at hSw); go_simp <;> with_reducible rfl)
              try simp only [Act.put, List.setIfInBounds_toArray, List.set_cons_zero, List.set_cons_succ]
              -- 10: t73 := move t11 : 27
              refine wpB_take (i := 10) (v := ?_) (get_of_drop rfl) (by kernel_rfl) (by kernel_rfl) (by kernel_rfl) (by kernel_rfl) (fun _ _ _ h => h) (Or.inl ⟨by rfl, ?_⟩) hHeld ?_
              rotate_left
              · (intro w hSw; (try dsimp only at hSw); go_simp <;> with_reducible rfl)
              try simp only [Act.put, List.setIfInBounds_toArray, List.set_cons_zero, List.set_cons_succ]
              -- 11: t74 := len(t73) types [27] : 3
              refine wpB_take (i := 11) (v := ?_) (get_of_drop rfl) (by kernel_rfl) (by kernel_rfl) (by kernel_rfl) (by kernel_rfl) (fun _ _ _ h => h) (Or.inl ⟨by rfl, ?_⟩) hHeld ?_
              rotate_left
              · (intro w hSw; (try dsimp only at hSw); go_simp <;> with_reducible rfl)
              try simp only [Act.put, List.setIfInBounds_toArray, List.set_cons_zero, List.set_cons_succ]
              -- 12: t75 := binOp BinOp.rem 3 t72 t74 3 : 3
              refine wpB_take (i := 12) (v := ?_) (get_of_drop rfl) (by kernel_rfl) (by kernel_rfl) (by kernel_rfl) (by kernel_rfl) (fun _ _ _ h => h) (Or.inl ⟨by rfl, ?_⟩) hHeld ?_
              rotate_left
              · (intro w hSw; (try dsimp only at hSw); go_simp <;> with_reducible rfl)
              try simp only [Act.put, List.setIfInBounds_toArray, List.set_cons_zero, List.set_cons_succ]
              -- 13: t76 := binOp BinOp.add 3 t75 #i64:1 3 : 3
              refine wpB_take (i := 13) (v := ?_) (get_of_drop rfl) (by kernel_rfl) (by kernel_rfl) (by kernel_rfl) (by kernel_rfl) (fun _ _ _ h => h) (Or.inl ⟨by rfl, ?_⟩) hHeld ?_
              rotate_left
              · (intro w hSw; (try dsimp only at hSw); go_simp <;> with_reducible rfl)
              try simp only [Act.put, List.setIfInBounds_toArray, List.set_cons_zero, List.set_cons_succ]
              -- 14: t77 := slice 27 t71 some t76 none none : 27
              refine wpB_take (i := 14) (v := ?_) (get_of_drop rfl) (by kernel_rfl) (by kernel_rfl) (by kernel_rfl) (by kernel_rfl) (fun _ _ _ h => h) (Or.inl ⟨by rfl, ?_⟩) hHeld ?_
              rotate_left
              · (intro w hSw; (try dsimp only at hSw); go_simp <;> with_reducible rfl)
              try simp only [Act.put, List.setIfInBounds_toArray, List.set_cons_zero, List.set_cons_succ]
              -- 0: t63 := buildSlice 27 0 [] : 27
              refine wpB_act (i := 0) (by kernel_rfl) (get_of_drop rfl) (fun K hK => ?_)
              go_simp
              obtain ⟨wl, hwl⟩ : ∃ q_, q_ = wd.alloc (.cells #[] 41) := ⟨_, rfl⟩
              obtain ⟨bl, hbl⟩ : ∃ q_, q_ = wd.heap.size := ⟨_, rfl⟩
              rw [← hwl, ← hbl]
              have BL := hid (show W4.heap.size ≤ bl by rw [hbl]; exact hHeld.size)
              have HWL := hid (show Chg (fun _ => False) W4 wl by rw [hwl]; exact hHeld.alloc _)
              have HV0 := hid (show Vec msgK 41 wl (fun x => W4.heap.size ≤ x) (fun x => ¬ U1 x) (.slice (some ⟨bl, 0, none⟩) 0 0) [] by rw [hwl, hbl]; exact (Vec.made msgK 41 wd (fun x => ¬ U1 x)).mono (fun x hx _ => by rw [hx]; exact hHeld.size) (fun _ h _ => h))
              clear hwl hbl
              refine hK.out _ _ ?_ (fun hHeld2 => ?_)
              · first | assumption | exact HWL.out | exact HW7.out
              clear hHeld hK K
              have hHeld := hHeld2
              clear hHeld2
              try simp only [Act.put, List.setIfInBounds_toArray, List.set_cons_zero, List.set_cons_succ]
              -- 7: t70 := append(t63, t69) types [27, 27] : 27
              refine wpB_act (i := 7) (by kernel_rfl) (get_of_drop rfl) (fun K hK => ?_)
              refine vec_step (d := msgK) _ rfl (.tmp 63) (.tmp 69) 27 41 (.agg #[.int .i64 0, .int .i64 0, .int .i64 0, .int .i64 0, .int .i64 0, .int .i64 0, .int .i64 0, .slice none 0 0]) 80 rfl Try.underlying27 infoMsgP rfl (by decide) (by decide) (.slice (some ⟨bl, 0, none⟩) 0 0) rfl HV0.out (some ⟨h, 0, none⟩) J cn (ys := net.take J) rfl (by simp) (by have h1 := HJ.out; have h2 := P2.out; omega) (by rw [List.length_take, ← HNN.out]; have h1 := HJ.out; omega) ((PSE.out.take (J * 8)).chg HWL.out (fun _ _ h => h)) (((PRO.out.take J).chg HWL.out (fun _ _ h => h)).mono (fun x hx => ⟨hx.1, fun e => by have h1 := BL.out; have h2 := hx.2.2; simp [Value.ownBlock] at e; omega, Nat.lt_of_lt_of_le hx.2.2 HWL.out.size⟩)) (by have h1 := HJ.out; simp; omega) ?_
              rw [show ([] : List Msg).length + J = J from Nat.zero_add J, List.nil_append]
              intro A7 c7 w7 h7 k7
              have HW7 := hid (show Chg (fun _ => False) W4 w7 from HWL.out.trans k7 (fun x hx hl => by have h1 := BL.out; simp [Value.ownBlock] at hx; omega))
              have HV7 := hid (h7.mono (S' := fun x => W4.heap.size ≤ x) (D' := fun x => ¬ U1 x) (fun x hx _ => by rcases hx with e | e; exact e; exact Nat.le_trans HWL.out.size e) (fun _ h _ => h))
              clear h7 k7
              refine hK.out _ _ ?_ (fun hHeld2 => ?_)
              · first | assumption | exact HWL.out | exact HW7.out
              clear hHeld hK K
              have hHeld := hHeld2
              clear hHeld2
              try simp only [Act.put, List.setIfInBounds_toArray, List.set_cons_zero, List.set_cons_succ]
              -- 15: t78 := append(t70, t77) types [27, 27] : 27 (BARRIER)
              refine wpB_bar (i := 15) (by kernel_rfl) (get_of_drop rfl) (by kernel_rfl) (fun K hK => ?_)
              refine vec_step (d := msgK) _ rfl (.tmp 70) (.tmp 77) 27 41 (.agg #[.int .i64 0, .int .i64 0, .int .i64 0, .int .i64 0, .int .i64 0, .int .i64 0, .int .i64 0, .slice none 0 0]) 80 rfl Try.underlying27 infoMsgP rfl (by decide) (by decide) (.slice A7 J c7) rfl HV7.out A9 nd cd (ys := net.drop (J + 1)) rfl (fun e => absurd e PA9.out) (by have h1 := P2.out; have h2 := HND.out; have h3 := HCD.out; omega) (by rw [List.length_drop, ← HNN.out]; exact HND.out) (PS9.out.chg HW7.out (fun _ _ h => h)) (((PRO.out.drop (J + 1)).chg HW7.out (fun _ _ h => h)).mono (fun x hx => ⟨hx.1, fun e => by have h1 := HV7.out.inS x e; have h2 := hx.2.2; omega, Nat.lt_of_lt_of_le hx.2.2 HW7.out.size⟩)) (by have h1 := HJ.out; have h2 := HND.out; rw [List.length_take]; omega) ?_
              obtain ⟨n9, hn9⟩ : ∃ q_, q_ = (net.take J).length + nd := ⟨_, rfl⟩
              rw [← hn9]
              intro A8 c8 w8 h8 k8
              have N9 := hid (show n9 = nn - 1 by have h1 := HJ.out; have h2 := HND.out; rw [hn9, List.length_take, ← HNN.out]; omega)
              have HW8 := hid (show Chg (fun _ => False) W4 w8 from HW7.out.trans k8 (fun x hx hl => by have h1 := HV7.out.inS x hx; omega))
              have HV8 := hid (h8.mono (S' := fun x => (Value.slice (some ⟨h, 0, none⟩) nn cn).ownBlock = some x ∨ W4.heap.size ≤ x) (D' := fun x => ¬ U1 x) (fun x hx _ => .inr (by rcases hx with e | e; exact e; exact Nat.le_trans HW7.out.size e)) (fun _ h _ => h))
              clear h8 k8 hn9
              refine hK.out _ _ (fun _ : World => True) ?_
              clear hHeld hK K
              have hHeld := trivial
              try simp only [Act.put, List.setIfInBounds_toArray, List.set_cons_zero, List.set_cons_succ]
              -- 16: t11 := assign t78 : 27
              refine wpB_take (i := 16) (v := ?_) (get_of_drop rfl) (by kernel_rfl) (by kernel_rfl) (by kernel_rfl) (by kernel_rfl) (fun _ _ _ h => h) (Or.inl ⟨by rfl, ?_⟩) hHeld ?_
              rotate_left
              · (intro w hSw; (try dsimp only at hSw); go_simp <;> with_reducible rfl)
              try simp only [Act.put, List.setIfInBounds_toArray, List.set_cons_zero, List.set_cons_succ]
              refine wpB_done (by kernel_rfl) ?_ _
              clear hHeld hcut1 hcut2 hw9
              have I9 := hid (show NInv k q rs (net.take J ++ net.drop (J + 1)) from I1.out.sub (fun x hx => by
                rcases List.mem_append.1 hx with e | e
                · exact List.mem_of_mem_take e
                · exact List.mem_of_mem_drop e))
              obtain ⟨U8, t8, n8, i8, u8e, k8⟩ := way_end T4.out N4.out C4.out U1E.out I9.out HV8.out (HW8.out.mono (fun _ h _ => h.elim))
              have T8 := hid t8
              have N8 := hid n8
              have U8E := hid u8e
              have C8 := hid k8
              clear t8 n8 i8 u8e k8
              have BS8 := hid (HW8.out.blk BS4.out (fun h => h))
              have BM8 := hid (HW8.out.blk BM.out (fun h => h))
              have z0 : w8.cell? ⟨bs, 0, none⟩ = some (.int .i64 st.kind) := (cellAt BS8.out 0).trans rfl
              have LN9 := hid (show n9 = (net.take J ++ net.drop (J + 1)).length by have h1 := N9.out; have h2 := HJ.out; rw [List.length_append, List.length_take, List.length_drop, ← HNN.out]; omega)
              by_cases k1 : st.kind = 1
              · have k1b : (st.kind == 1) = true := by simp [k1]
                clear k1
                obtain ⟨r2, hr2, _, hrn2, _, hro2, _, _⟩ := I1.out.get hdl
                obtain ⟨qd, hqd⟩ : ∃ qd, ps[di]? = some qd := ⟨_, List.getElem?_eq_getElem (by have h1 := T2.out.len; have h2 := I1.out.1; omega)⟩
                obtain ⟨g2, cs6, hA2, _, _, hK2, hcs2⟩ := T8.out.vec.get (by decide) (i := di) (x := qd.1) (by rw [List.getElem?_map, hqd]; rfl)
                subst hK2
                injection hA2 with hA3
                injection hA3 with hA4
                subst hA4
                have y1 : w8.cell? ⟨g, di, none⟩ = some (.pointer (some ⟨qd.1, 0, none⟩)) := by have := hcs2 0 _ rfl; simpa [ptrK] using this
                clear hcs2
                have E_y : ∀ wx, Chg (fun _ => False) w8 wx → wx.cell? ⟨g, di, none⟩ = some (.pointer (some ⟨qd.1, 0, none⟩)) := fun wx hx => hx.cell y1 (fun h => h)
                have E_0 : ∀ wx, Chg (fun _ => False) w8 wx → wx.cell? ⟨bm, 0, none⟩ = some (.int .i64 m.kind) := fun wx hx => (cellAt (hx.blk BM8.out (fun h => h)) 0).trans rfl
                have E_1 : ∀ wx, Chg (fun _ => False) w8 wx → wx.cell? ⟨bm, 1, none⟩ = some (.int .i64 m.view) := fun wx hx => (cellAt (hx.blk BM8.out (fun h => h)) 1).trans rfl
                have E_2 : ∀ wx, Chg (fun _ => False) w8 wx → wx.cell? ⟨bm, 2, none⟩ = some (.int .i64 m.src) := fun wx hx => (cellAt (hx.blk BM8.out (fun h => h)) 2).trans rfl
                have E_3 : ∀ wx, Chg (fun _ => False) w8 wx → wx.cell? ⟨bm, 3, none⟩ = some (.int .i64 (di : Int)) := fun wx hx => (cellAt (hx.blk BM8.out (fun h => h)) 3).trans rfl
                have E_4 : ∀ wx, Chg (fun _ => False) w8 wx → wx.cell? ⟨bm, 4, none⟩ = some (.int .i64 m.op) := fun wx hx => (cellAt (hx.blk BM8.out (fun h => h)) 4).trans rfl
                have E_5 : ∀ wx, Chg (fun _ => False) w8 wx → wx.cell? ⟨bm, 5, none⟩ = some (.int .i64 m.commit) := fun wx hx => (cellAt (hx.blk BM8.out (fun h => h)) 5).trans rfl
                have E_6 : ∀ wx, Chg (fun _ => False) w8 wx → wx.cell? ⟨bm, 6, none⟩ = some (.int .i64 m.normal) := fun wx hx => (cellAt (hx.blk BM8.out (fun h => h)) 6).trans rfl
                have E_7 : ∀ wx, Chg (fun _ => False) w8 wx → wx.cell? ⟨bm, 7, none⟩ = some (.slice B mk md) := fun wx hx => (cellAt (hx.blk BM8.out (fun h => h)) 7).trans rfl
                have hsl : (deliverR r2 m).1.out.length ≤ 14 := by have := sl_deliver (r := r2) (by rw [hrn2]; omega) m; unfold Sl at this; rw [hro2] at this; simpa using this
                have HSL0 := hid hsl
                have ITD := hid (I1.out.deliver MEM.out HDI.out hr2)
                have RQJ := hid (T8.out.rq di qd r2 hqd hr2)
                have QM := hid (List.mem_of_getElem? hqd)
                have HQD := hid hqd
                go_upto_region 20 with fail
                clear y1 z0 hsl hr2 hrn2 hro2 hqd
                refine wpB_start (fun wx : World => Chg (fun _ => False) w8 wx) (by kernel_rfl) ?_
                have hHeld : (fun wx : World => Chg (fun _ => False) w8 wx) _ := (Chg.refl (fun _ => False) w8).drew
                -- 0: t83 := move t7 : 82
                refine wpB_take (i := 0) (v := ?_) (get_of_drop rfl) (by kernel_rfl) (by kernel_rfl) (by kernel_rfl) (by kernel_rfl) (fun _ _ _ h => h) (Or.inl ⟨by rfl, ?_⟩) hHeld ?_
                rotate_left
                · (intro w hSw; (try dsimp only at hSw); go_simp <;> with_reducible rfl)
                try simp only [Act.put, List.setIfInBounds_toArray, List.set_cons_zero, List.set_cons_succ]
                -- 1: t84 := fieldAddr 41 t17 3 : 0
                refine wpB_take (i := 1) (v := ?_) (get_of_drop rfl) (by kernel_rfl) (by kernel_rfl) (by kernel_rfl) (by kernel_rfl) (fun _ _ _ h => h) (Or.inl ⟨by rfl, ?_⟩) hHeld ?_
                rotate_left
                · (intro w hSw; (try dsimp only at hSw); go_simp <;> with_reducible rfl)
                try simp only [Act.put, List.setIfInBounds_toArray, List.set_cons_zero, List.set_cons_succ]
                -- 2: t85 := load 3 t84 : 3
                refine wpB_take (i := 2) (v := ?_) (get_of_drop rfl) (by kernel_rfl) (by kernel_rfl) (by kernel_rfl) (by kernel_rfl) (fun _ _ _ h => h) (Or.inl ⟨by rfl, ?_⟩) hHeld ?_
                rotate_left
                · (intro w hSw; (try dsimp only at hSw); go_simp <;> with_reducible rfl)
                try simp only [Act.put, List.setIfInBounds_toArray, List.set_cons_zero, List.set_cons_succ]
                -- 3: t86 := indexAddr 82 t83 t85 : 0
                refine wpB_take (i := 3) (v := ?_) (get_of_drop rfl) (by kernel_rfl) (by kernel_rfl) (by kernel_rfl) (by kernel_rfl) (fun _ _ _ h => h) (Or.inl ⟨by rfl, ?_⟩) hHeld ?_
                rotate_left
                · (intro w hSw; (try dsimp only at hSw); go_simp <;> with_reducible rfl)
                try simp only [Act.put, List.setIfInBounds_toArray, List.set_cons_zero, List.set_cons_succ]
                -- 4: t87 := load 30 t86 : 30
                refine wpB_take (i := 4) (v := ?_) (get_of_drop rfl) (by kernel_rfl) (by kernel_rfl) (by kernel_rfl) (by kernel_rfl) (fun _ _ _ h => h) (Or.inl ⟨by rfl, ?_⟩) hHeld ?_
                rotate_left
                · (intro w hSw; (try dsimp only at hSw); go_simp <;> with_reducible rfl)
                try simp only [Act.put, List.setIfInBounds_toArray, List.set_cons_zero, List.set_cons_succ]
                -- 5: t88 := load 41 t17 : 41
                refine wpB_take (i := 5) (v := ?_) (get_of_drop rfl) (by kernel_rfl) (by kernel_rfl) (by kernel_rfl) (by kernel_rfl) (fun _ _ _ h => h) (Or.inl ⟨by rfl, ?_⟩) hHeld ?_
                rotate_left
                · (intro w hSw; (try dsimp only at hSw); go_simp <;> with_reducible rfl)
                try simp only [Act.put, List.setIfInBounds_toArray, List.set_cons_zero, List.set_cons_succ]
                -- 6: t89 := CALL fn18(t87, t88) : 43 (BARRIER)
                refine wpB_bar (i := 6) (by kernel_rfl) (get_of_drop rfl) (by kernel_rfl) (fun K hK => ?_)
                go_simp
                have TA := hid (T8.out.far hHeld)
                have NA := hid (N8.out.far hHeld)
                have CA := hid (C8.out.trans hHeld (fun _ h _ => h.elim))
                have HD := rq_deliver (RQJ.out.far hHeld) (m := m) ((HML4.out.chg HW8.out (fun _ _ h => h)).chg hHeld (fun _ _ h => h)) (fun x hx _ hm => hx.1 (T2.out.sub qd QM.out x hm).1)
                rw [HDI.out, ITD.out.2] at HD
                refine HD.mono ?_
                clear HD
                rintro e wt ⟨Ao, co, rfl, hq', hv', kt⟩
                have TT := hid (TA.out.call HQD.out hq' kt)
                have NT := hid (NA.out.call TA.out QM.out kt)
                have CT := hid (show Chg (fun x => w.heap.size ≤ x) w wt from CA.out.trans kt (fun x hx _ => U8E.out x (TA.out.sub qd QM.out x hx).1))
                have hsl := HSL0.out
                clear hq' kt
                obtain ⟨s1, s2, s3, news, s4, s5⟩ := said_news TA.out NA.out hv'
                obtain ⟨on, hon⟩ : ∃ q_, q_ = (deliverR r2 m).1.out.length := ⟨_, rfl⟩
                have SL := hid (show on ≤ 14 by rw [hon]; exact hsl)
                have SLI : (on : Int) ≤ 14 := by have := SL.out; omega
                rw [← hon] at s2 ⊢
                have HON := hid hon
                have S2 := hid s2
                have S3 := hid s3
                have S4 := hid s4
                have S5 := hid s5
                clear s1 s2 s3 s4 s5 hon hsl hv'
                refine hK.out _ _ (fun _ : World => True) ?_
                clear hHeld hK K
                have hHeld := trivial
                try simp only [Act.put, List.setIfInBounds_toArray, List.set_cons_zero, List.set_cons_succ]
                -- 7: t82 := move t89 : 43
                refine wpB_take (i := 7) (v := ?_) (get_of_drop rfl) (by kernel_rfl) (by kernel_rfl) (by kernel_rfl) (by kernel_rfl) (fun _ _ _ h => h) (Or.inl ⟨by rfl, ?_⟩) hHeld ?_
                rotate_left
                · (intro w hSw; (try dsimp only at hSw); go_simp <;> with_reducible rfl)
                try simp only [Act.put, List.setIfInBounds_toArray, List.set_cons_zero, List.set_cons_succ]
                -- 8: t90 := extract t82 0 : 27
                refine wpB_take (i := 8) (v := ?_) (get_of_drop rfl) (by kernel_rfl) (by kernel_rfl) (by kernel_rfl) (by kernel_rfl) (fun _ _ _ h => h) (Or.inl ⟨by rfl, ?_⟩) hHeld ?_
                rotate_left
                · (intro w hSw; (try dsimp only at hSw); go_simp <;> with_reducible rfl)
                try simp only [Act.put, List.setIfInBounds_toArray, List.set_cons_zero, List.set_cons_succ]
                -- 9: t91 := extract t82 1 : 31
                refine wpB_take (i := 9) (v := ?_) (get_of_drop rfl) (by kernel_rfl) (by kernel_rfl) (by kernel_rfl) (by kernel_rfl) (fun _ _ _ h => h) (Or.inl ⟨by rfl, ?_⟩) hHeld ?_
                rotate_left
                · (intro w hSw; (try dsimp only at hSw); go_simp <;> with_reducible rfl)
                try simp only [Act.put, List.setIfInBounds_toArray, List.set_cons_zero, List.set_cons_succ]
                -- 10: t18 := assign t90 : 27
                refine wpB_take (i := 10) (v := ?_) (get_of_drop rfl) (by kernel_rfl) (by kernel_rfl) (by kernel_rfl) (by kernel_rfl) (fun _ _ _ h => h) (Or.inl ⟨by rfl, ?_⟩) hHeld ?_
                rotate_left
                · (intro w hSw; (try dsimp only at hSw); go_simp <;> with_reducible rfl)
                try simp only [Act.put, List.setIfInBounds_toArray, List.set_cons_zero, List.set_cons_succ]
                -- 11: t19 := assign t91 : 31
                refine wpB_take (i := 11) (v := ?_) (get_of_drop rfl) (by kernel_rfl) (by kernel_rfl) (by kernel_rfl) (by kernel_rfl) (fun _ _ _ h => h) (Or.inl ⟨by rfl, ?_⟩) hHeld ?_
                rotate_left
                · (intro w hSw; (try dsimp only at hSw); go_simp <;> with_reducible rfl)
                try simp only [Act.put, List.setIfInBounds_toArray, List.set_cons_zero, List.set_cons_succ]
                refine wpB_done (by kernel_rfl) ?_ _
                clear hHeld E_y E_0 E_1 E_2 E_3 E_4 E_5 E_6 E_7
                have hn9b : (n9 : Int) ≤ 2400 := by have h1 := N9.out; omega
                have IT := hid (show NInv k (q + 1) (rs.set di { (deliverR r2 m).1 with out := [] }) ((net.take J ++ net.drop (J + 1)) ++ (deliverR r2 m).1.out) from ITD.out.1.sub (fun x hx => by
                  rcases List.mem_append.1 hx with e | e
                  · rcases List.mem_append.1 e with e | e
                    · exact List.mem_append_left _ (List.mem_of_mem_take e)
                    · exact List.mem_append_left _ (List.mem_of_mem_drop e)
                  · exact List.mem_append_right _ e))
                go_wp2_with (first | ((with_reducible refine at_dst (N := 96) rfl ?_); refine vec_list (d := msgK) _ rfl (.tmp 94) (.tmp 95) 27 41 (.agg #[.int .i64 0, .int .i64 0, .int .i64 0, .int .i64 0, .int .i64 0, .int .i64 0, .int .i64 0, .slice none 0 0]) 80 rfl Try.underlying27 infoMsgP rfl (by decide) (by decide) (.slice A8 n9 c8) rfl (Vec.self NT.out.vec) (Ao) on co (ys := (deliverR r2 m).1.out) rfl S3.out S2.out HON.out S4.out S5.out (by have h1 := LN9.out; have h2 := SL.out; omega) ?_; rw [← LN9.out]; intro A' c' w2 h1 h2; have G1 := hid h1; have G2 := hid h2; clear h1 h2))
                obtain ⟨U', g3, g4, g5, g6, g7⟩ := way_end TT.out NT.out CT.out U8E.out IT.out G1.out G2.out
                go_meet
                exact ⟨A', n9 + on, c', U', _, _, rfl, by rw [List.length_append, ← LN9.out, HON.out], by have := HNL.out; have := SL.out; have := N9.out; omega, g3, g4, g5, g6, g7⟩
              · have k1b : (st.kind == 1) = false := by simp [k1]
                clear k1
                go_wp2_with fail
                go_meet
                exact ⟨A8, n9, c8, U8, rs, _, rfl, LN9.out, by have h1 := N9.out; have h2 := HNL.out; omega, T8.out, N8.out, I9.out.later (by omega), U8E.out, C8.out⟩
            case rest =>
              obtain ⟨A2, n2, c2, U2, rs2, net2, rfl, g1, g2, g3, g4, g5, g6, g7⟩ := hcut
              have G1 := hid g1
              have G2 := hid g2
              have T2 := hid g3
              have N2 := hid g4
              have I2 := hid g5
              have UE2 := hid g6
              have C2 := hid g7
              clear g1 g2 g3 g4 g5 g6 g7
              go_wp2_with fail
              refine (HCALL.out _ _ _ _ _ _ _ T2.out I2.out).mono ?_
              rintro e wz ⟨rfl, kz⟩
              have T3 := hid (T2.out.far kz)
              have N3 := hid (N2.out.far kz)
              have C3 := hid (C2.out.trans kz (fun _ h _ => h.elim))
              have hlt3 : (q : Int) < (ln : Int) := by have := HLTQ.out; omega
              have hlnb2 : (ln : Int) ≤ 120 := hlnb
              clear kz
              go_wp2_with fail
              go_roundw
              case measure => simp [intOf]; omega
              case rel => first | exact ⟨q + 1, A2, n2, c2, U2, rs2, net2, HLTQ.out, by go_num, rfl, G1.out, G2.out, T3.out, N3.out, I2.out, UE2.out, C3.out⟩ | ((repeat apply Exists.intro); exact ⟨⟨q + 1, A2, n2, c2, U2, rs2, net2, HLTQ.out, by go_num, rfl, G1.out, G2.out, T3.out, N3.out, I2.out, UE2.out, C3.out⟩, rfl⟩)
        · have hqn : ¬ (q : Int) < (ln : Int) := by omega
          go_wp2_with fail
          go_ret
          exact ⟨rfl, C1.out.below (Nat.le_refl _) (fun _ h => h)⟩
end Go.Proofs.Ytaldoajdhbndhaa.Pa


/- What is asked at each step: do the replicas agree? -/

namespace Go.Proofs.Ytaldoajdhbndhaa.Pa

set_option linter.unusedVariables false

set_option linter.unusedSimpArgs false

open Go.RowKit Go.Proofs.Ytaldoajdhbndhaa.C

attribute [local go_sem] max2_int min2_int max_two min_two

set_option maxHeartbeats 4000000 in
set_option maxRecDepth 100000 in
theorem agree_any {w : World} {U : Nat → Prop} {lv : Value} {ps : List P4} {rs : List Rp} {net : List Msg} {N t : Nat} (hN : N = 3 ∨ N = 5 ∨ N = 7) (hT : Team w U lv ps rs) (hI : NInv N t rs net) : Calls Try.prog 34 #[lv] w fun e w' => e = .returned (.bool true) ∧ Chg (fun _ => False) w w' := by
  obtain ⟨A, c, rfl⟩ := vec_slice hT.vec (n := N) (by rw [List.length_map, hT.len]; exact hI.1)
  have T := hid hT
  have I := hid hI
  have hnb7 : (N : Int) ≤ 7 := by omega
  have HCN := hid (Vec.parts hT.vec).2.1
  clear hT hI hN
  go_enter Try.func34, Try.ntmps34
  go_wp2_with fail
  go_loopw [13] (fun i wr => ∃ k : Nat, k ≤ N ∧ i = .int .i64 k ∧ Chg (fun _ => False) w wr) (fun i _ => N - (intOf i).toNat)
  case atStart => exact ⟨0, Nat.zero_le _, rfl, Chg.refl _ _⟩
  case round =>
    obtain ⟨k, hk, rfl, hC⟩ := hrel
    have C := hid hC
    clear hC hk
    by_cases hlt : k < N
    · have hlt2 : (k : Int) < (N : Int) := by omega
      have HLT := hid hlt
      obtain ⟨ra, hra, hokra, _⟩ := I.out.get hlt
      obtain ⟨qa, hqa⟩ : ∃ qq, ps[k]? = some qq := ⟨_, List.getElem?_eq_getElem (by have h1 := T.out.len; have h2 := I.out.1; omega)⟩
      have HRra := hid hra
      have OKra := hid hokra
      have QRra := hid (T.out.rq k qa ra hqa hra)
      obtain ⟨cra, hcra, hclra⟩ : ∃ cm : Nat, ra.s.commit = (cm : Int) ∧ cm ≤ ra.s.log.length := by
        have h := (stR_iff.1 hokra.st).1
        exact ⟨ra.s.commit.toNat, by omega, by omega⟩
      obtain ⟨lra, hlra⟩ : ∃ q_, q_ = ra.s.log.length := ⟨_, rfl⟩
      have hlbra : (lra : Int) ≤ 64 := by have h := (stR_iff.1 hokra.st).1; omega
      have hcbra : (cra : Int) ≤ (lra : Int) := by omega
      have HCra := hid hcra
      have HLra := hid hlra
      clear hcra hlra hclra hokra hra
      obtain ⟨g, cs5, hA, _, _, hK, hcs⟩ := T.out.vec.get (by decide) (i := k) (x := qa.1) (by rw [List.getElem?_map, hqa]; rfl)
      subst hK
      subst hA
      have y0 : wr.cell? ⟨g, k, none⟩ = some (.pointer (some ⟨qa.1, 0, none⟩)) := by have := hcs 0 _ rfl; exact C.out.cell (by simpa [ptrK] using this) (fun h => h)
      have hcut := fun W => cut_to (P := Try.prog) 82 30 .i64 Try.underlying82 (info_parts infoPtr).choose_spec.1 (some ⟨g, 0, none⟩) N c k (by have h1 := HCN.out; have h2 := HLT.out; omega) W
      clear hcs hqa
      go_wp2_with fail
      clear hcut y0
      have HLT0 := hid hlt
      clear hlt
      go_loopw [22] (fun i wx => ∃ j : Nat, j ≤ k ∧ i = .int .i64 j ∧ Chg (fun _ => False) w wx) (fun i _ => k - (intOf i).toNat)
      case atStart => exact ⟨0, Nat.zero_le _, rfl, C.out⟩
      case round =>
        obtain ⟨j, hj, rfl, hC⟩ := hrel
        have CJ := hid hC
        clear hC hj
        by_cases hltj : j < k
        · have hltj2 : (j : Int) < (k : Int) := by omega
          have HLTJ := hid hltj
          have hlt : j < N := by have := HLT.out; omega
          obtain ⟨rb, hrb, hokrb, _⟩ := I.out.get hlt
          obtain ⟨qb, hqb⟩ : ∃ qq, ps[j]? = some qq := ⟨_, List.getElem?_eq_getElem (by have h1 := T.out.len; have h2 := I.out.1; omega)⟩
          have HRrb := hid hrb
          have OKrb := hid hokrb
          have QRrb := hid (T.out.rq j qb rb hqb hrb)
          obtain ⟨crb, hcrb, hclrb⟩ : ∃ cm : Nat, rb.s.commit = (cm : Int) ∧ cm ≤ rb.s.log.length := by
            have h := (stR_iff.1 hokrb.st).1
            exact ⟨rb.s.commit.toNat, by omega, by omega⟩
          obtain ⟨lrb, hlrb⟩ : ∃ q_, q_ = rb.s.log.length := ⟨_, rfl⟩
          have hlbrb : (lrb : Int) ≤ 64 := by have h := (stR_iff.1 hokrb.st).1; omega
          have hcbrb : (crb : Int) ≤ (lrb : Int) := by omega
          have HCrb := hid hcrb
          have HLrb := hid hlrb
          clear hcrb hlrb hclrb hokrb hrb
          obtain ⟨g2, cs6, hA, _, _, hK, hcs⟩ := T.out.vec.get (by decide) (i := j) (x := qb.1) (by rw [List.getElem?_map, hqb]; rfl)
          subst hK
          injection hA with hA
          injection hA with hA
          subst hA
          have y1 : wr.cell? ⟨g, j, none⟩ = some (.pointer (some ⟨qb.1, 0, none⟩)) := by have := hcs 0 _ rfl; exact CJ.out.cell (by simpa [ptrK] using this) (fun h => h)
          have AL := hid (I.out.alike HRra.out HRrb.out (by have := HLTJ.out; omega))
          clear hcs hqb hlt hltj
          go_wp2_with fail
          refine (rq_state (QRra.out.far CJ.out)).mono ?_
          rintro e w1 ⟨Ara, dra, rfl, hA1, k1⟩
          rw [← HLra.out] at hA1
          rw [HCra.out, ← HLra.out]
          have L1 := hid hA1
          have C1 := hid (CJ.out.trans k1 (fun _ h _ => h))
          clear hA1 k1
          go_wp2_with fail
          refine (rq_state (QRrb.out.far C1.out)).mono ?_
          rintro e w2 ⟨Arb, drb, rfl, hA2, k2⟩
          rw [← HLrb.out] at hA2
          rw [HCrb.out, ← HLrb.out]
          have C2 := hid (C1.out.trans k2 (fun _ h _ => h))
          have L12 := hid (L1.out.chg k2 (fun _ _ h => h))
          have L22 := hid hA2
          clear hA2 k2 y1
          go_upto_region 8 with fail
          obtain ⟨b7, hb7⟩ : ∃ q_, q_ = w2.heap.size := ⟨_, rfl⟩
          obtain ⟨b8, hb8⟩ : ∃ q_, q_ = w2.heap.size + 1 := ⟨_, rfl⟩
          obtain ⟨W8, hW8⟩ : ∃ q_, q_ = (w2.alloc (.cells #[.int .i64 ra.s.view, .int .i64 ra.s.normal, .int .i64 (cra : Int), .int .i64 ra.s.active, .slice Ara lra dra] 26)).alloc (.cells #[.int .i64 rb.s.view, .int .i64 rb.s.normal, .int .i64 (crb : Int), .int .i64 rb.s.active, .slice Arb lrb drb] 26) := ⟨_, rfl⟩
          have CW8 := hid (show Chg (fun _ => False) w2 W8 by rw [hW8]; exact ((Chg.refl _ w2).alloc _).alloc _)
          have B7 := hid (show W8.heap[b7]? = some (.cells #[.int .i64 ra.s.view, .int .i64 ra.s.normal, .int .i64 (cra : Int), .int .i64 ra.s.active, .slice Ara lra dra] 26 (0, 0)) by rw [hW8, hb7]; exact blk_alloc (blk_new w2 _) _)
          have B8 := hid (show W8.heap[b8]? = some (.cells #[.int .i64 rb.s.view, .int .i64 rb.s.normal, .int .i64 (crb : Int), .int .i64 rb.s.active, .slice Arb lrb drb] 26 (0, 0)) by rw [hW8, hb8]; have := blk_new (w2.alloc (.cells #[.int .i64 ra.s.view, .int .i64 ra.s.normal, .int .i64 (cra : Int), .int .i64 ra.s.active, .slice Ara lra dra] 26)) (.cells #[.int .i64 rb.s.view, .int .i64 rb.s.normal, .int .i64 (crb : Int), .int .i64 rb.s.active, .slice Arb lrb drb] 26); simpa using this)
          rw [← hW8, ← hb8, ← hb7]
          clear hW8 hb7 hb8
          have C8 := hid (C2.out.trans CW8.out (fun _ h _ => h))
          have LA := hid (L12.out.chg CW8.out (fun _ _ h => h))
          have LB := hid (L22.out.chg CW8.out (fun _ _ h => h))
          have x2 : W8.cell? ⟨b7, 2, none⟩ = some (.int .i64 (cra : Int)) := (cellAt B7.out 2).trans rfl
          have y2 : W8.cell? ⟨b8, 2, none⟩ = some (.int .i64 (crb : Int)) := (cellAt B8.out 2).trans rfl
          go_upto_region 9 with fail
          obtain ⟨km, hkm, hk1, hk2⟩ : ∃ km : Nat, mn (cra : Int) (crb : Int) = (km : Int) ∧ km ≤ cra ∧ km ≤ crb := by
            unfold mn
            split
            · exact ⟨crb, rfl, by omega, by omega⟩
            · exact ⟨cra, rfl, by omega, by omega⟩
          rw [hkm]
          have KA := hid (show km ≤ lra by omega)
          have KB := hid (show km ≤ lrb by omega)
          have KS := hid (show ra.s.log.take km = rb.s.log.take km from AL.out.commit km (by rw [HCra.out]; omega) (by rw [HCrb.out]; omega))
          have HDA := hid (show lra ≤ dra from LA.out.2.1)
          have HDB := hid (show lrb ≤ drb from LB.out.2.1)
          clear hkm hk1 hk2 x2 y2
          obtain ⟨oa, hoa⟩ : ∃ q_, q_ = roleR ra := ⟨_, rfl⟩
          obtain ⟨ob, hob⟩ : ∃ q_, q_ = roleR rb := ⟨_, rfl⟩
          have ROA := hid hoa.symm
          have ROB := hid hob.symm
          clear hoa hob
          go_cut [61] (fun v wx => v = .bool false ∧ Chg (fun _ => False) W8 wx)
          case first =>
            have hcutA := fun W => cut_to (P := Try.prog) 24 56 .i64 Try.underlying24 (info_parts infoEntryP).choose_spec.1 Ara lra dra km (by have h1 := KA.out; have h2 := HDA.out; omega) W
            have hcutB := fun W => cut_to (P := Try.prog) 24 56 .i64 Try.underlying24 (info_parts infoEntryP).choose_spec.1 Arb lrb drb km (by have h1 := KB.out; have h2 := HDB.out; omega) W
            have X_0 : ∀ wx, Chg (fun _ => False) W8 wx → wx.cell? ⟨b7, 0, none⟩ = some (.int .i64 ra.s.view) := fun wx hx => (cellAt (hx.blk B7.out (fun h => h)) 0).trans rfl
            have X_4 : ∀ wx, Chg (fun _ => False) W8 wx → wx.cell? ⟨b7, 4, none⟩ = some (.slice Ara lra dra) := fun wx hx => (cellAt (hx.blk B7.out (fun h => h)) 4).trans rfl
            have Y_0 : ∀ wx, Chg (fun _ => False) W8 wx → wx.cell? ⟨b8, 0, none⟩ = some (.int .i64 rb.s.view) := fun wx hx => (cellAt (hx.blk B8.out (fun h => h)) 0).trans rfl
            have Y_4 : ∀ wx, Chg (fun _ => False) W8 wx → wx.cell? ⟨b8, 4, none⟩ = some (.slice Arb lrb drb) := fun wx hx => (cellAt (hx.blk B8.out (fun h => h)) 4).trans rfl
            by_cases h1 : oa = 1
            · have h1b : (oa == 1) = true := by simp [h1]
              by_cases h2 : ob = 1
              · have h2b : (ob == 1) = true := by simp [h2]
                have hv : (ra.s.view == rb.s.view) = false := by
                  have h := AL.out.prim
                  rw [ROA.out, ROB.out] at h
                  simpa [h1, h2] using h
                clear h1 h2
                refine wpB_start (fun wx : World => Chg (fun _ => False) W8 wx) (by kernel_rfl) ?_
                have hHeld : (fun wx : World => Chg (fun _ => False) W8 wx) _ := (Chg.refl (fun _ => False) W8).drew
                -- 0: t35 := fieldAddr 26 t7 4 : 0
                refine wpB_take (i := 0) (v := ?_) (get_of_drop rfl) (by kernel_rfl) (by kernel_rfl) (by kernel_rfl) (by kernel_rfl) (fun _ _ _ h => h) (Or.inl ⟨by rfl, ?_⟩) hHeld ?_
                rotate_left
                · (intro w hSw; (try dsimp only at hSw); go_simp <;> with_reducible rfl)
                try simp only [Act.put, List.setIfInBounds_toArray, List.set_cons_zero, List.set_cons_succ]
                -- 1: t36 := load 24 t35 : 24
                refine wpB_take (i := 1) (v := ?_) (get_of_drop rfl) (by kernel_rfl) (by kernel_rfl) (by kernel_rfl) (by kernel_rfl) (fun _ _ _ h => h) (Or.inl ⟨by rfl, ?_⟩) hHeld ?_
                rotate_left
                · (intro w hSw; (try dsimp only at hSw); go_simp <;> with_reducible rfl)
                try simp only [Act.put, List.setIfInBounds_toArray, List.set_cons_zero, List.set_cons_succ]
                -- 2: t37 := move t9 : 3
                refine wpB_take (i := 2) (v := ?_) (get_of_drop rfl) (by kernel_rfl) (by kernel_rfl) (by kernel_rfl) (by kernel_rfl) (fun _ _ _ h => h) (Or.inl ⟨by rfl, ?_⟩) hHeld ?_
                rotate_left
                · (intro w hSw; (try dsimp only at hSw); go_simp <;> with_reducible rfl)
                try simp only [Act.put, List.setIfInBounds_toArray, List.set_cons_zero, List.set_cons_succ]
                -- 3: t38 := slice 24 t36 none some t37 none : 24
                refine wpB_take (i := 3) (v := ?_) (get_of_drop rfl) (by kernel_rfl) (by kernel_rfl) (by kernel_rfl) (by kernel_rfl) (fun _ _ _ h => h) (Or.inl ⟨by rfl, ?_⟩) hHeld ?_
                rotate_left
                · (intro w hSw; (try dsimp only at hSw); go_simp <;> with_reducible rfl)
                try simp only [Act.put, List.setIfInBounds_toArray, List.set_cons_zero, List.set_cons_succ]
                -- 4: t39 := fieldAddr 26 t8 4 : 0
                refine wpB_take (i := 4) (v := ?_) (get_of_drop rfl) (by kernel_rfl) (by kernel_rfl) (by kernel_rfl) (by kernel_rfl) (fun _ _ _ h => h) (Or.inl ⟨by rfl, ?_⟩) hHeld ?_
                rotate_left
                · (intro w hSw; (try dsimp only at hSw); go_simp <;> with_reducible rfl)
                try simp only [Act.put, List.setIfInBounds_toArray, List.set_cons_zero, List.set_cons_succ]
                -- 5: t40 := load 24 t39 : 24
                refine wpB_take (i := 5) (v := ?_) (get_of_drop rfl) (by kernel_rfl) (by kernel_rfl) (by kernel_rfl) (by kernel_rfl) (fun _ _ _ h => h) (Or.inl ⟨by rfl, ?_⟩) hHeld ?_
                rotate_left
                · (intro w hSw; (try dsimp only at hSw); go_simp <;> with_reducible rfl)
                try simp only [Act.put, List.setIfInBounds_toArray, List.set_cons_zero, List.set_cons_succ]
                -- 6: t41 := move t9 : 3
                refine wpB_take (i := 6) (v := ?_) (get_of_drop rfl) (by kernel_rfl) (by kernel_rfl) (by kernel_rfl) (by kernel_rfl) (fun _ _ _ h => h) (Or.inl ⟨by rfl, ?_⟩) hHeld ?_
                rotate_left
                · (intro w hSw; (try dsimp only at hSw); go_simp <;> with_reducible rfl)
                try simp only [Act.put, List.setIfInBounds_toArray, List.set_cons_zero, List.set_cons_succ]
                -- 7: t42 := slice 24 t40 none some t41 none : 24
                refine wpB_take (i := 7) (v := ?_) (get_of_drop rfl) (by kernel_rfl) (by kernel_rfl) (by kernel_rfl) (by kernel_rfl) (fun _ _ _ h => h) (Or.inl ⟨by rfl, ?_⟩) hHeld ?_
                rotate_left
                · (intro w hSw; (try dsimp only at hSw); go_simp <;> with_reducible rfl)
                try simp only [Act.put, List.setIfInBounds_toArray, List.set_cons_zero, List.set_cons_succ]
                -- 8: t43 := CALL fn35(t38, t42) : 4 (BARRIER)
                refine wpB_bar (i := 8) (by kernel_rfl) (get_of_drop rfl) (by kernel_rfl) (fun K hK => ?_)
                go_simp
                refine (Same_any ((LA.out.chg hHeld (fun _ _ h => h)).to_ KA.out) ((LB.out.chg hHeld (fun _ _ h => h)).to_ KB.out)).mono ?_
                rintro e' wa ⟨rfl, hwa⟩
                rw [decide_eq_true KS.out]
                have HW1 := hid (show Chg (fun _ => False) W8 wa from hHeld.trans hwa (fun _ h _ => h))
                clear hwa
                refine hK.out _ _ (fun wx : World => Chg (fun _ => False) W8 wx) ?_
                clear hHeld hK K
                have hHeld : (fun wx : World => Chg (fun _ => False) W8 wx) _ := (by first | assumption | exact HW1.out | exact HW2.out | exact HW3.out)
                try simp only [Act.put, List.setIfInBounds_toArray, List.set_cons_zero, List.set_cons_succ]
                -- 9: t44 := unOp UnOp.not 4 t43 : 4
                refine wpB_take (i := 9) (v := ?_) (get_of_drop rfl) (by kernel_rfl) (by kernel_rfl) (by kernel_rfl) (by kernel_rfl) (fun _ _ _ h => h) (Or.inl ⟨by rfl, ?_⟩) hHeld ?_
                rotate_left
                · (intro w hSw; (try dsimp only at hSw); go_simp <;> with_reducible rfl)
                try simp only [Act.put, List.setIfInBounds_toArray, List.set_cons_zero, List.set_cons_succ]
                -- 10: t45 := move t44 : 4
                refine wpB_take (i := 10) (v := ?_) (get_of_drop rfl) (by kernel_rfl) (by kernel_rfl) (by kernel_rfl) (by kernel_rfl) (fun _ _ _ h => h) (Or.inl ⟨by rfl, ?_⟩) hHeld ?_
                rotate_left
                · (intro w hSw; (try dsimp only at hSw); go_simp <;> with_reducible rfl)
                try simp only [Act.put, List.setIfInBounds_toArray, List.set_cons_zero, List.set_cons_succ]
                -- 11: t46 := move t4 : 30   [if ⟨10, false⟩]
                refine wpB_take (i := 11) (v := ?_) (get_of_drop rfl) (by kernel_rfl) (by kernel_rfl) (by kernel_rfl) (by kernel_rfl) (fun _ _ _ h => h) (Or.inl ⟨by rfl, ?_⟩) hHeld ?_
                rotate_left
                · (intro w hSw; (try dsimp only at hSw); go_simp <;> with_reducible rfl)
                try simp only [Act.put, List.setIfInBounds_toArray, List.set_cons_zero, List.set_cons_succ]
                -- 12: t47 := CALL fn16(t46) : 3   [if ⟨10, false⟩] (BARRIER)
                refine wpB_bar (i := 12) (by kernel_rfl) (get_of_drop rfl) (by kernel_rfl) (fun K hK => ?_)
                go_simp
                refine (rq_role ((QRra.out.far C8.out).far hHeld)).mono ?_
                rintro e' wb ⟨rfl, hwb⟩
                rw [ROA.out]
                have HW2 := hid (show Chg (fun _ => False) W8 wb from hHeld.trans hwb (fun _ h _ => h))
                clear hwb
                refine hK.out _ _ (fun wx : World => Chg (fun _ => False) W8 wx) ?_
                clear hHeld hK K
                have hHeld : (fun wx : World => Chg (fun _ => False) W8 wx) _ := (by first | assumption | exact HW1.out | exact HW2.out | exact HW3.out)
                try simp only [Act.put, List.setIfInBounds_toArray, List.set_cons_zero, List.set_cons_succ]
                -- 13: t48 := binOp BinOp.eql 3 t47 #i64:1 3 : 4   [if ⟨10, false⟩]
                refine wpB_take (i := 13) (v := ?_) (get_of_drop rfl) (by kernel_rfl) (by kernel_rfl) (by kernel_rfl) (by kernel_rfl) (fun _ _ _ h => h) (Or.inl ⟨by rfl, ?_⟩) hHeld ?_
                rotate_left
                · (intro w hSw; (try dsimp only at hSw); go_simp <;> with_reducible rfl)
                try simp only [Act.put, List.setIfInBounds_toArray, List.set_cons_zero, List.set_cons_succ]
                -- 14: t49 := move t48 : 4   [if ⟨10, false⟩]
                refine wpB_take (i := 14) (v := ?_) (get_of_drop rfl) (by kernel_rfl) (by kernel_rfl) (by kernel_rfl) (by kernel_rfl) (fun _ _ _ h => h) (Or.inl ⟨by rfl, ?_⟩) hHeld ?_
                rotate_left
                · (intro w hSw; (try dsimp only at hSw); go_simp <;> with_reducible rfl)
                try simp only [Act.put, List.setIfInBounds_toArray, List.set_cons_zero, List.set_cons_succ]
                -- 15: t50 := move t6 : 30   [if ⟨14, true⟩]
                refine wpB_take (i := 15) (v := ?_) (get_of_drop rfl) (by kernel_rfl) (by kernel_rfl) (by kernel_rfl) (by kernel_rfl) (fun _ _ _ h => h) (Or.inl ⟨by rfl, ?_⟩) hHeld ?_
                rotate_left
                · (intro w hSw; (try dsimp only at hSw); go_simp <;> with_reducible rfl)
                try simp only [Act.put, List.setIfInBounds_toArray, List.set_cons_zero, List.set_cons_succ]
                -- 16: t51 := CALL fn16(t50) : 3   [if ⟨14, true⟩] (BARRIER)
                refine wpB_bar (i := 16) (by kernel_rfl) (get_of_drop rfl) (by kernel_rfl) (fun K hK => ?_)
                go_simp
                refine (rq_role ((QRrb.out.far C8.out).far hHeld)).mono ?_
                rintro e' wc ⟨rfl, hwc⟩
                rw [ROB.out]
                have HW3 := hid (show Chg (fun _ => False) W8 wc from hHeld.trans hwc (fun _ h _ => h))
                clear hwc
                refine hK.out _ _ (fun wx : World => Chg (fun _ => False) W8 wx) ?_
                clear hHeld hK K
                have hHeld : (fun wx : World => Chg (fun _ => False) W8 wx) _ := (by first | assumption | exact HW1.out | exact HW2.out | exact HW3.out)
                try simp only [Act.put, List.setIfInBounds_toArray, List.set_cons_zero, List.set_cons_succ]
                -- 17: t52 := binOp BinOp.eql 3 t51 #i64:1 3 : 4   [if ⟨14, true⟩]
                refine wpB_take (i := 17) (v := ?_) (get_of_drop rfl) (by kernel_rfl) (by kernel_rfl) (by kernel_rfl) (by kernel_rfl) (fun _ _ _ h => h) (Or.inl ⟨by rfl, ?_⟩) hHeld ?_
                rotate_left
                · (intro w hSw; (try dsimp only at hSw); go_simp <;> with_reducible rfl)
                try simp only [Act.put, List.setIfInBounds_toArray, List.set_cons_zero, List.set_cons_succ]
                -- 18: t53 := pick t49 t52 #false : 4   [if ⟨10, false⟩]
                refine wpB_take (i := 18) (v := ?_) (get_of_drop rfl) (by kernel_rfl) (by kernel_rfl) (by kernel_rfl) (by kernel_rfl) (fun _ _ _ h => h) (Or.inl ⟨by rfl, ?_⟩) hHeld ?_
                rotate_left
                · (intro w hSw; (try dsimp only at hSw); go_simp <;> with_reducible rfl)
                try simp only [Act.put, List.setIfInBounds_toArray, List.set_cons_zero, List.set_cons_succ]
                -- 19: t54 := move t53 : 4   [if ⟨10, false⟩]
                refine wpB_take (i := 19) (v := ?_) (get_of_drop rfl) (by kernel_rfl) (by kernel_rfl) (by kernel_rfl) (by kernel_rfl) (fun _ _ _ h => h) (Or.inl ⟨by rfl, ?_⟩) hHeld ?_
                rotate_left
                · (intro w hSw; (try dsimp only at hSw); go_simp <;> with_reducible rfl)
                try simp only [Act.put, List.setIfInBounds_toArray, List.set_cons_zero, List.set_cons_succ]
                -- 20: t55 := fieldAddr 26 t7 0 : 0   [if ⟨19, true⟩]
                refine wpB_take (i := 20) (v := ?_) (get_of_drop rfl) (by kernel_rfl) (by kernel_rfl) (by kernel_rfl) (by kernel_rfl) (fun _ _ _ h => h) (Or.inl ⟨by rfl, ?_⟩) hHeld ?_
                rotate_left
                · (intro w hSw; (try dsimp only at hSw); go_simp <;> with_reducible rfl)
                try simp only [Act.put, List.setIfInBounds_toArray, List.set_cons_zero, List.set_cons_succ]
                -- 21: t56 := load 3 t55 : 3   [if ⟨19, true⟩]
                refine wpB_take (i := 21) (v := ?_) (get_of_drop rfl) (by kernel_rfl) (by kernel_rfl) (by kernel_rfl) (by kernel_rfl) (fun _ _ _ h => h) (Or.inl ⟨by rfl, ?_⟩) hHeld ?_
                rotate_left
                · (intro w hSw; (try dsimp only at hSw); go_simp <;> with_reducible rfl)
                try simp only [Act.put, List.setIfInBounds_toArray, List.set_cons_zero, List.set_cons_succ]
                -- 22: t57 := fieldAddr 26 t8 0 : 0   [if ⟨19, true⟩]
                refine wpB_take (i := 22) (v := ?_) (get_of_drop rfl) (by kernel_rfl) (by kernel_rfl) (by kernel_rfl) (by kernel_rfl) (fun _ _ _ h => h) (Or.inl ⟨by rfl, ?_⟩) hHeld ?_
                rotate_left
                · (intro w hSw; (try dsimp only at hSw); go_simp <;> with_reducible rfl)
                try simp only [Act.put, List.setIfInBounds_toArray, List.set_cons_zero, List.set_cons_succ]
                -- 23: t58 := load 3 t57 : 3   [if ⟨19, true⟩]
                refine wpB_take (i := 23) (v := ?_) (get_of_drop rfl) (by kernel_rfl) (by kernel_rfl) (by kernel_rfl) (by kernel_rfl) (fun _ _ _ h => h) (Or.inl ⟨by rfl, ?_⟩) hHeld ?_
                rotate_left
                · (intro w hSw; (try dsimp only at hSw); go_simp <;> with_reducible rfl)
                try simp only [Act.put, List.setIfInBounds_toArray, List.set_cons_zero, List.set_cons_succ]
                -- 24: t59 := binOp BinOp.eql 3 t56 t58 3 : 4   [if ⟨19, true⟩]
                refine wpB_take (i := 24) (v := ?_) (get_of_drop rfl) (by kernel_rfl) (by kernel_rfl) (by kernel_rfl) (by kernel_rfl) (fun _ _ _ h => h) (Or.inl ⟨by rfl, ?_⟩) hHeld ?_
                rotate_left
                · (intro w hSw; (try dsimp only at hSw); go_simp <;> with_reducible rfl)
                try simp only [Act.put, List.setIfInBounds_toArray, List.set_cons_zero, List.set_cons_succ]
                -- 25: t60 := pick t54 t59 #false : 4   [if ⟨10, false⟩]
                refine wpB_take (i := 25) (v := ?_) (get_of_drop rfl) (by kernel_rfl) (by kernel_rfl) (by kernel_rfl) (by kernel_rfl) (fun _ _ _ h => h) (Or.inl ⟨by rfl, ?_⟩) hHeld ?_
                rotate_left
                · (intro w hSw; (try dsimp only at hSw); go_simp <;> with_reducible rfl)
                try simp only [Act.put, List.setIfInBounds_toArray, List.set_cons_zero, List.set_cons_succ]
                -- 26: t61 := pick t45 #true t60 : 4
                refine wpB_take (i := 26) (v := ?_) (get_of_drop rfl) (by kernel_rfl) (by kernel_rfl) (by kernel_rfl) (by kernel_rfl) (fun _ _ _ h => h) (Or.inl ⟨by rfl, ?_⟩) hHeld ?_
                rotate_left
                · (intro w hSw; (try dsimp only at hSw); go_simp <;> with_reducible rfl)
                try simp only [Act.put, List.setIfInBounds_toArray, List.set_cons_zero, List.set_cons_succ]
                refine wpB_done (by kernel_rfl) ?_ _
                go_wp2_with fail
                go_meet
                exact ⟨rfl, HW3.out⟩
              · have h2b : (ob == 1) = false := by simp [h2]
                clear h1 h2
                refine wpB_start (fun wx : World => Chg (fun _ => False) W8 wx) (by kernel_rfl) ?_
                have hHeld : (fun wx : World => Chg (fun _ => False) W8 wx) _ := (Chg.refl (fun _ => False) W8).drew
                -- 0: t35 := fieldAddr 26 t7 4 : 0
                refine wpB_take (i := 0) (v := ?_) (get_of_drop rfl) (by kernel_rfl) (by kernel_rfl) (by kernel_rfl) (by kernel_rfl) (fun _ _ _ h => h) (Or.inl ⟨by rfl, ?_⟩) hHeld ?_
                rotate_left
                · (intro w hSw; (try dsimp only at hSw); go_simp <;> with_reducible rfl)
                try simp only [Act.put, List.setIfInBounds_toArray, List.set_cons_zero, List.set_cons_succ]
                -- 1: t36 := load 24 t35 : 24
                refine wpB_take (i := 1) (v := ?_) (get_of_drop rfl) (by kernel_rfl) (by kernel_rfl) (by kernel_rfl) (by kernel_rfl) (fun _ _ _ h => h) (Or.inl ⟨by rfl, ?_⟩) hHeld ?_
                rotate_left
                · (intro w hSw; (try dsimp only at hSw); go_simp <;> with_reducible rfl)
                try simp only [Act.put, List.setIfInBounds_toArray, List.set_cons_zero, List.set_cons_succ]
                -- 2: t37 := move t9 : 3
                refine wpB_take (i := 2) (v := ?_) (get_of_drop rfl) (by kernel_rfl) (by kernel_rfl) (by kernel_rfl) (by kernel_rfl) (fun _ _ _ h => h) (Or.inl ⟨by rfl, ?_⟩) hHeld ?_
                rotate_left
                · (intro w hSw; (try dsimp only at hSw); go_simp <;> with_reducible rfl)
                try simp only [Act.put, List.setIfInBounds_toArray, List.set_cons_zero, List.set_cons_succ]
                -- 3: t38 := slice 24 t36 none some t37 none : 24
                refine wpB_take (i := 3) (v := ?_) (get_of_drop rfl) (by kernel_rfl) (by kernel_rfl) (by kernel_rfl) (by kernel_rfl) (fun _ _ _ h => h) (Or.inl ⟨by rfl, ?_⟩) hHeld ?_
                rotate_left
                · (intro w hSw; (try dsimp only at hSw); go_simp <;> with_reducible rfl)
                try simp only [Act.put, List.setIfInBounds_toArray, List.set_cons_zero, List.set_cons_succ]
                -- 4: t39 := fieldAddr 26 t8 4 : 0
                refine wpB_take (i := 4) (v := ?_) (get_of_drop rfl) (by kernel_rfl) (by kernel_rfl) (by kernel_rfl) (by kernel_rfl) (fun _ _ _ h => h) (Or.inl ⟨by rfl, ?_⟩) hHeld ?_
                rotate_left
                · (intro w hSw; (try dsimp only at hSw); go_simp <;> with_reducible rfl)
                try simp only [Act.put, List.setIfInBounds_toArray, List.set_cons_zero, List.set_cons_succ]
                -- 5: t40 := load 24 t39 : 24
                refine wpB_take (i := 5) (v := ?_) (get_of_drop rfl) (by kernel_rfl) (by kernel_rfl) (by kernel_rfl) (by kernel_rfl) (fun _ _ _ h => h) (Or.inl ⟨by rfl, ?_⟩) hHeld ?_
                rotate_left
                · (intro w hSw; (try dsimp only at hSw); go_simp <;> with_reducible rfl)
                try simp only [Act.put, List.setIfInBounds_toArray, List.set_cons_zero, List.set_cons_succ]
                -- 6: t41 := move t9 : 3
                refine wpB_take (i := 6) (v := ?_) (get_of_drop rfl) (by kernel_rfl) (by kernel_rfl) (by kernel_rfl) (by kernel_rfl) (fun _ _ _ h => h) (Or.inl ⟨by rfl, ?_⟩) hHeld ?_
                rotate_left
                · (intro w hSw; (try dsimp only at hSw); go_simp <;> with_reducible rfl)
                try simp only [Act.put, List.setIfInBounds_toArray, List.set_cons_zero, List.set_cons_succ]
                -- 7: t42 := slice 24 t40 none some t41 none : 24
                refine wpB_take (i := 7) (v := ?_) (get_of_drop rfl) (by kernel_rfl) (by kernel_rfl) (by kernel_rfl) (by kernel_rfl) (fun _ _ _ h => h) (Or.inl ⟨by rfl, ?_⟩) hHeld ?_
                rotate_left
                · (intro w hSw; (try dsimp only at hSw); go_simp <;> with_reducible rfl)
                try simp only [Act.put, List.setIfInBounds_toArray, List.set_cons_zero, List.set_cons_succ]
                -- 8: t43 := CALL fn35(t38, t42) : 4 (BARRIER)
                refine wpB_bar (i := 8) (by kernel_rfl) (get_of_drop rfl) (by kernel_rfl) (fun K hK => ?_)
                go_simp
                refine (Same_any ((LA.out.chg hHeld (fun _ _ h => h)).to_ KA.out) ((LB.out.chg hHeld (fun _ _ h => h)).to_ KB.out)).mono ?_
                rintro e' wa ⟨rfl, hwa⟩
                rw [decide_eq_true KS.out]
                have HW1 := hid (show Chg (fun _ => False) W8 wa from hHeld.trans hwa (fun _ h _ => h))
                clear hwa
                refine hK.out _ _ (fun wx : World => Chg (fun _ => False) W8 wx) ?_
                clear hHeld hK K
                have hHeld : (fun wx : World => Chg (fun _ => False) W8 wx) _ := (by first | assumption | exact HW1.out | exact HW2.out | exact HW3.out)
                try simp only [Act.put, List.setIfInBounds_toArray, List.set_cons_zero, List.set_cons_succ]
                -- 9: t44 := unOp UnOp.not 4 t43 : 4
                refine wpB_take (i := 9) (v := ?_) (get_of_drop rfl) (by kernel_rfl) (by kernel_rfl) (by kernel_rfl) (by kernel_rfl) (fun _ _ _ h => h) (Or.inl ⟨by rfl, ?_⟩) hHeld ?_
                rotate_left
                · (intro w hSw; (try dsimp only at hSw); go_simp <;> with_reducible rfl)
                try simp only [Act.put, List.setIfInBounds_toArray, List.set_cons_zero, List.set_cons_succ]
                -- 10: t45 := move t44 : 4
                refine wpB_take (i := 10) (v := ?_) (get_of_drop rfl) (by kernel_rfl) (by kernel_rfl) (by kernel_rfl) (by kernel_rfl) (fun _ _ _ h => h) (Or.inl ⟨by rfl, ?_⟩) hHeld ?_
                rotate_left
                · (intro w hSw; (try dsimp only at hSw); go_simp <;> with_reducible rfl)
                try simp only [Act.put, List.setIfInBounds_toArray, List.set_cons_zero, List.set_cons_succ]
                -- 11: t46 := move t4 : 30   [if ⟨10, false⟩]
                refine wpB_take (i := 11) (v := ?_) (get_of_drop rfl) (by kernel_rfl) (by kernel_rfl) (by kernel_rfl) (by kernel_rfl) (fun _ _ _ h => h) (Or.inl ⟨by rfl, ?_⟩) hHeld ?_
                rotate_left
                · (intro w hSw; (try dsimp only at hSw); go_simp <;> with_reducible rfl)
                try simp only [Act.put, List.setIfInBounds_toArray, List.set_cons_zero, List.set_cons_succ]
                -- 12: t47 := CALL fn16(t46) : 3   [if ⟨10, false⟩] (BARRIER)
                refine wpB_bar (i := 12) (by kernel_rfl) (get_of_drop rfl) (by kernel_rfl) (fun K hK => ?_)
                go_simp
                refine (rq_role ((QRra.out.far C8.out).far hHeld)).mono ?_
                rintro e' wb ⟨rfl, hwb⟩
                rw [ROA.out]
                have HW2 := hid (show Chg (fun _ => False) W8 wb from hHeld.trans hwb (fun _ h _ => h))
                clear hwb
                refine hK.out _ _ (fun wx : World => Chg (fun _ => False) W8 wx) ?_
                clear hHeld hK K
                have hHeld : (fun wx : World => Chg (fun _ => False) W8 wx) _ := (by first | assumption | exact HW1.out | exact HW2.out | exact HW3.out)
                try simp only [Act.put, List.setIfInBounds_toArray, List.set_cons_zero, List.set_cons_succ]
                -- 13: t48 := binOp BinOp.eql 3 t47 #i64:1 3 : 4   [if ⟨10, false⟩]
                refine wpB_take (i := 13) (v := ?_) (get_of_drop rfl) (by kernel_rfl) (by kernel_rfl) (by kernel_rfl) (by kernel_rfl) (fun _ _ _ h => h) (Or.inl ⟨by rfl, ?_⟩) hHeld ?_
                rotate_left
                · (intro w hSw; (try dsimp only at hSw); go_simp <;> with_reducible rfl)
                try simp only [Act.put, List.setIfInBounds_toArray, List.set_cons_zero, List.set_cons_succ]
                -- 14: t49 := move t48 : 4   [if ⟨10, false⟩]
                refine wpB_take (i := 14) (v := ?_) (get_of_drop rfl) (by kernel_rfl) (by kernel_rfl) (by kernel_rfl) (by kernel_rfl) (fun _ _ _ h => h) (Or.inl ⟨by rfl, ?_⟩) hHeld ?_
                rotate_left
                · (intro w hSw; (try dsimp only at hSw); go_simp <;> with_reducible rfl)
                try simp only [Act.put, List.setIfInBounds_toArray, List.set_cons_zero, List.set_cons_succ]
                -- 15: t50 := move t6 : 30   [if ⟨14, true⟩]
                refine wpB_take (i := 15) (v := ?_) (get_of_drop rfl) (by kernel_rfl) (by kernel_rfl) (by kernel_rfl) (by kernel_rfl) (fun _ _ _ h => h) (Or.inl ⟨by rfl, ?_⟩) hHeld ?_
                rotate_left
                · (intro w hSw; (try dsimp only at hSw); go_simp <;> with_reducible rfl)
                try simp only [Act.put, List.setIfInBounds_toArray, List.set_cons_zero, List.set_cons_succ]
                -- 16: t51 := CALL fn16(t50) : 3   [if ⟨14, true⟩] (BARRIER)
                refine wpB_bar (i := 16) (by kernel_rfl) (get_of_drop rfl) (by kernel_rfl) (fun K hK => ?_)
                go_simp
                refine (rq_role ((QRrb.out.far C8.out).far hHeld)).mono ?_
                rintro e' wc ⟨rfl, hwc⟩
                rw [ROB.out]
                have HW3 := hid (show Chg (fun _ => False) W8 wc from hHeld.trans hwc (fun _ h _ => h))
                clear hwc
                refine hK.out _ _ (fun wx : World => Chg (fun _ => False) W8 wx) ?_
                clear hHeld hK K
                have hHeld : (fun wx : World => Chg (fun _ => False) W8 wx) _ := (by first | assumption | exact HW1.out | exact HW2.out | exact HW3.out)
                try simp only [Act.put, List.setIfInBounds_toArray, List.set_cons_zero, List.set_cons_succ]
                -- 17: t52 := binOp BinOp.eql 3 t51 #i64:1 3 : 4   [if ⟨14, true⟩]
                refine wpB_take (i := 17) (v := ?_) (get_of_drop rfl) (by kernel_rfl) (by kernel_rfl) (by kernel_rfl) (by kernel_rfl) (fun _ _ _ h => h) (Or.inl ⟨by rfl, ?_⟩) hHeld ?_
                rotate_left
                · (intro w hSw; (try dsimp only at hSw); go_simp <;> with_reducible rfl)
                try simp only [Act.put, List.setIfInBounds_toArray, List.set_cons_zero, List.set_cons_succ]
                -- 18: t53 := pick t49 t52 #false : 4   [if ⟨10, false⟩]
                refine wpB_take (i := 18) (v := ?_) (get_of_drop rfl) (by kernel_rfl) (by kernel_rfl) (by kernel_rfl) (by kernel_rfl) (fun _ _ _ h => h) (Or.inl ⟨by rfl, ?_⟩) hHeld ?_
                rotate_left
                · (intro w hSw; (try dsimp only at hSw); go_simp <;> with_reducible rfl)
                try simp only [Act.put, List.setIfInBounds_toArray, List.set_cons_zero, List.set_cons_succ]
                -- 19: t54 := move t53 : 4   [if ⟨10, false⟩]
                refine wpB_take (i := 19) (v := ?_) (get_of_drop rfl) (by kernel_rfl) (by kernel_rfl) (by kernel_rfl) (by kernel_rfl) (fun _ _ _ h => h) (Or.inl ⟨by rfl, ?_⟩) hHeld ?_
                rotate_left
                · (intro w hSw; (try dsimp only at hSw); go_simp <;> with_reducible rfl)
                try simp only [Act.put, List.setIfInBounds_toArray, List.set_cons_zero, List.set_cons_succ]
                -- 20: t55 := fieldAddr 26 t7 0 : 0   [if ⟨19, true⟩]
                refine wpB_take (i := 20) (v := undef) (get_of_drop rfl) (by kernel_rfl) (by kernel_rfl) (by kernel_rfl) (by kernel_rfl) (fun _ _ _ h => h) (Or.inr ⟨by rfl, rfl⟩) hHeld ?_
                try simp only [Act.put, List.setIfInBounds_toArray, List.set_cons_zero, List.set_cons_succ]
                -- 21: t56 := load 3 t55 : 3   [if ⟨19, true⟩]
                refine wpB_take (i := 21) (v := undef) (get_of_drop rfl) (by kernel_rfl) (by kernel_rfl) (by kernel_rfl) (by kernel_rfl) (fun _ _ _ h => h) (Or.inr ⟨by rfl, rfl⟩) hHeld ?_
                try simp only [Act.put, List.setIfInBounds_toArray, List.set_cons_zero, List.set_cons_succ]
                -- 22: t57 := fieldAddr 26 t8 0 : 0   [if ⟨19, true⟩]
                refine wpB_take (i := 22) (v := undef) (get_of_drop rfl) (by kernel_rfl) (by kernel_rfl) (by kernel_rfl) (by kernel_rfl) (fun _ _ _ h => h) (Or.inr ⟨by rfl, rfl⟩) hHeld ?_
                try simp only [Act.put, List.setIfInBounds_toArray, List.set_cons_zero, List.set_cons_succ]
                -- 23: t58 := load 3 t57 : 3   [if ⟨19, true⟩]
                refine wpB_take (i := 23) (v := undef) (get_of_drop rfl) (by kernel_rfl) (by kernel_rfl) (by kernel_rfl) (by kernel_rfl) (fun _ _ _ h => h) (Or.inr ⟨by rfl, rfl⟩) hHeld ?_
                try simp only [Act.put, List.setIfInBounds_toArray, List.set_cons_zero, List.set_cons_succ]
                -- 24: t59 := binOp BinOp.eql 3 t56 t58 3 : 4   [if ⟨19, true⟩]
                refine wpB_take (i := 24) (v := undef) (get_of_drop rfl) (by kernel_rfl) (by kernel_rfl) (by kernel_rfl) (by kernel_rfl) (fun _ _ _ h => h) (Or.inr ⟨by rfl, rfl⟩) hHeld ?_
                try simp only [Act.put, List.setIfInBounds_toArray, List.set_cons_zero, List.set_cons_succ]
                -- 25: t60 := pick t54 t59 #false : 4   [if ⟨10, false⟩]
                refine wpB_take (i := 25) (v := ?_) (get_of_drop rfl) (by kernel_rfl) (by kernel_rfl) (by kernel_rfl) (by kernel_rfl) (fun _ _ _ h => h) (Or.inl ⟨by rfl, ?_⟩) hHeld ?_
                rotate_left
                · (intro w hSw; (try dsimp only at hSw); go_simp <;> with_reducible rfl)
                try simp only [Act.put, List.setIfInBounds_toArray, List.set_cons_zero, List.set_cons_succ]
                -- 26: t61 := pick t45 #true t60 : 4
                refine wpB_take (i := 26) (v := ?_) (get_of_drop rfl) (by kernel_rfl) (by kernel_rfl) (by kernel_rfl) (by kernel_rfl) (fun _ _ _ h => h) (Or.inl ⟨by rfl, ?_⟩) hHeld ?_
                rotate_left
                · (intro w hSw; (try dsimp only at hSw); go_simp <;> with_reducible rfl)
                try simp only [Act.put, List.setIfInBounds_toArray, List.set_cons_zero, List.set_cons_succ]
                refine wpB_done (by kernel_rfl) ?_ _
                go_wp2_with fail
                go_meet
                exact ⟨rfl, HW3.out⟩
            · have h1b : (oa == 1) = false := by simp [h1]
              clear h1
              refine wpB_start (fun wx : World => Chg (fun _ => False) W8 wx) (by kernel_rfl) ?_
              have hHeld : (fun wx : World => Chg (fun _ => False) W8 wx) _ := (Chg.refl (fun _ => False) W8).drew
              -- 0: t35 := fieldAddr 26 t7 4 : 0
              refine wpB_take (i := 0) (v := ?_) (get_of_drop rfl) (by kernel_rfl) (by kernel_rfl) (by kernel_rfl) (by kernel_rfl) (fun _ _ _ h => h) (Or.inl ⟨by rfl, ?_⟩) hHeld ?_
              rotate_left
              · (intro w hSw; (try dsimp only at hSw); go_simp <;> with_reducible rfl)
              try simp only [Act.put, List.setIfInBounds_toArray, List.set_cons_zero, List.set_cons_succ]
              -- 1: t36 := load 24 t35 : 24
              refine wpB_take (i := 1) (v := ?_) (get_of_drop rfl) (by kernel_rfl) (by kernel_rfl) (by kernel_rfl) (by kernel_rfl) (fun _ _ _ h => h) (Or.inl ⟨by rfl, ?_⟩) hHeld ?_
              rotate_left
              · (intro w hSw; (try dsimp only at hSw); go_simp <;> with_reducible rfl)
              try simp only [Act.put, List.setIfInBounds_toArray, List.set_cons_zero, List.set_cons_succ]
              -- 2: t37 := move t9 : 3
              refine wpB_take (i := 2) (v := ?_) (get_of_drop rfl) (by kernel_rfl) (by kernel_rfl) (by kernel_rfl) (by kernel_rfl) (fun _ _ _ h => h) (Or.inl ⟨by rfl, ?_⟩) hHeld ?_
              rotate_left
              · (intro w hSw; (try dsimp only at hSw); go_simp <;> with_reducible rfl)
              try simp only [Act.put, List.setIfInBounds_toArray, List.set_cons_zero, List.set_cons_succ]
              -- 3: t38 := slice 24 t36 none some t37 none : 24
              refine wpB_take (i := 3) (v := ?_) (get_of_drop rfl) (by kernel_rfl) (by kernel_rfl) (by kernel_rfl) (by kernel_rfl) (fun _ _ _ h => h) (Or.inl ⟨by rfl, ?_⟩) hHeld ?_
              rotate_left
              · (intro w hSw; (try dsimp only at hSw); go_simp <;> with_reducible rfl)
              try simp only [Act.put, List.setIfInBounds_toArray, List.set_cons_zero, List.set_cons_succ]
              -- 4: t39 := fieldAddr 26 t8 4 : 0
              refine wpB_take (i := 4) (v := ?_) (get_of_drop rfl) (by kernel_rfl) (by kernel_rfl) (by kernel_rfl) (by kernel_rfl) (fun _ _ _ h => h) (Or.inl ⟨by rfl, ?_⟩) hHeld ?_
              rotate_left
              · (intro w hSw; (try dsimp only at hSw); go_simp <;> with_reducible rfl)
              try simp only [Act.put, List.setIfInBounds_toArray, List.set_cons_zero, List.set_cons_succ]
              -- 5: t40 := load 24 t39 : 24
              refine wpB_take (i := 5) (v := ?_) (get_of_drop rfl) (by kernel_rfl) (by kernel_rfl) (by kernel_rfl) (by kernel_rfl) (fun _ _ _ h => h) (Or.inl ⟨by rfl, ?_⟩) hHeld ?_
              rotate_left
              · (intro w hSw; (try dsimp only at hSw); go_simp <;> with_reducible rfl)
              try simp only [Act.put, List.setIfInBounds_toArray, List.set_cons_zero, List.set_cons_succ]
              -- 6: t41 := move t9 : 3
              refine wpB_take (i := 6) (v := ?_) (get_of_drop rfl) (by kernel_rfl) (by kernel_rfl) (by kernel_rfl) (by kernel_rfl) (fun _ _ _ h => h) (Or.inl ⟨by rfl, ?_⟩) hHeld ?_
              rotate_left
              · (intro w hSw; (try dsimp only at hSw); go_simp <;> with_reducible rfl)
              try simp only [Act.put, List.setIfInBounds_toArray, List.set_cons_zero, List.set_cons_succ]
              -- 7: t42 := slice 24 t40 none some t41 none : 24
              refine wpB_take (i := 7) (v := ?_) (get_of_drop rfl) (by kernel_rfl) (by kernel_rfl) (by kernel_rfl) (by kernel_rfl) (fun _ _ _ h => h) (Or.inl ⟨by rfl, ?_⟩) hHeld ?_
              rotate_left
              · (intro w hSw; (try dsimp only at hSw); go_simp <;> with_reducible rfl)
              try simp only [Act.put, List.setIfInBounds_toArray, List.set_cons_zero, List.set_cons_succ]
              -- 8: t43 := CALL fn35(t38, t42) : 4 (BARRIER)
              refine wpB_bar (i := 8) (by kernel_rfl) (get_of_drop rfl) (by kernel_rfl) (fun K hK => ?_)
              go_simp
              refine (Same_any ((LA.out.chg hHeld (fun _ _ h => h)).to_ KA.out) ((LB.out.chg hHeld (fun _ _ h => h)).to_ KB.out)).mono ?_
              rintro e' wa ⟨rfl, hwa⟩
              rw [decide_eq_true KS.out]
              have HW1 := hid (show Chg (fun _ => False) W8 wa from hHeld.trans hwa (fun _ h _ => h))
              clear hwa
              refine hK.out _ _ (fun wx : World => Chg (fun _ => False) W8 wx) ?_
              clear hHeld hK K
              have hHeld : (fun wx : World => Chg (fun _ => False) W8 wx) _ := (by first | assumption | exact HW1.out | exact HW2.out | exact HW3.out)
              try simp only [Act.put, List.setIfInBounds_toArray, List.set_cons_zero, List.set_cons_succ]
              -- 9: t44 := unOp UnOp.not 4 t43 : 4
              refine wpB_take (i := 9) (v := ?_) (get_of_drop rfl) (by kernel_rfl) (by kernel_rfl) (by kernel_rfl) (by kernel_rfl) (fun _ _ _ h => h) (Or.inl ⟨by rfl, ?_⟩) hHeld ?_
              rotate_left
              · (intro w hSw; (try dsimp only at hSw); go_simp <;> with_reducible rfl)
              try simp only [Act.put, List.setIfInBounds_toArray, List.set_cons_zero, List.set_cons_succ]
              -- 10: t45 := move t44 : 4
              refine wpB_take (i := 10) (v := ?_) (get_of_drop rfl) (by kernel_rfl) (by kernel_rfl) (by kernel_rfl) (by kernel_rfl) (fun _ _ _ h => h) (Or.inl ⟨by rfl, ?_⟩) hHeld ?_
              rotate_left
              · (intro w hSw; (try dsimp only at hSw); go_simp <;> with_reducible rfl)
              try simp only [Act.put, List.setIfInBounds_toArray, List.set_cons_zero, List.set_cons_succ]
              -- 11: t46 := move t4 : 30   [if ⟨10, false⟩]
              refine wpB_take (i := 11) (v := ?_) (get_of_drop rfl) (by kernel_rfl) (by kernel_rfl) (by kernel_rfl) (by kernel_rfl) (fun _ _ _ h => h) (Or.inl ⟨by rfl, ?_⟩) hHeld ?_
              rotate_left
              · (intro w hSw; (try dsimp only at hSw); go_simp <;> with_reducible rfl)
              try simp only [Act.put, List.setIfInBounds_toArray, List.set_cons_zero, List.set_cons_succ]
              -- 12: t47 := CALL fn16(t46) : 3   [if ⟨10, false⟩] (BARRIER)
              refine wpB_bar (i := 12) (by kernel_rfl) (get_of_drop rfl) (by kernel_rfl) (fun K hK => ?_)
              go_simp
              refine (rq_role ((QRra.out.far C8.out).far hHeld)).mono ?_
              rintro e' wb ⟨rfl, hwb⟩
              rw [ROA.out]
              have HW2 := hid (show Chg (fun _ => False) W8 wb from hHeld.trans hwb (fun _ h _ => h))
              clear hwb
              refine hK.out _ _ (fun wx : World => Chg (fun _ => False) W8 wx) ?_
              clear hHeld hK K
              have hHeld : (fun wx : World => Chg (fun _ => False) W8 wx) _ := (by first | assumption | exact HW1.out | exact HW2.out | exact HW3.out)
              try simp only [Act.put, List.setIfInBounds_toArray, List.set_cons_zero, List.set_cons_succ]
              -- 13: t48 := binOp BinOp.eql 3 t47 #i64:1 3 : 4   [if ⟨10, false⟩]
              refine wpB_take (i := 13) (v := ?_) (get_of_drop rfl) (by kernel_rfl) (by kernel_rfl) (by kernel_rfl) (by kernel_rfl) (fun _ _ _ h => h) (Or.inl ⟨by rfl, ?_⟩) hHeld ?_
              rotate_left
              · (intro w hSw; (try dsimp only at hSw); go_simp <;> with_reducible rfl)
              try simp only [Act.put, List.setIfInBounds_toArray, List.set_cons_zero, List.set_cons_succ]
              -- 14: t49 := move t48 : 4   [if ⟨10, false⟩]
              refine wpB_take (i := 14) (v := ?_) (get_of_drop rfl) (by kernel_rfl) (by kernel_rfl) (by kernel_rfl) (by kernel_rfl) (fun _ _ _ h => h) (Or.inl ⟨by rfl, ?_⟩) hHeld ?_
              rotate_left
              · (intro w hSw; (try dsimp only at hSw); go_simp <;> with_reducible rfl)
              try simp only [Act.put, List.setIfInBounds_toArray, List.set_cons_zero, List.set_cons_succ]
              -- 15: t50 := move t6 : 30   [if ⟨14, true⟩]
              refine wpB_take (i := 15) (v := undef) (get_of_drop rfl) (by kernel_rfl) (by kernel_rfl) (by kernel_rfl) (by kernel_rfl) (fun _ _ _ h => h) (Or.inr ⟨by rfl, rfl⟩) hHeld ?_
              try simp only [Act.put, List.setIfInBounds_toArray, List.set_cons_zero, List.set_cons_succ]
              -- 16: t51 := CALL fn16(t50) : 3   [if ⟨14, true⟩]
              refine wpB_take (i := 16) (v := undef) (get_of_drop rfl) (by kernel_rfl) (by kernel_rfl) (by kernel_rfl) (by kernel_rfl) (fun _ _ _ h => h) (Or.inr ⟨by rfl, rfl⟩) hHeld ?_
              try simp only [Act.put, List.setIfInBounds_toArray, List.set_cons_zero, List.set_cons_succ]
              -- 17: t52 := binOp BinOp.eql 3 t51 #i64:1 3 : 4   [if ⟨14, true⟩]
              refine wpB_take (i := 17) (v := undef) (get_of_drop rfl) (by kernel_rfl) (by kernel_rfl) (by kernel_rfl) (by kernel_rfl) (fun _ _ _ h => h) (Or.inr ⟨by rfl, rfl⟩) hHeld ?_
              try simp only [Act.put, List.setIfInBounds_toArray, List.set_cons_zero, List.set_cons_succ]
              -- 18: t53 := pick t49 t52 #false : 4   [if ⟨10, false⟩]
              refine wpB_take (i := 18) (v := ?_) (get_of_drop rfl) (by kernel_rfl) (by kernel_rfl) (by kernel_rfl) (by kernel_rfl) (fun _ _ _ h => h) (Or.inl ⟨by rfl, ?_⟩) hHeld ?_
              rotate_left
              · (intro w hSw; (try dsimp only at hSw); go_simp <;> with_reducible rfl)
              try simp only [Act.put, List.setIfInBounds_toArray, List.set_cons_zero, List.set_cons_succ]
              -- 19: t54 := move t53 : 4   [if ⟨10, false⟩]
              refine wpB_take (i := 19) (v := ?_) (get_of_drop rfl) (by kernel_rfl) (by kernel_rfl) (by kernel_rfl) (by kernel_rfl) (fun _ _ _ h => h) (Or.inl ⟨by rfl, ?_⟩) hHeld ?_
              rotate_left
              · (intro w hSw; (try dsimp only at hSw); go_simp <;> with_reducible rfl)
              try simp only [Act.put, List.setIfInBounds_toArray, List.set_cons_zero, List.set_cons_succ]
              -- 20: t55 := fieldAddr 26 t7 0 : 0   [if ⟨19, true⟩]
              refine wpB_take (i := 20) (v := undef) (get_of_drop rfl) (by kernel_rfl) (by kernel_rfl) (by kernel_rfl) (by kernel_rfl) (fun _ _ _ h => h) (Or.inr ⟨by rfl, rfl⟩) hHeld ?_
              try simp only [Act.put, List.setIfInBounds_toArray, List.set_cons_zero, List.set_cons_succ]
              -- 21: t56 := load 3 t55 : 3   [if ⟨19, true⟩]
              refine wpB_take (i := 21) (v := undef) (get_of_drop rfl) (by kernel_rfl) (by kernel_rfl) (by kernel_rfl) (by kernel_rfl) (fun _ _ _ h => h) (Or.inr ⟨by rfl, rfl⟩) hHeld ?_
              try simp only [Act.put, List.setIfInBounds_toArray, List.set_cons_zero, List.set_cons_succ]
              -- 22: t57 := fieldAddr 26 t8 0 : 0   [if ⟨19, true⟩]
              refine wpB_take (i := 22) (v := undef) (get_of_drop rfl) (by kernel_rfl) (by kernel_rfl) (by kernel_rfl) (by kernel_rfl) (fun _ _ _ h => h) (Or.inr ⟨by rfl, rfl⟩) hHeld ?_
              try simp only [Act.put, List.setIfInBounds_toArray, List.set_cons_zero, List.set_cons_succ]
              -- 23: t58 := load 3 t57 : 3   [if ⟨19, true⟩]
              refine wpB_take (i := 23) (v := undef) (get_of_drop rfl) (by kernel_rfl) (by kernel_rfl) (by kernel_rfl) (by kernel_rfl) (fun _ _ _ h => h) (Or.inr ⟨by rfl, rfl⟩) hHeld ?_
              try simp only [Act.put, List.setIfInBounds_toArray, List.set_cons_zero, List.set_cons_succ]
              -- 24: t59 := binOp BinOp.eql 3 t56 t58 3 : 4   [if ⟨19, true⟩]
              refine wpB_take (i := 24) (v := undef) (get_of_drop rfl) (by kernel_rfl) (by kernel_rfl) (by kernel_rfl) (by kernel_rfl) (fun _ _ _ h => h) (Or.inr ⟨by rfl, rfl⟩) hHeld ?_
              try simp only [Act.put, List.setIfInBounds_toArray, List.set_cons_zero, List.set_cons_succ]
              -- 25: t60 := pick t54 t59 #false : 4   [if ⟨10, false⟩]
              refine wpB_take (i := 25) (v := ?_) (get_of_drop rfl) (by kernel_rfl) (by kernel_rfl) (by kernel_rfl) (by kernel_rfl) (fun _ _ _ h => h) (Or.inl ⟨by rfl, ?_⟩) hHeld ?_
              rotate_left
              · (intro w hSw; (try dsimp only at hSw); go_simp <;> with_reducible rfl)
              try simp only [Act.put, List.setIfInBounds_toArray, List.set_cons_zero, List.set_cons_succ]
              -- 26: t61 := pick t45 #true t60 : 4
              refine wpB_take (i := 26) (v := ?_) (get_of_drop rfl) (by kernel_rfl) (by kernel_rfl) (by kernel_rfl) (by kernel_rfl) (fun _ _ _ h => h) (Or.inl ⟨by rfl, ?_⟩) hHeld ?_
              rotate_left
              · (intro w hSw; (try dsimp only at hSw); go_simp <;> with_reducible rfl)
              try simp only [Act.put, List.setIfInBounds_toArray, List.set_cons_zero, List.set_cons_succ]
              refine wpB_done (by kernel_rfl) ?_ _
              go_wp2_with fail
              go_meet
              exact ⟨rfl, HW2.out⟩
          case rest =>
            obtain ⟨rfl, hC⟩ := hcut
            have HCC := hid hC
            clear hC
            have n7 := hid (HCC.out.blk B7.out (fun h => h))
            have n8 := hid (HCC.out.blk B8.out (fun h => h))
            have p0 : wc.cell? ⟨b7, 0, none⟩ = some (.int .i64 ra.s.view) := (cellAt n7.out 0).trans rfl
            have p1 : wc.cell? ⟨b7, 1, none⟩ = some (.int .i64 ra.s.normal) := (cellAt n7.out 1).trans rfl
            have q0 : wc.cell? ⟨b8, 0, none⟩ = some (.int .i64 rb.s.view) := (cellAt n8.out 0).trans rfl
            have q1 : wc.cell? ⟨b8, 1, none⟩ = some (.int .i64 rb.s.normal) := (cellAt n8.out 1).trans rfl
            go_upto_region 11 with fail
            go_cut [90] (fun v wx => ∃ b : Bool, v = .bool b ∧ (b = true → ra.s.normal = rb.s.normal) ∧ Chg (fun _ => False) W8 wx)
            case first =>
              by_cases e1 : ra.s.normal = rb.s.normal
              · have e1b : (ra.s.normal == rb.s.normal) = true := by simp [e1]
                have HE1 := hid e1
                clear e1
                by_cases e2 : ra.s.normal = ra.s.view
                · have e2b : (ra.s.normal == ra.s.view) = true := by simp [e2]
                  clear e2
                  by_cases e3 : rb.s.normal = rb.s.view
                  · have e3b : (rb.s.normal == rb.s.view) = true := by simp [e3]
                    clear e3
                    go_wp2_with fail
                    refine (rq_role ((QRra.out.far C8.out).far HCC.out)).mono ?_
                    rintro e' wd ⟨rfl, hwd⟩
                    rw [ROA.out]
                    have HWD := hid (show Chg (fun _ => False) W8 wd from HCC.out.trans hwd (fun _ h _ => h))
                    clear hwd
                    by_cases e4 : oa = 2
                    · have e4b : (oa != 2) = false := by simp [e4]
                      clear e4
                      go_wp2_with fail
                      go_meet
                      exact ⟨false, rfl, fun h => Bool.noConfusion h, HWD.out⟩
                    · have e4b : (oa != 2) = true := by simp [e4]
                      clear e4
                      go_wp2_with fail
                      refine (rq_role ((QRrb.out.far C8.out).far HWD.out)).mono ?_
                      rintro e' we ⟨rfl, hwe⟩
                      rw [ROB.out]
                      have HWE := hid (show Chg (fun _ => False) W8 we from HWD.out.trans hwe (fun _ h _ => h))
                      clear hwe
                      by_cases e5 : ob = 2
                      · have e5b : (ob != 2) = false := by simp [e5]
                        clear e5
                        go_wp2_with fail
                        go_meet
                        exact ⟨false, rfl, fun h => Bool.noConfusion h, HWE.out⟩
                      · have e5b : (ob != 2) = true := by simp [e5]
                        clear e5
                        go_wp2_with fail
                        go_meet
                        exact ⟨true, rfl, fun _ => HE1.out, HWE.out⟩
                  · have e3b : (rb.s.normal == rb.s.view) = false := by simp [e3]
                    clear e3
                    go_wp2_with fail
                    go_meet
                    exact ⟨false, rfl, fun h => Bool.noConfusion h, HCC.out⟩
                · have e2b : (ra.s.normal == ra.s.view) = false := by simp [e2]
                  clear e2
                  go_wp2_with fail
                  go_meet
                  exact ⟨false, rfl, fun h => Bool.noConfusion h, HCC.out⟩
              · have e1b : (ra.s.normal == rb.s.normal) = false := by simp [e1]
                clear e1
                go_wp2_with fail
                go_meet
                exact ⟨false, rfl, fun h => Bool.noConfusion h, HCC.out⟩
            case rest =>
              obtain ⟨b, rfl, hb, hC⟩ := hcut
              clear p0 p1 q0 q1
              have HB := hid hb
              have HC2 := hid hC
              clear hC hb
              have n7 := hid (HC2.out.blk B7.out (fun h => h))
              have n8 := hid (HC2.out.blk B8.out (fun h => h))
              cases hbb : b with
              | false =>
                go_wp2_with fail
                go_roundw
                case measure => simp [intOf]; omega
                case rel => first | exact ⟨j + 1, HLTJ.out, by go_num, C8.out.trans HC2.out (fun _ h _ => h)⟩ | ((repeat apply Exists.intro); exact ⟨⟨j + 1, HLTJ.out, by go_num, C8.out.trans HC2.out (fun _ h _ => h)⟩, rfl⟩)
              | true =>
                have HNO := hid (HB.out hbb)
                have p4 : wc.cell? ⟨b7, 4, none⟩ = some (.slice Ara lra dra) := (cellAt n7.out 4).trans rfl
                have q4 : wc.cell? ⟨b8, 4, none⟩ = some (.slice Arb lrb drb) := (cellAt n8.out 4).trans rfl
                go_upto_region 13 with fail
                obtain ⟨kl, hkl, hk3, hk4⟩ : ∃ kl : Nat, mn (lra : Int) (lrb : Int) = (kl : Int) ∧ kl ≤ lra ∧ kl ≤ lrb := by
                  unfold mn
                  split
                  · exact ⟨lrb, rfl, by omega, by omega⟩
                  · exact ⟨lra, rfl, by omega, by omega⟩
                rw [hkl]
                have KA2 := hid hk3
                have KB2 := hid hk4
                have KS2 := hid (show ra.s.log.take kl = rb.s.log.take kl from AL.out.view HNO.out kl (by rw [← HLra.out]; omega) (by rw [← HLrb.out]; omega))
                have LA2 := hid (LA.out.chg HC2.out (fun _ _ h => h))
                have LB2 := hid (LB.out.chg HC2.out (fun _ _ h => h))
                clear hkl hk3 hk4 p4 q4
                have hcutA := fun W => cut_to (P := Try.prog) 24 56 .i64 Try.underlying24 (info_parts infoEntryP).choose_spec.1 Ara lra dra kl (by have h1 := KA2.out; have h2 := HDA.out; omega) W
                have hcutB := fun W => cut_to (P := Try.prog) 24 56 .i64 Try.underlying24 (info_parts infoEntryP).choose_spec.1 Arb lrb drb kl (by have h1 := KB2.out; have h2 := HDB.out; omega) W
                have X_4 : ∀ wx, Chg (fun _ => False) wc wx → wx.cell? ⟨b7, 4, none⟩ = some (.slice Ara lra dra) := fun wx hx => (cellAt (hx.blk n7.out (fun h => h)) 4).trans rfl
                have Y_4 : ∀ wx, Chg (fun _ => False) wc wx → wx.cell? ⟨b8, 4, none⟩ = some (.slice Arb lrb drb) := fun wx hx => (cellAt (hx.blk n8.out (fun h => h)) 4).trans rfl
                refine wpB_start (fun wx : World => Chg (fun _ => False) wc wx) (by kernel_rfl) ?_
                have hHeld : (fun wx : World => Chg (fun _ => False) wc wx) _ := (Chg.refl (fun _ => False) wc).drew
                -- 0: t98 := fieldAddr 26 t7 4 : 0
                refine wpB_take (i := 0) (v := ?_) (get_of_drop rfl) (by kernel_rfl) (by kernel_rfl) (by kernel_rfl) (by kernel_rfl) (fun _ _ _ h => h) (Or.inl ⟨by rfl, ?_⟩) hHeld ?_
                rotate_left
                · (intro w hSw; (try dsimp only at hSw); go_simp <;> with_reducible rfl)
                try simp only [Act.put, List.setIfInBounds_toArray, List.set_cons_zero, List.set_cons_succ]
                -- 1: t99 := load 24 t98 : 24
                refine wpB_take (i := 1) (v := ?_) (get_of_drop rfl) (by kernel_rfl) (by kernel_rfl) (by kernel_rfl) (by kernel_rfl) (fun _ _ _ h => h) (Or.inl ⟨by rfl, ?_⟩) hHeld ?_
                rotate_left
                · (intro w hSw; (try dsimp only at hSw); go_simp <;> with_reducible rfl)
                try simp only [Act.put, List.setIfInBounds_toArray, List.set_cons_zero, List.set_cons_succ]
                -- 2: t100 := move t10 : 3
                refine wpB_take (i := 2) (v := ?_) (get_of_drop rfl) (by kernel_rfl) (by kernel_rfl) (by kernel_rfl) (by kernel_rfl) (fun _ _ _ h => h) (Or.inl ⟨by rfl, ?_⟩) hHeld ?_
                rotate_left
                · (intro w hSw; (try dsimp only at hSw); go_simp <;> with_reducible rfl)
                try simp only [Act.put, List.setIfInBounds_toArray, List.set_cons_zero, List.set_cons_succ]
                -- 3: t101 := slice 24 t99 none some t100 none : 24
                refine wpB_take (i := 3) (v := ?_) (get_of_drop rfl) (by kernel_rfl) (by kernel_rfl) (by kernel_rfl) (by kernel_rfl) (fun _ _ _ h => h) (Or.inl ⟨by rfl, ?_⟩) hHeld ?_
                rotate_left
                · (intro w hSw; (try dsimp only at hSw); go_simp <;> with_reducible rfl)
                try simp only [Act.put, List.setIfInBounds_toArray, List.set_cons_zero, List.set_cons_succ]
                -- 4: t102 := fieldAddr 26 t8 4 : 0
                refine wpB_take (i := 4) (v := ?_) (get_of_drop rfl) (by kernel_rfl) (by kernel_rfl) (by kernel_rfl) (by kernel_rfl) (fun _ _ _ h => h) (Or.inl ⟨by rfl, ?_⟩) hHeld ?_
                rotate_left
                · (intro w hSw; (try dsimp only at hSw); go_simp <;> with_reducible rfl)
                try simp only [Act.put, List.setIfInBounds_toArray, List.set_cons_zero, List.set_cons_succ]
                -- 5: t103 := load 24 t102 : 24
                refine wpB_take (i := 5) (v := ?_) (get_of_drop rfl) (by kernel_rfl) (by kernel_rfl) (by kernel_rfl) (by kernel_rfl) (fun _ _ _ h => h) (Or.inl ⟨by rfl, ?_⟩) hHeld ?_
                rotate_left
                · (intro w hSw; (try dsimp only at hSw); go_simp <;> with_reducible rfl)
                try simp only [Act.put, List.setIfInBounds_toArray, List.set_cons_zero, List.set_cons_succ]
                -- 6: t104 := move t10 : 3
                refine wpB_take (i := 6) (v := ?_) (get_of_drop rfl) (by kernel_rfl) (by kernel_rfl) (by kernel_rfl) (by kernel_rfl) (fun _ _ _ h => h) (Or.inl ⟨by rfl, ?_⟩) hHeld ?_
                rotate_left
                · (intro w hSw; (try dsimp only at hSw); go_simp <;> with_reducible rfl)
                try simp only [Act.put, List.setIfInBounds_toArray, List.set_cons_zero, List.set_cons_succ]
                -- 7: t105 := slice 24 t103 none some t104 none : 24
                refine wpB_take (i := 7) (v := ?_) (get_of_drop rfl) (by kernel_rfl) (by kernel_rfl) (by kernel_rfl) (by kernel_rfl) (fun _ _ _ h => h) (Or.inl ⟨by rfl, ?_⟩) hHeld ?_
                rotate_left
                · (intro w hSw; (try dsimp only at hSw); go_simp <;> with_reducible rfl)
                try simp only [Act.put, List.setIfInBounds_toArray, List.set_cons_zero, List.set_cons_succ]
                -- 8: t106 := CALL fn35(t101, t105) : 4 (BARRIER)
                refine wpB_bar (i := 8) (by kernel_rfl) (get_of_drop rfl) (by kernel_rfl) (fun K hK => ?_)
                go_simp
                refine (Same_any ((LA2.out.chg hHeld (fun _ _ h => h)).to_ KA2.out) ((LB2.out.chg hHeld (fun _ _ h => h)).to_ KB2.out)).mono ?_
                rintro e' wd ⟨rfl, hwd⟩
                rw [decide_eq_true KS2.out]
                have HW4 := hid (show Chg (fun _ => False) wc wd from hHeld.trans hwd (fun _ h _ => h))
                clear hwd
                refine hK.out _ _ (fun wx : World => Chg (fun _ => False) wc wx) ?_
                clear hHeld hK K
                have hHeld : (fun wx : World => Chg (fun _ => False) wc wx) _ := (by first | assumption | exact HW4.out)
                try simp only [Act.put, List.setIfInBounds_toArray, List.set_cons_zero, List.set_cons_succ]
                -- 9: t107 := unOp UnOp.not 4 t106 : 4
                refine wpB_take (i := 9) (v := ?_) (get_of_drop rfl) (by kernel_rfl) (by kernel_rfl) (by kernel_rfl) (by kernel_rfl) (fun _ _ _ h => h) (Or.inl ⟨by rfl, ?_⟩) hHeld ?_
                rotate_left
                · (intro w hSw; (try dsimp only at hSw); go_simp <;> with_reducible rfl)
                try simp only [Act.put, List.setIfInBounds_toArray, List.set_cons_zero, List.set_cons_succ]
                refine wpB_done (by kernel_rfl) ?_ _
                clear hHeld hcutA hcutB X_4 Y_4
                go_wp2_with fail
                go_roundw
                case measure => simp [intOf]; omega
                case rel => first | exact ⟨j + 1, HLTJ.out, by go_num, (C8.out.trans HC2.out (fun _ h _ => h)).trans HW4.out (fun _ h _ => h)⟩ | ((repeat apply Exists.intro); exact ⟨⟨j + 1, HLTJ.out, by go_num, (C8.out.trans HC2.out (fun _ h _ => h)).trans HW4.out (fun _ h _ => h)⟩, rfl⟩)
        · have hltj2 : ¬ (j : Int) < (k : Int) := by omega
          go_wp2_with fail
          go_roundw
          case measure => simp [intOf]; omega
          case rel => first | exact ⟨k + 1, HLT0.out, by go_num, CJ.out⟩ | ((repeat apply Exists.intro); exact ⟨⟨k + 1, HLT0.out, by go_num, CJ.out⟩, rfl⟩)
    · have hlt2 : ¬ (k : Int) < (N : Int) := by omega
      go_wp2_with fail
      go_ret
      exact ⟨rfl, C.out⟩
end Go.Proofs.Ytaldoajdhbndhaa.Pa
