/- Texts of this claim, one behind the other: RepAh, RepAi, RepAj, RepKe, RepAk, RepAl, RepLa, RepLb, RepLc, RepTe, RepTd, RepCa, RepCb, RepCc. -/
import Derived.Test.YtaldoajdhbndhaaMF

/- What a replica does keeps what is so of all of them. -/

namespace Go.Proofs.Ytaldoajdhbndhaa.Pa

set_option linter.unusedVariables false

set_option linter.unusedSimpArgs false
theorem Safe.less {N : Nat} {g : Gh} {u : Int} {k j : Nat} (h : Safe N g u k) (hj : j ≤ k) : Safe N g u j := by
  obtain ⟨v, h1, h2, ⟨Q, hQ, hq⟩, h4, h5⟩ := h
  exact ⟨v, h1, h2, ⟨Q, hQ, fun i hi => Nat.le_trans hj (hq i hi)⟩, by omega, (take_pre_take hj).trans h5⟩
theorem had_zero {c : Int} {e : Entry} : ∀ {l : List Entry} {i o : Int}, hadTo c e l i o = 0 → o = 0 ∧ ∀ x ∈ l, x.client = e.client → x.request < e.request
  | [], i, o, h => ⟨h, fun x hx => by cases hx⟩
  | x :: l, i, o, h => by
    rw [hadTo] at h
    split at h
    · rename_i hx
      obtain ⟨h1, h2⟩ := had_zero h
      refine ⟨h1, fun y hy => ?_⟩
      rcases List.mem_cons.1 hy with e | e
      · rw [e]; intro hc; rcases hx with hx | hx; exact absurd hc hx; exact hx
      · exact h2 y e
    · split at h
      · cases h
      · obtain ⟨h1, _⟩ := had_zero h
        cases h1
theorem Step.submit {N : Nat} {i : Int} {g : Gh} {r : Rp} (e : Entry) : Step N i g r (submitR r e).1 := by
  unfold submitR
  split
  · exact Step.refl _ _ _ _
  split
  · exact Step.refl _ _ _ _
  split
  · exact Step.refl _ _ _ _
  split
  · exact Step.refl _ _ _ _
  rename_i hr her hhd hfl
  intro hg h
  obtain ⟨hc, hp⟩ := role_one (show roleR r = 1 by omega)
  have hnv := h.norm hc
  have hs := h.ok.stn
  have hcf := h.ok.cfg
  have hn := h.n
  have hpi : r.s.normal % (N : Int) = i := by rw [hnv, ← mod_prim h, hp, h.id]
  have hlg := (h.prim _ h.d hpi).2 rfl
  have hh : hadTo r.s.commit e r.s.log 0 0 = 0 := by
    have : ¬ hadR r e ≠ 0 := hhd
    unfold hadR at this
    omega
  obtain ⟨e', he'⟩ : ∃ q, q = { e with view := r.s.view } := ⟨_, rfl⟩
  rw [← he']
  have her' : entryR e' = true := by rw [he']; exact entryR_view (by simpa using her) hs.1
  have hl1 : g.G r.s.normal <+: r.s.log ++ [e'] := by rw [← hlg]; exact List.prefix_append _ _
  have hin : Inc (r.s.log ++ [e']) := by
    refine Inc.snoc (by rw [hlg]; exact hg.inc _ h.d) (fun x hx hxc => ?_)
    rw [he'] at hxc ⊢
    exact (had_zero hh).2 x hx hxc
  have x1 : Ext N i g (g.setG r.s.normal (r.s.log ++ [e'])) := setG_ext hpi hl1
  have g1 := setG_inv hg h.d hl1 hin
  have hvw : (g.setG r.s.normal (r.s.log ++ [e'])).vw i ≤ r.s.normal := by show g.vw i ≤ _; rw [h.vw, hnv]; exact Int.le_refl _
  have hG : (g.setG r.s.normal (r.s.log ++ [e'])).G r.s.normal = r.s.log ++ [e'] := by rw [setG_at, if_pos rfl]
  have x2 : Ext N i _ ((g.setG r.s.normal (r.s.log ++ [e'])).setAc i r.s.normal (r.s.log ++ [e']).length) := setAc_ext hvw (by show g.Ac i _ ≤ _; rw [h.acn]; simp)
  have g2 := setAc_inv (n := (r.s.log ++ [e']).length) g1 hvw h.d (by rw [hG]; exact Nat.le_refl _)
  have x := x1.trans x2
  obtain ⟨g', hgd⟩ : ∃ q, q = (g.setG r.s.normal (r.s.log ++ [e'])).setAc i r.s.normal (r.s.log ++ [e']).length := ⟨_, rfl⟩
  have hG' : g'.G r.s.normal = r.s.log ++ [e'] := by rw [hgd]; exact hG
  have hA' : ∀ w, g'.Ac i w = if w = r.s.normal then (r.s.log ++ [e']).length else g.Ac i w := fun w => by
    rw [hgd, setAc_at]
    by_cases hw : w = r.s.normal
    · rw [if_pos ⟨rfl, hw⟩, if_pos hw]
    · rw [if_neg (fun q => hw q.2), if_neg hw]; rfl
  have hD' : ∀ w, g'.D w ↔ g.D w := fun w => by rw [hgd]; exact Iff.rfl
  have hV' : g'.vw i = g.vw i := by rw [hgd]; rfl
  rw [← hgd] at x g2
  have hop : RpOk (putR r [e']) := h.ok.put (by have : ¬ (r.s.log.length : Int) = 64 := hfl; simp; omega) (fun y hy => by rw [List.mem_singleton.1 hy]; exact her')
  have hR : RInv N g' i (putR r [e']) := ⟨hop, h.n, h.id, by rw [hV']; exact h.vw, (hD' _).2 h.d, by show g'.L r.s.normal <+: r.s.log ++ [e']; rw [x.L _ h.d]; exact h.lo.trans (List.prefix_append _ _), by show r.s.log ++ [e'] <+: g'.G r.s.normal; rw [hG']; exact List.prefix_refl _, by show g'.Ac i r.s.normal = (r.s.log ++ [e']).length; rw [hA', if_pos rfl], fun w hw => by
      have hw : r.s.normal < w := hw
      rw [hA', if_neg (by omega)]; exact h.acz w hw, h.safe.ext x h.d, fun w hw hwp => ⟨(h.prim w ((hD' w).1 hw) hwp).1, fun q => by
      have q : w = r.s.normal := q
      rw [q, hG']; rfl⟩, fun p hp => ⟨(h.acks p hp).1, by have h1 := (h.acks p hp).2; have h2 := x.acm p.1 r.s.view; show p.2 ≤ (g'.Ac p.1 r.s.view : Int); omega⟩, fun p hp => by obtain ⟨q1, q2, q3⟩ := h.chgs p hp; exact ⟨q1, q2.ext x, q3⟩, fun m hm => (h.out m hm).ext x⟩
  refine ⟨g', g2, x, hR.say _ (fun j j1 j2 j3 => ⟨msgR_mk (show (1 : Int) ≤ 1 ∧ (1 : Int) ≤ 8 by decide) hs.1 (show (0 : Int) ≤ 0 ∧ (0 : Int) ≤ 1099511627776 by decide) (by show 0 ≤ r.id ∧ r.id ≤ 6; omega) (by show 0 ≤ j ∧ j ≤ 6; omega) (by have : ¬ (r.s.log.length : Int) = 64 := hfl; show 0 ≤ (r.s.log.length : Int) + 1 ∧ (r.s.log.length : Int) + 1 ≤ 64; omega) (by show 0 ≤ r.s.commit ∧ r.s.commit ≤ 64; omega) (by simp) (fun y hy => by rw [List.mem_singleton.1 hy]; exact her'), by show r.id < _; omega, j2, fun q => j3 q.symm, by show r.s.view ≤ g'.vw r.id; rw [h.id, hV', h.vw]; exact Int.le_refl _, fun _ => ?_, fun q => (by cases q), fun q => (by cases q), fun q => (by cases q), fun q => (by rcases q with q | q <;> cases q)⟩)⟩
  refine ⟨by show g'.D r.s.view; rw [← hnv]; exact (hD' _).2 h.d, ⟨e', rfl, by show 1 ≤ (r.s.log.length : Int) + 1; omega, ?_⟩, by show Safe N g' r.s.view r.s.commit.toNat; rw [← hnv]; exact h.safe.ext x h.d⟩
  show (g'.G r.s.view)[((r.s.log.length : Int) + 1).toNat - 1]? = some e'
  rw [← hnv, hG', show ((r.s.log.length : Int) + 1).toNat - 1 = r.s.log.length by omega, List.getElem?_append_right (Nat.le_refl _), Nat.sub_self]
  rfl
theorem max_toNat {a b : Int} (ha : 0 ≤ a) (hb : 0 ≤ b) : (max a b).toNat = max a.toNat b.toNat := by omega
theorem Safe.max_ {N : Nat} {g : Gh} {u : Int} {a b : Nat} (ha : Safe N g u a) (hb : Safe N g u b) : Safe N g u (max a b) := by
  rcases Nat.le_total a b with h | h
  · rw [Nat.max_eq_right h]; exact hb
  · rw [Nat.max_eq_left h]; exact ha
theorem Step.take {N : Nat} {i : Int} {g : Gh} {r : Rp} {m : Msg} (hm : MInv N g m) (hk : m.kind = 6 ∨ m.kind = 8) (hv : r.s.view ≤ m.view) (hne : m.view % (N : Int) ≠ i) (hnew : r.s.view < m.view ∨ r.ch = true ∨ extendsR r m.log = true) : Step N i g r (takeR r m) := by
  unfold takeR
  split
  case isFalse => exact Step.refl _ _ _ _
  rename_i hf
  intro hg h
  have hs := h.ok.stn
  have hcf := h.ok.cfg
  have hn := h.n
  obtain ⟨k1, k2, k3, k4, k5⟩ := hm.k6 hk
  have hmn := msgR_num hm.right
  have hml := msgR_log hm.right
  have hft := fitsR_iff.1 hf
  have hA : g.Ac i m.view ≤ m.log.length := by
    by_cases hlt : r.s.normal < m.view
    · rw [h.acz _ hlt]; exact Nat.zero_le _
    · have e1 : r.s.normal = m.view := by omega
      have e2 : r.s.view = m.view := by omega
      rcases hnew with q | q | q
      · omega
      · have := h.chlt q; omega
      · unfold extendsR at q
        rw [Bool.and_eq_true, decide_eq_true_eq] at q
        rw [← e1, h.acn]
        exact Nat.le_of_lt q.1
  have hv1 : g.vw i ≤ m.view := by rw [h.vw]; exact hv
  have x1 : Ext N i g (g.setVw i m.view) := setVw_ext hv1
  have g1 := setVw_inv hg hv1
  have hv2 : (g.setVw i m.view).vw i ≤ m.view := by rw [setVw_vw, if_pos rfl]; exact Int.le_refl _
  have x2 : Ext N i _ ((g.setVw i m.view).setAc i m.view m.log.length) := setAc_ext hv2 hA
  have g2 := setAc_inv (n := m.log.length) g1 hv2 k1 (k3.length_le)
  have x := x1.trans x2
  obtain ⟨g', hgd⟩ : ∃ q, q = (g.setVw i m.view).setAc i m.view m.log.length := ⟨_, rfl⟩
  rw [← hgd] at x g2
  have hA' : ∀ w, g'.Ac i w = if w = m.view then m.log.length else g.Ac i w := fun w => by
    rw [hgd, setAc_at]
    by_cases hw : w = m.view
    · rw [if_pos ⟨rfl, hw⟩, if_pos hw]
    · rw [if_neg (fun q => hw q.2), if_neg hw]; rfl
  have hV' : g'.vw i = m.view := by rw [hgd]; show (g.setVw i m.view).vw i = _; rw [setVw_vw, if_pos rfl]
  have hD' : ∀ w, g'.D w ↔ g.D w := fun w => by rw [hgd]; exact Iff.rfl
  have hsf : Safe N g' m.view (max r.s.commit (min m.commit (m.log.length : Int))).toNat := by
    rw [max_toNat (by omega) (by omega)]
    refine Safe.max_ ((h.safe.ext x h.d).up g2 ((hD' _).2 k1) (by omega)) ?_
    rw [Int.min_eq_left k5]
    exact k4.ext x k1
  have hR : RInv N g' i (tookR r m) := ⟨h.ok.took hm.right hf, h.n, h.id, hV', (hD' _).2 k1, by show g'.L m.view <+: m.log; rw [x.L _ k1]; exact k2, k3.trans (x.G _ k1), by show g'.Ac i m.view = m.log.length; rw [hA', if_pos rfl], fun w hw => by
      have hw : m.view < w := hw
      rw [hA', if_neg (by omega)]; exact h.acz w (by omega), hsf, fun w hw hwp => by
      have h1 := (h.prim w ((hD' w).1 hw) hwp).1
      exact ⟨by show w ≤ m.view; omega, fun q => absurd hwp (by rw [show w = m.view from q]; exact hne)⟩, fun p hp => (by cases hp), fun p hp => (by cases hp), fun q hq => (h.out q hq).ext x⟩
  have hpl := prim_lt h.ok m.view
  have hpn : primR r m.view < (N : Int) := by rw [mod_prim h]; exact Int.emod_lt_of_pos _ (by omega)
  exact ⟨g', g2, x, hR.send _ _ (minv_small hR ⟨hpl.1, hpn, by rw [mod_prim h]; show _ ≠ r.id; rw [h.id]; exact hne⟩ (.inl rfl) (by omega) (fun _ => by show (m.log.length : Int) ≤ (g'.Ac i m.view : Int); rw [hA', if_pos rfl]; exact Int.le_refl _))⟩
theorem ackTo_spec (r : Rp) (l : List (Int × Int)) : ∀ n : Nat, ackTo r l n = r.s.commit ∨ ∃ k : Nat, k ≤ n ∧ ackTo r l n = (k : Int) ∧ halfR r ≤ ackN l (k : Int)
  | 0 => .inl rfl
  | n + 1 => by
    rw [ackTo]
    split
    · split
      · exact .inr ⟨n + 1, Nat.le_refl _, rfl, by assumption⟩
      · rcases ackTo_spec r l n with h | ⟨k, h1, h2⟩
        · exact .inl h
        · exact .inr ⟨k, by omega, h2⟩
    · exact .inl rfl
theorem Step.ack {N : Nat} {i : Int} {g : Gh} {r : Rp} {m : Msg} (hm : MInv N g m) (hk : m.kind = 2) (hsrc : m.src ≠ i) : Step N i g r (ackR r m) := by
  intro hg h
  have hmn := msgR_num hm.right
  have hokA := h.ok.ack hm.right ⟨hmn.2.2.2.1.1, by rw [h.n]; exact hm.src⟩
  unfold ackR at hokA ⊢
  split
  · exact ⟨g, hg, Ext.refl _ _ _, h⟩
  rename_i hc
  rw [if_neg hc] at hokA
  have hv : m.view = r.s.view := Classical.byContradiction fun q => hc (.inl q)
  have hro : roleR r = 1 := Classical.byContradiction fun q => hc (.inr q)
  obtain ⟨hch, hp⟩ := role_one hro
  have hnv := h.norm hch
  have hs := h.ok.stn
  have hcf := h.ok.cfg
  have hn := h.n
  have hak : ∀ p ∈ acksR r m, p.1 ≠ i ∧ p.2 ≤ (g.Ac p.1 r.s.view : Int) := fun p hp => by
    rcases mem_ups hp with e | e
    · rw [e]
      refine ⟨hsrc, ?_⟩
      have h1 := hm.k2 hk
      rw [hv] at h1
      have h2 : (look m.src r.acks).getD 0 ≤ (g.Ac m.src r.s.view : Int) := by
        cases hl : look m.src r.acks with
        | none => show (0 : Int) ≤ _; omega
        | some v => exact (h.acks _ (look_mem hl)).2
      show max _ (min _ _) ≤ (g.Ac m.src r.s.view : Int)
      omega
    · exact h.acks p e
  refine ⟨g, hg, Ext.refl _ _ _, hokA, h.n, h.id, h.vw, h.d, h.lo, h.hi, h.acn, h.acz, ?_, h.prim, hak, h.chgs, h.out⟩
  show Safe N g r.s.normal (ackTo r (acksR r m) r.s.log.length).toNat
  rcases ackTo_spec r (acksR r m) r.s.log.length with e | ⟨k, k1, k2, k3⟩
  · rw [e]; exact h.safe
  · rw [k2, Int.toNat_natCast]
    refine ⟨r.s.normal, Int.le_refl _, h.d, ⟨i :: ((acksR r m).filter (fun p => decide ((k : Int) ≤ p.2))).map (·.1), ⟨?_, fun j hj => ?_, ?_⟩, fun j hj => ?_⟩, Nat.le_trans k1 h.hi.length_le, List.take_prefix _ _⟩
    · rw [List.nodup_cons]
      refine ⟨fun hi => ?_, (hokA.nod.1).sublist (List.filter_sublist.map _)⟩
      obtain ⟨p, hp, e⟩ := List.mem_map.1 hi
      exact (hak p (List.mem_filter.1 hp).1).1 e
    · rcases List.mem_cons.1 hj with e | e
      · rw [e, ← h.id, ← hn]; exact ⟨hcf.2.1, hcf.2.2.1⟩
      · obtain ⟨p, hp, e⟩ := List.mem_map.1 e
        have := hokA.acks p (List.mem_filter.1 hp).1
        rw [← e, ← hn]
        exact ⟨this.1, this.2.1⟩
    · unfold ackN at k3
      unfold halfR at k3
      rw [hn] at k3
      rw [List.length_cons, List.length_map]
      omega
    · rcases List.mem_cons.1 hj with e | e
      · rw [e, h.acn]; exact k1
      · obtain ⟨p, hp, e⟩ := List.mem_map.1 e
        have h1 := (hak p (List.mem_filter.1 hp).1).2
        have h2 := (List.mem_filter.1 hp).2
        rw [decide_eq_true_eq] at h2
        rw [← e, hnv]
        omega
/-- A message that tells all of a view that has begun. -/
theorem minv_told {N : Nat} {g : Gh} {i : Int} {r : Rp} (h : RInv N g i r) (hch : r.ch = false) {kind : Int} (hk : kind = 6 ∨ kind = 8) {j : Int} (hj : 0 ≤ j ∧ j < (N : Int) ∧ j ≠ r.id) : MInv N g { toldR r kind with view := r.s.view, src := r.id, dst := j } := by
  have hc := h.ok.cfg
  have hn := h.n
  have hs := h.ok.stn
  have hnv := h.norm hch
  refine ⟨msgR_mk ?_ hs.1 (show (0 : Int) ≤ 0 ∧ (0 : Int) ≤ 1099511627776 by decide) (by show 0 ≤ r.id ∧ r.id ≤ 6; omega) (by show 0 ≤ j ∧ j ≤ 6; omega) (by show 0 ≤ (r.s.log.length : Int) ∧ (r.s.log.length : Int) ≤ 64; omega) (by show 0 ≤ r.s.commit ∧ r.s.commit ≤ 64; omega) ?_ hs.2.2.2.2.2, by show r.id < _; omega, by show j < _; omega, fun e => hj.2.2 e.symm, ?_, fun e => ?_, fun e => ?_, fun e => ?_, fun e => ?_, fun e => ?_⟩
  · show 1 ≤ kind ∧ kind ≤ 8; omega
  · show if kind = 1 then _ else if kind = 5 ∨ kind = 6 ∨ kind = 8 then _ else _
    rw [if_neg (by omega), if_pos (by omega)]; exact hs.2.2.1
  · show r.s.view ≤ g.vw r.id
    rw [h.id, h.vw]; exact Int.le_refl _
  · have : kind = 1 := e; omega
  · have : kind = 2 := e; omega
  · have : kind = 3 := e; omega
  · have : kind = 5 := e; omega
  · show g.D r.s.view ∧ g.L r.s.view <+: r.s.log ∧ r.s.log <+: g.G r.s.view ∧ Safe N g r.s.view r.s.commit.toNat ∧ r.s.commit ≤ (r.s.log.length : Int)
    rw [← hnv]
    exact ⟨h.d, h.lo, h.hi, h.safe, hs.2.2.2.1.2⟩
theorem Step.told {N : Nat} {i : Int} {g : Gh} {r : Rp} (hch : r.ch = false) {kind : Int} (hk : kind = 6 ∨ kind = 8) {j : Int} (hj : 0 ≤ j ∧ j < (N : Int) ∧ j ≠ i) : Step N i g r (sendR r j (toldR r kind)) := fun hg h =>
  ⟨g, hg, Ext.refl _ _ _, h.send _ _ (minv_told h hch hk ⟨hj.1, hj.2.1, by rw [h.id]; exact hj.2.2⟩)⟩
theorem pre_snoc {l l' : List Entry} {e : Entry} (h : l <+: l') (he : l'[l.length]? = some e) : l ++ [e] <+: l' := by
  obtain ⟨t, rfl⟩ := h
  rw [List.getElem?_append_right (Nat.le_refl _), Nat.sub_self] at he
  cases t with
  | nil => simp at he
  | cons x t =>
    simp at he
    subst he
    exact ⟨t, by simp⟩
theorem Step.follow1 {N : Nat} {i : Int} {g : Gh} {r : Rp} {m : Msg} (hm : msgR m = true) : Step N i g r (follow1R r m) := by
  unfold follow1R
  split
  · exact (Step.enter ⟨‹_›, (msgR_num hm).2.1.2⟩).trans (fun _ _ => Step.quiet 0)
  · exact Step.quiet 0
theorem Step.follow2 {N : Nat} {i : Int} {g : Gh} {r : Rp} {m : Msg} (hm : MInv N g m) (hv : r.s.view = m.view) (hp : m.view % (N : Int) ≠ i) : Step N i g r (follow2R r m) := by
  unfold follow2R
  split
  case isFalse => exact Step.refl _ _ _ _
  rename_i hc
  intro hg h
  have hnv := h.norm hc.1
  have hs := h.ok.stn
  obtain ⟨k1, ⟨e, k2, k3, k4⟩, k5⟩ := hm.k1 hc.2.1
  have hnm : r.s.normal = m.view := by rw [hnv, hv]
  have hat : (g.G r.s.normal)[r.s.log.length]? = some e := by
    rw [hnm, ← k4]
    congr 1
    have := hc.2.2
    omega
  have hlt : r.s.log.length < (g.G r.s.normal).length := (List.getElem?_eq_some_iff.1 hat).1
  have hvw : g.vw i ≤ r.s.normal := by rw [h.vw, hnv]; exact Int.le_refl _
  have x : Ext N i g (g.setAc i r.s.normal (r.s.log.length + 1)) := setAc_ext hvw (by rw [h.acn]; omega)
  have g1 := setAc_inv (n := r.s.log.length + 1) hg hvw h.d hlt
  have hok := h.ok.follow2 hm.right
  unfold follow2R at hok
  rw [if_pos hc] at hok
  refine ⟨_, g1, x, ⟨hok, h.n, h.id, h.vw, h.d, h.lo.trans (List.prefix_append _ _), by show r.s.log ++ m.log <+: _; rw [k2]; exact pre_snoc h.hi hat, ?_, fun w hw => ?_, h.safe.ext x h.d, fun w hw hwp => ⟨(h.prim w hw hwp).1, fun q => absurd hwp ?_⟩, fun p hp => ⟨(h.acks p hp).1, ?_⟩, fun p hp => by obtain ⟨q1, q2, q3⟩ := h.chgs p hp; exact ⟨q1, q2.ext x, q3⟩, fun q hq => (h.out q hq).ext x⟩⟩
  · show (g.setAc i r.s.normal (r.s.log.length + 1)).Ac i r.s.normal = (r.s.log ++ m.log).length
    rw [setAc_at, if_pos ⟨rfl, rfl⟩, k2]; simp
  · have hw : r.s.normal < w := hw
    rw [setAc_at, if_neg (by omega)]; exact h.acz w hw
  · rw [show w = r.s.normal from q, hnm]; exact hp
  · have h1 := (h.acks p hp).2
    have h2 := x.acm p.1 r.s.view
    show p.2 ≤ ((g.setAc i r.s.normal (r.s.log.length + 1)).Ac p.1 r.s.view : Int)
    omega
theorem Step.raise {N : Nat} {i : Int} {g : Gh} {r : Rp} {c : Int} (hc : Safe N g r.s.normal c.toNat) : Step N i g r (raiseR r c) := fun hg h => by
  have hs := h.ok.stn
  refine ⟨g, hg, Ext.refl _ _ _, h.ok.raise c, h.n, h.id, h.vw, h.d, h.lo, h.hi, h.acn, h.acz, ?_, h.prim, h.acks, h.chgs, h.out⟩
  show Safe N g r.s.normal (max r.s.commit (min c (r.s.log.length : Int))).toNat
  by_cases h0 : 0 ≤ c
  · rw [max_toNat (by omega) (by omega)]
    exact Safe.max_ h.safe (hc.less (by omega))
  · rw [show max r.s.commit (min c (r.s.log.length : Int)) = r.s.commit by omega]
    exact h.safe
theorem Step.follow {N : Nat} {i : Int} {g : Gh} {r : Rp} {m : Msg} (hm : MInv N g m) (hk : m.kind = 1 ∨ m.kind = 3) (hv : r.s.view ≤ m.view) (hsrc : m.src ≠ i) : Step N i g r (followR r m) := by
  unfold followR
  split
  · exact Step.refl _ _ _ _
  rename_i hps
  intro hg h
  have hps : m.src = m.view % (N : Int) := by rw [← mod_prim h]; omega
  have hp : m.view % (N : Int) ≠ i := by rw [← hps]; exact hsrc
  have hsn : 0 ≤ m.src ∧ m.src < (N : Int) := ⟨(msgR_num hm.right).2.2.2.1.1, hm.src⟩
  obtain ⟨g1, q1, q2, q3⟩ := (Step.follow1 (i := i) (g := g) (N := N) hm.right) hg h
  have hm1 := hm.ext q2
  have hv1 : (follow1R r m).s.view = m.view := by
    unfold follow1R
    split
    · rfl
    · show r.s.view = m.view; omega
  obtain ⟨r1, hr1⟩ : ∃ q, q = follow1R r m := ⟨_, rfl⟩
  rw [← hr1] at q3 hv1 ⊢
  obtain ⟨g2, p1, p2, p3⟩ := (Step.follow2 hm1 hv1 hp) q1 q3
  have hm2 := hm1.ext p2
  have hv2 : (follow2R r1 m).s.view = m.view := by unfold follow2R; split <;> exact hv1
  obtain ⟨r2, hr2⟩ : ∃ q, q = follow2R r1 m := ⟨_, rfl⟩
  rw [← hr2] at p3 hv2 ⊢
  refine ⟨g2, p1, q2.trans p2, ?_⟩
  have hs2 := p3.ok.stn
  have h3 : RInv N g2 i (follow3R r2 m) := by
    unfold follow3R
    split
    · exact p3.send _ _ (minv_small p3 ⟨hsn.1, hsn.2, by rw [p3.id]; exact hsrc⟩ (.inr (.inr rfl)) (by omega) (fun e => by cases e))
    · exact p3
  have e3 : (follow3R r2 m).s = r2.s ∧ (follow3R r2 m).ch = r2.ch := by unfold follow3R; split <;> exact ⟨rfl, rfl⟩
  obtain ⟨r3, hr3⟩ : ∃ q, q = follow3R r2 m := ⟨_, rfl⟩
  rw [← hr3] at h3 e3 ⊢
  unfold follow4R
  split
  · exact h3
  rename_i hch
  have hch : r3.ch = false := by simpa using hch
  have hnv := h3.norm hch
  have hvv : r3.s.normal = m.view := by rw [hnv, e3.1, hv2]
  have hsf : Safe N g2 r3.s.normal m.commit.toNat := by
    rw [hvv]
    rcases hk with e | e
    · exact (hm2.k1 e).2.2
    · exact (hm2.k3 e).2
  have h4 : RInv N g2 i (raiseR r3 m.commit) := by
    refine ⟨h3.ok.raise _, h3.n, h3.id, h3.vw, h3.d, h3.lo, h3.hi, h3.acn, h3.acz, ?_, h3.prim, h3.acks, h3.chgs, h3.out⟩
    have hs3 := h3.ok.stn
    show Safe N g2 r3.s.normal (max r3.s.commit (min m.commit (r3.s.log.length : Int))).toNat
    have := (msgR_num hm.right).2.2.2.2.2.2
    rw [max_toNat (by omega) (by omega)]
    exact Safe.max_ h3.safe (hsf.less (by omega))
  split
  · exact h4
  · refine h4.send _ _ (minv_small h4 ⟨hsn.1, hsn.2, by rw [h4.id]; exact hsrc⟩ (.inl rfl) (by have := h3.ok.stn; omega) (fun _ => ?_))
    show (r3.s.log.length : Int) ≤ (g2.Ac i r3.s.view : Int)
    rw [← hnv, h3.acn]
    exact Int.le_refl _
end Go.Proofs.Ytaldoajdhbndhaa.Pa


/- A view begins: its log is the best one of more than half, and so has all that is chosen. -/

namespace Go.Proofs.Ytaldoajdhbndhaa.Pa

set_option linter.unusedVariables false

set_option linter.unusedSimpArgs false

/-- What replica j had when it was in a change to view u: normal view and log. -/
structure Tell (N : Nat) (g : Gh) (u : Int) (j n : Int) (l : List Entry) : Prop where
  vw : u ≤ g.vw j
  lt : n < u
  d : g.D n
  lo : g.L n <+: l
  hi : l <+: g.G n
  acn : g.Ac j n = l.length
  acz : ∀ v, n < v → v < u → g.Ac j v = 0
theorem ChMsg.tell {N : Nat} {g : Gh} {m : Msg} {u : Int} (h : ChMsg N g m) (hu : m.view = u) : Tell N g u m.src m.normal m.log := by
  subst hu
  exact ⟨h.vw, h.lt, h.d, h.lo, h.hi, h.acn, h.acz⟩
theorem RInv.tell {N : Nat} {g : Gh} {i : Int} {r : Rp} (h : RInv N g i r) (hc : r.ch = true) : Tell N g r.s.view i r.s.normal r.s.log :=
  ⟨by rw [h.vw]; exact Int.le_refl _, h.chlt hc, h.d, h.lo, h.hi, h.acn, fun v hv _ => h.acz v hv⟩
/-- No better than (bn, bl). -/
def Below_ (bn : Int) (bl : List Entry) (n : Int) (l : List Entry) : Prop := n < bn ∨ (n = bn ∧ l.length ≤ bl.length)
/-- More than half have told, and (bn, bl) is the best of it. -/
structure Best_ (N : Nat) (g : Gh) (i u : Int) (Q : List Int) (bn : Int) (bl : List Entry) : Prop where
  maj : Maj N Q
  mem : i ∈ Q
  tells : ∀ j ∈ Q, ∃ n l, Tell N g u j n l ∧ Below_ bn bl n l
  d : g.D bn
  lt : bn < u
  lo : g.L bn <+: bl
  hi : bl <+: g.G bn
  new : ¬ g.D u
  vw : g.vw i = u
/-- What more than half of P have of view v, as far as they are in Q, the best has. -/
theorem Best_.has {N : Nat} {g : Gh} {i u : Int} {Q : List Int} {bn : Int} {bl : List Entry} (h : Best_ N g i u Q bn bl) {v : Int} (hv : bn ≤ v) (hvu : v < u) {k : Nat} {P : List Int} (hP : Maj N P) (hp : ∀ j ∈ P, j ∈ Q → k ≤ g.Ac j v) : (g.G v).take k <+: bl := by
  obtain ⟨j, h1, h2⟩ := hP.meet h.maj
  have hk := hp j h1 h2
  obtain ⟨n, l, ht, hb⟩ := h.tells j h2
  by_cases hn : n < v
  · rw [ht.acz v hn hvu] at hk
    rw [Nat.le_zero.1 hk, List.take_zero]
    exact List.nil_prefix
  · rcases hb with hb | ⟨hb1, hb2⟩
    · omega
    · have e : v = bn := by omega
      subst e
      subst hb1
      rw [ht.acn] at hk
      rw [pre_take h.hi (Nat.le_trans hk hb2)]
      exact List.take_prefix _ _
theorem Best_.chosen {N : Nat} {g : Gh} {i u : Int} {Q : List Int} {bn : Int} {bl : List Entry} (hg : GInv N g) (h : Best_ N g i u Q bn bl) {v : Int} (hd : g.D v) (hvu : v < u) {k : Nat} (hc : Chosen N g v k) : (g.G v).take k <+: bl := by
  by_cases hlt : v < bn
  · exact (hg.chosen h.d hd hlt hc).trans h.lo
  · obtain ⟨P, hP, hp⟩ := hc
    exact h.has (by omega) hvu hP (fun j hj _ => hp j hj)
theorem found_at (g : Gh) (i u : Int) (l : List Entry) (j w : Int) : (g.found i u l).Ac j w = if j = i ∧ w = u then l.length else g.Ac j w := rfl
theorem found_L (g : Gh) (i u : Int) (l : List Entry) (w : Int) : (g.found i u l).L w = if w = u then l else g.L w := rfl
theorem found_G (g : Gh) (i u : Int) (l : List Entry) (w : Int) : (g.found i u l).G w = if w = u then l else g.G w := rfl
theorem Best_.ext {N : Nat} {g : Gh} {i u : Int} {Q : List Int} {bn : Int} {bl : List Entry} (hg : GInv N g) (h : Best_ N g i u Q bn bl) (hu : u % (N : Int) = i) : Ext N i g (g.found i u bl) := by
  have hne : ∀ v, g.D v → v ≠ u := fun v hv e => h.new (by rw [← e]; exact hv)
  refine ⟨fun v hv => .inr hv, fun v hv => by rw [found_L, if_neg (hne v hv)], fun v hv => by rw [found_G, if_neg (hne v hv)]; exact List.prefix_refl _, fun j w => ?_, fun j w hw => ?_, fun _ => Int.le_refl _, fun j hj => ⟨fun w => ?_, rfl⟩, fun v hv => ⟨fun hd => ?_, ?_⟩⟩
  · rw [found_at]
    split
    · rename_i e
      rw [e.2]
      have : g.Ac j u = 0 := Nat.eq_zero_of_not_pos (fun q => h.new (hg.ac j u q))
      omega
    · exact Nat.le_refl _
  · rw [found_at, if_neg]
    rintro ⟨e1, e2⟩
    rw [e1, h.vw, e2] at hw
    omega
  · rw [found_at, if_neg (fun e => hj e.1)]
  · rcases hd with e | e
    · exact absurd (by rw [e]; exact hu) hv
    · exact e
  · rw [found_G, if_neg]
    intro e
    exact hv (by rw [e]; exact hu)
theorem Best_.inv {N : Nat} {g : Gh} {i u : Int} {Q : List Int} {bn : Int} {bl : List Entry} (hg : GInv N g) (h : Best_ N g i u Q bn bl) : GInv N (g.found i u bl) := by
  have hne : ∀ v, g.D v → v ≠ u := fun v hv e => h.new (by rw [← e]; exact hv)
  have hz : ∀ j, g.Ac j u = 0 := fun j => Nat.eq_zero_of_not_pos (fun q => h.new (hg.ac j u q))
  refine ⟨hg.pos, fun v hv => ?_, fun j w hw => ?_, fun j w => ?_, fun v hv => ?_, fun a b ha hb hlt => ?_, fun v hv => ?_⟩
  · rw [found_L, found_G]
    by_cases e : v = u
    · rw [if_pos e, if_pos e]; exact List.prefix_refl _
    · rw [if_neg e, if_neg e]
      exact hg.pre v (hv.resolve_left e)
  · rw [found_at] at hw
    by_cases e : j = i ∧ w = u
    · exact .inl e.2
    · rw [if_neg e] at hw
      exact .inr (hg.ac j w hw)
  · rw [found_at, found_G]
    by_cases e : w = u
    · rw [if_pos e]
      split
      · exact Nat.le_refl _
      · rw [e, hz j]; exact Nat.zero_le _
    · rw [if_neg e, if_neg (fun q => e q.2)]
      exact hg.acl j w
  · by_cases e : v = u
    · rw [e]
      exact ⟨Q, h.maj, fun j hj => by obtain ⟨n, l, ht, _⟩ := h.tells j hj; exact ht.vw⟩
    · exact hg.top v (hv.resolve_left e)
  · by_cases ea : a = u
    · have hbD : g.D b := hb.resolve_left (by omega)
      have hbu : b ≠ u := by omega
      by_cases hbn : b < bn
      · obtain ⟨Q0, q1, q2, q3⟩ := hg.key bn b h.d hbD hbn
        refine ⟨Q0, q1, q2, fun k hk => ?_⟩
        obtain ⟨P, hP, hp⟩ := hk
        rw [found_L, if_pos ea, found_G, if_neg hbu]
        refine (q3 k ⟨P, hP, fun j hj hjq => ?_⟩).trans h.lo
        have := hp j hj hjq
        rw [found_at, if_neg (fun q => hbu q.2)] at this
        exact this
      · refine ⟨Q, h.maj, fun j hj => ?_, fun k hk => ?_⟩
        · obtain ⟨n, l, ht, _⟩ := h.tells j hj
          have := ht.vw
          show b < g.vw j
          omega
        · obtain ⟨P, hP, hp⟩ := hk
          rw [found_L, if_pos ea, found_G, if_neg hbu]
          refine h.has (by omega) (by omega) hP (fun j hj hjq => ?_)
          have := hp j hj hjq
          rw [found_at, if_neg (fun q => hbu q.2)] at this
          exact this
    · have haD : g.D a := ha.resolve_left ea
      by_cases eb : b = u
      · obtain ⟨Q0, q1, q2⟩ := hg.top a haD
        refine ⟨Q0, q1, fun j hj => by have := q2 j hj; show b < g.vw j; omega, fun k hk => ?_⟩
        obtain ⟨P, hP, hp⟩ := hk
        obtain ⟨j, j1, j2⟩ := hP.meet q1
        have hk0 := hp j j1 j2
        rw [found_at, if_neg, eb, hz j] at hk0
        · rw [Nat.le_zero.1 hk0, List.take_zero]
          exact List.nil_prefix
        · rintro ⟨e, _⟩
          have := q2 j j2
          rw [e, h.vw] at this
          omega
      · have hbD : g.D b := hb.resolve_left eb
        obtain ⟨Q0, q1, q2, q3⟩ := hg.key a b haD hbD hlt
        refine ⟨Q0, q1, q2, fun k hk => ?_⟩
        obtain ⟨P, hP, hp⟩ := hk
        rw [found_L, if_neg ea, found_G, if_neg eb]
        refine q3 k ⟨P, hP, fun j hj hjq => ?_⟩
        have := hp j hj hjq
        rw [found_at, if_neg (fun q => eb q.2)] at this
        exact this
  · rw [found_G]
    by_cases e : v = u
    · rw [if_pos e]
      exact (hg.inc bn h.d).pre h.hi
    · rw [if_neg e]
      exact hg.inc v (hv.resolve_left e)
theorem Best_.safe {N : Nat} {g : Gh} {i u : Int} {Q : List Int} {bn : Int} {bl : List Entry} (hg : GInv N g) (h : Best_ N g i u Q bn bl) {n : Int} (hn : n < u) {k : Nat} (hs : Safe N g n k) : Safe N (g.found i u bl) u k := by
  obtain ⟨v, h1, h2, h3, h4, h5⟩ := hs
  have hvu : v ≠ u := by omega
  have hc := h.chosen hg h2 (by omega) h3
  refine ⟨v, by omega, .inr h2, ?_, ?_, ?_⟩
  · obtain ⟨P, hP, hp⟩ := h3
    refine ⟨P, hP, fun j hj => ?_⟩
    rw [found_at, if_neg (fun q => hvu q.2)]
    exact hp j hj
  · rw [found_G, if_neg hvu]; exact h4
  · rw [found_G, if_neg hvu, found_G, if_pos rfl]; exact hc
end Go.Proofs.Ytaldoajdhbndhaa.Pa


/- What a replica does in a change, and at each message, keeps what is so of all of them. -/

namespace Go.Proofs.Ytaldoajdhbndhaa.Pa

set_option linter.unusedVariables false

set_option linter.unusedSimpArgs false
theorem take_of_pre {X Y : List Entry} {c : Nat} (h : X.take c <+: Y) (hc : c ≤ X.length) : Y.take c = X.take c := by
  have := List.prefix_iff_eq_take.1 h
  rw [List.length_take, Nat.min_eq_left hc] at this
  exact this.symm
theorem Below_.refl (n : Int) (l : List Entry) : Below_ n l n l := .inr ⟨rfl, Nat.le_refl _⟩
theorem Below_.trans {a b c : Int} {x y z : List Entry} (h : Below_ b y a x) (k : Below_ c z b y) : Below_ c z a x := by
  rcases h with h | ⟨h1, h2⟩ <;> rcases k with k | ⟨k1, k2⟩
  · exact .inl (by omega)
  · exact .inl (by omega)
  · exact .inl (by omega)
  · exact .inr ⟨by omega, by omega⟩
theorem look_of_mem {α : Type} : ∀ {L : List (Int × α)}, (L.map (·.1)).Nodup → ∀ {p : Int × α}, p ∈ L → look p.1 L = some p.2
  | [], _, p, h => by cases h
  | q :: L, hn, p, h => by
    rw [List.map_cons, List.nodup_cons] at hn
    rw [look_cons]
    rcases List.mem_cons.1 h with e | e
    · rw [e, if_pos rfl]
    · rw [if_neg]
      · exact look_of_mem hn.2 e
      · intro e2
        exact hn.1 (List.mem_map.2 ⟨p, e, e2.symm⟩)
/-- What does not fit is no better than one's own. -/
theorem unfit_own {N : Nat} {g : Gh} {i : Int} {r : Rp} (hg : GInv N g) (h : RInv N g i r) {m : Msg} (hm : ChMsg N g m) (hf : fitsR r m.log = false) : Below_ r.s.normal r.s.log m.normal m.log := by
  have hs := h.ok.stn
  obtain ⟨c, hc⟩ : ∃ c : Nat, r.s.commit = (c : Int) := ⟨r.s.commit.toNat, by omega⟩
  have hcl : c ≤ r.s.log.length := by omega
  have hno : ¬ ((c : Int) ≤ (m.log.length : Int) ∧ m.log.take c = r.s.log.take c) := fun e => by
    have : fitsR r m.log = true := fitsR_iff.2 (by rw [hc]; exact e)
    rw [this] at hf; cases hf
  by_cases h1 : m.normal < r.s.normal
  · exact .inl h1
  by_cases h2 : m.normal = r.s.normal
  · by_cases h3 : m.log.length ≤ r.s.log.length
    · exact .inr ⟨h2, h3⟩
    · exfalso
      have hp : r.s.log <+: m.log := pre_same h.hi (by rw [← h2]; exact hm.hi) (by omega)
      exact hno ⟨by omega, pre_take hp hcl⟩
  · exfalso
    obtain ⟨v, q1, q2, q3, q4, q5⟩ := h.safe
    rw [hc, Int.toNat_natCast] at q3 q4 q5
    have hk := (hg.chosen hm.d q2 (by omega) q3).trans hm.lo
    have e1 := take_of_pre hk q4
    have e2 := take_of_pre q5 q4
    have e3 : r.s.log.take c = (g.G v).take c := by rw [← e2, ← pre_take h.hi hcl]
    refine hno ⟨?_, by rw [e1, e3]⟩
    have := hk.length_le
    rw [List.length_take, Nat.min_eq_left q4] at this
    omega
/-- The best of what is told. -/
structure BestTo (r : Rp) (k : Nat) (b : Best) : Prop where
  own : Below_ b.normal b.log r.s.normal r.s.log
  all : ∀ j : Nat, j < k → ∀ m, look (j : Int) r.chgs = some m → Below_ b.normal b.log m.normal m.log
  one : (b.normal = r.s.normal ∧ b.log = r.s.log) ∨ ∃ p ∈ r.chgs, b.normal = p.2.normal ∧ b.log = p.2.log
  done : b.done = r.s.commit ∨ ∃ p ∈ r.chgs, b.done = p.2.commit
theorem best_to {N : Nat} {g : Gh} {i : Int} {r : Rp} (hg : GInv N g) (h : RInv N g i r) : ∀ k, BestTo r k (bestTo r k)
  | 0 => ⟨.refl _ _, fun j hj => by omega, .inl ⟨rfl, rfl⟩, .inl rfl⟩
  | k + 1 => by
    have ih := best_to hg h k
    rw [bestTo]
    obtain ⟨b, hb⟩ : ∃ b, b = bestTo r k := ⟨_, rfl⟩
    rw [← hb] at ih ⊢
    clear hb
    unfold bestStep
    split
    · rename_i hl
      refine ⟨ih.own, fun j hj m hm => ?_, ih.one, ih.done⟩
      by_cases e : j = k
      · rw [e, hl] at hm; cases hm
      · exact ih.all j (by omega) m hm
    · rename_i m hl
      have hmem := look_mem hl
      split
      · rename_i hf
        have hmb : Below_ (if better b m then m.normal else b.normal) (if better b m then m.log else b.log) b.normal b.log ∧ Below_ (if better b m then m.normal else b.normal) (if better b m then m.log else b.log) m.normal m.log := by
          by_cases hbt : better b m = true
          · rw [if_pos hbt, if_pos hbt]
            refine ⟨?_, .refl _ _⟩
            unfold better at hbt
            rw [Bool.or_eq_true, Bool.and_eq_true, decide_eq_true_eq, decide_eq_true_eq, decide_eq_true_eq] at hbt
            rcases hbt with e | e
            · exact .inl e
            · exact .inr ⟨e.1.symm, Nat.le_of_lt e.2⟩
          · rw [if_neg hbt, if_neg hbt]
            refine ⟨.refl _ _, ?_⟩
            unfold better at hbt
            rw [Bool.or_eq_true, Bool.and_eq_true, decide_eq_true_eq, decide_eq_true_eq, decide_eq_true_eq] at hbt
            by_cases e1 : m.normal < b.normal
            · exact .inl e1
            · have e2 : m.normal = b.normal := by
                have : ¬ b.normal < m.normal := fun e => hbt (.inl e)
                omega
              exact .inr ⟨e2, by have : ¬ b.log.length < m.log.length := fun e => hbt (.inr ⟨e2, e⟩); omega⟩
        refine ⟨ih.own.trans hmb.1, fun j hj m' hm' => ?_, ?_, ?_⟩
        · by_cases e : j = k
          · rw [e, hl] at hm'
            cases hm'
            exact hmb.2
          · exact (ih.all j (by omega) m' hm').trans hmb.1
        · by_cases hbt : better b m = true
          · refine .inr ⟨_, hmem, ?_, ?_⟩
            · show (if better b m then m.normal else b.normal) = m.normal
              rw [if_pos hbt]
            · show (if better b m then m.log else b.log) = m.log
              rw [if_pos hbt]
          · rcases ih.one with e | ⟨p, hp, e⟩
            · refine .inl ⟨?_, ?_⟩
              · show (if better b m then m.normal else b.normal) = _
                rw [if_neg hbt]; exact e.1
              · show (if better b m then m.log else b.log) = _
                rw [if_neg hbt]; exact e.2
            · refine .inr ⟨p, hp, ?_, ?_⟩
              · show (if better b m then m.normal else b.normal) = _
                rw [if_neg hbt]; exact e.1
              · show (if better b m then m.log else b.log) = _
                rw [if_neg hbt]; exact e.2
        · show max b.done m.commit = _ ∨ ∃ p ∈ r.chgs, max b.done m.commit = _
          rcases Int.le_total b.done m.commit with e | e
          · rw [Int.max_eq_right e]
            exact .inr ⟨_, hmem, rfl⟩
          · rw [Int.max_eq_left e]
            exact ih.done
      · rename_i hf
        have hf : fitsR r m.log = false := by simpa using hf
        have hcm := (h.chgs _ hmem).2.1
        refine ⟨ih.own, fun j hj m' hm' => ?_, ih.one, ih.done⟩
        by_cases e : j = k
        · rw [e, hl] at hm'
          cases hm'
          exact (unfit_own hg h hcm hf).trans ih.own
        · exact ih.all j (by omega) m' hm'
theorem Step.decide_ {N : Nat} {i : Int} {g : Gh} {r : Rp} : Step N i g r (decideR r) := by
  unfold decideR
  split
  case isFalse => exact Step.refl _ _ _ _
  rename_i hc
  intro hg h
  obtain ⟨hch, hp, hq⟩ := hc
  have hs := h.ok.stn
  have hcf := h.ok.cfg
  have hn := h.n
  have hB := best_to hg h r.n.toNat
  obtain ⟨b, hb⟩ : ∃ b, b = bestTo r r.n.toNat := ⟨_, rfl⟩
  have hok := h.ok.won r.n.toNat
  rw [← hb] at hB hok ⊢
  clear hb
  have hu : r.s.view % (N : Int) = i := by rw [← mod_prim h, hp, h.id]
  have htl := h.tell hch
  have hpl : ∀ p ∈ r.chgs, Tell N g r.s.view p.1 p.2.normal p.2.log := fun p hp => by
    obtain ⟨_, q2, q3, q4⟩ := h.chgs p hp
    rw [← q4]
    exact q2.tell q3
  have hone : g.D b.normal ∧ b.normal < r.s.view ∧ g.L b.normal <+: b.log ∧ b.log <+: g.G b.normal := by
    rcases hB.one with ⟨e1, e2⟩ | ⟨p, hp, e1, e2⟩
    · rw [e1, e2]; exact ⟨htl.d, htl.lt, htl.lo, htl.hi⟩
    · have := hpl p hp
      rw [e1, e2]; exact ⟨this.d, this.lt, this.lo, this.hi⟩
  have hbest : Best_ N g i r.s.view (i :: r.chgs.map (·.1)) b.normal b.log := by
    refine ⟨⟨?_, fun j hj => ?_, ?_⟩, List.mem_cons_self, fun j hj => ?_, hone.1, hone.2.1, hone.2.2.1, hone.2.2.2, fun hd => ?_, h.vw⟩
    · rw [List.nodup_cons]
      refine ⟨fun hi => ?_, h.ok.nod.2.2⟩
      obtain ⟨p, hp, e⟩ := List.mem_map.1 hi
      exact (h.chgs p hp).1 e
    · rcases List.mem_cons.1 hj with e | e
      · rw [e, ← h.id, ← hn]; exact ⟨hcf.2.1, hcf.2.2.1⟩
      · obtain ⟨p, hp, e⟩ := List.mem_map.1 e
        have := h.ok.chgs p hp
        rw [← e, ← hn]
        exact ⟨this.1, this.2.1⟩
    · unfold halfR at hq
      rw [hn] at hq
      rw [List.length_cons, List.length_map]
      omega
    · rcases List.mem_cons.1 hj with e | e
      · rw [e]; exact ⟨_, _, htl, hB.own⟩
      · obtain ⟨p, hp, e⟩ := List.mem_map.1 e
        have hp1 := h.ok.chgs p hp
        refine ⟨_, _, by rw [← e]; exact hpl p hp, hB.all p.1.toNat (by omega) p.2 ?_⟩
        rw [Int.toNat_of_nonneg hp1.1]
        exact look_of_mem h.ok.nod.2.2 hp
    · have := (h.prim _ hd hu).1
      have := h.chlt hch
      omega
  have x := hbest.ext hg hu
  have g1 := hbest.inv hg
  have hsf : Safe N (g.found i r.s.view b.log) r.s.view (min b.done (b.log.length : Int)).toNat := by
    rcases hB.done with e | ⟨p, hp, e⟩
    · exact (hbest.safe hg (h.chlt hch) h.safe).less (by omega)
    · have hcm := (h.chgs p hp).2.1
      exact (hbest.safe hg (hpl p hp).lt hcm.safe).less (by omega)
  obtain ⟨g', hg'⟩ : ∃ q, q = g.found i r.s.view b.log := ⟨_, rfl⟩
  have hA : ∀ w, g'.Ac i w = if w = r.s.view then b.log.length else g.Ac i w := fun w => by
    rw [hg', found_at]
    by_cases e : w = r.s.view
    · rw [if_pos ⟨rfl, e⟩, if_pos e]
    · rw [if_neg (fun q => e q.2), if_neg e]
  have hD : ∀ w, g'.D w ↔ (w = r.s.view ∨ g.D w) := fun w => by rw [hg']; exact Iff.rfl
  have hL : g'.L r.s.view = b.log := by rw [hg', found_L, if_pos rfl]
  have hG : g'.G r.s.view = b.log := by rw [hg', found_G, if_pos rfl]
  have hV : g'.vw i = r.s.view := by rw [hg']; exact h.vw
  rw [← hg'] at x g1 hsf
  clear hg'
  have hR : RInv N g' i (wonR r b) := ⟨hok, h.n, h.id, hV, (hD _).2 (.inl rfl), by show g'.L r.s.view <+: b.log; rw [hL]; exact List.prefix_refl _, by show b.log <+: g'.G r.s.view; rw [hG]; exact List.prefix_refl _, by show g'.Ac i r.s.view = b.log.length; rw [hA, if_pos rfl], fun w hw => by
      have hw : r.s.view < w := hw
      rw [hA, if_neg (by omega)]
      exact h.acz w (by omega), hsf, fun v hv hvp => by
      rcases (hD v).1 hv with e | e
      · exact ⟨by show v ≤ r.s.view; omega, fun _ => by rw [e, hG]; rfl⟩
      · have := (h.prim v e hvp).1
        have := h.chlt hch
        exact ⟨by show v ≤ r.s.view; omega, fun q => by have q : v = r.s.view := q; omega⟩, fun p hp => (by cases hp), fun p hp => (by cases hp), fun q hq => (h.out q hq).ext x⟩
  exact ⟨g', g1, x, hR.say _ (fun j j1 j2 j3 => minv_told hR rfl (.inl rfl) ⟨j1, j2, j3⟩)⟩
/-- A message that tells all that a replica in a change has. -/
theorem minv_change {N : Nat} {g : Gh} {i : Int} {r : Rp} (h : RInv N g i r) (hch : r.ch = true) {j : Int} (hj : 0 ≤ j ∧ j < (N : Int) ∧ j ≠ r.id) : MInv N g { ({ toldR r 5 with normal := r.s.normal } : Msg) with view := r.s.view, src := r.id, dst := j } := by
  have hc := h.ok.cfg
  have hn := h.n
  have hs := h.ok.stn
  have htl := h.tell hch
  refine ⟨msgR_mk (show (1 : Int) ≤ 5 ∧ (5 : Int) ≤ 8 by decide) hs.1 (by show 0 ≤ r.s.normal ∧ r.s.normal ≤ _; omega) (by show 0 ≤ r.id ∧ r.id ≤ 6; omega) (by show 0 ≤ j ∧ j ≤ 6; omega) (by show 0 ≤ (r.s.log.length : Int) ∧ (r.s.log.length : Int) ≤ 64; omega) (by show 0 ≤ r.s.commit ∧ r.s.commit ≤ 64; omega) ?_ hs.2.2.2.2.2, by show r.id < _; omega, by show j < _; omega, fun e => hj.2.2 e.symm, ?_, fun e => ?_, fun e => ?_, fun e => ?_, fun e => ?_, fun e => ?_⟩
  · show if (5 : Int) = 1 then _ else if (5 : Int) = 5 ∨ (5 : Int) = 6 ∨ (5 : Int) = 8 then _ else _
    rw [if_neg (by decide), if_pos (by decide)]; exact hs.2.2.1
  · show r.s.view ≤ g.vw r.id
    rw [h.id, h.vw]; exact Int.le_refl _
  · have : (5 : Int) = 1 := e; omega
  · have : (5 : Int) = 2 := e; omega
  · have : (5 : Int) = 3 := e; omega
  · refine ⟨?_, h.chlt hch, h.d, h.lo, h.hi, ?_, fun v v1 v2 => ?_, h.safe, hs.2.2.2.1.2⟩
    · show r.s.view ≤ g.vw r.id
      rw [h.id, h.vw]; exact Int.le_refl _
    · show g.Ac r.id r.s.normal = _
      rw [h.id]; exact h.acn
    · show g.Ac r.id v = 0
      rw [h.id]; exact h.acz v v1
  · have : (5 : Int) = 6 ∨ (5 : Int) = 8 := e; omega
theorem Step.see {N : Nat} {i : Int} {g : Gh} {r : Rp} : Step N i g r (seeR r) := by
  unfold seeR
  split
  case isFalse => exact Step.refl _ _ _ _
  rename_i hc
  have hsaid : Step N i g r { r with said := true } := fun hg h => ⟨g, hg, Ext.refl _ _ _, h.same (h.ok.sd true) ⟨rfl, rfl⟩ rfl (.inl rfl) (.inl rfl) (fun m hm => .inl hm)⟩
  split
  · exact hsaid.trans (fun _ _ => Step.decide_)
  · rename_i hp
    refine hsaid.trans (fun g' _ => fun hg h => ⟨g', hg, Ext.refl _ _ _, ?_⟩)
    have hpl := prim_lt h.ok r.s.view
    have hcf := h.ok.cfg
    have hn : r.n = (N : Int) := h.n
    have hpn : primR r r.s.view < (N : Int) := by
      have := mod_prim h r.s.view
      rw [show primR { r with said := true } r.s.view = primR r r.s.view from rfl] at this
      rw [this]
      have hcf1 : r.n = 3 ∨ r.n = 5 ∨ r.n = 7 := hcf.1
      exact Int.emod_lt_of_pos _ (by omega)
    exact h.send _ _ (minv_change h hc.1 ⟨hpl.1, hpn, hp⟩)
theorem Step.turn2 {N : Nat} {i : Int} {g : Gh} {r : Rp} {m : Msg} (hm : MInv N g m) (hv : r.s.view = m.view) (hsrc : m.src ≠ i) : Step N i g r (turn2R r m) := by
  have hmn := msgR_num hm.right
  unfold turn2R
  split
  · intro hg h
    have h1 : RInv N g i { r with starts := ups m.src true r.starts } := h.same (h.ok.start ⟨hmn.2.2.2.1.1, by rw [h.n]; exact hm.src⟩ true) ⟨rfl, rfl⟩ rfl (.inl rfl) (.inl rfl) (fun m hm => .inl hm)
    exact Step.see hg h1
  · split
    · rename_i hk
      intro hg h
      have h1 : RInv N g i { r with chgs := ups m.src m r.chgs } := ⟨h.ok.change ⟨hmn.2.2.2.1.1, by rw [h.n]; exact hm.src⟩ hm.right, h.n, h.id, h.vw, h.d, h.lo, h.hi, h.acn, h.acz, h.safe, h.prim, h.acks, fun p hp => by
        rcases mem_ups hp with e | e
        · rw [e]; exact ⟨hsrc, hm.k5 hk.1, hv.symm, rfl⟩
        · exact h.chgs p e, h.out⟩
      exact Step.decide_ hg h1
    · rename_i h4 h5
      split
      · rename_i hk
        refine Step.told ?_ (.inl rfl) ⟨hmn.2.2.2.1.1, hm.src, hsrc⟩
        cases hc : r.ch
        · rfl
        · exact absurd ⟨hk, hc⟩ h5
      · exact Step.refl _ _ _ _
theorem Step.turn {N : Nat} {i : Int} {g : Gh} {r : Rp} {m : Msg} (hm : MInv N g m) (hv : r.s.view ≤ m.view) (hsrc : m.src ≠ i) : Step N i g r (turnR r m) := by
  unfold turnR
  split
  · exact Step.refl _ _ _ _
  · by_cases h : r.s.view < m.view
    · rw [if_pos h]
      refine (Step.begin_ ⟨h, (msgR_num hm.right).2.1.2⟩).trans (fun g' x => Step.turn2 (hm.ext x) ?_ hsrc)
      obtain ⟨l, e, _⟩ := sayTo_same { enterR r m.view with starts := ups r.id true [] } (msgOp 4 0) r.n.toNat
      have e2 : beginR r m.view = _ := e
      rw [e2]; rfl
    · rw [if_neg h]
      exact Step.turn2 hm (by omega) hsrc
/-- A message that was said and is delivered. -/
theorem Step.deliver {N : Nat} {i : Int} {g : Gh} {r : Rp} {m : Msg} (hm : MInv N g m) (hi : r.id = i) : Step N i g r (deliverR r m).1 := by
  unfold deliverR
  split
  · exact Step.refl _ _ _ _
  rename_i hmt
  split
  · exact Step.refl _ _ _ _
  rename_i hv
  have hv : r.s.view ≤ m.view := by omega
  have hmn := msgR_num hm.right
  have hsrc : m.src ≠ i := by
    have : meantR r m = true := by simpa using hmt
    unfold meantR at this
    rw [Bool.and_eq_true, decide_eq_true_eq] at this
    rw [← hi]; exact this.2.2.1
  show Step N i g r (heardR r m)
  unfold heardR
  split
  · rename_i hk; exact Step.follow hm hk hv hsrc
  split
  · rename_i hk; exact Step.ack hm hk hsrc
  split
  · exact Step.turn hm hv hsrc
  split
  · rename_i hk
    split
    · rename_i hc
      intro hg h
      refine Step.take hm (.inl hk) hv ?_ ?_ hg h
      · rw [← mod_prim h, ← hc.1]; exact hsrc
      · have := hc.2
        unfold newerR at this
        rw [Bool.or_eq_true, decide_eq_true_eq] at this
        rcases this with e | e
        · exact .inl e
        · exact .inr (.inl e)
    · exact Step.refl _ _ _ _
  split
  · split
    · rename_i hc
      exact Step.told hc.2 (.inr rfl) ⟨hmn.2.2.2.1.1, hm.src, hsrc⟩
    · exact Step.refl _ _ _ _
  split
  · rename_i hk
    split
    · rename_i hc
      intro hg h
      refine Step.take hm (.inr hk) hv ?_ ?_ hg h
      · rw [← mod_prim h, ← h.id]; exact hc.1
      · rcases hc.2 with e | e
        · unfold newerR at e
          rw [Bool.or_eq_true, decide_eq_true_eq] at e
          rcases e with e | e
          · exact .inl e
          · exact .inr (.inl e)
        · exact .inr (.inr e)
    · exact Step.refl _ _ _ _
  · exact Step.refl _ _ _ _
end Go.Proofs.Ytaldoajdhbndhaa.Pa


/- What a replica keeps, and what it says, whatever it hears. No program in sight. -/

namespace Go.Proofs.Ytaldoajdhbndhaa.Pa

set_option linter.unusedVariables false

set_option linter.unusedSimpArgs false

/-- No view and no Commit goes down, what is committed stays, Active too. -/
structure Keep (a b : St) : Prop where
  view : a.view ≤ b.view
  normal : a.normal ≤ b.normal
  commit : a.commit ≤ b.commit
  log : b.log.take a.commit.toNat = a.log.take a.commit.toNat
  active : b.active = a.active
theorem Keep.refl (a : St) : Keep a a := ⟨Int.le_refl _, Int.le_refl _, Int.le_refl _, rfl, rfl⟩
theorem Keep.trans {a b c : St} (h : Keep a b) (k : Keep b c) : Keep a c := by
  refine ⟨Int.le_trans h.view k.view, Int.le_trans h.normal k.normal, Int.le_trans h.commit k.commit, ?_, k.active.trans h.active⟩
  have h1 : a.commit.toNat ≤ b.commit.toNat := by have := h.commit; omega
  have h2 : ∀ l : List Entry, l.take a.commit.toNat = (l.take b.commit.toNat).take a.commit.toNat := fun l => by rw [List.take_take, Nat.min_eq_left h1]
  rw [h2 c.log, k.log, ← h2 b.log, h.log]
theorem say_s (r : Rp) (m : Msg) : (sayR r m).s = r.s ∧ (sayR r m).n = r.n ∧ (sayR r m).id = r.id ∧ (sayR r m).ch = r.ch := by
  obtain ⟨l, e, _⟩ := sayTo_same r m r.n.toNat
  unfold sayR
  rw [e]
  exact ⟨rfl, rfl, rfl, rfl⟩
/-! ### What it says -/

/-- What is so of what is said: right, of its view, from itself, to others. -/
structure SayAt (r : Rp) (m : Msg) : Prop where
  right : msgR m = true
  src : m.src = r.id
  ne : m.dst ≠ r.id
  dst : m.dst < r.n
  view : m.view = r.s.view
  op : m.op ≤ (r.s.log.length : Int)
  commit : m.commit ≤ r.s.commit
theorem SayAt.mono {r r' : Rp} {m : Msg} (h : SayAt r m) (h1 : r'.n = r.n ∧ r'.id = r.id ∧ r'.s.view = r.s.view) (h2 : r.s.log.length ≤ r'.s.log.length) (h3 : r.s.commit ≤ r'.s.commit) : SayAt r' m :=
  ⟨h.right, by rw [h1.2.1]; exact h.src, by rw [h1.2.1]; exact h.ne, by rw [h1.1]; exact h.dst, by rw [h1.2.2]; exact h.view, by have := h.op; omega, by have := h.commit; omega⟩
def Says (r : Rp) : Prop := ∀ m ∈ r.out, SayAt r m
theorem Says.nil {r : Rp} (h : r.out = []) : Says r := fun m hm => by rw [h] at hm; cases hm
theorem Says.send {r : Rp} (h : Says r) {y : Int} {m : Msg} (hm : SayAt r { m with view := r.s.view, src := r.id, dst := y }) : Says (sendR r y m) := fun x hx => by
  rcases List.mem_append.1 hx with hx | hx
  · exact (h x hx).mono ⟨rfl, rfl, rfl⟩ (Nat.le_refl _) (Int.le_refl _)
  · rw [List.mem_singleton.1 hx]; exact hm.mono ⟨rfl, rfl, rfl⟩ (Nat.le_refl _) (Int.le_refl _)
theorem Says.say {r : Rp} (h : Says r) (hn : 0 ≤ r.n) {m : Msg} (hm : ∀ j : Int, 0 ≤ j → j < r.n → j ≠ r.id → SayAt r { m with view := r.s.view, src := r.id, dst := j }) : Says (sayR r m) := fun x hx => by
  have hs := say_s r m
  have key : SayAt r x := by
    rcases mem_sayTo r m _ x hx with hx | ⟨j, h1, h2, h3⟩
    · exact h x hx
    · rw [h3]; exact hm j (by omega) (by omega) h2
  exact key.mono ⟨hs.2.1, hs.2.2.1, by rw [hs.1]⟩ (by rw [hs.1]; exact Nat.le_refl _) (by rw [hs.1]; exact Int.le_refl _)
theorem Says.same {r r' : Rp} (h : Says r) (ho : r'.out = r.out) (h1 : r'.n = r.n ∧ r'.id = r.id ∧ r'.s.view = r.s.view) (h2 : r.s.log.length ≤ r'.s.log.length) (h3 : r.s.commit ≤ r'.s.commit) : Says r' := fun m hm => by
  rw [ho] at hm
  exact (h m hm).mono h1 h2 h3
/-- Only of the beginning of a view has been spoken. -/
def Starts (r : Rp) : Prop := ∀ m ∈ r.out, SayAt r m ∧ m.op = 0 ∧ m.commit = 0
theorem Starts.nil {r : Rp} (h : r.out = []) : Starts r := fun m hm => by rw [h] at hm; cases hm
/-! ### How long it has been quiet -/
def Qt (a b : Rp) : Prop := b.quiet = a.quiet ∨ b.quiet = 0
theorem Qt.refl (a : Rp) : Qt a a := .inl rfl
theorem Qt.trans {a b c : Rp} (h : Qt a b) (k : Qt b c) : Qt a c := by
  unfold Qt at *
  rcases k with k | k
  · rw [k]; exact h
  · exact .inr k
theorem qt_say (r : Rp) (m : Msg) : Qt r (sayR r m) := by
  obtain ⟨l, e, _⟩ := sayTo_same r m r.n.toNat
  unfold sayR
  rw [e]
  exact .inl rfl
theorem qt_begin (r : Rp) (v : Int) : Qt r (beginR r v) := by
  unfold beginR
  refine Qt.trans (b := { enterR r v with starts := ups r.id true [] }) (.inr rfl) (qt_say _ _)
theorem qt_decide (r : Rp) : Qt r (decideR r) := by
  unfold decideR
  split
  · exact Qt.trans (b := wonR r (bestTo r r.n.toNat)) (.inr rfl) (qt_say _ _)
  · exact Qt.refl _
theorem qt_see (r : Rp) : Qt r (seeR r) := by
  unfold seeR
  split
  · split
    · exact Qt.trans (b := { r with said := true }) (.inl rfl) (qt_decide _)
    · exact .inl rfl
  · exact Qt.refl _
theorem qt_take (r : Rp) (m : Msg) : Qt r (takeR r m) := by
  unfold takeR
  split
  · exact .inr rfl
  · exact Qt.refl _
theorem qt_follow (r : Rp) (m : Msg) : Qt r (followR r m) := by
  unfold followR
  split
  · exact Qt.refl _
  · have k1 : (follow1R r m).quiet = 0 := by unfold follow1R; rfl
    have k2 : (follow2R (follow1R r m) m).quiet = 0 := by unfold follow2R; split <;> exact k1
    have k3 : (follow3R (follow2R (follow1R r m) m) m).quiet = 0 := by unfold follow3R; split <;> exact k2
    refine .inr ?_
    unfold follow4R
    split
    · exact k3
    · split <;> exact k3
theorem qt_ack (r : Rp) (m : Msg) : Qt r (ackR r m) := by
  unfold ackR
  split
  · exact Qt.refl _
  · exact .inl rfl
theorem qt_turn (r : Rp) (m : Msg) : Qt r (turnR r m) := by
  have h2 : ∀ q : Rp, Qt q (turn2R q m) := fun q => by
    unfold turn2R
    split
    · exact Qt.trans (b := { q with starts := ups m.src true q.starts }) (.inl rfl) (qt_see _)
    · split
      · exact Qt.trans (b := { q with chgs := ups m.src m q.chgs }) (.inl rfl) (qt_decide _)
      · split
        · exact .inl rfl
        · exact Qt.refl _
  unfold turnR
  split
  · exact Qt.refl _
  · split
    · exact (qt_begin r _).trans (h2 _)
    · exact h2 r
theorem qt_deliver (r : Rp) (m : Msg) : Qt r (deliverR r m).1 := by
  unfold deliverR
  split
  · exact Qt.refl _
  · split
    · exact Qt.refl _
    · show Qt r (heardR r m)
      unfold heardR
      split
      · exact qt_follow r m
      · split
        · exact qt_ack r m
        · split
          · exact qt_turn r m
          · split
            · split
              · exact qt_take r m
              · exact Qt.refl _
            · split
              · split
                · exact .inl rfl
                · exact Qt.refl _
              · split
                · split
                  · exact qt_take r m
                  · exact Qt.refl _
                · exact Qt.refl _
theorem qt_submit (r : Rp) (e : Entry) : Qt r (submitR r e).1 := by
  unfold submitR
  split
  · exact Qt.refl _
  · split
    · exact Qt.refl _
    · split
      · exact Qt.refl _
      · split
        · exact Qt.refl _
        · exact Qt.trans (b := putR r [{ e with view := r.s.view }]) (.inl rfl) (qt_say _ _)
theorem qt_tick {r : Rp} (h : 0 ≤ r.quiet) : 0 ≤ (tickR r).quiet ∧ (tickR r).quiet ≤ r.quiet + 1 := by
  unfold tickR
  split
  · have := qt_say r ⟨3, 0, 0, 0, r.s.log.length, r.s.commit, 0, []⟩
    unfold Qt at this
    omega
  · split
    · have := qt_begin { r with quiet := r.quiet + 1 } (r.s.view + 1)
      unfold Qt at this
      have e : ({ r with quiet := r.quiet + 1 } : Rp).quiet = r.quiet + 1 := rfl
      rw [e] at this
      omega
    · show 0 ≤ r.quiet + 1 ∧ r.quiet + 1 ≤ r.quiet + 1
      omega

/-! ### Its config stays -/
def Cf (a b : Rp) : Prop := b.n = a.n ∧ b.id = a.id ∧ b.tm = a.tm
theorem Cf.refl (a : Rp) : Cf a a := ⟨rfl, rfl, rfl⟩
theorem Cf.trans {a b c : Rp} (h : Cf a b) (k : Cf b c) : Cf a c := ⟨k.1.trans h.1, k.2.1.trans h.2.1, k.2.2.trans h.2.2⟩
end Go.Proofs.Ytaldoajdhbndhaa.Pa


/- Several replicas and what is under way between them: what is so of them all, and what follows. -/

namespace Go.Proofs.Ytaldoajdhbndhaa.Pa

set_option linter.unusedVariables false

set_option linter.unusedSimpArgs false

/-- N replicas between two calls, t steps behind the beginning, and the messages that may come. -/
def NInv (N t : Nat) (rs : List Rp) (net : List Msg) : Prop :=
  rs.length = N ∧ (∀ r ∈ rs, r.out = [] ∧ 0 ≤ r.quiet ∧ r.quiet ≤ (t : Int)) ∧ ∃ g, GInv N g ∧ (∀ (i : Nat) r, rs[i]? = some r → RInv N g (i : Int) r) ∧ ∀ m ∈ net, MInv N g m
theorem RInv.clear {N : Nat} {g : Gh} {i : Int} {r : Rp} (h : RInv N g i r) : RInv N g i { r with out := [] } := h.same (h.ok.out []) ⟨rfl, rfl⟩ rfl (.inl rfl) (.inl rfl) (fun m hm => by cases hm)
theorem NInv.sub {N t : Nat} {rs : List Rp} {net net' : List Msg} (h : NInv N t rs net) (hs : ∀ m ∈ net', m ∈ net) : NInv N t rs net' := by
  obtain ⟨h1, h2, g, h3, h4, h5⟩ := h
  exact ⟨h1, h2, g, h3, h4, fun m hm => h5 m (hs m hm)⟩
theorem NInv.get {N t : Nat} {rs : List Rp} {net : List Msg} (h : NInv N t rs net) {i : Nat} (hi : i < N) : ∃ r, rs[i]? = some r ∧ RpOk r ∧ r.n = (N : Int) ∧ r.id = (i : Int) ∧ r.out = [] ∧ 0 ≤ r.quiet ∧ r.quiet ≤ (t : Int) := by
  obtain ⟨h1, h2, g, h3, h4, h5⟩ := h
  obtain ⟨r, hr⟩ : ∃ r, rs[i]? = some r := ⟨_, List.getElem?_eq_getElem (by omega)⟩
  have hR := h4 i r hr
  exact ⟨r, hr, hR.ok, hR.n, hR.id, h2 r (List.mem_of_getElem? hr)⟩
/-- A call of replica i: what it says comes to the messages. -/
theorem NInv.call {N t : Nat} {rs : List Rp} {net : List Msg} (h : NInv N t rs net) {i : Nat} {r r' : Rp} (hr : rs[i]? = some r) (hst : ∀ g, (∀ m ∈ net, MInv N g m) → Step N (i : Int) g r r') (hq : 0 ≤ r'.quiet ∧ r'.quiet ≤ r.quiet + 1) :
    NInv N (t + 1) (rs.set i { r' with out := [] }) (net ++ r'.out) := by
  obtain ⟨h1, h2, g, h3, h4, h5⟩ := h
  have hlt : i < rs.length := (List.getElem?_eq_some_iff.1 hr).1
  have hrq := h2 r (List.mem_of_getElem? hr)
  refine ⟨by rw [List.length_set]; exact h1, fun q hq' => ?_, ?_⟩
  · rcases List.mem_or_eq_of_mem_set hq' with e | e
    · have := h2 q e
      exact ⟨this.1, this.2.1, by have := this.2.2; omega⟩
    · rw [e]
      exact ⟨rfl, hq.1, by show r'.quiet ≤ ((t + 1 : Nat) : Int); have := hq.2; have := hrq.2.2; omega⟩
  · obtain ⟨g', q1, q2, q3⟩ := hst g h5 h3 (h4 i r hr)
    refine ⟨g', q1, fun j q hj => ?_, fun m hm => ?_⟩
    · by_cases e : j = i
      · subst e
        rw [List.getElem?_set_self hlt] at hj
        cases hj
        exact q3.clear
      · rw [List.getElem?_set_ne (fun e2 => e e2.symm)] at hj
        exact (h4 j q hj).ext q2 (by omega)
    · rcases List.mem_append.1 hm with e | e
      · exact (h5 m e).ext q2
      · exact q3.out m e
theorem NInv.tick {N t : Nat} {rs : List Rp} {net : List Msg} (h : NInv N t rs net) {i : Nat} {r : Rp} (hr : rs[i]? = some r) : NInv N (t + 1) (rs.set i { tickR r with out := [] }) (net ++ (tickR r).out) := by
  have hok : RpOk r := by obtain ⟨_, _, g, _, h4, _⟩ := h; exact (h4 i r hr).ok
  have hq := (h.2.1 r (List.mem_of_getElem? hr)).2.1
  exact h.call hr (fun g _ => Step.tick hok) (qt_tick hq)
theorem NInv.submit {N t : Nat} {rs : List Rp} {net : List Msg} (h : NInv N t rs net) {i : Nat} {r : Rp} (hr : rs[i]? = some r) (e : Entry) : NInv N (t + 1) (rs.set i { (submitR r e).1 with out := [] }) (net ++ (submitR r e).1.out) := by
  have hq := (h.2.1 r (List.mem_of_getElem? hr)).2.1
  refine h.call hr (fun g _ => Step.submit e) ?_
  have := qt_submit r e
  unfold Qt at this
  omega
theorem NInv.deliver {N t : Nat} {rs : List Rp} {net : List Msg} (h : NInv N t rs net) {m : Msg} (hm : m ∈ net) {i : Nat} (hi : m.dst = (i : Int)) {r : Rp} (hr : rs[i]? = some r) :
    NInv N (t + 1) (rs.set i { (deliverR r m).1 with out := [] }) (net ++ (deliverR r m).1.out) ∧ (deliverR r m).2 = 0 := by
  have hq := (h.2.1 r (List.mem_of_getElem? hr)).2.1
  obtain ⟨k1, k2, g, k3, k4, k5⟩ := id h
  have hR := k4 i r hr
  have hM := k5 m hm
  refine ⟨h.call hr (fun g' hg' => Step.deliver (hg' m hm) hR.id) ?_, ?_⟩
  · have := qt_deliver r m
    unfold Qt at this
    omega
  · have hmt : meantR r m = true := by
      unfold meantR
      rw [Bool.and_eq_true, decide_eq_true_eq]
      refine ⟨hM.right, by rw [hR.id]; exact hi, ?_, by rw [hR.n]; exact hM.src⟩
      have := hM.ne
      rw [hR.id]
      omega
    unfold deliverR
    rw [if_neg (by rw [hmt]; exact Bool.noConfusion)]
    split <;> rfl
theorem NInv.dst {N t : Nat} {rs : List Rp} {net : List Msg} (h : NInv N t rs net) {m : Msg} (hm : m ∈ net) : 0 ≤ m.dst ∧ m.dst < (N : Int) := by
  obtain ⟨k1, k2, g, k3, k4, k5⟩ := h
  have hM := k5 m hm
  exact ⟨(msgR_num hM.right).2.2.2.2.1.1, hM.dst⟩
theorem NInv.inc {N t : Nat} {rs : List Rp} {net : List Msg} (h : NInv N t rs net) {i : Nat} {a : Rp} (ha : rs[i]? = some a) : Inc a.s.log := by
  obtain ⟨k1, k2, g, k3, k4, k5⟩ := h
  have hA := k4 i a ha
  exact (k3.inc _ hA.d).pre hA.hi
def emptyS : St := ⟨0, 0, 0, 0, []⟩
theorem empty_right : stR emptyS = true := by decide
theorem cfg_team {N id : Nat} (hN : N = 3 ∨ N = 5 ∨ N = 7) (hid : id < N) : cfgR (N : Int) (id : Int) 3 = true := by
  unfold cfgR
  rw [decide_eq_true_eq]
  omega
theorem NInv.start {N : Nat} (hN : N = 3 ∨ N = 5 ∨ N = 7) : NInv N 0 ((List.range N).map fun k : Nat => newR (N : Int) (k : Int) 3 emptyS) [] := by
  refine ⟨by simp, fun r hr => ?_, ⟨fun v => v = 0, fun _ => [], fun _ => [], fun _ _ => 0, fun _ => 0⟩, ⟨by omega, fun _ _ => List.prefix_refl _, fun i v h => (by cases h), fun i v => Nat.le_refl _, fun u hu => ⟨_, maj_all (by omega), fun j _ => by rw [hu]; exact Int.le_refl _⟩, fun u v hu hv hlt => by omega, fun v _ i j a b _ ha => by simp at ha⟩, fun i r hr => ?_, fun m hm => (by cases hm)⟩
  · obtain ⟨k, _, rfl⟩ := List.mem_map.1 hr
    exact ⟨rfl, Int.le_refl _, Int.le_refl _⟩
  · obtain ⟨k, hk, hk2, hk3⟩ : ∃ k : Nat, k < N ∧ newR (N : Int) (k : Int) 3 emptyS = r ∧ k = i := by
      rw [List.getElem?_map] at hr
      cases hq : (List.range N)[i]? with
      | none => rw [hq] at hr; cases hr
      | some q =>
        rw [hq] at hr
        obtain ⟨h1, h2⟩ := List.getElem?_eq_some_iff.1 hq
        rw [List.getElem_range] at h2
        rw [List.length_range] at h1
        subst h2
        exact ⟨i, h1, by simpa using hr, rfl⟩
    subst hk2
    subst hk3
    exact ⟨RpOk.new (cfg_team hN hk) empty_right, rfl, rfl, rfl, rfl, List.nil_prefix, List.nil_prefix, rfl, fun _ _ => rfl, Safe.zero (by omega) rfl, fun v hv _ => ⟨by rw [hv]; exact Int.le_refl _, fun _ => rfl⟩, fun p hp => (by cases hp), fun p hp => (by cases hp), fun m hm => (by cases hm)⟩
end Go.Proofs.Ytaldoajdhbndhaa.Pa


/- How much a replica says at one call. -/

namespace Go.Proofs.Ytaldoajdhbndhaa.Pa

set_option linter.unusedVariables false

set_option linter.unusedSimpArgs false

/-- So much more is said. -/
def Sl (k : Nat) (a b : Rp) : Prop := b.out.length ≤ a.out.length + k
theorem Sl.refl (k : Nat) (a : Rp) : Sl k a a := Nat.le_add_right _ _
theorem Sl.trans {j k : Nat} {a b c : Rp} (h : Sl j a b) (h2 : Sl k b c) : Sl (j + k) a c := by unfold Sl at *; omega
end Go.Proofs.Ytaldoajdhbndhaa.Pa


/- What the laws of replicas share: types, a replica between two calls, an entry that changes nothing. -/

namespace Go.Proofs.Ytaldoajdhbndhaa.Pa

set_option linter.unusedVariables false

set_option linter.unusedSimpArgs false

open Go.RowKit Go.Proofs.Ytaldoajdhbndhaa.C

attribute [local go_sem] max2_int min2_int max_two min_two

theorem st_field2 (a b c d : Int) (A : Option Addr) (n k : Nat) (W : World) : (Instr.field 26 (.agg #[.int .i64 a, .int .i64 b, .int .i64 c, .int .i64 d, .slice A n k]) 2).run Try.prog W = .ok (.int .i64 c) W := by kernel_rfl
/-- A replica between two calls. -/
structure RQ (w : World) (p b1 b2 b3 : Nat) (X : Nat → Prop) (r : Rp) : Prop where
  ok : RpOk r
  out : r.out = []
  rep : ∃ A n c, Rep w w p b1 b2 b3 X r A n c (.slice none 0 0)
theorem RQ.chg {w w' : World} {p b1 b2 b3 : Nat} {X M : Nat → Prop} {r : Rp} (h : RQ w p b1 b2 b3 X r) (hc : Chg M w w') (hM : ∀ k, M k → k < w.heap.size → X k ∧ ¬ M4 p b1 b2 b3 k) : RQ w' p b1 b2 b3 X r := by
  obtain ⟨A, n, c, hr⟩ := h.rep
  exact ⟨h.ok, h.out, A, n, c, (hr.apart (hc.mono hM)).again h.out⟩
theorem RQ.far {w w' : World} {p b1 b2 b3 : Nat} {X : Nat → Prop} {r : Rp} (h : RQ w p b1 b2 b3 X r) (hc : Chg (fun _ => False) w w') : RQ w' p b1 b2 b3 X r := h.chg hc (fun _ h _ => h.elim)
theorem Stood.rq {w w' : World} {p b1 b2 b3 : Nat} {X : Nat → Prop} {r : Rp} {v : Value → Value} {e' : Ending} (h : Stood w p b1 b2 b3 X r v e' w') (hok : RpOk r) : ∃ A c, e' = .returned (v (.slice A r.out.length c)) ∧ RQ w' p b1 b2 b3 X { r with out := [] } ∧ Vec msgK 41 w' (fun k => w.heap.size ≤ k) (fun k => w.heap.size ≤ k) (.slice A r.out.length c) r.out ∧ Chg (M4 p b1 b2 b3) w w' := by
  obtain ⟨O', rfl, ⟨A', n', c', h1⟩, h2, h3⟩ := h
  obtain ⟨A, c, rfl⟩ := h2.form
  exact ⟨A, c, rfl, ⟨hok.out [], rfl, A', n', c', h1.again rfl⟩, h2, h3⟩
theorem RQ.lt {w : World} {p b1 b2 b3 : Nat} {X : Nat → Prop} {r : Rp} (h : RQ w p b1 b2 b3 X r) : ∀ k, M4 p b1 b2 b3 k → k < w.heap.size := by
  obtain ⟨A, n, c, hr⟩ := h.rep
  exact fun k hk => hr.sub.2 k (hr.sub.1 k hk)
/-- More blocks are kept apart, which were new behind it. -/
theorem RQ.widen {w w' : World} {p b1 b2 b3 : Nat} {X Y : Nat → Prop} {r : Rp} (h : RQ w p b1 b2 b3 X r) (hc : Chg (fun _ => False) w w') (hY : ∀ k, Y k → w.heap.size ≤ k ∧ k < w'.heap.size) : RQ w' p b1 b2 b3 (fun k => X k ∨ Y k) r := by
  obtain ⟨A, n, c, h0⟩ := h.rep
  refine ⟨h.ok, h.out, A, n, c, ?_⟩
  obtain ⟨V, h3, h4⟩ := h0.chgs
  have hs := hc.size
  have hl := h0.lt
  have hlg : ∀ k, Lg X (.slice none 0 0) k ∧ k < w.heap.size → Lg (fun k => X k ∨ Y k) (.slice none 0 0) k := fun k hk => ⟨fun e => by rcases e with e | e; exact hk.1.1 e; have := (hY k e).1; have := hk.2; omega, hk.1.2⟩
  exact ⟨Nat.le_refl _, by omega, h0.ne, ⟨fun k hk => .inl (h0.sub.1 k hk), fun k hk => by rcases hk with e | e; have := h0.sub.2 k e; omega; exact (hY k e).2⟩, hc.blk h0.blk (fun h => h), h0.acks.chg hc (fun h => h), h0.starts.chg hc (fun h => h), ⟨V, h3.chg hc (fun h => h), (h4.bound.chg hc (fun _ _ h => h)).mono hlg⟩, (h0.log.bound.chg hc (fun _ _ h => h)).mono hlg, by rw [h.out]; exact Vec.nil _ _ _ _ _⟩
theorem RQ.less {w : World} {p b1 b2 b3 : Nat} {X X' : Nat → Prop} {r : Rp} (h : RQ w p b1 b2 b3 X r) (h1 : ∀ k, M4 p b1 b2 b3 k → X' k) (h2 : ∀ k, X' k → X k) : RQ w p b1 b2 b3 X' r := by
  obtain ⟨A, n, c, hr⟩ := h.rep
  exact ⟨h.ok, h.out, A, n, c, hr.less h1 h2⟩
theorem RQ.of_new {R : Nat → Prop} {n id tm : Int} {s : St} {w : World} {e' : Ending} {w' : World} (h : NewTo R n id tm s w e' w') (hc : cfgR n id tm = true) (hs : stR s = true) : ∃ p b1 b2 b3, e' = .returned (.tuple #[.pointer (some ⟨p, 0, none⟩), .int .i64 0]) ∧ (∀ k, M4 p b1 b2 b3 k → w.heap.size ≤ k ∧ k < w'.heap.size) ∧ RQ w' p b1 b2 b3 (fun k => M4 p b1 b2 b3 k ∨ (¬ R k ∧ k < w.heap.size)) (newR n id tm s) ∧ Chg (fun _ => False) w w' := by
  rcases h with ⟨h, _⟩ | ⟨_, _, p, b1, b2, b3, A, k, c, rfl, h1, h2, h3⟩
  · exact absurd ⟨hc, hs⟩ h
  · exact ⟨p, b1, b2, b3, rfl, h1, ⟨RpOk.new hc hs, rfl, A, k, c, h2⟩, h3⟩
theorem rq_role {w : World} {p b1 b2 b3 : Nat} {X : Nat → Prop} {r : Rp} (h : RQ w p b1 b2 b3 X r) : Calls Try.prog 16 #[.pointer (some ⟨p, 0, none⟩)] w fun e' w' => e' = .returned (.int .i64 (roleR r)) ∧ Chg (fun _ => False) w w' := by
  obtain ⟨A, n, c, hr⟩ := h.rep
  exact role_any hr h.ok.cfg.1 h.ok.stn.1
theorem rq_state {w : World} {p b1 b2 b3 : Nat} {X : Nat → Prop} {r : Rp} (h : RQ w p b1 b2 b3 X r) : Calls Try.prog 15 #[.pointer (some ⟨p, 0, none⟩)] w (fun e' w' => ∃ A' c', e' = .returned (.agg #[.int .i64 r.s.view, .int .i64 r.s.normal, .int .i64 r.s.commit, .int .i64 r.s.active, .slice A' r.s.log.length c']) ∧ Ty.At entryK w' (fun k => w.heap.size ≤ k ∧ k < w'.heap.size) A' r.s.log.length c' r.s.log ∧ Chg (fun _ => False) w w') := by
  obtain ⟨A, n, c, hr⟩ := h.rep
  refine (rstate_any hr h.ok).mono ?_
  rintro e' w' ⟨A', n', c', rfl, hat, hc⟩
  obtain rfl := hat.1
  exact ⟨A', c', rfl, hat, hc⟩
/-- What a call makes of a replica and its messages. -/
def Did (w : World) (p b1 b2 b3 : Nat) (X : Nat → Prop) (r' : Rp) (v : Value → Value) (e' : Ending) (w' : World) : Prop :=
  ∃ A c, e' = .returned (v (.slice A r'.out.length c)) ∧ RQ w' p b1 b2 b3 X { r' with out := [] } ∧ Vec msgK 41 w' (fun k => w.heap.size ≤ k) (fun k => w.heap.size ≤ k) (.slice A r'.out.length c) r'.out ∧ Chg (M4 p b1 b2 b3) w w'
theorem rq_submit {w : World} {p b1 b2 b3 : Nat} {X : Nat → Prop} {r : Rp} (h : RQ w p b1 b2 b3 X r) {e : Entry} {R : Nat → Prop} {E1 : Option Addr} {m1 d1 : Nat} {E2 : Option Addr} {m2 d2 : Nat} (he : EntryAt w R e E1 m1 d1 E2 m2 d2) :
    Calls Try.prog 40 #[.pointer (some ⟨p, 0, none⟩), .agg #[.int .i64 e.view, .int .i64 e.client, .int .i64 e.request, .int .i64 e.dflt, .int .i64 e.closed, .int .i64 e.fuel, .int .i64 e.stack, .slice E1 m1 d1, .slice E2 m2 d2]] w (Did w p b1 b2 b3 X (submitR r e).1 (fun O => .tuple #[O, .int .i64 (submitR r e).2])) := by
  obtain ⟨A, n, c, hr⟩ := h.rep
  exact (submit_any hr he h.ok h.out).mono (fun e' w' h' => h'.rq (h.ok.submit e))
theorem rq_tick {w : World} {p b1 b2 b3 : Nat} {X : Nat → Prop} {r : Rp} (h : RQ w p b1 b2 b3 X r) (hq : 0 ≤ r.quiet ∧ r.quiet ≤ 1000000) :
    Calls Try.prog 41 #[.pointer (some ⟨p, 0, none⟩)] w (Did w p b1 b2 b3 X (tickR r) (fun O => O)) := by
  obtain ⟨A, n, c, hr⟩ := h.rep
  exact (tick_any hr h.ok h.out hq).mono (fun e' w' h' => h'.rq h.ok.tick)
theorem rq_deliver {w : World} {p b1 b2 b3 : Nat} {X : Nat → Prop} {r : Rp} (h : RQ w p b1 b2 b3 X r) {m : Msg} {R : Nat → Prop} {B : Option Addr} {k d : Nat} (hm : Ty.At entryK w R B k d m.log) (hR : ∀ j, R j → j < w.heap.size → ¬ M4 p b1 b2 b3 j) :
    Calls Try.prog 18 #[.pointer (some ⟨p, 0, none⟩), .agg #[.int .i64 m.kind, .int .i64 m.view, .int .i64 m.src, .int .i64 m.dst, .int .i64 m.op, .int .i64 m.commit, .int .i64 m.normal, .slice B k d]] w (Did w p b1 b2 b3 X (deliverR r m).1 (fun O => .tuple #[O, .int .i64 (deliverR r m).2])) := by
  obtain ⟨A, n, c, hr⟩ := h.rep
  exact (deliver_any hr hm hR h.ok h.out).mono (fun e' w' h' => h'.rq (h.ok.deliver m))
set_option maxHeartbeats 4000000 in
set_option maxRecDepth 100000 in
theorem entry15_any (c q : Int) (w : World) : Calls Try.prog 39 #[.int .i64 c, .int .i64 q] w fun e' w' => e' = .returned (.agg #[.int .i64 0, .int .i64 c, .int .i64 q, .int .i64 (-1), .int .i64 (-1), .int .i64 (-1), .int .i64 (-1), .slice none 0 0, .slice none 0 0]) ∧ Chg (fun _ => False) w w' := by
  go_enter Try.func39, Try.ntmps39
  go_wp2_with fail
  obtain ⟨W, hW⟩ : ∃ q_, q_ = w.alloc (.cells #[.int .i64 0, .int .i64 c, .int .i64 q, .int .i64 (-1), .int .i64 (-1), .int .i64 (-1), .int .i64 (-1), .slice none 0 0, .slice none 0 0] 56) := ⟨_, rfl⟩
  rw [← hW]
  have BX2 := hid (show W.heap[w.heap.size]? = some (.cells #[.int .i64 0, .int .i64 c, .int .i64 q, .int .i64 (-1), .int .i64 (-1), .int .i64 (-1), .int .i64 (-1), .slice none 0 0, .slice none 0 0] 56 (0, 0)) by rw [hW]; exact blk_new w _)
  have CW := hid (show Chg (fun _ => False) w W by rw [hW]; exact (Chg.refl _ w).alloc _)
  clear hW
  have z0 : W.cell? ⟨w.heap.size, 0, none⟩ = some (.int .i64 0) := (cellAt BX2.out 0).trans rfl
  have z1 : W.cell? ⟨w.heap.size, 1, none⟩ = some (.int .i64 c) := (cellAt BX2.out 1).trans rfl
  have z2 : W.cell? ⟨w.heap.size, 2, none⟩ = some (.int .i64 q) := (cellAt BX2.out 2).trans rfl
  have z3 : W.cell? ⟨w.heap.size, 3, none⟩ = some (.int .i64 (-1)) := (cellAt BX2.out 3).trans rfl
  have z4 : W.cell? ⟨w.heap.size, 4, none⟩ = some (.int .i64 (-1)) := (cellAt BX2.out 4).trans rfl
  have z5 : W.cell? ⟨w.heap.size, 5, none⟩ = some (.int .i64 (-1)) := (cellAt BX2.out 5).trans rfl
  have z6 : W.cell? ⟨w.heap.size, 6, none⟩ = some (.int .i64 (-1)) := (cellAt BX2.out 6).trans rfl
  have z7 : W.cell? ⟨w.heap.size, 7, none⟩ = some (.slice none 0 0) := (cellAt BX2.out 7).trans rfl
  have z8 : W.cell? ⟨w.heap.size, 8, none⟩ = some (.slice none 0 0) := (cellAt BX2.out 8).trans rfl
  refine bodyPost_ret (v := .agg #[.int .i64 0, .int .i64 c, .int .i64 q, .int .i64 (-1), .int .i64 (-1), .int .i64 (-1), .int .i64 (-1), .slice none 0 0, .slice none 0 0]) (by simp [results, Try.results39, go_sem, z0, z1, z2, z3, z4, z5, z6, z7, z8]) rfl ?_
  exact ⟨rfl, CW.out⟩
end Go.Proofs.Ytaldoajdhbndhaa.Pa


/- The anchor of the statements about replicas. -/

namespace Go.Proofs.Ytaldoajdhbndhaa.Pa

set_option linter.unusedVariables false

set_option linter.unusedSimpArgs false

open Go.RowKit Go.Proofs.Ytaldoajdhbndhaa.C

attribute [local go_sem] max2_int min2_int max_two min_two

def e15 : Entry := ⟨0, 1, 1, -1, -1, -1, -1, [], []⟩
def ra15 : Rp := newR 3 0 5 st0
def rb15 : Rp := newR 3 1 5 st0
def ra15' : Rp := { (submitR ra15 e15).1 with out := [] }
def m15 : Msg := ⟨1, 0, 0, 1, 1, 0, 0, [e15]⟩
def n15 : Msg := ⟨2, 0, 1, 0, 1, 0, 0, []⟩
theorem a15_1 : (submitR ra15 e15).1.out = [m15, { m15 with dst := 2 }] := by rfl
theorem a15_2 : (submitR ra15 e15).2 = 0 := by rfl
theorem a15_3 : (deliverR rb15 m15).1.out = [n15] := by rfl
theorem a15_4 : (deliverR rb15 m15).2 = 0 := by rfl
theorem a15_5 : (deliverR ra15' n15).2 = 0 := by rfl
theorem a15_6 : (deliverR ra15' n15).1.s.commit = 1 := by rfl
theorem a15_7 : (deliverR rb15 m15).1.s.commit = 0 := by rfl
def ra15'' : Rp := { (deliverR ra15' n15).1 with out := [] }
def rb15' : Rp := { (deliverR rb15 m15).1 with out := [] }
theorem a15_8 : roleR ra15 = 1 ∧ roleR rb15 = 0 := by decide
/-- The first of some messages, in memory. -/
theorem vec_head {w : World} {S D : Nat → Prop} {A : Option Addr} {n c : Nat} {m : Msg} {l : List Msg} (h : Vec msgK 41 w S D (.slice A n c) (m :: l)) : ∃ g B k d, A = some ⟨g, 0, none⟩ ∧ S g ∧ g < w.heap.size ∧ Ty.At entryK w (fun j => D j ∧ j ≠ g ∧ j < w.heap.size) B k d m.log ∧ ∀ W, Chg (fun _ => False) w W → W.cell? ⟨g, 0, none⟩ = some (.int .i64 m.kind) ∧ W.cell? ⟨g, 1, none⟩ = some (.int .i64 m.view) ∧ W.cell? ⟨g, 2, none⟩ = some (.int .i64 m.src) ∧ W.cell? ⟨g, 3, none⟩ = some (.int .i64 m.dst) ∧ W.cell? ⟨g, 4, none⟩ = some (.int .i64 m.op) ∧ W.cell? ⟨g, 5, none⟩ = some (.int .i64 m.commit) ∧ W.cell? ⟨g, 6, none⟩ = some (.int .i64 m.normal) ∧ W.cell? ⟨g, 7, none⟩ = some (.slice B k d) := by
  obtain ⟨g, cs, rfl, hg, hlt, hK, hc⟩ := h.get (by decide) (i := 0) (x := m) rfl
  have hK' : msgK.K w (fun j => D j ∧ j ≠ g ∧ j < w.heap.size) m cs.toArray.toList := by rw [List.toList_toArray]; exact hK
  obtain ⟨B, k, d, e2, hm⟩ := msg_open hK'
  have e3 := congrArg Array.toList e2
  rw [List.toList_toArray] at e3
  subst e3
  refine ⟨g, B, k, d, rfl, hg, hlt, hm, fun W hW => ?_⟩
  have h' : ∀ j u, ([.int .i64 m.kind, .int .i64 m.view, .int .i64 m.src, .int .i64 m.dst, .int .i64 m.op, .int .i64 m.commit, .int .i64 m.normal, .slice B k d] : List Value)[j]? = some u → W.cell? ⟨g, j, none⟩ = some u := fun j u hj => by
    have := hW.cell (hc j u hj) (fun h => h)
    rwa [Nat.zero_mul, Nat.zero_add] at this
  exact ⟨h' 0 _ rfl, h' 1 _ rfl, h' 2 _ rfl, h' 3 _ rfl, h' 4 _ rfl, h' 5 _ rfl, h' 6 _ rfl, h' 7 _ rfl⟩
set_option maxHeartbeats 4000000 in
set_option maxRecDepth 100000 in
theorem anchor15_any (w : World) : Calls Try.prog 11 #[] w fun e w' => e = .returned (.bool true) ∧ Chg (fun _ => False) w w' := by
  go_enter Try.func11, Try.ntmps11
  go_wp2_with fail
  refine (rnew_any (R := fun _ => False) (n := 3) (id := 0) (tm := 5) (s := st0) (k := 0) (at_nil_ _ _ _) (by decide) ⟨by decide, by decide, by decide⟩).mono ?_
  intro e1 w1 h1
  obtain ⟨p, b1, b2, b3, rfl, hb, hq, k1⟩ := RQ.of_new h1 (by decide) (by decide)
  have HB := hid hb
  have QA := hid (show RQ w1 p b1 b2 b3 (fun k => M4 p b1 b2 b3 k ∨ (¬ False ∧ k < w.heap.size)) ra15 from hq)
  have K1 := hid k1
  clear h1 hb hq k1
  go_wp2_with fail
  refine (rnew_any (R := fun _ => False) (n := 3) (id := 1) (tm := 5) (s := st0) (k := 0) (at_nil_ _ _ _) (by decide) ⟨by decide, by decide, by decide⟩).mono ?_
  intro e2 w2 h2
  obtain ⟨q, c1, c2, c3, rfl, hb, hq, k2⟩ := RQ.of_new h2 (by decide) (by decide)
  have HC := hid hb
  have K2 := hid (K1.out.trans k2 (fun _ h _ => h))
  obtain ⟨X, hX⟩ : ∃ X : Nat → Prop, ∀ k, X k ↔ (M4 p b1 b2 b3 k ∨ M4 q c1 c2 c3 k) := ⟨_, fun _ => Iff.rfl⟩
  have HX := hid hX
  replace QA := hid ((QA.out.widen k2 hb).less (X' := X) (fun k hk => (hX k).2 (.inl hk)) (fun k hk => by rcases (hX k).1 hk with h | h; exact .inl (.inl h); exact .inr h))
  have QB := hid (show RQ w2 q c1 c2 c3 X rb15 from hq.less (X' := X) (fun k hk => (hX k).2 (.inr hk)) (fun k hk => by rcases (hX k).1 hk with h | h; exact .inr ⟨fun h => h, (HB.out k h).2⟩; exact .inl h))
  have DJ := hid (show ∀ k, M4 p b1 b2 b3 k → ¬ M4 q c1 c2 c3 k from fun k h1 h2 => by have := (HB.out k h1).2; have := (HC.out k h2).1; omega)
  have NEW := hid (show ∀ k, X k → w.heap.size ≤ k from fun k hk => by rcases (hX k).1 hk with h | h; exact (HB.out k h).1; exact Nat.le_trans K1.out.size (HC.out k h).1)
  clear h2 hb hq k2 hX
  go_wp2_with fail
  refine (rq_role QA.out).mono ?_
  rintro e w3 ⟨rfl, k3⟩
  rw [a15_8.1]
  have K3 := hid (K2.out.trans k3 (fun _ h _ => h))
  replace QA := hid (QA.out.far k3)
  replace QB := hid (QB.out.far k3)
  clear k3
  go_wp2_with fail
  refine (rq_role QB.out).mono ?_
  rintro e w4 ⟨rfl, k4⟩
  rw [a15_8.2]
  have K4 := hid (K3.out.trans k4 (fun _ h _ => h))
  replace QA := hid (QA.out.far k4)
  replace QB := hid (QB.out.far k4)
  clear k4
  go_wp2_with fail
  refine (entry15_any 1 1 _).mono ?_
  rintro e w5 ⟨rfl, k5⟩
  have K5 := hid (K4.out.trans k5 (fun _ h _ => h))
  replace QA := hid (QA.out.far k5)
  replace QB := hid (QB.out.far k5)
  clear k5
  go_wp2_with fail
  refine (rq_submit QA.out (e := e15) (R := fun _ => False) ⟨by decide, at_nil_ _ _ _, at_nil_ _ _ _⟩).mono ?_
  rintro e w6 ⟨A, c, rfl, hq, hv, k6⟩
  rw [a15_1, a15_2]
  rw [a15_1] at hv
  have K6 := hid (show Chg (fun k => X k) w w6 from (K5.out.mono (S' := fun k => X k) (fun _ h _ => h.elim)).trans k6 (fun k hk _ => (HX.out k).2 (.inl hk)))
  have S5 := hid (show ∀ k, X k → k < w5.heap.size from fun k hk => by rcases (HX.out k).1 hk with h | h; exact QA.out.lt k h; exact QB.out.lt k h)
  have Z6 := hid k6.size
  replace QA := hid (show RQ w6 p b1 b2 b3 X ra15' from hq)
  replace QB := hid (QB.out.chg k6 (fun k hk _ => ⟨(HX.out k).2 (.inl hk), DJ.out k hk⟩))
  clear hq k6
  rw [show ([m15, { m15 with dst := 2 }] : List Msg).length = 2 from rfl]
  replace hv : Vec msgK 41 w6 (fun k => w5.heap.size ≤ k) (fun k => w5.heap.size ≤ k) (.slice A 2 c) [m15, { m15 with dst := 2 }] := hv
  obtain ⟨g, B, k, d, rfl, hg, hlt, hm, hcells⟩ := vec_head hv
  have HM := hid hm
  have HG := hid hg
  obtain ⟨o0, o1, o2, o3, o4, o5, o6, o7⟩ := hcells _ (Chg.refl _ w6)
  have O_0 : w6.cell? ⟨g, 0, none⟩ = some (.int .i64 1) := o0
  have O_1 : w6.cell? ⟨g, 1, none⟩ = some (.int .i64 0) := o1
  have O_2 : w6.cell? ⟨g, 2, none⟩ = some (.int .i64 0) := o2
  have O_3 : w6.cell? ⟨g, 3, none⟩ = some (.int .i64 1) := o3
  have O_4 : w6.cell? ⟨g, 4, none⟩ = some (.int .i64 1) := o4
  have O_5 : w6.cell? ⟨g, 5, none⟩ = some (.int .i64 0) := o5
  have O_6 : w6.cell? ⟨g, 6, none⟩ = some (.int .i64 0) := o6
  have O_7 := o7
  clear hcells o0 o1 o2 o3 o4 o5 o6 o7 hv hm hg hlt
  go_wp2_with fail
  clear O_0 O_1 O_2 O_3 O_4 O_5 O_6 O_7
  refine (rq_deliver QB.out (m := m15) HM.out (fun j hj _ e => by have h1 := S5.out j ((HX.out j).2 (.inr e)); have h2 := hj.1; omega)).mono ?_
  rintro e w7 ⟨A7, c7, rfl, hq, hv, k7⟩
  rw [a15_3, a15_4]
  rw [a15_3] at hv
  rw [show ([n15] : List Msg).length = 1 from rfl]
  have K7 := hid (K6.out.trans k7 (fun k hk _ => (HX.out k).2 (.inr hk)))
  have S6 := hid (show ∀ k, X k → k < w6.heap.size from fun k hk => by have := S5.out k hk; have := Z6.out; omega)
  have Z7 := hid k7.size
  replace QB := hid (show RQ w7 q c1 c2 c3 X rb15' from hq)
  replace QA := hid (QA.out.chg k7 (fun k hk _ => ⟨(HX.out k).2 (.inr hk), fun e => DJ.out k e hk⟩))
  clear hq k7
  replace hv : Vec msgK 41 w7 (fun k => w6.heap.size ≤ k) (fun k => w6.heap.size ≤ k) (.slice A7 1 c7) [n15] := hv
  obtain ⟨g7, B7, j7, d7, rfl, hg, hlt, hm, hcells⟩ := vec_head hv
  have HM7 := hid hm
  obtain ⟨o0, o1, o2, o3, o4, o5, o6, o7⟩ := hcells _ (Chg.refl _ w7)
  have O_0 : w7.cell? ⟨g7, 0, none⟩ = some (.int .i64 2) := o0
  have O_1 : w7.cell? ⟨g7, 1, none⟩ = some (.int .i64 0) := o1
  have O_2 : w7.cell? ⟨g7, 2, none⟩ = some (.int .i64 1) := o2
  have O_3 : w7.cell? ⟨g7, 3, none⟩ = some (.int .i64 0) := o3
  have O_4 : w7.cell? ⟨g7, 4, none⟩ = some (.int .i64 1) := o4
  have O_5 : w7.cell? ⟨g7, 5, none⟩ = some (.int .i64 0) := o5
  have O_6 : w7.cell? ⟨g7, 6, none⟩ = some (.int .i64 0) := o6
  have O_7 := o7
  clear hcells o0 o1 o2 o3 o4 o5 o6 o7 hv hm hg hlt
  go_wp2_with fail
  clear O_0 O_1 O_2 O_3 O_4 O_5 O_6 O_7
  refine (rq_deliver QA.out (m := n15) HM7.out (fun j hj _ e => by have h1 := S6.out j ((HX.out j).2 (.inl e)); have h2 := hj.1; omega)).mono ?_
  rintro e w8 ⟨A8, c8, rfl, hq, hv, k8⟩
  rw [a15_5]
  have K8 := hid (K7.out.trans k8 (fun k hk _ => (HX.out k).2 (.inl hk)))
  replace QA := hid (show RQ w8 p b1 b2 b3 X ra15'' from hq)
  replace QB := hid (QB.out.chg k8 (fun k hk _ => ⟨(HX.out k).2 (.inl hk), DJ.out k hk⟩))
  clear hq k8 hv
  go_wp2_with fail
  refine (rq_state QA.out).mono ?_
  rintro e w9 ⟨A9, c9, rfl, hat, k9⟩
  rw [show ra15''.s.commit = 1 from a15_6]
  have hfd := st_field2
  have K9 := hid (K8.out.trans k9 (fun _ h _ => h.elim))
  replace QB := hid (QB.out.far k9)
  clear hat k9
  go_wp2_with fail
  refine (rq_state QB.out).mono ?_
  rintro e w10 ⟨A10, c10, rfl, hat, k10⟩
  rw [show rb15'.s.commit = 0 from a15_7]
  have K10 := hid (K9.out.trans k10 (fun _ h _ => h.elim))
  clear hat k10
  go_wp2_with fail
  go_ret
  exact ⟨rfl, K10.out.mono (fun k hk hl => by have := NEW.out k hk; omega)⟩
end Go.Proofs.Ytaldoajdhbndhaa.Pa


/- A step of a replica, and which steps can be gone through with. -/

namespace Go.Proofs.Ytaldoajdhbndhaa.Pa

set_option linter.unusedVariables false

set_option linter.unusedSimpArgs false

open Go.RowKit Go.Proofs.Ytaldoajdhbndhaa.C

attribute [local go_sem] max2_int min2_int max_two min_two

theorem Did.none_ {w w' : World} {p b1 b2 b3 : Nat} {X : Nat → Prop} {r : Rp} {v : Value → Value} {e' : Ending} (h : RQ w p b1 b2 b3 X r) (hc : Chg (fun _ => False) w w') (he : e' = .returned (v (.slice none 0 0))) : Did w p b1 b2 b3 X r v e' w' :=
  ⟨none, 0, by rw [h.out]; exact he, by rw [out_nil h.out]; exact h.far hc, by rw [h.out]; exact Vec.nil _ _ _ _ _, hc.mono (fun _ h _ => h.elim)⟩
end Go.Proofs.Ytaldoajdhbndhaa.Pa


/- Several replicas in memory, and the messages between them. -/

namespace Go.Proofs.Ytaldoajdhbndhaa.Pa

set_option linter.unusedVariables false

set_option linter.unusedSimpArgs false

open Go.RowKit Go.Proofs.Ytaldoajdhbndhaa.C

/-- A pointer to a block's beginning. -/
def ptrK : Ty Nat where
  sz := 1
  K := fun _ _ x cs => cs = [.pointer (some ⟨x, 0, none⟩)]
  len := fun h => by rw [h]; rfl
  one := fun h u hu => by subst h; simp at hu; subst hu; rfl
  chg := fun h _ _ => h
  mono := fun h _ => h
  bound := fun h => h
theorem Vec.self {α : Type} {d : Ty α} {e : TypeId} {w : World} {S D : Nat → Prop} {v : Value} {xs : List α} (h : Vec d e w S D v xs) : Vec d e w (fun k => v.ownBlock = some k) D v xs := by
  obtain ⟨cells, h1, h2, h3⟩ := h
  exact ⟨cells, h1, fun k hk => hk, h3⟩
theorem Vec.off {α : Type} {d : Ty α} {e : TypeId} {w : World} {S D : Nat → Prop} {v : Value} {xs : List α} (h : Vec d e w S D v xs) : Vec d e w S (fun k => D k ∧ v.ownBlock ≠ some k) v xs := by
  obtain ⟨cells, h1, h2, h3⟩ := h
  exact ⟨cells, h1, h2, h3.mono (fun k hk => ⟨⟨hk.1, hk.2.1⟩, hk.2⟩)⟩
/-- More blocks are kept apart, which were new behind it; others of them may have changed. -/
theorem RQ.wider {w w' : World} {p b1 b2 b3 : Nat} {X Y M : Nat → Prop} {r : Rp} (h : RQ w p b1 b2 b3 X r) (hc : Chg M w w') (hM : ∀ k, M k → k < w.heap.size → X k ∧ ¬ M4 p b1 b2 b3 k) (hY : ∀ k, Y k → X k ∨ (w.heap.size ≤ k ∧ k < w'.heap.size)) : RQ w' p b1 b2 b3 (fun k => X k ∨ Y k) r := by
  obtain ⟨A, n, c, h0⟩ := h.rep
  refine ⟨h.ok, h.out, A, n, c, ?_⟩
  obtain ⟨V, h3, h4⟩ := h0.chgs
  have hs := hc.size
  have hl := h0.lt
  have hin : ∀ k, M4 p b1 b2 b3 k → ¬ M k := fun k hk hm => (hM k hm (h.lt k hk)).2 hk
  have hlg : ∀ k, Lg X (.slice none 0 0) k ∧ k < w.heap.size → Lg (fun k => X k ∨ Y k) (.slice none 0 0) k := fun k hk => ⟨fun e => by
    rcases e with e | e
    · exact hk.1.1 e
    · rcases hY k e with e | e
      · exact hk.1.1 e
      · have := hk.2; omega, hk.1.2⟩
  have hlm : ∀ k, Lg X (.slice none 0 0) k ∧ k < w.heap.size → ¬ M k := fun k hk hm => hk.1.1 (hM k hm hk.2).1
  exact ⟨Nat.le_refl _, by omega, h0.ne, ⟨fun k hk => .inl (h0.sub.1 k hk), fun k hk => by
    rcases hk with e | e
    · have := h0.sub.2 k e; omega
    · rcases hY k e with e | e
      · have := h0.sub.2 k e; omega
      · exact e.2⟩, hc.blk h0.blk (hin p (.inl rfl)), h0.acks.chg hc (hin b1 (.inr (.inl rfl))), h0.starts.chg hc (hin b2 (.inr (.inr (.inl rfl)))), ⟨V, h3.chg hc (hin b3 (.inr (.inr (.inr rfl)))), (h4.bound.chg hc hlm).mono hlg⟩, (h0.log.bound.chg hc hlm).mono hlg, by rw [h.out]; exact Vec.nil _ _ _ _ _⟩
abbrev P4 : Type := Nat × Nat × Nat × Nat
def m4 (q : P4) (k : Nat) : Prop := M4 q.1 q.2.1 q.2.2.1 q.2.2.2 k
/-- Replicas, where they lie; U: blocks that are kept apart from their logs. -/
structure Team (w : World) (U : Nat → Prop) (lv : Value) (ps : List P4) (rs : List Rp) : Prop where
  len : ps.length = rs.length
  vec : Vec ptrK 30 w U (fun _ => False) lv (ps.map (·.1))
  rq : ∀ (i : Nat) q r, ps[i]? = some q → rs[i]? = some r → RQ w q.1 q.2.1 q.2.2.1 q.2.2.2 U r
  sub : ∀ q ∈ ps, ∀ k, m4 q k → U k ∧ lv.ownBlock ≠ some k
  ap : ∀ (i j : Nat) q q', i ≠ j → ps[i]? = some q → ps[j]? = some q' → ∀ k, m4 q k → ¬ m4 q' k
  lt : ∀ k, U k → k < w.heap.size
/-- The messages that may come: their own row is one of U, their logs are not. -/
structure Net (w : World) (U : Nat → Prop) (ps : List P4) (lv nv : Value) (net : List Msg) : Prop where
  vec : Vec msgK 41 w U (fun k => ¬ U k) nv net
  off : ∀ q ∈ ps, ∀ k, m4 q k → nv.ownBlock ≠ some k
  ne : ∀ k, lv.ownBlock = some k → nv.ownBlock ≠ some k
theorem Team.widen {w w' : World} {U Y M : Nat → Prop} {lv : Value} {ps : List P4} {rs : List Rp} (h : Team w U lv ps rs) (hc : Chg M w w') (hM : ∀ k, M k → k < w.heap.size → U k ∧ (∀ q ∈ ps, ¬ m4 q k) ∧ lv.ownBlock ≠ some k) (hY : ∀ k, Y k → U k ∨ (w.heap.size ≤ k ∧ k < w'.heap.size)) : Team w' (fun k => U k ∨ Y k) lv ps rs where
  len := h.len
  vec := (h.vec.chg hc (fun k hk hm => (hM k hm (h.vec.lt k hk)).2.2 hk) (fun _ h => h.elim)).mono (fun k hk _ => .inl hk) (fun _ h _ => h)
  rq := fun i q r hq hr => (h.rq i q r hq hr).wider hc (fun k hm hl => ⟨(hM k hm hl).1, (hM k hm hl).2.1 q (List.mem_of_getElem? hq)⟩) hY
  sub := fun q hq k hk => ⟨.inl (h.sub q hq k hk).1, (h.sub q hq k hk).2⟩
  ap := h.ap
  lt := fun k hk => by
    have hs := hc.size
    rcases hk with e | e
    · have := h.lt k e; omega
    · rcases hY k e with e | e
      · have := h.lt k e; omega
      · exact e.2
theorem Team.far {w w' : World} {U : Nat → Prop} {lv : Value} {ps : List P4} {rs : List Rp} (h : Team w U lv ps rs) (hc : Chg (fun _ => False) w w') : Team w' U lv ps rs where
  len := h.len
  vec := h.vec.chg hc (fun _ _ h => h) (fun _ h => h.elim)
  rq := fun i q r hq hr => (h.rq i q r hq hr).far hc
  sub := h.sub
  ap := h.ap
  lt := fun k hk => Nat.lt_of_lt_of_le (h.lt k hk) hc.size
theorem Net.far {w w' : World} {U : Nat → Prop} {ps : List P4} {lv nv : Value} {net : List Msg} (h : Net w U ps lv nv net) (hc : Chg (fun _ => False) w w') : Net w' U ps lv nv net :=
  ⟨h.vec.chg hc (fun _ _ h => h) (fun _ _ _ _ h => h), h.off, h.ne⟩
/-- Replica i was called. -/
theorem Team.call {w w' : World} {U : Nat → Prop} {lv : Value} {ps : List P4} {rs : List Rp} (h : Team w U lv ps rs) {i : Nat} {q : P4} {r' : Rp} (hq : ps[i]? = some q) (hr : RQ w' q.1 q.2.1 q.2.2.1 q.2.2.2 U r') (hc : Chg (m4 q) w w') : Team w' U lv ps (rs.set i r') where
  len := by rw [List.length_set]; exact h.len
  vec := h.vec.chg hc (fun k hk hm => (h.sub q (List.mem_of_getElem? hq) k hm).2 hk) (fun _ h => h.elim)
  rq := fun j q' r hq' hr' => by
    by_cases e : j = i
    · subst e
      rw [hq] at hq'
      cases hq'
      have hlt : j < rs.length := by rw [← h.len]; exact (List.getElem?_eq_some_iff.1 hq).1
      rw [List.getElem?_set_self hlt] at hr'
      cases hr'
      exact hr
    · rw [List.getElem?_set_ne (fun e2 => e e2.symm)] at hr'
      exact (h.rq j q' r hq' hr').chg hc (fun k hm _ => ⟨(h.sub q (List.mem_of_getElem? hq) k hm).1, fun hk => h.ap i j q q' (fun e2 => e e2.symm) hq hq' k hm hk⟩)
  sub := h.sub
  ap := h.ap
  lt := fun k hk => Nat.lt_of_lt_of_le (h.lt k hk) hc.size
theorem Net.call {w w' : World} {U : Nat → Prop} {ps : List P4} {lv nv : Value} {net : List Msg} {rs : List Rp} (h : Net w U ps lv nv net) (ht : Team w U lv ps rs) {q : P4} (hq : q ∈ ps) (hc : Chg (m4 q) w w') : Net w' U ps lv nv net :=
  ⟨h.vec.chg hc (fun k hk hm => h.off q hq k hm hk) (fun k hk _ _ hm => hk (ht.sub q hq k hm).1), h.off, h.ne⟩
/-- One more replica. -/
theorem Team.add {w wn w2 : World} {U : Nat → Prop} {lv lv' : Value} {ps : List P4} {rs : List Rp} (h : Team w U lv ps rs) {q : P4} {r : Rp} (hm : ∀ k, m4 q k → w.heap.size ≤ k ∧ k < wn.heap.size) (hq : RQ wn q.1 q.2.1 q.2.2.1 q.2.2.2 (fun k => m4 q k ∨ k < w.heap.size) r) (hn : Chg (fun _ => False) w wn) (h2 : Chg (fun k => lv.ownBlock = some k) wn w2) (hv : Vec ptrK 30 w2 (fun k => lv.ownBlock = some k ∨ wn.heap.size ≤ k) (fun _ => False) lv' (ps.map (·.1) ++ [q.1])) :
    ∃ U' : Nat → Prop, (∀ k, U k → U' k) ∧ (∀ k, U' k → U k ∨ w.heap.size ≤ k) ∧ Team w2 U' lv' (ps ++ [q]) (rs ++ [r]) := by
  have hs1 := hn.size
  have hs2 := h2.size
  have hown : ∀ k, lv'.ownBlock = some k → lv.ownBlock = some k ∨ wn.heap.size ≤ k := fun k hk => hv.inS k hk
  have hlv : ∀ k, lv.ownBlock = some k → U k ∧ k < w.heap.size := fun k hk => ⟨h.vec.inS k hk, h.vec.lt k hk⟩
  have hall : Chg (fun k => lv.ownBlock = some k) w w2 := (hn.mono (fun _ h _ => h.elim)).trans h2 (fun _ h _ => h)
  refine ⟨fun k => U k ∨ (m4 q k ∨ lv'.ownBlock = some k), fun k hk => .inl hk, fun k hk => ?_, ⟨by simp [h.len], ?_, fun i q' r' hq' hr' => ?_, fun q' hq' k hk => ?_, fun i j a b hij ha hb k hka hkb => ?_, fun k hk => ?_⟩⟩
  · rcases hk with e | e | e
    · exact .inl e
    · exact .inr (hm k e).1
    · rcases hown k e with e | e
      · exact .inl (hlv k e).1
      · exact .inr (by omega)
  · obtain ⟨cells, v1, v2, v3⟩ := hv
    rw [List.map_append]
    exact ⟨cells, v1, fun k hk => .inr (.inr hk), v3⟩
  · have hY : ∀ k, m4 q k ∨ lv'.ownBlock = some k → U k ∨ (w.heap.size ≤ k ∧ k < w2.heap.size) := fun k hk => by
      rcases hk with e | e
      · have := hm k e; exact .inr ⟨this.1, by omega⟩
      · rcases hown k e with e2 | e2
        · exact .inl (hlv k e2).1
        · exact .inr ⟨by omega, hv.lt k e⟩
    by_cases hi : i < ps.length
    · rw [List.getElem?_append_left hi] at hq'
      rw [List.getElem?_append_left (by rw [← h.len]; exact hi)] at hr'
      exact (h.rq i q' r' hq' hr').wider hall (fun k hk _ => ⟨(hlv k hk).1, fun e => (h.sub q' (List.mem_of_getElem? hq') k e).2 hk⟩) hY
    · have hlt := (List.getElem?_eq_some_iff.1 hq').1
      rw [List.length_append, List.length_singleton] at hlt
      have e : i = ps.length := by omega
      rw [e, List.getElem?_append_right (Nat.le_refl _), Nat.sub_self] at hq'
      rw [e, h.len, List.getElem?_append_right (Nat.le_refl _), Nat.sub_self] at hr'
      simp at hq' hr'
      subst hq' hr'
      refine ((hq.wider (Y := fun k => lv'.ownBlock = some k) h2 (fun k hk _ => ⟨.inr (hlv k hk).2, fun e => ?_⟩) (fun k hk => ?_)).less (fun k hk => .inr (.inl hk)) (fun k hk => ?_))
      · have := (hm k e).1
        have := (hlv k hk).2
        omega
      · rcases hown k hk with e2 | e2
        · exact .inl (.inr (hlv k e2).2)
        · exact .inr ⟨e2, hv.lt k hk⟩
      · rcases hk with e2 | e2 | e2
        · exact .inl (.inr (h.lt k e2))
        · exact .inl (.inl e2)
        · exact .inr e2
  · rcases List.mem_append.1 hq' with e | e
    · refine ⟨.inl (h.sub q' e k hk).1, fun e2 => ?_⟩
      rcases hown k e2 with e3 | e3
      · exact (h.sub q' e k hk).2 e3
      · have := h.lt k (h.sub q' e k hk).1
        omega
    · rw [List.mem_singleton.1 e] at hk
      refine ⟨.inr (.inl hk), fun e2 => ?_⟩
      have := hm k hk
      rcases hown k e2 with e3 | e3
      · have := (hlv k e3).2; omega
      · omega
  · have key : ∀ (i : Nat) a, (ps ++ [q])[i]? = some a → (i < ps.length ∧ ps[i]? = some a) ∨ (i = ps.length ∧ a = q) := fun i a ha => by
      by_cases hi : i < ps.length
      · rw [List.getElem?_append_left hi] at ha
        exact .inl ⟨hi, ha⟩
      · have hlt := (List.getElem?_eq_some_iff.1 ha).1
        rw [List.length_append, List.length_singleton] at hlt
        have e : i = ps.length := by omega
        rw [e, List.getElem?_append_right (Nat.le_refl _), Nat.sub_self] at ha
        simp at ha
        exact .inr ⟨e, ha.symm⟩
    have old : ∀ (i : Nat) a, ps[i]? = some a → m4 a k → k < w.heap.size := fun i a ha hk => h.lt k (h.sub a (List.mem_of_getElem? ha) k hk).1
    rcases key i a ha with ⟨i1, i2⟩ | ⟨i1, i2⟩ <;> rcases key j b hb with ⟨j1, j2⟩ | ⟨j1, j2⟩
    · exact h.ap i j a b hij i2 j2 k hka hkb
    · have := old i a i2 hka
      have := (hm k (by rw [← j2]; exact hkb)).1
      omega
    · have := old j b j2 hkb
      have := (hm k (by rw [← i2]; exact hka)).1
      omega
    · omega
  · rcases hk with e | e | e
    · have := h.lt k e; omega
    · have := (hm k e).2; omega
    · exact hv.lt k e
/-- Fewer blocks are kept apart. -/
theorem Team.less {w : World} {U U' : Nat → Prop} {lv : Value} {ps : List P4} {rs : List Rp} (h : Team w U lv ps rs) (h1 : ∀ k, U' k → U k) (h2 : ∀ q ∈ ps, ∀ k, m4 q k → U' k) (h3 : ∀ k, lv.ownBlock = some k → U' k) : Team w U' lv ps rs where
  len := h.len
  vec := (Vec.self h.vec).mono (fun k hk _ => h3 k hk) (fun _ h _ => h)
  rq := fun i q r hq hr => (h.rq i q r hq hr).less (fun k hk => h2 q (List.mem_of_getElem? hq) k hk) h1
  sub := fun q hq k hk => ⟨h2 q hq k hk, (h.sub q hq k hk).2⟩
  ap := h.ap
  lt := fun k hk => h.lt k (h1 k hk)
theorem Team.none {w : World} : Team w (fun _ => False) (.slice none 0 0) [] [] := ⟨rfl, Vec.nil _ _ _ _ _, fun i q r hq => by simp at hq, fun q hq => (by cases hq), fun i j q q' _ hq => by simp at hq, fun _ h => h.elim⟩
theorem infoPtr : (Try.prog.info? 30).map (fun i => (i.zero, i.size, i.bytes)) = some (some (.pointer none), 1, 8) := by kernel_rfl
end Go.Proofs.Ytaldoajdhbndhaa.Pa


/- Parts of a row of one's own whose elements point elsewhere; an empty literal; what comes to the net. -/

namespace Go.Proofs.Ytaldoajdhbndhaa.Pa

set_option linter.unusedVariables false

set_option linter.unusedSimpArgs false

open Go.RowKit Go.Proofs.Ytaldoajdhbndhaa.C

/-- What is seen of a row: the elements' own regions stay apart from the row. -/
theorem Vec.parts {α : Type} {d : Ty α} {e : TypeId} {w : World} {S D : Nat → Prop} {A : Option Addr} {n c : Nat} {xs : List α} (h : Vec d e w S D (.slice A n c) xs) :
    n = xs.length ∧ n ≤ c ∧ c ≤ maxLen ∧ (A = none → c = 0) ∧ ∃ cells, Sees w (fun k => (Value.slice A n c).ownBlock = some k) A cells ∧ Ty.Row d w (fun k => D k ∧ (Value.slice A n c).ownBlock ≠ some k ∧ k < w.heap.size) xs cells := by
  obtain ⟨cells, h1, h2, h3⟩ := h
  have hn : n = xs.length := by
    obtain ⟨A', c', hv, _⟩ := own_sees h1
    injection hv
  subst hn
  obtain ⟨q1, q2, q3, q4⟩ := own_at h1
  exact ⟨rfl, q1, q2, q3, cells, q4, h3⟩
theorem vec_slice {α : Type} {d : Ty α} {e : TypeId} {w : World} {S D : Nat → Prop} {v : Value} {xs : List α} (h : Vec d e w S D v xs) {n : Nat} (hn : xs.length = n) : ∃ A c, v = .slice A n c := by subst hn; exact h.form
/-- An empty literal. -/
theorem Vec.made {α : Type} (d : Ty α) (e : TypeId) (w : World) (D : Nat → Prop) : Vec d e (w.alloc (.cells #[] e)) (fun k => k = w.heap.size) D (.slice (some ⟨w.heap.size, 0, none⟩) 0 0) [] := by
  refine ⟨[], World.ownsRow_made w #[] 0 (Nat.zero_le _) (by simp [maxLen]) (by simp), fun k hk => ?_, Ty.Row.nil _ _ _⟩
  simp [Value.ownBlock] at hk
  exact hk.symm
/-- A message of a row. -/
theorem Vec.msg {w : World} {S D : Nat → Prop} {A : Option Addr} {n c : Nat} {net : List Msg} (h : Vec msgK 41 w S D (.slice A n c) net) {i : Nat} (hi : i < n) :
    ∃ m g B k d, net[i]? = some m ∧ m ∈ net ∧ A = some ⟨g, 0, none⟩ ∧ g < w.heap.size ∧ msgK.K w (fun x => D x ∧ x ≠ g ∧ x < w.heap.size) m [.int .i64 m.kind, .int .i64 m.view, .int .i64 m.src, .int .i64 m.dst, .int .i64 m.op, .int .i64 m.commit, .int .i64 m.normal, .slice B k d] ∧ Ty.At entryK w (fun x => D x ∧ x ≠ g ∧ x < w.heap.size) B k d m.log ∧
      ∀ j u, ([.int .i64 m.kind, .int .i64 m.view, .int .i64 m.src, .int .i64 m.dst, .int .i64 m.op, .int .i64 m.commit, .int .i64 m.normal, .slice B k d] : List Value)[j]? = some u → w.cell? ⟨g, i * 8 + j, none⟩ = some u := by
  have hn := (Vec.parts h).1
  obtain ⟨m, hm⟩ : ∃ m, net[i]? = some m := ⟨_, List.getElem?_eq_getElem (by omega)⟩
  obtain ⟨g, cs, hA, _, hg, hK, hcs⟩ := h.get (by decide) hm
  obtain ⟨B, k, d, e, hat⟩ := msg_open (cs := cs.toArray) (by simpa using hK)
  have e2 : cs = [.int .i64 m.kind, .int .i64 m.view, .int .i64 m.src, .int .i64 m.dst, .int .i64 m.op, .int .i64 m.commit, .int .i64 m.normal, .slice B k d] := by
    have := congrArg Array.toList e
    simpa using this
  subst e2
  exact ⟨m, g, B, k, d, hm, List.mem_of_getElem? hm, hA, hg, hK, hat, fun j u hj => hcs j u hj⟩
theorem Net.msg {w : World} {U : Nat → Prop} {ps : List P4} {lv : Value} {A : Option Addr} {n c : Nat} {net : List Msg} (h : Net w U ps lv (.slice A n c) net) {i : Nat} (hi : i < n) :
    ∃ m g B k d, net[i]? = some m ∧ m ∈ net ∧ A = some ⟨g, 0, none⟩ ∧ g < w.heap.size ∧ msgK.K w (fun x => ¬ U x ∧ x ≠ g ∧ x < w.heap.size) m [.int .i64 m.kind, .int .i64 m.view, .int .i64 m.src, .int .i64 m.dst, .int .i64 m.op, .int .i64 m.commit, .int .i64 m.normal, .slice B k d] ∧ Ty.At entryK w (fun x => ¬ U x ∧ x ≠ g ∧ x < w.heap.size) B k d m.log ∧
      ∀ j u, ([.int .i64 m.kind, .int .i64 m.view, .int .i64 m.src, .int .i64 m.dst, .int .i64 m.op, .int .i64 m.commit, .int .i64 m.normal, .slice B k d] : List Value)[j]? = some u → w.cell? ⟨g, i * 8 + j, none⟩ = some u :=
  Vec.msg h.vec hi
/-- The change that changes nothing, in memory. -/
theorem ent_at {w : World} {c q : Int} (hc : NumW c) (hq : NumW q) : EntryAt w (fun _ => False) ⟨0, c, q, -1, -1, -1, -1, [], []⟩ none 0 0 none 0 0 := by
  refine ⟨fun u hu => ?_, at_nil_ _ _ _, at_nil_ _ _ _⟩
  simp [Entry.nums] at hu
  rcases hu with rfl | rfl | rfl | rfl
  · decide
  · exact hc
  · exact hq
  · decide
end Go.Proofs.Ytaldoajdhbndhaa.Pa


/- Replicas that nothing befalls: what a submit and a tick make of them, once all is delivered. No program in sight. -/

namespace Go.Proofs.Ytaldoajdhbndhaa.Pa

set_option linter.unusedVariables false

set_option linter.unusedSimpArgs false

/-- All that is under way is delivered, the eldest first, in so many steps. -/
inductive Goes (N : Nat) : List Rp → List Msg → Nat → List Rp → Prop
  | done (rs : List Rp) : Goes N rs [] 0 rs
  | step {rs rs' : List Rp} {m : Msg} {net : List Msg} {t i : Nat} {r : Rp} (h1 : m.dst = (i : Int)) (h2 : i < N) (h3 : rs[i]? = some r) (h4 : (net ++ (deliverR r m).1.out).length ≤ 100) (h5 : Goes N (rs.set i { (deliverR r m).1 with out := [] }) (net ++ (deliverR r m).1.out) t rs') : Goes N rs (m :: net) (t + 1) rs'
theorem Goes.nil_inv {N t : Nat} {rs rs' : List Rp} (h : Goes N rs [] t rs') : t = 0 ∧ rs' = rs := by
  cases h; exact ⟨rfl, rfl⟩
theorem Goes.cons_inv {N t : Nat} {rs rs' : List Rp} {m : Msg} {net : List Msg} (h : Goes N rs (m :: net) t rs') : ∃ (t' i : Nat) (r : Rp), t = t' + 1 ∧ m.dst = (i : Int) ∧ i < N ∧ rs[i]? = some r ∧ (net ++ (deliverR r m).1.out).length ≤ 100 ∧ Goes N (rs.set i { (deliverR r m).1 with out := [] }) (net ++ (deliverR r m).1.out) t' rs' := by
  cases h with
  | step h1 h2 h3 h4 h5 => exact ⟨_, _, _, rfl, h1, h2, h3, h4, h5⟩
def mkR (N i : Int) (l : List Entry) (c : Int) (a : List (Int × Int)) : Rp := ⟨N, i, 4, ⟨0, 0, c, 0, l⟩, false, a, [], [], false, 0, []⟩
def tm (N : Nat) (F : Nat → Rp) : List Rp := (List.range N).map F
theorem tm_get {N : Nat} (F : Nat → Rp) {i : Nat} (hi : i < N) : (tm N F)[i]? = some (F i) := by
  unfold tm
  rw [List.getElem?_map, List.getElem?_range hi]; rfl
theorem tm_set {N : Nat} (F : Nat → Rp) (i : Nat) (x : Rp) : (tm N F).set i x = tm N (fun j => if j = i then x else F j) := by
  unfold tm
  apply List.ext_getElem?
  intro j
  rw [List.getElem?_map]
  by_cases h : j = i
  · subst h
    by_cases hj : j < N
    · rw [List.getElem?_set_self (by simpa using hj), List.getElem?_range hj]; simp
    · rw [List.getElem?_eq_none (by simp; omega), List.getElem?_eq_none (by simp; omega)]; rfl
  · rw [List.getElem?_set_ne (fun e => h e.symm), List.getElem?_map]
    by_cases hj : j < N
    · rw [List.getElem?_range hj]; simp [h]
    · rw [List.getElem?_eq_none (by simp; omega)]; rfl
theorem tm_ext {N : Nat} {F G : Nat → Rp} (h : ∀ i, i < N → F i = G i) : tm N F = tm N G := by
  unfold tm
  exact List.map_congr_left (fun i hi => h i (List.mem_range.1 hi))
theorem prim_mk {N : Nat} (hN : 3 ≤ N) (i : Int) (l : List Entry) (c : Int) (a : List (Int × Int)) : primR (mkR N i l c a) 0 = 0 := by unfold primR; exact Int.zero_emod _
theorem role_mk0 {N : Nat} (hN : 3 ≤ N) (l : List Entry) (c : Int) (a : List (Int × Int)) : roleR (mkR N 0 l c a) = 1 := by
  unfold roleR
  rw [if_neg (by simp [mkR]), if_pos]
  exact prim_mk hN 0 l c a
def prepM (i k : Int) (e : Entry) : Msg := ⟨1, 0, 0, i, k + 1, k, 0, [e]⟩
def ackM (i k : Int) : Msg := ⟨2, 0, i, 0, k, 0, 0, []⟩
def comM (i k : Int) : Msg := ⟨3, 0, 0, i, k, k, 0, []⟩
theorem say_to {N : Nat} (r : Rp) (hid : r.id = 0) (hv : r.s.view = 0) (m : Msg) : ∀ k : Nat, sayTo r m (k + 1) = { r with out := r.out ++ (List.range' 1 k).map (fun j : Nat => { m with view := 0, src := 0, dst := (j : Int) }) }
  | 0 => by
    unfold sayTo sayTo
    rw [if_neg (by rw [hid]; simp)]
    simp
  | k + 1 => by
    unfold sayTo
    rw [if_pos (by rw [hid]; omega), say_to (N := N) r hid hv m k, sendR]
    simp only
    rw [hv, hid, List.range'_concat, List.map_append, List.append_assoc]
    simp [Nat.add_comm]
theorem say_mk {N : Nat} (hN : 3 ≤ N) (l : List Entry) (c : Int) (a : List (Int × Int)) (m : Msg) : sayR (mkR N 0 l c a) m = { mkR N 0 l c a with out := (List.range' 1 (N - 1)).map (fun j : Nat => { m with view := 0, src := 0, dst := (j : Int) }) } := by
  unfold sayR
  rw [show (mkR (N : Int) 0 l c a).n.toNat = (N - 1) + 1 by show ((N : Int)).toNat = _; omega, say_to (N := N) _ rfl rfl]
  rfl
theorem deliver_one {r : Rp} {m : Msg} (h1 : meantR r m = true) (h2 : ¬ m.view < r.s.view) : (deliverR r m).1 = heardR r m := by
  unfold deliverR
  rw [if_neg (by rw [h1]; simp), if_neg h2]
/-- The primary's message comes to another one. -/
theorem take_prep {N i k : Nat} (hN : 3 ≤ N ∧ N ≤ 7) (hi : 1 ≤ i ∧ i < N) {l : List Entry} (hl : l.length = k) (hk : k < 64) {e : Entry} (he : entryR e = true) (a : List (Int × Int)) :
    (deliverR (mkR N i l k a) (prepM i k e)).1 = { mkR N i (l ++ [e]) k a with out := [ackM i (k + 1)] } := by
  have hm : meantR (mkR N i l k a) (prepM i k e) = true := by
    unfold meantR msgR logR inR numR prepM mkR
    simp [he]
    omega
  have hp : primR (mkR (N : Int) i l k a) 0 = 0 := prim_mk hN.1 _ _ _ _
  rw [deliver_one hm (by simp [prepM, mkR])]
  unfold heardR
  rw [if_pos (by simp [prepM])]
  unfold followR
  rw [if_neg (by show ¬ ((0 : Int) ≠ _); rw [show (prepM i k e).view = 0 from rfl, hp]; simp)]
  have f1 : follow1R (mkR N i l k a) (prepM i k e) = mkR N i l k a := by unfold follow1R; rw [if_neg (by simp [mkR, prepM])]; rfl
  rw [f1]
  have f2 : follow2R (mkR N i l k a) (prepM i k e) = mkR N i (l ++ [e]) k a := by unfold follow2R; rw [if_pos (by simp [mkR, prepM, hl])]; rfl
  rw [f2]
  have f3 : follow3R (mkR N i (l ++ [e]) k a) (prepM i k e) = mkR N i (l ++ [e]) k a := by unfold follow3R; rw [if_neg (by simp [mkR, prepM, hl])]
  rw [f3]
  unfold follow4R
  rw [if_neg (by simp [mkR]), if_neg (by simp [mkR, prepM, hl])]
  unfold sendR raiseR mkR prepM ackM msgOp
  simp [hl]
  omega
theorem take_com {N i k : Nat} (hN : 3 ≤ N ∧ N ≤ 7) (hi : 1 ≤ i ∧ i < N) {l : List Entry} (hl : l.length = k) (hk : k ≤ 64) {c : Nat} (hc : c ≤ k) (a : List (Int × Int)) :
    (deliverR (mkR N i l c a) (comM i k)).1 = { mkR N i l k a with out := [ackM i k] } := by
  have hm : meantR (mkR N i l c a) (comM i k) = true := by
    unfold meantR msgR logR inR numR comM mkR
    simp
    omega
  have hp : primR (mkR (N : Int) i l c a) 0 = 0 := prim_mk hN.1 _ _ _ _
  rw [deliver_one hm (by simp [comM, mkR])]
  unfold heardR
  rw [if_pos (by simp [comM])]
  unfold followR
  rw [if_neg (by show ¬ ((0 : Int) ≠ _); rw [show (comM i k).view = 0 from rfl, hp]; simp)]
  have f1 : follow1R (mkR N i l c a) (comM i k) = mkR N i l c a := by unfold follow1R; rw [if_neg (by simp [mkR, comM])]; rfl
  rw [f1]
  have f2 : follow2R (mkR N i l c a) (comM i k) = mkR N i l c a := by unfold follow2R; rw [if_neg (by simp [mkR, comM])]
  rw [f2]
  have f3 : follow3R (mkR N i l c a) (comM i k) = mkR N i l c a := by unfold follow3R; rw [if_neg (by simp [mkR, comM, hl])]
  rw [f3]
  unfold follow4R
  rw [if_neg (by simp [mkR]), if_neg (by simp [mkR, comM, hl])]
  unfold sendR raiseR mkR comM ackM msgOp
  simp [hl]
  omega
/-- An answer comes to the primary. -/
theorem take_ack {N i k : Nat} (hN : 3 ≤ N ∧ N ≤ 7) (hi : 1 ≤ i ∧ i < N) {l : List Entry} (hl : l.length = k) (hk : k ≤ 64) {c : Int} (a : List (Int × Int)) (ha : ∀ p ∈ a, p.2 ≤ (k : Int)) :
    (deliverR (mkR N 0 l c a) (ackM i k)).1 = mkR N 0 l (ackTo (mkR N 0 l c a) (ups (i : Int) (k : Int) a) k) (ups (i : Int) (k : Int) a) := by
  have hm : meantR (mkR N 0 l c a) (ackM i k) = true := by
    unfold meantR msgR logR inR numR ackM mkR
    simp
    omega
  rw [deliver_one hm (by simp [ackM, mkR])]
  unfold heardR
  rw [if_neg (by simp [ackM]), if_pos (by simp [ackM])]
  unfold ackR
  rw [if_neg (by rw [role_mk0 hN.1]; simp [ackM, mkR])]
  have hx : acksR (mkR N 0 l c a) (ackM i k) = ups (i : Int) (k : Int) a := by
    unfold acksR
    have h : max ((look (i : Int) a).getD 0) (min (k : Int) (k : Int)) = (k : Int) := by
      have h2 : (look (i : Int) a).getD 0 ≤ (k : Int) := by
        cases hq : look (i : Int) a with
        | none => simp
        | some v =>
          unfold look at hq
          cases hf : a.find? (fun p => p.1 = (i : Int)) with
          | none => rw [hf] at hq; cases hq
          | some p =>
            rw [hf] at hq
            simp at hq
            subst hq
            exact ha p (List.mem_of_find?_eq_some hf)
      omega
    show ups (i : Int) (max ((look (i : Int) a).getD 0) (min (k : Int) (l.length : Int))) a = _
    rw [hl, h]
  rw [hx]
  show _ = _
  unfold mkR
  simp [hl]
theorem ups_mem {i v : Int} {a : List (Int × Int)} {p : Int × Int} (h : p ∈ ups i v a) : p = (i, v) ∨ p ∈ a := by
  induction a with
  | nil => simp [ups] at h; exact .inl h
  | cons q r ih =>
    rw [ups] at h
    split at h
    · rcases List.mem_cons.1 h with e | e
      · exact .inl e
      · exact .inr (List.mem_cons_of_mem _ e)
    · rcases List.mem_cons.1 h with e | e
      · exact .inr (by rw [e]; exact List.mem_cons_self)
      · rcases ih e with e2 | e2
        · exact .inl e2
        · exact .inr (List.mem_cons_of_mem _ e2)
theorem ups_count {i v : Int} {a : List (Int × Int)} (h : ∀ p ∈ a, p.1 = i → p.2 < v) : ((ups i v a).filter (fun p => decide (v ≤ p.2))).length = (a.filter (fun p => decide (v ≤ p.2))).length + 1 := by
  induction a with
  | nil => simp [ups]
  | cons q r ih =>
    rw [ups]
    split
    · rename_i e
      have := h q List.mem_cons_self e
      rw [List.filter_cons, List.filter_cons, if_pos (by simp), if_neg (by simp; omega)]
      rfl
    · rw [List.filter_cons, List.filter_cons]
      have := ih (fun p hp => h p (List.mem_cons_of_mem _ hp))
      split <;> simp [this]
theorem ack_to {N k : Nat} {l : List Entry} {c : Int} {a b : List (Int × Int)} (hc : c = (k : Int) ∨ c = (k : Int) + 1) : ackTo (mkR N 0 l c a) b (k + 1) = if c = (k : Int) + 1 ∨ halfR (mkR N 0 l c a) ≤ ackN b ((k : Int) + 1) then (k : Int) + 1 else (k : Int) := by
  unfold ackTo
  have h0 : (mkR N 0 l c a).s.commit = c := rfl
  rw [h0]
  have e1 : (((k + 1 : Nat)) : Int) = (k : Int) + 1 := by omega
  rw [e1]
  rcases hc with e | e
  · rw [if_pos (by omega)]
    by_cases hh : halfR (mkR N 0 l c a) ≤ ackN b ((k : Int) + 1)
    · rw [if_pos hh, if_pos (.inr hh)]
    · rw [if_neg hh, if_neg (by omega)]
      cases k with
      | zero => unfold ackTo; rw [h0]; omega
      | succ n => unfold ackTo; rw [h0, if_neg (by omega)]; omega
  · rw [if_neg (by omega), if_pos (.inl e)]; omega
/-- All others take one message each, and answer. -/
theorem goes_told {N : Nat} (hN : 3 ≤ N ∧ N ≤ 7) {P : Rp} {f g : Nat → Rp} {p q : Nat → Msg} (hd : ∀ i, 1 ≤ i → i < N → (p i).dst = (i : Int) ∧ (deliverR (f i) (p i)).1 = { g i with out := [q i] } ∧ (g i).out = []) {t : Nat} {rs' : List Rp}
    (hg : Goes N (tm N (fun i => if i = 0 then P else g i)) ((List.range' 1 (N - 1)).map q) t rs') : ∀ n j : Nat, j + n = N - 1 → Goes N (tm N (fun i => if i = 0 then P else if i ≤ j then g i else f i)) ((List.range' (j + 1) n).map p ++ (List.range' 1 j).map q) (t + n) rs'
  | 0, j, h => by
    have e : tm N (fun i => if i = 0 then P else if i ≤ j then g i else f i) = tm N (fun i => if i = 0 then P else g i) := tm_ext (fun i hi => by
      by_cases h0 : i = 0
      · rw [if_pos h0, if_pos h0]
      · rw [if_neg h0, if_neg h0, if_pos (by omega)])
    rw [e, show j = N - 1 by omega]
    exact hg
  | n + 1, j, h => by
    obtain ⟨h1, h2, h3⟩ := hd (j + 1) (by omega) (by omega)
    have e0 : (List.range' (j + 1) (n + 1)).map p ++ (List.range' 1 j).map q = p (j + 1) :: ((List.range' (j + 2) n).map p ++ (List.range' 1 j).map q) := rfl
    rw [e0]
    have hget := tm_get (N := N) (fun i => if i = 0 then P else if i ≤ j then g i else f i) (i := j + 1) (by omega)
    rw [if_neg (by omega), if_neg (by omega)] at hget
    have hout : (deliverR (f (j + 1)) (p (j + 1))).1.out = [q (j + 1)] := by rw [h2]
    refine Goes.step (i := j + 1) h1 (by omega) hget (by rw [hout]; simp; omega) ?_
    rw [hout, tm_set]
    have e1 : tm N (fun i => if i = j + 1 then { (deliverR (f (j + 1)) (p (j + 1))).1 with out := [] } else if i = 0 then P else if i ≤ j then g i else f i) = tm N (fun i => if i = 0 then P else if i ≤ j + 1 then g i else f i) := tm_ext (fun i hi => by
      by_cases hj : i = j + 1
      · subst hj
        rw [if_pos rfl, if_neg (by omega), if_pos (Nat.le_refl _), h2]
        have := h3
        cases hgg : g (j + 1)
        rw [hgg] at this
        simp at this
        subst this
        rfl
      · rw [if_neg hj]
        by_cases h0 : i = 0
        · rw [if_pos h0, if_pos h0]
        · rw [if_neg h0, if_neg h0]
          by_cases hle : i ≤ j
          · rw [if_pos hle, if_pos (by omega)]
          · rw [if_neg hle, if_neg (by omega)])
    rw [e1]
    have e2 : ((List.range' (j + 2) n).map p ++ (List.range' 1 j).map q) ++ [q (j + 1)] = (List.range' (j + 1 + 1) n).map p ++ (List.range' 1 (j + 1)).map q := by
      rw [List.range'_concat, List.map_append, List.append_assoc, Nat.one_mul, Nat.add_comm 1 j]
      rfl
    rw [e2]
    show Goes N _ _ (t + n) rs'
    exact goes_told hN hd hg n (j + 1) (by omega)
/-- The answers come in: behind more than half of them it is committed. -/
theorem goes_acks {N k : Nat} (hN : 3 ≤ N ∧ N ≤ 7) {l : List Entry} (hl : l.length = k + 1) (hk : k < 64) {B : Nat → Rp} : ∀ (n j : Nat) (a : List (Int × Int)) (c : Int), j + n = N - 1 → (∀ p ∈ a, p.2 ≤ (k : Int) + 1) → (∀ p ∈ a, (j : Int) < p.1 → p.2 < (k : Int) + 1) → (a.filter (fun p => decide ((k : Int) + 1 ≤ p.2))).length = j → c = (if (N : Int) / 2 + 1 ≤ (j : Int) + 1 then (k : Int) + 1 else (k : Int)) →
    ∃ a' : List (Int × Int), (∀ p ∈ a', p.2 ≤ (k : Int) + 1) ∧ Goes N (tm N (fun i => if i = 0 then mkR N 0 l c a else B i)) ((List.range' (j + 1) n).map (fun i : Nat => ackM i (k + 1))) n (tm N (fun i => if i = 0 then mkR N 0 l ((k : Int) + 1) a' else B i))
  | 0, j, a, c, h, h1, h2, h3, h4 => by
    rw [if_pos (by omega)] at h4
    subst h4
    exact ⟨a, h1, Goes.done _⟩
  | n + 1, j, a, c, h, h1, h2, h3, h4 => by
    have hx := take_ack (N := N) (i := j + 1) (k := k + 1) hN (by omega) hl (by omega) (c := c) a (by intro p hp; have := h1 p hp; omega)
    have e1 : (((k + 1 : Nat)) : Int) = (k : Int) + 1 := by omega
    have e2 : (((j + 1 : Nat)) : Int) = (j : Int) + 1 := by omega
    rw [e1, e2] at hx
    have hcnt := ups_count (i := (j : Int) + 1) (v := (k : Int) + 1) (a := a) (fun p hp e => h2 p hp (by omega))
    rw [h3] at hcnt
    have hck : c = (k : Int) ∨ c = (k : Int) + 1 := by
      rw [h4]
      split
      · exact .inr rfl
      · exact .inl rfl
    rw [ack_to hck] at hx
    have hhalf : halfR (mkR N 0 l c a) = (N : Int) / 2 + 1 := rfl
    have hackn : ackN (ups ((j : Int) + 1) ((k : Int) + 1) a) ((k : Int) + 1) = (j : Int) + 1 + 1 := by unfold ackN; rw [hcnt]; omega
    rw [hhalf, hackn] at hx
    obtain ⟨a', g1, g2⟩ := goes_acks hN hl hk (B := B) n (j + 1) (ups ((j : Int) + 1) ((k : Int) + 1) a) (if c = (k : Int) + 1 ∨ (N : Int) / 2 + 1 ≤ (j : Int) + 1 + 1 then (k : Int) + 1 else (k : Int)) (by omega) (fun p hp => by
      rcases ups_mem hp with e | e
      · rw [e]; exact Int.le_refl _
      · exact h1 p e) (fun p hp hlt => by
      rcases ups_mem hp with e | e
      · rw [e] at hlt; simp at hlt
      · exact h2 p e (by omega)) hcnt (by
      rw [h4]
      by_cases hq : (N : Int) / 2 + 1 ≤ (j : Int) + 1
      · rw [if_pos hq, if_pos (.inl rfl), if_pos (by omega)]
      · rw [if_neg hq]
        by_cases hq2 : (N : Int) / 2 + 1 ≤ (j : Int) + 1 + 1
        · rw [if_pos (.inr hq2), if_pos (by omega)]
        · rw [if_neg (by omega), if_neg (by omega)])
    refine ⟨a', g1, ?_⟩
    have hget : (tm N (fun i => if i = 0 then mkR N 0 l c a else B i))[0]? = some (mkR N 0 l c a) := (tm_get (N := N) _ (by omega)).trans (by simp)
    have e0 : (List.range' (j + 1) (n + 1)).map (fun i : Nat => ackM i (k + 1)) = ackM ((j + 1 : Nat) : Int) (k + 1) :: (List.range' (j + 1 + 1) n).map (fun i : Nat => ackM i (k + 1)) := rfl
    rw [e0, e2]
    have hout : (deliverR (mkR N 0 l c a) (ackM ((j : Int) + 1) ((k : Int) + 1))).1.out = [] := by rw [hx]; rfl
    refine Goes.step (i := 0) rfl (by omega) hget (by rw [hout]; simp; omega) ?_
    rw [hout, List.append_nil, tm_set]
    have e3 : tm N (fun i => if i = 0 then { (deliverR (mkR N 0 l c a) (ackM ((j : Int) + 1) ((k : Int) + 1))).1 with out := [] } else if i = 0 then mkR N 0 l c a else B i) = tm N (fun i => if i = 0 then mkR N 0 l (if c = (k : Int) + 1 ∨ (N : Int) / 2 + 1 ≤ (j : Int) + 1 + 1 then (k : Int) + 1 else (k : Int)) (ups ((j : Int) + 1) ((k : Int) + 1) a) else B i) := tm_ext (fun i hi => by
      by_cases h0 : i = 0
      · rw [if_pos h0, if_pos h0, hx]; rfl
      · rw [if_neg h0, if_neg h0, if_neg h0])
    rw [e3]
    exact g2
/-- Answers that come behind it change nothing more. -/
theorem goes_late {N k : Nat} (hN : 3 ≤ N ∧ N ≤ 7) {l : List Entry} (hl : l.length = k + 1) (hk : k < 64) {B : Nat → Rp} : ∀ (n j : Nat) (a : List (Int × Int)), j + n = N - 1 → (∀ p ∈ a, p.2 ≤ (k : Int) + 1) →
    ∃ a' : List (Int × Int), (∀ p ∈ a', p.2 ≤ (k : Int) + 1) ∧ Goes N (tm N (fun i => if i = 0 then mkR N 0 l ((k : Int) + 1) a else B i)) ((List.range' (j + 1) n).map (fun i : Nat => ackM i (k + 1))) n (tm N (fun i => if i = 0 then mkR N 0 l ((k : Int) + 1) a' else B i))
  | 0, j, a, h, h1 => ⟨a, h1, Goes.done _⟩
  | n + 1, j, a, h, h1 => by
    have hx := take_ack (N := N) (i := j + 1) (k := k + 1) hN (by omega) hl (by omega) (c := (k : Int) + 1) a (by intro p hp; have := h1 p hp; omega)
    have e1 : (((k + 1 : Nat)) : Int) = (k : Int) + 1 := by omega
    have e2 : (((j + 1 : Nat)) : Int) = (j : Int) + 1 := by omega
    rw [e1, e2, ack_to (.inr rfl), if_pos (.inl rfl)] at hx
    obtain ⟨a', g1, g2⟩ := goes_late hN hl hk (B := B) n (j + 1) (ups ((j : Int) + 1) ((k : Int) + 1) a) (by omega) (fun p hp => by
      rcases ups_mem hp with e | e
      · rw [e]; exact Int.le_refl _
      · exact h1 p e)
    refine ⟨a', g1, ?_⟩
    have hget : (tm N (fun i => if i = 0 then mkR N 0 l ((k : Int) + 1) a else B i))[0]? = some (mkR N 0 l ((k : Int) + 1) a) := (tm_get (N := N) _ (by omega)).trans (by simp)
    have e0 : (List.range' (j + 1) (n + 1)).map (fun i : Nat => ackM i (k + 1)) = ackM ((j + 1 : Nat) : Int) (k + 1) :: (List.range' (j + 1 + 1) n).map (fun i : Nat => ackM i (k + 1)) := rfl
    rw [e0, e2]
    have hout : (deliverR (mkR N 0 l ((k : Int) + 1) a) (ackM ((j : Int) + 1) ((k : Int) + 1))).1.out = [] := by rw [hx]; rfl
    refine Goes.step (i := 0) rfl (by omega) hget (by rw [hout]; simp; omega) ?_
    rw [hout, List.append_nil, tm_set]
    have e3 : tm N (fun i => if i = 0 then { (deliverR (mkR N 0 l ((k : Int) + 1) a) (ackM ((j : Int) + 1) ((k : Int) + 1))).1 with out := [] } else if i = 0 then mkR N 0 l ((k : Int) + 1) a else B i) = tm N (fun i => if i = 0 then mkR N 0 l ((k : Int) + 1) (ups ((j : Int) + 1) ((k : Int) + 1) a) else B i) := tm_ext (fun i hi => by
      by_cases h0 : i = 0
      · rw [if_pos h0, if_pos h0, hx]; rfl
      · rw [if_neg h0, if_neg h0, if_neg h0])
    rw [e3]
    exact g2
def calmF (N : Nat) (l : List Entry) (c : Int) (a : List (Int × Int)) : List Rp := tm N (fun i => if i = 0 then mkR N 0 l c a else mkR N i l c [])
/-- What lies between two submits: all have the same log, all of it committed. -/
structure Calm (N k : Nat) (l : List Entry) (a : List (Int × Int)) : Prop where
  len : l.length = k
  req : ∀ x ∈ l, x.request ≤ (k : Int)
  acks : ∀ p ∈ a, p.2 ≤ (k : Int)
theorem had_calm {c k : Int} {e : Entry} : ∀ (l : List Entry) (i : Int), (∀ x ∈ l, x.request < e.request) → hadTo c e l i 0 = 0
  | [], _, _ => rfl
  | x :: l, i, h => by
    rw [hadTo, if_pos (.inr (h x List.mem_cons_self))]
    exact had_calm (k := k) l (i + 1) (fun y hy => h y (List.mem_cons_of_mem _ hy))
/-- A submit, delivered; a tick, delivered. -/
theorem Calm.round {N k : Nat} (hN : 3 ≤ N ∧ N ≤ 7) {l : List Entry} {a : List (Int × Int)} (h : Calm N k l a) (hk : k < 64) {e : Entry} (he : entryR e = true) (hv : e.view = 0) (hr : e.request = (k : Int) + 1) :
    ∃ (a1 a2 : List (Int × Int)), Calm N (k + 1) (l ++ [e]) a2 ∧
      submitR (mkR N 0 l k a) e = ({ mkR N 0 (l ++ [e]) k a with out := (List.range' 1 (N - 1)).map (fun j : Nat => prepM j k e) }, 0) ∧
      Goes N ((calmF N l k a).set 0 (mkR N 0 (l ++ [e]) k a)) ((List.range' 1 (N - 1)).map (fun j : Nat => prepM j k e)) (N - 1 + (N - 1)) (tm N (fun i => if i = 0 then mkR N 0 (l ++ [e]) ((k : Int) + 1) a1 else mkR N i (l ++ [e]) k [])) ∧
      tickR (mkR N 0 (l ++ [e]) ((k : Int) + 1) a1) = { mkR N 0 (l ++ [e]) ((k : Int) + 1) a1 with out := (List.range' 1 (N - 1)).map (fun j : Nat => comM j (k + 1)) } ∧
      Goes N (tm N (fun i => if i = 0 then mkR N 0 (l ++ [e]) ((k : Int) + 1) a1 else mkR N i (l ++ [e]) k [])) ((List.range' 1 (N - 1)).map (fun j : Nat => comM j (k + 1))) (N - 1 + (N - 1)) (calmF N (l ++ [e]) ((k : Int) + 1) a2) := by
  have hl1 : (l ++ [e]).length = k + 1 := by simp [h.len]
  have hee : ({ e with view := 0 } : Entry) = e := by cases e; simp at hv; subst hv; rfl
  obtain ⟨a1, g1, g2⟩ := goes_acks (N := N) (k := k) hN hl1 hk (B := fun i => mkR N i (l ++ [e]) k []) (N - 1) 0 a k (by omega) (fun p hp => by have := h.acks p hp; omega) (fun p hp _ => by have := h.acks p hp; omega) (by
    rw [List.filter_eq_nil_iff.2 (fun p hp => by have := h.acks p hp; simp; omega)]; simp) (by rw [if_neg (by omega)])
  obtain ⟨a2, g3, g4⟩ := goes_late (N := N) (k := k) hN hl1 hk (B := fun i => mkR N i (l ++ [e]) ((k : Int) + 1) []) (N - 1) 0 a1 (by omega) g1
  have t1 := goes_told (N := N) hN (P := mkR N 0 (l ++ [e]) k a) (f := fun i => mkR N i l k []) (g := fun i => mkR N i (l ++ [e]) k []) (p := fun i : Nat => prepM i k e) (q := fun i : Nat => ackM i (k + 1)) (fun i hi1 hi2 => ⟨rfl, take_prep hN ⟨hi1, hi2⟩ h.len hk he [], rfl⟩) g2 (N - 1) 0 (by omega)
  have t2 := goes_told (N := N) hN (P := mkR N 0 (l ++ [e]) ((k : Int) + 1) a1) (f := fun i => mkR N i (l ++ [e]) k []) (g := fun i => mkR N i (l ++ [e]) ((k : Int) + 1) []) (p := fun i : Nat => comM i (k + 1)) (q := fun i : Nat => ackM i (k + 1)) (fun i hi1 hi2 => ⟨rfl, (by have := take_com (N := N) (i := i) (k := k + 1) hN ⟨hi1, hi2⟩ hl1 (by omega) (c := k) (by omega) []; rw [show (((k + 1 : Nat)) : Int) = (k : Int) + 1 by omega] at this; exact this), rfl⟩) g4 (N - 1) 0 (by omega)
  refine ⟨a1, a2, ⟨hl1, fun x hx => ?_, fun p hp => by have := g3 p hp; omega⟩, ?_, ?_, ?_, ?_⟩
  · rcases List.mem_append.1 hx with e' | e'
    · have := h.req x e'; omega
    · rw [List.mem_singleton.1 e']; omega
  · unfold submitR
    have hh : hadR (mkR N 0 l k a) e = 0 := had_calm (k := 0) l 0 (fun x hx => by have := h.req x hx; omega)
    rw [if_neg (by rw [role_mk0 hN.1]; simp), if_neg (by rw [he]; simp), if_neg (by rw [hh]; simp), if_neg (by show ¬ ((l.length : Int) = 64); rw [h.len]; omega)]
    have e1 : putR (mkR N 0 l k a) [{ e with view := (mkR (N : Int) 0 l k a).s.view }] = mkR N 0 (l ++ [e]) k a := by
      show putR _ [{ e with view := 0 }] = _
      rw [hee]; rfl
    rw [e1, say_mk hN.1]
    show (({ mkR N 0 (l ++ [e]) k a with out := (List.range' 1 (N - 1)).map (fun j : Nat => (⟨1, 0, 0, (j : Int), (l.length : Int) + 1, k, 0, [{ e with view := 0 }]⟩ : Msg)) } : Rp), (0 : Int)) = _
    rw [hee, h.len]
    rfl
  · have e1 : (calmF N l k a).set 0 (mkR N 0 (l ++ [e]) k a) = tm N (fun i => if i = 0 then mkR N 0 (l ++ [e]) k a else if i ≤ 0 then mkR N i (l ++ [e]) k [] else mkR N i l k []) := by
      unfold calmF
      rw [tm_set]
      exact tm_ext (fun i hi => by
        by_cases h0 : i = 0
        · rw [if_pos h0, if_pos h0]
        · rw [if_neg h0, if_neg h0, if_neg h0, if_neg (by omega)])
    rw [e1]
    simpa using t1
  · unfold tickR
    rw [if_pos (role_mk0 hN.1 _ _ _), say_mk hN.1]
    show ({ mkR N 0 (l ++ [e]) ((k : Int) + 1) a1 with out := (List.range' 1 (N - 1)).map (fun j : Nat => (⟨3, 0, 0, (j : Int), ((l ++ [e]).length : Int), (k : Int) + 1, 0, []⟩ : Msg)) } : Rp) = _
    rw [hl1]
    rfl
  · have e1 : tm N (fun i => if i = 0 then mkR N 0 (l ++ [e]) ((k : Int) + 1) a1 else mkR N i (l ++ [e]) k []) = tm N (fun i => if i = 0 then mkR N 0 (l ++ [e]) ((k : Int) + 1) a1 else if i ≤ 0 then mkR N i (l ++ [e]) ((k : Int) + 1) [] else mkR N i (l ++ [e]) k []) := tm_ext (fun i hi => by
        by_cases h0 : i = 0
        · rw [if_pos h0, if_pos h0]
        · rw [if_neg h0, if_neg h0, if_neg (by omega)])
    rw [e1]
    simpa [calmF] using t2
end Go.Proofs.Ytaldoajdhbndhaa.Pa


/- All that is under way is delivered, the eldest first. -/

namespace Go.Proofs.Ytaldoajdhbndhaa.Pa

set_option linter.unusedVariables false

set_option linter.unusedSimpArgs false

open Go.RowKit Go.Proofs.Ytaldoajdhbndhaa.C

attribute [local go_sem] max2_int min2_int max_two min_two

set_option maxHeartbeats 4000000 in
set_option maxRecDepth 100000 in
theorem all_any {base : Nat} {w : World} {U : Nat → Prop} {lv nv : Value} {ps : List P4} {rs rs' : List Rp} {net : List Msg} {N t bl : Nat} (hN : 3 ≤ N ∧ N ≤ 7) (hbl : w.heap[bl]? = some (.cells #[lv] 82 (0, 0))) (hT : Team w U lv ps rs) (hn : Vec msgK 41 w (fun x => ¬ U x) (fun x => ¬ U x) nv net) (hg : Goes N rs net t rs') (ht : t ≤ 500) (hlen : net.length ≤ 100) (hrl : rs.length = N) (hU : ∀ x, U x → base ≤ x ∧ x ≠ bl) :
    Calls Try.prog 38 #[nv, .pointer (some ⟨bl, 0, none⟩)] w fun e w' => e = .returned (.tuple #[]) ∧ Team w' U lv ps rs' ∧ Chg (fun x => base ≤ x ∧ x ≠ bl) w w' := by
  obtain ⟨A, c, rfl⟩ := vec_slice hT.vec (n := N) (by rw [List.length_map, hT.len]; exact hrl)
  have hnb7 : (N : Int) ≤ 7 := by omega
  have T := hid hT
  have HN := hid hn
  have G := hid hg
  have UE := hid hU
  have BL := hid hbl
  have HRL := hid hrl
  have HT5 := hid ht
  have HLN := hid hlen
  have HPL := hid (show ps.length = N by rw [hT.len]; exact hrl)
  clear hT hn hg hU hbl hrl ht hlen
  go_enter Try.func38, Try.ntmps38
  go_wp2_with fail
  go_loopw [0, 3] (fun nv i wx => ∃ (k : Nat) (An : Option Addr) (nn cn : Nat) (rs : List Rp) (net : List Msg) (t : Nat), i = .int .i64 k ∧ k + t ≤ 500 ∧ nv = .slice An nn cn ∧ nn = net.length ∧ nn ≤ 100 ∧ Goes N rs net t rs' ∧ Team wx U (.slice A N c) ps rs ∧ Vec msgK 41 wx (fun x => ¬ U x) (fun x => ¬ U x) nv net ∧ Chg (fun x => base ≤ x ∧ x ≠ bl) w wx) (fun _ i _ => 500 - (intOf i).toNat)
  case atStart =>
    obtain ⟨An, cn, e⟩ := HN.out.form
    exact ⟨0, An, net.length, cn, rs, net, t, rfl, by have := HT5.out; omega, e, rfl, HLN.out, G.out, T.out, HN.out, Chg.refl _ _⟩
  case round =>
    obtain ⟨k, An, nn, cn, rs1, net1, t1, rfl, hkt, rfl, hnn, hnl, hG1, hT1, hN1, hC1⟩ := hrel
    have G1 := hid hG1
    have T1 := hid hT1
    have N1 := hid hN1
    have C1 := hid hC1
    have HNN := hid hnn
    have HNL := hid hnl
    have HKT := hid hkt
    have hk5 : (k : Int) ≤ 500 := by omega
    have hnb : (nn : Int) ≤ 100 := by omega
    clear hG1 hT1 hN1 hC1 hnn hnl hkt
    cases hnt : net1 with
    | nil =>
      have hz : nn = 0 := by rw [HNN.out, hnt]; rfl
      subst hz
      obtain ⟨_, hrs⟩ := Goes.nil_inv (by have := G1.out; rw [hnt] at this; exact this)
      subst hrs
      by_cases hk : k < 500
      · have hk2 : (k : Int) < 500 := by omega
        go_wp2_with fail
        go_end0
        exact ⟨rfl, T1.out, C1.out⟩
      · have hk2 : ¬ (k : Int) < 500 := by omega
        go_wp2_with fail
        go_end0
        exact ⟨rfl, T1.out, C1.out⟩
    | cons m0 nr =>
      obtain ⟨t2, di, r, rfl, hdi, hdl, hr, hob, hG2⟩ := Goes.cons_inv (by have := G1.out; rw [hnt] at this; exact this)
      have hnz : nn = nr.length + 1 := by rw [HNN.out, hnt]; rfl
      have hk2 : (k : Int) < 500 := by have := HKT.out; omega
      have hn0 : (0 : Int) < (nn : Int) := by omega
      have hdb : (di : Int) < (N : Int) := by omega
      have hd0 : (0 : Int) ≤ (di : Int) := by omega
      have G2 := hid hG2
      have HOB := hid hob
      have HNZ := hid hnz
      obtain ⟨m, g, B, mk, md, hm0, _, hAn, hgl, hMK, hML, hcM⟩ := Vec.msg N1.out (i := 0) (by omega)
      obtain rfl : m = m0 := by rw [hnt] at hm0; simpa using hm0.symm
      subst hAn
      rw [hdi] at hMK hcM
      have HML := hid hML
      have HDI := hid hdi
      clear hdi hnz
      obtain ⟨qd, hqd⟩ : ∃ qd, ps[di]? = some qd := ⟨_, List.getElem?_eq_getElem (by have h1 := HPL.out; omega)⟩
      obtain ⟨g2, cs6, hA2, _, _, hK2, hcs2⟩ := T1.out.vec.get (by decide) (i := di) (x := qd.1) (by rw [List.getElem?_map, hqd]; rfl)
      subst hK2
      subst hA2
      have y1 : wr.cell? ⟨g2, di, none⟩ = some (.pointer (some ⟨qd.1, 0, none⟩)) := by have := hcs2 0 _ rfl; simpa [ptrK] using this
      have BL1 := hid (C1.out.blk BL.out (fun h => h.2 rfl))
      have E_l : ∀ wx, Chg (fun _ => False) wr wx → wx.cell? ⟨bl, 0, none⟩ = some (.slice (some ⟨g2, 0, none⟩) N c) := fun wx hx => (cellAt (hx.blk BL1.out (fun h => h)) 0).trans rfl
      have E_y : ∀ wx, Chg (fun _ => False) wr wx → wx.cell? ⟨g2, di, none⟩ = some (.pointer (some ⟨qd.1, 0, none⟩)) := fun wx hx => hx.cell y1 (fun h => h)
      have E_0 : ∀ wx, Chg (fun _ => False) wr wx → wx.cell? ⟨g, 0, none⟩ = some (.int .i64 m.kind) := fun wx hx => hx.cell (by have := hcM 0 _ rfl; simpa using this) (fun h => h)
      have E_1 : ∀ wx, Chg (fun _ => False) wr wx → wx.cell? ⟨g, 1, none⟩ = some (.int .i64 m.view) := fun wx hx => hx.cell (by have := hcM 1 _ rfl; simpa using this) (fun h => h)
      have E_2 : ∀ wx, Chg (fun _ => False) wr wx → wx.cell? ⟨g, 2, none⟩ = some (.int .i64 m.src) := fun wx hx => hx.cell (by have := hcM 2 _ rfl; simpa using this) (fun h => h)
      have E_3 : ∀ wx, Chg (fun _ => False) wr wx → wx.cell? ⟨g, 3, none⟩ = some (.int .i64 (di : Int)) := fun wx hx => hx.cell (by have := hcM 3 _ rfl; simpa using this) (fun h => h)
      have E_4 : ∀ wx, Chg (fun _ => False) wr wx → wx.cell? ⟨g, 4, none⟩ = some (.int .i64 m.op) := fun wx hx => hx.cell (by have := hcM 4 _ rfl; simpa using this) (fun h => h)
      have E_5 : ∀ wx, Chg (fun _ => False) wr wx → wx.cell? ⟨g, 5, none⟩ = some (.int .i64 m.commit) := fun wx hx => hx.cell (by have := hcM 5 _ rfl; simpa using this) (fun h => h)
      have E_6 : ∀ wx, Chg (fun _ => False) wr wx → wx.cell? ⟨g, 6, none⟩ = some (.int .i64 m.normal) := fun wx hx => hx.cell (by have := hcM 6 _ rfl; simpa using this) (fun h => h)
      have E_7 : ∀ wx, Chg (fun _ => False) wr wx → wx.cell? ⟨g, 7, none⟩ = some (.slice B mk md) := fun wx hx => hx.cell (by have := hcM 7 _ rfl; simpa using this) (fun h => h)
      have RQJ := hid (T1.out.rq di qd r hqd hr)
      have QM := hid (List.mem_of_getElem? hqd)
      have HQD := hid hqd
      go_upto_region 3 with fail
      clear y1 hcs2 hcM hMK hML hqd hr hm0 hob hG2
      refine wpB_start (fun wx : World => Chg (fun _ => False) wr wx) (by kernel_rfl) ?_
      have hHeld : (fun wx : World => Chg (fun _ => False) wr wx) _ := (Chg.refl (fun _ => False) wr).drew
      -- 0: t16 := load 82 t1 : 82
      refine wpB_take (i := 0) (v := ?_) (get_of_drop rfl) (by kernel_rfl) (by kernel_rfl) (by kernel_rfl) (by kernel_rfl) (fun _ _ _ h => h) (Or.inl ⟨by rfl, ?_⟩) hHeld ?_
      rotate_left
      · (intro w hSw; (try dsimp only at hSw); go_simp <;> with_reducible rfl)
      try simp only [Act.put, List.setIfInBounds_toArray, List.set_cons_zero, List.set_cons_succ]
      -- 1: t17 := move t0 : 27
      refine wpB_take (i := 1) (v := ?_) (get_of_drop rfl) (by kernel_rfl) (by kernel_rfl) (by kernel_rfl) (by kernel_rfl) (fun _ _ _ h => h) (Or.inl ⟨by rfl, ?_⟩) hHeld ?_
      rotate_left
      · (intro w hSw; (try dsimp only at hSw); go_simp <;> with_reducible rfl)
      try simp only [Act.put, List.setIfInBounds_toArray, List.set_cons_zero, List.set_cons_succ]
      -- 2: t18 := indexAddr 27 t17 #i64:0 : 0
      refine wpB_take (i := 2) (v := ?_) (get_of_drop rfl) (by kernel_rfl) (by kernel_rfl) (by kernel_rfl) (by kernel_rfl) (fun _ _ _ h => h) (Or.inl ⟨by rfl, ?_⟩) hHeld ?_
      rotate_left
      · (intro w hSw; (try dsimp only at hSw); go_simp <;> with_reducible rfl)
      try simp only [Act.put, List.setIfInBounds_toArray, List.set_cons_zero, List.set_cons_succ]
      -- 3: t19 := fieldAddr 41 t18 3 : 0
      refine wpB_take (i := 3) (v := ?_) (get_of_drop rfl) (by kernel_rfl) (by kernel_rfl) (by kernel_rfl) (by kernel_rfl) (fun _ _ _ h => h) (Or.inl ⟨by rfl, ?_⟩) hHeld ?_
      rotate_left
      · (intro w hSw; (try dsimp only at hSw); go_simp <;> with_reducible rfl)
      try simp only [Act.put, List.setIfInBounds_toArray, List.set_cons_zero, List.set_cons_succ]
      -- 4: t20 := load 3 t19 : 3
      refine wpB_take (i := 4) (v := ?_) (get_of_drop rfl) (by kernel_rfl) (by kernel_rfl) (by kernel_rfl) (by kernel_rfl) (fun _ _ _ h => h) (Or.inl ⟨by rfl, ?_⟩) hHeld ?_
      rotate_left
      · (intro w hSw; (try dsimp only at hSw); go_simp <;> with_reducible rfl)
      try simp only [Act.put, List.setIfInBounds_toArray, List.set_cons_zero, List.set_cons_succ]
      -- 5: t21 := indexAddr 82 t16 t20 : 0
      refine wpB_take (i := 5) (v := ?_) (get_of_drop rfl) (by kernel_rfl) (by kernel_rfl) (by kernel_rfl) (by kernel_rfl) (fun _ _ _ h => h) (Or.inl ⟨by rfl, ?_⟩) hHeld ?_
      rotate_left
      · (intro w hSw; (try dsimp only at hSw); go_simp <;> with_reducible rfl)
      try simp only [Act.put, List.setIfInBounds_toArray, List.set_cons_zero, List.set_cons_succ]
      -- 6: t22 := load 30 t21 : 30
      refine wpB_take (i := 6) (v := ?_) (get_of_drop rfl) (by kernel_rfl) (by kernel_rfl) (by kernel_rfl) (by kernel_rfl) (fun _ _ _ h => h) (Or.inl ⟨by rfl, ?_⟩) hHeld ?_
      rotate_left
      · (intro w hSw; (try dsimp only at hSw); go_simp <;> with_reducible rfl)
      try simp only [Act.put, List.setIfInBounds_toArray, List.set_cons_zero, List.set_cons_succ]
      -- 7: t23 := move t0 : 27
      refine wpB_take (i := 7) (v := ?_) (get_of_drop rfl) (by kernel_rfl) (by kernel_rfl) (by kernel_rfl) (by kernel_rfl) (fun _ _ _ h => h) (Or.inl ⟨by rfl, ?_⟩) hHeld ?_
      rotate_left
      · (intro w hSw; (try dsimp only at hSw); go_simp <;> with_reducible rfl)
      try simp only [Act.put, List.setIfInBounds_toArray, List.set_cons_zero, List.set_cons_succ]
      -- 8: t24 := indexAddr 27 t23 #i64:0 : 0
      refine wpB_take (i := 8) (v := ?_) (get_of_drop rfl) (by kernel_rfl) (by kernel_rfl) (by kernel_rfl) (by kernel_rfl) (fun _ _ _ h => h) (Or.inl ⟨by rfl, ?_⟩) hHeld ?_
      rotate_left
      · (intro w hSw; (try dsimp only at hSw); go_simp <;> with_reducible rfl)
      try simp only [Act.put, List.setIfInBounds_toArray, List.set_cons_zero, List.set_cons_succ]
      -- 9: t25 := load 41 t24 : 41
      refine wpB_take (i := 9) (v := ?_) (get_of_drop rfl) (by kernel_rfl) (by kernel_rfl) (by kernel_rfl) (by kernel_rfl) (fun _ _ _ h => h) (Or.inl ⟨by rfl, ?_⟩) hHeld ?_
      rotate_left
      · (intro w hSw; (try dsimp only at hSw); go_simp <;> with_reducible rfl)
      try simp only [Act.put, List.setIfInBounds_toArray, List.set_cons_zero, List.set_cons_succ]
      -- 10: t26 := CALL fn18(t22, t25) : 43 (BARRIER)
      refine wpB_bar (i := 10) (by kernel_rfl) (get_of_drop rfl) (by kernel_rfl) (fun K hK => ?_)
      go_simp
      have TA := hid (T1.out.far hHeld)
      have NA := hid (N1.out.chg hHeld (fun _ _ h => h) (fun _ _ _ _ h => h))
      have CA := hid (C1.out.trans hHeld (fun _ h _ => h.elim))
      have HD := rq_deliver (RQJ.out.far hHeld) (m := m) (HML.out.chg hHeld (fun _ _ h => h)) (fun x hx _ hm => hx.1 (T1.out.sub qd QM.out x hm).1)
      rw [HDI.out] at HD
      refine HD.mono ?_
      clear HD
      rintro e wt ⟨Ao, co, rfl, hq', hv', kt⟩
      have TT := hid (TA.out.call HQD.out hq' kt)
      have NT := hid (NA.out.chg kt (fun x hx hm => NA.out.inS x hx (TA.out.sub qd QM.out x hm).1) (fun x hx _ _ hm => hx (TA.out.sub qd QM.out x hm).1))
      have CT := hid (show Chg (fun x => base ≤ x ∧ x ≠ bl) w wt from CA.out.trans kt (fun x hx _ => UE.out x (TA.out.sub qd QM.out x hx).1))
      obtain ⟨er, her⟩ : ∃ q_, q_ = (deliverR r m).2 := ⟨_, rfl⟩
      rw [← her]
      obtain ⟨s1, s2, _, s3, news, s4, s5⟩ := Vec.parts hv'
      replace s5 := s5.mono (S' := fun x => ¬ U x ∧ x < wt.heap.size) (fun x hx => ⟨fun hu => by have h1 := TA.out.lt x hu; have h2 := hx.1; omega, hx.2.2⟩)
      obtain ⟨on, hon⟩ : ∃ q_, q_ = (deliverR r m).1.out.length := ⟨_, rfl⟩
      rw [← hon] at s2 ⊢
      have HON := hid hon
      have S2 := hid s2
      have S3 := hid s3
      have S4 := hid s4
      have S5 := hid s5
      clear s1 s2 s3 s4 s5 hon hv' hq' kt her
      refine hK.out _ _ (fun _ : World => True) ?_
      clear hHeld hK K
      have hHeld := trivial
      try simp only [Act.put, List.setIfInBounds_toArray, List.set_cons_zero, List.set_cons_succ]
      -- 11: t15 := move t26 : 43
      refine wpB_take (i := 11) (v := ?_) (get_of_drop rfl) (by kernel_rfl) (by kernel_rfl) (by kernel_rfl) (by kernel_rfl) (fun _ _ _ h => h) (Or.inl ⟨by rfl, ?_⟩) hHeld ?_
      rotate_left
      · (intro w hSw; (try dsimp only at hSw); go_simp <;> with_reducible rfl)
      try simp only [Act.put, List.setIfInBounds_toArray, List.set_cons_zero, List.set_cons_succ]
      -- 12: t27 := extract t15 0 : 27
      refine wpB_take (i := 12) (v := ?_) (get_of_drop rfl) (by kernel_rfl) (by kernel_rfl) (by kernel_rfl) (by kernel_rfl) (fun _ _ _ h => h) (Or.inl ⟨by rfl, ?_⟩) hHeld ?_
      rotate_left
      · (intro w hSw; (try dsimp only at hSw); go_simp <;> with_reducible rfl)
      try simp only [Act.put, List.setIfInBounds_toArray, List.set_cons_zero, List.set_cons_succ]
      -- 13: t28 := extract t15 1 : 31
      refine wpB_take (i := 13) (v := ?_) (get_of_drop rfl) (by kernel_rfl) (by kernel_rfl) (by kernel_rfl) (by kernel_rfl) (fun _ _ _ h => h) (Or.inl ⟨by rfl, ?_⟩) hHeld ?_
      rotate_left
      · (intro w hSw; (try dsimp only at hSw); go_simp <;> with_reducible rfl)
      try simp only [Act.put, List.setIfInBounds_toArray, List.set_cons_zero, List.set_cons_succ]
      -- 14: t4 := assign t27 : 27
      refine wpB_take (i := 14) (v := ?_) (get_of_drop rfl) (by kernel_rfl) (by kernel_rfl) (by kernel_rfl) (by kernel_rfl) (fun _ _ _ h => h) (Or.inl ⟨by rfl, ?_⟩) hHeld ?_
      rotate_left
      · (intro w hSw; (try dsimp only at hSw); go_simp <;> with_reducible rfl)
      try simp only [Act.put, List.setIfInBounds_toArray, List.set_cons_zero, List.set_cons_succ]
      -- 15: t5 := assign t28 : 31
      refine wpB_take (i := 15) (v := ?_) (get_of_drop rfl) (by kernel_rfl) (by kernel_rfl) (by kernel_rfl) (by kernel_rfl) (fun _ _ _ h => h) (Or.inl ⟨by rfl, ?_⟩) hHeld ?_
      rotate_left
      · (intro w hSw; (try dsimp only at hSw); go_simp <;> with_reducible rfl)
      try simp only [Act.put, List.setIfInBounds_toArray, List.set_cons_zero, List.set_cons_succ]
      refine wpB_done (by kernel_rfl) ?_ _
      clear hHeld E_l E_y E_0 E_1 E_2 E_3 E_4 E_5 E_6 E_7
      have SL := hid (show nr.length + on ≤ 100 by have := HOB.out; rw [List.length_append, ← HON.out] at this; exact this)
      have SLI : (on : Int) ≤ 100 := by have := SL.out; omega
      obtain ⟨p1, p2, p3, p4, cells, hSee, hRow⟩ := Vec.parts NT.out
      obtain ⟨A9, hA9⟩ : ∃ q_, q_ = (if cn = 1 then (some ⟨g, 0, none⟩ : Option Addr) else (some (⟨g, 0, none⟩ : Addr)).map (·.add (1 * 8))) := ⟨_, rfl⟩
      have PL : cells.length = nn * 8 := by rw [hRow.1, ← p1]; rfl
      have PS9 := hid (show Sees wt (fun x => (Value.slice (some ⟨g, 0, none⟩) nn cn).ownBlock = some x) A9 (cells.drop (1 * 8)) by rw [hA9]; exact Sees.cut hSee (by rw [PL]; exact Nat.mul_le_mul_right 8 p2) (by have := HNZ.out; omega))
      have PR9 := hid (show Ty.Row msgK wt (fun x => ¬ U x ∧ (Value.slice (some ⟨g, 0, none⟩) nn cn).ownBlock ≠ some x ∧ x < wt.heap.size) nr (cells.drop (1 * 8)) by have h := hRow.drop 1; rw [show net1.drop 1 = nr by rw [hnt]; rfl] at h; exact h)
      have PA9 := hid (show A9 ≠ none by rw [hA9]; split <;> simp)
      obtain ⟨nd, hnd⟩ : ∃ q_, q_ = nn - 1 := ⟨_, rfl⟩
      obtain ⟨cd, hcd⟩ : ∃ q_, q_ = cn - 1 := ⟨_, rfl⟩
      have hcut2 : ∀ W, (Instr.slice 27 (.slice (some ⟨g, 0, none⟩) nn cn) (some (.int .i64 1)) none none).run Try.prog W = .ok (.slice A9 nd cd) W := fun W => by
        have h1 := cut_from (P := Try.prog) 27 41 .i64 Try.underlying27 (info_parts infoMsgP).choose_spec.1 8 (info_parts infoMsgP).choose_spec.2.2.1 (some ⟨g, 0, none⟩) nn cn 1 (by have := HNZ.out; omega) W
        rw [← hA9, ← hnd, ← hcd] at h1
        exact h1
      have HCD := hid (show nd ≤ cd by omega)
      have HND := hid (show nd = nr.length by have := HNZ.out; omega)
      have hndb : (nd : Int) ≤ 100 := by omega
      clear hSee hRow p1 p2 p3 p4 PL hA9 hnd hcd
      go_wp2_with (first | (((with_reducible refine at_dst (N := 32) rfl ?_); obtain ⟨wl, hwl⟩ : ∃ q_, q_ = wt.alloc (.cells #[] 41) := ⟨_, rfl⟩; obtain ⟨bx, hbx⟩ : ∃ q_, q_ = wt.heap.size := ⟨_, rfl⟩; rw [← hwl, ← hbx]; have HWL := hid (show Chg (fun _ => False) wt wl from (by rw [hwl]; exact (Chg.refl _ wt).alloc _)); have HBX := hid (show wt.heap.size ≤ bx from (by omega)); have HV0 := hid (show Vec msgK 41 wl (fun x => wt.heap.size ≤ x) (fun x => ¬ U x) (.slice (some ⟨bx, 0, none⟩) 0 0) [] from (by rw [hwl, hbx]; exact (Vec.made msgK 41 wt (fun x => ¬ U x)).mono (fun x hx _ => (by rw [hx]; exact Nat.le_refl _)) (fun _ h _ => h))); clear hwl hbx; refine vec_list (d := msgK) _ rfl (.tmp 29) (.tmp 31) 27 41 (.agg #[.int .i64 0, .int .i64 0, .int .i64 0, .int .i64 0, .int .i64 0, .int .i64 0, .int .i64 0, .slice none 0 0]) 80 rfl Try.underlying27 infoMsgP rfl (by decide) (by decide) (.slice (some ⟨bx, 0, none⟩) 0 0) rfl HV0.out A9 nd cd (ys := nr) rfl (fun e => absurd e PA9.out) HCD.out HND.out (PS9.out.chg HWL.out (fun _ _ h => h)) ((PR9.out.chg HWL.out (fun _ _ h => h)).mono (fun x hx => ⟨hx.1, fun e => (by have h1 := HBX.out; have h2 := hx.2.2; simp [Value.ownBlock] at e; omega), Nat.lt_of_lt_of_le hx.2.2 HWL.out.size⟩)) (by have h1 := hndb; simp; omega) ?_; rw [show ([] : List Msg).length + nd = nd from Nat.zero_add nd, List.nil_append]; intro A7 c7 w7 h7 k7; have HW7 := hid (show Chg (fun _ => False) wt w7 from HWL.out.trans k7 (fun x hx hl => (by have h1 := HBX.out; simp [Value.ownBlock] at hx; omega))); have HV7 := hid (h7.mono (S' := fun x => wt.heap.size ≤ x) (D' := fun x => ¬ U x) (fun x hx _ => hx.elim id (fun e => Nat.le_trans HWL.out.size e)) (fun _ h _ => h)); clear h7 k7)) | ((with_reducible refine at_dst (N := 34) rfl ?_); refine vec_list (d := msgK) _ rfl (.tmp 32) (.tmp 33) 27 41 (.agg #[.int .i64 0, .int .i64 0, .int .i64 0, .int .i64 0, .int .i64 0, .int .i64 0, .int .i64 0, .slice none 0 0]) 80 rfl Try.underlying27 infoMsgP rfl (by decide) (by decide) (.slice A7 nd c7) rfl HV7.out Ao on co (ys := (deliverR r m).1.out) rfl S3.out S2.out HON.out (S4.out.chg HW7.out (fun _ _ h => h)) ((S5.out.chg HW7.out (fun _ _ h => h)).mono (fun x hx => ⟨hx.1, fun e => (by have h1 := HV7.out.inS x e; have h2 := hx.2; omega), Nat.lt_of_lt_of_le hx.2 HW7.out.size⟩)) (by have h1 := SL.out; omega) ?_; rw [← HND.out]; intro A8 c8 w8 h8 k8; have HW8 := hid (show Chg (fun _ => False) wt w8 from HW7.out.trans k8 (fun x hx hl => (by have h1 := HV7.out.inS x hx; omega))); have HV8 := hid (h8.mono (S' := fun x => ¬ U x) (D' := fun x => ¬ U x) (fun x hx _ hu => (by have h1 := TT.out.lt x hu; have h2 := HW7.out.size; rcases hx with e | e <;> omega)) (fun _ h _ => h)); clear h8 k8))
      have T8 := hid (TT.out.far HW8.out)
      go_roundw
      case measure => simp [intOf]; omega
      case rel =>
        have HR := (show k + 1 + t2 ≤ 500 by have := HKT.out; omega)
        have HC := (show Chg (fun x => base ≤ x ∧ x ≠ bl) w w8 from CT.out.trans HW8.out (fun _ h _ => h.elim))
        first | exact ⟨k + 1, A8, nd + on, c8, _, _, t2, by go_num, HR, rfl, by rw [List.length_append, ← HND.out, HON.out], by have := SL.out; have := HND.out; omega, G2.out, T8.out, HV8.out, HC⟩ | ((repeat apply Exists.intro); exact ⟨⟨k + 1, A8, nd + on, c8, _, _, t2, by go_num, HR, rfl, by rw [List.length_append, ← HND.out, HON.out], by have := SL.out; have := HND.out; omega, G2.out, T8.out, HV8.out, HC⟩, rfl⟩)
end Go.Proofs.Ytaldoajdhbndhaa.Pa


/- Replicas that nothing befalls: the walk for so many of them. -/

namespace Go.Proofs.Ytaldoajdhbndhaa.Pa

set_option linter.unusedVariables false

set_option linter.unusedSimpArgs false

open Go.RowKit Go.Proofs.Ytaldoajdhbndhaa.C

attribute [local go_sem] max2_int min2_int max_two min_two

def teamC (N k : Nat) : List Rp := (List.range k).map fun j : Nat => newR (N : Int) (j : Int) 4 emptyS
theorem teamC_succ (N k : Nat) : teamC N (k + 1) = teamC N k ++ [newR (N : Int) (k : Int) 4 emptyS] := by unfold teamC; rw [List.range_succ, List.map_append]; rfl
theorem teamC_calm (N : Nat) : teamC N N = calmF N [] ((0 : Nat) : Int) [] := by
  unfold teamC calmF tm
  refine List.map_congr_left (fun i hi => ?_)
  by_cases h : i = 0
  · subst h; rfl
  · rw [if_neg h]; rfl
theorem cfg_team4 {N id : Nat} (hN : N = 3 ∨ N = 5 ∨ N = 7) (hid : id < N) : cfgR (N : Int) (id : Int) 4 = true := by
  unfold cfgR
  rw [decide_eq_true_eq]
  omega
theorem vec_len {α : Type} {d : Ty α} {e : TypeId} {w : World} {S D : Nat → Prop} {A : Option Addr} {n c m : Nat} {xs : List α} (h : Vec d e w S D (.slice A n c) xs) (hm : xs.length = m) : Vec d e w S D (.slice A m c) xs := by
  have := (Vec.parts h).1
  rw [← hm, ← this]; exact h
/-- A box that stands apart was written. -/
theorem Team.boxed {w w' : World} {U : Nat → Prop} {lv : Value} {ps : List P4} {rs : List Rp} {bl : Nat} (h : Team w U lv ps rs) (hc : Chg (fun x => x = bl) w w') (hu : U bl) (hm : ∀ q ∈ ps, ¬ m4 q bl) (hl : lv.ownBlock ≠ some bl) : ∃ U' : Nat → Prop, (∀ x, U x → U' x) ∧ (∀ x, U' x → U x) ∧ Team w' U' lv ps rs :=
  ⟨_, fun x hx => .inl hx, fun x hx => hx.elim id (fun e => e.elim), h.widen (Y := fun _ => False) hc (fun k hk _ => by subst hk; exact ⟨hu, hm, hl⟩) (fun _ e => e.elim)⟩
set_option maxHeartbeats 4000000 in
set_option maxRecDepth 100000 in
theorem calm_any {w : World} {N : Nat} (hN : N = 3 ∨ N = 5 ∨ N = 7) {L : Option Addr} {ln lc : Nat} {l : List Int} (hl : Ty.At (Ty.int .i64) w (fun k => k < w.heap.size) L ln lc l) :
    Calls Try.prog 8 #[.int .i64 (N : Int), .slice L ln lc] w fun e w' => e = .returned (.bool true) ∧ Below w.heap.size w w' := by
  have HL := hid hl
  have hlm : (ln : Int) ≤ 9223372036854775807 := by have h1 := hl.2.1; have h2 := hl.2.2.1; simp only [maxLen] at h2; omega
  have HN := hid hN
  have HNB := hid (show 3 ≤ N ∧ N ≤ 7 by omega)
  have hnb7 : (N : Int) ≤ 7 := by omega
  clear hl hN
  go_enter Try.func8, Try.ntmps8
  go_wp2_with fail
  refine (anchor15_any w).mono ?_
  rintro e w1 ⟨rfl, k1⟩
  have C1 := hid k1
  clear k1
  go_upto_region 3 with fail
  go_cut [34] (fun v wx => v = .bool (decide (20 < ln)) ∧ w1 = wx)
  case first =>
    have hN := HN.out
    by_cases hs : 20 < ln
    · have hs2 : (20 : Int) < (ln : Int) := by omega
      rcases hN with rfl | rfl | rfl
      · go_wp2_with fail
        go_meet
        exact ⟨by simp [hs], rfl⟩
      · go_wp2_with fail
        go_meet
        exact ⟨by simp [hs], rfl⟩
      · go_wp2_with fail
        go_meet
        exact ⟨by simp [hs], rfl⟩
    · have hs2 : ¬ (20 : Int) < (ln : Int) := by omega
      rcases hN with rfl | rfl | rfl
      · go_wp2_with fail
        go_meet
        exact ⟨by simp [hs], rfl⟩
      · go_wp2_with fail
        go_meet
        exact ⟨by simp [hs], rfl⟩
      · go_wp2_with fail
        go_meet
        exact ⟨by simp [hs], rfl⟩
  case rest =>
    obtain ⟨rfl, rfl⟩ := hcut
    by_cases hs : 20 < ln
    · rw [decide_eq_true hs]
      go_wp2_with fail
      go_ret
      exact ⟨rfl, C1.out.below (Nat.le_refl _) (fun _ h => h.elim)⟩
    rw [decide_eq_false hs]
    have HS := hid (show ln ≤ 20 by omega)
    have hsb : (ln : Int) ≤ 20 := by omega
    clear hs
    go_upto_region 6 with fail
    obtain ⟨bl, hbl⟩ : ∃ q_, q_ = w1.heap.size := ⟨_, rfl⟩
    obtain ⟨W0, hW0⟩ : ∃ q_, q_ = w1.alloc (.cells #[.slice none 0 0] 82) := ⟨_, rfl⟩
    have BL0 := hid (show W0.heap[bl]? = some (.cells #[.slice none 0 0] 82 (0, 0)) by rw [hW0, hbl]; exact blk_new w1 _)
    have CW0 := hid (show Chg (fun x => w.heap.size ≤ x) w W0 by rw [hW0]; exact (C1.out.mono (fun _ h _ => h.elim)).alloc _)
    have HBL := hid (show w.heap.size ≤ bl by rw [hbl]; exact C1.out.size)
    rw [← hW0, ← hbl]
    clear hW0 hbl
    go_wp2_with fail
    go_loopw [36] (fun i wr => ∃ (k : Nat) (A : Option Addr) (c : Nat) (U : Nat → Prop) (ps : List P4), k ≤ N ∧ i = .int .i64 k ∧ wr.heap[bl]? = some (.cells #[.slice A k c] 82 (0, 0)) ∧ Team wr U (.slice A k c) ps (teamC N k) ∧ (∀ x, U x → w.heap.size ≤ x) ∧ U bl ∧ (∀ q ∈ ps, ¬ m4 q bl) ∧ (Value.slice A k c).ownBlock ≠ some bl ∧ Chg (fun x => w.heap.size ≤ x) w wr) (fun i _ => N - (intOf i).toNat)
    case atStart => exact ⟨0, none, 0, fun x => x = bl, [], Nat.zero_le _, rfl, BL0.out, ⟨rfl, Vec.nil _ _ _ _ _, fun i q r hq => by simp at hq, fun q hq => (by cases hq), fun i j q q' _ hq => by simp at hq, fun k hk => (by subst hk; exact lt_of_blk BL0.out)⟩, fun x hx => (by subst hx; exact HBL.out), rfl, fun q hq => (by cases hq), by simp [Value.ownBlock], CW0.out⟩
    case round =>
      obtain ⟨k, A, c, U, ps, hk, rfl, hB, hT, hU, hub, hpb, hob, hC⟩ := hrel
      have HT := hid hT
      have HU := hid hU
      have HC := hid hC
      have HK := hid hk
      have HB := hid hB
      have HUB := hid hub
      have HPB := hid hpb
      have HOB := hid hob
      clear hT hU hC hB hub hpb hob
      by_cases hlt : k < N
      · have hlt2 : (k : Int) < (N : Int) := by omega
        have HLT := hid hlt
        go_wp2_with fail
        refine (rnew_any (R := fun _ => False) (s := emptyS) (n := (N : Int)) (id := (k : Int)) (tm := 4) (at_nil_ _ _ _) (by decide) ?_).mono ?_
        · have := HNB.out
          exact ⟨numW_of (by omega), numW_of (by omega), numW_of (by omega)⟩
        rintro e wn hnew
        obtain ⟨p, b1, b2, b3, rfl, hM, hQ, hcn⟩ := RQ.of_new hnew (cfg_team4 HN.out hlt) empty_right
        have HM := hid hM
        have HQ := hid hQ
        have HCN := hid hcn
        have LBL := hid (lt_of_blk HB.out)
        have z0 : wn.cell? ⟨bl, 0, none⟩ = some (.slice A k c) := (cellAt (hcn.blk HB.out (fun h => h)) 0).trans rfl
        have HBN := hid (hcn.blk HB.out (fun h => h))
        clear hnew hM hQ hcn
        go_wp2_with (first | ((with_reducible refine at_dst (N := 56) rfl ?_); obtain ⟨W1, hW1⟩ : ∃ q_, q_ = wn.alloc (.cells #[.pointer (some ⟨p, 0, none⟩)] 30) := ⟨_, rfl⟩; rw [← hW1]; have CW1 := hid (show Chg (fun _ => False) wn W1 from (by rw [hW1]; exact (Chg.refl _ wn).alloc _)); have CWA := hid (show Chg (fun _ => False) wr W1 from HCN.out.trans CW1.out (fun _ h _ => h)); have HV1 := hid (((Vec.self HT.out.vec).chg CWA.out (fun _ _ h => h) (fun _ h => h.elim)).mono (S' := fun x => (Value.slice A k c).ownBlock = some x) (D' := fun _ => False) (fun _ h _ => h) (fun _ h _ => h)); have HSEE := hid (show Sees W1 (fun x => x = wn.heap.size) (some ⟨wn.heap.size, 0, none⟩) [.pointer (some ⟨p, 0, none⟩)] from (by rw [hW1]; exact new_sees wn _ _)); clear hW1 z0; refine vec_list (d := ptrK) _ rfl (.tmp 53) (.tmp 55) 82 30 (.pointer none) 8 rfl Try.underlying82 infoPtr rfl (by decide) (by decide) (.slice A k c) rfl HV1.out (some ⟨wn.heap.size, 0, none⟩) 1 1 (ys := [p]) rfl (by simp) (by decide) rfl HSEE.out (Ty.Row.one_ rfl) (by have h1 := HLT.out; have h2 := HNB.out; have h3 : (ps.map (·.1)).length = k := (by rw [List.length_map, HT.out.len]; simp [teamC]); rw [h3]; omega) ?_; rw [show (ps.map (·.1)).length = k from (by rw [List.length_map, HT.out.len]; simp [teamC])]; intro A' c' w2 h1 h2; have G1 := hid h1; have G2 := hid h2; have HB2 := hid (h2.blk (CW1.out.blk HBN.out (fun h => h)) HOB.out); have z1 : w2.cell? ⟨bl, 0, none⟩ = some (.slice A k c) := (cellAt HB2.out 0).trans rfl; have z2 : w2.frozen? ⟨bl, 0, none⟩ = false := freeAt HB2.out _; clear h1 h2))
        obtain ⟨U', hsub, hU', hT'⟩ := HT.out.add (q := (p, b1, b2, b3)) HM.out (HQ.out.less (fun x hx => .inl hx) (fun x hx => hx.imp id (fun h => ⟨fun h => h, h⟩))) HCN.out ((CW1.out.mono (fun _ h _ => h.elim)).trans G2.out (fun _ h _ => h)) (G1.out.mono (fun x hx _ => hx.imp id (fun h => Nat.le_trans CW1.out.size h)) (fun _ h _ => h))
        rw [← teamC_succ] at hT'
        obtain ⟨w3, hw3⟩ : ∃ q_, q_ = w2.setCell ⟨bl, 0, none⟩ (.slice A' (k + 1) c') := ⟨_, rfl⟩
        have BW3 := hid (show w3.heap[bl]? = some (.cells #[.slice A' (k + 1) c'] 82 (0, 0)) by rw [hw3]; have := blk_set HB2.out 0 (.slice A' (k + 1) c'); simpa using this)
        have CW3 := hid (show Chg (fun x => x = bl) w2 w3 by rw [hw3]; exact (Chg.refl (fun x => x = bl) w2).set (p := ⟨bl, 0, none⟩) (fun _ => rfl) _)
        have hpb2 : ∀ q ∈ ps ++ [(p, b1, b2, b3)], ¬ m4 q bl := fun q hq => by
          rcases List.mem_append.1 hq with e | e
          · exact HPB.out q e
          · rw [List.mem_singleton.1 e]
            intro hm
            have h1 := (HM.out bl hm).1
            have h2 := LBL.out
            omega
        have hob2 : (Value.slice A' (k + 1) c').ownBlock ≠ some bl := fun e => by
          rcases G1.out.inS bl e with h | h
          · exact HOB.out h
          · have h1 := LBL.out; have h2 := HCN.out.size; have h3 := CW1.out.size; omega
        obtain ⟨U3, hs3, hs4, ht3⟩ := hT'.boxed CW3.out (hsub bl HUB.out) hpb2 hob2
        have BIG := (show ∃ (k_1 : Nat) (A : Option Addr) (c : Nat) (U : Nat → Prop) (ps : List P4), k_1 ≤ N ∧ Value.int IntKind.i64 ((k : Int) + 1) = .int .i64 (k_1 : Int) ∧ w3.heap[bl]? = some (.cells #[.slice A k_1 c] 82 (0, 0)) ∧ Team w3 U (.slice A k_1 c) ps (teamC N k_1) ∧ (∀ x, U x → w.heap.size ≤ x) ∧ U bl ∧ (∀ q ∈ ps, ¬ m4 q bl) ∧ (Value.slice A k_1 c).ownBlock ≠ some bl ∧ Chg (fun x => w.heap.size ≤ x) w w3 from
          ⟨k + 1, A', c', U3, ps ++ [(p, b1, b2, b3)], HLT.out, by go_num, BW3.out, ht3, fun x hx => (by
            rcases hU' x (hs4 x hx) with e | e
            · exact HU.out x e
            · exact Nat.le_trans HC.out.size e), hs3 bl (hsub bl HUB.out), hpb2, hob2, ((HC.out.trans CWA.out (fun _ h _ => h.elim)).trans G2.out (fun x hx _ => HU.out x (HT.out.vec.inS x hx))).trans CW3.out (fun x hx _ => by subst hx; exact HBL.out)⟩)
        have BIG2 := hid BIG
        clear BIG ht3 hs3 hs4 hT' hU' hsub hpb2 hob2
        rw [← hw3]
        clear hw3
        go_roundw
        case measure => simp [intOf]; omega
        case rel => first | exact BIG2.out | exact ⟨BIG2.out, rfl⟩ | ((repeat apply Exists.intro); exact ⟨BIG2.out, rfl⟩)
      · have hkn : ¬ (k : Int) < (N : Int) := by omega
        obtain rfl : k = N := by have := HK.out; omega
        have TL := hid (HT.out.less (U' := fun x => U x ∧ x ≠ bl) (fun x hx => hx.1) (fun q hq x hx => ⟨(HT.out.sub q hq x hx).1, fun e => HPB.out q hq (e ▸ hx)⟩) (fun x hx => ⟨HT.out.vec.inS x hx, fun e => HOB.out (e ▸ hx)⟩))
        obtain ⟨V, hV⟩ : ∃ V : Nat → Prop, V = fun x => U x ∧ x ≠ bl := ⟨_, rfl⟩
        rw [← hV] at TL
        have VE := hid (show ∀ x, V x → w.heap.size ≤ x ∧ x ≠ bl from fun x hx => by rw [hV] at hx; exact ⟨HU.out x hx.1, hx.2⟩)
        clear hV
        rw [teamC_calm] at TL
        go_wp2_with fail
        go_loopw [61] (fun i wr => ∃ (q : Nat) (es : List Entry) (a : List (Int × Int)), q ≤ ln ∧ i = .int .i64 q ∧ wr.heap[bl]? = some (.cells #[.slice A k c] 82 (0, 0)) ∧ Calm k q es a ∧ Team wr V (.slice A k c) ps (calmF k es q a) ∧ Chg (fun x => w.heap.size ≤ x) w wr) (fun i _ => ln - (intOf i).toNat)
        case atStart => exact ⟨0, [], [], Nat.zero_le _, rfl, HB.out, ⟨rfl, fun x hx => (by cases hx), fun p hp => (by cases hp)⟩, TL.out, HC.out⟩
        case round =>
          obtain ⟨q, es, a, hq, rfl, hB, hcm, hT, hC⟩ := hrel
          have B2 := hid hB
          have CM := hid hcm
          have T2 := hid hT
          have C2 := hid hC
          clear hB hcm hT hC
          by_cases hlt : q < ln
          · have hlt2 : (q : Int) < (ln : Int) := by omega
            have HLT := hid hlt
            obtain ⟨x, hx⟩ : ∃ x, l[q]? = some x := ⟨_, List.getElem?_eq_getElem (by have := HL.out.1; omega)⟩
            obtain ⟨al, cs, ha, haR, hK, hcs⟩ := (HL.out.chg C2.out (fun x hx e => by have h1 : x < w.heap.size := hx; have h2 : w.heap.size ≤ x := e; omega)).get (by decide) hx
            obtain ⟨rfl, hxn⟩ := hK
            subst ha
            have x0 : wr.cell? (al.add q) = some (.int .i64 x) := by have := hcs 0 _ rfl; rw [show q * (Ty.int .i64).sz + 0 = q from Nat.mul_one q] at this; exact this
            clear hcs hx haR
            go_wp2_with fail
            obtain ⟨cc, hcc, hc1, hc2⟩ : ∃ cc : Int, mx 1 (mn x 1099511627776) = cc ∧ 1 ≤ cc ∧ cc ≤ 1099511627776 := ⟨_, rfl, by unfold mx mn; split <;> split <;> omega, by unfold mx mn; split <;> split <;> omega⟩
            rw [hcc]
            clear hcc x0
            have HCC := hid (show 1 ≤ cc ∧ cc ≤ 1099511627776 from ⟨hc1, hc2⟩)
            have hqb : (q : Int) < 20 := by omega
            have hq64 : q < 64 := by omega
            obtain ⟨en, hen⟩ : ∃ en : Entry, en = ⟨0, cc, (q : Int) + 1, -1, -1, -1, -1, [], []⟩ := ⟨_, rfl⟩
            obtain ⟨a1, a2, cm2, hsub, hg1, htick, hg2⟩ := CM.out.round HNB.out hq64 (e := en) (by rw [hen]; unfold entryR numR; simp; omega) (by rw [hen]) (by rw [hen])
            have CM2 := hid cm2
            have HSUB := hid hsub
            have HG1 := hid hg1
            have HTK := hid htick
            have HG2 := hid hg2
            have HEN := hid hen
            clear cm2 hsub hg1 htick hg2 hen hc1 hc2
            obtain ⟨q0, hq0⟩ : ∃ q0, ps[0]? = some q0 := ⟨_, List.getElem?_eq_getElem (by have h1 := T2.out.len; have h2 := HNB.out; simp [calmF, tm] at h1; omega)⟩
            obtain ⟨g, cs6, hA2, _, _, hK2, hcs2⟩ := T2.out.vec.get (by decide) (i := 0) (x := q0.1) (by rw [List.getElem?_map, hq0]; rfl)
            subst hK2
            subst hA2
            have y1 : wr.cell? ⟨g, 0, none⟩ = some (.pointer (some ⟨q0.1, 0, none⟩)) := by have := hcs2 0 _ rfl; simpa [ptrK] using this
            have GET0 := hid (show (calmF k es q a)[0]? = some (mkR k 0 es q a) from (tm_get _ (by have := HNB.out; omega)).trans (by simp))
            have HQ0 := hid hq0
            have QM := hid (List.mem_of_getElem? hq0)
            clear hcs2 hq0
            refine (entry15_any cc _ _).mono ?_
            rintro e we ⟨rfl, ke⟩
            have T3 := hid (T2.out.far ke)
            have C3 := hid (C2.out.trans ke (fun _ h _ => h.elim))
            have B3 := hid (ke.blk B2.out (fun h => h))
            have y2 : we.cell? ⟨g, 0, none⟩ = some (.pointer (some ⟨q0.1, 0, none⟩)) := ke.cell y1 (fun h => h)
            clear ke y1
            go_upto_region 19 with fail
            obtain ⟨b12, hb12⟩ : ∃ q_, q_ = we.heap.size := ⟨_, rfl⟩
            obtain ⟨W4, hW4⟩ : ∃ q_, q_ = we.alloc (.cells #[.int .i64 0, .int .i64 cc, .int .i64 ((q : Int) + 1), .int .i64 (-1), .int .i64 (-1), .int .i64 (-1), .int .i64 (-1), .slice none 0 0, .slice none 0 0] 56) := ⟨_, rfl⟩
            have CW4 := hid (show Chg (fun _ => False) we W4 by rw [hW4]; exact (Chg.refl _ we).alloc _)
            have B12 := hid (show W4.heap[b12]? = some (.cells #[.int .i64 0, .int .i64 cc, .int .i64 ((q : Int) + 1), .int .i64 (-1), .int .i64 (-1), .int .i64 (-1), .int .i64 (-1), .slice none 0 0, .slice none 0 0] 56 (0, 0)) by rw [hW4, hb12]; exact blk_new we _)
            rw [← hW4, ← hb12]
            clear hW4 hb12
            have T4 := hid (T3.out.far CW4.out)
            have C4 := hid (C3.out.trans CW4.out (fun _ h _ => h.elim))
            have B4 := hid (CW4.out.blk B3.out (fun h => h))
            have y4 : W4.cell? ⟨g, 0, none⟩ = some (.pointer (some ⟨q0.1, 0, none⟩)) := CW4.out.cell y2 (fun h => h)
            clear y2
            have E_l : ∀ wx, Chg (fun _ => False) W4 wx → wx.cell? ⟨bl, 0, none⟩ = some (.slice (some ⟨g, 0, none⟩) k c) := fun wx hx => (cellAt (hx.blk B4.out (fun h => h)) 0).trans rfl
            have E_y : ∀ wx, Chg (fun _ => False) W4 wx → wx.cell? ⟨g, 0, none⟩ = some (.pointer (some ⟨q0.1, 0, none⟩)) := fun wx hx => hx.cell y4 (fun h => h)
            have E_0 : ∀ wx, Chg (fun _ => False) W4 wx → wx.cell? ⟨b12, 0, none⟩ = some (.int .i64 0) := fun wx hx => (cellAt (hx.blk B12.out (fun h => h)) 0).trans rfl
            have E_1 : ∀ wx, Chg (fun _ => False) W4 wx → wx.cell? ⟨b12, 1, none⟩ = some (.int .i64 cc) := fun wx hx => (cellAt (hx.blk B12.out (fun h => h)) 1).trans rfl
            have E_2 : ∀ wx, Chg (fun _ => False) W4 wx → wx.cell? ⟨b12, 2, none⟩ = some (.int .i64 ((q : Int) + 1)) := fun wx hx => (cellAt (hx.blk B12.out (fun h => h)) 2).trans rfl
            have E_3 : ∀ wx, Chg (fun _ => False) W4 wx → wx.cell? ⟨b12, 3, none⟩ = some (.int .i64 (-1)) := fun wx hx => (cellAt (hx.blk B12.out (fun h => h)) 3).trans rfl
            have E_4 : ∀ wx, Chg (fun _ => False) W4 wx → wx.cell? ⟨b12, 4, none⟩ = some (.int .i64 (-1)) := fun wx hx => (cellAt (hx.blk B12.out (fun h => h)) 4).trans rfl
            have E_5 : ∀ wx, Chg (fun _ => False) W4 wx → wx.cell? ⟨b12, 5, none⟩ = some (.int .i64 (-1)) := fun wx hx => (cellAt (hx.blk B12.out (fun h => h)) 5).trans rfl
            have E_6 : ∀ wx, Chg (fun _ => False) W4 wx → wx.cell? ⟨b12, 6, none⟩ = some (.int .i64 (-1)) := fun wx hx => (cellAt (hx.blk B12.out (fun h => h)) 6).trans rfl
            have E_7 : ∀ wx, Chg (fun _ => False) W4 wx → wx.cell? ⟨b12, 7, none⟩ = some (.slice none 0 0) := fun wx hx => (cellAt (hx.blk B12.out (fun h => h)) 7).trans rfl
            have E_8 : ∀ wx, Chg (fun _ => False) W4 wx → wx.cell? ⟨b12, 8, none⟩ = some (.slice none 0 0) := fun wx hx => (cellAt (hx.blk B12.out (fun h => h)) 8).trans rfl
            have hk0 : (0 : Int) < (k : Int) := by have := HNB.out; omega
            have hk0n : 0 < k := by omega
            clear y4
            refine wpB_start (fun wx : World => Chg (fun _ => False) W4 wx) (by kernel_rfl) ?_
            have hHeld : (fun wx : World => Chg (fun _ => False) W4 wx) _ := (Chg.refl (fun _ => False) W4).drew
            -- 0: t73 := load 82 t5 : 82
            refine wpB_take (i := 0) (v := ?_) (get_of_drop rfl) (by kernel_rfl) (by kernel_rfl) (by kernel_rfl) (by kernel_rfl) (fun _ _ _ h => h) (Or.inl ⟨by rfl, ?_⟩) hHeld ?_
            rotate_left
            · (intro w hSw; (try dsimp only at hSw); go_simp <;> with_reducible rfl)
            try simp only [Act.put, List.setIfInBounds_toArray, List.set_cons_zero, List.set_cons_succ]
            -- 1: t74 := indexAddr 82 t73 #i64:0 : 0
            refine wpB_take (i := 1) (v := ?_) (get_of_drop rfl) (by kernel_rfl) (by kernel_rfl) (by kernel_rfl) (by kernel_rfl) (fun _ _ _ h => h) (Or.inl ⟨by rfl, ?_⟩) hHeld ?_
            rotate_left
            · (intro w hSw; (try dsimp only at hSw); go_simp <;> with_reducible rfl)
            try simp only [Act.put, List.setIfInBounds_toArray, List.set_cons_zero, List.set_cons_succ]
            -- 2: t75 := load 30 t74 : 30
            refine wpB_take (i := 2) (v := ?_) (get_of_drop rfl) (by kernel_rfl) (by kernel_rfl) (by kernel_rfl) (by kernel_rfl) (fun _ _ _ h => h) (Or.inl ⟨by rfl, ?_⟩) hHeld ?_
            rotate_left
            · (intro w hSw; (try dsimp only at hSw); go_simp <;> with_reducible rfl)
            try simp only [Act.put, List.setIfInBounds_toArray, List.set_cons_zero, List.set_cons_succ]
            -- 3: t76 := load 56 t12 : 56
            refine wpB_take (i := 3) (v := ?_) (get_of_drop rfl) (by kernel_rfl) (by kernel_rfl) (by kernel_rfl) (by kernel_rfl) (fun _ _ _ h => h) (Or.inl ⟨by rfl, ?_⟩) hHeld ?_
            rotate_left
            · (intro w hSw; (try dsimp only at hSw); go_simp <;> with_reducible rfl)
            try simp only [Act.put, List.setIfInBounds_toArray, List.set_cons_zero, List.set_cons_succ]
            -- 4: t77 := CALL fn40(t75, t76) : 43 (BARRIER)
            refine wpB_bar (i := 4) (by kernel_rfl) (get_of_drop rfl) (by kernel_rfl) (fun K hK => ?_)
            go_simp
            have TA := hid (T4.out.far hHeld)
            have CA := hid (C4.out.trans hHeld (fun _ h _ => h.elim))
            have BA := hid (hHeld.blk B4.out (fun h => h))
            refine (rq_submit (TA.out.rq 0 q0 _ HQ0.out GET0.out) (e := ⟨0, cc, (q : Int) + 1, -1, -1, -1, -1, [], []⟩) (R := fun _ => False) (ent_at (numW_of (by have := HCC.out; omega)) (numW_of (by omega)))).mono ?_
            rw [← HEN.out, HSUB.out]
            rintro e wt ⟨Ao, co, rfl, hq', hv', kt⟩
            have TT := hid (TA.out.call HQ0.out (r' := mkR k 0 (es ++ [en]) q a) hq' kt)
            have CT := hid (show Chg (fun x => w.heap.size ≤ x) w wt from CA.out.trans kt (fun x hx _ => (VE.out x (TA.out.sub q0 QM.out x hx).1).1))
            have BT := hid (kt.blk BA.out (fun h => (VE.out bl (TA.out.sub q0 QM.out bl h).1).2 rfl))
            have VO := hid (show Vec msgK 41 wt (fun x => ¬ V x) (fun x => ¬ V x) (.slice Ao (k - 1) co) ((List.range' 1 (k - 1)).map (fun j : Nat => prepM j q en)) from vec_len (Vec.mono (S' := fun x => ¬ V x) (D' := fun x => ¬ V x) hv' (fun x hx _ hu => (by have h1 := TA.out.lt x hu; omega)) (fun x hx _ hu => (by have h1 := TA.out.lt x hu; omega))) (by simp))
            clear hq' hv' kt
            refine hK.out _ _ (fun _ : World => True) ?_
            clear hHeld hK K
            have hHeld := trivial
            try simp only [Act.put, List.setIfInBounds_toArray, List.set_cons_zero, List.set_cons_succ]
            -- 5: t72 := move t77 : 43
            refine wpB_take (i := 5) (v := ?_) (get_of_drop rfl) (by kernel_rfl) (by kernel_rfl) (by kernel_rfl) (by kernel_rfl) (fun _ _ _ h => h) (Or.inl ⟨by rfl, ?_⟩) hHeld ?_
            rotate_left
            · (intro w hSw; (try dsimp only at hSw); go_simp <;> with_reducible rfl)
            try simp only [Act.put, List.setIfInBounds_toArray, List.set_cons_zero, List.set_cons_succ]
            -- 6: t78 := extract t72 0 : 27
            refine wpB_take (i := 6) (v := ?_) (get_of_drop rfl) (by kernel_rfl) (by kernel_rfl) (by kernel_rfl) (by kernel_rfl) (fun _ _ _ h => h) (Or.inl ⟨by rfl, ?_⟩) hHeld ?_
            rotate_left
            · (intro w hSw; (try dsimp only at hSw); go_simp <;> with_reducible rfl)
            try simp only [Act.put, List.setIfInBounds_toArray, List.set_cons_zero, List.set_cons_succ]
            -- 7: t79 := extract t72 1 : 31
            refine wpB_take (i := 7) (v := ?_) (get_of_drop rfl) (by kernel_rfl) (by kernel_rfl) (by kernel_rfl) (by kernel_rfl) (fun _ _ _ h => h) (Or.inl ⟨by rfl, ?_⟩) hHeld ?_
            rotate_left
            · (intro w hSw; (try dsimp only at hSw); go_simp <;> with_reducible rfl)
            try simp only [Act.put, List.setIfInBounds_toArray, List.set_cons_zero, List.set_cons_succ]
            -- 8: t13 := assign t78 : 27
            refine wpB_take (i := 8) (v := ?_) (get_of_drop rfl) (by kernel_rfl) (by kernel_rfl) (by kernel_rfl) (by kernel_rfl) (fun _ _ _ h => h) (Or.inl ⟨by rfl, ?_⟩) hHeld ?_
            rotate_left
            · (intro w hSw; (try dsimp only at hSw); go_simp <;> with_reducible rfl)
            try simp only [Act.put, List.setIfInBounds_toArray, List.set_cons_zero, List.set_cons_succ]
            -- 9: t14 := assign t79 : 31
            refine wpB_take (i := 9) (v := ?_) (get_of_drop rfl) (by kernel_rfl) (by kernel_rfl) (by kernel_rfl) (by kernel_rfl) (fun _ _ _ h => h) (Or.inl ⟨by rfl, ?_⟩) hHeld ?_
            rotate_left
            · (intro w hSw; (try dsimp only at hSw); go_simp <;> with_reducible rfl)
            try simp only [Act.put, List.setIfInBounds_toArray, List.set_cons_zero, List.set_cons_succ]
            refine wpB_done (by kernel_rfl) ?_ _
            clear hHeld E_l E_y E_0 E_1 E_2 E_3 E_4 E_5 E_6 E_7 E_8
            go_wp2_with fail
            refine (all_any (base := w.heap.size) HNB.out BT.out TT.out VO.out HG1.out (by have := HNB.out; omega) (by have := HNB.out; simp; omega) (by simp [calmF, tm]) VE.out).mono ?_
            rintro e w5 ⟨rfl, t5, k5⟩
            have T5 := hid t5
            have C5 := hid (CT.out.trans k5 (fun x hx _ => hx.1))
            have B5 := hid (k5.blk BT.out (fun h => h.2 rfl))
            clear k5 t5
            obtain ⟨r1, hr1⟩ : ∃ r1 : Rp, r1 = mkR k 0 (es ++ [en]) ((q : Int) + 1) a1 := ⟨_, rfl⟩
            have R1C := hid (show r1.s.commit = (q : Int) + 1 by rw [hr1]; rfl)
            have R1G := hid (show (tm k (fun i => if i = 0 then mkR k 0 (es ++ [en]) ((q : Int) + 1) a1 else mkR k i (es ++ [en]) q []))[0]? = some r1 from (tm_get _ (by have := HNB.out; omega)).trans (by rw [hr1]; simp))
            have R1E := hid hr1
            clear hr1
            have PV0 := fun (W : World) (rs : List Rp) (h : Team W V (.slice (some ⟨g, 0, none⟩) k c) ps rs) => (show W.cell? ⟨g, 0, none⟩ = some (.pointer (some ⟨q0.1, 0, none⟩)) by
              obtain ⟨g2, cs6, hA2, _, _, hK2, hcs2⟩ := h.vec.get (by decide) (i := 0) (x := q0.1) (by rw [List.getElem?_map, HQ0.out]; rfl)
              subst hK2
              injection hA2 with hA2
              injection hA2 with hA2
              subst hA2
              have := hcs2 0 _ rfl
              simpa [ptrK] using this)
            have PV := hid PV0
            clear PV0
            have y5 : w5.cell? ⟨g, 0, none⟩ = some (.pointer (some ⟨q0.1, 0, none⟩)) := PV.out _ _ T5.out
            have x5 : w5.cell? ⟨bl, 0, none⟩ = some (.slice (some ⟨g, 0, none⟩) k c) := (cellAt B5.out 0).trans rfl
            have f2 := st_field2
            go_wp2_with fail
            refine (rq_state (T5.out.rq 0 q0 _ HQ0.out R1G.out)).mono ?_
            rintro e w6 ⟨A6, c6, rfl, _, k6⟩
            rw [R1C.out]
            obtain ⟨sl, hsl⟩ : ∃ q_, q_ = r1.s.log.length := ⟨_, rfl⟩
            rw [← hsl]
            clear hsl
            have T6 := hid (T5.out.far k6)
            have C6 := hid (C5.out.trans k6 (fun _ h _ => h.elim))
            have B6 := hid (k6.blk B5.out (fun h => h))
            have y6 : w6.cell? ⟨g, 0, none⟩ = some (.pointer (some ⟨q0.1, 0, none⟩)) := PV.out _ _ T6.out
            have x6 : w6.cell? ⟨bl, 0, none⟩ = some (.slice (some ⟨g, 0, none⟩) k c) := (cellAt B6.out 0).trans rfl
            clear k6 x5 y5
            go_wp2_with fail
            refine (rq_tick (T6.out.rq 0 q0 _ HQ0.out R1G.out) (by rw [R1E.out]; exact ⟨Int.le_refl 0, (by decide : (0 : Int) ≤ 1000000)⟩)).mono ?_
            rw [R1E.out, HTK.out]
            rintro e w7 ⟨Ao7, co7, rfl, hq', hv', kt⟩
            have TT7 := hid (T6.out.call HQ0.out (r' := mkR k 0 (es ++ [en]) ((q : Int) + 1) a1) hq' kt)
            have C7 := hid (show Chg (fun x => w.heap.size ≤ x) w w7 from C6.out.trans kt (fun x hx _ => (VE.out x (T6.out.sub q0 QM.out x hx).1).1))
            have B7 := hid (kt.blk B6.out (fun h => (VE.out bl (T6.out.sub q0 QM.out bl h).1).2 rfl))
            have VO7 := hid (show Vec msgK 41 w7 (fun x => ¬ V x) (fun x => ¬ V x) (.slice Ao7 (k - 1) co7) ((List.range' 1 (k - 1)).map (fun j : Nat => comM j ((q : Int) + 1))) from vec_len (Vec.mono (S' := fun x => ¬ V x) (D' := fun x => ¬ V x) hv' (fun x hx _ hu => (by have h1 := T6.out.lt x hu; omega)) (fun x hx _ hu => (by have h1 := T6.out.lt x hu; omega))) (by simp))
            have e7 : (tm k (fun i => if i = 0 then mkR k 0 (es ++ [en]) ((q : Int) + 1) a1 else mkR k i (es ++ [en]) q [])).set 0 (mkR k 0 (es ++ [en]) ((q : Int) + 1) a1) = tm k (fun i => if i = 0 then mkR k 0 (es ++ [en]) ((q : Int) + 1) a1 else mkR k i (es ++ [en]) q []) := by
              rw [tm_set]
              exact tm_ext (fun i hi => by
                by_cases h0 : i = 0
                · rw [if_pos h0, if_pos h0]
                · rw [if_neg h0])
            have T7 := hid (by have h := TT7.out; rw [e7] at h; exact h)
            clear hq' hv' kt e7 y6 x6
            go_wp2_with fail
            refine (all_any (base := w.heap.size) HNB.out B7.out T7.out VO7.out HG2.out (by have := HNB.out; omega) (by have := HNB.out; simp; omega) (by simp [tm]) VE.out).mono ?_
            rintro e w8 ⟨rfl, t8, k8⟩
            have T8 := hid t8
            have C8 := hid (C7.out.trans k8 (fun x hx _ => hx.1))
            have B8 := hid (k8.blk B7.out (fun h => h.2 rfl))
            have x8 : w8.cell? ⟨bl, 0, none⟩ = some (.slice (some ⟨g, 0, none⟩) k c) := (cellAt B8.out 0).trans rfl
            clear t8 k8
            go_wp2_with fail
            clear x8
            go_loopw [101] (fun i wx => ∃ j : Nat, j ≤ k ∧ i = .int .i64 j ∧ Chg (fun _ => False) w8 wx) (fun i _ => k - (intOf i).toNat)
            case atStart => exact ⟨0, Nat.zero_le _, rfl, Chg.refl _ _⟩
            case round =>
              obtain ⟨j, hj, rfl, hC⟩ := hrel
              have CJ := hid hC
              clear hC
              by_cases hlj : j < k
              · have hlj2 : (j : Int) < (k : Int) := by omega
                have HLJ := hid hlj
                obtain ⟨qj, hqj⟩ : ∃ qj, ps[j]? = some qj := ⟨_, List.getElem?_eq_getElem (by have h1 := T8.out.len; simp [calmF, tm] at h1; omega)⟩
                obtain ⟨g3, cs7, hA3, _, _, hK3, hcs3⟩ := T8.out.vec.get (by decide) (i := j) (x := qj.1) (by rw [List.getElem?_map, hqj]; rfl)
                subst hK3
                injection hA3 with hA3
                injection hA3 with hA3
                subst hA3
                have yj : wr.cell? ⟨g, j, none⟩ = some (.pointer (some ⟨qj.1, 0, none⟩)) := by have := hcs3 0 _ rfl; exact CJ.out.cell (by simpa [ptrK] using this) (fun h => h)
                obtain ⟨rj, hrj, hrc, hrv⟩ : ∃ rj : Rp, (calmF k (es ++ [en]) ((q : Int) + 1) a2)[j]? = some rj ∧ rj.s.commit = (q : Int) + 1 ∧ rj.s.view = 0 := ⟨_, tm_get _ hlj, by split <;> rfl, by split <;> rfl⟩
                have RJ := hid hrj
                have RC := hid hrc
                have RV := hid hrv
                clear hcs3 hrj hrc hrv
                go_wp2_with fail
                refine (rq_state ((T8.out.rq j qj rj hqj RJ.out).far CJ.out)).mono ?_
                rintro e w9 ⟨A9, c9, rfl, _, k9⟩
                rw [RC.out, RV.out]
                obtain ⟨sl, hsl⟩ : ∃ q_, q_ = rj.s.log.length := ⟨_, rfl⟩
                rw [← hsl]
                obtain ⟨nm, hnm⟩ : ∃ q_, q_ = rj.s.normal := ⟨_, rfl⟩
                obtain ⟨ac, hac⟩ : ∃ q_, q_ = rj.s.active := ⟨_, rfl⟩
                rw [← hnm, ← hac]
                clear hsl hnm hac hqj
                have C9 := hid (CJ.out.trans k9 (fun _ h _ => h))
                clear k9 yj
                go_upto_region 30 with fail
                obtain ⟨bs, hbs⟩ : ∃ q_, q_ = w9.heap.size := ⟨_, rfl⟩
                obtain ⟨WA, hWA⟩ : ∃ q_, q_ = w9.alloc (.cells #[.int .i64 0, .int .i64 nm, .int .i64 ((q : Int) + 1), .int .i64 ac, .slice A9 sl c9] 26) := ⟨_, rfl⟩
                have CA := hid (show Chg (fun _ => False) w8 WA by rw [hWA]; exact C9.out.alloc _)
                have BS := hid (show WA.heap[bs]? = some (.cells #[.int .i64 0, .int .i64 nm, .int .i64 ((q : Int) + 1), .int .i64 ac, .slice A9 sl c9] 26 (0, 0)) by rw [hWA, hbs]; exact blk_new w9 _)
                rw [← hWA, ← hbs]
                clear hWA hbs
                have u0 : WA.cell? ⟨bs, 0, none⟩ = some (.int .i64 0) := (cellAt BS.out 0).trans rfl
                have u2 : WA.cell? ⟨bs, 2, none⟩ = some (.int .i64 ((q : Int) + 1)) := (cellAt BS.out 2).trans rfl
                go_wp2_with fail
                go_roundw
                case measure => simp [intOf]; omega
                case rel => first | exact ⟨j + 1, HLJ.out, by go_num, CA.out⟩ | ((repeat apply Exists.intro); exact ⟨⟨j + 1, HLJ.out, by go_num, CA.out⟩, rfl⟩)
              · have hjn : ¬ (j : Int) < (k : Int) := by omega
                have hlt3 : (q : Int) < (ln : Int) := by have := HLT.out; omega
                go_wp2_with fail
                go_roundw
                case measure => simp [intOf]; omega
                case rel =>
                  have HB9 := CJ.out.blk B8.out (fun h => h)
                  have HT9 := T8.out.far CJ.out
                  have HC9 := C8.out.trans CJ.out (fun _ h _ => h.elim)
                  first | exact ⟨q + 1, es ++ [en], a2, HLT.out, by go_num, HB9, CM2.out, HT9, HC9⟩ | ((repeat apply Exists.intro); exact ⟨⟨q + 1, es ++ [en], a2, HLT.out, by go_num, HB9, CM2.out, HT9, HC9⟩, rfl⟩)
          · have hqn : ¬ (q : Int) < (ln : Int) := by omega
            go_wp2_with fail
            go_ret
            exact ⟨rfl, C2.out.below (Nat.le_refl _) (fun _ h => h)⟩
end Go.Proofs.Ytaldoajdhbndhaa.Pa
