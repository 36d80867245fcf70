
/- How the types of packs open. -/

import Derived.Test.YtcmfgijdelaelaaPackG

namespace Go.Proofs.Ytcmfgijdelaelaa.Pa

set_option linter.unusedVariables false

open Go.RowKit Go.Proofs.Ytcmfgijdelaelaa.C

theorem Opens.conv {P : Program} {t : TypeId} {α β : Type} {d : Ty α} {d' : Ty β} (h : Opens P t d) (hs : d'.sz = d.sz) (f : ∀ {w : World} {S : Nat → Prop} {x : α} {cs : List Value}, d.K w S x cs → ∃ y, d'.K w S y cs) : Opens P t d' :=
  ⟨h.size.trans hs.symm, fun enc w spare held fuel cs x hx => by
    obtain ⟨v, hv⟩ := h.opens enc w spare held fuel cs x hx
    exact f hv⟩
def msgK : Ty Msg := Ty.iso (Ty.pair (Ty.int .i64) (Ty.pair (Ty.int .i64) (Ty.pair (Ty.int .i64) (Ty.pair (Ty.int .i64) (Ty.pair (Ty.int .i64) (Ty.pair (Ty.int .i64) (Ty.pair (Ty.int .i64) (Ty.slice entryK)))))))) (fun m => (m.kind, m.view, m.src, m.dst, m.op, m.commit, m.normal, m.log))
def recK : Ty Rec := Ty.iso (Ty.pair (Ty.int .i64) (Ty.pair (Ty.int .i64) (Ty.pair (Ty.int .i64) (Ty.slice entryK)))) (fun m => (m.kind, m.a, m.b, m.log))
theorem msg_open {w : World} {S : Nat → Prop} {m : Msg} {cs : Array Value} (h : msgK.K w S m cs.toList) : ∃ A n c, cs = #[.int .i64 m.kind, .int .i64 m.view, .int .i64 m.src, .int .i64 m.dst, .int .i64 m.op, .int .i64 m.commit, .int .i64 m.normal, .slice A n c] ∧ Ty.At entryK w S A n c m.log := by
  obtain ⟨_, _, e1, ⟨rfl, w1⟩, _, _, rfl, ⟨rfl, w2⟩, _, _, rfl, ⟨rfl, w3⟩, _, _, rfl, ⟨rfl, w4⟩, _, _, rfl, ⟨rfl, w5⟩, _, _, rfl, ⟨rfl, w6⟩, _, _, rfl, ⟨rfl, w7⟩, A, n, c, rfl, h⟩ := h
  exact ⟨A, n, c, Array.ext' e1, h⟩
theorem rec_open {w : World} {S : Nat → Prop} {m : Rec} {cs : Array Value} (h : recK.K w S m cs.toList) : ∃ A n c, cs = #[.int .i64 m.kind, .int .i64 m.a, .int .i64 m.b, .slice A n c] ∧ Ty.At entryK w S A n c m.log := by
  obtain ⟨_, _, e1, ⟨rfl, w1⟩, _, _, rfl, ⟨rfl, w2⟩, _, _, rfl, ⟨rfl, w3⟩, A, n, c, rfl, h⟩ := h
  exact ⟨A, n, c, Array.ext' e1, h⟩
theorem opens_int_ : Opens Try.prog 3 (Ty.int .i64) := opens_int Try.underlying3 (by kernel_rfl)
theorem opens_string_ : Opens Try.prog 9 Ty.str := opens_str Try.underlying9 (by kernel_rfl)
theorem opens_rule : Opens Try.prog 72 ruleK := opens_struct Try.underlying72 (by kernel_rfl) (opensF_cons rfl rfl opens_int_ (opensF_cons rfl rfl opens_int_ (opensF_cons rfl rfl opens_int_ (opensF_cons rfl rfl opens_int_ (opensF_last rfl rfl opens_string_))))) (fun r : Rule => (r.id, r.pri, r.act, r.scope, r.pat)) (fun p => ⟨p.1, p.2.1, p.2.2.1, p.2.2.2.1, p.2.2.2.2⟩) (fun _ => rfl)
theorem opens_rules : Opens Try.prog 60 (Ty.slice ruleK) := opens_slice Try.underlying60 (by kernel_rfl) opens_rule (by decide)
theorem opens_nums : Opens Try.prog 61 (Ty.slice (Ty.int .i64)) := opens_slice Try.underlying61 (by kernel_rfl) opens_int_ (by decide)
def deltaP : Ty (Int × Int × Int × Int × List Rule × List Int) := Ty.pair (Ty.int .i64) (Ty.pair (Ty.int .i64) (Ty.pair (Ty.int .i64) (Ty.pair (Ty.int .i64) (Ty.pair (Ty.slice ruleK) (Ty.slice (Ty.int .i64))))))
theorem opens_delta : Opens Try.prog 63 deltaP := Opens.conv (opens_struct Try.underlying63 (by kernel_rfl) (opensF_cons rfl rfl opens_int_ (opensF_cons rfl rfl opens_int_ (opensF_cons rfl rfl opens_int_ (opensF_cons rfl rfl opens_int_ (opensF_cons rfl rfl opens_rules (opensF_last rfl rfl opens_nums)))))) (fun x => x) (fun x => x) (fun _ => rfl)) rfl (fun {w S x cs} h => ⟨x, h⟩)
theorem opens_entry : Opens Try.prog 65 entryK := opens_struct Try.underlying65 (by kernel_rfl) (opensF_cons rfl rfl opens_int_ (opensF_cons rfl rfl opens_int_ (opensF_cons rfl rfl opens_int_ (opensF_last rfl rfl opens_delta)))) (fun e : Entry => (e.view, e.client, e.request, e.dflt, e.closed, e.fuel, e.stack, e.put, e.drop)) (fun p => ⟨p.1, p.2.1, p.2.2.1, p.2.2.2.1, p.2.2.2.2.1, p.2.2.2.2.2.1, p.2.2.2.2.2.2.1, p.2.2.2.2.2.2.2.1, p.2.2.2.2.2.2.2.2⟩) (fun _ => rfl)
theorem opens_entries : Opens Try.prog 22 (Ty.slice entryK) := opens_slice Try.underlying22 (by kernel_rfl) opens_entry (by decide)
theorem opens_msg : Opens Try.prog 43 msgK := opens_struct Try.underlying43 (by kernel_rfl) (opensF_cons rfl rfl opens_int_ (opensF_cons rfl rfl opens_int_ (opensF_cons rfl rfl opens_int_ (opensF_cons rfl rfl opens_int_ (opensF_cons rfl rfl opens_int_ (opensF_cons rfl rfl opens_int_ (opensF_cons rfl rfl opens_int_ (opensF_last rfl rfl opens_entries)))))))) (fun m : Msg => (m.kind, m.view, m.src, m.dst, m.op, m.commit, m.normal, m.log)) (fun p => ⟨p.1, p.2.1, p.2.2.1, p.2.2.2.1, p.2.2.2.2.1, p.2.2.2.2.2.1, p.2.2.2.2.2.2.1, p.2.2.2.2.2.2.2⟩) (fun _ => rfl)
theorem opens_rec : Opens Try.prog 24 recK := opens_struct Try.underlying24 (by kernel_rfl) (opensF_cons rfl rfl opens_int_ (opensF_cons rfl rfl opens_int_ (opensF_cons rfl rfl opens_int_ (opensF_last rfl rfl opens_entries)))) (fun m : Rec => (m.kind, m.a, m.b, m.log)) (fun p => ⟨p.1, p.2.1, p.2.2.1, p.2.2.2⟩) (fun _ => rfl)
end Go.Proofs.Ytcmfgijdelaelaa.Pa
