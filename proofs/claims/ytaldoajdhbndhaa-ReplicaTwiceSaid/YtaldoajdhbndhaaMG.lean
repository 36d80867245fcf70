/- Texts of this claim, one behind the other: RepKe, RepLa, RepLb, RepLc, RepTw, RepTb. -/
import Derived.Test.YtaldoajdhbndhaaMF

/- What a replica keeps, and what it says, whatever it hears. No program in sight. -/

namespace Go.Proofs.Ytaldoajdhbndhaa.Pa

set_option linter.unusedVariables false

set_option linter.unusedSimpArgs false

/-- No view and no Commit goes down, what is committed stays, Active too. -/
structure Keep (a b : St) : Prop where
  view : a.view ≤ b.view
  normal : a.normal ≤ b.normal
  commit : a.commit ≤ b.commit
  log : b.log.take a.commit.toNat = a.log.take a.commit.toNat
  active : b.active = a.active
theorem Keep.refl (a : St) : Keep a a := ⟨Int.le_refl _, Int.le_refl _, Int.le_refl _, rfl, rfl⟩
theorem Keep.trans {a b c : St} (h : Keep a b) (k : Keep b c) : Keep a c := by
  refine ⟨Int.le_trans h.view k.view, Int.le_trans h.normal k.normal, Int.le_trans h.commit k.commit, ?_, k.active.trans h.active⟩
  have h1 : a.commit.toNat ≤ b.commit.toNat := by have := h.commit; omega
  have h2 : ∀ l : List Entry, l.take a.commit.toNat = (l.take b.commit.toNat).take a.commit.toNat := fun l => by rw [List.take_take, Nat.min_eq_left h1]
  rw [h2 c.log, k.log, ← h2 b.log, h.log]
theorem say_s (r : Rp) (m : Msg) : (sayR r m).s = r.s ∧ (sayR r m).n = r.n ∧ (sayR r m).id = r.id ∧ (sayR r m).ch = r.ch := by
  obtain ⟨l, e, _⟩ := sayTo_same r m r.n.toNat
  unfold sayR
  rw [e]
  exact ⟨rfl, rfl, rfl, rfl⟩
theorem keep_enter {r : Rp} {v : Int} (hv : r.s.view ≤ v) : Keep r.s (enterR r v).s := ⟨hv, Int.le_refl _, Int.le_refl _, rfl, rfl⟩
theorem keep_begin {r : Rp} {v : Int} (hv : r.s.view ≤ v) : Keep r.s (beginR r v).s := by
  unfold beginR
  rw [(say_s _ _).1]
  exact keep_enter hv
theorem take_le {l : List Entry} {k : Nat} {m : List Entry} (hk : k ≤ l.length) : (l ++ m).take k = l.take k := List.take_append_of_le_length hk
theorem keep_decide {r : Rp} (h : RpOk r) : Keep r.s (decideR r).s := by
  unfold decideR
  split
  · rw [(say_s _ _).1]
    have hb := best_ok h r.n.toNat
    have h1 := h.stn
    have h2 := fitsR_iff.1 hb.fits
    have h3 := hb.done
    refine ⟨Int.le_refl _, h1.2.1.2, ?_, h2.2, rfl⟩
    show r.s.commit ≤ min (bestTo r r.n.toNat).done ((bestTo r r.n.toNat).log.length : Int)
    omega
  · exact Keep.refl _
theorem keep_see {r : Rp} (h : RpOk r) : Keep r.s (seeR r).s := by
  unfold seeR
  split
  · split
    · exact keep_decide (h.sd true)
    · exact Keep.refl _
  · exact Keep.refl _
theorem keep_take {r : Rp} {m : Msg} (h : RpOk r) (hv : r.s.view ≤ m.view) : Keep r.s (takeR r m).s := by
  unfold takeR
  split
  · rename_i hf
    have h2 := fitsR_iff.1 hf
    have h1 := h.stn
    refine ⟨hv, by show r.s.normal ≤ m.view; omega, ?_, h2.2, rfl⟩
    show r.s.commit ≤ max r.s.commit _
    omega
  · exact Keep.refl _
theorem keep_put {r : Rp} {l : List Entry} (h : RpOk r) : Keep r.s (putR r l).s := ⟨Int.le_refl _, Int.le_refl _, Int.le_refl _, take_le (by have := h.stn; omega), rfl⟩
theorem keep_raise (r : Rp) (c : Int) : Keep r.s (raiseR r c).s := ⟨Int.le_refl _, Int.le_refl _, by show r.s.commit ≤ max r.s.commit _; omega, rfl, rfl⟩
theorem keep_submit {r : Rp} (h : RpOk r) (e : Entry) : Keep r.s (submitR r e).1.s := by
  unfold submitR
  split
  · exact Keep.refl _
  · split
    · exact Keep.refl _
    · split
      · exact Keep.refl _
      · split
        · exact Keep.refl _
        · show Keep r.s (sayR _ _).s
          rw [(say_s _ _).1]
          exact keep_put h
theorem keep_tick {r : Rp} (h : RpOk r) : Keep r.s (tickR r).s := by
  unfold tickR
  split
  · rw [(say_s _ _).1]; exact Keep.refl _
  · split
    · exact keep_begin (r := { r with quiet := r.quiet + 1 }) (by show r.s.view ≤ r.s.view + 1; omega)
    · exact Keep.refl _
theorem keep_follow {r : Rp} {m : Msg} (h : RpOk r) (hm : msgR m = true) (hv : r.s.view ≤ m.view) : Keep r.s (followR r m).s := by
  unfold followR
  split
  · exact Keep.refl _
  · have k1 : Keep r.s (follow1R r m).s := by
      unfold follow1R
      split
      · exact keep_enter hv
      · exact Keep.refl _
    have k2 : Keep (follow1R r m).s (follow2R (follow1R r m) m).s := by
      unfold follow2R
      split
      · exact keep_put (h.follow1 hm)
      · exact Keep.refl _
    have k3 : (follow3R (follow2R (follow1R r m) m) m).s = (follow2R (follow1R r m) m).s := by unfold follow3R; split <;> rfl
    refine (k1.trans k2).trans ?_
    rw [← k3]
    unfold follow4R
    split
    · exact Keep.refl _
    · split
      · exact keep_raise _ _
      · exact keep_raise _ _
theorem keep_ack {r : Rp} {m : Msg} (h : RpOk r) : Keep r.s (ackR r m).s := by
  unfold ackR
  split
  · exact Keep.refl _
  · exact ⟨Int.le_refl _, Int.le_refl _, (ackTo_le h (acksR r m) r.s.log.length (Nat.le_refl _)).1, rfl, rfl⟩
theorem keep_turn {r : Rp} {m : Msg} (h : RpOk r) (hm : msgR m = true) (hs : 0 ≤ m.src ∧ m.src < r.n) (hv : r.s.view ≤ m.view) : Keep r.s (turnR r m).s := by
  have h2 : ∀ {q : Rp}, RpOk q → q.n = r.n → Keep q.s (turn2R q m).s := fun {q} hq hn => by
    unfold turn2R
    split
    · exact keep_see (hq.start (by rw [hn]; exact hs) true)
    · split
      · exact keep_decide (hq.change (by rw [hn]; exact hs) hm)
      · split
        · exact Keep.refl _
        · exact Keep.refl _
  unfold turnR
  split
  · exact Keep.refl _
  · split
    · exact (keep_begin hv).trans (h2 (h.begin_ ⟨‹_›, (msgR_num hm).2.1.2⟩) (by unfold beginR; rw [(say_s _ _).2.1]; rfl))
    · exact h2 h rfl
theorem keep_deliver {r : Rp} (h : RpOk r) (m : Msg) : Keep r.s (deliverR r m).1.s := by
  unfold deliverR
  split
  · exact Keep.refl _
  · rename_i hmt
    split
    · exact Keep.refl _
    · rename_i hv
      obtain ⟨h1, _, _, h3⟩ := meantR_iff.1 (show meantR r m = true by simpa using hmt)
      have hs : 0 ≤ m.src ∧ m.src < r.n := ⟨(msgR_num h1).2.2.2.1.1, h3⟩
      have hv : r.s.view ≤ m.view := by omega
      show Keep r.s (heardR r m).s
      unfold heardR
      split
      · exact keep_follow h h1 hv
      · split
        · exact keep_ack h
        · split
          · exact keep_turn h h1 hs hv
          · split
            · split
              · exact keep_take h hv
              · exact Keep.refl _
            · split
              · split
                · exact Keep.refl _
                · exact Keep.refl _
              · split
                · split
                  · exact keep_take h hv
                  · exact Keep.refl _
                · exact Keep.refl _
/-! ### What it says -/

/-- What is so of what is said: right, of its view, from itself, to others. -/
structure SayAt (r : Rp) (m : Msg) : Prop where
  right : msgR m = true
  src : m.src = r.id
  ne : m.dst ≠ r.id
  dst : m.dst < r.n
  view : m.view = r.s.view
  op : m.op ≤ (r.s.log.length : Int)
  commit : m.commit ≤ r.s.commit
theorem SayAt.mono {r r' : Rp} {m : Msg} (h : SayAt r m) (h1 : r'.n = r.n ∧ r'.id = r.id ∧ r'.s.view = r.s.view) (h2 : r.s.log.length ≤ r'.s.log.length) (h3 : r.s.commit ≤ r'.s.commit) : SayAt r' m :=
  ⟨h.right, by rw [h1.2.1]; exact h.src, by rw [h1.2.1]; exact h.ne, by rw [h1.1]; exact h.dst, by rw [h1.2.2]; exact h.view, by have := h.op; omega, by have := h.commit; omega⟩
def Says (r : Rp) : Prop := ∀ m ∈ r.out, SayAt r m
theorem Says.nil {r : Rp} (h : r.out = []) : Says r := fun m hm => by rw [h] at hm; cases hm
theorem Says.send {r : Rp} (h : Says r) {y : Int} {m : Msg} (hm : SayAt r { m with view := r.s.view, src := r.id, dst := y }) : Says (sendR r y m) := fun x hx => by
  rcases List.mem_append.1 hx with hx | hx
  · exact (h x hx).mono ⟨rfl, rfl, rfl⟩ (Nat.le_refl _) (Int.le_refl _)
  · rw [List.mem_singleton.1 hx]; exact hm.mono ⟨rfl, rfl, rfl⟩ (Nat.le_refl _) (Int.le_refl _)
theorem Says.say {r : Rp} (h : Says r) (hn : 0 ≤ r.n) {m : Msg} (hm : ∀ j : Int, 0 ≤ j → j < r.n → j ≠ r.id → SayAt r { m with view := r.s.view, src := r.id, dst := j }) : Says (sayR r m) := fun x hx => by
  have hs := say_s r m
  have key : SayAt r x := by
    rcases mem_sayTo r m _ x hx with hx | ⟨j, h1, h2, h3⟩
    · exact h x hx
    · rw [h3]; exact hm j (by omega) (by omega) h2
  exact key.mono ⟨hs.2.1, hs.2.2.1, by rw [hs.1]⟩ (by rw [hs.1]; exact Nat.le_refl _) (by rw [hs.1]; exact Int.le_refl _)
theorem Says.same {r r' : Rp} (h : Says r) (ho : r'.out = r.out) (h1 : r'.n = r.n ∧ r'.id = r.id ∧ r'.s.view = r.s.view) (h2 : r.s.log.length ≤ r'.s.log.length) (h3 : r.s.commit ≤ r'.s.commit) : Says r' := fun m hm => by
  rw [ho] at hm
  exact (h m hm).mono h1 h2 h3
/-- Only of the beginning of a view has been spoken. -/
def Starts (r : Rp) : Prop := ∀ m ∈ r.out, SayAt r m ∧ m.op = 0 ∧ m.commit = 0
theorem Starts.nil {r : Rp} (h : r.out = []) : Starts r := fun m hm => by rw [h] at hm; cases hm
/-! ### How long it has been quiet -/
def Qt (a b : Rp) : Prop := b.quiet = a.quiet ∨ b.quiet = 0
theorem Qt.refl (a : Rp) : Qt a a := .inl rfl
theorem Qt.trans {a b c : Rp} (h : Qt a b) (k : Qt b c) : Qt a c := by
  unfold Qt at *
  rcases k with k | k
  · rw [k]; exact h
  · exact .inr k
theorem qt_say (r : Rp) (m : Msg) : Qt r (sayR r m) := by
  obtain ⟨l, e, _⟩ := sayTo_same r m r.n.toNat
  unfold sayR
  rw [e]
  exact .inl rfl
theorem qt_begin (r : Rp) (v : Int) : Qt r (beginR r v) := by
  unfold beginR
  refine Qt.trans (b := { enterR r v with starts := ups r.id true [] }) (.inr rfl) (qt_say _ _)
theorem qt_decide (r : Rp) : Qt r (decideR r) := by
  unfold decideR
  split
  · exact Qt.trans (b := wonR r (bestTo r r.n.toNat)) (.inr rfl) (qt_say _ _)
  · exact Qt.refl _
theorem qt_see (r : Rp) : Qt r (seeR r) := by
  unfold seeR
  split
  · split
    · exact Qt.trans (b := { r with said := true }) (.inl rfl) (qt_decide _)
    · exact .inl rfl
  · exact Qt.refl _
theorem qt_take (r : Rp) (m : Msg) : Qt r (takeR r m) := by
  unfold takeR
  split
  · exact .inr rfl
  · exact Qt.refl _
theorem qt_follow (r : Rp) (m : Msg) : Qt r (followR r m) := by
  unfold followR
  split
  · exact Qt.refl _
  · have k1 : (follow1R r m).quiet = 0 := by unfold follow1R; rfl
    have k2 : (follow2R (follow1R r m) m).quiet = 0 := by unfold follow2R; split <;> exact k1
    have k3 : (follow3R (follow2R (follow1R r m) m) m).quiet = 0 := by unfold follow3R; split <;> exact k2
    refine .inr ?_
    unfold follow4R
    split
    · exact k3
    · split <;> exact k3
theorem qt_ack (r : Rp) (m : Msg) : Qt r (ackR r m) := by
  unfold ackR
  split
  · exact Qt.refl _
  · exact .inl rfl
theorem qt_turn (r : Rp) (m : Msg) : Qt r (turnR r m) := by
  have h2 : ∀ q : Rp, Qt q (turn2R q m) := fun q => by
    unfold turn2R
    split
    · exact Qt.trans (b := { q with starts := ups m.src true q.starts }) (.inl rfl) (qt_see _)
    · split
      · exact Qt.trans (b := { q with chgs := ups m.src m q.chgs }) (.inl rfl) (qt_decide _)
      · split
        · exact .inl rfl
        · exact Qt.refl _
  unfold turnR
  split
  · exact Qt.refl _
  · split
    · exact (qt_begin r _).trans (h2 _)
    · exact h2 r
theorem qt_deliver (r : Rp) (m : Msg) : Qt r (deliverR r m).1 := by
  unfold deliverR
  split
  · exact Qt.refl _
  · split
    · exact Qt.refl _
    · show Qt r (heardR r m)
      unfold heardR
      split
      · exact qt_follow r m
      · split
        · exact qt_ack r m
        · split
          · exact qt_turn r m
          · split
            · split
              · exact qt_take r m
              · exact Qt.refl _
            · split
              · split
                · exact .inl rfl
                · exact Qt.refl _
              · split
                · split
                  · exact qt_take r m
                  · exact Qt.refl _
                · exact Qt.refl _
theorem qt_submit (r : Rp) (e : Entry) : Qt r (submitR r e).1 := by
  unfold submitR
  split
  · exact Qt.refl _
  · split
    · exact Qt.refl _
    · split
      · exact Qt.refl _
      · split
        · exact Qt.refl _
        · exact Qt.trans (b := putR r [{ e with view := r.s.view }]) (.inl rfl) (qt_say _ _)
theorem qt_tick {r : Rp} (h : 0 ≤ r.quiet) : 0 ≤ (tickR r).quiet ∧ (tickR r).quiet ≤ r.quiet + 1 := by
  unfold tickR
  split
  · have := qt_say r ⟨3, 0, 0, 0, r.s.log.length, r.s.commit, 0, []⟩
    unfold Qt at this
    omega
  · split
    · have := qt_begin { r with quiet := r.quiet + 1 } (r.s.view + 1)
      unfold Qt at this
      have e : ({ r with quiet := r.quiet + 1 } : Rp).quiet = r.quiet + 1 := rfl
      rw [e] at this
      omega
    · show 0 ≤ r.quiet + 1 ∧ r.quiet + 1 ≤ r.quiet + 1
      omega

/-! ### Its config stays -/
def Cf (a b : Rp) : Prop := b.n = a.n ∧ b.id = a.id ∧ b.tm = a.tm
theorem Cf.refl (a : Rp) : Cf a a := ⟨rfl, rfl, rfl⟩
theorem Cf.trans {a b c : Rp} (h : Cf a b) (k : Cf b c) : Cf a c := ⟨k.1.trans h.1, k.2.1.trans h.2.1, k.2.2.trans h.2.2⟩
theorem cf_say (r : Rp) (m : Msg) : Cf r (sayR r m) := by
  obtain ⟨l, e, _⟩ := sayTo_same r m r.n.toNat
  unfold sayR
  rw [e]
  exact ⟨rfl, rfl, rfl⟩
theorem cf_begin (r : Rp) (v : Int) : Cf r (beginR r v) := by
  unfold beginR
  exact Cf.trans (b := { enterR r v with starts := ups r.id true [] }) ⟨rfl, rfl, rfl⟩ (cf_say _ _)
theorem cf_decide (r : Rp) : Cf r (decideR r) := by
  unfold decideR
  split
  · exact Cf.trans (b := wonR r (bestTo r r.n.toNat)) ⟨rfl, rfl, rfl⟩ (cf_say _ _)
  · exact Cf.refl _
theorem cf_see (r : Rp) : Cf r (seeR r) := by
  unfold seeR
  split
  · split
    · exact Cf.trans (b := { r with said := true }) ⟨rfl, rfl, rfl⟩ (cf_decide _)
    · exact ⟨rfl, rfl, rfl⟩
  · exact Cf.refl _
theorem cf_take (r : Rp) (m : Msg) : Cf r (takeR r m) := by
  unfold takeR
  split <;> exact ⟨rfl, rfl, rfl⟩
theorem cf_follow (r : Rp) (m : Msg) : Cf r (followR r m) := by
  unfold followR
  split
  · exact Cf.refl _
  · have k1 : Cf r (follow1R r m) := by unfold follow1R; split <;> exact ⟨rfl, rfl, rfl⟩
    have k2 : ∀ q : Rp, Cf q (follow2R q m) := fun q => by unfold follow2R; split <;> exact ⟨rfl, rfl, rfl⟩
    have k3 : ∀ q : Rp, Cf q (follow3R q m) := fun q => by unfold follow3R; split <;> exact ⟨rfl, rfl, rfl⟩
    have k4 : ∀ q : Rp, Cf q (follow4R q m) := fun q => by
      unfold follow4R
      split
      · exact Cf.refl _
      · split <;> exact ⟨rfl, rfl, rfl⟩
    exact ((k1.trans (k2 _)).trans (k3 _)).trans (k4 _)
theorem cf_ack (r : Rp) (m : Msg) : Cf r (ackR r m) := by
  unfold ackR
  split <;> exact ⟨rfl, rfl, rfl⟩
theorem cf_turn (r : Rp) (m : Msg) : Cf r (turnR r m) := by
  have h2 : ∀ q : Rp, Cf q (turn2R q m) := fun q => by
    unfold turn2R
    split
    · exact Cf.trans (b := { q with starts := ups m.src true q.starts }) ⟨rfl, rfl, rfl⟩ (cf_see _)
    · split
      · exact Cf.trans (b := { q with chgs := ups m.src m q.chgs }) ⟨rfl, rfl, rfl⟩ (cf_decide _)
      · split
        · exact ⟨rfl, rfl, rfl⟩
        · exact Cf.refl _
  unfold turnR
  split
  · exact Cf.refl _
  · split
    · exact (cf_begin r _).trans (h2 _)
    · exact h2 r
theorem cf_deliver (r : Rp) (m : Msg) : Cf r (deliverR r m).1 := by
  unfold deliverR
  split
  · exact Cf.refl _
  · split
    · exact Cf.refl _
    · show Cf r (heardR r m)
      unfold heardR
      split
      · exact cf_follow r m
      · split
        · exact cf_ack r m
        · split
          · exact cf_turn r m
          · split
            · split
              · exact cf_take r m
              · exact Cf.refl _
            · split
              · split
                · exact ⟨rfl, rfl, rfl⟩
                · exact Cf.refl _
              · split
                · split
                  · exact cf_take r m
                  · exact Cf.refl _
                · exact Cf.refl _
end Go.Proofs.Ytaldoajdhbndhaa.Pa


/- What the laws of replicas share: types, a replica between two calls, an entry that changes nothing. -/

namespace Go.Proofs.Ytaldoajdhbndhaa.Pa

set_option linter.unusedVariables false

set_option linter.unusedSimpArgs false

open Go.RowKit Go.Proofs.Ytaldoajdhbndhaa.C

attribute [local go_sem] max2_int min2_int max_two min_two

structure OpR where
  kind : Int
  entry : Entry
  msg : Msg
def opK : Ty OpR := Ty.iso (Ty.pair (Ty.int .i64) (Ty.pair entryK msgK)) (fun o => (o.kind, o.entry, o.msg))
def cfgK : Ty (Int × Int × Int) := Ty.pair (Ty.int .i64) (Ty.pair (Ty.int .i64) (Ty.int .i64))
theorem cfg_open {w : World} {S : Nat → Prop} {x : Int × Int × Int} {cs : Array Value} (h : cfgK.K w S x cs.toList) : cs = #[.int .i64 x.1, .int .i64 x.2.1, .int .i64 x.2.2] ∧ NumW x.1 ∧ NumW x.2.1 ∧ NumW x.2.2 := by
  obtain ⟨_, _, e1, ⟨rfl, w1⟩, _, _, rfl, ⟨rfl, w2⟩, rfl, w3⟩ := h
  exact ⟨Array.ext' e1, w1, w2, w3⟩
theorem op_open {w : World} {S : Nat → Prop} {o : OpR} {cs : List Value} (h : opK.K w S o cs) : ∃ E1 m1 d1 E2 m2 d2 A n c, cs = [.int .i64 o.kind, .int .i64 o.entry.view, .int .i64 o.entry.client, .int .i64 o.entry.request, .int .i64 o.entry.dflt, .int .i64 o.entry.closed, .int .i64 o.entry.fuel, .int .i64 o.entry.stack, .slice E1 m1 d1, .slice E2 m2 d2, .int .i64 o.msg.kind, .int .i64 o.msg.view, .int .i64 o.msg.src, .int .i64 o.msg.dst, .int .i64 o.msg.op, .int .i64 o.msg.commit, .int .i64 o.msg.normal, .slice A n c] ∧ EntryAt w S o.entry E1 m1 d1 E2 m2 d2 ∧ Ty.At entryK w S A n c o.msg.log ∧ NumW o.kind := by
  obtain ⟨_, _, rfl, ⟨rfl, w1⟩, ce, cm, rfl, he, hm⟩ := h
  obtain ⟨E1, m1, d1, E2, m2, d2, rfl, he2⟩ := entry_open he
  have hm' : msgK.K w S o.msg cm.toArray.toList := by rw [List.toList_toArray]; exact hm
  obtain ⟨A, n, c, e2, hm2⟩ := msg_open hm'
  have e3 : cm = [.int .i64 o.msg.kind, .int .i64 o.msg.view, .int .i64 o.msg.src, .int .i64 o.msg.dst, .int .i64 o.msg.op, .int .i64 o.msg.commit, .int .i64 o.msg.normal, .slice A n c] := by have := congrArg Array.toList e2; rw [List.toList_toArray] at this; exact this
  subst e3
  exact ⟨E1, m1, d1, E2, m2, d2, A, n, c, rfl, he2, hm2, w1⟩
theorem opens_op : Opens Try.prog 58 opK := opens_struct Try.underlying58 (by kernel_rfl) (opensF_cons rfl rfl opens_int_ (opensF_cons rfl rfl opens_entry (opensF_last rfl rfl opens_msg))) (fun o : OpR => (o.kind, o.entry, o.msg)) (fun p => ⟨p.1, p.2.1, p.2.2⟩) (fun _ => rfl)
theorem opens_ops : Opens Try.prog 46 (Ty.slice opK) := opens_slice Try.underlying46 (by kernel_rfl) opens_op (by decide)
theorem opens_cfg : Opens Try.prog 23 cfgK := Opens.conv (opens_struct Try.underlying23 (by kernel_rfl) (opensF_cons rfl rfl opens_int_ (opensF_cons rfl rfl opens_int_ (opensF_last rfl rfl opens_int_))) (fun x : Int × Int × Int => x) (fun x => x) (fun _ => rfl)) rfl (fun {w S x cs} h => ⟨x, h⟩)
theorem st_field2 (a b c d : Int) (A : Option Addr) (n k : Nat) (W : World) : (Instr.field 26 (.agg #[.int .i64 a, .int .i64 b, .int .i64 c, .int .i64 d, .slice A n k]) 2).run Try.prog W = .ok (.int .i64 c) W := by kernel_rfl
/-- A replica between two calls. -/
structure RQ (w : World) (p b1 b2 b3 : Nat) (X : Nat → Prop) (r : Rp) : Prop where
  ok : RpOk r
  out : r.out = []
  rep : ∃ A n c, Rep w w p b1 b2 b3 X r A n c (.slice none 0 0)
theorem RQ.chg {w w' : World} {p b1 b2 b3 : Nat} {X M : Nat → Prop} {r : Rp} (h : RQ w p b1 b2 b3 X r) (hc : Chg M w w') (hM : ∀ k, M k → k < w.heap.size → X k ∧ ¬ M4 p b1 b2 b3 k) : RQ w' p b1 b2 b3 X r := by
  obtain ⟨A, n, c, hr⟩ := h.rep
  exact ⟨h.ok, h.out, A, n, c, (hr.apart (hc.mono hM)).again h.out⟩
theorem RQ.far {w w' : World} {p b1 b2 b3 : Nat} {X : Nat → Prop} {r : Rp} (h : RQ w p b1 b2 b3 X r) (hc : Chg (fun _ => False) w w') : RQ w' p b1 b2 b3 X r := h.chg hc (fun _ h _ => h.elim)
theorem Stood.rq {w w' : World} {p b1 b2 b3 : Nat} {X : Nat → Prop} {r : Rp} {v : Value → Value} {e' : Ending} (h : Stood w p b1 b2 b3 X r v e' w') (hok : RpOk r) : ∃ A c, e' = .returned (v (.slice A r.out.length c)) ∧ RQ w' p b1 b2 b3 X { r with out := [] } ∧ Vec msgK 41 w' (fun k => w.heap.size ≤ k) (fun k => w.heap.size ≤ k) (.slice A r.out.length c) r.out ∧ Chg (M4 p b1 b2 b3) w w' := by
  obtain ⟨O', rfl, ⟨A', n', c', h1⟩, h2, h3⟩ := h
  obtain ⟨A, c, rfl⟩ := h2.form
  exact ⟨A, c, rfl, ⟨hok.out [], rfl, A', n', c', h1.again rfl⟩, h2, h3⟩
theorem RQ.lt {w : World} {p b1 b2 b3 : Nat} {X : Nat → Prop} {r : Rp} (h : RQ w p b1 b2 b3 X r) : ∀ k, M4 p b1 b2 b3 k → k < w.heap.size := by
  obtain ⟨A, n, c, hr⟩ := h.rep
  exact fun k hk => hr.sub.2 k (hr.sub.1 k hk)
/-- More blocks are kept apart, which were new behind it. -/
theorem RQ.widen {w w' : World} {p b1 b2 b3 : Nat} {X Y : Nat → Prop} {r : Rp} (h : RQ w p b1 b2 b3 X r) (hc : Chg (fun _ => False) w w') (hY : ∀ k, Y k → w.heap.size ≤ k ∧ k < w'.heap.size) : RQ w' p b1 b2 b3 (fun k => X k ∨ Y k) r := by
  obtain ⟨A, n, c, h0⟩ := h.rep
  refine ⟨h.ok, h.out, A, n, c, ?_⟩
  obtain ⟨V, h3, h4⟩ := h0.chgs
  have hs := hc.size
  have hl := h0.lt
  have hlg : ∀ k, Lg X (.slice none 0 0) k ∧ k < w.heap.size → Lg (fun k => X k ∨ Y k) (.slice none 0 0) k := fun k hk => ⟨fun e => by rcases e with e | e; exact hk.1.1 e; have := (hY k e).1; have := hk.2; omega, hk.1.2⟩
  exact ⟨Nat.le_refl _, by omega, h0.ne, ⟨fun k hk => .inl (h0.sub.1 k hk), fun k hk => by rcases hk with e | e; have := h0.sub.2 k e; omega; exact (hY k e).2⟩, hc.blk h0.blk (fun h => h), h0.acks.chg hc (fun h => h), h0.starts.chg hc (fun h => h), ⟨V, h3.chg hc (fun h => h), (h4.bound.chg hc (fun _ _ h => h)).mono hlg⟩, (h0.log.bound.chg hc (fun _ _ h => h)).mono hlg, by rw [h.out]; exact Vec.nil _ _ _ _ _⟩
theorem RQ.less {w : World} {p b1 b2 b3 : Nat} {X X' : Nat → Prop} {r : Rp} (h : RQ w p b1 b2 b3 X r) (h1 : ∀ k, M4 p b1 b2 b3 k → X' k) (h2 : ∀ k, X' k → X k) : RQ w p b1 b2 b3 X' r := by
  obtain ⟨A, n, c, hr⟩ := h.rep
  exact ⟨h.ok, h.out, A, n, c, hr.less h1 h2⟩
theorem RQ.of_new {R : Nat → Prop} {n id tm : Int} {s : St} {w : World} {e' : Ending} {w' : World} (h : NewTo R n id tm s w e' w') (hc : cfgR n id tm = true) (hs : stR s = true) : ∃ p b1 b2 b3, e' = .returned (.tuple #[.pointer (some ⟨p, 0, none⟩), .int .i64 0]) ∧ (∀ k, M4 p b1 b2 b3 k → w.heap.size ≤ k ∧ k < w'.heap.size) ∧ RQ w' p b1 b2 b3 (fun k => M4 p b1 b2 b3 k ∨ (¬ R k ∧ k < w.heap.size)) (newR n id tm s) ∧ Chg (fun _ => False) w w' := by
  rcases h with ⟨h, _⟩ | ⟨_, _, p, b1, b2, b3, A, k, c, rfl, h1, h2, h3⟩
  · exact absurd ⟨hc, hs⟩ h
  · exact ⟨p, b1, b2, b3, rfl, h1, ⟨RpOk.new hc hs, rfl, A, k, c, h2⟩, h3⟩
theorem rq_role {w : World} {p b1 b2 b3 : Nat} {X : Nat → Prop} {r : Rp} (h : RQ w p b1 b2 b3 X r) : Calls Try.prog 16 #[.pointer (some ⟨p, 0, none⟩)] w fun e' w' => e' = .returned (.int .i64 (roleR r)) ∧ Chg (fun _ => False) w w' := by
  obtain ⟨A, n, c, hr⟩ := h.rep
  exact role_any hr h.ok.cfg.1 h.ok.stn.1
theorem rq_state {w : World} {p b1 b2 b3 : Nat} {X : Nat → Prop} {r : Rp} (h : RQ w p b1 b2 b3 X r) : Calls Try.prog 15 #[.pointer (some ⟨p, 0, none⟩)] w (fun e' w' => ∃ A' c', e' = .returned (.agg #[.int .i64 r.s.view, .int .i64 r.s.normal, .int .i64 r.s.commit, .int .i64 r.s.active, .slice A' r.s.log.length c']) ∧ Ty.At entryK w' (fun k => w.heap.size ≤ k ∧ k < w'.heap.size) A' r.s.log.length c' r.s.log ∧ Chg (fun _ => False) w w') := by
  obtain ⟨A, n, c, hr⟩ := h.rep
  refine (rstate_any hr h.ok).mono ?_
  rintro e' w' ⟨A', n', c', rfl, hat, hc⟩
  obtain rfl := hat.1
  exact ⟨A', c', rfl, hat, hc⟩
/-- What a call makes of a replica and its messages. -/
def Did (w : World) (p b1 b2 b3 : Nat) (X : Nat → Prop) (r' : Rp) (v : Value → Value) (e' : Ending) (w' : World) : Prop :=
  ∃ A c, e' = .returned (v (.slice A r'.out.length c)) ∧ RQ w' p b1 b2 b3 X { r' with out := [] } ∧ Vec msgK 41 w' (fun k => w.heap.size ≤ k) (fun k => w.heap.size ≤ k) (.slice A r'.out.length c) r'.out ∧ Chg (M4 p b1 b2 b3) w w'
theorem rq_submit {w : World} {p b1 b2 b3 : Nat} {X : Nat → Prop} {r : Rp} (h : RQ w p b1 b2 b3 X r) {e : Entry} {R : Nat → Prop} {E1 : Option Addr} {m1 d1 : Nat} {E2 : Option Addr} {m2 d2 : Nat} (he : EntryAt w R e E1 m1 d1 E2 m2 d2) :
    Calls Try.prog 40 #[.pointer (some ⟨p, 0, none⟩), .agg #[.int .i64 e.view, .int .i64 e.client, .int .i64 e.request, .int .i64 e.dflt, .int .i64 e.closed, .int .i64 e.fuel, .int .i64 e.stack, .slice E1 m1 d1, .slice E2 m2 d2]] w (Did w p b1 b2 b3 X (submitR r e).1 (fun O => .tuple #[O, .int .i64 (submitR r e).2])) := by
  obtain ⟨A, n, c, hr⟩ := h.rep
  exact (submit_any hr he h.ok h.out).mono (fun e' w' h' => h'.rq (h.ok.submit e))
theorem rq_tick {w : World} {p b1 b2 b3 : Nat} {X : Nat → Prop} {r : Rp} (h : RQ w p b1 b2 b3 X r) (hq : 0 ≤ r.quiet ∧ r.quiet ≤ 1000000) :
    Calls Try.prog 41 #[.pointer (some ⟨p, 0, none⟩)] w (Did w p b1 b2 b3 X (tickR r) (fun O => O)) := by
  obtain ⟨A, n, c, hr⟩ := h.rep
  exact (tick_any hr h.ok h.out hq).mono (fun e' w' h' => h'.rq h.ok.tick)
theorem rq_deliver {w : World} {p b1 b2 b3 : Nat} {X : Nat → Prop} {r : Rp} (h : RQ w p b1 b2 b3 X r) {m : Msg} {R : Nat → Prop} {B : Option Addr} {k d : Nat} (hm : Ty.At entryK w R B k d m.log) (hR : ∀ j, R j → j < w.heap.size → ¬ M4 p b1 b2 b3 j) :
    Calls Try.prog 18 #[.pointer (some ⟨p, 0, none⟩), .agg #[.int .i64 m.kind, .int .i64 m.view, .int .i64 m.src, .int .i64 m.dst, .int .i64 m.op, .int .i64 m.commit, .int .i64 m.normal, .slice B k d]] w (Did w p b1 b2 b3 X (deliverR r m).1 (fun O => .tuple #[O, .int .i64 (deliverR r m).2])) := by
  obtain ⟨A, n, c, hr⟩ := h.rep
  exact (deliver_any hr hm hR h.ok h.out).mono (fun e' w' h' => h'.rq (h.ok.deliver m))
set_option maxHeartbeats 4000000 in
set_option maxRecDepth 100000 in
theorem entry15_any (c q : Int) (w : World) : Calls Try.prog 39 #[.int .i64 c, .int .i64 q] w fun e' w' => e' = .returned (.agg #[.int .i64 0, .int .i64 c, .int .i64 q, .int .i64 (-1), .int .i64 (-1), .int .i64 (-1), .int .i64 (-1), .slice none 0 0, .slice none 0 0]) ∧ Chg (fun _ => False) w w' := by
  go_enter Try.func39, Try.ntmps39
  go_wp2_with fail
  obtain ⟨W, hW⟩ : ∃ q_, q_ = w.alloc (.cells #[.int .i64 0, .int .i64 c, .int .i64 q, .int .i64 (-1), .int .i64 (-1), .int .i64 (-1), .int .i64 (-1), .slice none 0 0, .slice none 0 0] 56) := ⟨_, rfl⟩
  rw [← hW]
  have BX2 := hid (show W.heap[w.heap.size]? = some (.cells #[.int .i64 0, .int .i64 c, .int .i64 q, .int .i64 (-1), .int .i64 (-1), .int .i64 (-1), .int .i64 (-1), .slice none 0 0, .slice none 0 0] 56 (0, 0)) by rw [hW]; exact blk_new w _)
  have CW := hid (show Chg (fun _ => False) w W by rw [hW]; exact (Chg.refl _ w).alloc _)
  clear hW
  have z0 : W.cell? ⟨w.heap.size, 0, none⟩ = some (.int .i64 0) := (cellAt BX2.out 0).trans rfl
  have z1 : W.cell? ⟨w.heap.size, 1, none⟩ = some (.int .i64 c) := (cellAt BX2.out 1).trans rfl
  have z2 : W.cell? ⟨w.heap.size, 2, none⟩ = some (.int .i64 q) := (cellAt BX2.out 2).trans rfl
  have z3 : W.cell? ⟨w.heap.size, 3, none⟩ = some (.int .i64 (-1)) := (cellAt BX2.out 3).trans rfl
  have z4 : W.cell? ⟨w.heap.size, 4, none⟩ = some (.int .i64 (-1)) := (cellAt BX2.out 4).trans rfl
  have z5 : W.cell? ⟨w.heap.size, 5, none⟩ = some (.int .i64 (-1)) := (cellAt BX2.out 5).trans rfl
  have z6 : W.cell? ⟨w.heap.size, 6, none⟩ = some (.int .i64 (-1)) := (cellAt BX2.out 6).trans rfl
  have z7 : W.cell? ⟨w.heap.size, 7, none⟩ = some (.slice none 0 0) := (cellAt BX2.out 7).trans rfl
  have z8 : W.cell? ⟨w.heap.size, 8, none⟩ = some (.slice none 0 0) := (cellAt BX2.out 8).trans rfl
  refine bodyPost_ret (v := .agg #[.int .i64 0, .int .i64 c, .int .i64 q, .int .i64 (-1), .int .i64 (-1), .int .i64 (-1), .int .i64 (-1), .slice none 0 0, .slice none 0 0]) (by simp [results, Try.results39, go_sem, z0, z1, z2, z3, z4, z5, z6, z7, z8]) rfl ?_
  exact ⟨rfl, CW.out⟩
end Go.Proofs.Ytaldoajdhbndhaa.Pa


/- The anchor of the statements about replicas. -/

namespace Go.Proofs.Ytaldoajdhbndhaa.Pa

set_option linter.unusedVariables false

set_option linter.unusedSimpArgs false

open Go.RowKit Go.Proofs.Ytaldoajdhbndhaa.C

attribute [local go_sem] max2_int min2_int max_two min_two

def e15 : Entry := ⟨0, 1, 1, -1, -1, -1, -1, [], []⟩
def ra15 : Rp := newR 3 0 5 st0
def rb15 : Rp := newR 3 1 5 st0
def ra15' : Rp := { (submitR ra15 e15).1 with out := [] }
def m15 : Msg := ⟨1, 0, 0, 1, 1, 0, 0, [e15]⟩
def n15 : Msg := ⟨2, 0, 1, 0, 1, 0, 0, []⟩
theorem a15_1 : (submitR ra15 e15).1.out = [m15, { m15 with dst := 2 }] := by rfl
theorem a15_2 : (submitR ra15 e15).2 = 0 := by rfl
theorem a15_3 : (deliverR rb15 m15).1.out = [n15] := by rfl
theorem a15_4 : (deliverR rb15 m15).2 = 0 := by rfl
theorem a15_5 : (deliverR ra15' n15).2 = 0 := by rfl
theorem a15_6 : (deliverR ra15' n15).1.s.commit = 1 := by rfl
theorem a15_7 : (deliverR rb15 m15).1.s.commit = 0 := by rfl
def ra15'' : Rp := { (deliverR ra15' n15).1 with out := [] }
def rb15' : Rp := { (deliverR rb15 m15).1 with out := [] }
theorem a15_8 : roleR ra15 = 1 ∧ roleR rb15 = 0 := by decide
/-- The first of some messages, in memory. -/
theorem vec_head {w : World} {S D : Nat → Prop} {A : Option Addr} {n c : Nat} {m : Msg} {l : List Msg} (h : Vec msgK 41 w S D (.slice A n c) (m :: l)) : ∃ g B k d, A = some ⟨g, 0, none⟩ ∧ S g ∧ g < w.heap.size ∧ Ty.At entryK w (fun j => D j ∧ j ≠ g ∧ j < w.heap.size) B k d m.log ∧ ∀ W, Chg (fun _ => False) w W → W.cell? ⟨g, 0, none⟩ = some (.int .i64 m.kind) ∧ W.cell? ⟨g, 1, none⟩ = some (.int .i64 m.view) ∧ W.cell? ⟨g, 2, none⟩ = some (.int .i64 m.src) ∧ W.cell? ⟨g, 3, none⟩ = some (.int .i64 m.dst) ∧ W.cell? ⟨g, 4, none⟩ = some (.int .i64 m.op) ∧ W.cell? ⟨g, 5, none⟩ = some (.int .i64 m.commit) ∧ W.cell? ⟨g, 6, none⟩ = some (.int .i64 m.normal) ∧ W.cell? ⟨g, 7, none⟩ = some (.slice B k d) := by
  obtain ⟨g, cs, rfl, hg, hlt, hK, hc⟩ := h.get (by decide) (i := 0) (x := m) rfl
  have hK' : msgK.K w (fun j => D j ∧ j ≠ g ∧ j < w.heap.size) m cs.toArray.toList := by rw [List.toList_toArray]; exact hK
  obtain ⟨B, k, d, e2, hm⟩ := msg_open hK'
  have e3 := congrArg Array.toList e2
  rw [List.toList_toArray] at e3
  subst e3
  refine ⟨g, B, k, d, rfl, hg, hlt, hm, fun W hW => ?_⟩
  have h' : ∀ j u, ([.int .i64 m.kind, .int .i64 m.view, .int .i64 m.src, .int .i64 m.dst, .int .i64 m.op, .int .i64 m.commit, .int .i64 m.normal, .slice B k d] : List Value)[j]? = some u → W.cell? ⟨g, j, none⟩ = some u := fun j u hj => by
    have := hW.cell (hc j u hj) (fun h => h)
    rwa [Nat.zero_mul, Nat.zero_add] at this
  exact ⟨h' 0 _ rfl, h' 1 _ rfl, h' 2 _ rfl, h' 3 _ rfl, h' 4 _ rfl, h' 5 _ rfl, h' 6 _ rfl, h' 7 _ rfl⟩
set_option maxHeartbeats 4000000 in
set_option maxRecDepth 100000 in
theorem anchor15_any (w : World) : Calls Try.prog 11 #[] w fun e w' => e = .returned (.bool true) ∧ Chg (fun _ => False) w w' := by
  go_enter Try.func11, Try.ntmps11
  go_wp2_with fail
  refine (rnew_any (R := fun _ => False) (n := 3) (id := 0) (tm := 5) (s := st0) (k := 0) (at_nil_ _ _ _) (by decide) ⟨by decide, by decide, by decide⟩).mono ?_
  intro e1 w1 h1
  obtain ⟨p, b1, b2, b3, rfl, hb, hq, k1⟩ := RQ.of_new h1 (by decide) (by decide)
  have HB := hid hb
  have QA := hid (show RQ w1 p b1 b2 b3 (fun k => M4 p b1 b2 b3 k ∨ (¬ False ∧ k < w.heap.size)) ra15 from hq)
  have K1 := hid k1
  clear h1 hb hq k1
  go_wp2_with fail
  refine (rnew_any (R := fun _ => False) (n := 3) (id := 1) (tm := 5) (s := st0) (k := 0) (at_nil_ _ _ _) (by decide) ⟨by decide, by decide, by decide⟩).mono ?_
  intro e2 w2 h2
  obtain ⟨q, c1, c2, c3, rfl, hb, hq, k2⟩ := RQ.of_new h2 (by decide) (by decide)
  have HC := hid hb
  have K2 := hid (K1.out.trans k2 (fun _ h _ => h))
  obtain ⟨X, hX⟩ : ∃ X : Nat → Prop, ∀ k, X k ↔ (M4 p b1 b2 b3 k ∨ M4 q c1 c2 c3 k) := ⟨_, fun _ => Iff.rfl⟩
  have HX := hid hX
  replace QA := hid ((QA.out.widen k2 hb).less (X' := X) (fun k hk => (hX k).2 (.inl hk)) (fun k hk => by rcases (hX k).1 hk with h | h; exact .inl (.inl h); exact .inr h))
  have QB := hid (show RQ w2 q c1 c2 c3 X rb15 from hq.less (X' := X) (fun k hk => (hX k).2 (.inr hk)) (fun k hk => by rcases (hX k).1 hk with h | h; exact .inr ⟨fun h => h, (HB.out k h).2⟩; exact .inl h))
  have DJ := hid (show ∀ k, M4 p b1 b2 b3 k → ¬ M4 q c1 c2 c3 k from fun k h1 h2 => by have := (HB.out k h1).2; have := (HC.out k h2).1; omega)
  have NEW := hid (show ∀ k, X k → w.heap.size ≤ k from fun k hk => by rcases (hX k).1 hk with h | h; exact (HB.out k h).1; exact Nat.le_trans K1.out.size (HC.out k h).1)
  clear h2 hb hq k2 hX
  go_wp2_with fail
  refine (rq_role QA.out).mono ?_
  rintro e w3 ⟨rfl, k3⟩
  rw [a15_8.1]
  have K3 := hid (K2.out.trans k3 (fun _ h _ => h))
  replace QA := hid (QA.out.far k3)
  replace QB := hid (QB.out.far k3)
  clear k3
  go_wp2_with fail
  refine (rq_role QB.out).mono ?_
  rintro e w4 ⟨rfl, k4⟩
  rw [a15_8.2]
  have K4 := hid (K3.out.trans k4 (fun _ h _ => h))
  replace QA := hid (QA.out.far k4)
  replace QB := hid (QB.out.far k4)
  clear k4
  go_wp2_with fail
  refine (entry15_any 1 1 _).mono ?_
  rintro e w5 ⟨rfl, k5⟩
  have K5 := hid (K4.out.trans k5 (fun _ h _ => h))
  replace QA := hid (QA.out.far k5)
  replace QB := hid (QB.out.far k5)
  clear k5
  go_wp2_with fail
  refine (rq_submit QA.out (e := e15) (R := fun _ => False) ⟨by decide, at_nil_ _ _ _, at_nil_ _ _ _⟩).mono ?_
  rintro e w6 ⟨A, c, rfl, hq, hv, k6⟩
  rw [a15_1, a15_2]
  rw [a15_1] at hv
  have K6 := hid (show Chg (fun k => X k) w w6 from (K5.out.mono (S' := fun k => X k) (fun _ h _ => h.elim)).trans k6 (fun k hk _ => (HX.out k).2 (.inl hk)))
  have S5 := hid (show ∀ k, X k → k < w5.heap.size from fun k hk => by rcases (HX.out k).1 hk with h | h; exact QA.out.lt k h; exact QB.out.lt k h)
  have Z6 := hid k6.size
  replace QA := hid (show RQ w6 p b1 b2 b3 X ra15' from hq)
  replace QB := hid (QB.out.chg k6 (fun k hk _ => ⟨(HX.out k).2 (.inl hk), DJ.out k hk⟩))
  clear hq k6
  rw [show ([m15, { m15 with dst := 2 }] : List Msg).length = 2 from rfl]
  replace hv : Vec msgK 41 w6 (fun k => w5.heap.size ≤ k) (fun k => w5.heap.size ≤ k) (.slice A 2 c) [m15, { m15 with dst := 2 }] := hv
  obtain ⟨g, B, k, d, rfl, hg, hlt, hm, hcells⟩ := vec_head hv
  have HM := hid hm
  have HG := hid hg
  obtain ⟨o0, o1, o2, o3, o4, o5, o6, o7⟩ := hcells _ (Chg.refl _ w6)
  have O_0 : w6.cell? ⟨g, 0, none⟩ = some (.int .i64 1) := o0
  have O_1 : w6.cell? ⟨g, 1, none⟩ = some (.int .i64 0) := o1
  have O_2 : w6.cell? ⟨g, 2, none⟩ = some (.int .i64 0) := o2
  have O_3 : w6.cell? ⟨g, 3, none⟩ = some (.int .i64 1) := o3
  have O_4 : w6.cell? ⟨g, 4, none⟩ = some (.int .i64 1) := o4
  have O_5 : w6.cell? ⟨g, 5, none⟩ = some (.int .i64 0) := o5
  have O_6 : w6.cell? ⟨g, 6, none⟩ = some (.int .i64 0) := o6
  have O_7 := o7
  clear hcells o0 o1 o2 o3 o4 o5 o6 o7 hv hm hg hlt
  go_wp2_with fail
  clear O_0 O_1 O_2 O_3 O_4 O_5 O_6 O_7
  refine (rq_deliver QB.out (m := m15) HM.out (fun j hj _ e => by have h1 := S5.out j ((HX.out j).2 (.inr e)); have h2 := hj.1; omega)).mono ?_
  rintro e w7 ⟨A7, c7, rfl, hq, hv, k7⟩
  rw [a15_3, a15_4]
  rw [a15_3] at hv
  rw [show ([n15] : List Msg).length = 1 from rfl]
  have K7 := hid (K6.out.trans k7 (fun k hk _ => (HX.out k).2 (.inr hk)))
  have S6 := hid (show ∀ k, X k → k < w6.heap.size from fun k hk => by have := S5.out k hk; have := Z6.out; omega)
  have Z7 := hid k7.size
  replace QB := hid (show RQ w7 q c1 c2 c3 X rb15' from hq)
  replace QA := hid (QA.out.chg k7 (fun k hk _ => ⟨(HX.out k).2 (.inr hk), fun e => DJ.out k e hk⟩))
  clear hq k7
  replace hv : Vec msgK 41 w7 (fun k => w6.heap.size ≤ k) (fun k => w6.heap.size ≤ k) (.slice A7 1 c7) [n15] := hv
  obtain ⟨g7, B7, j7, d7, rfl, hg, hlt, hm, hcells⟩ := vec_head hv
  have HM7 := hid hm
  obtain ⟨o0, o1, o2, o3, o4, o5, o6, o7⟩ := hcells _ (Chg.refl _ w7)
  have O_0 : w7.cell? ⟨g7, 0, none⟩ = some (.int .i64 2) := o0
  have O_1 : w7.cell? ⟨g7, 1, none⟩ = some (.int .i64 0) := o1
  have O_2 : w7.cell? ⟨g7, 2, none⟩ = some (.int .i64 1) := o2
  have O_3 : w7.cell? ⟨g7, 3, none⟩ = some (.int .i64 0) := o3
  have O_4 : w7.cell? ⟨g7, 4, none⟩ = some (.int .i64 1) := o4
  have O_5 : w7.cell? ⟨g7, 5, none⟩ = some (.int .i64 0) := o5
  have O_6 : w7.cell? ⟨g7, 6, none⟩ = some (.int .i64 0) := o6
  have O_7 := o7
  clear hcells o0 o1 o2 o3 o4 o5 o6 o7 hv hm hg hlt
  go_wp2_with fail
  clear O_0 O_1 O_2 O_3 O_4 O_5 O_6 O_7
  refine (rq_deliver QA.out (m := n15) HM7.out (fun j hj _ e => by have h1 := S6.out j ((HX.out j).2 (.inl e)); have h2 := hj.1; omega)).mono ?_
  rintro e w8 ⟨A8, c8, rfl, hq, hv, k8⟩
  rw [a15_5]
  have K8 := hid (K7.out.trans k8 (fun k hk _ => (HX.out k).2 (.inl hk)))
  replace QA := hid (show RQ w8 p b1 b2 b3 X ra15'' from hq)
  replace QB := hid (QB.out.chg k8 (fun k hk _ => ⟨(HX.out k).2 (.inl hk), DJ.out k hk⟩))
  clear hq k8 hv
  go_wp2_with fail
  refine (rq_state QA.out).mono ?_
  rintro e w9 ⟨A9, c9, rfl, hat, k9⟩
  rw [show ra15''.s.commit = 1 from a15_6]
  have hfd := st_field2
  have K9 := hid (K8.out.trans k9 (fun _ h _ => h.elim))
  replace QB := hid (QB.out.far k9)
  clear hat k9
  go_wp2_with fail
  refine (rq_state QB.out).mono ?_
  rintro e w10 ⟨A10, c10, rfl, hat, k10⟩
  rw [show rb15'.s.commit = 0 from a15_7]
  have K10 := hid (K9.out.trans k10 (fun _ h _ => h.elim))
  clear hat k10
  go_wp2_with fail
  go_ret
  exact ⟨rfl, K10.out.mono (fun k hk hl => by have := NEW.out k hk; omega)⟩
end Go.Proofs.Ytaldoajdhbndhaa.Pa


/- A step of a replica, and which steps can be gone through with. -/

namespace Go.Proofs.Ytaldoajdhbndhaa.Pa

set_option linter.unusedVariables false

set_option linter.unusedSimpArgs false

open Go.RowKit Go.Proofs.Ytaldoajdhbndhaa.C

attribute [local go_sem] max2_int min2_int max_two min_two

def doesR (r : Rp) (o : OpR) : Rp × Int := if o.kind = 1 then submitR r o.entry else if o.kind = 2 then (tickR r, 0) else if o.kind = 3 then deliverR r o.msg else (r, 0)
def smallO (o : OpR) : Bool := smallR o.msg.log && smallR [o.entry] && decide (o.msg.log.length ≤ 8)
def small15 (s : St) (l : List OpR) (most : Int) : Bool := l.all (fun o => smallO o) && decide ((l.length : Int) ≤ most) && smallR s.log && decide (s.log.length ≤ 66)
theorem does_keep {r : Rp} (h : RpOk r) (o : OpR) : Keep r.s (doesR r o).1.s := by
  unfold doesR
  split
  · exact keep_submit h _
  · split
    · exact keep_tick h
    · split
      · exact keep_deliver h _
      · exact Keep.refl _
theorem does_quiet {r : Rp} (h : 0 ≤ r.quiet) (o : OpR) : 0 ≤ (doesR r o).1.quiet ∧ (doesR r o).1.quiet ≤ r.quiet + 1 := by
  unfold doesR
  split
  · have := qt_submit r o.entry; unfold Qt at this; omega
  · split
    · exact qt_tick h
    · split
      · have := qt_deliver r o.msg; unfold Qt at this; omega
      · show 0 ≤ r.quiet ∧ r.quiet ≤ r.quiet + 1; omega
theorem small15_iff {s : St} {l : List OpR} {most : Int} (h : small15 s l most = true) : (l.length : Int) ≤ most ∧ smallR s.log = true := by
  unfold small15 at h
  simp only [Bool.and_eq_true, decide_eq_true_eq] at h
  exact ⟨h.1.1.2, h.1.2⟩
theorem Did.of {w w1 : World} {p b1 b2 b3 : Nat} {X : Nat → Prop} {r : Rp} {v : Value → Value} {e' : Ending} {w' : World} (hc : Chg (fun _ => False) w w1) (h : Did w1 p b1 b2 b3 X r v e' w') : Did w p b1 b2 b3 X r v e' w' := by
  obtain ⟨A, c, h1, h2, h3, h4⟩ := h
  exact ⟨A, c, h1, h2, h3.mono (fun k hk _ => Nat.le_trans hc.size hk) (fun k hk _ => Nat.le_trans hc.size hk), (hc.mono (fun _ h _ => h.elim)).trans h4 (fun k hk _ => hk)⟩
theorem Did.none_ {w w' : World} {p b1 b2 b3 : Nat} {X : Nat → Prop} {r : Rp} {v : Value → Value} {e' : Ending} (h : RQ w p b1 b2 b3 X r) (hc : Chg (fun _ => False) w w') (he : e' = .returned (v (.slice none 0 0))) : Did w p b1 b2 b3 X r v e' w' :=
  ⟨none, 0, by rw [h.out]; exact he, by rw [out_nil h.out]; exact h.far hc, by rw [h.out]; exact Vec.nil _ _ _ _ _, hc.mono (fun _ h _ => h.elim)⟩
set_option maxHeartbeats 4000000 in
set_option maxRecDepth 100000 in
theorem does_any {w : World} {p b1 b2 b3 : Nat} {X : Nat → Prop} {r : Rp} (h : RQ w p b1 b2 b3 X r) {o : OpR} {R : Nat → Prop} {E1 : Option Addr} {m1 d1 : Nat} {E2 : Option Addr} {m2 d2 : Nat} {B : Option Addr} {k d : Nat} (he : EntryAt w R o.entry E1 m1 d1 E2 m2 d2) (hm : Ty.At entryK w R B k d o.msg.log) (hR : ∀ j, R j → j < w.heap.size → ¬ M4 p b1 b2 b3 j) (hq : 0 ≤ r.quiet ∧ r.quiet ≤ 1000000) :
    Calls Try.prog 23 #[.pointer (some ⟨p, 0, none⟩), .agg #[.int .i64 o.kind, .int .i64 o.entry.view, .int .i64 o.entry.client, .int .i64 o.entry.request, .int .i64 o.entry.dflt, .int .i64 o.entry.closed, .int .i64 o.entry.fuel, .int .i64 o.entry.stack, .slice E1 m1 d1, .slice E2 m2 d2, .int .i64 o.msg.kind, .int .i64 o.msg.view, .int .i64 o.msg.src, .int .i64 o.msg.dst, .int .i64 o.msg.op, .int .i64 o.msg.commit, .int .i64 o.msg.normal, .slice B k d]] w (Did w p b1 b2 b3 X (doesR r o).1 (fun O => .tuple #[O, .int .i64 (doesR r o).2])) := by
  obtain ⟨w1, hw1⟩ : ∃ q_, q_ = (w.alloc (.cells #[.int .i64 o.kind, .int .i64 o.entry.view, .int .i64 o.entry.client, .int .i64 o.entry.request, .int .i64 o.entry.dflt, .int .i64 o.entry.closed, .int .i64 o.entry.fuel, .int .i64 o.entry.stack, .slice E1 m1 d1, .slice E2 m2 d2, .int .i64 o.msg.kind, .int .i64 o.msg.view, .int .i64 o.msg.src, .int .i64 o.msg.dst, .int .i64 o.msg.op, .int .i64 o.msg.commit, .int .i64 o.msg.normal, .slice B k d] 58)) := ⟨_, rfl⟩
  have C1 := hid (show Chg (fun _ => False) w w1 by rw [hw1]; exact (Chg.refl _ w).alloc _)
  have BX := hid (show w1.heap[w.heap.size]? = some (.cells #[.int .i64 o.kind, .int .i64 o.entry.view, .int .i64 o.entry.client, .int .i64 o.entry.request, .int .i64 o.entry.dflt, .int .i64 o.entry.closed, .int .i64 o.entry.fuel, .int .i64 o.entry.stack, .slice E1 m1 d1, .slice E2 m2 d2, .int .i64 o.msg.kind, .int .i64 o.msg.view, .int .i64 o.msg.src, .int .i64 o.msg.dst, .int .i64 o.msg.op, .int .i64 o.msg.commit, .int .i64 o.msg.normal, .slice B k d] 58 (0, 0)) by
    rw [hw1]
    have := blk_new w (.cells #[.int .i64 o.kind, .int .i64 o.entry.view, .int .i64 o.entry.client, .int .i64 o.entry.request, .int .i64 o.entry.dflt, .int .i64 o.entry.closed, .int .i64 o.entry.fuel, .int .i64 o.entry.stack, .slice E1 m1 d1, .slice E2 m2 d2, .int .i64 o.msg.kind, .int .i64 o.msg.view, .int .i64 o.msg.src, .int .i64 o.msg.dst, .int .i64 o.msg.op, .int .i64 o.msg.commit, .int .i64 o.msg.normal, .slice B k d] 58)
    simpa using this)
  have SZ := hid (show w1.heap.size = w.heap.size + 1 by rw [hw1]; simp)
  have H1 := hid (h.far C1.out)
  have HH := hid h
  have HQ := hid hq
  have HE := hid (EntryAt.chg (EntryAt.bound he) C1.out (fun _ _ h => h))
  have HM := hid (hm.bound.chg C1.out (fun _ _ h => h))
  have HR := hid (show ∀ j, (R j ∧ j < w.heap.size) → j < w1.heap.size → ¬ M4 p b1 b2 b3 j from fun j hj _ => hR j hj.1 hj.2)
  clear h he hm hR hq
  go_enter Try.func23, Try.ntmps23
  by_cases h1 : o.kind = 1
  · have h1b : (o.kind == 1) = true := by simp [h1]
    have HK := hid h1
    clear h1
    go_wp2_with fail
    rw [← hw1]
    clear hw1 SZ
    refine (rq_submit H1.out HE.out).mono ?_
    rintro e w2 ⟨A, c, rfl, hq, hv, k2⟩
    have HD := hid (show Did w1 p b1 b2 b3 X (submitR r o.entry).1 (fun O => .tuple #[O, .int .i64 (submitR r o.entry).2]) (.returned (.tuple #[.slice A (submitR r o.entry).1.out.length c, .int .i64 (submitR r o.entry).2])) w2 from ⟨A, c, rfl, hq, hv, k2⟩)
    clear hq hv k2
    go_wp2_with fail
    go_ret2
    have e1 : doesR r o = submitR r o.entry := by unfold doesR; rw [if_pos HK.out]
    rw [e1]
    exact HD.out.of C1.out
  have h1b : (o.kind == 1) = false := by simp [h1]
  have HK1 := hid (show ¬ o.kind = 1 from h1)
  clear h1
  by_cases h2 : o.kind = 2
  · have h2b : (o.kind == 2) = true := by simp [h2]
    have HK := hid h2
    clear h2
    go_wp2_with fail
    rw [← hw1]
    clear hw1 SZ
    refine (rq_tick H1.out HQ.out).mono ?_
    rintro e w2 ⟨A, c, rfl, hq, hv, k2⟩
    have HD := hid (show Did w1 p b1 b2 b3 X (tickR r) (fun O => .tuple #[O, .int .i64 0]) (.returned (.tuple #[.slice A (tickR r).out.length c, .int .i64 0])) w2 from ⟨A, c, rfl, hq, hv, k2⟩)
    clear hq hv k2
    go_wp2_with fail
    go_ret2
    have e1 : doesR r o = (tickR r, 0) := by unfold doesR; rw [if_neg HK1.out, if_pos HK.out]
    rw [e1]
    exact HD.out.of C1.out
  have h2b : (o.kind == 2) = false := by simp [h2]
  have HK2 := hid (show ¬ o.kind = 2 from h2)
  clear h2
  by_cases h3 : o.kind = 3
  · have h3b : (o.kind == 3) = true := by simp [h3]
    have HK := hid h3
    clear h3
    go_wp2_with fail
    rw [← hw1]
    clear hw1 SZ
    refine (rq_deliver H1.out HM.out HR.out).mono ?_
    rintro e w2 ⟨A, c, rfl, hq, hv, k2⟩
    have HD := hid (show Did w1 p b1 b2 b3 X (deliverR r o.msg).1 (fun O => .tuple #[O, .int .i64 (deliverR r o.msg).2]) (.returned (.tuple #[.slice A (deliverR r o.msg).1.out.length c, .int .i64 (deliverR r o.msg).2])) w2 from ⟨A, c, rfl, hq, hv, k2⟩)
    clear hq hv k2
    go_wp2_with fail
    go_ret2
    have e1 : doesR r o = deliverR r o.msg := by unfold doesR; rw [if_neg HK1.out, if_neg HK2.out, if_pos HK.out]
    rw [e1]
    exact HD.out.of C1.out
  have h3b : (o.kind == 3) = false := by simp [h3]
  have HK3 := hid (show ¬ o.kind = 3 from h3)
  clear h3
  go_wp2_with fail
  go_ret2
  have e1 : doesR r o = (r, 0) := by unfold doesR; rw [if_neg HK1.out, if_neg HK2.out, if_neg HK3.out]
  rw [e1, ← hw1]
  exact Did.none_ HH.out C1.out rfl
theorem small15_no {s : St} {l : List OpR} {most : Int} {k : Nat} {o : OpR} (h : l[k]? = some o) (ho : smallO o = false) : small15 s l most = false := by
  unfold small15
  have : l.all (fun o => smallO o) = false := by rw [List.all_eq_false]; exact ⟨o, List.mem_of_getElem? h, by simp [ho]⟩
  rw [this]; rfl
set_option maxHeartbeats 4000000 in
set_option maxRecDepth 100000 in
theorem small15_any {w : World} {R : Nat → Prop} {s : St} {A : Option Addr} {n c : Nat} (hl : Ty.At entryK w R A n c s.log) {l : List OpR} {L : Option Addr} {ln lc : Nat} (ho : Ty.At opK w R L ln lc l) (most : Int) :
    Calls Try.prog 19 #[.agg #[.int .i64 s.view, .int .i64 s.normal, .int .i64 s.commit, .int .i64 s.active, .slice A n c], .slice L ln lc, .int .i64 most] w fun e' w' => e' = .returned (.bool (small15 s l most)) ∧ Chg (fun _ => False) w w' := by
  obtain ⟨w1, hw1⟩ : ∃ q_, q_ = (w.alloc (.cells #[.int .i64 s.view, .int .i64 s.normal, .int .i64 s.commit, .int .i64 s.active, .slice A n c] 26)) := ⟨_, rfl⟩
  have C1 := hid (show Chg (fun _ => False) w w1 by rw [hw1]; exact (Chg.refl _ w).alloc _)
  have BX := hid (show w1.heap[w.heap.size]? = some (.cells #[.int .i64 s.view, .int .i64 s.normal, .int .i64 s.commit, .int .i64 s.active, .slice A n c] 26 (0, 0)) by
    rw [hw1]
    have := blk_new w (.cells #[.int .i64 s.view, .int .i64 s.normal, .int .i64 s.commit, .int .i64 s.active, .slice A n c] 26)
    simpa using this)
  have SZ := hid (show w1.heap.size = w.heap.size + 1 by rw [hw1]; simp)
  have HL := hid (hl.chg C1.out (fun _ _ h => h))
  have HO := hid (ho.chg C1.out (fun _ _ h => h))
  have L1 := hid ho.1
  have LS := hid hl.1
  have hln : (ln : Int) ≤ 9223372036854775807 := by have q1 := ho.2.1; have q2 := ho.2.2.1; simp [maxLen] at q2; omega
  clear hl ho
  go_enter Try.func19, Try.ntmps19
  go_wp2_with fail
  rw [← hw1]
  clear hw1 SZ
  go_loopw [11] (fun i wr => ∃ q : Nat, q ≤ ln ∧ i = .int .i64 q ∧ (l.take q).all (fun o => smallO o) = true ∧ Chg (fun _ => False) w1 wr) (fun i _ => ln - (intOf i).toNat)
  case atStart => exact ⟨0, Nat.zero_le _, rfl, rfl, Chg.refl _ _⟩
  case round =>
    obtain ⟨q, hq, rfl, hp, hC⟩ := hrel
    have HP := hid hp
    have HC := hid hC
    clear hp hC
    by_cases hlt : q < ln
    · have hlt2 : (q : Int) < (ln : Int) := by omega
      obtain ⟨o, hx⟩ : ∃ o, l[q]? = some o := ⟨_, List.getElem?_eq_getElem (by have := L1.out; omega)⟩
      obtain ⟨a, cs, ha, haR, hK, hcs⟩ := HO.out.get (by decide) hx
      obtain ⟨E1, m1, d1, E2, m2, d2, B, k, d, rfl, hent, hmsg, _⟩ := op_open (id hK)
      subst ha
      have hcs2 : ∀ j u, ([.int .i64 o.kind, .int .i64 o.entry.view, .int .i64 o.entry.client, .int .i64 o.entry.request, .int .i64 o.entry.dflt, .int .i64 o.entry.closed, .int .i64 o.entry.fuel, .int .i64 o.entry.stack, .slice E1 m1 d1, .slice E2 m2 d2, .int .i64 o.msg.kind, .int .i64 o.msg.view, .int .i64 o.msg.src, .int .i64 o.msg.dst, .int .i64 o.msg.op, .int .i64 o.msg.commit, .int .i64 o.msg.normal, .slice B k d] : List Value)[j]? = some u → wr.cell? (a.add (q * 18 + j)) = some u := fun j u hj => HC.out.cell (hcs j u hj) (fun h => h)
      have HCS := hid (show ∀ j v, ([.int .i64 o.kind, .int .i64 o.entry.view, .int .i64 o.entry.client, .int .i64 o.entry.request, .int .i64 o.entry.dflt, .int .i64 o.entry.closed, .int .i64 o.entry.fuel, .int .i64 o.entry.stack, .slice E1 m1 d1, .slice E2 m2 d2, .int .i64 o.msg.kind, .int .i64 o.msg.view, .int .i64 o.msg.src, .int .i64 o.msg.dst, .int .i64 o.msg.op, .int .i64 o.msg.commit, .int .i64 o.msg.normal, .slice B k d] : List Value)[j]? = some v → wr.cell? ((a.add (q * 18)).add j) = some v from fun j v hj => by rw [C.add_add]; exact hcs2 j v hj)
      have HNO := hid (fun ho => small15_no (s := s) (most := most) hx ho)
      have HAK := hid (show (l.take (q + 1)).all (fun o => smallO o) = ((l.take q).all (fun o => smallO o) && smallO o) by rw [List.take_add_one, hx, Option.toList_some, List.all_append]; simp)
      obtain ⟨W1, hW1⟩ : ∃ W1, W1 = wr.alloc (.cells #[.int .i64 o.kind, .int .i64 o.entry.view, .int .i64 o.entry.client, .int .i64 o.entry.request, .int .i64 o.entry.dflt, .int .i64 o.entry.closed, .int .i64 o.entry.fuel, .int .i64 o.entry.stack, .slice E1 m1 d1, .slice E2 m2 d2, .int .i64 o.msg.kind, .int .i64 o.msg.view, .int .i64 o.msg.src, .int .i64 o.msg.dst, .int .i64 o.msg.op, .int .i64 o.msg.commit, .int .i64 o.msg.normal, .slice B k d] 58) := ⟨_, rfl⟩
      have CW1 := hid (show Chg (fun _ => False) w1 W1 by rw [hW1]; exact HC.out.alloc _)
      have BW1 := hid (show W1.heap[wr.heap.size]? = some (.cells #[.int .i64 o.kind, .int .i64 o.entry.view, .int .i64 o.entry.client, .int .i64 o.entry.request, .int .i64 o.entry.dflt, .int .i64 o.entry.closed, .int .i64 o.entry.fuel, .int .i64 o.entry.stack, .slice E1 m1 d1, .slice E2 m2 d2, .int .i64 o.msg.kind, .int .i64 o.msg.view, .int .i64 o.msg.src, .int .i64 o.msg.dst, .int .i64 o.msg.op, .int .i64 o.msg.commit, .int .i64 o.msg.normal, .slice B k d] 58 (0, 0)) by rw [hW1]; exact blk_new wr _)
      have HEN := hid hent
      have HMS := hid hmsg
      have KM := hid hmsg.1
      clear hcs hK hcs2 hx haR hent hmsg
      go_wp2_with (first | ((with_reducible refine at_dst (N := 14) rfl ?_); (refine load_agg_step wr rfl (.tmp 13) 58 rfl _ Try.underlying58 rfl (a.add (q * 18)) rfl ([.int .i64 o.kind, .int .i64 o.entry.view, .int .i64 o.entry.client, .int .i64 o.entry.request, .int .i64 o.entry.dflt, .int .i64 o.entry.closed, .int .i64 o.entry.fuel, .int .i64 o.entry.stack, .slice E1 m1 d1, .slice E2 m2 d2, .int .i64 o.msg.kind, .int .i64 o.msg.view, .int .i64 o.msg.src, .int .i64 o.msg.dst, .int .i64 o.msg.op, .int .i64 o.msg.commit, .int .i64 o.msg.normal, .slice B k d] : List Value) (by kernel_rfl) HCS.out ?_)) | (refine store_agg_step wr rfl (.tmp 8) (.tmp 14) 58 rfl #[.int .i64 0, .int .i64 0, .int .i64 0, .int .i64 0, .int .i64 0, .int .i64 0, .int .i64 0, .int .i64 0, .slice none 0 0, .slice none 0 0, .int .i64 0, .int .i64 0, .int .i64 0, .int .i64 0, .int .i64 0, .int .i64 0, .int .i64 0, .slice none 0 0] #[.int .i64 o.kind, .int .i64 o.entry.view, .int .i64 o.entry.client, .int .i64 o.entry.request, .int .i64 o.entry.dflt, .int .i64 o.entry.closed, .int .i64 o.entry.fuel, .int .i64 o.entry.stack, .slice E1 m1 d1, .slice E2 m2 d2, .int .i64 o.msg.kind, .int .i64 o.msg.view, .int .i64 o.msg.src, .int .i64 o.msg.dst, .int .i64 o.msg.op, .int .i64 o.msg.commit, .int .i64 o.msg.normal, .slice B k d] rfl rfl (by kernel_rfl) rfl (by first | kernel_rfl | simp [Value.oneCell']) ?_))
      rw [← hW1]
      clear hW1
      refine (small_any (HMS.out.chg CW1.out (fun _ _ h => h))).mono ?_
      rintro e w2 ⟨rfl, k2⟩
      have K2 := hid (CW1.out.trans k2 (fun _ h _ => h))
      have B2 := hid (k2.blk BW1.out (fun h => h))
      clear k2
      cases hs1 : smallR o.msg.log
      · have G := hid (HNO.out (by unfold smallO; rw [hs1]; rfl))
        clear hs1
        go_wp2_with fail
        go_ret
        exact ⟨by rw [G.out]; rfl, C1.out.trans K2.out (fun _ h _ => h)⟩
      have HS1 := hid hs1
      clear hs1
      have y1 : w2.cell? ⟨wr.heap.size, 1, none⟩ = some (.int .i64 o.entry.view) := (cellAt B2.out 1).trans rfl
      have y2 : w2.cell? ⟨wr.heap.size, 2, none⟩ = some (.int .i64 o.entry.client) := (cellAt B2.out 2).trans rfl
      have y3 : w2.cell? ⟨wr.heap.size, 3, none⟩ = some (.int .i64 o.entry.request) := (cellAt B2.out 3).trans rfl
      have y4 : w2.cell? ⟨wr.heap.size, 4, none⟩ = some (.int .i64 o.entry.dflt) := (cellAt B2.out 4).trans rfl
      have y5 : w2.cell? ⟨wr.heap.size, 5, none⟩ = some (.int .i64 o.entry.closed) := (cellAt B2.out 5).trans rfl
      have y6 : w2.cell? ⟨wr.heap.size, 6, none⟩ = some (.int .i64 o.entry.fuel) := (cellAt B2.out 6).trans rfl
      have y7 : w2.cell? ⟨wr.heap.size, 7, none⟩ = some (.int .i64 o.entry.stack) := (cellAt B2.out 7).trans rfl
      have y8 : w2.cell? ⟨wr.heap.size, 8, none⟩ = some (.slice E1 m1 d1) := (cellAt B2.out 8).trans rfl
      have y9 : w2.cell? ⟨wr.heap.size, 9, none⟩ = some (.slice E2 m2 d2) := (cellAt B2.out 9).trans rfl
      have y17 : w2.cell? ⟨wr.heap.size, 17, none⟩ = some (.slice B k d) := (cellAt B2.out 17).trans rfl
      go_wp2_with fail
      obtain ⟨w3, hw3⟩ : ∃ q_, q_ = w2.alloc (.cells #[.int .i64 o.entry.view, .int .i64 o.entry.client, .int .i64 o.entry.request, .int .i64 o.entry.dflt, .int .i64 o.entry.closed, .int .i64 o.entry.fuel, .int .i64 o.entry.stack, .slice E1 m1 d1, .slice E2 m2 d2] 56) := ⟨_, rfl⟩
      rw [← hw3]
      have K3 := hid (show Chg (fun _ => False) w1 w3 by rw [hw3]; exact K2.out.alloc _)
      have B3 := hid (show w3.heap[wr.heap.size]? = some (.cells #[.int .i64 o.kind, .int .i64 o.entry.view, .int .i64 o.entry.client, .int .i64 o.entry.request, .int .i64 o.entry.dflt, .int .i64 o.entry.closed, .int .i64 o.entry.fuel, .int .i64 o.entry.stack, .slice E1 m1 d1, .slice E2 m2 d2, .int .i64 o.msg.kind, .int .i64 o.msg.view, .int .i64 o.msg.src, .int .i64 o.msg.dst, .int .i64 o.msg.op, .int .i64 o.msg.commit, .int .i64 o.msg.normal, .slice B k d] 58 (0, 0)) by rw [hw3]; exact blk_alloc B2.out _)
      have HLIT := hid (show Ty.At entryK w3 (fun j => R j ∨ j = w2.heap.size) (some ⟨w2.heap.size, 0, none⟩) 1 1 [o.entry] by rw [hw3]; exact lit_at (cs := #[.int .i64 o.entry.view, .int .i64 o.entry.client, .int .i64 o.entry.request, .int .i64 o.entry.dflt, .int .i64 o.entry.closed, .int .i64 o.entry.fuel, .int .i64 o.entry.stack, .slice E1 m1 d1, .slice E2 m2 d2]) (t := 56) (entry_shut (EntryAt.chg HEN.out K2.out (fun _ _ h => h))))
      clear hw3 y1 y2 y3 y4 y5 y6 y7 y8 y9 y17
      refine (small_any HLIT.out).mono ?_
      rintro e w4 ⟨rfl, k4⟩
      have K4 := hid (K3.out.trans k4 (fun _ h _ => h))
      have B4 := hid (k4.blk B3.out (fun h => h))
      clear k4
      cases hs2 : smallR [o.entry]
      · have G := hid (HNO.out (by unfold smallO; rw [hs2]; simp))
        clear hs2
        go_wp2_with fail
        go_ret
        exact ⟨by rw [G.out]; rfl, C1.out.trans K4.out (fun _ h _ => h)⟩
      have HS2 := hid hs2
      clear hs2
      have z17 : w4.cell? ⟨wr.heap.size, 17, none⟩ = some (.slice B k d) := (cellAt B4.out 17).trans rfl
      by_cases h8 : k ≤ 8
      case neg =>
        have h8b : (8 : Int) < (k : Int) := by omega
        have G := hid (HNO.out (by unfold smallO; rw [decide_eq_false (by have := KM.out; omega)]; simp))
        clear h8
        go_wp2_with fail
        go_ret
        exact ⟨by rw [G.out]; rfl, C1.out.trans K4.out (fun _ h _ => h)⟩
      have h8b : ¬ (8 : Int) < (k : Int) := by omega
      have h8c : ¬ 8 < k := by omega
      have G := hid (show (l.take (q + 1)).all (fun o => smallO o) = true by rw [HAK.out, HP.out]; unfold smallO; rw [HS1.out, HS2.out, decide_eq_true (by have := KM.out; omega)]; rfl)
      clear h8
      go_wp2_with fail
      go_roundw
      case measure => simp [intOf]; omega
      case rel => first | exact ⟨q + 1, hlt, by go_num, G.out, K4.out⟩ | ((repeat apply Exists.intro); exact ⟨⟨q + 1, hlt, by go_num, G.out, K4.out⟩, rfl⟩)
    · have hqn : ¬ (q : Int) < (ln : Int) := by omega
      obtain rfl : ln = q := by omega
      have HALL := hid (show l.all (fun o => smallO o) = true by have := HP.out; rwa [List.take_of_length_le (by have := L1.out; omega)] at this)
      have BXr := hid (HC.out.blk BX.out (fun h => h))
      by_cases hmo : (ln : Int) ≤ most
      case neg =>
        have hmo2 : most < (ln : Int) := by omega
        have hmo3 : decide ((ln : Int) ≤ most) = false := by simp; omega
        have G := hid (show small15 s l most = false by unfold small15; rw [decide_eq_false (show ¬ (l.length : Int) ≤ most by have := L1.out; omega)]; simp)
        clear hmo
        go_wp2_with fail
        go_ret
        exact ⟨by rw [G.out]; rfl, C1.out.trans HC.out (fun _ h _ => h)⟩
      have HMO := hid hmo
      have hmo3 : decide ((ln : Int) ≤ most) = true := by simp; omega
      have X_0 : wr.cell? ⟨w.heap.size, 0, none⟩ = some (.int .i64 s.view) := (cellAt BXr.out 0).trans rfl
      have X_1 : wr.cell? ⟨w.heap.size, 1, none⟩ = some (.int .i64 s.normal) := (cellAt BXr.out 1).trans rfl
      have X_2 : wr.cell? ⟨w.heap.size, 2, none⟩ = some (.int .i64 s.commit) := (cellAt BXr.out 2).trans rfl
      have X_3 : wr.cell? ⟨w.heap.size, 3, none⟩ = some (.int .i64 s.active) := (cellAt BXr.out 3).trans rfl
      have X_4 : wr.cell? ⟨w.heap.size, 4, none⟩ = some (.slice A n c) := (cellAt BXr.out 4).trans rfl
      go_wp2_with fail
      clear X_0 X_1 X_2 X_3
      refine (smallstate_any (HL.out.chg HC.out (fun _ _ h => h))).mono ?_
      rintro e w2 ⟨rfl, k2⟩
      have K2 := hid (HC.out.trans k2 (fun _ h _ => h))
      have BX2 := hid (k2.blk BXr.out (fun h => h))
      clear k2 X_4
      cases hss : smallR s.log
      · have G := hid (show small15 s l most = false by unfold small15; rw [hss]; simp)
        clear hss
        go_wp2_with fail
        go_ret
        exact ⟨by rw [G.out]; rfl, C1.out.trans K2.out (fun _ h _ => h)⟩
      have X_4 : w2.cell? ⟨w.heap.size, 4, none⟩ = some (.slice A n c) := (cellAt BX2.out 4).trans rfl
      have G := hid (show small15 s l most = decide ((n : Int) ≤ 66) by unfold small15; rw [HALL.out, hss, decide_eq_true (show (l.length : Int) ≤ most by have := L1.out; have := HMO.out; omega)]; have := LS.out; by_cases q : n ≤ 66 <;> simp [q] <;> omega)
      clear hss
      go_wp2_with fail
      go_ret
      exact ⟨by rw [G.out]; rfl, C1.out.trans K2.out (fun _ h _ => h)⟩
end Go.Proofs.Ytaldoajdhbndhaa.Pa


/- A message that comes twice, one behind the other: the second time nothing of the view and the log changes. No program in sight. -/

namespace Go.Proofs.Ytaldoajdhbndhaa.Pa

set_option linter.unusedVariables false

set_option linter.unusedSimpArgs false

/-- The same views and the same log. -/
def SameS (a b : Rp) : Prop := b.s.view = a.s.view ∧ b.s.normal = a.s.normal ∧ b.s.log = a.s.log
theorem SameS.rfl' (a : Rp) : SameS a a := ⟨rfl, rfl, rfl⟩
theorem twsay_s (r : Rp) (m : Msg) : (sayR r m).s = r.s ∧ (sayR r m).ch = r.ch := by
  obtain ⟨l, h, _⟩ := sayTo_same r m r.n.toNat
  unfold sayR
  rw [h]
  exact ⟨rfl, rfl⟩
theorem twdecide_or (r : Rp) : (decideR r = r ∧ ¬ (r.ch = true ∧ primR r r.s.view = r.id ∧ halfR r ≤ (r.chgs.length : Int) + 1)) ∨ (decideR r).ch = false := by
  unfold decideR
  split
  · exact .inr ((twsay_s _ _).2.trans rfl)
  · rename_i h
    exact .inl ⟨rfl, h⟩
theorem twsee_or {r : Rp} : (seeR r).ch = false ∨ ((seeR r).starts = r.starts ∧ halfR (seeR r) = halfR r ∧ ((seeR r).said = true ∨ ¬ halfR r ≤ (r.starts.length : Int))) := by
  unfold seeR
  split
  · split
    · rcases twdecide_or { r with said := true } with h | h
      · right
        rw [h.1]
        exact ⟨rfl, rfl, .inl rfl⟩
      · exact .inl h
    · exact .inr ⟨rfl, rfl, .inl rfl⟩
  · rename_i h
    cases hc : r.ch
    · exact .inl rfl
    · right
      refine ⟨rfl, rfl, ?_⟩
      cases hs : r.said
      · right
        exact fun e => h ⟨hc, hs, e⟩
      · exact .inl rfl
theorem follow_same {q : Rp} {m : Msg} (hv : ¬ q.s.view < m.view) (h : q.ch = true ∨ ¬ (m.kind = 1 ∧ m.op = (q.s.log.length : Int) + 1)) : SameS q (followR q m) := by
  unfold followR
  split
  · exact .rfl' q
  unfold follow1R
  rw [if_neg hv]
  have h2 : follow2R { q with quiet := 0 } m = { q with quiet := 0 } := by
    unfold follow2R
    rw [if_neg]
    rintro ⟨h1, h2⟩
    rcases h with h | h
    · rw [show ({ q with quiet := 0 } : Rp).ch = q.ch from rfl, h] at h1; cases h1
    · exact h h2
  rw [h2]
  unfold follow3R
  split
  · unfold follow4R
    split
    · exact .rfl' _
    · split
      · exact .rfl' _
      · exact .rfl' _
  · unfold follow4R
    split
    · exact .rfl' _
    · split
      · exact .rfl' _
      · exact .rfl' _
theorem follow34_ch (r : Rp) (m : Msg) : (follow4R (follow3R r m) m).ch = r.ch ∧ SameS r (follow4R (follow3R r m) m) := by
  unfold follow3R
  split <;> (unfold follow4R; split; exact ⟨rfl, .rfl' _⟩; split; exact ⟨rfl, .rfl' _⟩; exact ⟨rfl, .rfl' _⟩)
theorem follow_twice {r : Rp} {m : Msg} (hm : msgR m = true) (hv : r.s.view ≤ m.view) (hp : m.src = primR r m.view) :
    (followR r m).s.view = m.view ∧ ((followR r m).ch = true ∨ ¬ (m.kind = 1 ∧ m.op = ((followR r m).s.log.length : Int) + 1)) := by
  unfold followR
  rw [if_neg (fun e => e hp)]
  have h1 : (follow1R r m).s.view = m.view := by
    unfold follow1R
    by_cases h : r.s.view < m.view
    · rw [if_pos h]; rfl
    · rw [if_neg h]
      show r.s.view = m.view
      omega
  obtain ⟨q, hq⟩ : ∃ q, q = follow1R r m := ⟨_, rfl⟩
  rw [← hq] at h1 ⊢
  obtain ⟨c1, c2, _, c3⟩ := follow34_ch (follow2R q m) m
  rw [c1, c2, c3]
  unfold follow2R
  by_cases h : q.ch = false ∧ m.kind = 1 ∧ m.op = (q.s.log.length : Int) + 1
  · rw [if_pos h]
    refine ⟨h1, .inr ?_⟩
    rintro ⟨_, e⟩
    have e1 := (msgR_log hm).2.2.1 h.2.1
    rw [show (putR q m.log).s.log = q.s.log ++ m.log from rfl, List.length_append, e1] at e
    have e2 := h.2.2
    omega
  · rw [if_neg h]
    refine ⟨h1, ?_⟩
    cases hc : q.ch
    · right
      exact fun e => h ⟨hc, e⟩
    · exact .inl rfl
theorem turn_view {r : Rp} {m : Msg} (hv : r.s.view ≤ m.view) : (if r.s.view < m.view then beginR r m.view else r).s.view = m.view := by
  by_cases h : r.s.view < m.view
  · rw [if_pos h]
    exact congrArg St.view (twsay_s _ _).1
  · rw [if_neg h]
    omega
/-- What the second time finds, after a word about a change. -/
def Turned (m : Msg) (q : Rp) : Prop :=
  q.ch = false ∨ (m.kind = 4 ∧ m.src ∈ q.starts.map (·.1) ∧ (q.said = true ∨ ¬ halfR q ≤ (q.starts.length : Int))) ∨
    (m.kind ≠ 4 ∧ m.src ∈ q.chgs.map (·.1) ∧ ¬ (q.ch = true ∧ primR q q.s.view = q.id ∧ halfR q ≤ (q.chgs.length : Int) + 1)) ∨ (m.kind ≠ 4 ∧ m.kind ≠ 5)
theorem ups_mem {α : Type} (k : Int) (v : α) (L : List (Int × α)) : k ∈ (ups k v L).map (·.1) := by
  rw [ups_keys]
  split
  · assumption
  · simp
theorem turn2_turned (b : Rp) (m : Msg) : Turned m (turn2R b m) := by
  unfold turn2R
  split
  · rename_i h
    rcases twsee_or (r := { b with starts := ups m.src true b.starts }) with h1 | ⟨h1, h2, h3⟩
    · exact .inl h1
    · right; left
      refine ⟨h.1, ?_, ?_⟩
      · rw [h1]; exact ups_mem _ _ _
      · rw [h1, h2]; exact h3
  · split
    · rename_i h
      rcases twdecide_or { b with chgs := ups m.src m b.chgs } with ⟨h1, h2⟩ | h1
      · right; right; left
        rw [h1]
        exact ⟨fun e => by have := h.1; omega, ups_mem _ _ _, h2⟩
      · exact .inl h1
    · rename_i h4 h5
      split
      · rename_i h
        left
        cases hc : b.ch
        · exact hc
        · exact absurd ⟨h, hc⟩ h5
      · rename_i h
        cases hc : b.ch
        · exact .inl hc
        · right; right; right
          exact ⟨fun e => h4 ⟨e, hc⟩, h⟩
theorem turned_same {q : Rp} {m : Msg} (h : Turned m q) : SameS q (turn2R q m) := by
  unfold turn2R
  by_cases hc : q.ch = true
  · rcases h with h | ⟨h1, h2, h3⟩ | ⟨h1, h2, h3⟩ | ⟨h1, h2⟩
    · rw [h] at hc; cases hc
    · rw [if_pos ⟨h1, hc⟩]
      unfold seeR
      rw [if_neg]
      · exact ⟨rfl, rfl, rfl⟩
      · rintro ⟨_, e1, e2⟩
        rcases h3 with h3 | h3
        · rw [show ({ q with starts := ups m.src true q.starts } : Rp).said = q.said from rfl, h3] at e1; cases e1
        · apply h3
          rw [show ({ q with starts := ups m.src true q.starts } : Rp).starts = ups m.src true q.starts from rfl, ups_len, if_pos h2] at e2
          exact e2
    · rw [if_neg (fun e => h1 e.1)]
      split
      · unfold decideR
        rw [if_neg]
        · exact ⟨rfl, rfl, rfl⟩
        · intro e
          apply h3
          rw [show ({ q with chgs := ups m.src m q.chgs } : Rp).chgs = ups m.src m q.chgs from rfl, ups_len, if_pos h2] at e
          exact e
      · split
        · exact ⟨rfl, rfl, rfl⟩
        · exact .rfl' q
    · rw [if_neg (fun e => h1 e.1), if_neg (fun e => h2 e.1), if_neg h2]
      exact .rfl' q
  · rw [if_neg (fun e => hc e.2), if_neg (fun e => hc e.2)]
    split
    · exact ⟨rfl, rfl, rfl⟩
    · exact .rfl' q
theorem decide_view (r : Rp) : (decideR r).s.view = r.s.view := by
  unfold decideR
  split
  · rw [(twsay_s _ _).1]; rfl
  · rfl
theorem turn2_view (r : Rp) (m : Msg) : (turn2R r m).s.view = r.s.view := by
  unfold turn2R seeR
  split
  · split
    · split
      · exact decide_view _
      · rfl
    · rfl
  · split
    · exact decide_view _
    · split <;> rfl
theorem heard_twice {r : Rp} {m : Msg} (hm : msgR m = true) (hv : r.s.view ≤ m.view) (h : (heardR r m).n = r.n ∧ (heardR r m).id = r.id) :
    SameS (heardR r m) (heardR { heardR r m with out := [] } m) := by
  obtain ⟨q, hq⟩ : ∃ q : Rp, q = { heardR r m with out := [] } := ⟨_, rfl⟩
  have hs : (heardR r m).s = q.s := by rw [hq]
  have hn : q.n = r.n := by rw [hq]; exact h.1
  have hi : q.id = r.id := by rw [hq]; exact h.2
  have hch : q.ch = (heardR r m).ch := by rw [hq]
  have hprim : ∀ v, primR q v = primR r v := fun v => by unfold primR; rw [hn]
  rw [← hq]
  suffices hsu : SameS q (heardR q m) by
    unfold SameS at hsu ⊢
    rw [hs]
    exact hsu
  clear h
  unfold heardR
  by_cases h1 : m.kind = 1 ∨ m.kind = 3
  · rw [if_pos h1]
    have e : heardR r m = followR r m := by unfold heardR; rw [if_pos h1]
    rw [e] at hs hch
    by_cases hp : m.src = primR r m.view
    · obtain ⟨a1, a2⟩ := follow_twice hm hv hp
      rw [hs] at a1 a2
      rw [← hch] at a2
      exact follow_same (by omega) a2
    · unfold followR
      rw [if_pos (by rw [hprim]; exact hp)]
      exact .rfl' q
  rw [if_neg h1]
  by_cases h2 : m.kind = 2
  · rw [if_pos h2]
    unfold ackR
    split
    · exact .rfl' q
    · exact ⟨rfl, rfl, rfl⟩
  rw [if_neg h2]
  by_cases h4 : m.kind = 4 ∨ m.kind = 5
  · rw [if_pos h4]
    have e : heardR r m = turnR r m := by unfold heardR; rw [if_neg h1, if_neg h2, if_pos h4]
    rw [e] at hs hch
    unfold turnR
    by_cases hk : m.kind = 5 ∧ primR r m.view ≠ r.id
    · rw [if_pos (by rw [hprim, hi]; exact hk)]
      exact .rfl' q
    · rw [if_neg (by rw [hprim, hi]; exact hk)]
      have e2 : turnR r m = turn2R (if r.s.view < m.view then beginR r m.view else r) m := by unfold turnR; rw [if_neg hk]
      have hvw : q.s.view = m.view := by
        rw [← hs, e2, turn2_view, turn_view hv]
      rw [if_neg (show ¬ q.s.view < m.view by omega)]
      apply turned_same
      have := turn2_turned (if r.s.view < m.view then beginR r m.view else r) m
      rw [← e2, ← e] at this
      rw [hq]
      exact this
  rw [if_neg h4]
  have hnew : fitsR r m.log = true → q = { takeR r m with out := [] } → newerR q m = false ∧ extendsR q m.log = false := fun hf e => by
    have e1 : takeR r m = sendR (tookR r m) (primR r m.view) (msgOp 2 m.log.length) := by unfold takeR; rw [if_pos hf]
    rw [e, e1]
    constructor
    · show (decide (m.view < m.view) || false) = false
      simp
    · show (decide (m.log.length < m.log.length) && decide (m.log.take m.log.length = m.log)) = false
      simp
  have hno : fitsR r m.log = false → takeR r m = r := fun hf => by unfold takeR; rw [hf]; rfl
  by_cases h6 : m.kind = 6
  · rw [if_pos h6]
    have e : heardR r m = if m.src = primR r m.view ∧ newerR r m = true then takeR r m else r := by unfold heardR; rw [if_neg h1, if_neg h2, if_neg h4, if_pos h6]
    by_cases hc : m.src = primR r m.view ∧ newerR r m = true
    · rw [if_pos hc] at e
      cases hf : fitsR r m.log
      · rw [hno hf] at e
        rw [e] at hq
        have hq2 : takeR q m = q := by unfold takeR; rw [show fitsR q m.log = fitsR r m.log by rw [hq]; rfl, hf]; rfl
        rw [hq2]
        split <;> exact .rfl' q
      · rw [e] at hq
        rw [if_neg (fun e => by rw [(hnew hf hq).1] at e; cases e.2)]
        exact .rfl' q
    · rw [if_neg hc] at e
      rw [e] at hq
      rw [if_neg (by rw [hq]; exact hc)]
      exact .rfl' q
  rw [if_neg h6]
  by_cases h7 : m.kind = 7
  · rw [if_pos h7]
    split
    · exact ⟨rfl, rfl, rfl⟩
    · exact .rfl' q
  rw [if_neg h7]
  by_cases h8 : m.kind = 8
  · rw [if_pos h8]
    have e : heardR r m = if primR r m.view ≠ r.id ∧ (newerR r m = true ∨ extendsR r m.log = true) then takeR r m else r := by unfold heardR; rw [if_neg h1, if_neg h2, if_neg h4, if_neg h6, if_neg h7, if_pos h8]
    by_cases hc : primR r m.view ≠ r.id ∧ (newerR r m = true ∨ extendsR r m.log = true)
    · rw [if_pos hc] at e
      cases hf : fitsR r m.log
      · rw [hno hf] at e
        rw [e] at hq
        have hq2 : takeR q m = q := by unfold takeR; rw [show fitsR q m.log = fitsR r m.log by rw [hq]; rfl, hf]; rfl
        rw [hq2]
        split <;> exact .rfl' q
      · rw [e] at hq
        rw [if_neg (fun e => by rcases e.2 with e | e; rw [(hnew hf hq).1] at e; cases e; rw [(hnew hf hq).2] at e; cases e)]
        exact .rfl' q
    · rw [if_neg hc] at e
      rw [e] at hq
      rw [if_neg (by rw [hq]; exact hc)]
      exact .rfl' q
  · rw [if_neg h8]
    exact .rfl' q
/-- Twice the same message: view, normal view and log are as after the first one. -/
theorem deliver_twice (r : Rp) (m : Msg) :
    SameS (deliverR r m).1 (deliverR { (deliverR r m).1 with out := [] } m).1 := by
  cases hm : meantR r m
  · have e : (deliverR r m).1 = r := by unfold deliverR; rw [if_pos hm]
    rw [e]
    have e2 : (deliverR { r with out := [] } m).1 = { r with out := [] } := by unfold deliverR; rw [if_pos (show meantR { r with out := [] } m = false from hm)]
    rw [e2]
    exact ⟨rfl, rfl, rfl⟩
  · by_cases hv : m.view < r.s.view
    · have e : (deliverR r m).1 = r := by unfold deliverR; rw [if_neg (by rw [hm]; exact Bool.noConfusion), if_pos hv]
      rw [e]
      have e2 : (deliverR { r with out := [] } m).1 = { r with out := [] } := by unfold deliverR; rw [if_neg (show ¬ meantR { r with out := [] } m = false by rw [show meantR { r with out := [] } m = meantR r m from rfl, hm]; exact Bool.noConfusion), if_pos hv]
      rw [e2]
      exact ⟨rfl, rfl, rfl⟩
    · have e : (deliverR r m).1 = heardR r m := by unfold deliverR; rw [if_neg (by rw [hm]; exact Bool.noConfusion), if_neg hv]
      rw [e]
      have hr : msgR m = true := by unfold meantR at hm; exact (Bool.and_eq_true _ _ ▸ hm).1
      have hcf := cf_deliver r m
      rw [e] at hcf
      have ht := heard_twice hr (Int.not_lt.1 hv) ⟨hcf.1, hcf.2.1⟩
      unfold deliverR
      split
      · exact ⟨rfl, rfl, rfl⟩
      · split
        · exact ⟨rfl, rfl, rfl⟩
        · exact ht
end Go.Proofs.Ytaldoajdhbndhaa.Pa


/- What the law of doubled messages wants besides: append onto a full row of whatever is there, nothing too; a step that is a message. -/

namespace Go.Proofs.Ytaldoajdhbndhaa.Pa

set_option linter.unusedVariables false

set_option linter.unusedSimpArgs false

open Go.RowKit Go.Proofs.Ytaldoajdhbndhaa.C

section

variable {P : Program} {ops : Array Oper} {rest : List Oper} {o : Oper} {a : Act} {Q : Exit → Act → World → Prop}
theorem joins_run {α : Type} {d : Ty α} {P : Program} (w : World) (t ty e : TypeId) (z : Value) (bytes : Nat) (ht : P.underlying t = some (.slice e))
    (hinfo : (P.info? e).map (fun i => (i.zero, i.size, i.bytes)) = some (some z, d.sz, bytes)) (hzs : z.cells.size = d.sz) (hsz : 0 < d.sz) (hb0 : 0 < bytes)
    {R R2 : Nat → Prop} {A B : Option Addr} {n m c : Nat} {xs ys : List α} (h : Ty.At d w R A n n xs) (h2 : Ty.At d w R2 B m c ys) (hbytes : (n + m) * bytes ≤ 140737488355328) :
    ∃ A' c' w', (Builtin.append_ #[t, t] ty #[.slice A n n, .slice B m c]).run P w = .ok (.slice A' (n + m) c') w' ∧ Ty.At d w' (fun k => (R k ∨ R2 k ∨ w.heap.size ≤ k) ∧ k < w'.heap.size) A' (n + m) c' (xs ++ ys) ∧ Chg (fun _ => False) w w' := by
  by_cases hm : 0 < m
  · exact join_run w t ty e z bytes ht hinfo hzs hsz hb0 h h2 hm hbytes
  obtain rfl : m = 0 := by omega
  obtain rfl : ys = [] := List.eq_nil_of_length_eq_zero h2.1.symm
  obtain ⟨i, hi, hz0, hz1, hz2⟩ := info_parts hinfo
  have hr := Go.run_append_nothing (P := P) w t t ty e i ht hi A n n (Nat.le_refl _) (.slice B 0 c) ⟨.inl ⟨e, ht⟩, fun w' => by simp [Builtin.lenOf], by cases B <;> simp [Builtin.firstCells, loadCells, loadCellsFrom], by cases B <;> simp [Builtin.firstCells, loadCells, loadCellsFrom], by simp, by simp⟩
  refine ⟨A, n, w, hr, ?_, Chg.refl _ w⟩
  rw [List.append_nil]
  exact h.bound.mono (fun k hk => ⟨.inl hk.1, hk.2⟩)
theorem joins_step {E : Prop} {α : Type} {d : Ty α} (w : World) {K : Act → World → Prop} (hgd : o.guard = none) (s x : Operand) (t e : TypeId) (z : Value) (bytes : Nat)
    (ho : o.op = .call { callee := .builtin .append, args := #[s, x], argTypes := #[t, t] }) (ht : P.underlying t = some (.slice e))
    (hinfo : (P.info? e).map (fun i => (i.zero, i.size, i.bytes)) = some (some z, d.sz, bytes)) (hzs : z.cells.size = d.sz) (hsz : 0 < d.sz) (hb0 : 0 < bytes)
    {R R2 : Nat → Prop} {A B : Option Addr} {n m c : Nat} {xs ys : List α} (hs : a.eval s = .slice A n n) (hx : a.eval x = .slice B m c) (h1 : Ty.At d w R A n n xs) (h2 : Ty.At d w R2 B m c ys) (hbytes : (n + m) * bytes ≤ 140737488355328)
    (h : ∀ A' c' w', Ty.At d w' (fun k => (R k ∨ R2 k ∨ w.heap.size ≤ k) ∧ k < w'.heap.size) A' (n + m) c' (xs ++ ys) → Chg (fun _ => False) w w' → K (a.put o.dst (.slice A' (n + m) c')) w') :
    if Region.wanted o (yielded ops a.tmps) = true then Oper.wp P o a w K Q else E := by
  have hw : Region.wanted o (yielded ops a.tmps) = true := by simp [Region.wanted, hgd]
  rw [if_pos hw]
  obtain ⟨A', c', w', hr, g1, g2⟩ := joins_run (P := P) w t o.type e z bytes ht hinfo hzs hsz hb0 h1 h2 hbytes
  unfold Oper.wp execOp
  simp only [ho, resolve, invoke, builtin, Sem.run_bind, Sem.run_pure, Result.andThen_ok, List.map_toArray, List.map_cons, List.map_nil, hs, hx, hr]
  exact h A' c' w' g1 g2
end
def entry0 : Entry := ⟨0, 0, 0, 0, 0, 0, 0, [], []⟩
theorem infoOp : (Try.prog.info? 58).map (fun i => (i.zero, i.size, i.bytes)) = some (some (.agg #[.int .i64 0, .int .i64 0, .int .i64 0, .int .i64 0, .int .i64 0, .int .i64 0, .int .i64 0, .int .i64 0, .slice none 0 0, .slice none 0 0, .int .i64 0, .int .i64 0, .int .i64 0, .int .i64 0, .int .i64 0, .int .i64 0, .int .i64 0, .slice none 0 0]), 18, 192) := by kernel_rfl
/-- The step that delivers a message. -/
def op3 (m : Msg) : OpR := ⟨3, entry0, m⟩
theorem entry0_at (w : World) (S : Nat → Prop) : EntryAt w S entry0 none 0 0 none 0 0 := by
  refine ⟨?_, ?_, ?_⟩
  · intro u hu
    simp [Entry.nums, entry0] at hu
    subst hu
    decide
  · exact at_nil_ _ _ _
  · exact at_nil_ _ _ _
theorem op3_shut {w : World} {S : Nat → Prop} {m : Msg} {cs : List Value} (h : msgK.K w S m cs) : opK.K w S (op3 m) (.int .i64 3 :: ([.int .i64 0, .int .i64 0, .int .i64 0, .int .i64 0, .int .i64 0, .int .i64 0, .int .i64 0, .slice none 0 0, .slice none 0 0] ++ cs)) :=
  ⟨[.int .i64 3], _, rfl, ⟨rfl, (by decide : (Lit.int .i64 3).wf = true)⟩, _, _, rfl, entry_shut (entry0_at w S), h⟩
end Go.Proofs.Ytaldoajdhbndhaa.Pa
