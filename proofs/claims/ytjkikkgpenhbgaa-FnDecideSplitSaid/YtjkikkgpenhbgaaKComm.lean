import Derived.StillTail
import Derived.Conc.LoneCalls
import Derived.Orders
import Derived.Tactics
namespace Go.Proofs.Ytjkikkgpenhbgaa.Comm
open Go Go.Conc Go.RowKit
def WpN (P : Program) (c : Code) (Q : Exit → Act → World → Prop) (a : Act) (w : World) : Prop :=
 ∀ (b : Frame), b.kind ≠ .early → ∀ (k : List Item) (cs : List Frame), ∃ e a' w', Q e a' w' ∧ Arrives P (lone (b.at a (.code c :: k)) cs w) b k cs e a' w'
def OpsN (P : Program) (ops : Array Oper) (Q : Exit → Act → World → Prop) (l : List Nat) (a : Act) (w : World) : Prop :=
 ∀ (b : Frame), b.kind ≠ .early → ∀ (k : List Item) (cs : List Frame), ∃ e a' w', Q e a' w' ∧ Arrives P (lone (b.at a (.inRegion ops l :: k)) cs w) b k cs e a' w'
section
variable {P : Program} {ops : Array Oper} {Q : Exit → Act → World → Prop} {a : Act} {w : World} {id : Nat}
theorem WpN.of {c : Code} (h : c.wp P Q a w) : WpN P c Q a w := fun b _ k cs => h b k cs
theorem WpN.mono {c : Code} {Q' : Exit → Act → World → Prop} (h : WpN P c Q a w) (hq : ∀ e a w, Q e a w → Q' e a w) : WpN P c Q' a w :=
 fun b hb k cs => let ⟨e, a', w', q, r⟩ := h b hb k cs; ⟨e, a', w', hq _ _ _ q, r⟩
theorem OpsN.of {l : List Nat} (h : wpOps P ops Q l a w) : OpsN P ops Q l a w := fun b _ k cs => wp_ops l a w h b k cs
theorem OpsN.nil (h : Q .normal a w) : OpsN P ops Q [] a w := OpsN.of h
theorem OpsN.region (h : OpsN P ops Q (List.range ops.size) a w) : WpN P (.region id ops false) Q a w :=
 fun b hb k cs => let ⟨e, a', w', q, r⟩ := h b hb k cs; ⟨e, a', w', q, .of_steps (.one step_region) r⟩
theorem OpsN.draw (h : ∀ t, OpsN P ops Q (Region.schedule (P.follows .mixedOrders) ops t) a { w with drawn := w.drawn + 1 }) : WpN P (.region id ops true) Q a w :=
 fun b hb k cs => let ⟨e, a', w', q, r⟩ := h _ b hb k cs; ⟨e, a', w', q, .of_steps (.one step_region_draw) r⟩
theorem OpsN.cons {i : Nat} {rest : List Nat} {K : Act → World → Prop} (h : wpOp P ops Q i K a w) (hK : ∀ a w, K a w → OpsN P ops Q rest a w) : OpsN P ops Q (i :: rest) a w := by
 intro b hb k cs
 unfold wpOp at h
 cases ho : ops[i]? with
 | none =>
  simp only [ho] at h
  obtain ⟨e, a', w', hq, harr⟩ := hK _ _ h b hb k cs
  have hs := step_op_skip (P := P) (b := b) (a := a) (k := k) (cs := cs) (w := w) (ops := ops) (i := i) (rest := rest) (by simp [ho])
  simp only [ho, Option.bind_none, Act.put] at hs
  exact ⟨e, a', w', hq, .of_steps (.one hs) harr⟩
 | some o =>
  simp only [ho] at h
  by_cases hw : Region.wanted o (yielded ops a.tmps) = true
  ·simp only [hw, if_true] at h
   rcases h with h | ⟨hasks, a₀, w₀, hq⟩
   case inr => exact ⟨.outgrown, a₀, w₀, hq, .inr (asks_outgrown ho hw hb hasks)⟩
   simp only [Oper.wp, Oper.upon] at h
   have hg := stepG_op (P := P) (b := b) (k := k) (cs := cs) (w := w) (rest := rest) ho hw
   have hfin : ∀ v, (b.at a (.inRegion ops (i :: rest) :: k)).finish v = b.at (a.put o.dst v) (.inRegion ops rest :: k) := by
    intro v; rw [Frame.finish_at, ho]; rfl
   split at h
   ·rename_i v w' hr
    obtain ⟨e, a', w'', hq, harr⟩ := hK _ _ h b hb k cs
    refine ⟨e, a', w'', hq, .of_steps (.one (step_lone_go ?_)) harr⟩
    rw [hg, ← hfin]; simp [stepG.apply, hr]
   ·rename_i w' hr
    obtain ⟨e, a', w'', hq, harr⟩ := hK _ _ h b hb k cs
    refine ⟨e, a', w'', hq, .of_steps (.one (step_lone_go ?_)) harr⟩
    rw [hg, ← hfin]; simp [stepG.apply, hr]
   ·rename_i d w' hr
    obtain ⟨e, a', w'', hq, harr⟩ := hK _ _ h b hb k cs
    refine ⟨e, a', w'', hq, .of_steps (.one (step_lone_go ?_)) harr⟩
    have : ({ b.at a (.inRegion ops (i :: rest) :: k) with defers := d :: a.defers } : Frame).finish undef =
      b.at ({ a with defers := d :: a.defers }.put o.dst undef) (.inRegion ops rest :: k) := by
     have := Frame.finish_at b { a with defers := d :: a.defers } ops i rest k undef
     rw [ho] at this; exact this
    rw [hg]; simp only [stepG.apply, Sem.runT_eq, hr, GStep.bare_after]
    exact congrArg (fun fr => GStep.go { frame := fr, callers := cs, status := .running, dying := none } w') this
   ·rename_i f args w' hr
    obtain ⟨e, w'', fr, hR, hsteps, _, hleave⟩ := h (b.at a (.inRegion ops (i :: rest) :: k) :: cs)
    have henter : step P (lone (b.at a (.inRegion ops (i :: rest) :: k)) cs w) =
      .next (lone (Frame.enter P f args .normal) (b.at a (.inRegion ops (i :: rest) :: k) :: cs) w') :=
     step_lone_go (by rw [hg]; simp [stepG.apply, hr, Frame.at])
    cases e with
    | returned v =>
     obtain ⟨e, a', w₃, hq, harr⟩ := hK _ _ hR b hb k cs
     refine ⟨e, a', w₃, hq, .of_steps (.head henter (hsteps.trans (.one ?_))) harr⟩
     rw [← hfin]; exact step_leave_returned hleave
    | panicked chain =>
     refine ⟨.panic chain, a, w'', hR, .inRegion ops (i :: rest) :: k, .head henter (hsteps.trans (.one ?_))⟩
     rw [← Frame.raise_at]; exact step_leave_panicked hleave
    | outgrown =>
     obtain ⟨a₀, w₀, hq⟩ := hR
     exact ⟨.outgrown, a₀, w₀, hq, .inr (Outgrown.of_steps (.one henter) hsteps)⟩
   ·rename_i row args w' hr
    obtain ⟨v, w'', hR, hsteps⟩ := h (b.at a (.inRegion ops (i :: rest) :: k)) cs
    have henter : step P (lone (b.at a (.inRegion ops (i :: rest) :: k)) cs w) =
      .next (lone (Frame.ofRow P row args .normal) (b.at a (.inRegion ops (i :: rest) :: k) :: cs) w') :=
     step_lone_go (by rw [hg]; simp [stepG.apply, hr, Frame.at])
    obtain ⟨e, a', w₃, hq, harr⟩ := hK _ _ hR b hb k cs
    refine ⟨e, a', w₃, hq, .of_steps (.head henter ?_) harr⟩
    rw [← hfin]; exact hsteps
   ·rename_i v w' hr
    refine ⟨_, a, w', h, .inRegion ops (i :: rest) :: k, .one (step_lone_go ?_)⟩
    rw [hg, ← Frame.raise_at]; simp [stepG.apply, hr]
   ·exact h.elim
  ·simp only [hw, if_false, Bool.false_eq_true] at h
   obtain ⟨e, a', w', hq, harr⟩ := hK _ _ h b hb k cs
   have hs := step_op_skip (P := P) (b := b) (a := a) (k := k) (cs := cs) (w := w) (ops := ops) (i := i) (rest := rest)
    (by simp [ho]; simpa using hw)
   simp only [ho, Option.bind_some] at hs
   exact ⟨e, a', w', hq, .of_steps (.one hs) harr⟩
theorem OpsN.value {i : Nat} {rest : List Nat} {o : Oper} {v : Value} {w' : World} (ho : ops[i]? = some o) (hw : Region.wanted o (yielded ops a.tmps) = true) (hr : (execOp a.eval o).run P w = .ok (.value v) w') (h : OpsN P ops Q rest (a.put o.dst v) w') : OpsN P ops Q (i :: rest) a w := by
 refine OpsN.cons (K := fun a2 w2 => a2 = a.put o.dst v ∧ w2 = w') ?_ (fun a2 w2 hk => by obtain ⟨rfl, rfl⟩ := hk; exact h)
 unfold wpOp
 simp only [ho, hw, if_true]
 left
 unfold Oper.wp
 rw [hr]
 exact ⟨rfl, rfl⟩
theorem OpsN.append {l2 : List Nat} : ∀ (l1 : List Nat) (a : Act) (w : World), wpOps P ops (Exit.then (OpsN P ops Q l2) Q) l1 a w → OpsN P ops Q (l1 ++ l2) a w := by
 intro l1
 induction l1 with
 | nil => exact fun a w h => h
 | cons i rest ih =>
  intro a w h
  rw [wpOps_cons] at h
  refine OpsN.cons (K := wpOps P ops (Exit.then (OpsN P ops Q l2) Q) rest) ?_ (fun a w hk => ih a w hk)
  unfold wpOp at h ⊢
  split
  ·simpa [*] using h
  ·rename_i o ho
   simp only [ho] at h
   split
   ·rename_i hw
    simp only [hw, if_true] at h
    refine h.imp (fun h => ?_) (fun ⟨h1, a0, w0, h2⟩ => ⟨h1, a0, w0, h2⟩)
    unfold Oper.wp at h ⊢
    generalize (execOp a.eval o).run P w = r at *
    cases r with
    | ok n w' => cases n <;> exact h
    | halt x w' => cases x <;> exact h
   ·rename_i hw; simp only [hw, if_false, Bool.false_eq_true] at h; exact h
def AnyT (P : Program) (md : Region.Mode) (ops : Array Oper) (Q : Exit → Act → World → Prop) (n : Nat) (K : Act → World → Prop) : Nat → Array Bool → Act → World → Prop
 | 0, listed, a, w => Region.ready md ops listed = [n] ∧ K a w
 | fuel + 1, listed, a, w => Region.ready md ops listed ≠ [] ∧ ∀ i ∈ Region.ready md ops listed, wpOp P ops Q i (AnyT P md ops Q n K fuel (listed.setIfInBounds i true)) a w
theorem AnyT.sound {md : Region.Mode} {n : Nat} : ∀ (fuel t : Nat) (listed : Array Bool) (a : Act) (w : World), AnyT P md ops Q n (OpsN P ops Q [n]) fuel listed a w →
  OpsN P ops Q (Region.linearise.go md ops (fuel + 1) t listed []) a w := by
 intro fuel
 induction fuel with
 | zero =>
  intro t listed a w ⟨h0, h1⟩
  simp only [Region.linearise.go]
  change OpsN P ops Q (match (Region.ready md ops listed)[t % (Region.ready md ops listed).length]? with
   | some i => [i].reverse
   | none => [].reverse) a w
  rw [h0]
  simpa [Nat.mod_one] using h1
 | succ fuel ih =>
  intro t listed a w ⟨h0, h1⟩
  rw [Region.linearise.go]
  change OpsN P ops Q (match (Region.ready md ops listed)[t % (Region.ready md ops listed).length]? with
   | some i => Region.linearise.go md ops (fuel + 1) (t / (Region.ready md ops listed).length) (listed.setIfInBounds i true) [i]
   | none => [].reverse) a w
  cases hi : (Region.ready md ops listed)[t % (Region.ready md ops listed).length]? with
  | none =>
   exfalso
   cases hr : Region.ready md ops listed with
   | nil => exact h0 hr
   | cons x xs =>
    rw [hr] at hi
    have hlt : t % (x :: xs).length < (x :: xs).length := Nat.mod_lt _ (by simp)
    simp at hi
    simp at hlt
    omega
  | some i =>
   simp only []
   rw [linearise_go_acc, List.reverse_singleton, List.singleton_append]
   exact OpsN.cons (h1 i (List.mem_of_getElem? hi)) (fun a w hk => ih _ _ a w hk)
theorem AnyT.region {n : Nat} (hm : P.follows .mixedOrders = true) (hn : ops.size = n + 1)
  (h : AnyT P .any ops Q n (OpsN P ops Q [n]) n (Array.replicate ops.size false) a { w with drawn := w.drawn + 1 }) : WpN P (.region id ops true) Q a w :=
 OpsN.draw fun t => by
  simp only [Region.schedule, hm, Bool.true_or, if_true, Region.linearise]
  rw [hn] at h ⊢
  exact AnyT.sound n t _ a _ h
theorem step_comm {i : Nat} {rest : List Nat} {o : Oper} {cases : Array CommCase} {blocking : Bool} {shape : CommShape} {w' : World} {b : Frame} {k : List Item} {cs : List Frame} (ho : ops[i]? = some o) (hw : Region.wanted o (yielded ops a.tmps) = true)
  (hk : b.kind ≠ .early) (hr : (execOp a.eval o).run P w = .ok (.comm cases blocking shape) w') :
  ∃ es, stepG P true (G (b.at a (.inRegion ops (i :: rest) :: k)) cs) w = .comm (G (b.at a (.inRegion ops (i :: rest) :: k)) cs) cases blocking shape w' es := ⟨_, stepG_comm ho hw hk hr⟩
theorem OpsN.send {i : Nat} {rest : List Nat} {o : Oper} {c cap s r : Nat} {buf : Array Value} {v z : Value} {tm : Bool} {w' : World} (ho : ops[i]? = some o) (hw : Region.wanted o (yielded ops a.tmps) = true)
  (hr : (execOp a.eval o).run P w = .ok (.comm #[scase c v z] true .send) w') (hc : w'.heap[c]? = some (.chan cap buf false s r tm)) (hroom : buf.size < cap)
  (h : OpsN P ops Q rest (a.put o.dst undef) (w'.setChan c cap (buf.push v) false (s + 1) r tm)) : OpsN P ops Q (i :: rest) a w := by
 intro b hb k cs
 obtain ⟨e, a', w2, q, hs⟩ := h b hb k cs
 obtain ⟨es, hg⟩ := step_comm (P := P) (rest := rest) (k := k) (cs := cs) ho hw hb hr
 have h1 := step_lone_send_room hg hc hroom
 have hfin : (b.at a (.inRegion ops (i :: rest) :: k)).finish undef = b.at (a.put o.dst undef) (.inRegion ops rest :: k) := by rw [Frame.finish_at, ho]; rfl
 rw [hfin] at h1
 exact ⟨e, a', w2, q, .of_steps (.one h1) hs⟩
theorem OpsN.recv {i : Nat} {rest : List Nat} {o : Oper} {c cap s r : Nat} {buf : Array Value} {z : Value} {tm closed ok : Bool} {w' : World} (ho : ops[i]? = some o) (hw : Region.wanted o (yielded ops a.tmps) = true)
  (hr : (execOp a.eval o).run P w = .ok (.comm #[rcase c z] true (.recv ok)) w') (hc : w'.heap[c]? = some (.chan cap buf closed s r tm)) (hsome : 0 < buf.size)
  (h : OpsN P ops Q rest (a.put o.dst (got ok (buf.getD 0 undef) true)) (w'.setChan c cap (buf.extract 1 buf.size) closed s (r + 1) tm)) : OpsN P ops Q (i :: rest) a w := by
 intro b hb k cs
 obtain ⟨e, a', w2, q, hs⟩ := h b hb k cs
 obtain ⟨es, hg⟩ := step_comm (P := P) (rest := rest) (k := k) (cs := cs) ho hw hb hr
 have h1 := step_lone_recv_buf ok hg hc hsome
 have hfin : (b.at a (.inRegion ops (i :: rest) :: k)).finish (got ok (buf.getD 0 undef) true) = b.at (a.put o.dst (got ok (buf.getD 0 undef) true)) (.inRegion ops rest :: k) := by rw [Frame.finish_at, ho]; rfl
 rw [hfin] at h1
 exact ⟨e, a', w2, q, .of_steps (.one h1) hs⟩
theorem OpsN.shut {i : Nat} {rest : List Nat} {o : Oper} {c cap s r : Nat} {z : Value} {tm ok : Bool} {w' : World} (ho : ops[i]? = some o) (hw : Region.wanted o (yielded ops a.tmps) = true)
  (hr : (execOp a.eval o).run P w = .ok (.comm #[rcase c z] true (.recv ok)) w') (hc : w'.heap[c]? = some (.chan cap #[] true s r tm))
  (h : OpsN P ops Q rest (a.put o.dst (got ok z false)) w') : OpsN P ops Q (i :: rest) a w := by
 intro b hb k cs
 obtain ⟨e, a', w2, q, hs⟩ := h b hb k cs
 obtain ⟨es, hg⟩ := step_comm (P := P) (rest := rest) (k := k) (cs := cs) ho hw hb hr
 have h1 := step_lone_recv_shut ok hg hc
 have hfin : (b.at a (.inRegion ops (i :: rest) :: k)).finish (got ok z false) = b.at (a.put o.dst (got ok z false)) (.inRegion ops rest :: k) := by rw [Frame.finish_at, ho]; rfl
 rw [hfin] at h1
 exact ⟨e, a', w2, q, .of_steps (.one h1) hs⟩
theorem OpsN.take {i : Nat} {rest : List Nat} {o : Oper} {c cap s r : Nat} {x z : Value} {xs : List Value} {tm closed : Bool} {w' : World} (ho : ops[i]? = some o) (hw : Region.wanted o (yielded ops a.tmps) = true)
  (hr : (execOp a.eval o).run P w = .ok (.comm #[rcase c z] true (.recv true)) w') (hc : w'.heap[c]? = some (.chan cap (x :: xs).toArray closed s r tm))
  (h : OpsN P ops Q rest (a.put o.dst (.tuple #[x, .bool true])) (w'.setChan c cap xs.toArray closed s (r + 1) tm)) : OpsN P ops Q (i :: rest) a w := by
 refine OpsN.recv (ok := true) ho hw hr hc (by simp) ?_
 have e1 : got true ((x :: xs).toArray.getD 0 undef) true = .tuple #[x, .bool true] := by simp [got, Array.getD]
 have e2 : (x :: xs).toArray.extract 1 (x :: xs).toArray.size = xs.toArray := by simp
 rw [e1, e2]
 exact h
theorem OpsN.over {i : Nat} {rest : List Nat} {o : Oper} {c cap s r : Nat} {z : Value} {tm : Bool} {w' : World} (ho : ops[i]? = some o) (hw : Region.wanted o (yielded ops a.tmps) = true)
  (hr : (execOp a.eval o).run P w = .ok (.comm #[rcase c z] true (.recv true)) w') (hc : w'.heap[c]? = some (.chan cap #[] true s r tm))
  (h : OpsN P ops Q rest (a.put o.dst (.tuple #[z, .bool false])) w') : OpsN P ops Q (i :: rest) a w := OpsN.shut (ok := true) ho hw hr hc h
theorem WpN.seqN {x y : Code} (h : WpN P x (Exit.then (WpN P y Q) Q) a w) : WpN P (.seq x y) Q a w := by
 intro b hb k cs
 obtain ⟨e, a', w', hq, harr⟩ := h b hb (.code y :: k) cs
 cases e with
 | normal =>
  obtain ⟨e2, a2, w2, hq2, harr2⟩ := hq b hb k cs
  exact ⟨e2, a2, w2, hq2, .of_steps (.one step_seq) (.of_steps harr harr2)⟩
 | exit _ | goto _ | ret | panic _ | outgrown => exact ⟨_, a', w', hq, .of_steps (.one step_seq) (Arrives.pass (x := .code y) rfl (fun _ _ => .inl (by simp)) harr)⟩
theorem WpN.seq {x y : Code} (h : x.wp P (Exit.then (WpN P y Q) Q) a w) : WpN P (.seq x y) Q a w := WpN.seqN (WpN.of h)
theorem WpN.cond {c : Operand} {x y : Code} {t : Bool} (hc : a.eval c = .bool t) (h : WpN P (if t then x else y) Q a w) : WpN P (.cond c x y) Q a w :=
 fun b hb k cs => let ⟨e, a', w', q, r⟩ := h b hb k cs; ⟨e, a', w', q, .of_steps (.one (step_cond hc)) r⟩
theorem WpN.block {c : Code} (h : WpN P c (Exit.inBlock id Q) a w) : WpN P (.block id c) Q a w := by
 intro b hb k cs
 obtain ⟨e, a₁, w₁, hq, harr⟩ := h b hb (.inBlock id :: k) cs
 cases e with
 | normal => exact ⟨.normal, a₁, w₁, hq, .head step_block (Steps.trans harr (.one step_inBlock))⟩
 | exit id' =>
  by_cases hid : id' = id
  ·simp only [Exit.inBlock, hid, if_true] at hq
   exact ⟨.normal, a₁, w₁, hq, .head step_block (harr k (by simp [exitTo, hid]))⟩
  ·simp only [Exit.inBlock, hid, if_false] at hq
   refine ⟨.exit id', a₁, w₁, hq, fun k' hk => .head step_block (harr k' ?_)⟩
   have : (id == id') = false := by simp; exact fun h => hid h.symm
   simp [exitTo, this, hk]
 | goto l => exact ⟨_, a₁, w₁, hq, fun k' hk => .head step_block (harr k' (by simp [gotoIn, hk]))⟩
 | ret => exact ⟨_, a₁, w₁, hq, .of_steps (.one step_block) harr⟩
 | panic ch => exact ⟨_, a₁, w₁, hq, .of_steps (.one step_block) harr⟩
 | outgrown => exact ⟨_, a₁, w₁, hq, .of_steps (b := b) (k := k) (cs := cs) (e := .outgrown) (.one step_block) harr⟩
theorem WpN.loop {c : Code} (I : Act → World → Prop) (μ : Act → World → Nat) (h₀ : I a w)
  (round : ∀ a w, I a w → WpN P c (Exit.then (fun a' w' => I a' w' ∧ μ a' w' < μ a w) Q) a w) : WpN P (.loop c) Q a w := by
 intro b hb k cs
 have key : ∀ n a w, μ a w = n → I a w →
   ∃ e a' w', Q e a' w' ∧ Arrives P (lone (b.at a (.code c :: .inLoop c :: k)) cs w) b k cs e a' w' := by
  intro n
  induction n using Nat.strongRecOn with
  | _ n ih =>
   intro a w hn hI
   obtain ⟨e, a₁, w₁, hq, harr⟩ := round a w hI b hb (.inLoop c :: k) cs
   cases e with
   | normal =>
    obtain ⟨hI₁, hlt⟩ := hq
    obtain ⟨e₂, a₂, w₂, hq₂, harr₂⟩ := ih (μ a₁ w₁) (hn ▸ hlt) a₁ w₁ rfl hI₁
    exact ⟨e₂, a₂, w₂, hq₂, .of_steps (Steps.trans harr (.one step_inLoop)) harr₂⟩
   | exit id => exact ⟨_, a₁, w₁, hq, .pass (x := .inLoop c) rfl (fun _ _ => .inl (by simp)) harr⟩
   | goto l => exact ⟨_, a₁, w₁, hq, .pass (x := .inLoop c) rfl (fun _ _ => .inl (by simp)) harr⟩
   | ret => exact ⟨_, a₁, w₁, hq, .pass (x := .inLoop c) rfl (fun _ _ => .inl (by simp)) harr⟩
   | panic ch => exact ⟨_, a₁, w₁, hq, .pass (x := .inLoop c) rfl (fun _ _ => .inl (by simp)) harr⟩
   | outgrown => exact ⟨_, a₁, w₁, hq, .pass (x := .inLoop c) rfl (fun _ _ => .inl (by simp)) harr⟩
 obtain ⟨e, a', w', hq, harr⟩ := key _ a w rfl h₀
 exact ⟨e, a', w', hq, .of_steps (.one step_loop) harr⟩
end
section
variable {P : Program} {ops pop : Array Oper} {Q : Exit → Act → World → Prop} {K : Act → World → Prop}
end
end Go.Proofs.Ytjkikkgpenhbgaa.Comm
