import Derived.Test.YtnhdnkeiijiiaaaGreatA1
import Derived.OrdersIn
import Derived.TacticsIn
import Derived.RangeFuncNested
import Derived.RangeFuncBound
import Derived.RangeFuncCalls
import Derived.RangeFuncLeaves
import Derived.RangeFuncBox
import Derived.Shelf.Abstract
import Derived.Shelf.RegionOpen
import Derived.WalkKit
import Derived.OwnWalkIn
import Derived.TacticsInMore
import Derived.LoopNIn
import Derived.LoopIn
import Derived.RegionIn
import Derived.Maps.AppendAt
import Derived.Stop.RegionWithIn
import Derived.Outline
import Derived.Deep.LoopGhost
import Derived.BigRegion
/- A region that draws its order, inside a fence: what only reads may be taken first where one condition on the world is held up. -/
namespace Go.Proofs.YtnhdnkeiijiiaaaGreat

section
variable {F : Fence} {n : Nat} {P : Program} {ops : Array Oper} {Q : Exit → Act → World → Prop} {md : Region.Mode} {S : World → Prop} {ws : List Nat}

/-- what the region's operations do is what they do outside of a round: none is a deferral -/
def PlainOps (F : Fence) (ops : Array Oper) : Prop := ∀ (j : Nat) (o : Oper), ops[j]? = some o → ∀ ρ, o.semAt F.round ρ = execOp ρ o
def noDeferB (ops : Array Oper) : Bool := ops.all fun o => match o.op with | .defer _ => false | _ => true
theorem plainOps_none (h : F.round = none) : PlainOps F ops := fun j o _ ρ => by rw [h, Oper.semAt_none]
theorem plainOps_some {l : Nat} (h : F.round = some l) (hd : noDeferB ops = true) : PlainOps F ops := fun j o ho ρ => by
  rw [h]
  refine Oper.semAt_some l ρ o fun c hc => ?_
  have := Array.all_eq_true.1 hd j (Array.getElem?_eq_some_iff.1 ho).1
  rw [(Array.getElem?_eq_some_iff.1 ho).2, hc] at this
  cases this

/-- in every world of S the operation hands over v, leaves the world, and is about to call nobody -/
def Gives (F : Fence) (P : Program) (ops : Array Oper) (S : World → Prop) (o : Oper) (v : Value) (a : Act) : Prop :=
  ((Region.wanted o (yielded ops a.tmps) = true ∧ ∀ w, S w → (execOp a.eval o).run P w = .ok (.value v) w) ∨
   (Region.wanted o (yielded ops a.tmps) = false ∧ v = undef)) ∧ ∀ w, S w → ∀ f, o.about P w a.eval = some f → F.fn f

theorem Gives.here {i : Nat} {o : Oper} {v : Value} {a : Act} (hp : PlainOps F ops) (hi : ops[i]? = some o) (hy : Gives F P ops S o v a) {K : Act → World → Prop} {w : World} (hS : S w) (h : K (a.put o.dst v) w) : wpOpIn F n P ops Q i K a w := by
  unfold wpOpIn
  simp only [hi]
  obtain ⟨hv, hab⟩ := hy
  rcases hv with ⟨hw, hv⟩ | ⟨hw, rfl⟩
  · simp only [hw, if_true, Oper.wpIn, hp i o hi, hv w hS, Oper.uponIn]
    exact ⟨hab w hS, h⟩
  · simp only [hw, Bool.false_eq_true, if_false]
    exact ⟨hab w hS, h⟩

theorem Gives.same {o : Oper} {v : Value} {a a' : Act} (hy : Gives F P ops S o v a) (he : execOp a'.eval o = execOp a.eval o)
    (hw : Region.wanted o (yielded ops a'.tmps) = Region.wanted o (yielded ops a.tmps)) (hb : ∀ w, o.about P w a'.eval = o.about P w a.eval) : Gives F P ops S o v a' := by
  unfold Gives at *
  rw [he, hw]
  exact ⟨hy.1, fun w hS => by rw [hb w]; exact hy.2 w hS⟩

theorem over_put {j : Nat} {oi oj : Oper} {v : Value} (hp : PlainOps F ops) (hj : ops[j]? = some oj) (hap : oi.apart ops oj = true)
    (hsi : ∀ cs b, oi.op ≠ .select cs b) (hsj : ∀ cs b, oj.op ≠ .select cs b)
    (hQ : ∀ c a w, Q (.panic c) (a.put oi.dst v) w → Q (.panic c) a w) {K : Act → World → Prop} {a : Act} {w : World}
    (hy : Gives F P ops S oi v a) (h : wpOpIn F n P ops Q j K (a.put oi.dst v) w) :
    wpOpIn F n P ops Q j (fun a' w' => Gives F P ops S oi v a' ∧ K (a'.put oi.dst v) w') a w := by
  obtain ⟨h1, h2, h3⟩ := Oper.apart_spec hap
  have keep : ∀ (a : Act), Gives F P ops S oi v a → ∀ u, Gives F P ops S oi v (a.put oj.dst u) := fun a hy u =>
    hy.same (execOp_put oi hsi a oj.dst u h3) (wanted_put oi a oj.dst u h3) (fun w => about_put oi w a oj.dst u h3)
  have keepD : ∀ d, Gives F P ops S oi v { a with defers := d :: a.defers } := fun d => hy.same rfl rfl (fun _ => rfl)
  unfold wpOpIn at *
  simp only [hj] at h ⊢
  rw [wanted_put oj a oi.dst v h1, about_put oj w a oi.dst v h1] at h
  by_cases hw : Region.wanted oj (yielded ops a.tmps) = true
  · simp only [hw, if_true] at h ⊢
    unfold Oper.wpIn at *
    rw [about_put oj w a oi.dst v h1] at h
    refine ⟨h.1, ?_⟩
    replace h := h.2
    rw [hp j oj hj, execOp_put oj hsj a oi.dst v h1] at h
    rw [hp j oj hj]
    generalize (execOp a.eval oj).run P w = r at *
    cases r with
    | ok x w' =>
      cases x <;> simp only [Oper.uponIn] at h ⊢
      case value u => exact ⟨keep a hy u, by rw [← Act.put_comm a v u h2]; exact h⟩
      case skip => exact ⟨keep a hy _, by rw [← Act.put_comm a v undef h2]; exact h⟩
      case defer d => exact ⟨keep _ (keepD d) _, by rw [← Act.put_comm _ v undef h2, ← Act.put_defers]; exact h⟩
      case enter f args =>
        refine ⟨h.1, h.2.mono fun e w'' he => ?_⟩
        cases e with
        | returned u => exact ⟨keep a hy u, by rw [← Act.put_comm a v u h2]; exact he⟩
        | panicked c => exact hQ _ _ _ he
        | outgrown => exact he
      case row row args => exact ⟨h.1, h.2.mono fun u w'' he => ⟨keep a hy u, by rw [← Act.put_comm a v u h2]; exact he⟩⟩
      case round l f tmps assign body =>
        refine ⟨h.1, h.2.mono fun e w'' he => ?_⟩
        cases e with
        | returned u => exact ⟨keep a hy u, by rw [← Act.put_comm a v u h2]; exact he⟩
        | panicked c => exact hQ _ _ _ he
        | outgrown => exact he
    | halt x w' =>
      cases x <;> simp only [Oper.uponIn] at h ⊢
      case panic u => exact hQ _ _ _ h
  · simp only [hw] at h ⊢
    exact ⟨h.1, keep a hy _, by rw [← Act.put_comm a v undef h2]; exact h.2⟩

/-- operation j waits for i, at some removes -/
inductive Dep (md : Region.Mode) (ops : Array Oper) : Nat → Nat → Prop
  | here {j : Nat} {o : Oper} {e : Edge} (ho : ops[j]? = some o) (he : e ∈ o.after) (hb : Region.binds md e = true) : Dep md ops j e.on
  | far {j i : Nat} {o : Oper} {e : Edge} (ho : ops[j]? = some o) (he : e ∈ o.after) (hb : Region.binds md e = true) (h : Dep md ops e.on i) : Dep md ops j i
/-- for each of the first n operations, whom it waits for, as the bits of a number -/
def masks (md : Region.Mode) (ops : Array Oper) : Nat → List Nat
  | 0 => []
  | n + 1 => masks md ops n ++ [match ops[n]? with
    | some o => o.after.toList.foldl (fun m e => if Region.binds md e then m ||| 2 ^ e.on ||| (masks md ops n).getD e.on 0 else m) 0
    | none => 0]
theorem masks_length (md : Region.Mode) (ops : Array Oper) : ∀ n, (masks md ops n).length = n
  | 0 => rfl
  | n + 1 => by simp [masks, masks_length md ops n]
theorem fold_bit {ms : List Nat} {i : Nat} : ∀ (l : List Edge) (m : Nat), (l.foldl (fun m e => if Region.binds md e then m ||| 2 ^ e.on ||| ms.getD e.on 0 else m) m).testBit i = true →
    m.testBit i = true ∨ ∃ e ∈ l, Region.binds md e = true ∧ (e.on = i ∨ (ms.getD e.on 0).testBit i = true)
  | [], m, h => .inl h
  | e :: l, m, h => by
    simp only [List.foldl_cons] at h
    rcases fold_bit l _ h with h1 | ⟨e', he', hb, hh⟩
    · by_cases hb : Region.binds md e = true
      · rw [if_pos hb] at h1
        simp only [Nat.testBit_or, Bool.or_eq_true] at h1
        rcases h1 with (h1 | h1) | h1
        · exact .inl h1
        · refine .inr ⟨e, by simp, hb, .inl ?_⟩
          rw [Nat.testBit_two_pow] at h1
          simpa using h1
        · exact .inr ⟨e, by simp, hb, .inr h1⟩
      · rw [if_neg hb] at h1
        exact .inl h1
    · exact .inr ⟨e', List.mem_cons_of_mem _ he', hb, hh⟩
theorem masks_dep : ∀ (n j i : Nat), ((masks md ops n).getD j 0).testBit i = true → Dep md ops j i
  | 0, j, i, h => by simp [masks] at h
  | n + 1, j, i, h => by
    unfold masks at h
    rcases Nat.lt_or_ge j n with hj | hj
    · rw [List.getD_eq_getElem?_getD, List.getElem?_append_left (by rw [masks_length]; exact hj), ← List.getD_eq_getElem?_getD] at h
      exact masks_dep n j i h
    · rw [List.getD_eq_getElem?_getD, List.getElem?_append_right (by rw [masks_length]; exact hj), masks_length, ← List.getD_eq_getElem?_getD] at h
      rcases Nat.eq_or_lt_of_le hj with rfl | hj'
      · rw [Nat.sub_self] at h
        cases ho : ops[n]? with
        | none => simp [ho] at h
        | some o =>
          simp only [ho, List.getD_cons_zero] at h
          rcases fold_bit _ _ h with h1 | ⟨e, he, hb, hh⟩
          · simp at h1
          · have he' : e ∈ o.after := by simpa using he
            rcases hh with rfl | hh
            · exact .here ho he' hb
            · exact .far ho he' hb (masks_dep n e.on i hh)
      · obtain ⟨d, hd⟩ : ∃ d, j - n = d + 1 := ⟨j - n - 1, by omega⟩
        rw [hd] at h
        simp at h
/-- operation j comes behind all of ws, whatever the order -/
def late (md : Region.Mode) (ops : Array Oper) (ws : List Nat) (j : Nat) : Bool := ws.all fun i => ((masks md ops ops.size).getD j 0).testBit i
def Closed (md : Region.Mode) (ops : Array Oper) (listed : Array Bool) : Prop :=
  ∀ j oj, ops[j]? = some oj → listed.getD j false = true → ∀ e ∈ oj.after, Region.binds md e = true → listed.getD e.on false = true
def closedB (md : Region.Mode) (ops : Array Oper) (listed : Array Bool) : Bool :=
  (List.range ops.size).all fun j => !(listed.getD j false) || (match ops[j]? with | some o => o.after.all fun e => !(Region.binds md e) || listed.getD e.on false | none => true)
theorem closed_of {listed : Array Bool} (h : closedB md ops listed = true) : Closed md ops listed := by
  intro j oj hj hl e he hb
  have h1 := List.all_eq_true.1 h j (List.mem_range.2 (Array.getElem?_eq_some_iff.1 hj).1)
  rw [hl, hj] at h1
  simp only [Bool.not_true, Bool.false_or] at h1
  have h2 := Array.all_eq_true_iff_forall_mem.1 h1 e he
  rw [hb] at h2
  simpa using h2
theorem Closed.set {listed : Array Bool} {i : Nat} (h : Closed md ops listed) (hi : i ∈ Region.ready md ops listed) : Closed md ops (listed.setIfInBounds i true) := by
  intro j oj hj hl e he hb
  obtain ⟨_, oi, hoi, hall⟩ := mem_ready.1 hi
  by_cases hij : i = j
  · subst hij
    have : oj = oi := Option.some.inj (hj.symm.trans hoi)
    subst this
    exact getD_set_true (hall e he hb)
  · rw [getD_set_ne false hij] at hl
    exact getD_set_true (h j oj hj hl e he hb)
theorem dep_listed {listed : Array Bool} (hc : Closed md ops listed) {j i : Nat} (h : Dep md ops j i) : listed.getD j false = true → listed.getD i false = true := by
  induction h with
  | here ho he hb => exact fun hj => hc _ _ ho hj _ he hb
  | far ho he hb _ ih => exact fun hj => ih (hc _ _ ho hj _ he hb)
theorem dep_ready {listed : Array Bool} (hc : Closed md ops listed) {j i : Nat} (hr : j ∈ Region.ready md ops listed) (h : Dep md ops j i) : listed.getD i false = true := by
  obtain ⟨_, oj', hoj', hall⟩ := mem_ready.1 hr
  cases h with
  | here ho he hb =>
    obtain rfl := Option.some.inj (ho.symm.trans hoj')
    exact hall _ he hb
  | far ho he hb h =>
    obtain rfl := Option.some.inj (ho.symm.trans hoj')
    exact dep_listed hc h (hall _ he hb)
theorem not_late {listed : Array Bool} (hc : Closed md ops listed) {i j : Nat} (hws : i ∈ ws) (hi : listed.getD i true = false) (hr : j ∈ Region.ready md ops listed) : late md ops ws j = false := by
  cases h : late md ops ws j with
  | false => rfl
  | true =>
    have h1 := dep_ready hc hr (masks_dep _ _ _ (List.all_eq_true.1 h i hws))
    rcases Nat.lt_or_ge i listed.size with h' | h'
    · simp [h'] at hi h1; rw [hi] at h1; cases h1
    · simp [Array.getElem?_eq_none h'] at hi
/-- whatever order is drawn from here on, S being shown anew behind each operation that may come ahead of one of ws -/
def AnyHeld (ws : List Nat) (F : Fence) (n : Nat) (P : Program) (md : Region.Mode) (ops : Array Oper) (Q : Exit → Act → World → Prop) (S : World → Prop) : Nat → Array Bool → Act → World → Prop
  | 0, listed, a, w => Region.ready md ops listed = [] ∧ Q .normal a w
  | fuel + 1, listed, a, w =>
    (Region.ready md ops listed = [] → Q .normal a w) ∧
    ∀ i ∈ Region.ready md ops listed, wpOpIn F n P ops Q i (fun a' w' => (late md ops ws i = false → S w') ∧ AnyHeld ws F n P md ops Q S fuel (listed.setIfInBounds i true) a' w') a w

theorem any_of_held : ∀ (fuel : Nat) (listed : Array Bool) (a : Act) (w : World), AnyHeld ws F n P md ops Q S fuel listed a w → wpAnyIn F n P md ops Q fuel listed a w
  | 0, _, _, _, h => h
  | fuel + 1, _, _, _, h => ⟨h.1, fun i hi => wpOpIn_mono (fun a' w' h' => any_of_held fuel _ a' w' h'.2) (h.2 i hi)⟩

theorem held_first {i : Nat} {oi : Oper} {v : Value} (hws : i ∈ ws) (hp : PlainOps F ops) (hi : ops[i]? = some oi) (hsel : ∀ (j : Nat) (o : Oper) cs b, ops[j]? = some o → o.op ≠ .select cs b)
    (hQ : ∀ c a w, Q (.panic c) (a.put oi.dst v) w → Q (.panic c) a w) :
    ∀ (fuel : Nat) (listed : Array Bool) (a : Act) (w : World), Closed md ops listed →
      (∀ j oj, ops[j]? = some oj → j ≠ i → listed.getD j true = false → (∀ e ∈ oj.after, Region.binds md e = true → e.on ≠ i) → oi.apart ops oj = true) →
      i ∈ Region.ready md ops listed → Gives F P ops S oi v a → S w →
      AnyHeld ws F n P md ops Q S fuel (listed.setIfInBounds i true) (a.put oi.dst v) w → AnyHeld ws F n P md ops Q S (fuel + 1) listed a w
  | 0, listed, a, w, _, _, hr, hy, hS, H => by
    refine ⟨fun h => (by rw [h] at hr; cases hr), fun j hj => ?_⟩
    by_cases hji : j = i
    · subst hji; exact hy.here hp hi hS ⟨fun _ => hS, H⟩
    · have := ready_mono hj hji
      rw [H.1] at this
      cases this
  | fuel + 1, listed, a, w, hc, hfree, hr, hy, hS, H => by
    refine ⟨fun h => (by rw [h] at hr; cases hr), fun j hj => ?_⟩
    by_cases hji : j = i
    · subst hji; exact hy.here hp hi hS ⟨fun _ => hS, H⟩
    obtain ⟨hjun, oj, hoj, hall⟩ := mem_ready.1 hj
    have hnot : ∀ e ∈ oj.after, Region.binds md e = true → e.on ≠ i := fun e he hb heq => by
      have h1 := hall e he hb
      have h0 := (mem_ready.1 hr).1
      rw [heq] at h1
      rcases Nat.lt_or_ge i listed.size with h' | h'
      · simp [h'] at h0 h1; rw [h0] at h1; cases h1
      · simp [Array.getElem?_eq_none h'] at h1
    have h2 := over_put (S := S) hp hoj (hfree j oj hoj hji hjun hnot) (fun cs b => hsel i oi cs b hi) (fun cs b => hsel j oj cs b hoj) hQ hy (H.2 j (ready_mono hj hji))
    have hl := not_late hc hws (mem_ready.1 hr).1 hj
    refine wpOpIn_mono (fun a' w' h3 => ⟨h3.2.1, held_first hws hp hi hsel hQ fuel (listed.setIfInBounds j true) a' w' (hc.set hj) (fun k ok hk hki hun hno => hfree k ok hk hki ?_ hno) (ready_mono hr (Ne.symm hji)) h3.1 (h3.2.1 hl) ?_⟩) h2
    · by_cases hjk : j = k
      · subst hjk; exact hjun
      · rwa [getD_set_ne true hjk] at hun
    · rw [Array.setIfInBounds_comm _ _ hji]
      exact h3.2.2

theorem held_take (i : Nat) (hws : i ∈ ws) {oi : Oper} {v : Value} {fuel : Nat} {listed : Array Bool} {a : Act} {w : World} (hp : PlainOps F ops) (hi : ops[i]? = some oi)
    (hs : Region.noSelect ops = true) (hf : Region.free md ops listed i = true) (hr : (Region.ready md ops listed).contains i = true)
    (hQ : ∀ c a w, Q (.panic c) (a.put oi.dst v) w → Q (.panic c) a w) (hc : closedB md ops listed = true) (hS : S w) (hy : Gives F P ops S oi v a)
    (h : AnyHeld ws F n P md ops Q S fuel (listed.setIfInBounds i true) (a.put oi.dst v) w) : AnyHeld ws F n P md ops Q S (fuel + 1) listed a w :=
  held_first hws hp hi (Region.noSelect_spec hs) hQ fuel listed a w (closed_of hc) (Region.free_spec hi hf) (by simpa using hr) hy hS h

/-- one operation alone may come up, and it comes behind all of ws -/
theorem held_one (i : Nat) {o : Oper} {fuel : Nat} {listed : Array Bool} {a : Act} {w : World} (ho : ops[i]? = some o) (hp : PlainOps F ops) (hr : Region.ready md ops listed = [i]) (hl : late md ops ws i = true) (hw : Region.wanted o (yielded ops a.tmps) = true)
    (h : ∀ K : Act → World → Prop, (∀ a' w', AnyHeld ws F n P md ops Q S fuel (listed.setIfInBounds i true) a' w' → K a' w') → (∀ f, o.about P w a.eval = some f → F.fn f) ∧ o.uponIn F n P a K Q ((execOp a.eval o).run P w)) : AnyHeld ws F n P md ops Q S (fuel + 1) listed a w := by
  refine ⟨fun h0 => (by rw [h0] at hr; cases hr), fun j hj => ?_⟩
  rw [hr] at hj
  obtain rfl := List.mem_singleton.1 hj
  unfold wpOpIn Oper.wpIn
  simp only [ho, hw, if_true, hp j o ho]
  exact h _ fun a' w' h' => ⟨fun h0 => (by rw [hl] at h0; cases h0), h'⟩
/-- one operation alone may come up, S is shown anew -/
theorem held_step (i : Nat) {o : Oper} {fuel : Nat} {listed : Array Bool} {a : Act} {w : World} (ho : ops[i]? = some o) (hp : PlainOps F ops) (hr : Region.ready md ops listed = [i]) (hw : Region.wanted o (yielded ops a.tmps) = true)
    (h : ∀ K : Act → World → Prop, (∀ a' w', S w' → AnyHeld ws F n P md ops Q S fuel (listed.setIfInBounds i true) a' w' → K a' w') → (∀ f, o.about P w a.eval = some f → F.fn f) ∧ o.uponIn F n P a K Q ((execOp a.eval o).run P w)) : AnyHeld ws F n P md ops Q S (fuel + 1) listed a w := by
  refine ⟨fun h0 => (by rw [h0] at hr; cases hr), fun j hj => ?_⟩
  rw [hr] at hj
  obtain rfl := List.mem_singleton.1 hj
  unfold wpOpIn Oper.wpIn
  simp only [ho, hw, if_true, hp j o ho]
  exact h _ fun a' w' hs h' => ⟨fun _ => hs, h'⟩
/-- two operations may come up, either way round -/
theorem held_both (i j : Nat) {oi oj : Oper} {fuel : Nat} {listed : Array Bool} {a : Act} {w : World} (hoi : ops[i]? = some oi) (hoj : ops[j]? = some oj) (hp : PlainOps F ops) (hr : Region.ready md ops listed = [i, j])
    (hwi : Region.wanted oi (yielded ops a.tmps) = true) (hwj : Region.wanted oj (yielded ops a.tmps) = true)
    (hi : ∀ K : Act → World → Prop, (∀ a' w', (late md ops ws i = false → S w') → AnyHeld ws F n P md ops Q S fuel (listed.setIfInBounds i true) a' w' → K a' w') → (∀ f, oi.about P w a.eval = some f → F.fn f) ∧ oi.uponIn F n P a K Q ((execOp a.eval oi).run P w))
    (hj : ∀ K : Act → World → Prop, (∀ a' w', (late md ops ws j = false → S w') → AnyHeld ws F n P md ops Q S fuel (listed.setIfInBounds j true) a' w' → K a' w') → (∀ f, oj.about P w a.eval = some f → F.fn f) ∧ oj.uponIn F n P a K Q ((execOp a.eval oj).run P w)) : AnyHeld ws F n P md ops Q S (fuel + 1) listed a w := by
  refine ⟨fun h0 => (by rw [h0] at hr; cases hr), fun k hk => ?_⟩
  rw [hr] at hk
  rcases List.mem_cons.1 hk with rfl | hk
  · unfold wpOpIn Oper.wpIn
    simp only [hoi, hwi, if_true, hp _ oi hoi]
    exact hi _ fun a' w' hs h' => ⟨hs, h'⟩
  · obtain rfl := List.mem_singleton.1 hk
    unfold wpOpIn Oper.wpIn
    simp only [hoj, hwj, if_true, hp _ oj hoj]
    exact hj _ fun a' w' hs h' => ⟨hs, h'⟩
theorem held_done {listed : Array Bool} {a : Act} {w : World} (hr : Region.ready md ops listed = []) (h : Q .normal a w) :
    ∀ fuel, AnyHeld ws F n P md ops Q S fuel listed a w
  | 0 => ⟨hr, h⟩
  | _ + 1 => ⟨fun _ => h, by rw [hr]; simp⟩
/-- Q, but a panic is ruled out -/
def Calm (Q : Exit → Act → World → Prop) : Exit → Act → World → Prop
  | .panic _, _, _ => False
  | e, a, w => Q e a w
theorem calm_normal {a : Act} {w : World} (h : Q .normal a w) : Calm Q .normal a w := h
theorem held_end {fuel : Nat} {listed : Array Bool} {a : Act} {w : World} (hr : Region.ready md ops listed = []) (h : Q .normal a w) : AnyHeld ws F n P md ops (Calm Q) S fuel listed a w := held_done hr (calm_normal h) fuel
theorem held_begin (ws : List Nat) (S : World → Prop) {id : Nat} {a : Act} {w : World} (hm : P.follows .mixedOrders = true) (hS : S w.drew)
    (h : S w.drew → AnyHeld ws F n P .any ops (Calm Q) S ops.size (Array.replicate ops.size false) a w.drew) : (Code.region id ops true).wpIn F n P Q a w :=
  Code.wpIn_mono (Q := Calm Q) (fun e a w h => by cases e <;> first | exact h | exact (h : False).elim) (wpIn_region_any hm (any_of_held _ _ _ _ (h hS)))
end
section
variable {F : Fence} {n : Nat} {P : Program} {ops : Array Oper} {Q : Exit → Act → World → Prop} {md : Region.Mode} {S : World → Prop} {ws : List Nat}
set_option linter.defProp false in
/-- the steps of a frame's slots -/
def st {α : Type} := And.intro (@List.getElem_toArray α) (And.intro (@List.getElem_cons_succ α) (And.intro (@List.getElem_cons_zero α) (And.intro (@List.setIfInBounds_toArray α) (And.intro (@List.set_cons_zero α) (@List.set_cons_succ α)))))
/-- 'held_take', what the kernel decides being decided by itself: an operation that is carried out -/
theorem tk (i : Nat) {oi : Oper} {v : Value} {fuel : Nat} {listed : Array Bool} {a : Act} {w : World} (hp : PlainOps F ops) (hS : S w) (hi : ops[i]? = some oi) (ha : ∀ w, S w → ∀ f, oi.about P w a.eval = some f → F.fn f)
    (hy : ∀ w, S w → (execOp a.eval oi).run P w = .ok (.value v) w) (h : AnyHeld ws F n P md ops (Calm Q) S fuel (listed.setIfInBounds i true) (a.put oi.dst v) w) (hws : i ∈ ws := by decide)
    (hs : Region.noSelect ops = true := by kernel_rfl) (hf : Region.free md ops listed i = true := by kernel_rfl) (hr : (Region.ready md ops listed).contains i = true := by kernel_rfl) (hc : closedB md ops listed = true := by kernel_rfl)
    (hw : Region.wanted oi (yielded ops a.tmps) = true := by kernel_rfl) : AnyHeld ws F n P md ops (Calm Q) S (fuel + 1) listed a w :=
  held_take i hws hp hi hs hf hr (fun _ _ _ h => h) hc hS ⟨.inl ⟨hw, hy⟩, ha⟩ h
/-- the same, an operation that is passed over -/
theorem sk (i : Nat) {oi : Oper} {fuel : Nat} {listed : Array Bool} {a : Act} {w : World} (hp : PlainOps F ops) (hS : S w) (hi : ops[i]? = some oi) (ha : ∀ w, S w → ∀ f, oi.about P w a.eval = some f → F.fn f)
    (h : AnyHeld ws F n P md ops (Calm Q) S fuel (listed.setIfInBounds i true) (a.put oi.dst undef) w) (hws : i ∈ ws := by decide)
    (hs : Region.noSelect ops = true := by kernel_rfl) (hf : Region.free md ops listed i = true := by kernel_rfl) (hr : (Region.ready md ops listed).contains i = true := by kernel_rfl) (hc : closedB md ops listed = true := by kernel_rfl)
    (hw : Region.wanted oi (yielded ops a.tmps) = false := by kernel_rfl) : AnyHeld ws F n P md ops (Calm Q) S (fuel + 1) listed a w :=
  held_take i hws hp hi hs hf hr (fun _ _ _ h => h) hc hS ⟨.inr ⟨hw, rfl⟩, ha⟩ h
end
end Go.Proofs.YtnhdnkeiijiiaaaGreat
namespace Go.Proofs.YtnhdnkeiijiiaaaGreat
open Go.RowKit Go.Shelf
set_option linter.unusedSimpArgs false
set_option linter.unusedVariables false
attribute [local go_sem] Oper.semAt_some

/-- the cells of a point at a place -/
def PtAt (w : World) (b o : Nat) (p : Pt) : Prop := w.cell? ⟨b, o, none⟩ = some (.int .i64 p.x) ∧ w.cell? ⟨b, o + 1, none⟩ = some (.int .i64 p.y)
theorem PtAt.upto {n : Nat} {w w' : World} {b o : Nat} {p : Pt} (h : PtAt w b o p) (hb : Below n w w') (hlt : b < n) : PtAt w' b o p :=
  ⟨(hb.cell (p := ⟨b, o, none⟩) hlt).trans h.1, (hb.cell (p := ⟨b, o + 1, none⟩) hlt).trans h.2⟩
/-- a slice of points, in blocks below n₀ -/
def Pts? (n₀ : Nat) (w : World) (A : Option Addr) (xs : List Pt) : Prop :=
  0 < xs.length → ∃ b off, A = some ⟨b, off, none⟩ ∧ b < n₀ ∧ ∀ i p, xs[i]? = some p → PtAt w b (off + i * 2) p
theorem Pts?.upto {n₀ : Nat} {w w' : World} {A : Option Addr} {xs : List Pt} (h : Pts? n₀ w A xs) (hb : Below n₀ w w') : Pts? n₀ w' A xs := fun hn => by
  obtain ⟨b, off, e, hlt, hc⟩ := h hn
  exact ⟨b, off, e, hlt, fun i r hr => (hc i r hr).upto hb hlt⟩
theorem Pts?.mono {n₀ n₁ : Nat} {w : World} {A : Option Addr} {xs : List Pt} (h : Pts? n₀ w A xs) (hn : n₀ ≤ n₁) : Pts? n₁ w A xs := fun hx => by
  obtain ⟨b, off, e, hlt, hc⟩ := h hx
  exact ⟨b, off, e, by omega, hc⟩
/-- the sides of a polygon -/
def sidesL (xs : List Pt) : List (Pt × Pt) := (List.range xs.length).map fun i => (xs.getD i default, xs.getD ((i + 1) % xs.length) default)
theorem sides_length (xs : List Pt) : (sidesL xs).length = xs.length := by simp [sidesL]
theorem sides_take_succ0 {xs : List Pt} {k : Nat} (hk : k < xs.length) : (sidesL xs).take (k + 1) = (sidesL xs).take k ++ [(xs.getD k default, xs.getD ((k + 1) % xs.length) default)] := by
  have h : (sidesL xs)[k]? = some (xs.getD k default, xs.getD ((k + 1) % xs.length) default) := by
    simp [sidesL, hk]
  rw [List.take_add_one, h]; rfl
/-- a side of xs -/
abbrev Sd (xs : List Pt) := { s : Pt × Pt // s ∈ sidesL xs }
theorem sides_at {xs : List Pt} {k : Nat} (hk : k < xs.length) : (sidesL xs)[k]? = some (xs.getD k default, xs.getD ((k + 1) % xs.length) default) := by
  simp [sidesL, hk]
theorem sides_take_succ {xs : List Pt} {k : Nat} (hk : k < xs.length) : (sidesL xs).attach.take (k + 1) = (sidesL xs).attach.take k ++ [⟨(xs.getD k default, xs.getD ((k + 1) % xs.length) default), List.mem_of_getElem? (sides_at hk)⟩] := by
  have h : (sidesL xs).attach[k]? = some ⟨(xs.getD k default, xs.getD ((k + 1) % xs.length) default), List.mem_of_getElem? (sides_at hk)⟩ := by
    rw [List.getElem?_attach]
    have h1 := sides_at hk
    simp only [h1, Option.pmap_some]
  rw [List.take_add_one, h]; rfl
theorem sides_mem {xs : List Pt} {s : Pt × Pt} (h : s ∈ sidesL xs) : s.1 ∈ xs ∧ s.2 ∈ xs := by
  unfold sidesL at h
  obtain ⟨i, hi, rfl⟩ := List.mem_map.1 h
  rw [List.mem_range] at hi
  have hj : (i + 1) % xs.length < xs.length := Nat.mod_lt _ (by omega)
  refine ⟨?_, ?_⟩
  · show xs.getD i default ∈ xs
    rw [List.getD_eq_getElem?_getD, List.getElem?_eq_getElem hi]; exact List.getElem_mem _
  · show xs.getD ((i + 1) % xs.length) default ∈ xs
    rw [List.getD_eq_getElem?_getD, List.getElem?_eq_getElem hj]; exact List.getElem_mem _
theorem sides_step {xs : List Pt} {k len : Nat} (hl : xs.length = len) (hk : k < len) : ∃ (p q : Pt) (hm : (p, q) ∈ sidesL xs), xs[k]? = some p ∧ xs[(k + 1) % len]? = some q ∧ (sidesL xs).attach.take (k + 1) = (sidesL xs).attach.take k ++ [⟨(p, q), hm⟩] := by
  subst hl
  have hj : (k + 1) % xs.length < xs.length := Nat.mod_lt _ (by omega)
  exact ⟨_, _, _, by rw [List.getD_eq_getElem?_getD, List.getElem?_eq_getElem hk]; rfl, by rw [List.getD_eq_getElem?_getD, List.getElem?_eq_getElem hj]; rfl, sides_take_succ hk⟩
/-- whatever is cells of a point or of a slice of points lies as it lay -/
def KeepT (W W' : World) : Prop := ∀ (k : Nat) (cs : Array Value) (t : TypeId) (z : Nat × Nat), (t = 23 ∨ t = 39) → W.heap[k]? = some (Obj.cells cs t z) → W'.heap[k]? = some (Obj.cells cs t z)
theorem KeepT.refl (W : World) : KeepT W W := fun _ _ _ _ _ h => h
theorem KeepT.trans {A B C : World} (h : KeepT A B) (k : KeepT B C) : KeepT A C := fun i cs t z ht e => k i cs t z ht (h i cs t z ht e)
theorem KeepT.below {W W' : World} (h : Below W.heap.size W W') : KeepT W W' := fun k cs t z _ e => (h.block k (Array.getElem?_eq_some_iff.1 e).1).trans e
theorem KeepT.grown {W W' : World} {row : Option Nat} (hg : W.grownBy W' row) (hr : ∀ k, row = some k → ∀ (cs : Array Value) (t : TypeId) (z : Nat × Nat), (t = 23 ∨ t = 39) → W.heap[k]? ≠ some (Obj.cells cs t z)) : KeepT W W' := fun k cs t z ht e =>
  (hg.block k (Array.getElem?_eq_some_iff.1 e).1 (fun e' => hr k e'.symm cs t z ht e)).trans e
def Kp2 (n₀ : Nat) (W W' : World) : Prop := Below n₀ W W' ∧ KeepT W W'
theorem kp2_t {n₀ : Nat} {A B C : World} (h : Kp2 n₀ A B) (k : Kp2 n₀ B C) : Kp2 n₀ A C := ⟨h.1.trans k.1, h.2.trans k.2⟩
theorem kp2_b {n₀ : Nat} {w : World} (hn : n₀ ≤ w.heap.size) (W : World) (l : Nat) (o o' : Obj) (hl : w.heap.size ≤ l) (h : W.heap[l]? = some o) (hc : o.isCells = false) (hk : o.isWalk = false) : Kp2 n₀ W (W.putObj l o') :=
  ⟨belowK_b hn W l o o' hl h hc hk, KeepT.grown (grownBy_putObj' W l o') (fun k e cs t z _ e' => by cases e; rw [h] at e'; cases e'; cases hc)⟩
theorem grownBy_drew (W : World) : W.grownBy W.drew none := ⟨rfl, rfl, rfl, Nat.le_refl _, fun _ _ _ => rfl⟩
set_option maxRecDepth 100000 in
set_option maxHeartbeats 2000000 in
theorem hsides1_in (F : Fence) (n : Nat) (hf : F.fn 83) (hro : F.round = none) (hn : 1 ≤ n) (l Bs n₀ : Nat) (A : Option Addr) (len cap : Nat) (xs : List Pt) (hxs : xs.length = len) (hreach : len ≤ 1000000) (J Jx : List (Sd xs) → World → Prop)
    (W : World) (hnW : n₀ ≤ W.heap.size) (hJ : AbidesFrom W.heap.size J)
    (hY : ∀ pre x W1, J pre W1 → pre.length < len → YieldAt F (n - 1) Tryz.prog l #[x.1.1.val, x.1.2.val] W1 fun e W' =>
      (e = .returned (.bool true) ∧ J (pre ++ [x]) W' ∧ Kp2 n₀ W1 W') ∨ (e = .returned (.bool false) ∧ Jx (pre ++ [x]) W'))
    (hB0 : W.heap[Bs]? = some (.cells #[.slice A len cap] 39 (0, 0))) (hc : Pts? n₀ W A xs) (h0 : J [] W) :
    CallsIn F n Tryz.prog 83 #[.func (.yield l) #[] #[], .pointer (some ⟨Bs, 0, none⟩)] W fun e W' => (∃ v, e = .returned v) ∧
      ((∃ ys, ys = (sidesL xs).attach ∧ J ys W') ∨ (∃ pre, pre <+: (sidesL xs).attach ∧ Jx pre W')) := by
  have hBs : W.cell? ⟨Bs, 0, none⟩ = some (.slice A len cap) := by simp [World.cell?, hB0]
  refine callsIn_of_wp Tryz.func83 rfl hf ?_ hro
  simp only [Tryz.ntmps83, List.size_toArray, List.length_cons, List.length_nil, Nat.reduceAdd, Nat.reduceSub, Array.replicate_succ, Array.replicate_zero, List.push_toArray, List.append_toArray, List.nil_append, List.cons_append]
  gi_wp2
  gi_loopw [7] (fun s7 wr => ∃ k : Nat, k ≤ len ∧ s7 = .int .i64 k ∧ J ((sidesL xs).attach.take k) wr ∧ Below n₀ W wr ∧ wr.heap[Bs]? = some (.cells #[.slice A len cap] 39 (0, 0)))
    (fun s7 _ => len - (intOf s7).toNat)
  case atStart => exact ⟨0, Nat.zero_le _, rfl, by simpa using h0, Below.refl _ _, hB0⟩
  case round =>
    obtain ⟨k, hk, rfl, hJs, hnx, hBw⟩ := hrel
    by_cases hlt : k < len
    · obtain ⟨b, off, rfl, hb, hcs⟩ := hc (by omega)
      have hjl : (k + 1) % len < len := Nat.mod_lt _ (by omega)
      have hj : ((k : Int) + 1).tmod (len : Int) = (((k + 1) % len : Nat) : Int) := by
        rw [Int.tmod_eq_emod_of_nonneg (by omega)]; simp
      obtain ⟨p, q, hmem, hkv, hjv, hts⟩ := sides_step hxs hlt
      generalize (k + 1) % len = j at *
      obtain ⟨c0, c1⟩ := (hcs k p hkv).upto hnx hb
      obtain ⟨d0, d1⟩ := (hcs j q hjv).upto hnx hb
      have hlt2 : (k : Int) < (len : Int) := by omega
      have hj2 : (j : Int) < (len : Int) := by omega
      have hj3 : (0 : Int) ≤ (j : Int) := by omega
      have hn0 : ¬ ((len : Int) = 0) := by omega
      have hn2 : ¬ (len = 0) := by omega
      have hn1 : ((len : Int) == 0) = false := by simp; omega
      have hblt := (Array.getElem?_eq_some_iff.1 hBw).1
      have eB : wr.cell? ⟨Bs, 0, none⟩ = some (.slice (some ⟨b, off, none⟩) len cap) := by simp [World.cell?, hBw]
      have hJa : J ((sidesL xs).attach.take k) (wr.alloc (.cells #[.int .i64 p.x, .int .i64 p.y] 23)).drew := hJ _ _ _ none (hJ _ _ _ none hJs (World.grownBy_alloc wr _ none) (fun r e => by cases e)) (grownBy_drew _) (fun r e => by cases e)
      obtain ⟨fn, tmps, assign, body, hy, hR⟩ := hY _ ⟨(p, q), hmem⟩ _ hJa (by rw [List.length_take, List.length_attach, sides_length]; omega)
      dsimp only at hy
      clear hJs hkv hjv hcs
      have HT := Lib.hid hts
      clear hts
      have hR2 := hR.mono (R' := fun e W' => ∃ c : Bool, e = .returned (.bool c) ∧ Aside ((c = true → J ((sidesL xs).attach.take k ++ [⟨(p, q), hmem⟩]) W' ∧ Kp2 n₀ (wr.alloc (.cells #[.int .i64 p.x, .int .i64 p.y] 23)).drew W') ∧ (c = false → Jx ((sidesL xs).attach.take k ++ [⟨(p, q), hmem⟩]) W'))) (by
        rintro e W' (⟨rfl, h1, h2⟩ | ⟨rfl, h1⟩)
        · exact ⟨true, rfl, fun _ => ⟨h1, h2⟩, fun h => by cases h⟩
        · exact ⟨false, rfl, fun h => (by cases h), fun _ => h1⟩)
      clear hR hJa
      gi_wp2
      have hwr0 : IntKind.i64.wrap ((k : Int) + 1) = (k : Int) + 1 := IntWalk.i64_in _ (by omega)
      have hwr1 : IntKind.i64.wrap (j : Int) = (j : Int) := IntWalk.i64_in _ (by omega)
      have hp : ∀ ops, PlainOps F ops := fun ops => plainOps_none hro
      have eBz : (wr.alloc (.cells #[.int .i64 p.x, .int .i64 p.y] 23)).drew.cell? ⟨Bs, 0, none⟩ = some (.slice (some ⟨b, off, none⟩) len cap) := by go_cell
      have d0z : (wr.alloc (.cells #[.int .i64 p.x, .int .i64 p.y] 23)).drew.cell? ⟨b, off + j * 2, none⟩ = some (.int .i64 q.x) := by go_cell
      have d1z : (wr.alloc (.cells #[.int .i64 p.x, .int .i64 p.y] 23)).drew.cell? ⟨b, off + j * 2 + 1, none⟩ = some (.int .i64 q.y) := by go_cell
      have p0z : (wr.alloc (.cells #[.int .i64 p.x, .int .i64 p.y] 23)).drew.cell? ⟨wr.heap.size, 0, none⟩ = some (.int .i64 p.x) := by go_cell
      have p1z : (wr.alloc (.cells #[.int .i64 p.x, .int .i64 p.y] 23)).drew.cell? ⟨wr.heap.size, 1, none⟩ = some (.int .i64 p.y) := by go_cell
      have hpz : (wr.alloc (.cells #[.int .i64 p.x, .int .i64 p.y] 23)).drew.heap[wr.heap.size]? = some (.cells #[.int .i64 p.x, .int .i64 p.y] 23 (0, 0)) := World.alloc_heap_new wr _
      have hBz : (wr.alloc (.cells #[.int .i64 p.x, .int .i64 p.y] 23)).drew.heap[Bs]? = some (.cells #[.slice (some ⟨b, off, none⟩) len cap] 39 (0, 0)) := by
        rw [← hBw]; exact Below.heap_alloc wr _ Bs hblt
      have hz0 : Below n₀ W (wr.alloc (.cells #[.int .i64 p.x, .int .i64 p.y] 23)).drew := Below.drew (hnx.alloc (Nat.le_trans hnW hnx.size) _)
      refine held_begin [0, 1, 2, 3, 4, 5, 6, 7, 8, 9] (fun w' => w' = (wr.alloc (.cells #[.int .i64 p.x, .int .i64 p.y] 23)).drew) (by kernel_rfl) rfl (fun hS => ?_)
      generalize (wr.alloc (.cells #[.int .i64 p.x, .int .i64 p.y] 23)).drew = z at *
      clear hJ hY h0 hB0 hc hBs hBw c0 c1 d0 d1 eB
      refine held_take 0 (v := ?_) (by decide) (hp _) rfl (by kernel_rfl) (by kernel_rfl) (by kernel_rfl) (fun _ _ _ h => h) (by kernel_rfl) hS ⟨.inl ⟨by rfl, ?_⟩, ?_⟩ ?_
      rotate_left 1
      · intro w hw; rw [hw]; go_simp <;> with_reducible rfl
      · intro w _ f hf; cases hf
      try simp only [Act.put, List.setIfInBounds_toArray, List.set_cons_zero, List.set_cons_succ]
      refine held_take 1 (v := ?_) (by decide) (hp _) rfl (by kernel_rfl) (by kernel_rfl) (by kernel_rfl) (fun _ _ _ h => h) (by kernel_rfl) hS ⟨.inl ⟨by rfl, ?_⟩, ?_⟩ ?_
      rotate_left 1
      · intro w hw; rw [hw]; go_simp <;> with_reducible rfl
      · intro w _ f hf; cases hf
      try simp only [Act.put, List.setIfInBounds_toArray, List.set_cons_zero, List.set_cons_succ]
      refine held_take 2 (v := ?_) (by decide) (hp _) rfl (by kernel_rfl) (by kernel_rfl) (by kernel_rfl) (fun _ _ _ h => h) (by kernel_rfl) hS ⟨.inl ⟨by rfl, ?_⟩, ?_⟩ ?_
      rotate_left 1
      · intro w hw; rw [hw]; go_simp <;> with_reducible rfl
      · intro w _ f hf; cases hf
      try simp only [Act.put, List.setIfInBounds_toArray, List.set_cons_zero, List.set_cons_succ]
      refine held_take 3 (v := ?_) (by decide) (hp _) rfl (by kernel_rfl) (by kernel_rfl) (by kernel_rfl) (fun _ _ _ h => h) (by kernel_rfl) hS ⟨.inl ⟨by rfl, ?_⟩, ?_⟩ ?_
      rotate_left 1
      · intro w hw; rw [hw]; go_simp <;> with_reducible rfl
      · intro w _ f hf; cases hf
      try simp only [Act.put, List.setIfInBounds_toArray, List.set_cons_zero, List.set_cons_succ]
      refine held_take 4 (v := ?_) (by decide) (hp _) rfl (by kernel_rfl) (by kernel_rfl) (by kernel_rfl) (fun _ _ _ h => h) (by kernel_rfl) hS ⟨.inl ⟨by rfl, ?_⟩, ?_⟩ ?_
      rotate_left 1
      · intro w hw; rw [hw]; go_simp <;> with_reducible rfl
      · intro w _ f hf; cases hf
      try simp only [Act.put, List.setIfInBounds_toArray, List.set_cons_zero, List.set_cons_succ]
      refine held_take 5 (v := ?_) (by decide) (hp _) rfl (by kernel_rfl) (by kernel_rfl) (by kernel_rfl) (fun _ _ _ h => h) (by kernel_rfl) hS ⟨.inl ⟨by rfl, ?_⟩, ?_⟩ ?_
      rotate_left 1
      · intro w hw; rw [hw]; go_simp <;> with_reducible rfl
      · intro w _ f hf; cases hf
      try simp only [Act.put, List.setIfInBounds_toArray, List.set_cons_zero, List.set_cons_succ]
      refine held_take 6 (v := ?_) (by decide) (hp _) rfl (by kernel_rfl) (by kernel_rfl) (by kernel_rfl) (fun _ _ _ h => h) (by kernel_rfl) hS ⟨.inl ⟨by rfl, ?_⟩, ?_⟩ ?_
      rotate_left 1
      · intro w hw; rw [hw]; go_simp <;> with_reducible rfl
      · intro w _ f hf; cases hf
      try simp only [Act.put, List.setIfInBounds_toArray, List.set_cons_zero, List.set_cons_succ]
      refine held_take 7 (v := ?_) (by decide) (hp _) rfl (by kernel_rfl) (by kernel_rfl) (by kernel_rfl) (fun _ _ _ h => h) (by kernel_rfl) hS ⟨.inl ⟨by rfl, ?_⟩, ?_⟩ ?_
      rotate_left 1
      · intro w hw; rw [hw]; go_simp <;> with_reducible rfl
      · intro w _ f hf; cases hf
      try simp only [Act.put, List.setIfInBounds_toArray, List.set_cons_zero, List.set_cons_succ]
      refine held_take 8 (v := ?_) (by decide) (hp _) rfl (by kernel_rfl) (by kernel_rfl) (by kernel_rfl) (fun _ _ _ h => h) (by kernel_rfl) hS ⟨.inl ⟨by rfl, ?_⟩, ?_⟩ ?_
      rotate_left 1
      · intro w hw; rw [hw]; go_simp <;> with_reducible rfl
      · intro w _ f hf; cases hf
      try simp only [Act.put, List.setIfInBounds_toArray, List.set_cons_zero, List.set_cons_succ]
      refine held_take 9 (v := ?_) (by decide) (hp _) rfl (by kernel_rfl) (by kernel_rfl) (by kernel_rfl) (fun _ _ _ h => h) (by kernel_rfl) hS ⟨.inl ⟨by rfl, ?_⟩, ?_⟩ ?_
      rotate_left 1
      · intro w hw; rw [hw]; go_simp <;> with_reducible rfl
      · intro w _ f hf; cases hf
      try simp only [Act.put, List.setIfInBounds_toArray, List.set_cons_zero, List.set_cons_succ]
      refine held_one 10 rfl (hp _) (by kernel_rfl) (by kernel_rfl) (by rfl) (fun K hK => ⟨?_, ?_⟩)
      · go_simp
      go_simp
      refine hR2.mono ?_
      rintro e W3 ⟨c, rfl, hA3⟩
      refine hK _ _ ?_
      clear hK K
      try simp only [Act.put, List.setIfInBounds_toArray, List.set_cons_zero, List.set_cons_succ]
      refine held_one 11 rfl (hp _) (by kernel_rfl) (by kernel_rfl) (by rfl) (fun K hK => ⟨?_, ?_⟩)
      · intro f hf; cases hf
      go_simp
      refine hK _ _ ?_
      clear hK K
      try simp only [Act.put, List.setIfInBounds_toArray, List.set_cons_zero, List.set_cons_succ]
      refine held_end (by kernel_rfl) ?_
      cases c with
      | true =>
        obtain ⟨hJ3, hk3⟩ := hA3.1 rfl
        have hB3 : Below n₀ W W3 := hz0.trans hk3.1
        have hw3 : W3.heap[Bs]? = some (.cells #[.slice (some ⟨b, off, none⟩) len cap] 39 (0, 0)) := hk3.2 _ _ _ _ (.inr rfl) hBz
        have hq3 : W3.cell? ⟨wr.heap.size, 0, none⟩ = some (.int .i64 p.x) := by simp [World.cell?, hk3.2 _ _ _ _ (.inl rfl) hpz]
        have hB3' := hw3
        gi_wp2
        go_roundw
        case rel => exact ⟨k + 1, by omega, by simp, by rw [HT.out]; exact hJ3, hB3, hw3⟩
        case measure => simp [intOf]; omega
      | false =>
        have hJx3 := hA3.2 rfl
        gi_wp2
        refine bodyPost_ret (results_none rfl _ _ _) rfl ?_
        exact ⟨⟨_, rfl⟩, .inr ⟨_, by rw [← HT.out]; exact List.take_prefix _ _, hJx3⟩⟩
    · obtain rfl : k = len := by omega
      have hnlt : ¬ ((k : Int) < (k : Int)) := by omega
      gi_wp2
      go_end0
      rw [List.take_of_length_le (by rw [List.length_attach, sides_length]; omega)] at hJs
      refine ⟨⟨_, rfl⟩, .inl ?_⟩
      first | exact hJs | exact ⟨_, rfl, hJs⟩

set_option maxHeartbeats 1000000 in
theorem hsides_in (F : Fence) (n : Nat) (hf : F.fn 57) (hro : F.round = none) (A : Option Addr) (len cap : Nat) (w : World) :
    CallsIn F n Tryz.prog 57 #[.slice A len cap] w fun e w' => e = .returned (.func (.func 83) #[] #[.pointer (some ⟨w.heap.size, 0, none⟩)]) ∧ w' = w.alloc (.cells #[.slice A len cap] 39) := by
  refine callsIn_of_wp Tryz.func57 rfl hf ?_ hro
  simp only [Tryz.ntmps57, List.size_toArray, List.length_cons, List.length_nil, Nat.reduceAdd, Nat.reduceSub, Array.replicate_succ, Array.replicate_zero, List.push_toArray, List.append_toArray, List.nil_append, List.cons_append]
  gi_wp2
  go_ret
  exact ⟨rfl, rfl⟩
/-- sides(p) hands back a value that 'SeqStopsK' -/
theorem hsides_stops (F : Fence) (n : Nat) (hf : F.fn 83) (hro : F.round = none) (hn : 1 ≤ n) (Bs n₀ : Nat) (A : Option Addr) (len cap : Nat) (xs : List Pt) (hxs : xs.length = len) (hreach : len ≤ 1000000) (w : World) (hn₀ : n₀ ≤ w.heap.size)
    (hB : w.heap[Bs]? = some (.cells #[.slice A len cap] 39 (0, 0))) (hc : Pts? n₀ w A xs) :
    SeqStopsK F n Tryz.prog 83 #[.pointer (some ⟨Bs, 0, none⟩)] (fun x : Sd xs => #[x.1.1.val, x.1.2.val]) (Kp2 n₀) (fun ys => ys = (sidesL xs).attach) (fun pre => pre <+: (sidesL xs).attach) len w := fun l J Jx W hW hJ _ hY h0 =>
  hsides1_in F n hf hro hn l Bs n₀ A len cap xs hxs hreach J Jx W (Nat.le_trans hn₀ hW.size) hJ hY ((hW.block Bs (Array.getElem?_eq_some_iff.1 hB).1).trans hB) (hc.upto (hW.mono hn₀)) h0
set_option maxRecDepth 100000 in
set_option maxHeartbeats 2000000 in
theorem csides1_in (F : Fence) (n : Nat) (hf : F.fn 136) (hro : F.round = none) (hn : 1 ≤ n) (l Bs n₀ : Nat) (A : Option Addr) (len cap : Nat) (xs : List Pt) (hxs : xs.length = len) (hreach : len ≤ 1000000) (J Jx : List (Sd xs) → World → Prop)
    (W : World) (hnW : n₀ ≤ W.heap.size) (hJ : AbidesFrom W.heap.size J)
    (hY : ∀ pre x W1, J pre W1 → pre.length < len → YieldAt F (n - 1) Tryz.prog l #[x.1.1.val, x.1.2.val] W1 fun e W' =>
      (e = .returned (.bool true) ∧ J (pre ++ [x]) W' ∧ Kp2 n₀ W1 W') ∨ (e = .returned (.bool false) ∧ Jx (pre ++ [x]) W'))
    (hB0 : W.heap[Bs]? = some (.cells #[.slice A len cap] 39 (0, 0))) (hc : Pts? n₀ W A xs) (h0 : J [] W) :
    CallsIn F n Tryz.prog 136 #[.func (.yield l) #[] #[], .pointer (some ⟨Bs, 0, none⟩)] W fun e W' => (∃ v, e = .returned v) ∧
      ((∃ ys, ys = (sidesL xs).attach ∧ J ys W') ∨ (∃ pre, pre <+: (sidesL xs).attach ∧ Jx pre W')) := by
  have hBs : W.cell? ⟨Bs, 0, none⟩ = some (.slice A len cap) := by simp [World.cell?, hB0]
  refine callsIn_of_wp Tryz.func136 rfl hf ?_ hro
  simp only [Tryz.ntmps136, List.size_toArray, List.length_cons, List.length_nil, Nat.reduceAdd, Nat.reduceSub, Array.replicate_succ, Array.replicate_zero, List.push_toArray, List.append_toArray, List.nil_append, List.cons_append]
  gi_wp2
  gi_loopw [7] (fun s7 wr => ∃ k : Nat, k ≤ len ∧ s7 = .int .i64 k ∧ J ((sidesL xs).attach.take k) wr ∧ Below n₀ W wr ∧ wr.heap[Bs]? = some (.cells #[.slice A len cap] 39 (0, 0)))
    (fun s7 _ => len - (intOf s7).toNat)
  case atStart => exact ⟨0, Nat.zero_le _, rfl, by simpa using h0, Below.refl _ _, hB0⟩
  case round =>
    obtain ⟨k, hk, rfl, hJs, hnx, hBw⟩ := hrel
    by_cases hlt : k < len
    · obtain ⟨b, off, rfl, hb, hcs⟩ := hc (by omega)
      have hjl : (k + 1) % len < len := Nat.mod_lt _ (by omega)
      have hj : ((k : Int) + 1).tmod (len : Int) = (((k + 1) % len : Nat) : Int) := by
        rw [Int.tmod_eq_emod_of_nonneg (by omega)]; simp
      obtain ⟨p, q, hmem, hkv, hjv, hts⟩ := sides_step hxs hlt
      generalize (k + 1) % len = j at *
      obtain ⟨c0, c1⟩ := (hcs k p hkv).upto hnx hb
      obtain ⟨d0, d1⟩ := (hcs j q hjv).upto hnx hb
      have hlt2 : (k : Int) < (len : Int) := by omega
      have hj2 : (j : Int) < (len : Int) := by omega
      have hj3 : (0 : Int) ≤ (j : Int) := by omega
      have hn0 : ¬ ((len : Int) = 0) := by omega
      have hn2 : ¬ (len = 0) := by omega
      have hn1 : ((len : Int) == 0) = false := by simp; omega
      have hblt := (Array.getElem?_eq_some_iff.1 hBw).1
      have eB : wr.cell? ⟨Bs, 0, none⟩ = some (.slice (some ⟨b, off, none⟩) len cap) := by simp [World.cell?, hBw]
      have hJa : J ((sidesL xs).attach.take k) (wr.alloc (.cells #[.int .i64 p.x, .int .i64 p.y] 23)).drew := hJ _ _ _ none (hJ _ _ _ none hJs (World.grownBy_alloc wr _ none) (fun r e => by cases e)) (grownBy_drew _) (fun r e => by cases e)
      obtain ⟨fn, tmps, assign, body, hy, hR⟩ := hY _ ⟨(p, q), hmem⟩ _ hJa (by rw [List.length_take, List.length_attach, sides_length]; omega)
      dsimp only at hy
      clear hJs hkv hjv hcs
      have HT := Lib.hid hts
      clear hts
      have hR2 := hR.mono (R' := fun e W' => ∃ c : Bool, e = .returned (.bool c) ∧ Aside ((c = true → J ((sidesL xs).attach.take k ++ [⟨(p, q), hmem⟩]) W' ∧ Kp2 n₀ (wr.alloc (.cells #[.int .i64 p.x, .int .i64 p.y] 23)).drew W') ∧ (c = false → Jx ((sidesL xs).attach.take k ++ [⟨(p, q), hmem⟩]) W'))) (by
        rintro e W' (⟨rfl, h1, h2⟩ | ⟨rfl, h1⟩)
        · exact ⟨true, rfl, fun _ => ⟨h1, h2⟩, fun h => by cases h⟩
        · exact ⟨false, rfl, fun h => (by cases h), fun _ => h1⟩)
      clear hR hJa
      gi_wp2
      have hwr0 : IntKind.i64.wrap ((k : Int) + 1) = (k : Int) + 1 := IntWalk.i64_in _ (by omega)
      have hwr1 : IntKind.i64.wrap (j : Int) = (j : Int) := IntWalk.i64_in _ (by omega)
      have hp : ∀ ops, PlainOps F ops := fun ops => plainOps_none hro
      have eBz : (wr.alloc (.cells #[.int .i64 p.x, .int .i64 p.y] 23)).drew.cell? ⟨Bs, 0, none⟩ = some (.slice (some ⟨b, off, none⟩) len cap) := by go_cell
      have d0z : (wr.alloc (.cells #[.int .i64 p.x, .int .i64 p.y] 23)).drew.cell? ⟨b, off + j * 2, none⟩ = some (.int .i64 q.x) := by go_cell
      have d1z : (wr.alloc (.cells #[.int .i64 p.x, .int .i64 p.y] 23)).drew.cell? ⟨b, off + j * 2 + 1, none⟩ = some (.int .i64 q.y) := by go_cell
      have p0z : (wr.alloc (.cells #[.int .i64 p.x, .int .i64 p.y] 23)).drew.cell? ⟨wr.heap.size, 0, none⟩ = some (.int .i64 p.x) := by go_cell
      have p1z : (wr.alloc (.cells #[.int .i64 p.x, .int .i64 p.y] 23)).drew.cell? ⟨wr.heap.size, 1, none⟩ = some (.int .i64 p.y) := by go_cell
      have hpz : (wr.alloc (.cells #[.int .i64 p.x, .int .i64 p.y] 23)).drew.heap[wr.heap.size]? = some (.cells #[.int .i64 p.x, .int .i64 p.y] 23 (0, 0)) := World.alloc_heap_new wr _
      have hBz : (wr.alloc (.cells #[.int .i64 p.x, .int .i64 p.y] 23)).drew.heap[Bs]? = some (.cells #[.slice (some ⟨b, off, none⟩) len cap] 39 (0, 0)) := by
        rw [← hBw]; exact Below.heap_alloc wr _ Bs hblt
      have hz0 : Below n₀ W (wr.alloc (.cells #[.int .i64 p.x, .int .i64 p.y] 23)).drew := Below.drew (hnx.alloc (Nat.le_trans hnW hnx.size) _)
      refine held_begin [0, 1, 2, 3, 4, 5, 6, 7, 8, 9] (fun w' => w' = (wr.alloc (.cells #[.int .i64 p.x, .int .i64 p.y] 23)).drew) (by kernel_rfl) rfl (fun hS => ?_)
      generalize (wr.alloc (.cells #[.int .i64 p.x, .int .i64 p.y] 23)).drew = z at *
      clear hJ hY h0 hB0 hc hBs hBw c0 c1 d0 d1 eB
      refine held_take 0 (v := ?_) (by decide) (hp _) rfl (by kernel_rfl) (by kernel_rfl) (by kernel_rfl) (fun _ _ _ h => h) (by kernel_rfl) hS ⟨.inl ⟨by rfl, ?_⟩, ?_⟩ ?_
      rotate_left 1
      · intro w hw; rw [hw]; go_simp <;> with_reducible rfl
      · intro w _ f hf; cases hf
      try simp only [Act.put, List.setIfInBounds_toArray, List.set_cons_zero, List.set_cons_succ]
      refine held_take 1 (v := ?_) (by decide) (hp _) rfl (by kernel_rfl) (by kernel_rfl) (by kernel_rfl) (fun _ _ _ h => h) (by kernel_rfl) hS ⟨.inl ⟨by rfl, ?_⟩, ?_⟩ ?_
      rotate_left 1
      · intro w hw; rw [hw]; go_simp <;> with_reducible rfl
      · intro w _ f hf; cases hf
      try simp only [Act.put, List.setIfInBounds_toArray, List.set_cons_zero, List.set_cons_succ]
      refine held_take 2 (v := ?_) (by decide) (hp _) rfl (by kernel_rfl) (by kernel_rfl) (by kernel_rfl) (fun _ _ _ h => h) (by kernel_rfl) hS ⟨.inl ⟨by rfl, ?_⟩, ?_⟩ ?_
      rotate_left 1
      · intro w hw; rw [hw]; go_simp <;> with_reducible rfl
      · intro w _ f hf; cases hf
      try simp only [Act.put, List.setIfInBounds_toArray, List.set_cons_zero, List.set_cons_succ]
      refine held_take 3 (v := ?_) (by decide) (hp _) rfl (by kernel_rfl) (by kernel_rfl) (by kernel_rfl) (fun _ _ _ h => h) (by kernel_rfl) hS ⟨.inl ⟨by rfl, ?_⟩, ?_⟩ ?_
      rotate_left 1
      · intro w hw; rw [hw]; go_simp <;> with_reducible rfl
      · intro w _ f hf; cases hf
      try simp only [Act.put, List.setIfInBounds_toArray, List.set_cons_zero, List.set_cons_succ]
      refine held_take 4 (v := ?_) (by decide) (hp _) rfl (by kernel_rfl) (by kernel_rfl) (by kernel_rfl) (fun _ _ _ h => h) (by kernel_rfl) hS ⟨.inl ⟨by rfl, ?_⟩, ?_⟩ ?_
      rotate_left 1
      · intro w hw; rw [hw]; go_simp <;> with_reducible rfl
      · intro w _ f hf; cases hf
      try simp only [Act.put, List.setIfInBounds_toArray, List.set_cons_zero, List.set_cons_succ]
      refine held_take 5 (v := ?_) (by decide) (hp _) rfl (by kernel_rfl) (by kernel_rfl) (by kernel_rfl) (fun _ _ _ h => h) (by kernel_rfl) hS ⟨.inl ⟨by rfl, ?_⟩, ?_⟩ ?_
      rotate_left 1
      · intro w hw; rw [hw]; go_simp <;> with_reducible rfl
      · intro w _ f hf; cases hf
      try simp only [Act.put, List.setIfInBounds_toArray, List.set_cons_zero, List.set_cons_succ]
      refine held_take 6 (v := ?_) (by decide) (hp _) rfl (by kernel_rfl) (by kernel_rfl) (by kernel_rfl) (fun _ _ _ h => h) (by kernel_rfl) hS ⟨.inl ⟨by rfl, ?_⟩, ?_⟩ ?_
      rotate_left 1
      · intro w hw; rw [hw]; go_simp <;> with_reducible rfl
      · intro w _ f hf; cases hf
      try simp only [Act.put, List.setIfInBounds_toArray, List.set_cons_zero, List.set_cons_succ]
      refine held_take 7 (v := ?_) (by decide) (hp _) rfl (by kernel_rfl) (by kernel_rfl) (by kernel_rfl) (fun _ _ _ h => h) (by kernel_rfl) hS ⟨.inl ⟨by rfl, ?_⟩, ?_⟩ ?_
      rotate_left 1
      · intro w hw; rw [hw]; go_simp <;> with_reducible rfl
      · intro w _ f hf; cases hf
      try simp only [Act.put, List.setIfInBounds_toArray, List.set_cons_zero, List.set_cons_succ]
      refine held_take 8 (v := ?_) (by decide) (hp _) rfl (by kernel_rfl) (by kernel_rfl) (by kernel_rfl) (fun _ _ _ h => h) (by kernel_rfl) hS ⟨.inl ⟨by rfl, ?_⟩, ?_⟩ ?_
      rotate_left 1
      · intro w hw; rw [hw]; go_simp <;> with_reducible rfl
      · intro w _ f hf; cases hf
      try simp only [Act.put, List.setIfInBounds_toArray, List.set_cons_zero, List.set_cons_succ]
      refine held_take 9 (v := ?_) (by decide) (hp _) rfl (by kernel_rfl) (by kernel_rfl) (by kernel_rfl) (fun _ _ _ h => h) (by kernel_rfl) hS ⟨.inl ⟨by rfl, ?_⟩, ?_⟩ ?_
      rotate_left 1
      · intro w hw; rw [hw]; go_simp <;> with_reducible rfl
      · intro w _ f hf; cases hf
      try simp only [Act.put, List.setIfInBounds_toArray, List.set_cons_zero, List.set_cons_succ]
      refine held_one 10 rfl (hp _) (by kernel_rfl) (by kernel_rfl) (by rfl) (fun K hK => ⟨?_, ?_⟩)
      · go_simp
      go_simp
      refine hR2.mono ?_
      rintro e W3 ⟨c, rfl, hA3⟩
      refine hK _ _ ?_
      clear hK K
      try simp only [Act.put, List.setIfInBounds_toArray, List.set_cons_zero, List.set_cons_succ]
      refine held_one 11 rfl (hp _) (by kernel_rfl) (by kernel_rfl) (by rfl) (fun K hK => ⟨?_, ?_⟩)
      · intro f hf; cases hf
      go_simp
      refine hK _ _ ?_
      clear hK K
      try simp only [Act.put, List.setIfInBounds_toArray, List.set_cons_zero, List.set_cons_succ]
      refine held_end (by kernel_rfl) ?_
      cases c with
      | true =>
        obtain ⟨hJ3, hk3⟩ := hA3.1 rfl
        have hB3 : Below n₀ W W3 := hz0.trans hk3.1
        have hw3 : W3.heap[Bs]? = some (.cells #[.slice (some ⟨b, off, none⟩) len cap] 39 (0, 0)) := hk3.2 _ _ _ _ (.inr rfl) hBz
        have hq3 : W3.cell? ⟨wr.heap.size, 0, none⟩ = some (.int .i64 p.x) := by simp [World.cell?, hk3.2 _ _ _ _ (.inl rfl) hpz]
        have hB3' := hw3
        gi_wp2
        go_roundw
        case rel => exact ⟨k + 1, by omega, by simp, by rw [HT.out]; exact hJ3, hB3, hw3⟩
        case measure => simp [intOf]; omega
      | false =>
        have hJx3 := hA3.2 rfl
        gi_wp2
        refine bodyPost_ret (results_none rfl _ _ _) rfl ?_
        exact ⟨⟨_, rfl⟩, .inr ⟨_, by rw [← HT.out]; exact List.take_prefix _ _, hJx3⟩⟩
    · obtain rfl : k = len := by omega
      have hnlt : ¬ ((k : Int) < (k : Int)) := by omega
      gi_wp2
      go_end0
      rw [List.take_of_length_le (by rw [List.length_attach, sides_length]; omega)] at hJs
      refine ⟨⟨_, rfl⟩, .inl ?_⟩
      first | exact hJs | exact ⟨_, rfl, hJs⟩

set_option maxHeartbeats 1000000 in
theorem csides_in (F : Fence) (n : Nat) (hf : F.fn 117) (hro : F.round = none) (A : Option Addr) (len cap : Nat) (w : World) :
    CallsIn F n Tryz.prog 117 #[.slice A len cap] w fun e w' => e = .returned (.func (.func 136) #[] #[.pointer (some ⟨w.heap.size, 0, none⟩)]) ∧ w' = w.alloc (.cells #[.slice A len cap] 39) := by
  refine callsIn_of_wp Tryz.func117 rfl hf ?_ hro
  simp only [Tryz.ntmps117, List.size_toArray, List.length_cons, List.length_nil, Nat.reduceAdd, Nat.reduceSub, Array.replicate_succ, Array.replicate_zero, List.push_toArray, List.append_toArray, List.nil_append, List.cons_append]
  gi_wp2
  go_ret
  exact ⟨rfl, rfl⟩
/-- sides(p) hands back a value that 'SeqStopsK' -/
theorem csides_stops (F : Fence) (n : Nat) (hf : F.fn 136) (hro : F.round = none) (hn : 1 ≤ n) (Bs n₀ : Nat) (A : Option Addr) (len cap : Nat) (xs : List Pt) (hxs : xs.length = len) (hreach : len ≤ 1000000) (w : World) (hn₀ : n₀ ≤ w.heap.size)
    (hB : w.heap[Bs]? = some (.cells #[.slice A len cap] 39 (0, 0))) (hc : Pts? n₀ w A xs) :
    SeqStopsK F n Tryz.prog 136 #[.pointer (some ⟨Bs, 0, none⟩)] (fun x : Sd xs => #[x.1.1.val, x.1.2.val]) (Kp2 n₀) (fun ys => ys = (sidesL xs).attach) (fun pre => pre <+: (sidesL xs).attach) len w := fun l J Jx W hW hJ _ hY h0 =>
  csides1_in F n hf hro hn l Bs n₀ A len cap xs hxs hreach J Jx W (Nat.le_trans hn₀ hW.size) hJ hY ((hW.block Bs (Array.getElem?_eq_some_iff.1 hB).1).trans hB) (hc.upto (hW.mono hn₀)) h0
end Go.Proofs.YtnhdnkeiijiiaaaGreat
namespace Go.Proofs.YtnhdnkeiijiiaaaGreat
open Go.RowKit Go.Shelf
set_option linter.unusedSimpArgs false
set_option linter.unusedVariables false
attribute [local go_sem] Oper.semAt_some

def okAt (xs : List Pt) (i : Nat) : Bool := plB (xs.getD i default) && (i == 0 || decide (cmpS (xs.getD 0 default) (xs.getD i default) < 0))
def firstB (xs : List Pt) : Bool := (List.range xs.length).all (okAt xs)
def sideOk (xs : List Pt) (s : Pt × Pt) : Bool := xs.all fun x => decide (x = s.1) || decide (x = s.2) || decide (0 < turnS s.1 s.2 x)
def validB (xs : List Pt) : Bool := decide (1 ≤ xs.length) && decide (xs.length ≤ 64) && firstB xs && (decide (xs.length < 3) || (sidesL xs).all (sideOk xs))

theorem cmpS_bd (q p : Pt) : -1 ≤ cmpS q p ∧ cmpS q p ≤ 1 := by
  unfold cmpS cmpI; split <;> split <;> omega
theorem validB_bad (xs : List Pt) {n k : Nat} (hn : xs.length = n) (hk : k < n) (h : okAt xs k = false) : validB xs = false := by
  have : firstB xs = false := by
    unfold firstB
    rw [List.all_eq_false]
    exact ⟨k, by simp; omega, by simp [h]⟩
  simp [validB, this]

theorem Pt.eq_iff (p q : Pt) : (p = q) = (p.x = q.x ∧ p.y = q.y) := by
  cases p; cases q; simp
theorem nr_of_pl {p : Pt} (h : plB p = true) : Nr p := by
  rw [plB_iff] at h; unfold Nr; omega
theorem pl_of_first {xs : List Pt} (h : firstB xs = true) {p : Pt} (hp : p ∈ xs) : plB p = true := by
  obtain ⟨i, hi⟩ := List.getElem?_of_mem hp
  have h1 := List.all_eq_true.1 h i (List.mem_range.2 (List.getElem?_eq_some_iff.1 hi).1)
  unfold okAt at h1
  rw [List.getD_eq_getElem?_getD, hi] at h1
  simp only [Option.getD_some, Bool.and_eq_true] at h1
  exact h1.1
theorem nr_of_first {xs : List Pt} (h : firstB xs = true) {p : Pt} (hp : p ∈ xs) : Nr p := nr_of_pl (pl_of_first h hp)
def SdAll (xs : List Pt) (pre : List (Sd xs)) : Prop := ∀ s ∈ pre, sideOk xs s.1 = true
def SdBad (xs : List Pt) (pre : List (Sd xs)) : Prop := ∃ s ∈ pre, sideOk xs s.1 = false
theorem keepsFrom_of {W W' : World} (h : Below W.heap.size W W') (B : Nat) : KeepsFrom B W W' := ⟨h.size, fun k o _ hk _ => (h.block k (Array.getElem?_eq_some_iff.1 hk).1).trans hk⟩
set_option maxRecDepth 100000 in
set_option maxHeartbeats 8000000 in
theorem hValid_zero (A : Option Addr) (n c : Nat) (xs : List Pt) (w : World) (hn : xs.length = n) (h0 : n = 0) :
    Calls Tryz.prog 54 #[.slice A n c] w fun e w' => e = .returned (.bool (validB xs)) ∧ Below w.heap.size w w' := by
  subst h0
  have hv : validB xs = false := by simp [validB, hn] <;> omega
  rw [hv]
  refine (callsIn_wide (n := 6)).1 ?_
  refine callsIn_of_wp_marks Tryz.func54 rfl trivial ?_ rfl
  simp only [Tryz.ntmps54, List.size_toArray, List.length_cons, List.length_nil, Nat.reduceAdd, Nat.reduceSub, Array.replicate_succ, Array.replicate_zero, List.push_toArray, List.append_toArray, List.nil_append, List.cons_append]
  gi_wp2
  refine ⟨.bool false, ?_, rfl, by go_grown⟩
  simp [results, Tryz.f54, go_sem]
set_option maxRecDepth 100000 in
set_option maxHeartbeats 8000000 in
theorem hValid_many (A : Option Addr) (n c : Nat) (xs : List Pt) (w : World) (hn : xs.length = n) (h0 : 64 < n) :
    Calls Tryz.prog 54 #[.slice A n c] w fun e w' => e = .returned (.bool (validB xs)) ∧ Below w.heap.size w w' := by
  have hm2 : (64 : Int) < (n : Int) := by omega
  have hm3 : ¬ ((n : Int) < 1) := by omega
  have hv : validB xs = false := by simp [validB, hn] <;> omega
  rw [hv]
  refine (callsIn_wide (n := 6)).1 ?_
  refine callsIn_of_wp_marks Tryz.func54 rfl trivial ?_ rfl
  simp only [Tryz.ntmps54, List.size_toArray, List.length_cons, List.length_nil, Nat.reduceAdd, Nat.reduceSub, Array.replicate_succ, Array.replicate_zero, List.push_toArray, List.append_toArray, List.nil_append, List.cons_append]
  gi_wp2
  refine ⟨.bool false, ?_, rfl, by go_grown⟩
  simp [results, Tryz.f54, go_sem]
set_option maxRecDepth 100000 in
set_option maxHeartbeats 8000000 in
theorem hValid_go (A : Option Addr) (n c : Nat) (xs : List Pt) (w : World) (hn : xs.length = n) (h1 : 1 ≤ n) (h64 : n ≤ 64) (hx : Pts? w.heap.size w A xs) (hI : ∀ p ∈ xs, I64 p.x ∧ I64 p.y) :
    Calls Tryz.prog 54 #[.slice A n c] w fun e w' => e = .returned (.bool (validB xs)) ∧ Below w.heap.size w w' := by
  obtain ⟨b, off, rfl, hlt0, hcs⟩ := hx (by omega)
  have HX := Lib.hid hx
  have HCS := Lib.hid hcs
  have HN := Lib.hid hn
  have HI := Lib.hid hI
  have hm2 : ¬ ((64 : Int) < (n : Int)) := by omega
  have hm3 : ¬ ((n : Int) < 1) := by omega
  have hn0 : 0 < n := by omega
  clear hx hcs hn hI
  refine (callsIn_wide (n := 6)).1 ?_
  refine callsIn_of_wp_marks Tryz.func54 rfl trivial ?_ rfl
  simp only [Tryz.ntmps54, List.size_toArray, List.length_cons, List.length_nil, Nat.reduceAdd, Nat.reduceSub, Array.replicate_succ, Array.replicate_zero, List.push_toArray, List.append_toArray, List.nil_append, List.cons_append]
  gi_wp2
  gi_loopw [19] (fun s19 wr => ∃ k : Nat, k ≤ n ∧ s19 = .int .i64 k ∧ Aside (∀ i, i < k → okAt xs i = true) ∧ Below w.heap.size w wr ∧ wr.heap[w.heap.size]? = some (.cells #[.slice (some ⟨b, off, none⟩) n c] 39 (0, 0)) ∧ wr.heap[w.heap.size + 1]? = some (.cells #[.bool false] 4 (0, 0)))
    (fun s19 _ => n - (intOf s19).toNat)
  case atStart => exact ⟨0, Nat.zero_le _, rfl, fun i hi => absurd hi (Nat.not_lt_zero i), by go_grown, (Below.heap_alloc _ _ _ (by simp)).trans (World.alloc_heap_new w _), by have h9 := World.alloc_heap_new (w.alloc (.cells #[.slice (some ⟨b, off, none⟩) n c] 39)) (.cells #[.bool false] 4); rw [World.size_alloc] at h9; exact h9⟩
  case round =>
    obtain ⟨k, hk, rfl, hA, hB, hb0, hb1⟩ := hrel
    have e0 : wr.cell? ⟨w.heap.size, 0, none⟩ = some (.slice (some ⟨b, off, none⟩) n c) := by simp [World.cell?, hb0]
    have e1 : wr.cell? ⟨w.heap.size + 1, 0, none⟩ = some (.bool false) := by simp [World.cell?, hb1]
    have ef : wr.frozen? ⟨w.heap.size + 1, 0, none⟩ = false := by simp [World.frozen?, hb1]
    by_cases hlt : k < n
    · obtain ⟨p, hpk⟩ : ∃ p, xs[k]? = some p := ⟨_, List.getElem?_eq_getElem (by rw [HN.out]; exact hlt)⟩
      obtain ⟨q, hq0⟩ : ∃ q, xs[0]? = some q := ⟨_, List.getElem?_eq_getElem (by rw [HN.out]; exact hn0)⟩
      obtain ⟨c0, c1⟩ := (HCS.out k p hpk).upto hB hlt0
      obtain ⟨d0, d1⟩ := (HCS.out 0 q hq0).upto hB hlt0
      simp only [Nat.zero_mul, Nat.add_zero] at d0 d1
      have hok : okAt xs k = (plB p && (k == 0 || decide (cmpS q p < 0))) := by simp only [okAt, List.getD_eq_getElem?_getD, hpk, hq0, Option.getD_some]
      have HOK := Lib.hid hok
      have hlt2 : (k : Int) < (n : Int) := by omega
      have vP := fun W => hisPlace_any p W (HI.out p (List.mem_of_getElem? hpk)).1 (HI.out p (List.mem_of_getElem? hpk)).2
      have vC := fun W => compare_any q p W
      clear hok hpk hq0
      gi_wp2
      have hBz : Below w.heap.size w (wr.alloc (.cells #[.int .i64 p.x, .int .i64 p.y] 23)).drew := Below.drew (hB.alloc hB.size _)
      have z0 : (wr.alloc (.cells #[.int .i64 p.x, .int .i64 p.y] 23)).drew.heap[w.heap.size]? = some (.cells #[.slice (some ⟨b, off, none⟩) n c] 39 (0, 0)) := (Below.heap_alloc _ _ _ (Array.getElem?_eq_some_iff.1 hb0).1).trans hb0
      have z1 : (wr.alloc (.cells #[.int .i64 p.x, .int .i64 p.y] 23)).drew.heap[w.heap.size + 1]? = some (.cells #[.bool false] 4 (0, 0)) := (Below.heap_alloc _ _ _ (Array.getElem?_eq_some_iff.1 hb1).1).trans hb1
      have x0 : (wr.alloc (.cells #[.int .i64 p.x, .int .i64 p.y] 23)).drew.cell? ⟨wr.heap.size, 0, none⟩ = some (.int .i64 p.x) := by go_cell
      have x1 : (wr.alloc (.cells #[.int .i64 p.x, .int .i64 p.y] 23)).drew.cell? ⟨wr.heap.size, 1, none⟩ = some (.int .i64 p.y) := by go_cell
      have x2 : (wr.alloc (.cells #[.int .i64 p.x, .int .i64 p.y] 23)).drew.cell? ⟨w.heap.size, 0, none⟩ = some (.slice (some ⟨b, off, none⟩) n c) := by go_cell
      have x3 : (wr.alloc (.cells #[.int .i64 p.x, .int .i64 p.y] 23)).drew.cell? ⟨b, off, none⟩ = some (.int .i64 q.x) := by go_cell
      have x4 : (wr.alloc (.cells #[.int .i64 p.x, .int .i64 p.y] 23)).drew.cell? ⟨b, off + 1, none⟩ = some (.int .i64 q.y) := by go_cell
      have hp : ∀ ops, PlainOps Fence.wide ops := fun ops => plainOps_none rfl
      have HP := Lib.hid vP
      have HC := Lib.hid vC
      clear vP vC
      cases hpl : plB p with
      | false =>
        rw [hpl] at HP HOK
        clear hpl
        refine held_begin [0, 2, 3, 4, 5, 6, 7, 8, 9, 10, 11, 12, 13, 14] (fun w9 => Below (wr.alloc (.cells #[.int .i64 p.x, .int .i64 p.y] 23)).drew.heap.size (wr.alloc (.cells #[.int .i64 p.x, .int .i64 p.y] 23)).drew w9 ∧ w9.cell? ⟨wr.heap.size, 0, none⟩ = some (.int .i64 p.x) ∧ w9.cell? ⟨wr.heap.size, 1, none⟩ = some (.int .i64 p.y) ∧ w9.cell? ⟨w.heap.size, 0, none⟩ = some (.slice (some ⟨b, off, none⟩) n c) ∧ w9.cell? ⟨b, off, none⟩ = some (.int .i64 q.x) ∧ w9.cell? ⟨b, off + 1, none⟩ = some (.int .i64 q.y)) (by kernel_rfl) ⟨Below.refl _ _, x0, x1, x2, x3, x4⟩ (fun hS => ?_)
        generalize (wr.alloc (.cells #[.int .i64 p.x, .int .i64 p.y] 23)).drew = z at *
        have HSZ := Lib.hid (show ∀ w9, Below z.heap.size z w9 → Below z.heap.size z w9 ∧ w9.cell? ⟨wr.heap.size, 0, none⟩ = some (.int .i64 p.x) ∧ w9.cell? ⟨wr.heap.size, 1, none⟩ = some (.int .i64 p.y) ∧ w9.cell? ⟨w.heap.size, 0, none⟩ = some (.slice (some ⟨b, off, none⟩) n c) ∧ w9.cell? ⟨b, off, none⟩ = some (.int .i64 q.x) ∧ w9.cell? ⟨b, off + 1, none⟩ = some (.int .i64 q.y) from fun w9 h9 => ⟨h9, kp h9 x0, kp h9 x1, kp h9 x2, kp h9 x3, kp h9 x4⟩)
        clear c0 c1 d0 d1 e0 e1 ef hB hb0 hb1
        refine tk 0 (v := ?_) (hp _) hS rfl (fun _ _ _ _ => trivial) ?_ ?_
        rotate_left 1
        · intro w hw; (try rw [hw]); (try go_split_ands); go_simp <;> with_reducible rfl
        try simp only [Act.put, st]
        refine held_step 1 rfl (hp _) (by kernel_rfl) (by kernel_rfl) (fun K hK => ⟨?_, ?_⟩)
        · exact fun _ _ => trivial
        go_simp
        refine (callsIn_wide.2 (HP.out _)).mono ?_
        rintro e w1 ⟨rfl, hb_1⟩
        have hB_1 : Below z.heap.size z w1 := below_after hS.1 hb_1
        have hS := HSZ.out _ hB_1
        refine hK _ _ hS ?_
        clear hK K
        try simp only [Act.put, st]
        refine tk 2 (v := ?_) (hp _) hS rfl (fun _ _ _ _ => trivial) ?_ ?_
        rotate_left 1
        · intro w hw; (try rw [hw]); (try go_split_ands); go_simp <;> with_reducible rfl
        try simp only [Act.put, st]
        refine tk 3 (v := ?_) (hp _) hS rfl (fun _ _ _ _ => trivial) ?_ ?_
        rotate_left 1
        · intro w hw; (try rw [hw]); (try go_split_ands); go_simp <;> with_reducible rfl
        try simp only [Act.put, st]
        refine sk 4 (hp _) hS rfl (fun _ _ _ _ => trivial) ?_
        try simp only [Act.put, st]
        refine sk 5 (hp _) hS rfl (fun _ _ _ _ => trivial) ?_
        try simp only [Act.put, st]
        refine sk 6 (hp _) hS rfl (fun _ _ _ _ => trivial) ?_
        try simp only [Act.put, st]
        refine sk 7 (hp _) hS rfl (fun _ _ _ _ => trivial) ?_
        try simp only [Act.put, st]
        refine sk 8 (hp _) hS rfl (fun _ _ _ _ => trivial) ?_
        try simp only [Act.put, st]
        refine sk 9 (hp _) hS rfl (fun _ _ _ _ => trivial) ?_
        try simp only [Act.put, st]
        refine sk 10 (hp _) hS rfl (fun _ _ _ _ => trivial) ?_
        try simp only [Act.put, st]
        refine sk 11 (hp _) hS rfl (fun _ _ _ _ => trivial) ?_
        try simp only [Act.put, st]
        refine sk 12 (hp _) hS rfl (fun _ _ _ _ => trivial) ?_
        try simp only [Act.put, st]
        refine sk 13 (hp _) hS rfl (fun _ _ _ _ => trivial) ?_
        try simp only [Act.put, st]
        refine tk 14 (v := ?_) (hp _) hS rfl (fun _ _ _ _ => trivial) ?_ ?_
        rotate_left 1
        · intro w hw; (try rw [hw]); (try go_split_ands); go_simp <;> with_reducible rfl
        try simp only [Act.put, st]
        refine held_end (by kernel_rfl) ?_
        have y0 : w1.heap[w.heap.size]? = some (.cells #[.slice (some ⟨b, off, none⟩) n c] 39 (0, 0)) := (hS.1.block _ (Array.getElem?_eq_some_iff.1 z0).1).trans z0
        have y1 : w1.heap[w.heap.size + 1]? = some (.cells #[.bool false] 4 (0, 0)) := (hS.1.block _ (Array.getElem?_eq_some_iff.1 z1).1).trans z1
        have e1 : w1.cell? ⟨w.heap.size + 1, 0, none⟩ = some (.bool false) := by simp [World.cell?, y1]
        have ef : w1.frozen? ⟨w.heap.size + 1, 0, none⟩ = false := by simp [World.frozen?, y1]
        have hBW : Below w.heap.size w w1 := hBz.trans (hS.1.mono hBz.size)
        clear hS HSZ HP HC x0 x1 x2 x3 x4 z0 z1
        gi_wp2
        have hc5 := World.cell?_setCell_same' w1 ⟨w.heap.size + 1, 0, none⟩ (.bool false) (by rw [e1]; rfl)
        refine ⟨.bool false, ?_, ret_bool (validB_bad xs HN.out hlt (by rw [HOK.out]; rfl)).symm, by go_grown⟩
        simp [results, Tryz.f54, go_sem, hc5]
      | true =>
        rw [hpl] at HP HOK
        clear hpl
        by_cases hk0 : k = 0
        · subst hk0
          refine held_begin [0, 2, 3, 4, 5, 6, 7, 8, 9, 10, 11, 12, 13, 14] (fun w9 => Below (wr.alloc (.cells #[.int .i64 p.x, .int .i64 p.y] 23)).drew.heap.size (wr.alloc (.cells #[.int .i64 p.x, .int .i64 p.y] 23)).drew w9 ∧ w9.cell? ⟨wr.heap.size, 0, none⟩ = some (.int .i64 p.x) ∧ w9.cell? ⟨wr.heap.size, 1, none⟩ = some (.int .i64 p.y) ∧ w9.cell? ⟨w.heap.size, 0, none⟩ = some (.slice (some ⟨b, off, none⟩) n c) ∧ w9.cell? ⟨b, off, none⟩ = some (.int .i64 q.x) ∧ w9.cell? ⟨b, off + 1, none⟩ = some (.int .i64 q.y)) (by kernel_rfl) ⟨Below.refl _ _, x0, x1, x2, x3, x4⟩ (fun hS => ?_)
          generalize (wr.alloc (.cells #[.int .i64 p.x, .int .i64 p.y] 23)).drew = z at *
          have HSZ := Lib.hid (show ∀ w9, Below z.heap.size z w9 → Below z.heap.size z w9 ∧ w9.cell? ⟨wr.heap.size, 0, none⟩ = some (.int .i64 p.x) ∧ w9.cell? ⟨wr.heap.size, 1, none⟩ = some (.int .i64 p.y) ∧ w9.cell? ⟨w.heap.size, 0, none⟩ = some (.slice (some ⟨b, off, none⟩) n c) ∧ w9.cell? ⟨b, off, none⟩ = some (.int .i64 q.x) ∧ w9.cell? ⟨b, off + 1, none⟩ = some (.int .i64 q.y) from fun w9 h9 => ⟨h9, kp h9 x0, kp h9 x1, kp h9 x2, kp h9 x3, kp h9 x4⟩)
          clear c0 c1 d0 d1 e0 e1 ef hB hb0 hb1
          refine tk 0 (v := ?_) (hp _) hS rfl (fun _ _ _ _ => trivial) ?_ ?_
          rotate_left 1
          · intro w hw; (try rw [hw]); (try go_split_ands); go_simp <;> with_reducible rfl
          try simp only [Act.put, st]
          refine held_step 1 rfl (hp _) (by kernel_rfl) (by kernel_rfl) (fun K hK => ⟨?_, ?_⟩)
          · exact fun _ _ => trivial
          go_simp
          refine (callsIn_wide.2 (HP.out _)).mono ?_
          rintro e w1 ⟨rfl, hb_1⟩
          have hB_1 : Below z.heap.size z w1 := below_after hS.1 hb_1
          have hS := HSZ.out _ hB_1
          refine hK _ _ hS ?_
          clear hK K
          try simp only [Act.put, st]
          refine tk 2 (v := ?_) (hp _) hS rfl (fun _ _ _ _ => trivial) ?_ ?_
          rotate_left 1
          · intro w hw; (try rw [hw]); (try go_split_ands); go_simp <;> with_reducible rfl
          try simp only [Act.put, st]
          refine tk 3 (v := ?_) (hp _) hS rfl (fun _ _ _ _ => trivial) ?_ ?_
          rotate_left 1
          · intro w hw; (try rw [hw]); (try go_split_ands); go_simp <;> with_reducible rfl
          try simp only [Act.put, st]
          refine tk 4 (v := ?_) (hp _) hS rfl (fun _ _ _ _ => trivial) ?_ ?_
          rotate_left 1
          · intro w hw; (try rw [hw]); (try go_split_ands); go_simp <;> with_reducible rfl
          try simp only [Act.put, st]
          refine tk 5 (v := ?_) (hp _) hS rfl (fun _ _ _ _ => trivial) ?_ ?_
          rotate_left 1
          · intro w hw; (try rw [hw]); (try go_split_ands); go_simp <;> with_reducible rfl
          try simp only [Act.put, st]
          refine tk 6 (v := ?_) (hp _) hS rfl (fun _ _ _ _ => trivial) ?_ ?_
          rotate_left 1
          · intro w hw; (try rw [hw]); (try go_split_ands); go_simp <;> with_reducible rfl
          try simp only [Act.put, st]
          refine sk 7 (hp _) hS rfl (fun _ _ _ _ => trivial) ?_
          try simp only [Act.put, st]
          refine sk 8 (hp _) hS rfl (fun _ _ _ _ => trivial) ?_
          try simp only [Act.put, st]
          refine sk 9 (hp _) hS rfl (fun _ _ _ _ => trivial) ?_
          try simp only [Act.put, st]
          refine sk 10 (hp _) hS rfl (fun _ _ _ _ => trivial) ?_
          try simp only [Act.put, st]
          refine sk 11 (hp _) hS rfl (fun _ _ _ _ => trivial) ?_
          try simp only [Act.put, st]
          refine sk 12 (hp _) hS rfl (fun _ _ _ _ => trivial) ?_
          try simp only [Act.put, st]
          refine tk 13 (v := ?_) (hp _) hS rfl (fun _ _ _ _ => trivial) ?_ ?_
          rotate_left 1
          · intro w hw; (try rw [hw]); (try go_split_ands); go_simp <;> with_reducible rfl
          try simp only [Act.put, st]
          refine tk 14 (v := ?_) (hp _) hS rfl (fun _ _ _ _ => trivial) ?_ ?_
          rotate_left 1
          · intro w hw; (try rw [hw]); (try go_split_ands); go_simp <;> with_reducible rfl
          try simp only [Act.put, st]
          refine held_end (by kernel_rfl) ?_
          have y0 : w1.heap[w.heap.size]? = some (.cells #[.slice (some ⟨b, off, none⟩) n c] 39 (0, 0)) := (hS.1.block _ (Array.getElem?_eq_some_iff.1 z0).1).trans z0
          have y1 : w1.heap[w.heap.size + 1]? = some (.cells #[.bool false] 4 (0, 0)) := (hS.1.block _ (Array.getElem?_eq_some_iff.1 z1).1).trans z1
          have e1 : w1.cell? ⟨w.heap.size + 1, 0, none⟩ = some (.bool false) := by simp [World.cell?, y1]
          have ef : w1.frozen? ⟨w.heap.size + 1, 0, none⟩ = false := by simp [World.frozen?, y1]
          have hBW : Below w.heap.size w w1 := hBz.trans (hS.1.mono hBz.size)
          clear hS HSZ HP HC x0 x1 x2 x3 x4 z0 z1
          gi_wp2
          go_roundw
          case rel => exact ⟨0 + 1, by omega, by go_num, fun i hi => (by rcases Nat.lt_succ_iff_lt_or_eq.1 hi with h9 | rfl; exact hA i h9; rw [HOK.out]; rfl), hBW, y0, y1⟩
          case measure => simp [intOf]; omega
      
        · have hkp : (0 : Int) < (k : Int) := by omega
          have hkb : decide ((0 : Int) < (k : Int)) = true := by simp; omega
          have hkc : decide (0 < k) = true := by simp; omega
          have hkd : 0 < k := by omega
          have hn0i : (0 : Int) < (n : Int) := by omega
          have hcb := cmpS_bd q p
          have hok2 : okAt xs k = decide (cmpS q p < 0) := by rw [HOK.out]; simp [hk0]
          have HOK := Lib.hid hok2
          clear hok2
          generalize cmpS q p = cq at *
          by_cases hcq : cq < 0
          · have hcb2 : decide (0 ≤ cq) = false := by simp; omega
            refine held_begin [0, 2, 3, 4, 5, 6, 7, 8, 9, 10, 11, 12, 13, 14] (fun w9 => Below (wr.alloc (.cells #[.int .i64 p.x, .int .i64 p.y] 23)).drew.heap.size (wr.alloc (.cells #[.int .i64 p.x, .int .i64 p.y] 23)).drew w9 ∧ w9.cell? ⟨wr.heap.size, 0, none⟩ = some (.int .i64 p.x) ∧ w9.cell? ⟨wr.heap.size, 1, none⟩ = some (.int .i64 p.y) ∧ w9.cell? ⟨w.heap.size, 0, none⟩ = some (.slice (some ⟨b, off, none⟩) n c) ∧ w9.cell? ⟨b, off, none⟩ = some (.int .i64 q.x) ∧ w9.cell? ⟨b, off + 1, none⟩ = some (.int .i64 q.y)) (by kernel_rfl) ⟨Below.refl _ _, x0, x1, x2, x3, x4⟩ (fun hS => ?_)
            generalize (wr.alloc (.cells #[.int .i64 p.x, .int .i64 p.y] 23)).drew = z at *
            have HSZ := Lib.hid (show ∀ w9, Below z.heap.size z w9 → Below z.heap.size z w9 ∧ w9.cell? ⟨wr.heap.size, 0, none⟩ = some (.int .i64 p.x) ∧ w9.cell? ⟨wr.heap.size, 1, none⟩ = some (.int .i64 p.y) ∧ w9.cell? ⟨w.heap.size, 0, none⟩ = some (.slice (some ⟨b, off, none⟩) n c) ∧ w9.cell? ⟨b, off, none⟩ = some (.int .i64 q.x) ∧ w9.cell? ⟨b, off + 1, none⟩ = some (.int .i64 q.y) from fun w9 h9 => ⟨h9, kp h9 x0, kp h9 x1, kp h9 x2, kp h9 x3, kp h9 x4⟩)
            clear c0 c1 d0 d1 e0 e1 ef hB hb0 hb1
            refine tk 0 (v := ?_) (hp _) hS rfl (fun _ _ _ _ => trivial) ?_ ?_
            rotate_left 1
            · intro w hw; (try rw [hw]); (try go_split_ands); go_simp <;> with_reducible rfl
            try simp only [Act.put, st]
            refine held_step 1 rfl (hp _) (by kernel_rfl) (by kernel_rfl) (fun K hK => ⟨?_, ?_⟩)
            · exact fun _ _ => trivial
            go_simp
            refine (callsIn_wide.2 (HP.out _)).mono ?_
            rintro e w1 ⟨rfl, hb_1⟩
            have hB_1 : Below z.heap.size z w1 := below_after hS.1 hb_1
            have hS := HSZ.out _ hB_1
            refine hK _ _ hS ?_
            clear hK K
            try simp only [Act.put, st]
            refine tk 2 (v := ?_) (hp _) hS rfl (fun _ _ _ _ => trivial) ?_ ?_
            rotate_left 1
            · intro w hw; (try rw [hw]); (try go_split_ands); go_simp <;> with_reducible rfl
            try simp only [Act.put, st]
            refine tk 3 (v := ?_) (hp _) hS rfl (fun _ _ _ _ => trivial) ?_ ?_
            rotate_left 1
            · intro w hw; (try rw [hw]); (try go_split_ands); go_simp <;> with_reducible rfl
            try simp only [Act.put, st]
            refine tk 4 (v := ?_) (hp _) hS rfl (fun _ _ _ _ => trivial) ?_ ?_
            rotate_left 1
            · intro w hw; (try rw [hw]); (try go_split_ands); go_simp <;> with_reducible rfl
            try simp only [Act.put, st]
            refine tk 5 (v := ?_) (hp _) hS rfl (fun _ _ _ _ => trivial) ?_ ?_
            rotate_left 1
            · intro w hw; (try rw [hw]); (try go_split_ands); go_simp <;> with_reducible rfl
            try simp only [Act.put, st]
            refine tk 6 (v := ?_) (hp _) hS rfl (fun _ _ _ _ => trivial) ?_ ?_
            rotate_left 1
            · intro w hw; (try rw [hw]); (try go_split_ands); go_simp <;> with_reducible rfl
            try simp only [Act.put, st]
            refine tk 7 (v := ?_) (hp _) hS rfl (fun _ _ _ _ => trivial) ?_ ?_
            rotate_left 1
            · intro w hw; (try rw [hw]); (try go_split_ands); go_simp <;> with_reducible rfl
            try simp only [Act.put, st]
            refine tk 8 (v := ?_) (hp _) hS rfl (fun _ _ _ _ => trivial) ?_ ?_
            rotate_left 1
            · intro w hw; (try rw [hw]); (try go_split_ands); go_simp <;> with_reducible rfl
            try simp only [Act.put, st]
            refine tk 9 (v := ?_) (hp _) hS rfl (fun _ _ _ _ => trivial) ?_ ?_
            rotate_left 1
            · intro w hw; (try rw [hw]); (try go_split_ands); go_simp <;> with_reducible rfl
            try simp only [Act.put, st]
            refine tk 10 (v := ?_) (hp _) hS rfl (fun _ _ _ _ => trivial) ?_ ?_
            rotate_left 1
            · intro w hw; (try rw [hw]); (try go_split_ands); go_simp <;> with_reducible rfl
            try simp only [Act.put, st]
            refine held_step 11 rfl (hp _) (by kernel_rfl) (by kernel_rfl) (fun K hK => ⟨?_, ?_⟩)
            · exact fun _ _ => trivial
            go_simp
            refine (callsIn_wide.2 (HC.out _)).mono ?_
            rintro e w2 ⟨rfl, hb_2⟩
            have hB_2 : Below z.heap.size z w2 := below_after hS.1 hb_2
            have hS := HSZ.out _ hB_2
            refine hK _ _ hS ?_
            clear hK K
            try simp only [Act.put, st]
            refine tk 12 (v := ?_) (hp _) hS rfl (fun _ _ _ _ => trivial) ?_ ?_
            rotate_left 1
            · intro w hw; (try rw [hw]); (try go_split_ands); go_simp <;> with_reducible rfl
            try simp only [Act.put, st]
            refine tk 13 (v := ?_) (hp _) hS rfl (fun _ _ _ _ => trivial) ?_ ?_
            rotate_left 1
            · intro w hw; (try rw [hw]); (try go_split_ands); go_simp <;> with_reducible rfl
            try simp only [Act.put, st]
            refine tk 14 (v := ?_) (hp _) hS rfl (fun _ _ _ _ => trivial) ?_ ?_
            rotate_left 1
            · intro w hw; (try rw [hw]); (try go_split_ands); go_simp <;> with_reducible rfl
            try simp only [Act.put, st]
            refine held_end (by kernel_rfl) ?_
            have y0 : w2.heap[w.heap.size]? = some (.cells #[.slice (some ⟨b, off, none⟩) n c] 39 (0, 0)) := (hS.1.block _ (Array.getElem?_eq_some_iff.1 z0).1).trans z0
            have y1 : w2.heap[w.heap.size + 1]? = some (.cells #[.bool false] 4 (0, 0)) := (hS.1.block _ (Array.getElem?_eq_some_iff.1 z1).1).trans z1
            have e1 : w2.cell? ⟨w.heap.size + 1, 0, none⟩ = some (.bool false) := by simp [World.cell?, y1]
            have ef : w2.frozen? ⟨w.heap.size + 1, 0, none⟩ = false := by simp [World.frozen?, y1]
            have hBW : Below w.heap.size w w2 := hBz.trans (hS.1.mono hBz.size)
            clear hS HSZ HP HC x0 x1 x2 x3 x4 z0 z1
            gi_wp2
            go_roundw
            case rel => exact ⟨k + 1, by omega, by go_num, fun i hi => (by rcases Nat.lt_succ_iff_lt_or_eq.1 hi with h9 | rfl; exact hA i h9; rw [HOK.out]; simp [hcq]), hBW, y0, y1⟩
            case measure => simp [intOf]; omega

          · have hcb2 : decide (0 ≤ cq) = true := by simp; omega
            refine held_begin [0, 2, 3, 4, 5, 6, 7, 8, 9, 10, 11, 12, 13, 14] (fun w9 => Below (wr.alloc (.cells #[.int .i64 p.x, .int .i64 p.y] 23)).drew.heap.size (wr.alloc (.cells #[.int .i64 p.x, .int .i64 p.y] 23)).drew w9 ∧ w9.cell? ⟨wr.heap.size, 0, none⟩ = some (.int .i64 p.x) ∧ w9.cell? ⟨wr.heap.size, 1, none⟩ = some (.int .i64 p.y) ∧ w9.cell? ⟨w.heap.size, 0, none⟩ = some (.slice (some ⟨b, off, none⟩) n c) ∧ w9.cell? ⟨b, off, none⟩ = some (.int .i64 q.x) ∧ w9.cell? ⟨b, off + 1, none⟩ = some (.int .i64 q.y)) (by kernel_rfl) ⟨Below.refl _ _, x0, x1, x2, x3, x4⟩ (fun hS => ?_)
            generalize (wr.alloc (.cells #[.int .i64 p.x, .int .i64 p.y] 23)).drew = z at *
            have HSZ := Lib.hid (show ∀ w9, Below z.heap.size z w9 → Below z.heap.size z w9 ∧ w9.cell? ⟨wr.heap.size, 0, none⟩ = some (.int .i64 p.x) ∧ w9.cell? ⟨wr.heap.size, 1, none⟩ = some (.int .i64 p.y) ∧ w9.cell? ⟨w.heap.size, 0, none⟩ = some (.slice (some ⟨b, off, none⟩) n c) ∧ w9.cell? ⟨b, off, none⟩ = some (.int .i64 q.x) ∧ w9.cell? ⟨b, off + 1, none⟩ = some (.int .i64 q.y) from fun w9 h9 => ⟨h9, kp h9 x0, kp h9 x1, kp h9 x2, kp h9 x3, kp h9 x4⟩)
            clear c0 c1 d0 d1 e0 e1 ef hB hb0 hb1
            refine tk 0 (v := ?_) (hp _) hS rfl (fun _ _ _ _ => trivial) ?_ ?_
            rotate_left 1
            · intro w hw; (try rw [hw]); (try go_split_ands); go_simp <;> with_reducible rfl
            try simp only [Act.put, st]
            refine held_step 1 rfl (hp _) (by kernel_rfl) (by kernel_rfl) (fun K hK => ⟨?_, ?_⟩)
            · exact fun _ _ => trivial
            go_simp
            refine (callsIn_wide.2 (HP.out _)).mono ?_
            rintro e w1 ⟨rfl, hb_1⟩
            have hB_1 : Below z.heap.size z w1 := below_after hS.1 hb_1
            have hS := HSZ.out _ hB_1
            refine hK _ _ hS ?_
            clear hK K
            try simp only [Act.put, st]
            refine tk 2 (v := ?_) (hp _) hS rfl (fun _ _ _ _ => trivial) ?_ ?_
            rotate_left 1
            · intro w hw; (try rw [hw]); (try go_split_ands); go_simp <;> with_reducible rfl
            try simp only [Act.put, st]
            refine tk 3 (v := ?_) (hp _) hS rfl (fun _ _ _ _ => trivial) ?_ ?_
            rotate_left 1
            · intro w hw; (try rw [hw]); (try go_split_ands); go_simp <;> with_reducible rfl
            try simp only [Act.put, st]
            refine tk 4 (v := ?_) (hp _) hS rfl (fun _ _ _ _ => trivial) ?_ ?_
            rotate_left 1
            · intro w hw; (try rw [hw]); (try go_split_ands); go_simp <;> with_reducible rfl
            try simp only [Act.put, st]
            refine tk 5 (v := ?_) (hp _) hS rfl (fun _ _ _ _ => trivial) ?_ ?_
            rotate_left 1
            · intro w hw; (try rw [hw]); (try go_split_ands); go_simp <;> with_reducible rfl
            try simp only [Act.put, st]
            refine tk 6 (v := ?_) (hp _) hS rfl (fun _ _ _ _ => trivial) ?_ ?_
            rotate_left 1
            · intro w hw; (try rw [hw]); (try go_split_ands); go_simp <;> with_reducible rfl
            try simp only [Act.put, st]
            refine tk 7 (v := ?_) (hp _) hS rfl (fun _ _ _ _ => trivial) ?_ ?_
            rotate_left 1
            · intro w hw; (try rw [hw]); (try go_split_ands); go_simp <;> with_reducible rfl
            try simp only [Act.put, st]
            refine tk 8 (v := ?_) (hp _) hS rfl (fun _ _ _ _ => trivial) ?_ ?_
            rotate_left 1
            · intro w hw; (try rw [hw]); (try go_split_ands); go_simp <;> with_reducible rfl
            try simp only [Act.put, st]
            refine tk 9 (v := ?_) (hp _) hS rfl (fun _ _ _ _ => trivial) ?_ ?_
            rotate_left 1
            · intro w hw; (try rw [hw]); (try go_split_ands); go_simp <;> with_reducible rfl
            try simp only [Act.put, st]
            refine tk 10 (v := ?_) (hp _) hS rfl (fun _ _ _ _ => trivial) ?_ ?_
            rotate_left 1
            · intro w hw; (try rw [hw]); (try go_split_ands); go_simp <;> with_reducible rfl
            try simp only [Act.put, st]
            refine held_step 11 rfl (hp _) (by kernel_rfl) (by kernel_rfl) (fun K hK => ⟨?_, ?_⟩)
            · exact fun _ _ => trivial
            go_simp
            refine (callsIn_wide.2 (HC.out _)).mono ?_
            rintro e w2 ⟨rfl, hb_2⟩
            have hB_2 : Below z.heap.size z w2 := below_after hS.1 hb_2
            have hS := HSZ.out _ hB_2
            refine hK _ _ hS ?_
            clear hK K
            try simp only [Act.put, st]
            refine tk 12 (v := ?_) (hp _) hS rfl (fun _ _ _ _ => trivial) ?_ ?_
            rotate_left 1
            · intro w hw; (try rw [hw]); (try go_split_ands); go_simp <;> with_reducible rfl
            try simp only [Act.put, st]
            refine tk 13 (v := ?_) (hp _) hS rfl (fun _ _ _ _ => trivial) ?_ ?_
            rotate_left 1
            · intro w hw; (try rw [hw]); (try go_split_ands); go_simp <;> with_reducible rfl
            try simp only [Act.put, st]
            refine tk 14 (v := ?_) (hp _) hS rfl (fun _ _ _ _ => trivial) ?_ ?_
            rotate_left 1
            · intro w hw; (try rw [hw]); (try go_split_ands); go_simp <;> with_reducible rfl
            try simp only [Act.put, st]
            refine held_end (by kernel_rfl) ?_
            have y0 : w2.heap[w.heap.size]? = some (.cells #[.slice (some ⟨b, off, none⟩) n c] 39 (0, 0)) := (hS.1.block _ (Array.getElem?_eq_some_iff.1 z0).1).trans z0
            have y1 : w2.heap[w.heap.size + 1]? = some (.cells #[.bool false] 4 (0, 0)) := (hS.1.block _ (Array.getElem?_eq_some_iff.1 z1).1).trans z1
            have e1 : w2.cell? ⟨w.heap.size + 1, 0, none⟩ = some (.bool false) := by simp [World.cell?, y1]
            have ef : w2.frozen? ⟨w.heap.size + 1, 0, none⟩ = false := by simp [World.frozen?, y1]
            have hBW : Below w.heap.size w w2 := hBz.trans (hS.1.mono hBz.size)
            clear hS HSZ HP HC x0 x1 x2 x3 x4 z0 z1
            gi_wp2
            have hc5 := World.cell?_setCell_same' w2 ⟨w.heap.size + 1, 0, none⟩ (.bool false) (by rw [e1]; rfl)
            refine ⟨.bool false, ?_, ret_bool (validB_bad xs HN.out hlt (by rw [HOK.out]; simp [hcq])).symm, by go_grown⟩
            simp [results, Tryz.f54, go_sem, hc5]

    · obtain rfl : k = n := by omega
      have hnlt : ¬ ((k : Int) < (k : Int)) := by omega
      have hfirst : firstB xs = true := by
        unfold firstB
        rw [List.all_eq_true, HN.out]
        exact fun i hi => hA i (List.mem_range.1 hi)
      have HF := Lib.hid hfirst
      clear hfirst hA
      by_cases h3 : k < 3
      · have h3i : (k : Int) < 3 := by omega
        have hv : validB xs = true := by
          simp only [validB, HF.out, HN.out]; simp; omega
        have HV := Lib.hid hv
        clear hv
        gi_wp2
        have hc5 := World.cell?_setCell_same' wr ⟨w.heap.size + 1, 0, none⟩ (.bool true) (by rw [e1]; rfl)
        refine ⟨.bool true, ?_, ret_bool HV.out.symm, by go_grown⟩
        simp [results, Tryz.f54, go_sem, hc5]
      · have h3i : ¬ ((k : Int) < 3) := by omega
        gi_wp2_with (refine ⟨trivial, ?_⟩; gi_at_call 57; refine (hsides_in Fence.wide 5 trivial rfl _ _ _ _).mono ?_; rintro e w' ⟨rfl, rfl⟩)
        obtain ⟨W0, hW0⟩ : ∃ W0, wr.alloc (.cells #[.slice (some ⟨b, off, none⟩) k c] 39) = W0 := ⟨_, rfl⟩
        have hs0 : wr.heap.size < W0.heap.size := by rw [← hW0]; simp
        have hB0 : Below w.heap.size w W0 := by rw [← hW0]; exact hB.alloc hB.size _
        have hBs0 : W0.heap[wr.heap.size]? = some (.cells #[.slice (some ⟨b, off, none⟩) k c] 39 (0, 0)) := by rw [← hW0]; exact World.alloc_heap_new _ _
        have g0 : W0.cell? ⟨w.heap.size, 0, none⟩ = some (.slice (some ⟨b, off, none⟩) k c) := by rw [← hW0]; exact kp ((Below.refl _ wr).alloc (Nat.le_refl _) _) e0
        have g1 : W0.cell? ⟨w.heap.size + 1, 0, none⟩ = some (.bool false) := by rw [← hW0]; exact kp ((Below.refl _ wr).alloc (Nat.le_refl _) _) e1
        have gf1 : W0.frozen? ⟨w.heap.size + 1, 0, none⟩ = false := by rw [← hW0]; exact kf ((Below.refl _ wr).alloc (Nat.le_refl _) _) (by rw [e1]; rfl) ef
        have hws := hB.size
        rw [hW0]
        clear hW0 e0 e1 ef hb0 hb1 hB
        refine wpIn_rangeFunc_ownH rfl (by omega) (gf := 83) (lb := #[.pointer (some ⟨wr.heap.size, 0, none⟩)]) rfl trivial (enters_of Tryz.func83 (by kernel_rfl) rfl)
          (hsides_stops Fence.wide _ trivial rfl (by omega) wr.heap.size w.heap.size _ k c xs HN.out (by omega) W0 hB0.size hBs0 (HX.out.upto hB0)) kp2_t (kp2_b hB0.size) (Below.refl _ _) (fun _ => rfl)
          (fun pre W => (SdAll xs pre ∧ W.cell? ⟨w.heap.size, 0, none⟩ = some (.slice (some ⟨b, off, none⟩) k c) ∧ W.cell? ⟨w.heap.size + 1, 0, none⟩ = some (.bool false) ∧ W.frozen? ⟨w.heap.size + 1, 0, none⟩ = false) ∧ Below w.heap.size w W)
          (fun cd pre W => (cd = .ret ∧ SdBad xs pre ∧ W.cell? ⟨w.heap.size + 1, 0, none⟩ = some (.bool false)) ∧ Below w.heap.size w W)
          (OwnFrom.and (Own.from (fun s A B row hs hg hr => ⟨hs.1, cell_kept hs.2.1 hg hr, cell_kept hs.2.2.1 hg hr, (frozen_kept hs.2.2.1 hg hr).trans hs.2.2.2⟩) _) (ownFrom_below (Nat.le_refl _) hB0.size))
          (fun c => OwnFrom.and (Own.from (fun s A B row hs hg hr => ⟨hs.1, hs.2.1, cell_kept hs.2.2 hg hr⟩) _) (ownFrom_below (Nat.le_refl _) hB0.size))
          ⟨⟨fun p hp => absurd hp (by simp), g0, g1, gf1⟩, hB0⟩
          (fun x a' W => ∃ Ba Bb, w.heap.size ≤ Ba ∧ w.heap.size ≤ Bb ∧ PtAt W Ba 0 x.1.1 ∧ PtAt W Bb 0 x.1.2 ∧ a' = { tmps := #[Value.slice (some ⟨b, off, none⟩) k c, Value.pointer (some ⟨w.heap.size, 0, none⟩), Value.pointer (some ⟨w.heap.size + 1, 0, none⟩), u3, u4, .pointer (some ⟨Ba, 0, none⟩), .pointer (some ⟨Bb, 0, none⟩), undef, undef, Value.slice (some ⟨b, off, none⟩) k c, .int .i64 ↑k, Value.bool false, Value.bool false, Value.slice (some ⟨b, off, none⟩) k c, .int .i64 ↑k, Value.bool false, Value.bool false, Value.slice (some ⟨b, off, none⟩) k c, .int .i64 ↑k, .int .i64 ↑k, Value.bool false, u21, u22, u23, u24, u25, u26, u27, u28, u29, u30, u31, u32, u33, u34, u35, u36, u37, u38, u39, Value.slice (some ⟨b, off, none⟩) k c, .int .i64 ↑k, Value.bool false, Value.slice (some ⟨b, off, none⟩) k c, Value.func (Fn.func 83) #[] #[Value.pointer (some ⟨wr.heap.size, 0, none⟩)], .agg #[.int .i64 x.1.1.x, .int .i64 x.1.1.y], .agg #[.int .i64 x.1.2.x, .int .i64 x.1.2.y], undef, undef, undef, undef, undef, undef, undef, undef, undef, undef, undef, undef, undef, undef, undef, undef, undef, undef, undef, undef, undef, undef], defers := [] })
          (fun x a' _ X Y row hs hg hr => by
            obtain ⟨Ba, Bb, h1, h2, ⟨h3, h4⟩, ⟨h5, h6⟩, h7⟩ := hs
            exact ⟨Ba, Bb, h1, h2, ⟨cell_kept h3 hg (fun r e => (hr r e).2), cell_kept h4 hg (fun r e => (hr r e).2)⟩, ⟨cell_kept h5 hg (fun r e => (hr r e).2), cell_kept h6 hg (fun r e => (hr r e).2)⟩, h7⟩)
          ?assign ?body ?done ?stop
        case assign =>
          rintro l pre x W K ⟨⟨hp, hc0, hc1, hf1⟩, hB⟩ hK
          gi_wp2
          have hbn : Below W.heap.size W ((W.alloc (.cells #[.int .i64 x.1.1.x, .int .i64 x.1.1.y] 23)).alloc (.cells #[.int .i64 x.1.2.x, .int .i64 x.1.2.y] 23)) := by go_grown
          exact hK _ _ (keepsFrom_of hbn _) ⟨hbn.mono hB.size, KeepT.below hbn⟩ ⟨⟨hp, kp hbn hc0, kp hbn hc1, kf hbn (by rw [hc1]; rfl) hf1⟩, hB.trans (hbn.mono hB.size)⟩ ⟨W.heap.size, W.heap.size + 1, hB.size, by have := hB.size; omega, ⟨by go_cell, by go_cell⟩, ⟨by go_cell, by go_cell⟩, rfl⟩
        case body =>
          rintro l pre ⟨⟨⟨a1x, a1y⟩, ⟨a2x, a2y⟩⟩, hmem⟩ a' W hl ⟨r, hr⟩ ⟨⟨hp, hc0, hc1, hf1⟩, hB⟩ ⟨Ba, Bb, hBa, hBb, ⟨x0, x1⟩, ⟨y0, y1⟩, rfl⟩ hlen
          dsimp only at x0 x1 y0 y1 ⊢
          have hm12 := sides_mem hmem
          have hnr1 := nr_of_first HF.out hm12.1
          have hnr2 := nr_of_first HF.out hm12.2
          have HM := Lib.hid hm12
          have HME := Lib.hid hmem
          clear hm12
          simp only [Nat.zero_add] at x1 y1
          gi_wp2
          gi_loopw [49] (fun s49 wr2 => ∃ j : Nat, j ≤ k ∧ s49 = .int .i64 j ∧ Aside (∀ i q, i < j → xs[i]? = some q → (decide (q = ⟨a1x, a1y⟩) || decide (q = ⟨a2x, a2y⟩) || decide (0 < turnS ⟨a1x, a1y⟩ ⟨a2x, a2y⟩ q)) = true) ∧ Below W.heap.size W wr2)
            (fun s49 _ => k - (intOf s49).toNat)
          case atStart => exact ⟨0, Nat.zero_le _, rfl, fun i q hi => absurd hi (Nat.not_lt_zero i), Below.refl _ _⟩
          case round =>
            obtain ⟨j, hj, rfl, hA, hB2⟩ := hrel
            have hBw := hB.trans (hB2.mono hB.size)
            replace x0 := kp hB2 x0
            replace x1 := kp hB2 x1
            replace y0 := kp hB2 y0
            replace y1 := kp hB2 y1
            have hc1' := kp hB2 hc1
            have hf1' := kf hB2 (by rw [hc1]; rfl) hf1
            by_cases hlt : j < k
            · obtain ⟨⟨px, py⟩, hpj⟩ : ∃ p, xs[j]? = some p := ⟨_, List.getElem?_eq_getElem (by rw [HN.out]; exact hlt)⟩
              obtain ⟨c0, c1⟩ := (HCS.out j _ hpj).upto hBw hlt0
              have hlt2 : (j : Int) < (k : Int) := by omega
              have hst : ∀ v : Bool, (decide ((⟨px, py⟩ : Pt) = ⟨a1x, a1y⟩) || decide ((⟨px, py⟩ : Pt) = ⟨a2x, a2y⟩) || decide (0 < turnS ⟨a1x, a1y⟩ ⟨a2x, a2y⟩ ⟨px, py⟩)) = v → v = true → ∀ i q, i < j + 1 → xs[i]? = some q → (decide (q = ⟨a1x, a1y⟩) || decide (q = ⟨a2x, a2y⟩) || decide (0 < turnS ⟨a1x, a1y⟩ ⟨a2x, a2y⟩ q)) = true := fun v hv hvt i q hi hq => by
                rcases Nat.lt_succ_iff_lt_or_eq.1 hi with h9 | rfl
                · exact hA i q h9 hq
                · rw [hpj] at hq; cases hq; rw [hv]; exact hvt
              have HST := Lib.hid hst
              have hbad : (decide ((⟨px, py⟩ : Pt) = ⟨a1x, a1y⟩) || decide ((⟨px, py⟩ : Pt) = ⟨a2x, a2y⟩) || decide (0 < turnS ⟨a1x, a1y⟩ ⟨a2x, a2y⟩ ⟨px, py⟩)) = false → sideOk xs (⟨a1x, a1y⟩, ⟨a2x, a2y⟩) = false := fun h9 => by
                unfold sideOk
                rw [List.all_eq_false]
                exact ⟨_, List.mem_of_getElem? hpj, by rw [h9]; simp⟩
              have HBAD := Lib.hid hbad
              have vT := fun W => hturn_any ⟨a1x, a1y⟩ ⟨a2x, a2y⟩ ⟨px, py⟩ W hnr1 hnr2 (nr_of_first HF.out (List.mem_of_getElem? hpj))
              clear hst hbad hA hpj
              have hb7 : Below wr.heap.size wr (wr.alloc (.cells #[.int .i64 px, .int .i64 py] 23)) := (Below.refl _ wr).alloc (Nat.le_refl _) _
              have hb9 := hB2.trans (hb7.mono hB2.size)
              dsimp only at c0 c1
              by_cases e1 : px = a1x ∧ py = a1y
              · have hgo := HST.out true (by simp [e1]) rfl
                have HGO := Lib.hid hgo
                obtain ⟨e1x, e1y⟩ := e1
                clear vT HST HBAD hgo
                subst e1x e1y
                gi_wp2
                refine ⟨trivial, ?_⟩
                gi_wp2
                go_roundw
                case rel => exact ⟨j + 1, by omega, by go_num, HGO.out, hb9⟩
                case measure => simp [intOf]; omega
              have f1 : px ≠ a1x ∨ px = a1x ∧ py ≠ a1y := by omega
              by_cases e2 : px = a2x ∧ py = a2y
              · have hgo := HST.out true (by simp [e2]) rfl
                have HGO := Lib.hid hgo
                obtain ⟨e2x, e2y⟩ := e2
                clear vT HST HBAD hgo e1
                subst e2x e2y
                rcases f1 with f1 | ⟨f1, f2⟩
                rotate_left 1
                · subst f1
                  gi_wp2
                  refine ⟨trivial, ?_⟩
                  gi_wp2
                  go_roundw
                  case rel => exact ⟨j + 1, by omega, by go_num, HGO.out, hb9⟩
                  case measure => simp [intOf]; omega
                gi_wp2
                refine ⟨trivial, ?_⟩
                gi_wp2
                go_roundw
                case rel => exact ⟨j + 1, by omega, by go_num, HGO.out, hb9⟩
                case measure => simp [intOf]; omega
              have f2 : px ≠ a2x ∨ px = a2x ∧ py ≠ a2y := by omega
              have hno : ((decide ((⟨px, py⟩ : Pt) = ⟨a1x, a1y⟩)) = false) ∧ ((decide ((⟨px, py⟩ : Pt) = ⟨a2x, a2y⟩)) = false) := by simp; omega
              rw [hno.1, hno.2, Bool.false_or, Bool.false_or] at HST HBAD
              clear hno e1 e2
              generalize hT : turnS ⟨a1x, a1y⟩ ⟨a2x, a2y⟩ ⟨px, py⟩ = T at *
              have HT := Lib.hid vT
              by_cases hpos : 0 < T
              · have hgo := HST.out true (by simp [hpos]) rfl
                have HGO := Lib.hid hgo
                have hle : decide (T ≤ 0) = false := by simp; omega
                clear vT hT HST HBAD hgo
                rcases f1 with f1 | ⟨f1, f1'⟩ <;> rcases f2 with f2 | ⟨f2, f2'⟩ <;> (try subst f1) <;> (try subst f2)
                all_goals
                  gi_wp2
                  refine ⟨trivial, (CallsIn.inRound l (callsIn_wide.2 (HT.out _))).mono ?_⟩
                  rintro e w5 ⟨rfl, hb5⟩
                  have hb6 := hb7.trans (hb5.mono hb7.size)
                  gi_wp2
                  go_roundw
                  case rel => exact ⟨j + 1, by omega, by go_num, HGO.out, hB2.trans (hb6.mono hB2.size)⟩
                  case measure => simp [intOf]; omega
              · have hgo := HBAD.out (by simp [hpos])
                have HGO := Lib.hid hgo
                have hle : decide (T ≤ 0) = true := by simp; omega
                clear vT hT HST HBAD hgo
                rcases f1 with f1 | ⟨f1, f1'⟩ <;> rcases f2 with f2 | ⟨f2, f2'⟩ <;> (try subst f1) <;> (try subst f2)
                all_goals
                  gi_wp2
                  refine ⟨trivial, (CallsIn.inRound l (callsIn_wide.2 (HT.out _))).mono ?_⟩
                  rintro e w5 ⟨rfl, hb5⟩
                  have hb6 := hb7.trans (hb5.mono hb7.size)
                  have k1 := kp hb6 hc1'
                  have kf1 := kf hb6 (by rw [hc1']; rfl) hf1'
                  have hb8 := hB2.trans (hb6.mono hB2.size)
                  gi_wp2
                  exact ⟨(keepsFrom_of hb8 _).trans ((KeepsOthers.setCell _ _ _).from _), ⟨rfl, ⟨⟨_, hmem⟩, List.mem_append_right _ (List.mem_singleton.2 rfl), HGO.out⟩, World.cell?_setCell_same' _ _ _ (by rw [k1]; rfl)⟩, (hB.trans (hb8.mono hB.size)).setCell (p := ⟨w.heap.size + 1, 0, none⟩) (by simp) _⟩
            · obtain rfl : j = k := by omega
              have hnlt : ¬ ((j : Int) < (j : Int)) := by omega
              have hok : sideOk xs (⟨a1x, a1y⟩, ⟨a2x, a2y⟩) = true := by
                unfold sideOk
                rw [List.all_eq_true]
                intro q hq
                obtain ⟨i, hi⟩ := List.getElem?_of_mem hq
                exact hA i q (by have := (List.getElem?_eq_some_iff.1 hi).1; rw [HN.out] at this; exact this) hi
              have HOK := Lib.hid hok
              clear hok hA
              gi_wp2
              exact ⟨keepsFrom_of hB2 _, ⟨hB2.mono hB.size, KeepT.below hB2⟩, ⟨fun s hs => by
                rcases List.mem_append.1 hs with h9 | h9
                · exact hp s h9
                · rw [List.mem_singleton.1 h9]; exact HOK.out, kp hB2 hc0, hc1', hf1'⟩, hBw⟩
        case done =>
          rintro D ys W hD rfl ⟨⟨hall, hc0, hc1, hf1⟩, hB⟩ hK
          have hv : validB xs = true := by
            have h9 : (sidesL xs).all (sideOk xs) = true := by
              rw [List.all_eq_true]
              exact fun s hs => hall ⟨s, hs⟩ (List.mem_attach _ _)
            simp only [validB, HF.out, h9, HN.out]; simp; omega
          have HV := Lib.hid hv
          clear hv hall
          gi_wp2
          have hK' := (KeepsOthers.setCell W ⟨w.heap.size + 1, 0, none⟩ (.bool true)).same D _ hK rfl
          refine ⟨by simp, .inl ⟨_, _, rfl, run_takeDeferred hK', ?_⟩⟩
          have hc5 := cell_kept (World.cell?_setCell_same' W ⟨w.heap.size + 1, 0, none⟩ (.bool true) (by rw [hc1]; rfl)) (grownBy_putObj' _ D (.deferred none)) (fun r e => by cases e; exact ⟨_, hK', rfl⟩)
          refine ⟨.bool true, ?_, ?_, (hB.setCell (p := ⟨w.heap.size + 1, 0, none⟩) (by simp) _).trans (belowK_b (w := w) (Nat.le_refl _) _ D _ _ (by have := hB0.size; omega) hK' rfl rfl)⟩
          · simp [results, Tryz.f54, go_sem, hc5]
          · rw [HV.out]
        case stop =>
          rintro D cd pre W hD hpre ⟨⟨rfl, ⟨s, hs, hsb⟩, hc1⟩, hB⟩ hK
          have hv : validB xs = false := by
            have h9 : (sidesL xs).all (sideOk xs) = false := by
              rw [List.all_eq_false]
              exact ⟨s.1, s.2, by rw [hsb]; simp⟩
            simp only [validB, h9, HN.out]; simp; omega
          have HV := Lib.hid hv
          clear hv hsb hpre hs
          gi_wp2
          refine ⟨by simp, .inl ⟨_, _, rfl, run_takeDeferred hK, ?_⟩⟩
          have hc5 := cell_kept hc1 (grownBy_putObj' _ D (.deferred none)) (fun r e => by cases e; exact ⟨_, hK, rfl⟩)
          refine ⟨.bool false, ?_, ?_, hB.trans (belowK_b (w := w) (Nat.le_refl _) W D _ _ (by have := hB0.size; omega) hK rfl rfl)⟩
          · simp [results, Tryz.f54, go_sem, hc5]
          · rw [HV.out]

theorem hValid_any (A : Option Addr) (n c : Nat) (xs : List Pt) (w : World) (hn : xs.length = n) (hx : Pts? w.heap.size w A xs) (hI : ∀ p ∈ xs, I64 p.x ∧ I64 p.y) :
    Calls Tryz.prog 54 #[.slice A n c] w fun e w' => e = .returned (.bool (validB xs)) ∧ Below w.heap.size w w' := by
  by_cases h0 : n = 0
  · exact hValid_zero A n c xs w hn h0
  by_cases h64 : 64 < n
  · exact hValid_many A n c xs w hn h64
  exact hValid_go A n c xs w hn (by omega) (by omega) hx hI
end Go.Proofs.YtnhdnkeiijiiaaaGreat
namespace Go.Proofs.YtnhdnkeiijiiaaaGreat
open Go.RowKit
set_option linter.unusedSimpArgs false
set_option linter.unusedVariables false
attribute [local go_sem ↓] Go.wp_at_zero Go.wp_at_succ

/-- a slice of slices of points, in blocks below n₀ -/
def Reg? (n₀ : Nat) (w : World) (A : Option Addr) (rs : List (List Pt)) : Prop :=
  0 < rs.length → ∃ b off, A = some ⟨b, off, none⟩ ∧ b < n₀ ∧ ∀ i r, rs[i]? = some r → ∃ Ai ci, w.cell? ⟨b, off + i, none⟩ = some (.slice Ai r.length ci) ∧ Pts? n₀ w Ai r
theorem Reg?.upto {n₀ : Nat} {w w' : World} {A : Option Addr} {rs : List (List Pt)} (h : Reg? n₀ w A rs) (hb : Below n₀ w w') : Reg? n₀ w' A rs := fun hn => by
  obtain ⟨b, off, e, hlt, hc⟩ := h hn
  exact ⟨b, off, e, hlt, fun i r hr => by
    obtain ⟨Ai, ci, h1, h2⟩ := hc i r hr
    exact ⟨Ai, ci, (hb.cell (p := ⟨b, off + i, none⟩) hlt).trans h1, h2.upto hb⟩⟩
theorem Reg?.mono {n₀ n₁ : Nat} {w : World} {A : Option Addr} {rs : List (List Pt)} (h : Reg? n₀ w A rs) (hn : n₀ ≤ n₁) : Reg? n₁ w A rs := fun hx => by
  obtain ⟨b, off, e, hlt, hc⟩ := h hx
  exact ⟨b, off, e, by omega, fun i r hr => by
    obtain ⟨Ai, ci, h1, h2⟩ := hc i r hr
    exact ⟨Ai, ci, h1, h2.mono hn⟩⟩
/-- the same, later -/
theorem Reg?.later {w w' : World} {A : Option Addr} {rs : List (List Pt)} (h : Reg? w.heap.size w A rs) (hb : Below w.heap.size w w') : Reg? w'.heap.size w' A rs := (h.upto hb).mono hb.size
theorem Pts?.later {w w' : World} {A : Option Addr} {xs : List Pt} (h : Pts? w.heap.size w A xs) (hb : Below w.heap.size w w') : Pts? w'.heap.size w' A xs := (h.upto hb).mono hb.size
def Ok64 (xs : List Pt) : Prop := ∀ p ∈ xs, I64 p.x ∧ I64 p.y
def Oks64 (rs : List (List Pt)) : Prop := ∀ r ∈ rs, Ok64 r
theorem ok64_of_pl {xs : List Pt} (h : ∀ p ∈ xs, plB p = true) : Ok64 xs := fun p hp => by
  have := (plB_iff p).1 (h p hp); unfold I64; omega
theorem Below.after' {w w0 w1 : World} (h : Below w.heap.size w w0) (h1 : Below w0.heap.size w0 w1) : Below w.heap.size w w1 := h.trans (h1.mono h.size)
/-- the index of the first element for which p holds, counted from k -/
def idxL {α : Type} (p : α → Bool) : List α → Nat → Int
  | [], _ => -1
  | r :: xs, k => if p r then k else idxL p xs (k + 1)
theorem idxL_drop {α : Type} (p : α → Bool) (xs : List α) (k : Nat) (r : α) (h : xs[k]? = some r) : idxL p (xs.drop k) k = if p r then (k : Int) else idxL p (xs.drop (k + 1)) (k + 1) := by
  obtain ⟨hk, rfl⟩ := List.getElem?_eq_some_iff.1 h
  rw [List.drop_eq_getElem_cons hk]; rfl
theorem idxL_end {α : Type} (p : α → Bool) (xs : List α) (k : Nat) (h : xs.length ≤ k) : idxL p (xs.drop k) k = -1 := by
  rw [List.drop_eq_nil_of_le h]; rfl
theorem idxL_nonneg {α : Type} (p : α → Bool) : ∀ (xs : List α) (k : Nat), decide (0 ≤ idxL p xs k) = xs.any p
  | [], k => by simp [idxL]
  | r :: xs, k => by
    simp only [idxL, List.any_cons]
    by_cases h : p r = true
    · simp [h]
    · simp only [h, Bool.false_eq_true, if_false, Bool.false_or]; exact idxL_nonneg p xs (k + 1)
theorem idxL_bd {α : Type} (p : α → Bool) : ∀ (xs : List α) (k : Nat), -1 ≤ idxL p xs k ∧ idxL p xs k ≤ xs.length + k
  | [], k => by simp [idxL] <;> omega
  | r :: xs, k => by
    simp only [idxL]
    split
    · simp; omega
    · have := idxL_bd p xs (k + 1); simp; omega
set_option maxHeartbeats 1600000 in
set_option maxRecDepth 100000 in
theorem idx58_inv (q : List Pt → Bool) (A : Option Addr) (n c : Nat) (rs : List (List Pt)) (w : World) (hn : rs.length = n) (hbig : n ≤ 9223372036854775807) (hx : Reg? w.heap.size w A rs)
    (hp : ∀ W r Ai ci, r ∈ rs → Below w.heap.size w W → Pts? W.heap.size W Ai r → Calls Tryz.prog 53 #[.slice Ai r.length ci] W fun e w' => e = .returned (.bool (q r)) ∧ Below W.heap.size W w') :
    Calls Tryz.prog 58 #[.slice A n c, .func (.func 53) #[] #[]] w fun e w' => e = .returned (.int .i64 (idxL q rs 0)) ∧ Below w.heap.size w w' := by
  have HP := Lib.hid hp
  have HX := Lib.hid hx
  have HN := Lib.hid hn
  generalize hR : idxL q rs 0 = R
  have HR := Lib.hid hR
  clear hp hx hn hR
  go_enter Tryz.func58, Tryz.ntmps58
  go_wp2_with fail
  go_loopg [8] (n + 1) (fun g s8 wr => ∃ k : Nat, k ≤ n ∧ g + k = n + 1 ∧ s8 = .int .i64 k ∧ Aside (idxL q (rs.drop k) k = R) ∧ Below w.heap.size w wr)
  case atStart => exact ⟨0, by omega, by omega, rfl, HR.out, Below.refl _ _⟩
  case round =>
    obtain ⟨k, hk, hg, rfl, HB, hBr⟩ := hrel
    by_cases hlt : k < n
    · obtain ⟨r, hr⟩ : ∃ r, rs[k]? = some r := ⟨_, List.getElem?_eq_getElem (by rw [HN.out]; exact hlt)⟩
      have hd := (idxL_drop q rs k r hr).symm.trans HB.out
      obtain ⟨b, off, rfl, hlt0, hc⟩ := HX.out (by rw [HN.out]; omega)
      obtain ⟨Ai, ci, c0, hpts⟩ := hc k r hr
      replace c0 := (hBr.cell (p := ⟨b, off + k, none⟩) hlt0).trans c0
      have hcall := HP.out wr r Ai ci (List.mem_of_getElem? hr) hBr (hpts.later hBr)
      generalize r.length = m at *
      have hlt2 : (k : Int) < (n : Int) := by omega
      cases hq : q r with
      | true =>
        rw [hq] at hcall hd
        have HC := Lib.hid hcall
        have HD := Lib.hid hd
        clear hcall hq hd hc hr hpts
        go_wp2_with fail
        refine HC.out.mono ?_
        rintro e w1 ⟨rfl, hb1⟩
        have hB1 : Below w.heap.size w w1 := below_after hBr hb1
        clear hb1
        go_wp2_with fail
        go_ret
        exact ⟨ret_int (by have := HD.out; simpa using this), by go_grown⟩
      | false =>
        rw [hq] at hcall hd
        have HC := Lib.hid hcall
        have HD := Lib.hid hd
        clear hcall hq hd hc hr hpts
        go_wp2_with fail
        refine HC.out.mono ?_
        rintro e w1 ⟨rfl, hb1⟩
        have hB1 : Below w.heap.size w w1 := below_after hBr hb1
        clear hb1
        go_wp2_with fail
        go_roundg (gk - 1)
        case measure => omega
        case rel => exact ⟨k + 1, by omega, by omega, by go_num, (by have h9 := HD.out; simp only [Bool.false_eq_true, if_false] at h9; exact h9), hB1⟩
    · have hd := (idxL_end q rs k (by rw [HN.out]; omega)).symm.trans HB.out
      have HD := Lib.hid hd
      have hnlt : ¬ ((k : Int) < (n : Int)) := by omega
      clear hd
      go_wp2_with fail
      go_ret
      exact ⟨ret_int HD.out, by go_grown⟩
set_option maxHeartbeats 1600000 in
set_option maxRecDepth 100000 in
theorem has30_inv (q : List Pt → Bool) (A : Option Addr) (n c : Nat) (rs : List (List Pt)) (w : World) (hn : rs.length = n) (hbig : n ≤ 9223372036854775807) (hx : Reg? w.heap.size w A rs)
    (hp : ∀ W r Ai ci, r ∈ rs → Below w.heap.size w W → Pts? W.heap.size W Ai r → Calls Tryz.prog 53 #[.slice Ai r.length ci] W fun e w' => e = .returned (.bool (q r)) ∧ Below W.heap.size W w') :
    Calls Tryz.prog 30 #[.slice A n c, .func (.func 53) #[] #[]] w fun e w' => e = .returned (.bool (rs.any q)) ∧ Below w.heap.size w w' := by
  have v := idx58_inv q A n c rs w hn hbig hx hp
  have hb := idxL_bd q rs 0
  rw [← idxL_nonneg q rs 0]
  generalize idxL q rs 0 = R at *
  have HV := Lib.hid v
  clear v hp hx hn
  go_enter Tryz.func30, Tryz.ntmps30
  go_wp2_with fail
  refine HV.out.mono ?_
  rintro e w1 ⟨rfl, hb1⟩
  go_wp2_with fail
  all_goals
    go_ret
    exact ⟨ret_bool (by first | rfl | (simp; omega)), hb1⟩
set_option maxHeartbeats 1600000 in
set_option maxRecDepth 100000 in
theorem idx58_are (q : List Pt → Bool) (A : Option Addr) (n c : Nat) (rs : List (List Pt)) (w : World) (hn : rs.length = n) (hbig : n ≤ 9223372036854775807) (hx : Reg? w.heap.size w A rs)
    (hp : ∀ W r Ai ci, r ∈ rs → Below w.heap.size w W → Pts? W.heap.size W Ai r → Calls Tryz.prog 81 #[.slice Ai r.length ci] W fun e w' => e = .returned (.bool (q r)) ∧ Below W.heap.size W w') :
    Calls Tryz.prog 58 #[.slice A n c, .func (.func 81) #[] #[]] w fun e w' => e = .returned (.int .i64 (idxL q rs 0)) ∧ Below w.heap.size w w' := by
  have HP := Lib.hid hp
  have HX := Lib.hid hx
  have HN := Lib.hid hn
  generalize hR : idxL q rs 0 = R
  have HR := Lib.hid hR
  clear hp hx hn hR
  go_enter Tryz.func58, Tryz.ntmps58
  go_wp2_with fail
  go_loopg [8] (n + 1) (fun g s8 wr => ∃ k : Nat, k ≤ n ∧ g + k = n + 1 ∧ s8 = .int .i64 k ∧ Aside (idxL q (rs.drop k) k = R) ∧ Below w.heap.size w wr)
  case atStart => exact ⟨0, by omega, by omega, rfl, HR.out, Below.refl _ _⟩
  case round =>
    obtain ⟨k, hk, hg, rfl, HB, hBr⟩ := hrel
    by_cases hlt : k < n
    · obtain ⟨r, hr⟩ : ∃ r, rs[k]? = some r := ⟨_, List.getElem?_eq_getElem (by rw [HN.out]; exact hlt)⟩
      have hd := (idxL_drop q rs k r hr).symm.trans HB.out
      obtain ⟨b, off, rfl, hlt0, hc⟩ := HX.out (by rw [HN.out]; omega)
      obtain ⟨Ai, ci, c0, hpts⟩ := hc k r hr
      replace c0 := (hBr.cell (p := ⟨b, off + k, none⟩) hlt0).trans c0
      have hcall := HP.out wr r Ai ci (List.mem_of_getElem? hr) hBr (hpts.later hBr)
      generalize r.length = m at *
      have hlt2 : (k : Int) < (n : Int) := by omega
      cases hq : q r with
      | true =>
        rw [hq] at hcall hd
        have HC := Lib.hid hcall
        have HD := Lib.hid hd
        clear hcall hq hd hc hr hpts
        go_wp2_with fail
        refine HC.out.mono ?_
        rintro e w1 ⟨rfl, hb1⟩
        have hB1 : Below w.heap.size w w1 := below_after hBr hb1
        clear hb1
        go_wp2_with fail
        go_ret
        exact ⟨ret_int (by have := HD.out; simpa using this), by go_grown⟩
      | false =>
        rw [hq] at hcall hd
        have HC := Lib.hid hcall
        have HD := Lib.hid hd
        clear hcall hq hd hc hr hpts
        go_wp2_with fail
        refine HC.out.mono ?_
        rintro e w1 ⟨rfl, hb1⟩
        have hB1 : Below w.heap.size w w1 := below_after hBr hb1
        clear hb1
        go_wp2_with fail
        go_roundg (gk - 1)
        case measure => omega
        case rel => exact ⟨k + 1, by omega, by omega, by go_num, (by have h9 := HD.out; simp only [Bool.false_eq_true, if_false] at h9; exact h9), hB1⟩
    · have hd := (idxL_end q rs k (by rw [HN.out]; omega)).symm.trans HB.out
      have HD := Lib.hid hd
      have hnlt : ¬ ((k : Int) < (n : Int)) := by omega
      clear hd
      go_wp2_with fail
      go_ret
      exact ⟨ret_int HD.out, by go_grown⟩
set_option maxHeartbeats 1600000 in
set_option maxRecDepth 100000 in
theorem has30_are (q : List Pt → Bool) (A : Option Addr) (n c : Nat) (rs : List (List Pt)) (w : World) (hn : rs.length = n) (hbig : n ≤ 9223372036854775807) (hx : Reg? w.heap.size w A rs)
    (hp : ∀ W r Ai ci, r ∈ rs → Below w.heap.size w W → Pts? W.heap.size W Ai r → Calls Tryz.prog 81 #[.slice Ai r.length ci] W fun e w' => e = .returned (.bool (q r)) ∧ Below W.heap.size W w') :
    Calls Tryz.prog 30 #[.slice A n c, .func (.func 81) #[] #[]] w fun e w' => e = .returned (.bool (rs.any q)) ∧ Below w.heap.size w w' := by
  have v := idx58_are q A n c rs w hn hbig hx hp
  have hb := idxL_bd q rs 0
  rw [← idxL_nonneg q rs 0]
  generalize idxL q rs 0 = R at *
  have HV := Lib.hid v
  clear v hp hx hn
  go_enter Tryz.func30, Tryz.ntmps30
  go_wp2_with fail
  refine HV.out.mono ?_
  rintro e w1 ⟨rfl, hb1⟩
  go_wp2_with fail
  all_goals
    go_ret
    exact ⟨ret_bool (by first | rfl | (simp; omega)), hb1⟩
set_option maxHeartbeats 1600000 in
set_option maxRecDepth 100000 in
theorem idx58_in (q : List Pt → Bool) (bx : Nat) (A : Option Addr) (n c : Nat) (rs : List (List Pt)) (w : World) (hn : rs.length = n) (hbig : n ≤ 9223372036854775807) (hx : Reg? w.heap.size w A rs)
    (hp : ∀ W r Ai ci, r ∈ rs → Below w.heap.size w W → Pts? W.heap.size W Ai r → Calls Tryz.prog 28 #[.slice Ai r.length ci, .pointer (some ⟨bx, 0, none⟩)] W fun e w' => e = .returned (.bool (q r)) ∧ Below W.heap.size W w') :
    Calls Tryz.prog 58 #[.slice A n c, .func (.func 28) #[] #[.pointer (some ⟨bx, 0, none⟩)]] w fun e w' => e = .returned (.int .i64 (idxL q rs 0)) ∧ Below w.heap.size w w' := by
  have HP := Lib.hid hp
  have HX := Lib.hid hx
  have HN := Lib.hid hn
  generalize hR : idxL q rs 0 = R
  have HR := Lib.hid hR
  clear hp hx hn hR
  go_enter Tryz.func58, Tryz.ntmps58
  go_wp2_with fail
  go_loopg [8] (n + 1) (fun g s8 wr => ∃ k : Nat, k ≤ n ∧ g + k = n + 1 ∧ s8 = .int .i64 k ∧ Aside (idxL q (rs.drop k) k = R) ∧ Below w.heap.size w wr)
  case atStart => exact ⟨0, by omega, by omega, rfl, HR.out, Below.refl _ _⟩
  case round =>
    obtain ⟨k, hk, hg, rfl, HB, hBr⟩ := hrel
    by_cases hlt : k < n
    · obtain ⟨r, hr⟩ : ∃ r, rs[k]? = some r := ⟨_, List.getElem?_eq_getElem (by rw [HN.out]; exact hlt)⟩
      have hd := (idxL_drop q rs k r hr).symm.trans HB.out
      obtain ⟨b, off, rfl, hlt0, hc⟩ := HX.out (by rw [HN.out]; omega)
      obtain ⟨Ai, ci, c0, hpts⟩ := hc k r hr
      replace c0 := (hBr.cell (p := ⟨b, off + k, none⟩) hlt0).trans c0
      have hcall := HP.out wr r Ai ci (List.mem_of_getElem? hr) hBr (hpts.later hBr)
      generalize r.length = m at *
      have hlt2 : (k : Int) < (n : Int) := by omega
      cases hq : q r with
      | true =>
        rw [hq] at hcall hd
        have HC := Lib.hid hcall
        have HD := Lib.hid hd
        clear hcall hq hd hc hr hpts
        go_wp2_with fail
        refine HC.out.mono ?_
        rintro e w1 ⟨rfl, hb1⟩
        have hB1 : Below w.heap.size w w1 := below_after hBr hb1
        clear hb1
        go_wp2_with fail
        go_ret
        exact ⟨ret_int (by have := HD.out; simpa using this), by go_grown⟩
      | false =>
        rw [hq] at hcall hd
        have HC := Lib.hid hcall
        have HD := Lib.hid hd
        clear hcall hq hd hc hr hpts
        go_wp2_with fail
        refine HC.out.mono ?_
        rintro e w1 ⟨rfl, hb1⟩
        have hB1 : Below w.heap.size w w1 := below_after hBr hb1
        clear hb1
        go_wp2_with fail
        go_roundg (gk - 1)
        case measure => omega
        case rel => exact ⟨k + 1, by omega, by omega, by go_num, (by have h9 := HD.out; simp only [Bool.false_eq_true, if_false] at h9; exact h9), hB1⟩
    · have hd := (idxL_end q rs k (by rw [HN.out]; omega)).symm.trans HB.out
      have HD := Lib.hid hd
      have hnlt : ¬ ((k : Int) < (n : Int)) := by omega
      clear hd
      go_wp2_with fail
      go_ret
      exact ⟨ret_int HD.out, by go_grown⟩
set_option maxHeartbeats 1600000 in
set_option maxRecDepth 100000 in
theorem has30_in (q : List Pt → Bool) (bx : Nat) (A : Option Addr) (n c : Nat) (rs : List (List Pt)) (w : World) (hn : rs.length = n) (hbig : n ≤ 9223372036854775807) (hx : Reg? w.heap.size w A rs)
    (hp : ∀ W r Ai ci, r ∈ rs → Below w.heap.size w W → Pts? W.heap.size W Ai r → Calls Tryz.prog 28 #[.slice Ai r.length ci, .pointer (some ⟨bx, 0, none⟩)] W fun e w' => e = .returned (.bool (q r)) ∧ Below W.heap.size W w') :
    Calls Tryz.prog 30 #[.slice A n c, .func (.func 28) #[] #[.pointer (some ⟨bx, 0, none⟩)]] w fun e w' => e = .returned (.bool (rs.any q)) ∧ Below w.heap.size w w' := by
  have v := idx58_in q bx A n c rs w hn hbig hx hp
  have hb := idxL_bd q rs 0
  rw [← idxL_nonneg q rs 0]
  generalize idxL q rs 0 = R at *
  have HV := Lib.hid v
  clear v hp hx hn
  go_enter Tryz.func30, Tryz.ntmps30
  go_wp2_with fail
  refine HV.out.mono ?_
  rintro e w1 ⟨rfl, hb1⟩
  go_wp2_with fail
  all_goals
    go_ret
    exact ⟨ret_bool (by first | rfl | (simp; omega)), hb1⟩
set_option maxHeartbeats 1600000 in
set_option maxRecDepth 100000 in
theorem inv1_any (A : Option Addr) (c : Nat) (xs : List Pt) (w : World) (hx : Pts? w.heap.size w A xs) (hI : Ok64 xs) :
    Calls Tryz.prog 53 #[.slice A xs.length c] w fun e w' => e = .returned (.bool (!validB xs)) ∧ Below w.heap.size w w' := by
  have v := hValid_any A xs.length c xs w rfl hx hI
  generalize validB xs = V at *
  generalize xs.length = m at *
  have HV := Lib.hid v
  clear v hx hI
  go_enter Tryz.func53, Tryz.ntmps53
  go_wp2_with fail
  refine HV.out.mono ?_
  rintro e w1 ⟨rfl, hb1⟩
  go_wp2_with fail
  go_ret
  exact ⟨rfl, hb1⟩
set_option maxHeartbeats 1600000 in
set_option maxRecDepth 100000 in
theorem are1_any (A : Option Addr) (c : Nat) (xs : List Pt) (w : World) (hx : Pts? w.heap.size w A xs) (hI : Ok64 xs) :
    Calls Tryz.prog 81 #[.slice A xs.length c] w fun e w' => e = .returned (.bool (!validB xs)) ∧ Below w.heap.size w w' := by
  have v := hValid_any A xs.length c xs w rfl hx hI
  generalize validB xs = V at *
  generalize xs.length = m at *
  have HV := Lib.hid v
  clear v hx hI
  go_enter Tryz.func81, Tryz.ntmps81
  go_wp2_with fail
  refine HV.out.mono ?_
  rintro e w1 ⟨rfl, hb1⟩
  go_wp2_with fail
  go_ret
  exact ⟨rfl, hb1⟩
set_option maxHeartbeats 1600000 in
set_option maxRecDepth 100000 in
theorem invalid_any (A : Option Addr) (n c : Nat) (rs : List (List Pt)) (w : World) (hn : rs.length = n) (hbig : n ≤ 9223372036854775807) (hx : Reg? w.heap.size w A rs) (hI : Oks64 rs) :
    Calls Tryz.prog 26 #[.slice A n c] w fun e w' => e = .returned (.bool (rs.any fun r => !validB r)) ∧ Below w.heap.size w w' := by
  have v := has30_inv (fun r => !validB r) A n c rs w hn hbig hx (fun W r Ai ci hr hB hP => inv1_any Ai ci r W hP (hI r hr))
  generalize (rs.any fun r => !validB r) = V at *
  have HV := Lib.hid v
  clear v hx hI hn
  go_enter Tryz.func26, Tryz.ntmps26
  go_wp2_with fail
  refine HV.out.mono ?_
  rintro e w1 ⟨rfl, hb1⟩
  go_wp2_with fail
  go_ret
  exact ⟨rfl, hb1⟩
def regB (rs : List (List Pt)) : Bool := decide (rs.length ≤ 32) && rs.all validB
theorem any_inv (rs : List (List Pt)) : (rs.any fun r => !validB r) = !(rs.all validB) := by
  induction rs with
  | nil => rfl
  | cons r rs ih => simp [ih]
set_option maxHeartbeats 1600000 in
set_option maxRecDepth 100000 in
theorem rValid_any (A : Option Addr) (n c : Nat) (rs : List (List Pt)) (w : World) (hn : rs.length = n) (hbig : n ≤ 9223372036854775807) (hx : Reg? w.heap.size w A rs) (hI : Oks64 rs) :
    Calls Tryz.prog 12 #[.slice A n c] w fun e w' => e = .returned (.bool (regB rs)) ∧ Below w.heap.size w w' := by
  have v := fun W hB => invalid_any A n c rs W hn hbig (hx.later hB) hI
  rw [any_inv] at v
  unfold regB
  rw [hn]
  generalize rs.all validB = V at *
  have HV := Lib.hid (show ∀ W, Below w.heap.size w W → _ from v)
  clear v hx hI hn
  by_cases h : n ≤ 32
  · have h1 : decide (n ≤ 32) = true := by simp [h]
    have h2 : (n : Int) ≤ 32 := by omega
    rw [h1]
    go_enter Tryz.func12, Tryz.ntmps12
    go_wp2_with fail
    refine (HV.out _ (by go_grown)).mono ?_
    rintro e w1 ⟨rfl, hb1⟩
    go_wp2_with fail
    go_ret
    exact ⟨ret_bool (by simp), by go_grown⟩
  · have h1 : decide (n ≤ 32) = false := by simp; omega
    have h2 : ¬ ((n : Int) ≤ 32) := by omega
    rw [h1]
    go_enter Tryz.func12, Tryz.ntmps12
    go_wp2_with fail
    all_goals
      go_ret
      exact ⟨ret_bool (by simp), by go_grown⟩
end Go.Proofs.YtnhdnkeiijiiaaaGreat
