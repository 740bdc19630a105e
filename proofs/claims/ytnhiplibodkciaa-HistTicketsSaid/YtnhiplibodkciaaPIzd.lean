/- Independent steps may change places. -/
import Derived.Test.YtnhiplibodkciaaPIzc
namespace Go.PI
open Go.RowKit

variable {c : Ctx} {s st : St}

/-- What is put into the slot: a truth that guards is told. -/
def fixD (gd : Bool) (d : D) : D := bif gd then (match d with
  | .c (.ty _ .bool b) => bif b then .c .tt else .c .ff
  | d => d) else d

theorem putd_putd (s : St) (dst : Option Tmp) (d d' : D) : (s.putd dst d).putd dst d' = s.putd dst d' := by
  cases dst with
  | none => rfl
  | some k => show (⟨(s.t.set k d).set k d', s.m, s.k⟩ : St) = ⟨s.t.set k d', s.m, s.k⟩; rw [List.set_set]

structure Did (c : Ctx) (ops : Array Oper) (i : Nat) (o : Oper) (s : St) (x : Rec) (s' : St) : Prop where
  good : goodAt s (lookSlots s o.op) x.F = true
  F : namesAt s (lookSlots s o.op) = x.F
  run : ∃ s0, (evOper c (s.cut (lookSlots s o.op) x.F) o).run = some s0 ∧ s' = s0.less (roOf x.W x.F)
  i : x.i = i
  W : wrOf s x.F o.op = x.W
  wf : subB x.W x.F = true
  ro : roOk s (c.base + o.dst.getD 0) (roOf x.W x.F) x.G = true
  G : x.G = goneOf x.W s'
  X : x.X = bif quietOp o.op then [] else x.W ++ x.G
  M : x.M = x.F
  d : subB (dstD o.dst s').nms (x.F ++ x.G) = true
  m : (s'.m.all fun p => subB p.2.nms (x.F ++ x.G)) = true

def baseOf (q : Bool) (F : List Nat) (s s' : St) : St := bif q then s else s.mix F s'

theorem exec_did {ops : Array Oper} {i : Nat} {o : Oper} {x : Rec} (hr : (evExecG c ops i s o).run = some (x, st)) : ∃ s', Did c ops i o s x s' ∧ st = (baseOf (quietOp o.op) x.W s s').putd o.dst (fixD (isGuard ops i) (dstD o.dst s')) := by
  unfold evExecG at hr
  simp only at hr
  cases hg : goodAt s (lookSlots s o.op) (namesAt s (lookSlots s o.op)) with
  | false => rw [hg] at hr; cases hr
  | true =>
    rw [hg] at hr
    simp only [cond_true] at hr
    obtain ⟨s0, h1, hr⟩ := Br.bind_some hr
    generalize hF : namesAt s (lookSlots s o.op) = F at hg h1 hr
    generalize hW : wrOf s F o.op = W at hr
    generalize hs' : s0.less (roOf W F) = s' at hr
    generalize hchk : ((subB W F && roOk s (c.base + o.dst.getD 0) (roOf W F) (goneOf W s')) && (subB (dstD o.dst s').nms (F ++ goneOf W s') && s'.m.all (fun p => subB p.2.nms (F ++ goneOf W s')))) = chk at hr
    cases chk with
    | false => cases hr
    | true =>
      simp only [cond_true] at hr
      simp only [Bool.and_eq_true] at hchk
      have fin : ∀ {y : Rec}, y = ⟨i, F, goneOf W s', bif quietOp o.op then [] else W ++ goneOf W s', W, F⟩ → Did c ops i o s y s' := by
        rintro y rfl
        exact ⟨hg, hF, ⟨s0, h1, hs'.symm⟩, rfl, hW, hchk.1.1, hchk.1.2, rfl, rfl, rfl, hchk.2.1, hchk.2.2⟩
      unfold St.whole at hr
      cases hig : isGuard ops i with
      | false =>
        rw [hig] at hr
        obtain ⟨rfl, rfl⟩ := Prod.mk.inj (Option.some.inj hr)
        exact ⟨s', fin rfl, rfl⟩
      | true =>
        rw [hig] at hr
        simp only [cond_true] at hr
        split at hr
        · rename_i t b hd
          cases b with
          | true =>
            obtain ⟨rfl, rfl⟩ := Prod.mk.inj (Option.some.inj hr)
            exact ⟨s', fin rfl, by rw [putd_putd, hd]; rfl⟩
          | false =>
            obtain ⟨rfl, rfl⟩ := Prod.mk.inj (Option.some.inj hr)
            exact ⟨s', fin rfl, by rw [putd_putd, hd]; rfl⟩
        · rename_i hd
          obtain ⟨rfl, rfl⟩ := Prod.mk.inj (Option.some.inj hr)
          refine ⟨s', fin rfl, ?_⟩
          show (baseOf _ _ _ _).putd _ _ = _
          congr 1
          unfold fixD
          simp only [cond_true]


theorem exec_mk {ops : Array Oper} {i : Nat} {o : Oper} {x : Rec} {s' : St} (h : Did c ops i o s x s') : (evExecG c ops i s o).run = some (x, (baseOf (quietOp o.op) x.W s s').putd o.dst (fixD (isGuard ops i) (dstD o.dst s'))) := by
  obtain ⟨xi, xF, xG, xX, xW, xM⟩ := x
  obtain ⟨h1, h2, ⟨s0, h3, h9⟩, h4, hW, hwf, hro, h5, h6, hMM, h7, h8⟩ := h
  simp only at h1 h2 h3 h4 h5 h6 h7 h8 h9 hW hwf hro hMM
  subst h4 h6 h5 hMM
  unfold evExecG
  simp only [h2, h1, hW, cond_true, Br.run_bind, h3, Option.bind_some, ← h9]
  rw [hwf, hro, h7, h8]
  simp only [Bool.and_self, cond_true]
  unfold St.whole
  cases hig : isGuard ops xi with
  | false => rfl
  | true =>
    simp only [cond_true]
    cases hd : dstD o.dst s' with
    | c y =>
      cases y with
      | ty t τ b =>
        cases τ with
        | bool =>
          cases b with
          | true => simp only [Br.run, cond_true, putd_putd]; rfl
          | false => simp only [Br.run, cond_false, putd_putd]; rfl
        | _ => rfl
      | _ => rfl
    | _ => rfl

theorem wr_same {o : Op} {F F' : List Nat} {s s2 : St} (hs : Same (lookSlots s o) F' s s2) : wrOf s2 F o = wrOf s F o := by
  unfold wrOf
  split
  · rename_i _ args ts
    split
    · rename_i x r hx
      cases x with
      | tmp t =>
        have hm : t ∈ lookSlots s (.call { callee := .builtin .append, args := args, argTypes := ts }) := by
          unfold lookSlots
          simp only [Op.operands, Call.operands]
          simp [hx, slotsOf]
        have e := hs.t t hm
        show (s2.t.getD t (.c .bad)).nms = (s.t.getD t (.c .bad)).nms
        rw [e]
      | _ => rfl
    · rfl
  · rfl

theorem Did.same {ops : Array Oper} {i : Nat} {o : Oper} {x : Rec} {s s2 s' : St} (h : Did c ops i o s x s') (hs : Same (lookSlots s o.op) x.F s s2) : Did c ops i o s2 x s' := by
  have e1 := hs.look
  have e2 : namesAt s2 (lookSlots s o.op) = namesAt s (lookSlots s o.op) := Same.names (h.F.symm ▸ hs)
  refine ⟨?_, ?_, ?_, h.i, ?_, h.wf, ?_, h.G, h.X, h.M, h.d, h.m⟩
  · rw [e1, ← hs.good]; exact h.good
  · rw [e1, e2]; exact h.F
  · rw [e1, ← hs.cut]; exact h.run
  · rw [wr_same hs]; exact h.W
  · have hro := h.ro
    unfold roOk at hro ⊢
    rw [List.all_eq_true] at hro ⊢
    intro n hn
    have := hro n hn
    rw [hs.m n (roOf_mem.1 hn).1] at this
    exact this

/-- A value that is handed on. -/
theorem move_did {ops : Array Oper} {i : Nat} {o : Oper} {y : Operand} {x : Rec} (hr : (evMove ops i s o y).run = some (x, st)) : (opd s y).good = true ∧ x = ⟨i, (opd s y).nms, [], [], [], []⟩ ∧ st = s.putd o.dst (fixD (isGuard ops i) (opd s y)) := by
  unfold evMove at hr
  simp only at hr
  generalize opd s y = d at hr
  cases hg : d.good with
  | false => rw [hg] at hr; cases hr
  | true =>
    rw [hg] at hr
    simp only [cond_true] at hr
    refine ⟨rfl, ?_⟩
    cases hig : isGuard ops i with
    | false =>
      rw [hig] at hr
      obtain ⟨rfl, rfl⟩ := Prod.mk.inj (Option.some.inj hr)
      exact ⟨rfl, rfl⟩
    | true =>
      rw [hig] at hr
      simp only [cond_true] at hr
      split at hr
      · rename_i t b
        cases b with
        | true =>
          obtain ⟨rfl, rfl⟩ := Prod.mk.inj (Option.some.inj hr)
          exact ⟨rfl, by rw [putd_putd]; rfl⟩
        | false =>
          obtain ⟨rfl, rfl⟩ := Prod.mk.inj (Option.some.inj hr)
          exact ⟨rfl, by rw [putd_putd]; rfl⟩
      · rename_i hd
        obtain ⟨rfl, rfl⟩ := Prod.mk.inj (Option.some.inj hr)
        refine ⟨rfl, ?_⟩
        congr 1
        unfold fixD
        simp only [cond_true]

theorem move_mk {ops : Array Oper} {i : Nat} {o : Oper} {y : Operand} (hg : (opd s y).good = true) : (evMove ops i s o y).run = some (⟨i, (opd s y).nms, [], [], [], []⟩, s.putd o.dst (fixD (isGuard ops i) (opd s y))) := by
  unfold evMove
  simp only
  generalize opd s y = d at hg
  rw [hg]
  simp only [cond_true]
  cases hig : isGuard ops i with
  | false => rfl
  | true =>
    simp only [cond_true]
    cases d with
    | c y =>
      cases y with
      | ty t τ b =>
        cases τ with
        | bool =>
          cases b with
          | true => simp only [Br.run, cond_true, putd_putd]; rfl
          | false => simp only [Br.run, cond_false, putd_putd]; rfl
        | _ => rfl
      | _ => rfl
    | _ => rfl

end Go.PI
