/- The matcher lets runs go: slices.DeleteFunc, gone through in place; whatever order the region draws. The matcher lets go what is over: what expire keeps. -/
import Derived.Test.YtkbdofnbagmlfaaGreatGe
import Derived.Test.YtkbdofnbagmlfaaGreatHg
import Derived.Test.YtkbdofnbagmlfaaGreatHn
namespace Go.Proofs.YtkbdofnbagmlfaaGreat
open Go.PI Go
set_option maxRecDepth 100000
noncomputable section
def ZfZ : ((zM7 × ((zM2 × (Int × Int)) × (List zM5))) × (Int × Unit)) -> Br (Unit × ((zM7 × ((zM2 × (Int × Int)) × (List zM5))) × Unit)) := fun (p0, p1, ()) =>
 (.opt (Zrn ((↑(List.length (Prod.snd (Prod.snd p0))) : Int), 0, Prod.fst p0, Prod.fst (Prod.fst (Prod.snd p0)), Prod.fst (Prod.snd (Prod.fst (Prod.snd p0))), Prod.snd (Prod.snd (Prod.fst (Prod.snd p0))), p1, Prod.snd (Prod.snd p0), ())) fun y7 =>
 (.sum y7 (fun u8 =>
 (.cond (Prod.fst u8 == -1)
 (.ret ((), (Prod.fst (Prod.snd u8), (Prod.fst (Prod.snd (Prod.snd u8)), Prod.fst (Prod.snd (Prod.snd (Prod.snd u8))), Prod.fst (Prod.snd (Prod.snd (Prod.snd (Prod.snd u8))))), Prod.fst (Prod.snd (Prod.snd (Prod.snd (Prod.snd (Prod.snd (Prod.snd u8))))))), ()))
 (.opt (Zil (Prod.fst u8, IntKind.wrap IntKind.i64 (Prod.fst u8 + 1), Prod.fst (Prod.snd u8), Prod.fst (Prod.snd (Prod.snd u8)), Prod.fst (Prod.snd (Prod.snd (Prod.snd u8))), Prod.fst (Prod.snd (Prod.snd (Prod.snd (Prod.snd u8)))), Prod.fst (Prod.snd (Prod.snd (Prod.snd (Prod.snd (Prod.snd u8))))), Prod.fst (Prod.snd (Prod.snd (Prod.snd (Prod.snd (Prod.snd (Prod.snd u8)))))), ())) fun a =>
 (.cond (decide (0 <= Prod.fst a) && decide (Prod.fst a <= (↑(List.length (Prod.fst (Prod.snd (Prod.snd (Prod.snd (Prod.snd (Prod.snd (Prod.snd a)))))))) : Int)) && decide ((↑(List.length (Prod.fst (Prod.snd (Prod.snd (Prod.snd (Prod.snd (Prod.snd (Prod.snd a)))))))) : Int) <= (↑(List.length (Prod.fst (Prod.snd (Prod.snd (Prod.snd (Prod.snd (Prod.snd (Prod.snd a)))))))) : Int)))
 (.cond (decide (0 <= 0) && decide (0 <= Prod.fst a) && decide (Prod.fst a <= (↑(List.length (List.take (0 + Int.toNat (Prod.fst a)) (Prod.fst (Prod.snd (Prod.snd (Prod.snd (Prod.snd (Prod.snd (Prod.snd a))))))) ++ List.replicate (Int.toNat (↑(List.length (Prod.fst (Prod.snd (Prod.snd (Prod.snd (Prod.snd (Prod.snd (Prod.snd a)))))))) : Int) - Int.toNat (Prod.fst a)) (0, [], [], 0, (0, 0, 0), false) ++ List.drop (0 + Int.toNat (Prod.fst a) + (Int.toNat (↑(List.length (Prod.fst (Prod.snd (Prod.snd (Prod.snd (Prod.snd (Prod.snd (Prod.snd a)))))))) : Int) - Int.toNat (Prod.fst a))) (Prod.fst (Prod.snd (Prod.snd (Prod.snd (Prod.snd (Prod.snd (Prod.snd a))))))))) : Int)))
 (.ret ((), (Prod.fst (Prod.snd a), (Prod.fst (Prod.snd (Prod.snd a)), Prod.fst (Prod.snd (Prod.snd (Prod.snd a))), Prod.fst (Prod.snd (Prod.snd (Prod.snd (Prod.snd a))))), List.take (Int.toNat (Prod.fst a) - Int.toNat 0) (List.take (0 + Int.toNat (Prod.fst a)) (Prod.fst (Prod.snd (Prod.snd (Prod.snd (Prod.snd (Prod.snd (Prod.snd a))))))) ++ List.replicate (Int.toNat (↑(List.length (Prod.fst (Prod.snd (Prod.snd (Prod.snd (Prod.snd (Prod.snd (Prod.snd a)))))))) : Int) - Int.toNat (Prod.fst a)) (0, [], [], 0, (0, 0, 0), false) ++ List.drop (0 + Int.toNat (Prod.fst a) + (Int.toNat (↑(List.length (Prod.fst (Prod.snd (Prod.snd (Prod.snd (Prod.snd (Prod.snd (Prod.snd a)))))))) : Int) - Int.toNat (Prod.fst a))) (Prod.fst (Prod.snd (Prod.snd (Prod.snd (Prod.snd (Prod.snd (Prod.snd a))))))))), ()))
 (.no))
 (.no))))) (fun z9 =>
 (.cond (true)
 (.ret ((), (Prod.fst z9, (Prod.fst (Prod.snd z9), Prod.fst (Prod.snd (Prod.snd z9)), Prod.fst (Prod.snd (Prod.snd (Prod.snd z9)))), Prod.fst (Prod.snd (Prod.snd (Prod.snd (Prod.snd (Prod.snd z9)))))), ()))
 (.opt (Zil (-1, 0, Prod.fst z9, Prod.fst (Prod.snd z9), Prod.fst (Prod.snd (Prod.snd z9)), Prod.fst (Prod.snd (Prod.snd (Prod.snd z9))), Prod.fst (Prod.snd (Prod.snd (Prod.snd (Prod.snd z9)))), Prod.fst (Prod.snd (Prod.snd (Prod.snd (Prod.snd (Prod.snd z9))))), ())) fun b =>
 (.cond (decide (0 <= Prod.fst b) && decide (Prod.fst b <= (↑(List.length (Prod.fst (Prod.snd (Prod.snd (Prod.snd (Prod.snd (Prod.snd (Prod.snd b)))))))) : Int)) && decide ((↑(List.length (Prod.fst (Prod.snd (Prod.snd (Prod.snd (Prod.snd (Prod.snd (Prod.snd b)))))))) : Int) <= (↑(List.length (Prod.fst (Prod.snd (Prod.snd (Prod.snd (Prod.snd (Prod.snd (Prod.snd b)))))))) : Int)))
 (.cond (decide (0 <= 0) && decide (0 <= Prod.fst b) && decide (Prod.fst b <= (↑(List.length (List.take (0 + Int.toNat (Prod.fst b)) (Prod.fst (Prod.snd (Prod.snd (Prod.snd (Prod.snd (Prod.snd (Prod.snd b))))))) ++ List.replicate (Int.toNat (↑(List.length (Prod.fst (Prod.snd (Prod.snd (Prod.snd (Prod.snd (Prod.snd (Prod.snd b)))))))) : Int) - Int.toNat (Prod.fst b)) (0, [], [], 0, (0, 0, 0), false) ++ List.drop (0 + Int.toNat (Prod.fst b) + (Int.toNat (↑(List.length (Prod.fst (Prod.snd (Prod.snd (Prod.snd (Prod.snd (Prod.snd (Prod.snd b)))))))) : Int) - Int.toNat (Prod.fst b))) (Prod.fst (Prod.snd (Prod.snd (Prod.snd (Prod.snd (Prod.snd (Prod.snd b))))))))) : Int)))
 (.ret ((), (Prod.fst (Prod.snd b), (Prod.fst (Prod.snd (Prod.snd b)), Prod.fst (Prod.snd (Prod.snd (Prod.snd b))), Prod.fst (Prod.snd (Prod.snd (Prod.snd (Prod.snd b))))), List.take (Int.toNat (Prod.fst b) - Int.toNat 0) (List.take (0 + Int.toNat (Prod.fst b)) (Prod.fst (Prod.snd (Prod.snd (Prod.snd (Prod.snd (Prod.snd (Prod.snd b))))))) ++ List.replicate (Int.toNat (↑(List.length (Prod.fst (Prod.snd (Prod.snd (Prod.snd (Prod.snd (Prod.snd (Prod.snd b)))))))) : Int) - Int.toNat (Prod.fst b)) (0, [], [], 0, (0, 0, 0), false) ++ List.drop (0 + Int.toNat (Prod.fst b) + (Int.toNat (↑(List.length (Prod.fst (Prod.snd (Prod.snd (Prod.snd (Prod.snd (Prod.snd (Prod.snd b)))))))) : Int) - Int.toNat (Prod.fst b))) (Prod.fst (Prod.snd (Prod.snd (Prod.snd (Prod.snd (Prod.snd (Prod.snd b))))))))), ()))
 (.no))
 (.no)))))))
abbrev ZaH : List (Bool × Pat) := [(true, (.obj (.two (.ty false zM6) (.two (.ty false (.st (.pair zM1 zM9))) (.row 97 zM4))))), (false, .ty false (.int .i64))]
def expireM := fun x => (ZfZ x).run
abbrev exC : Ctx := { cx_delR with base := 1024 }
theorem exE : EnvFull Tryz.prog exC := Zcy ZrH 1024
def exR : Code := match Za9 Tryz.f33 with
 | .seq a _ => a
 | _ => .skip
def Zdb : Array Oper := match Za9 Tryz.f33 with
 | .seq _ (.region _ o _) => o
 | _ => #[]
theorem exBody : Za9 Tryz.f33 = .seq exR (.region 1 Zdb true) := by kernel_rfl
def exP : Par := { sh := fun _ => none, k := 0, lo := fun _ => none }
def exI (x : PArgs ZaH) : St := ⟨(Zax ZaH x nE).1 ++ List.replicate (Tryz.f33.ntmps - (Zax ZaH x nE).1.length) (.c .bad), (Zax ZaH x nE).2, []⟩
def ex0 (x : PArgs ZaH) : St := brSt (ev exC exP exR (exI x))
def exR4 : D := .c (.ref 1954 0 0)
def exF4 : D := .c (.ref 1954 0 4)
def onI (b : Bool) (d : D) : D := bif b then d else .c .bad
def exS (x : PArgs ZaH) (m : Mem) (k : Nat) (f : Bool) (v : D) (b : Nat) : St :=
 ⟨[exR4, (ex0 x).t.getD 1 (.c .bad), .c (.ref 1026 0 0), .c (.ref 1027 0 0), onI (Nat.ble 1 b) exR4, onI (Nat.ble 1 k) exR4, onI (Nat.ble 2 k) exR4, onI (Nat.ble 3 k) exF4, onI (Nat.ble 4 k) (.c (.mfull 1955)), onI f (.fn 59 [.ref 1026 0 0, .ref 1027 0 0]), v, onI (Nat.ble 2 b) exR4, onI (Nat.ble 3 b) exF4], m, (ex0 x).k⟩
theorem exS0 (x : PArgs ZaH) : (ev exC exP exR (exI x)).run = some (.normal, exS x (ex0 x).m 0 false (.c .bad) 0) := by kernel_rfl
def Zc6 (i : Nat) : Oper := (Zdb[i]?).getD ⟨none, .move (.const (.bool true)), 0, "", #[], none⟩
def exT (x : PArgs ZaH) : Br (D × Mem) := (Zam exC (exS x (ex0 x).m 4 true (.c .bad) 0) (Zc6 6)).bind fun st => .ret (st.t.getD 10 (.c .bad), st.m)
inductive ExN | q (k : Nat) (f : Bool) (b : Nat) | d (b : Nat) | z
namespace ExN
def L : ExN -> Array Bool
 | q k f b => #[Nat.ble 1 b, Nat.ble 1 k, Nat.ble 2 k, Nat.ble 3 k, Nat.ble 4 k, f, false, Nat.ble 2 b, Nat.ble 3 b, false]
 | d b => #[Nat.ble 1 b, true, true, true, true, true, true, Nat.ble 2 b, Nat.ble 3 b, false]
 | z => #[true, true, true, true, true, true, true, true, true, true]
def cnt : ExN -> Nat
 | q k f b => 10 - k - b - (bif f then 1 else 0)
 | d b => 4 - b
 | z => 0
def V : ExN -> Prop
 | q k _ b => k < 5 /\ b < 4
 | d b => b < 4
 | z => True
def late (b i : Nat) : Bool := (Nat.beq b 0 && Nat.beq i 0) || (Nat.beq b 1 && Nat.beq i 7) || (Nat.beq b 2 && Nat.beq i 8)
def nx : ExN -> Nat -> Option ExN
 | q k f b, i => bif late b i then some (q k f (b + 1)) else bif Nat.blt k 4 && Nat.beq i (k + 1) then some (q (k + 1) f b) else bif !f && Nat.beq i 5 then some (q k true b) else bif Nat.beq k 4 && f && Nat.beq i 6 then some (d b) else none
 | d b, i => bif late b i then some (d (b + 1)) else bif Nat.beq b 3 && Nat.beq i 9 then some z else none
 | z, _ => none
def eqA (a b : Array Bool) : Bool := a.toList == b.toList
def chk (n : ExN) : Bool := ((Region.ready .any Zdb n.L).all fun i => (match nx n i with
  | some n' => eqA n'.L (n.L.setIfInBounds i true) && Nat.blt n'.cnt n.cnt
  | none => false) && (match Zdb[i]? with
  | some o => o.guard.isNone
  | none => false)) && ((Region.ready .any Zdb n.L).isEmpty == (match n with
  | z => true
  | _ => false))
theorem chk_ok : ((List.range 5).all fun k => (List.range 4).all fun b => chk (q k true b) && chk (q k false b)) && ((List.range 4).all fun b => chk (d b)) && chk z = true := by kernel_rfl
theorem chk_at (n : ExN) (hn : n.V) : chk n = true := by
 have h := chk_ok
 simp only [Bool.and_eq_true, List.all_eq_true, List.mem_range] at h
 obtain ⟨⟨h1, h2⟩, h3⟩ := h
 cases n with
 | q k f b => cases f; exact (h1 k hn.1 b hn.2).2; exact (h1 k hn.1 b hn.2).1
 | d b => exact h2 b hn
 | z => exact h3
end ExN
open ExN
def ExN.S (x : PArgs ZaH) (r : D × Mem) (st : St) : ExN -> St
 | q k f b => exS x (ex0 x).m k f (.c .bad) b
 | d b => exS x r.2 4 true r.1 b
 | z => st
section
variable (x : PArgs ZaH)
theorem exL7 (m : Mem) (k : Nat) (f : Bool) (v : D) : Zam exC (exS x m k f v 1) (Zc6 7) = .ret (exS x m k f v 2) := by kernel_rfl
theorem exL8 (m : Mem) (k : Nat) (f : Bool) (v : D) : Zam exC (exS x m k f v 2) (Zc6 8) = .ret (exS x m k f v 3) := by kernel_rfl
theorem exA0 (k : Nat) (f : Bool) : Zam exC (exS x (ex0 x).m k f (.c .bad) 0) (Zc6 0) = .ret (exS x (ex0 x).m k f (.c .bad) 1) := by kernel_rfl
theorem exA1 (f : Bool) (b : Nat) : Zam exC (exS x (ex0 x).m 0 f (.c .bad) b) (Zc6 1) = .ret (exS x (ex0 x).m 1 f (.c .bad) b) := by kernel_rfl
theorem exA2 (f : Bool) (b : Nat) : Zam exC (exS x (ex0 x).m 1 f (.c .bad) b) (Zc6 2) = .ret (exS x (ex0 x).m 2 f (.c .bad) b) := by kernel_rfl
theorem exA3 (f : Bool) (b : Nat) : Zam exC (exS x (ex0 x).m 2 f (.c .bad) b) (Zc6 3) = .ret (exS x (ex0 x).m 3 f (.c .bad) b) := by kernel_rfl
theorem exA4 (f : Bool) (b : Nat) : Zam exC (exS x (ex0 x).m 3 f (.c .bad) b) (Zc6 4) = .ret (exS x (ex0 x).m 4 f (.c .bad) b) := by kernel_rfl
theorem exA5 (k b : Nat) : Zam exC (exS x (ex0 x).m k false (.c .bad) b) (Zc6 5) = .ret (exS x (ex0 x).m k true (.c .bad) b) := by kernel_rfl
theorem exA6 (b : Nat) : Zam exC (exS x (ex0 x).m 4 true (.c .bad) b) (Zc6 6) = (exT x).bind fun r => .ret (exS x r.2 4 true r.1 b) := by kernel_rfl
theorem exD0 : ((exT x).bind fun r => Zam exC (exS x r.2 4 true r.1 0) (Zc6 0)) = (exT x).bind fun r => .ret (exS x r.2 4 true r.1 1) := by kernel_rfl
theorem exFin : ZfZ x = (exT x).bind fun r => (Zam exC (exS x r.2 4 true r.1 3) (Zc6 9)).bind fun st => (ZbI exC Tryz.f33 st).bind fun z => .ofOpt (finO ZaH [] z) := by kernel_rfl
theorem exO_some : ((List.range 10).all fun i => (Zdb[i]?).isSome) = true := by kernel_rfl
theorem exOpAt (i : Nat) (hi : i < 10) : Zdb[i]? = some (Zc6 i) := by
 have h := List.all_eq_true.1 exO_some i (List.mem_range.2 hi)
 unfold Zc6
 cases e : Zdb[i]? with
 | none => rw [e] at h; cases h
 | some o => rfl
theorem nx_run {r : D × Mem} {st : St} (hT : (exT x).run = some r) (h9 : (Zam exC (exS x r.2 4 true r.1 3) (Zc6 9)).run = some st) {n n' : ExN} {i : Nat} (h : nx n i = some n') :
  i < 10 /\ (n.V -> n'.V) /\ (Zam exC (n.S x r st) (Zc6 i)).run = some (n'.S x r st) := by
 have lat : ∀ {b i : Nat}, late b i = true -> (b = 0 /\ i = 0) \/ (b = 1 /\ i = 7) \/ (b = 2 /\ i = 8) := by
  intro b i h
  simp only [late, Bool.or_eq_true, Bool.and_eq_true] at h
  rcases h with (⟨h1, h2⟩ | ⟨h1, h2⟩) | ⟨h1, h2⟩
  ·exact .inl ⟨Nat.eq_of_beq_eq_true h1, Nat.eq_of_beq_eq_true h2⟩
  ·exact .inr (.inl ⟨Nat.eq_of_beq_eq_true h1, Nat.eq_of_beq_eq_true h2⟩)
  ·exact .inr (.inr ⟨Nat.eq_of_beq_eq_true h1, Nat.eq_of_beq_eq_true h2⟩)
 cases n with
 | q k f b =>
  simp only [nx] at h
  cases h1 : late b i with
  | true =>
   rw [h1, cond_true] at h
   obtain rfl := Option.some.inj h
   rcases lat h1 with ⟨rfl, rfl⟩ | ⟨rfl, rfl⟩ | ⟨rfl, rfl⟩
   ·exact ⟨by omega, fun v => ⟨v.1, by omega⟩, by show (Zam exC (exS x _ k f _ 0) _).run = _; rw [exA0]; rfl⟩
   ·exact ⟨by omega, fun v => ⟨v.1, by omega⟩, by show (Zam exC (exS x _ k f _ 1) _).run = _; rw [exL7]; rfl⟩
   ·exact ⟨by omega, fun v => ⟨v.1, by omega⟩, by show (Zam exC (exS x _ k f _ 2) _).run = _; rw [exL8]; rfl⟩
  | false =>
   rw [h1, cond_false] at h
   cases h2 : Nat.blt k 4 && Nat.beq i (k + 1) with
   | true =>
    rw [h2, cond_true] at h
    obtain rfl := Option.some.inj h
    rw [Bool.and_eq_true] at h2
    have hk : k < 4 := by have := h2.1; simp [Nat.blt] at this; omega
    obtain rfl := Nat.eq_of_beq_eq_true h2.2
    refine ⟨by omega, fun v => ⟨by omega, v.2⟩, ?_⟩
    match k, hk with
    | 0, _ => show (Zam exC (exS x _ 0 f _ b) _).run = _; rw [exA1]; rfl
    | 1, _ => show (Zam exC (exS x _ 1 f _ b) _).run = _; rw [exA2]; rfl
    | 2, _ => show (Zam exC (exS x _ 2 f _ b) _).run = _; rw [exA3]; rfl
    | 3, _ => show (Zam exC (exS x _ 3 f _ b) _).run = _; rw [exA4]; rfl
   | false =>
    rw [h2, cond_false] at h
    cases h3 : !f && Nat.beq i 5 with
    | true =>
     rw [h3, cond_true] at h
     obtain rfl := Option.some.inj h
     simp only [Bool.and_eq_true, Bool.not_eq_true'] at h3
     obtain ⟨rfl, h3⟩ := h3
     obtain rfl := Nat.eq_of_beq_eq_true h3
     exact ⟨by omega, fun v => v, by show (Zam exC (exS x _ k false _ b) _).run = _; rw [exA5]; rfl⟩
    | false =>
     rw [h3, cond_false] at h
     cases h4 : Nat.beq k 4 && f && Nat.beq i 6 with
     | true =>
      rw [h4, cond_true] at h
      obtain rfl := Option.some.inj h
      simp only [Bool.and_eq_true] at h4
      obtain ⟨⟨h5, rfl⟩, h6⟩ := h4
      obtain rfl := Nat.eq_of_beq_eq_true h5
      obtain rfl := Nat.eq_of_beq_eq_true h6
      exact ⟨by omega, fun v => v.2, by show (Zam exC (exS x _ 4 true _ b) _).run = _; rw [exA6, ZjF hT]; rfl⟩
     | false => rw [h4, cond_false] at h; cases h
 | d b =>
  simp only [nx] at h
  cases h1 : late b i with
  | true =>
   rw [h1, cond_true] at h
   obtain rfl := Option.some.inj h
   rcases lat h1 with ⟨rfl, rfl⟩ | ⟨rfl, rfl⟩ | ⟨rfl, rfl⟩
   ·refine ⟨by omega, fun v => by show 0 + 1 < 4; omega, ?_⟩
    have := congrArg Br.run (exD0 x)
    rw [ZjF hT, ZjF hT] at this
    exact this
   ·exact ⟨by omega, fun v => by show 1 + 1 < 4; omega, by show (Zam exC (exS x _ 4 true _ 1) _).run = _; rw [exL7]; rfl⟩
   ·exact ⟨by omega, fun v => by show 2 + 1 < 4; omega, by show (Zam exC (exS x _ 4 true _ 2) _).run = _; rw [exL8]; rfl⟩
  | false =>
   rw [h1, cond_false] at h
   cases h2 : Nat.beq b 3 && Nat.beq i 9 with
   | true =>
    rw [h2, cond_true] at h
    obtain rfl := Option.some.inj h
    rw [Bool.and_eq_true] at h2
    obtain rfl := Nat.eq_of_beq_eq_true h2.1
    obtain rfl := Nat.eq_of_beq_eq_true h2.2
    exact ⟨by omega, fun _ => trivial, h9⟩
   | false => rw [h2, cond_false] at h; cases h
 | z => cases h
end
theorem eqA_ok {a b : Array Bool} (h : eqA a b = true) : a = b := by
 apply Array.ext'
 exact eq_of_beq h
theorem exStart : ExN.L (q 0 false 0) = Array.replicate Zdb.size false := by kernel_rfl
theorem exSize : Zdb.size = 10 := by kernel_rfl
theorem exLen : ExN.cnt (q 0 false 0) <= Zdb.size := by rw [exSize]; exact Nat.le_refl 10
theorem exEnd : Region.ready .any Zdb (ExN.L z) = [] := by kernel_rfl
theorem Zj1 : OC Tryz.prog 33 ZaH [] expireM := by
 refine OC.of_tri exE Tryz.func33 (by kernel_rfl) (Zdw (by kernel_rfl)) (ins := ZaH) (by kernel_rfl) (kp := ZdN ZaH) (fun xs n hn => List.mem_range'_1.2 (Zdz ZaH xs nE n hn)) ?_
 intro x y hy
 have hy : (ZfZ x).run = some y := hy
 rw [exFin] at hy
 obtain ⟨r, hT, h1⟩ := Br.bind_some hy
 obtain ⟨st, h9, h2⟩ := Br.bind_some h1
 obtain ⟨⟨d, m, ks⟩, h3, h4⟩ := Br.bind_some h2
 refine ⟨fun e s => e = .normal /\ s = st, fun g hg => ?_, ?_⟩
 ·rw [exBody]
  refine Tri.seq (M := fun s => s = exS x (ex0 x).m 0 false (.c .bad) 0) (Tri.run exE exP (ZaB.none fun _ => rfl) (y := .normal) (exS0 x) rfl) ?_
  rintro s rfl
  refine Tri.nodes exE ExN.L (ExN.S x r st) ExN.cnt ExN.V (fin := fun s => s = st) (q 0 false 0) ⟨by omega, by omega⟩ exStart exLen ?_ ?_ ?_
  ·intro n hn h
   have := chk_at n hn
   simp only [chk, h, Bool.and_eq_true] at this
   have := this.2
   cases n with
   | z => rfl
   | _ => cases this
  ·intro n hn h
   have hz : n = z := by
    cases n with
    | z => rfl
    | q k f b =>
     exfalso
     simp only [cnt] at h
     obtain ⟨h1, h2⟩ := hn
     cases f <;> simp at h <;> omega
    | d b =>
     exfalso
     simp only [cnt] at h
     have h1 : b < 4 := hn
     omega
   subst hz
   exact exEnd
  ·intro n i hn hi
   have := chk_at n hn
   simp only [chk, Bool.and_eq_true, List.all_eq_true] at this
   obtain ⟨k1, k2⟩ := this.1 i hi
   split at k1
   ·rename_i n' hn'
    rw [Bool.and_eq_true] at k1
    obtain ⟨a1, a2, a3⟩ := nx_run x hT h9 hn'
    rw [exOpAt i a1] at k2 ⊢
    exact ⟨_, n', a2 hn, rfl, Option.isNone_iff_eq_none.1 k2, eqA_ok k1.1, by have := k1.2; simp [Nat.blt] at this; omega, a3⟩
   ·cases k1
 ·rintro e s ⟨rfl, rfl⟩
  exact ⟨.inl rfl, d, m, ks, h3, Zb4 h4⟩
def cx_expireM : Ctx := ocx cx_delR Zj1
theorem Zs9 : EnvFull Tryz.prog cx_expireM := ocn ZrH Zj1
end
end Go.Proofs.YtkbdofnbagmlfaaGreat

namespace Go.Proofs.YtkbdofnbagmlfaaGreat
open Go.PI Go
abbrev MkT : Type := Option ((Option (List (ByteArray × (List (ByteArray × Int))))) × (Qry × Option (Qry × List Stt)))
theorem Zcj {α : Type} (l : List α) (d : α) (j : Nat) (h : j < l.length) : l.take (j + 1) = l.take j ++ [l.getD j d] := by
 rw [List.take_succ_eq_append_getElem h, Za1 _ _ _ h]
theorem Zew {α : Type} (p : α -> Bool) (l : List α) (d : α) (j : Nat) (h : j < l.length) : (l.take (j + 1)).filter p = (l.take j).filter p ++ (if p (l.getD j d) = true then [l.getD j d] else []) := by
 rw [Zcj l d j h, List.filter_append]
 congr 1
 by_cases e : p (l.getD j d) = true
 ·rw [if_pos e, List.filter_cons_of_pos e, List.filter_nil]
 ·rw [if_neg e, List.filter_cons_of_neg e, List.filter_nil]
section
variable {M : MkT} {q : Qry} {t : Int} {l : List RunT} {f g : RunT -> Bool} (hf : ∀ r ∈ l, runOver (r, q, t, ()) = some (f r, ())) (hg : ∀ r ∈ l, deadM (M, r, ()) = some (g r, ())) (hl : l.length <= 1000000)
include hf hg hl
theorem idxR_at : ∃ z, Zrn ((l.length : Int), 0, M, q.1, q.2.1, q.2.2, t, l, ()) = some z /\
  ((∃ i : Nat, i < l.length /\ z = .inl ((i : Int), M, q.1, q.2.1, q.2.2, t, l, ()) /\ (∀ r ∈ l.take i, (!(f r || g r)) = true) /\ (!(f (l.getD i (0, [], [], 0, (0, 0, 0), false)) || g (l.getD i (0, [], [], 0, (0, 0, 0), false)))) = false) \/
   (z = .inr (M, q.1, q.2.1, q.2.2, t, l, ()) /\ ∀ r ∈ l, (!(f r || g r)) = true)) := by
 refine Zao (step := fun x => (Zim x).run) (Q := fun _ z => ((∃ i : Nat, i < l.length /\ z = .inl ((i : Int), M, q.1, q.2.1, q.2.2, t, l, ()) /\ (∀ r ∈ l.take i, (!(f r || g r)) = true) /\ (!(f (l.getD i (0, [], [], 0, (0, 0, 0), false)) || g (l.getD i (0, [], [], 0, (0, 0, 0), false)))) = false) \/
    (z = .inr (M, q.1, q.2.1, q.2.2, t, l, ()) /\ ∀ r ∈ l, (!(f r || g r)) = true)))
  (fun y => ∃ i : Nat, y = ((l.length : Int), (i : Int), M, q.1, q.2.1, q.2.2, t, l, ()) /\ i <= l.length /\ ∀ r ∈ l.take i, (!(f r || g r)) = true) (fun y => ((l.length : Int) - y.2.1).toNat) ?_ _ ⟨0, rfl, by omega, fun r h => by simp at h⟩
 rintro y ⟨i, rfl, h1, h2⟩
 unfold Zim
 dsimp only
 by_cases hi : (i : Int) < (l.length : Int)
 ·have hw : IntKind.wrap .i64 ((i : Int) + 1) = ((i + 1 : Nat) : Int) := by rw [Go.PI.wrap_small (by omega) (by omega)]; rfl
  have h0 : (0 : Int) <= i := by omega
  have hm : l.getD i (0, [], [], 0, (0, 0, 0), false) ∈ l := by rw [Za1 _ _ _ (by omega)]; exact List.getElem_mem _
  have a1 := hf _ hm
  have a2 := hg _ hm
  simp only [Br.run, decide_eq_true hi, decide_eq_true h0, Bool.and_self, cond_true, Int.toNat_natCast, hw]
  have e1 : runOver (l.getD i (0, [], [], 0, (0, 0, 0), false), (q.1, q.2.1, q.2.2), t, ()) = some (f (l.getD i (0, [], [], 0, (0, 0, 0), false)), ()) := a1
  simp only [e1, a2]
  cases c1 : f (l.getD i (0, [], [], 0, (0, 0, 0), false))
  ·cases c2 : g (l.getD i (0, [], [], 0, (0, 0, 0), false))
   ·refine .inl ⟨_, rfl, ⟨i + 1, rfl, by omega, fun r hr => ?_⟩, by dsimp only; omega, fun z hz => hz⟩
    rw [Zcj l (0, [], [], 0, (0, 0, 0), false) i (by omega)] at hr
    rcases List.mem_append.1 hr with hr | hr
    ·exact h2 r hr
    ·rw [List.mem_singleton.1 hr, c1, c2]; rfl
   ·exact .inr ⟨_, rfl, .inl ⟨i, by omega, rfl, h2, by rw [c1, c2]; rfl⟩⟩
  ·exact .inr ⟨_, rfl, .inl ⟨i, by omega, rfl, h2, by rw [c1]; rfl⟩⟩
 ·simp only [Br.run, decide_eq_false hi, cond_false]
  refine .inr ⟨_, rfl, .inr ⟨rfl, fun r hr => h2 r ?_⟩⟩
  rw [List.take_of_length_le (by omega)]; exact hr
theorem delR_at (i j : Nat) (hij : i < j) (hj : j <= l.length) (hk : l.take i = (l.take j).filter fun r => !(f r || g r)) : ∃ (row : List RunT) (k : Nat), Zil ((i : Int), (j : Int), M, q.1, q.2.1, q.2.2, t, l, ()) = some ((k : Int), M, q.1, q.2.1, q.2.2, t, row, ()) /\ k <= row.length /\ row.length = l.length /\ row.take k = l.filter fun r => !(f r || g r) := by
 suffices hh : ∃ z, Zil ((i : Int), (j : Int), M, q.1, q.2.1, q.2.2, t, l, ()) = some z /\ ∃ (row : List RunT) (k : Nat), z = ((k : Int), M, q.1, q.2.1, q.2.2, t, row, ()) /\ k <= row.length /\ row.length = l.length /\ row.take k = l.filter fun r => !(f r || g r) by
  obtain ⟨_, hz, row, k, rfl, h⟩ := hh
  exact ⟨row, k, hz, h⟩
 refine Zao (step := fun x => (Zij x).run) (Q := fun _ z => ∃ (row : List RunT) (k : Nat), z = ((k : Int), M, q.1, q.2.1, q.2.2, t, row, ()) /\ k <= row.length /\ row.length = l.length /\ row.take k = l.filter fun r => !(f r || g r))
  (fun y => ∃ (i j : Nat) (row : List RunT), y = ((i : Int), (j : Int), M, q.1, q.2.1, q.2.2, t, row, ()) /\ i < j /\ j <= l.length /\ row.length = l.length /\ (∀ u, j <= u -> row.getD u (0, [], [], 0, (0, 0, 0), false) = l.getD u (0, [], [], 0, (0, 0, 0), false)) /\ row.take i = (l.take j).filter fun r => !(f r || g r)) (fun y => ((l.length : Int) - y.2.1).toNat) ?_ _ ⟨i, j, l, rfl, hij, hj, rfl, fun _ _ => rfl, hk⟩
 rintro y ⟨i, j, row, rfl, h1, h2, h3, h4, h5⟩
 unfold Zij
 dsimp only
 by_cases hi : (j : Int) < (row.length : Int)
 ·have hw : IntKind.wrap .i64 ((j : Int) + 1) = ((j + 1 : Nat) : Int) := by rw [Go.PI.wrap_small (by omega) (by omega)]; rfl
  have hw2 : IntKind.wrap .i64 ((i : Int) + 1) = ((i + 1 : Nat) : Int) := by rw [Go.PI.wrap_small (by omega) (by omega)]; rfl
  have h0 : (0 : Int) <= j := by omega
  have hi0 : (0 : Int) <= i := by omega
  have hi1 : (i : Int) < (row.length : Int) := by omega
  have hjl : j < l.length := by omega
  have hm : l.getD j (0, [], [], 0, (0, 0, 0), false) ∈ l := by rw [Za1 _ _ _ hjl]; exact List.getElem_mem _
  have a1 := hf _ hm
  have a2 := hg _ hm
  simp only [Br.run, decide_eq_true hi, decide_eq_true h0, Bool.and_self, cond_true, Int.toNat_natCast, hw, h4 j (Nat.le_refl _)]
  have e1 : runOver (l.getD j (0, [], [], 0, (0, 0, 0), false), (q.1, q.2.1, q.2.2), t, ()) = some (f (l.getD j (0, [], [], 0, (0, 0, 0), false)), ()) := a1
  have kn := Zew (fun r => !(f r || g r)) l (0, [], [], 0, (0, 0, 0), false) j hjl
  simp only [e1, a2]
  cases c1 : f (l.getD j (0, [], [], 0, (0, 0, 0), false))
  ·cases c2 : g (l.getD j (0, [], [], 0, (0, 0, 0), false))
   ·simp only [decide_eq_true hi0, decide_eq_true hi1, Bool.and_self, hw2, Bool.not_false]
    refine .inl ⟨_, rfl, ⟨i + 1, j + 1, _, rfl, by omega, by omega, by rw [List.length_set]; exact h3, fun u hu => ?_, ?_⟩, by dsimp only; omega, fun z hz => hz⟩
    ·rw [<- h4 u (by omega)]
     simp only [List.getD_eq_getElem?_getD, List.getElem?_set_ne (show i ≠ u by omega)]
    ·rw [kn, c1, c2, <- h5, if_pos (show (!(false || false)) = true from rfl), Zcj _ (0, [], [], 0, (0, 0, 0), false) i (by rw [List.length_set]; omega), List.take_set_of_le (Nat.le_refl _), Za1 _ _ _ (by rw [List.length_set]; omega), List.getElem_set_self]
   ·refine .inl ⟨_, rfl, ⟨i, j + 1, row, rfl, by omega, by omega, h3, fun u hu => h4 u (by omega), ?_⟩, by dsimp only; omega, fun z hz => hz⟩
    rw [kn, c1, c2, <- h5]
    exact (List.append_nil _).symm
  ·refine .inl ⟨_, rfl, ⟨i, j + 1, row, rfl, by omega, by omega, h3, fun u hu => h4 u (by omega), ?_⟩, by dsimp only; omega, fun z hz => hz⟩
   rw [kn, c1, <- h5]
   exact (List.append_nil _).symm
 ·simp only [Br.run, decide_eq_false hi, cond_false]
  refine .inr ⟨_, rfl, row, i, rfl, by omega, h3, ?_⟩
  rw [h5, List.take_of_length_le (by omega)]
theorem Zku : expireM ((M, q, l), t, ()) = some ((), (M, q, l.filter fun r => !(f r || g r)), ()) := by
 unfold expireM ZfZ
 obtain ⟨z, hz, h⟩ := idxR_at hf hg hl
 dsimp only
 simp only [Br.run, hz]
 rcases h with ⟨i, hi, rfl, h1, h2⟩ | ⟨rfl, h1⟩
 ·have e1 : ((i : Int) == -1) = false := by rw [beq_eq_false_iff_ne]; omega
  have hw2 : IntKind.wrap .i64 ((i : Int) + 1) = ((i + 1 : Nat) : Int) := by rw [Go.PI.wrap_small (by omega) (by omega)]; rfl
  have hk : l.take i = (l.take (i + 1)).filter fun r => !(f r || g r) := by
   rw [Zew _ l (0, [], [], 0, (0, 0, 0), false) i hi, if_neg (by rw [h2]; exact Bool.false_ne_true), List.append_nil, List.filter_eq_self.2 h1]
  obtain ⟨row, k, e, k1, k2, k3⟩ := delR_at hf hg hl i (i + 1) (Nat.lt_succ_self i) hi hk
  have b0 : (0 : Int) <= k := by omega
  have b1 : (k : Int) <= (row.length : Int) := by omega
  have b2 : (k : Int) <= (((List.take (0 + k) row ++ List.replicate (((row.length : Int)).toNat - k) ((0, [], [], 0, (0, 0, 0), false) : RunT) ++ List.drop (0 + k + (((row.length : Int)).toNat - k)) row).length : Nat) : Int) := by
   simp only [List.length_append, List.length_take, List.length_replicate]
   omega
  have b3 : List.take k (List.take (0 + k) row ++ List.replicate (((row.length : Int)).toNat - k) ((0, [], [], 0, (0, 0, 0), false) : RunT) ++ List.drop (0 + k + (((row.length : Int)).toNat - k)) row) = row.take k := by
   rw [List.append_assoc, Nat.zero_add, List.take_append_of_le_length (by rw [List.length_take]; omega), List.take_take, Nat.min_self]
  simp only [Br.run, Br.sum, e1, cond_false, hw2, e, decide_eq_true b0, decide_eq_true b1, Int.le_refl, Bool.and_self, cond_true, Int.toNat_natCast, Int.toNat_zero, Nat.sub_zero, Int.le_refl, decide_true]
  simp only [Int.toNat_natCast] at b2 b3
  simp only [decide_eq_true b2, cond_true, b3, k3]
  rfl
 ·simp only [Br.run, Br.sum, cond_true]
  rw [List.filter_eq_self.2 h1]
end
theorem ZtG {q : Qry} {L : List Stt} (r : RunT) (e : Evt) (b : Bool) (hb : r.2.2.2.2.2 = false -> blocksG (ZaJ, q, r, e, ()) = some (b, ())) :
  behindM (some (ZaJ, q, some (q, L)), r, e, ()) = some ((r.1, r.2.1, r.2.2.1, r.2.2.2.1, r.2.2.2.2.1, r.2.2.2.2.2 || b), ()) := by
 obtain ⟨s, m, bd, ft, st, bl⟩ := r
 unfold behindM ZmP
 cases bl
 ·have h := hb rfl
  simp only [Br.run, Option.isNone_some, Bool.not_false, cond_true, ZeM, Option.isSome_some, h, ZqS, Bool.false_or]
  cases b <;> rfl
 ·rfl
end Go.Proofs.YtkbdofnbagmlfaaGreat
