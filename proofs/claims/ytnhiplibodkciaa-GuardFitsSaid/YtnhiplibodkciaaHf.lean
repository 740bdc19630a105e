/- Contracts of functions. Printed by auto.py. What guards come to: whatever is asked, an answer. Blocks: whether one of the elements that must not be there fits; the statement's own loop comes to the same. -/
import Derived.Test.YtnhiplibodkciaaHa
import Derived.Test.YtnhiplibodkciaaHe
import Derived.Test.YtnhiplibodkciaaHd
namespace Go.Proofs.Ytnhiplibodkciaa
open Go.PI Go
noncomputable def envR_B : (zA6 × Unit) → Br (zA21 × Unit) := fun (p0, ()) =>
 (.opt (listB (p0.2.2.1, ())) fun y2 =>
 (.ret (y2.1, ())))
noncomputable def envR : (zA6 × Unit) → Option (zA21 × Unit) := fun x => (envR_B x).run
abbrev envR_ins : List (Bool × Pat) := [(false, .ty false zA7)]
abbrev envR_outs : List Pat := [.row 58 (.st (.pair .str zA9))]
noncomputable abbrev envR_f : Func := Try.f93
noncomputable abbrev envR_P : Program := Try.prog
noncomputable def envR_c : Ctx := { cxN2 with base := 1024 }
set_option maxRecDepth 100000 in
theorem envR_env : EnvFull envR_P envR_c := env_base (enN2) 1024
noncomputable def envR_p : Par := { sh := fun _ => none, k := 0, lo := fun _ => none }
set_option maxRecDepth 100000 in
theorem envR_eq (p0 : zA6) : ocRun envR_c envR_p envR_f envR_ins envR_outs (p0, ()) = envR_B (p0, ()) := by kernel_rfl
set_option maxRecDepth 100000 in
theorem envR_oc : OC envR_P 93 envR_ins envR_outs envR := OC.of_tree envR_env Try.func93 (by kernel_rfl) (by kernel_rfl) (p := envR_p) (fun g hg => LoOk.of (l := []) (by kernel_rfl) .nil) (fun (p0, ()) => envR_eq p0)
noncomputable def cx_envR : Ctx := addO cxN2 93 (ocOrc envR_ins envR_outs envR)
theorem en_envR : EnvFull Try.prog cx_envR := env_add (enN2) envR_oc.callOk
noncomputable def fitsG_B : ((Option zA11) × (zA10 × (zA6 × (Int × (zA2 × Unit))))) → Br (Bool × Unit) := fun (p0, p1, p2, p3, p4, ()) =>
 (.cond (decide (p3 < 0))
 (.ret (false, ()))
 (.cond (decide (p3 ≥ (↑(List.length p1.1) : Int)))
 (.ret (false, ()))
 (.cond (decide (0 ≤ p3) && decide (p3 < (↑(List.length p1.1) : Int)))
 (.opt (hasStr (Prod.fst (Prod.snd (List.getD p1.1 (Int.toNat p3) (ByteArray.empty, [], false, 0, 0, []))), p4.1, ())) fun y8 =>
 (.cond (!y8.1)
 (.ret (false, ()))
 (.cond (decide (0 ≤ p3) && decide (p3 < (↑(List.length p1.1) : Int)))
 (.opt (envR (p2, ())) fun y9 =>
 (.cond (decide ((List.length y9.1 + List.length (List.set (List.replicate 1 (ByteArray.empty, ByteArray.empty, ByteArray.empty, 0, 0, [])) 0 (Prod.fst (List.getD p1.1 (Int.toNat p3) (ByteArray.empty, [], false, 0, 0, [])), p4))) * 88 ≤ 140737488355328))
 (.opt (holdsF (p0, Prod.snd (Prod.snd (Prod.snd (Prod.snd (Prod.snd (List.getD p1.1 (Int.toNat p3) (ByteArray.empty, [], false, 0, 0, [])))))), y9.1 ++ List.set (List.replicate 1 (ByteArray.empty, ByteArray.empty, ByteArray.empty, 0, 0, [])) 0 (Prod.fst (List.getD p1.1 (Int.toNat p3) (ByteArray.empty, [], false, 0, 0, [])), p4), ())) fun y10 =>
 (.ret (y10.1, ())))
 (.no)))
 (.no))))
 (.no))))
noncomputable def fitsG : ((Option zA11) × (zA10 × (zA6 × (Int × (zA2 × Unit))))) → Option (Bool × Unit) := fun x => (fitsG_B x).run
abbrev fitsG_ins : List (Bool × Pat) := [(false, .ty true zA17), (false, .ty true zA5), (false, .ty false zA7), (false, .ty false (.int .i64)), (false, .ty true zA9)]
abbrev fitsG_outs : List Pat := [.ty false .bool]
noncomputable abbrev fitsG_f : Func := Try.f48
noncomputable abbrev fitsG_P : Program := Try.prog
noncomputable def fitsG_c : Ctx := { cx_envR with base := 1024 }
set_option maxRecDepth 100000 in
theorem fitsG_env : EnvFull fitsG_P fitsG_c := env_base (en_envR) 1024
noncomputable def fitsG_p : Par := { sh := fun _ => none, k := 0, lo := fun _ => none }
set_option maxRecDepth 100000 in
theorem fitsG_eq (p0 : (Option zA11)) (p1 : zA10) (p2 : zA6) (p3 : Int) (p4 : zA2) : ocRun fitsG_c fitsG_p fitsG_f fitsG_ins fitsG_outs (p0, p1, p2, p3, p4, ()) = fitsG_B (p0, p1, p2, p3, p4, ()) := by kernel_rfl
set_option maxRecDepth 100000 in
theorem fitsG_oc : OC fitsG_P 48 fitsG_ins fitsG_outs fitsG := OC.of_tree fitsG_env Try.func48 (by kernel_rfl) (by kernel_rfl) (p := fitsG_p) (fun g hg => LoOk.of (l := []) (by kernel_rfl) .nil) (fun (p0, p1, p2, p3, p4, ()) => fitsG_eq p0 p1 p2 p3 p4)
noncomputable def cx_fitsG : Ctx := addO cx_envR 48 (ocOrc fitsG_ins fitsG_outs fitsG)
theorem en_fitsG : EnvFull Try.prog cx_fitsG := env_add (en_envR) fitsG_oc.callOk
noncomputable def blocksG_l0 : ((Option zA11) × ((List Int) × (Int × (Int × (zA10 × (zA6 × (zA2 × Unit))))))) → Br (((Option zA11) × ((List Int) × (Int × (Int × (zA10 × (zA6 × (zA2 × Unit))))))) ⊕ (Unit ⊕ Unit)) := fun (s0_45, s17_46, s18_47, s19_48, v1029_49, v1030_50, v1031_51, ()) =>
 (.cond (decide (s19_48 < s18_47))
 (.cond (decide (0 ≤ s19_48) && decide (s19_48 < (↑(List.length s17_46) : Int)))
 (.opt (fitsG (s0_45, v1029_49, v1030_50, List.getD s17_46 (Int.toNat s19_48) 0, v1031_51, ())) fun y52 =>
 (.cond y52.1
 (.ret (.inr (.inl (()))))
 (.ret (.inl (s0_45, s17_46, s18_47, IntKind.wrap .i64 (s19_48 + 1), v1029_49, v1030_50, v1031_51, ())))))
 (.no))
 (.ret (.inr (.inr (())))))
noncomputable def blocksG_w0 : ((Option zA11) × ((List Int) × (Int × (Int × (zA10 × (zA6 × (zA2 × Unit))))))) → Option (Unit ⊕ Unit) := iterO fun x => (blocksG_l0 x).run
noncomputable def blocksG_B : ((Option zA11) × (zA10 × (zA6 × (zA2 × Unit)))) → Br (Bool × Unit) := fun (p0, p1, p2, p3, ()) =>
 (.opt (runLen (p2, ())) fun y42 =>
 (.cond (y42.1 == 0)
 (.ret (false, ()))
 (.opt (runElem (p2, ())) fun y43 =>
 (.opt (betwQ (p1, y43.1, ())) fun y44 =>
 (.opt (blocksG_w0 (p0, y44.1, (↑(List.length y44.1) : Int), 0, p1, p2, p3, ())) fun z54 =>
 (.sum z54 (fun u55 =>
 (.ret (true, ()))) (fun z56 =>
 (.ret (false, ())))))))))
noncomputable def blocksG : ((Option zA11) × (zA10 × (zA6 × (zA2 × Unit)))) → Option (Bool × Unit) := fun x => (blocksG_B x).run
abbrev blocksG_ins : List (Bool × Pat) := [(false, .ty true zA17), (false, .ty true zA5), (false, .ty false zA7), (false, .ty true zA9)]
abbrev blocksG_outs : List Pat := [.ty false .bool]
noncomputable abbrev blocksG_f : Func := Try.f49
noncomputable abbrev blocksG_P : Program := Try.prog
abbrev blocksG_kp : List Nat := kpOf blocksG_ins
abbrev blocksG_kf : List Nat := kfOf blocksG_ins
noncomputable def blocksG_c : Ctx := { cx_fitsG with base := 1024 }
set_option maxRecDepth 100000 in
theorem blocksG_env : EnvFull blocksG_P blocksG_c := env_base (en_fitsG) 1024
abbrev blocksG_H0 : List Hole := [.slot 0 true zA17, .slot 17 false (.sl (.int .i64)), .slot 18 false (.int .i64), .slot 19 false (.int .i64), .tv 1029 true zA5, .tv 1030 false zA7, .tv 1031 true zA9]
def blocksG_S0 : Skel := ⟨30, [(5, D.c (C.ref 1029 0 0)), (6, D.c (C.ref 1030 0 0)), (7, D.c (C.ref 1031 0 0))], [(1029, []), (1030, []), (1031, [])]⟩
abbrev blocksG_H0e0 : List Hole := []
def blocksG_S0e0 : Skel := ⟨30, [(8, D.c C.tt)], []⟩
abbrev blocksG_H0e1 : List Hole := []
def blocksG_S0e1 : Skel := ⟨30, [], []⟩
def blocksG_h0 : Exit → Shape
  | .normal => ⟨[(0, .as true zA17), (5, .keep), (6, .keep), (7, .keep), (17, .as false (.sl (.int .i64))), (18, .as false (.int .i64)), (19, .as false (.int .i64))], [], [(5, true), (6, false), (7, true)]⟩
  | .ret => ⟨[(8, .keep)], [], []⟩
  | .exit 0 => ⟨[], [], []⟩
  | _ => ⟨[], [], []⟩
def blocksG_e0 : (Unit ⊕ Unit) → Exit × St
  | (.inl u) => (.ret, blocksG_S0e0.fillK blocksG_kf blocksG_H0e0 u)
  | (.inr u) => (.exit 0, blocksG_S0e1.fillK blocksG_kf blocksG_H0e1 u)
def blocksG_t0 : (Unit ⊕ Unit) → Br (Exit × St) := fun z => .sum z (fun u => .ret (.ret, blocksG_S0e0.fillK blocksG_kf blocksG_H0e0 u)) (fun u => .ret (.exit 0, blocksG_S0e1.fillK blocksG_kf blocksG_H0e1 u))
noncomputable def blocksG_C0 : Code := loopAt 0 (bodyOf blocksG_f)
noncomputable def blocksG_o0 : St → Br (Exit × St) := loopF blocksG_kp blocksG_kf 1024 (blocksG_h0 .normal) (blocksG_S0.parseK blocksG_kf blocksG_H0) fun x => .opt (blocksG_w0 x) blocksG_t0
noncomputable def blocksG_p : Par := { sh := fun _ => none, k := 0, lo := fun i => bif Nat.beq i 4 then some blocksG_o0 else none }
set_option maxRecDepth 100000 in
theorem blocksG_r0 (s0_45 : (Option zA11)) (s17_46 : (List Int)) (s18_47 : Int) (s19_48 : Int) (v1029_49 : zA10) (v1030_50 : zA6) (v1031_51 : zA2) : roundF blocksG_kp blocksG_kf blocksG_c blocksG_p blocksG_h0 blocksG_C0 (blocksG_S0.fillK blocksG_kf blocksG_H0 (s0_45, s17_46, s18_47, s19_48, v1029_49, v1030_50, v1031_51, ())) = (blocksG_l0 (s0_45, s17_46, s18_47, s19_48, v1029_49, v1030_50, v1031_51, ())).bind (loopLeaf (fun x => blocksG_S0.fillK blocksG_kf blocksG_H0 x) blocksG_e0) := by kernel_rfl
set_option maxRecDepth 100000 in
theorem blocksG_ok0 (g : Cfg) (hg : ∀ n, Go.PI.look n g.m0 ≠ Option.none → n ∈ blocksG_kp) : LoopOk blocksG_P g blocksG_o0 blocksG_C0 := LoopOk.auto blocksG_env hg blocksG_p (LoOk.of (l := []) (by kernel_rfl) .nil) blocksG_h0 (fun x => blocksG_S0.fillK blocksG_kf blocksG_H0 x) (fun s x h => Skel.parseK_ok s x h) blocksG_l0 blocksG_e0 (fun z h => by rcases z with z | z <;> cases h) blocksG_t0 (fun z => by rcases z with z | z <;> rfl) (fun (s0_45, s17_46, s18_47, s19_48, v1029_49, v1030_50, v1031_51, ()) => blocksG_r0 s0_45 s17_46 s18_47 s19_48 v1029_49 v1030_50 v1031_51)
set_option maxRecDepth 100000 in
theorem blocksG_eq (p0 : (Option zA11)) (p1 : zA10) (p2 : zA6) (p3 : zA2) : ocRun blocksG_c blocksG_p blocksG_f blocksG_ins blocksG_outs (p0, p1, p2, p3, ()) = blocksG_B (p0, p1, p2, p3, ()) := by kernel_rfl
set_option maxRecDepth 100000 in
theorem blocksG_oc : OC blocksG_P 49 blocksG_ins blocksG_outs blocksG := OC.of_tree blocksG_env Try.func49 (by kernel_rfl) (by kernel_rfl) (p := blocksG_p) (fun g hg => LoOk.of (l := [blocksG_C0]) (by kernel_rfl) (.cons (blocksG_ok0 g hg) (by kernel_rfl) .nil)) (fun (p0, p1, p2, p3, ()) => blocksG_eq p0 p1 p2 p3)
noncomputable def cx_blocksG : Ctx := addO cx_fitsG 49 (ocOrc blocksG_ins blocksG_outs blocksG)
theorem en_blocksG : EnvFull Try.prog cx_blocksG := env_add (en_fitsG) blocksG_oc.callOk
end Go.Proofs.Ytnhiplibodkciaa

namespace Go.Proofs.Ytnhiplibodkciaa
open Go.PI Go

abbrev Elm := ByteArray × (List ByteArray × (Bool × (Int × (Int × List Nd))))
abbrev Qry := List Elm × (Int × Int)
abbrev Prs := Int × Int
abbrev Stp := Int × (Int × Int)
abbrev RunT := Int × (List Prs × (List Bnd × (Int × (Stp × Bool))))
abbrev eZ : Elm := (ByteArray.empty, [], false, 0, 0, [])

theorem idxStr_tot (l : List ByteArray) (hl : l.length ≤ 1000) (s : ByteArray) : ∃ r, idxStr (l, s, ()) = some (r, ()) := by
  unfold idxStr idxStr_B
  obtain ⟨z, hz, -⟩ : ∃ z, idxStr_w0 (l, s, (↑(List.length l) : Int), 0, ()) = some z ∧ True := by
    refine iterO_rec (step := fun x => (idxStr_l0 x).run) (Q := fun _ _ => True) (fun x => x.1 = l ∧ x.2.1 = s ∧ x.2.2.1 = (l.length : Int) ∧ 0 ≤ x.2.2.2.1 ∧ x.2.2.2.1 ≤ (l.length : Int)) (fun x => ((l.length : Int) - x.2.2.2.1).toNat) ?_ _ ⟨rfl, rfl, rfl, by dsimp only; omega, by dsimp only; omega⟩
    rintro ⟨l', s', m, i, ⟨⟩⟩ hx
    dsimp only at hx ⊢
    obtain ⟨rfl, rfl, rfl, h0, h1⟩ := hx
    unfold idxStr_l0
    by_cases hi : i < (l'.length : Int)
    · have hw : IntKind.wrap .i64 (i + 1) = i + 1 := Go.PI.wrap_small (by omega) (by omega)
      simp only [Br.run, decide_eq_true hi, decide_eq_true h0, Bool.and_self, cond_true, hw, cond_eq_ite]
      by_cases hc : (bl s' == bl (l'.getD i.toNat ByteArray.empty)) = true <;> simp only [hc, ↓reduceIte, Bool.false_eq_true]
      · exact .inr ⟨_, rfl, trivial⟩
      · refine .inl ⟨_, rfl, ?_, ?_, fun z hz => hz⟩
        · exact ⟨rfl, rfl, rfl, by dsimp only; omega, by dsimp only; omega⟩
        · dsimp only; omega
    · simp only [Br.run, decide_eq_false hi, cond_false]
      exact .inr ⟨_, rfl, trivial⟩
  simp only [Br.run, hz]
  cases z <;> exact ⟨_, rfl⟩
theorem hasStr_tot (l : List ByteArray) (hl : l.length ≤ 1000) (s : ByteArray) : ∃ b, hasStr (l, s, ()) = some (b, ()) := by
  unfold hasStr hasStr_B
  obtain ⟨r, h⟩ := idxStr_tot l hl s
  simp only [Br.run, h]
  exact ⟨_, rfl⟩

theorem holdsF_tot (l : List Nd) (env : List Bnd) (he : env.length ≤ 64) : ∃ b, holdsF (sch3, l, env, ()) = some (b, ()) := by
  unfold holdsF holdsF_B truthV truthV_B
  simp only [Br.run, evalE_at (fv_tot env he), cond_eq_ite]
  split
  · exact ⟨_, rfl⟩
  · split
    all_goals (split <;> exact ⟨_, rfl⟩)

def QOk (q : Qry) : Prop := ∀ e ∈ q.1, e.2.1.length ≤ 1000
theorem qok_get {q : Qry} (h : QOk q) (i : Nat) : (q.1.getD i eZ).2.1.length ≤ 1000 := by
  by_cases hi : i < q.1.length
  · have : q.1.getD i eZ = q.1[i] := by simp [List.getD, hi]
    rw [this]
    exact h _ (List.getElem_mem hi)
  · have : q.1.getD i eZ = eZ := by simp [List.getD, Nat.le_of_not_lt hi]
    rw [this]; decide

end Go.Proofs.Ytnhiplibodkciaa

namespace Go.Proofs.Ytnhiplibodkciaa
open Go.PI Go

end Go.Proofs.Ytnhiplibodkciaa
