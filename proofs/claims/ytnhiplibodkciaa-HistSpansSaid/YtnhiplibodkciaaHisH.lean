/- Package hist: Spans: a round of its loop, as a tree. -/
import Derived.Test.YtnhiplibodkciaaHisG
namespace Go.Proofs.Ytnhiplibodkciaa
open Go.PI

def eAt (h : List EvtV) (i : Int) : EvtV := List.getD h (Int.toNat i) evtZ
def eK (e : EvtV) : Int := e.1
def eC (e : EvtV) : Int := e.2.1
def eN (e : EvtV) : Int := e.2.2.1
def eR (e : EvtV) : RetV := e.2.2.2
def kk (e : EvtV) (out : List SpanV) : Int := idx (eC e) (eN e) out 0
def pp (e : EvtV) (out : List SpanV) : Int := idx (eC e) (IntKind.wrap .i64 (eN e - 1)) out 0
def sAt (out : List SpanV) (k : Int) : SpanV := List.getD out (Int.toNat k) spanZ

def sTree (h : List EvtV) (n i : Int) (out : List SpanV) : Option (Exit × St) :=
(bif decide (i < n) then
 (bif decide (0 ≤ i) && decide (i < (Nat.cast (List.length h) : Int)) then
  (bif decide (List.length out ≤ 1000000) then
   (bif eK (eAt h i) == 1 then
    (bif decide (kk (eAt h i) out ≥ 0) then
     some (.ret, sBad)
     else (bif decide (eN (eAt h i) > 0) then
      (bif decide (List.length out ≤ 1000000) then
       (bif decide (pp (eAt h i) out ≥ 0) then
        (bif decide (0 ≤ pp (eAt h i) out) && decide (pp (eAt h i) out < (Nat.cast (List.length out) : Int)) then
         (bif !decide (Prod.fst (Prod.snd (Prod.snd (Prod.snd (Prod.snd (sAt out (pp (eAt h i) out)))))) ≥ 0) then
          some (.ret, sBad)
          else (bif decide (eN (eAt h i) < 0) then
           some (.ret, sBad)
           else (bif decide ((List.length out + List.length (List.set [spanZ] 0 (eC (eAt h i), eN (eAt h i), i, -1, -1, 0, 0, List.replicate 6 0))) * 104 ≤ 140737488355328) then
            some (.normal, sSkel.fill sHoles (h, n, IntKind.wrap .i64 (i + 1), out ++ List.set [spanZ] 0 (eC (eAt h i), eN (eAt h i), i, -1, -1, 0, 0, List.replicate 6 0), ()))
            else none)))
         else none)
        else some (.ret, sBad))
       else none)
      else (bif decide (eN (eAt h i) < 0) then
       some (.ret, sBad)
       else (bif decide ((List.length out + List.length (List.set [spanZ] 0 (eC (eAt h i), eN (eAt h i), i, -1, -1, 0, 0, List.replicate 6 0))) * 104 ≤ 140737488355328) then
        some (.normal, sSkel.fill sHoles (h, n, IntKind.wrap .i64 (i + 1), out ++ List.set [spanZ] 0 (eC (eAt h i), eN (eAt h i), i, -1, -1, 0, 0, List.replicate 6 0), ()))
        else none))))
    else (bif eK (eAt h i) == 2 then
     (bif decide (kk (eAt h i) out < 0) then
      some (.ret, sBad)
      else (bif decide (0 ≤ kk (eAt h i) out) && decide (kk (eAt h i) out < (Nat.cast (List.length out) : Int)) then
       (bif decide (Prod.fst (Prod.snd (Prod.snd (Prod.snd (sAt out (kk (eAt h i) out))))) ≥ 0) then
        some (.ret, sBad)
        else (bif decide (0 ≤ kk (eAt h i) out) && decide (kk (eAt h i) out < (Nat.cast (List.length out) : Int)) then
         (bif decide (Prod.fst (Prod.snd (Prod.snd (Prod.snd (Prod.snd (sAt out (kk (eAt h i) out)))))) ≥ 0) then
          some (.ret, sBad)
          else (bif decide (0 ≤ kk (eAt h i) out) && decide (kk (eAt h i) out < (Nat.cast (List.length out) : Int)) then
           (bif decide (0 ≤ kk (eAt h i) out) && decide (kk (eAt h i) out < (Nat.cast (List.length (List.set out (Int.toNat (kk (eAt h i) out)) (Prod.fst (sAt out (kk (eAt h i) out)), Prod.fst (Prod.snd (sAt out (kk (eAt h i) out))), Prod.fst (Prod.snd (Prod.snd (sAt out (kk (eAt h i) out)))), i, Prod.snd (Prod.snd (Prod.snd (Prod.snd (sAt out (kk (eAt h i) out)))))))) : Int)) then
            some (.normal, sSkel.fill sHoles (h, n, IntKind.wrap .i64 (i + 1), List.set (List.set out (Int.toNat (kk (eAt h i) out)) (Prod.fst (sAt out (kk (eAt h i) out)), Prod.fst (Prod.snd (sAt out (kk (eAt h i) out))), Prod.fst (Prod.snd (Prod.snd (sAt out (kk (eAt h i) out)))), i, Prod.snd (Prod.snd (Prod.snd (Prod.snd (sAt out (kk (eAt h i) out))))))) (Int.toNat (kk (eAt h i) out)) (Prod.fst (List.getD (List.set out (Int.toNat (kk (eAt h i) out)) (Prod.fst (sAt out (kk (eAt h i) out)), Prod.fst (Prod.snd (sAt out (kk (eAt h i) out))), Prod.fst (Prod.snd (Prod.snd (sAt out (kk (eAt h i) out)))), i, Prod.snd (Prod.snd (Prod.snd (Prod.snd (sAt out (kk (eAt h i) out))))))) (Int.toNat (kk (eAt h i) out)) (0, 0, 0, 0, 0, 0, 0, List.replicate 6 0)), Prod.fst (Prod.snd (List.getD (List.set out (Int.toNat (kk (eAt h i) out)) (Prod.fst (sAt out (kk (eAt h i) out)), Prod.fst (Prod.snd (sAt out (kk (eAt h i) out))), Prod.fst (Prod.snd (Prod.snd (sAt out (kk (eAt h i) out)))), i, Prod.snd (Prod.snd (Prod.snd (Prod.snd (sAt out (kk (eAt h i) out))))))) (Int.toNat (kk (eAt h i) out)) (0, 0, 0, 0, 0, 0, 0, List.replicate 6 0))), Prod.fst (Prod.snd (Prod.snd (List.getD (List.set out (Int.toNat (kk (eAt h i) out)) (Prod.fst (sAt out (kk (eAt h i) out)), Prod.fst (Prod.snd (sAt out (kk (eAt h i) out))), Prod.fst (Prod.snd (Prod.snd (sAt out (kk (eAt h i) out)))), i, Prod.snd (Prod.snd (Prod.snd (Prod.snd (sAt out (kk (eAt h i) out))))))) (Int.toNat (kk (eAt h i) out)) (0, 0, 0, 0, 0, 0, 0, List.replicate 6 0)))), Prod.fst (Prod.snd (Prod.snd (Prod.snd (List.getD (List.set out (Int.toNat (kk (eAt h i) out)) (Prod.fst (sAt out (kk (eAt h i) out)), Prod.fst (Prod.snd (sAt out (kk (eAt h i) out))), Prod.fst (Prod.snd (Prod.snd (sAt out (kk (eAt h i) out)))), i, Prod.snd (Prod.snd (Prod.snd (Prod.snd (sAt out (kk (eAt h i) out))))))) (Int.toNat (kk (eAt h i) out)) (0, 0, 0, 0, 0, 0, 0, List.replicate 6 0))))), Prod.fst (Prod.snd (Prod.snd (Prod.snd (Prod.snd (List.getD (List.set out (Int.toNat (kk (eAt h i) out)) (Prod.fst (sAt out (kk (eAt h i) out)), Prod.fst (Prod.snd (sAt out (kk (eAt h i) out))), Prod.fst (Prod.snd (Prod.snd (sAt out (kk (eAt h i) out)))), i, Prod.snd (Prod.snd (Prod.snd (Prod.snd (sAt out (kk (eAt h i) out))))))) (Int.toNat (kk (eAt h i) out)) (0, 0, 0, 0, 0, 0, 0, List.replicate 6 0)))))), Prod.snd (Prod.snd (Prod.snd (eAt h i)))), ()))
            else none)
           else none))
         else none))
       else none))
     else (bif eK (eAt h i) == 3 then
      (bif decide (kk (eAt h i) out < 0) then
       some (.ret, sBad)
       else (bif decide (0 ≤ kk (eAt h i) out) && decide (kk (eAt h i) out < (Nat.cast (List.length out) : Int)) then
        (bif decide (Prod.fst (Prod.snd (Prod.snd (Prod.snd (Prod.snd (sAt out (kk (eAt h i) out)))))) ≥ 0) then
         some (.ret, sBad)
         else (bif decide (0 ≤ kk (eAt h i) out) && decide (kk (eAt h i) out < (Nat.cast (List.length out) : Int)) then
          (bif decide (Prod.fst (Prod.snd (Prod.snd (Prod.snd (sAt out (kk (eAt h i) out))))) ≥ 0) then
           (bif decide (0 ≤ kk (eAt h i) out) && decide (kk (eAt h i) out < (Nat.cast (List.length out) : Int)) then
            (bif !(decide (Prod.fst (Prod.snd (Prod.snd (Prod.snd (Prod.snd (Prod.snd (sAt out (kk (eAt h i) out))))))) = Prod.fst (Prod.snd (Prod.snd (Prod.snd (eAt h i))))) && (decide (Prod.fst (Prod.snd (Prod.snd (Prod.snd (Prod.snd (Prod.snd (Prod.snd (sAt out (kk (eAt h i) out)))))))) = Prod.fst (Prod.snd (Prod.snd (Prod.snd (Prod.snd (eAt h i)))))) && decide (Prod.snd (Prod.snd (Prod.snd (Prod.snd (Prod.snd (Prod.snd (Prod.snd (sAt out (kk (eAt h i) out)))))))) = Prod.snd (Prod.snd (Prod.snd (Prod.snd (Prod.snd (eAt h i)))))))) then
             some (.ret, sBad)
             else (bif decide (0 ≤ kk (eAt h i) out) && decide (kk (eAt h i) out < (Nat.cast (List.length out) : Int)) then
              (bif decide (0 ≤ kk (eAt h i) out) && decide (kk (eAt h i) out < (Nat.cast (List.length (List.set out (Int.toNat (kk (eAt h i) out)) (Prod.fst (sAt out (kk (eAt h i) out)), Prod.fst (Prod.snd (sAt out (kk (eAt h i) out))), Prod.fst (Prod.snd (Prod.snd (sAt out (kk (eAt h i) out)))), Prod.fst (Prod.snd (Prod.snd (Prod.snd (sAt out (kk (eAt h i) out))))), i, Prod.snd (Prod.snd (Prod.snd (Prod.snd (Prod.snd (sAt out (kk (eAt h i) out))))))))) : Int)) then
               some (.normal, sSkel.fill sHoles (h, n, IntKind.wrap .i64 (i + 1), List.set (List.set out (Int.toNat (kk (eAt h i) out)) (Prod.fst (sAt out (kk (eAt h i) out)), Prod.fst (Prod.snd (sAt out (kk (eAt h i) out))), Prod.fst (Prod.snd (Prod.snd (sAt out (kk (eAt h i) out)))), Prod.fst (Prod.snd (Prod.snd (Prod.snd (sAt out (kk (eAt h i) out))))), i, Prod.snd (Prod.snd (Prod.snd (Prod.snd (Prod.snd (sAt out (kk (eAt h i) out)))))))) (Int.toNat (kk (eAt h i) out)) (Prod.fst (List.getD (List.set out (Int.toNat (kk (eAt h i) out)) (Prod.fst (sAt out (kk (eAt h i) out)), Prod.fst (Prod.snd (sAt out (kk (eAt h i) out))), Prod.fst (Prod.snd (Prod.snd (sAt out (kk (eAt h i) out)))), Prod.fst (Prod.snd (Prod.snd (Prod.snd (sAt out (kk (eAt h i) out))))), i, Prod.snd (Prod.snd (Prod.snd (Prod.snd (Prod.snd (sAt out (kk (eAt h i) out)))))))) (Int.toNat (kk (eAt h i) out)) (0, 0, 0, 0, 0, 0, 0, List.replicate 6 0)), Prod.fst (Prod.snd (List.getD (List.set out (Int.toNat (kk (eAt h i) out)) (Prod.fst (sAt out (kk (eAt h i) out)), Prod.fst (Prod.snd (sAt out (kk (eAt h i) out))), Prod.fst (Prod.snd (Prod.snd (sAt out (kk (eAt h i) out)))), Prod.fst (Prod.snd (Prod.snd (Prod.snd (sAt out (kk (eAt h i) out))))), i, Prod.snd (Prod.snd (Prod.snd (Prod.snd (Prod.snd (sAt out (kk (eAt h i) out)))))))) (Int.toNat (kk (eAt h i) out)) (0, 0, 0, 0, 0, 0, 0, List.replicate 6 0))), Prod.fst (Prod.snd (Prod.snd (List.getD (List.set out (Int.toNat (kk (eAt h i) out)) (Prod.fst (sAt out (kk (eAt h i) out)), Prod.fst (Prod.snd (sAt out (kk (eAt h i) out))), Prod.fst (Prod.snd (Prod.snd (sAt out (kk (eAt h i) out)))), Prod.fst (Prod.snd (Prod.snd (Prod.snd (sAt out (kk (eAt h i) out))))), i, Prod.snd (Prod.snd (Prod.snd (Prod.snd (Prod.snd (sAt out (kk (eAt h i) out)))))))) (Int.toNat (kk (eAt h i) out)) (0, 0, 0, 0, 0, 0, 0, List.replicate 6 0)))), Prod.fst (Prod.snd (Prod.snd (Prod.snd (List.getD (List.set out (Int.toNat (kk (eAt h i) out)) (Prod.fst (sAt out (kk (eAt h i) out)), Prod.fst (Prod.snd (sAt out (kk (eAt h i) out))), Prod.fst (Prod.snd (Prod.snd (sAt out (kk (eAt h i) out)))), Prod.fst (Prod.snd (Prod.snd (Prod.snd (sAt out (kk (eAt h i) out))))), i, Prod.snd (Prod.snd (Prod.snd (Prod.snd (Prod.snd (sAt out (kk (eAt h i) out)))))))) (Int.toNat (kk (eAt h i) out)) (0, 0, 0, 0, 0, 0, 0, List.replicate 6 0))))), Prod.fst (Prod.snd (Prod.snd (Prod.snd (Prod.snd (List.getD (List.set out (Int.toNat (kk (eAt h i) out)) (Prod.fst (sAt out (kk (eAt h i) out)), Prod.fst (Prod.snd (sAt out (kk (eAt h i) out))), Prod.fst (Prod.snd (Prod.snd (sAt out (kk (eAt h i) out)))), Prod.fst (Prod.snd (Prod.snd (Prod.snd (sAt out (kk (eAt h i) out))))), i, Prod.snd (Prod.snd (Prod.snd (Prod.snd (Prod.snd (sAt out (kk (eAt h i) out)))))))) (Int.toNat (kk (eAt h i) out)) (0, 0, 0, 0, 0, 0, 0, List.replicate 6 0)))))), Prod.snd (Prod.snd (Prod.snd (eAt h i)))), ()))
               else none)
              else none))
            else none)
           else (bif decide (0 ≤ kk (eAt h i) out) && decide (kk (eAt h i) out < (Nat.cast (List.length out) : Int)) then
            (bif decide (0 ≤ kk (eAt h i) out) && decide (kk (eAt h i) out < (Nat.cast (List.length (List.set out (Int.toNat (kk (eAt h i) out)) (Prod.fst (sAt out (kk (eAt h i) out)), Prod.fst (Prod.snd (sAt out (kk (eAt h i) out))), Prod.fst (Prod.snd (Prod.snd (sAt out (kk (eAt h i) out)))), Prod.fst (Prod.snd (Prod.snd (Prod.snd (sAt out (kk (eAt h i) out))))), i, Prod.snd (Prod.snd (Prod.snd (Prod.snd (Prod.snd (sAt out (kk (eAt h i) out))))))))) : Int)) then
             some (.normal, sSkel.fill sHoles (h, n, IntKind.wrap .i64 (i + 1), List.set (List.set out (Int.toNat (kk (eAt h i) out)) (Prod.fst (sAt out (kk (eAt h i) out)), Prod.fst (Prod.snd (sAt out (kk (eAt h i) out))), Prod.fst (Prod.snd (Prod.snd (sAt out (kk (eAt h i) out)))), Prod.fst (Prod.snd (Prod.snd (Prod.snd (sAt out (kk (eAt h i) out))))), i, Prod.snd (Prod.snd (Prod.snd (Prod.snd (Prod.snd (sAt out (kk (eAt h i) out)))))))) (Int.toNat (kk (eAt h i) out)) (Prod.fst (List.getD (List.set out (Int.toNat (kk (eAt h i) out)) (Prod.fst (sAt out (kk (eAt h i) out)), Prod.fst (Prod.snd (sAt out (kk (eAt h i) out))), Prod.fst (Prod.snd (Prod.snd (sAt out (kk (eAt h i) out)))), Prod.fst (Prod.snd (Prod.snd (Prod.snd (sAt out (kk (eAt h i) out))))), i, Prod.snd (Prod.snd (Prod.snd (Prod.snd (Prod.snd (sAt out (kk (eAt h i) out)))))))) (Int.toNat (kk (eAt h i) out)) (0, 0, 0, 0, 0, 0, 0, List.replicate 6 0)), Prod.fst (Prod.snd (List.getD (List.set out (Int.toNat (kk (eAt h i) out)) (Prod.fst (sAt out (kk (eAt h i) out)), Prod.fst (Prod.snd (sAt out (kk (eAt h i) out))), Prod.fst (Prod.snd (Prod.snd (sAt out (kk (eAt h i) out)))), Prod.fst (Prod.snd (Prod.snd (Prod.snd (sAt out (kk (eAt h i) out))))), i, Prod.snd (Prod.snd (Prod.snd (Prod.snd (Prod.snd (sAt out (kk (eAt h i) out)))))))) (Int.toNat (kk (eAt h i) out)) (0, 0, 0, 0, 0, 0, 0, List.replicate 6 0))), Prod.fst (Prod.snd (Prod.snd (List.getD (List.set out (Int.toNat (kk (eAt h i) out)) (Prod.fst (sAt out (kk (eAt h i) out)), Prod.fst (Prod.snd (sAt out (kk (eAt h i) out))), Prod.fst (Prod.snd (Prod.snd (sAt out (kk (eAt h i) out)))), Prod.fst (Prod.snd (Prod.snd (Prod.snd (sAt out (kk (eAt h i) out))))), i, Prod.snd (Prod.snd (Prod.snd (Prod.snd (Prod.snd (sAt out (kk (eAt h i) out)))))))) (Int.toNat (kk (eAt h i) out)) (0, 0, 0, 0, 0, 0, 0, List.replicate 6 0)))), Prod.fst (Prod.snd (Prod.snd (Prod.snd (List.getD (List.set out (Int.toNat (kk (eAt h i) out)) (Prod.fst (sAt out (kk (eAt h i) out)), Prod.fst (Prod.snd (sAt out (kk (eAt h i) out))), Prod.fst (Prod.snd (Prod.snd (sAt out (kk (eAt h i) out)))), Prod.fst (Prod.snd (Prod.snd (Prod.snd (sAt out (kk (eAt h i) out))))), i, Prod.snd (Prod.snd (Prod.snd (Prod.snd (Prod.snd (sAt out (kk (eAt h i) out)))))))) (Int.toNat (kk (eAt h i) out)) (0, 0, 0, 0, 0, 0, 0, List.replicate 6 0))))), Prod.fst (Prod.snd (Prod.snd (Prod.snd (Prod.snd (List.getD (List.set out (Int.toNat (kk (eAt h i) out)) (Prod.fst (sAt out (kk (eAt h i) out)), Prod.fst (Prod.snd (sAt out (kk (eAt h i) out))), Prod.fst (Prod.snd (Prod.snd (sAt out (kk (eAt h i) out)))), Prod.fst (Prod.snd (Prod.snd (Prod.snd (sAt out (kk (eAt h i) out))))), i, Prod.snd (Prod.snd (Prod.snd (Prod.snd (Prod.snd (sAt out (kk (eAt h i) out)))))))) (Int.toNat (kk (eAt h i) out)) (0, 0, 0, 0, 0, 0, 0, List.replicate 6 0)))))), Prod.snd (Prod.snd (Prod.snd (eAt h i)))), ()))
             else none)
            else none))
          else none))
        else none))
      else some (.ret, sBad))))
   else none)
  else none)
 else some ((.exit 0), szSkel.fill [.ar 2000 false 33 spanT] (out, ())))

set_option maxRecDepth 100000 in
theorem s_round (h : List EvtV) (n i : Int) (out : List SpanV) : (round sb2 p5 sShape sLoop (sSkel.fill sHoles (h, n, i, out, ()))).run = sTree h n i out := by kernel_rfl

end Go.Proofs.Ytnhiplibodkciaa
