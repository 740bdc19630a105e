/- HistSpans: a round of its main loop, as a tree. -/
import Derived.Test.YtnhiplibodkciaaHisK
namespace Go.Proofs.Ytnhiplibodkciaa
open Go.PI

def lk (e : EvtV) (w : List SpanV) : Int := lidx (eC e) (eN e) (List.drop (Int.toNat 0) w) 0 (-1)
def lp (e : EvtV) (w : List SpanV) : Int := lidx (eC e) (IntKind.wrap .i64 (eN e - 1)) (List.drop (Int.toNat 0) w) 0 (-1)

noncomputable def mTree (h : List EvtV) (b : Bool) (i : Int) (w : List SpanV) : Option (Exit × St) :=
(bif decide (i < (Nat.cast (List.length h) : Int)) then
 (bif b then
  (bif decide (0 ≤ i) && decide (i < (Nat.cast (List.length h) : Int)) then
   (bif tru (NI 0 w) then
    (bif eK (eAt h i) == 1 then
     (bif decide (lk (eAt h i) w < 0) then
      (bif decide (eN (eAt h i) ≥ 0) then
       (bif eN (eAt h i) == 0 then
        (bif decide ((List.length w + List.length (List.set [spanZ] 0 (eC (eAt h i), eN (eAt h i), i, -1, -1, 0, 0, List.replicate 6 0))) * 104 ≤ 140737488355328) then
         some (.normal, mSkel.fill mHoles (h, true, IntKind.wrap .i64 (i + 1), w ++ List.set [spanZ] 0 (eC (eAt h i), eN (eAt h i), i, -1, -1, 0, 0, List.replicate 6 0), ()))
         else none)
        else (bif decide (lp (eAt h i) w ≥ 0) then
         (bif decide (0 ≤ lp (eAt h i) w) && decide (lp (eAt h i) w < (Nat.cast (List.length w) : Int)) then
          (bif decide (Prod.fst (Prod.snd (Prod.snd (Prod.snd (Prod.snd (sAt w (lp (eAt h i) w)))))) ≥ 0) then
           (bif decide ((List.length w + List.length (List.set [spanZ] 0 (eC (eAt h i), eN (eAt h i), i, -1, -1, 0, 0, List.replicate 6 0))) * 104 ≤ 140737488355328) then
            some (.normal, mSkel.fill mHoles (h, decide (Prod.fst (Prod.snd (Prod.snd (Prod.snd (Prod.snd (sAt w (lp (eAt h i) w)))))) ≥ 0), IntKind.wrap .i64 (i + 1), w ++ List.set [spanZ] 0 (eC (eAt h i), eN (eAt h i), i, -1, -1, 0, 0, List.replicate 6 0), ()))
            else none)
           else some (.normal, mSkel.fill mHoles (h, decide (Prod.fst (Prod.snd (Prod.snd (Prod.snd (Prod.snd (sAt w (lp (eAt h i) w)))))) ≥ 0), IntKind.wrap .i64 (i + 1), w, ())))
          else none)
         else some (.normal, mSkel.fill mHoles (h, false, IntKind.wrap .i64 (i + 1), w, ()))))
       else some (.normal, mSkel.fill mHoles (h, false, IntKind.wrap .i64 (i + 1), w, ())))
      else some (.normal, mSkel.fill mHoles (h, false, IntKind.wrap .i64 (i + 1), w, ())))
     else (bif eK (eAt h i) == 2 then
      (bif decide (lk (eAt h i) w ≥ 0) then
       (bif decide (0 ≤ lk (eAt h i) w) && decide (lk (eAt h i) w < (Nat.cast (List.length w) : Int)) then
        (bif decide (Prod.fst (Prod.snd (Prod.snd (Prod.snd (sAt w (lk (eAt h i) w))))) < 0) then
         (bif decide (0 ≤ lk (eAt h i) w) && decide (lk (eAt h i) w < (Nat.cast (List.length w) : Int)) then
          (bif decide (Prod.fst (Prod.snd (Prod.snd (Prod.snd (Prod.snd (sAt w (lk (eAt h i) w)))))) < 0) then
           (bif decide (0 ≤ lk (eAt h i) w) && decide (lk (eAt h i) w < (Nat.cast (List.length w) : Int)) then
            (bif decide (0 ≤ lk (eAt h i) w) && decide (lk (eAt h i) w < (Nat.cast (List.length (List.set w (Int.toNat (lk (eAt h i) w)) (Prod.fst (sAt w (lk (eAt h i) w)), Prod.fst (Prod.snd (sAt w (lk (eAt h i) w))), Prod.fst (Prod.snd (Prod.snd (sAt w (lk (eAt h i) w)))), i, Prod.snd (Prod.snd (Prod.snd (Prod.snd (sAt w (lk (eAt h i) w)))))))) : Int)) then
             some (.normal, mSkel.fill mHoles (h, decide (Prod.fst (Prod.snd (Prod.snd (Prod.snd (Prod.snd (sAt w (lk (eAt h i) w)))))) < 0), IntKind.wrap .i64 (i + 1), List.set (List.set w (Int.toNat (lk (eAt h i) w)) (Prod.fst (sAt w (lk (eAt h i) w)), Prod.fst (Prod.snd (sAt w (lk (eAt h i) w))), Prod.fst (Prod.snd (Prod.snd (sAt w (lk (eAt h i) w)))), i, Prod.snd (Prod.snd (Prod.snd (Prod.snd (sAt w (lk (eAt h i) w))))))) (Int.toNat (lk (eAt h i) w)) (Prod.fst (List.getD (List.set w (Int.toNat (lk (eAt h i) w)) (Prod.fst (sAt w (lk (eAt h i) w)), Prod.fst (Prod.snd (sAt w (lk (eAt h i) w))), Prod.fst (Prod.snd (Prod.snd (sAt w (lk (eAt h i) w)))), i, Prod.snd (Prod.snd (Prod.snd (Prod.snd (sAt w (lk (eAt h i) w))))))) (Int.toNat (lk (eAt h i) w)) (0, 0, 0, 0, 0, 0, 0, List.replicate 6 0)), Prod.fst (Prod.snd (List.getD (List.set w (Int.toNat (lk (eAt h i) w)) (Prod.fst (sAt w (lk (eAt h i) w)), Prod.fst (Prod.snd (sAt w (lk (eAt h i) w))), Prod.fst (Prod.snd (Prod.snd (sAt w (lk (eAt h i) w)))), i, Prod.snd (Prod.snd (Prod.snd (Prod.snd (sAt w (lk (eAt h i) w))))))) (Int.toNat (lk (eAt h i) w)) (0, 0, 0, 0, 0, 0, 0, List.replicate 6 0))), Prod.fst (Prod.snd (Prod.snd (List.getD (List.set w (Int.toNat (lk (eAt h i) w)) (Prod.fst (sAt w (lk (eAt h i) w)), Prod.fst (Prod.snd (sAt w (lk (eAt h i) w))), Prod.fst (Prod.snd (Prod.snd (sAt w (lk (eAt h i) w)))), i, Prod.snd (Prod.snd (Prod.snd (Prod.snd (sAt w (lk (eAt h i) w))))))) (Int.toNat (lk (eAt h i) w)) (0, 0, 0, 0, 0, 0, 0, List.replicate 6 0)))), Prod.fst (Prod.snd (Prod.snd (Prod.snd (List.getD (List.set w (Int.toNat (lk (eAt h i) w)) (Prod.fst (sAt w (lk (eAt h i) w)), Prod.fst (Prod.snd (sAt w (lk (eAt h i) w))), Prod.fst (Prod.snd (Prod.snd (sAt w (lk (eAt h i) w)))), i, Prod.snd (Prod.snd (Prod.snd (Prod.snd (sAt w (lk (eAt h i) w))))))) (Int.toNat (lk (eAt h i) w)) (0, 0, 0, 0, 0, 0, 0, List.replicate 6 0))))), Prod.fst (Prod.snd (Prod.snd (Prod.snd (Prod.snd (List.getD (List.set w (Int.toNat (lk (eAt h i) w)) (Prod.fst (sAt w (lk (eAt h i) w)), Prod.fst (Prod.snd (sAt w (lk (eAt h i) w))), Prod.fst (Prod.snd (Prod.snd (sAt w (lk (eAt h i) w)))), i, Prod.snd (Prod.snd (Prod.snd (Prod.snd (sAt w (lk (eAt h i) w))))))) (Int.toNat (lk (eAt h i) w)) (0, 0, 0, 0, 0, 0, 0, List.replicate 6 0)))))), Prod.snd (Prod.snd (Prod.snd (eAt h i)))), ()))
             else none)
            else none)
           else some (.normal, mSkel.fill mHoles (h, decide (Prod.fst (Prod.snd (Prod.snd (Prod.snd (Prod.snd (sAt w (lk (eAt h i) w)))))) < 0), IntKind.wrap .i64 (i + 1), w, ())))
          else none)
         else some (.normal, mSkel.fill mHoles (h, false, IntKind.wrap .i64 (i + 1), w, ())))
        else none)
       else some (.normal, mSkel.fill mHoles (h, false, IntKind.wrap .i64 (i + 1), w, ())))
      else (bif eK (eAt h i) == 3 then
       (bif decide (lk (eAt h i) w ≥ 0) then
        (bif decide (0 ≤ lk (eAt h i) w) && decide (lk (eAt h i) w < (Nat.cast (List.length w) : Int)) then
         (bif decide (Prod.fst (Prod.snd (Prod.snd (Prod.snd (Prod.snd (sAt w (lk (eAt h i) w)))))) < 0) then
          (bif decide (0 ≤ lk (eAt h i) w) && decide (lk (eAt h i) w < (Nat.cast (List.length w) : Int)) then
           (bif decide (Prod.fst (Prod.snd (Prod.snd (Prod.snd (sAt w (lk (eAt h i) w))))) < 0) then
            (bif decide (0 ≤ lk (eAt h i) w) && decide (lk (eAt h i) w < (Nat.cast (List.length w) : Int)) then
             (bif decide (0 ≤ lk (eAt h i) w) && decide (lk (eAt h i) w < (Nat.cast (List.length (List.set w (Int.toNat (lk (eAt h i) w)) (Prod.fst (sAt w (lk (eAt h i) w)), Prod.fst (Prod.snd (sAt w (lk (eAt h i) w))), Prod.fst (Prod.snd (Prod.snd (sAt w (lk (eAt h i) w)))), Prod.fst (Prod.snd (Prod.snd (Prod.snd (sAt w (lk (eAt h i) w))))), i, Prod.snd (Prod.snd (Prod.snd (Prod.snd (Prod.snd (sAt w (lk (eAt h i) w))))))))) : Int)) then
              some (.normal, mSkel.fill mHoles (h, true, IntKind.wrap .i64 (i + 1), List.set (List.set w (Int.toNat (lk (eAt h i) w)) (Prod.fst (sAt w (lk (eAt h i) w)), Prod.fst (Prod.snd (sAt w (lk (eAt h i) w))), Prod.fst (Prod.snd (Prod.snd (sAt w (lk (eAt h i) w)))), Prod.fst (Prod.snd (Prod.snd (Prod.snd (sAt w (lk (eAt h i) w))))), i, Prod.snd (Prod.snd (Prod.snd (Prod.snd (Prod.snd (sAt w (lk (eAt h i) w)))))))) (Int.toNat (lk (eAt h i) w)) (Prod.fst (List.getD (List.set w (Int.toNat (lk (eAt h i) w)) (Prod.fst (sAt w (lk (eAt h i) w)), Prod.fst (Prod.snd (sAt w (lk (eAt h i) w))), Prod.fst (Prod.snd (Prod.snd (sAt w (lk (eAt h i) w)))), Prod.fst (Prod.snd (Prod.snd (Prod.snd (sAt w (lk (eAt h i) w))))), i, Prod.snd (Prod.snd (Prod.snd (Prod.snd (Prod.snd (sAt w (lk (eAt h i) w)))))))) (Int.toNat (lk (eAt h i) w)) (0, 0, 0, 0, 0, 0, 0, List.replicate 6 0)), Prod.fst (Prod.snd (List.getD (List.set w (Int.toNat (lk (eAt h i) w)) (Prod.fst (sAt w (lk (eAt h i) w)), Prod.fst (Prod.snd (sAt w (lk (eAt h i) w))), Prod.fst (Prod.snd (Prod.snd (sAt w (lk (eAt h i) w)))), Prod.fst (Prod.snd (Prod.snd (Prod.snd (sAt w (lk (eAt h i) w))))), i, Prod.snd (Prod.snd (Prod.snd (Prod.snd (Prod.snd (sAt w (lk (eAt h i) w)))))))) (Int.toNat (lk (eAt h i) w)) (0, 0, 0, 0, 0, 0, 0, List.replicate 6 0))), Prod.fst (Prod.snd (Prod.snd (List.getD (List.set w (Int.toNat (lk (eAt h i) w)) (Prod.fst (sAt w (lk (eAt h i) w)), Prod.fst (Prod.snd (sAt w (lk (eAt h i) w))), Prod.fst (Prod.snd (Prod.snd (sAt w (lk (eAt h i) w)))), Prod.fst (Prod.snd (Prod.snd (Prod.snd (sAt w (lk (eAt h i) w))))), i, Prod.snd (Prod.snd (Prod.snd (Prod.snd (Prod.snd (sAt w (lk (eAt h i) w)))))))) (Int.toNat (lk (eAt h i) w)) (0, 0, 0, 0, 0, 0, 0, List.replicate 6 0)))), Prod.fst (Prod.snd (Prod.snd (Prod.snd (List.getD (List.set w (Int.toNat (lk (eAt h i) w)) (Prod.fst (sAt w (lk (eAt h i) w)), Prod.fst (Prod.snd (sAt w (lk (eAt h i) w))), Prod.fst (Prod.snd (Prod.snd (sAt w (lk (eAt h i) w)))), Prod.fst (Prod.snd (Prod.snd (Prod.snd (sAt w (lk (eAt h i) w))))), i, Prod.snd (Prod.snd (Prod.snd (Prod.snd (Prod.snd (sAt w (lk (eAt h i) w)))))))) (Int.toNat (lk (eAt h i) w)) (0, 0, 0, 0, 0, 0, 0, List.replicate 6 0))))), Prod.fst (Prod.snd (Prod.snd (Prod.snd (Prod.snd (List.getD (List.set w (Int.toNat (lk (eAt h i) w)) (Prod.fst (sAt w (lk (eAt h i) w)), Prod.fst (Prod.snd (sAt w (lk (eAt h i) w))), Prod.fst (Prod.snd (Prod.snd (sAt w (lk (eAt h i) w)))), Prod.fst (Prod.snd (Prod.snd (Prod.snd (sAt w (lk (eAt h i) w))))), i, Prod.snd (Prod.snd (Prod.snd (Prod.snd (Prod.snd (sAt w (lk (eAt h i) w)))))))) (Int.toNat (lk (eAt h i) w)) (0, 0, 0, 0, 0, 0, 0, List.replicate 6 0)))))), Prod.snd (Prod.snd (Prod.snd (eAt h i)))), ()))
              else none)
             else none)
            else (bif decide (0 ≤ lk (eAt h i) w) && decide (lk (eAt h i) w < (Nat.cast (List.length w) : Int)) then
             (bif decide (Prod.fst (Prod.snd (Prod.snd (Prod.snd (Prod.snd (Prod.snd (sAt w (lk (eAt h i) w))))))) = Prod.fst (Prod.snd (Prod.snd (Prod.snd (eAt h i))))) && (decide (Prod.fst (Prod.snd (Prod.snd (Prod.snd (Prod.snd (Prod.snd (Prod.snd (sAt w (lk (eAt h i) w)))))))) = Prod.fst (Prod.snd (Prod.snd (Prod.snd (Prod.snd (eAt h i)))))) && decide (Prod.snd (Prod.snd (Prod.snd (Prod.snd (Prod.snd (Prod.snd (Prod.snd (sAt w (lk (eAt h i) w)))))))) = Prod.snd (Prod.snd (Prod.snd (Prod.snd (Prod.snd (eAt h i))))))) then
              (bif decide (0 ≤ lk (eAt h i) w) && decide (lk (eAt h i) w < (Nat.cast (List.length w) : Int)) then
               (bif decide (0 ≤ lk (eAt h i) w) && decide (lk (eAt h i) w < (Nat.cast (List.length (List.set w (Int.toNat (lk (eAt h i) w)) (Prod.fst (sAt w (lk (eAt h i) w)), Prod.fst (Prod.snd (sAt w (lk (eAt h i) w))), Prod.fst (Prod.snd (Prod.snd (sAt w (lk (eAt h i) w)))), Prod.fst (Prod.snd (Prod.snd (Prod.snd (sAt w (lk (eAt h i) w))))), i, Prod.snd (Prod.snd (Prod.snd (Prod.snd (Prod.snd (sAt w (lk (eAt h i) w))))))))) : Int)) then
                some (.normal, mSkel.fill mHoles (h, decide (Prod.fst (Prod.snd (Prod.snd (Prod.snd (Prod.snd (Prod.snd (sAt w (lk (eAt h i) w))))))) = Prod.fst (Prod.snd (Prod.snd (Prod.snd (eAt h i))))) && (decide (Prod.fst (Prod.snd (Prod.snd (Prod.snd (Prod.snd (Prod.snd (Prod.snd (sAt w (lk (eAt h i) w)))))))) = Prod.fst (Prod.snd (Prod.snd (Prod.snd (Prod.snd (eAt h i)))))) && decide (Prod.snd (Prod.snd (Prod.snd (Prod.snd (Prod.snd (Prod.snd (Prod.snd (sAt w (lk (eAt h i) w)))))))) = Prod.snd (Prod.snd (Prod.snd (Prod.snd (Prod.snd (eAt h i))))))), IntKind.wrap .i64 (i + 1), List.set (List.set w (Int.toNat (lk (eAt h i) w)) (Prod.fst (sAt w (lk (eAt h i) w)), Prod.fst (Prod.snd (sAt w (lk (eAt h i) w))), Prod.fst (Prod.snd (Prod.snd (sAt w (lk (eAt h i) w)))), Prod.fst (Prod.snd (Prod.snd (Prod.snd (sAt w (lk (eAt h i) w))))), i, Prod.snd (Prod.snd (Prod.snd (Prod.snd (Prod.snd (sAt w (lk (eAt h i) w)))))))) (Int.toNat (lk (eAt h i) w)) (Prod.fst (List.getD (List.set w (Int.toNat (lk (eAt h i) w)) (Prod.fst (sAt w (lk (eAt h i) w)), Prod.fst (Prod.snd (sAt w (lk (eAt h i) w))), Prod.fst (Prod.snd (Prod.snd (sAt w (lk (eAt h i) w)))), Prod.fst (Prod.snd (Prod.snd (Prod.snd (sAt w (lk (eAt h i) w))))), i, Prod.snd (Prod.snd (Prod.snd (Prod.snd (Prod.snd (sAt w (lk (eAt h i) w)))))))) (Int.toNat (lk (eAt h i) w)) (0, 0, 0, 0, 0, 0, 0, List.replicate 6 0)), Prod.fst (Prod.snd (List.getD (List.set w (Int.toNat (lk (eAt h i) w)) (Prod.fst (sAt w (lk (eAt h i) w)), Prod.fst (Prod.snd (sAt w (lk (eAt h i) w))), Prod.fst (Prod.snd (Prod.snd (sAt w (lk (eAt h i) w)))), Prod.fst (Prod.snd (Prod.snd (Prod.snd (sAt w (lk (eAt h i) w))))), i, Prod.snd (Prod.snd (Prod.snd (Prod.snd (Prod.snd (sAt w (lk (eAt h i) w)))))))) (Int.toNat (lk (eAt h i) w)) (0, 0, 0, 0, 0, 0, 0, List.replicate 6 0))), Prod.fst (Prod.snd (Prod.snd (List.getD (List.set w (Int.toNat (lk (eAt h i) w)) (Prod.fst (sAt w (lk (eAt h i) w)), Prod.fst (Prod.snd (sAt w (lk (eAt h i) w))), Prod.fst (Prod.snd (Prod.snd (sAt w (lk (eAt h i) w)))), Prod.fst (Prod.snd (Prod.snd (Prod.snd (sAt w (lk (eAt h i) w))))), i, Prod.snd (Prod.snd (Prod.snd (Prod.snd (Prod.snd (sAt w (lk (eAt h i) w)))))))) (Int.toNat (lk (eAt h i) w)) (0, 0, 0, 0, 0, 0, 0, List.replicate 6 0)))), Prod.fst (Prod.snd (Prod.snd (Prod.snd (List.getD (List.set w (Int.toNat (lk (eAt h i) w)) (Prod.fst (sAt w (lk (eAt h i) w)), Prod.fst (Prod.snd (sAt w (lk (eAt h i) w))), Prod.fst (Prod.snd (Prod.snd (sAt w (lk (eAt h i) w)))), Prod.fst (Prod.snd (Prod.snd (Prod.snd (sAt w (lk (eAt h i) w))))), i, Prod.snd (Prod.snd (Prod.snd (Prod.snd (Prod.snd (sAt w (lk (eAt h i) w)))))))) (Int.toNat (lk (eAt h i) w)) (0, 0, 0, 0, 0, 0, 0, List.replicate 6 0))))), Prod.fst (Prod.snd (Prod.snd (Prod.snd (Prod.snd (List.getD (List.set w (Int.toNat (lk (eAt h i) w)) (Prod.fst (sAt w (lk (eAt h i) w)), Prod.fst (Prod.snd (sAt w (lk (eAt h i) w))), Prod.fst (Prod.snd (Prod.snd (sAt w (lk (eAt h i) w)))), Prod.fst (Prod.snd (Prod.snd (Prod.snd (sAt w (lk (eAt h i) w))))), i, Prod.snd (Prod.snd (Prod.snd (Prod.snd (Prod.snd (sAt w (lk (eAt h i) w)))))))) (Int.toNat (lk (eAt h i) w)) (0, 0, 0, 0, 0, 0, 0, List.replicate 6 0)))))), Prod.snd (Prod.snd (Prod.snd (eAt h i)))), ()))
                else none)
               else none)
              else some (.normal, mSkel.fill mHoles (h, decide (Prod.fst (Prod.snd (Prod.snd (Prod.snd (Prod.snd (Prod.snd (sAt w (lk (eAt h i) w))))))) = Prod.fst (Prod.snd (Prod.snd (Prod.snd (eAt h i))))) && (decide (Prod.fst (Prod.snd (Prod.snd (Prod.snd (Prod.snd (Prod.snd (Prod.snd (sAt w (lk (eAt h i) w)))))))) = Prod.fst (Prod.snd (Prod.snd (Prod.snd (Prod.snd (eAt h i)))))) && decide (Prod.snd (Prod.snd (Prod.snd (Prod.snd (Prod.snd (Prod.snd (Prod.snd (sAt w (lk (eAt h i) w)))))))) = Prod.snd (Prod.snd (Prod.snd (Prod.snd (Prod.snd (eAt h i))))))), IntKind.wrap .i64 (i + 1), w, ())))
             else none))
           else none)
          else some (.normal, mSkel.fill mHoles (h, false, IntKind.wrap .i64 (i + 1), w, ())))
         else none)
        else some (.normal, mSkel.fill mHoles (h, false, IntKind.wrap .i64 (i + 1), w, ())))
       else some (.normal, mSkel.fill mHoles (h, false, IntKind.wrap .i64 (i + 1), w, ())))))
    else none)
   else none)
  else some ((.exit 0), mSkel.fill zHoles (h, b, w, ())))
 else some ((.exit 0), mSkel.fill zHoles (h, b, w, ())))

set_option maxRecDepth 100000 in
theorem m_round (h : List EvtV) (b : Bool) (i : Int) (w : List SpanV) : (round tb3 pN mShape mLoop (mSkel.fill mHoles (h, b, i, w, ()))).run = mTree h b i w := by kernel_rfl

end Go.Proofs.Ytnhiplibodkciaa
