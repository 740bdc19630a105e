/- HistSpans: the history that is made: a round of its loop; there is one, of 30 at most. -/
import Derived.Test.YtnhiplibodkciaaHisD
namespace Go.Proofs.Ytnhiplibodkciaa
open Go.PI

def kOf (l : List Int) (i : Int) : Int := Int.tmod (IntKind.wrap .i64 (Nat.cast (BitVec.toNat (BitVec.ofInt (IntKind.bits IntKind.i64) (List.getD l (Int.toNat i) 0) &&& BitVec.ofInt (IntKind.bits IntKind.i64) 255)) : Int)) 3
def whichOf (odd : Int) : Int := IntKind.wrap .i64 (Nat.cast (BitVec.toNat (BitVec.ofInt (IntKind.bits IntKind.i64) (Int.fdiv odd (2 ^ min (Int.toNat 4) (IntKind.bits IntKind.i64))) &&& BitVec.ofInt (IntKind.bits IntKind.i64) 31)) : Int)
def howOf (odd : Int) : Int := IntKind.wrap .i64 (Nat.cast (BitVec.toNat (BitVec.ofInt (IntKind.bits IntKind.i64) odd &&& BitVec.ofInt (IntKind.bits IntKind.i64) 7)) : Int)
def nOf (l : List Int) (i : Int) (n : List Int) : Int := List.getD n (Int.toNat (kOf l i)) 0
def aOf (l : List Int) (i : Int) (n : List Int) : Int := List.getD n (Int.toNat (kOf l i)) 0
def errOf (l : List Int) (i : Int) (n : List Int) : Int := IntKind.wrap .i64 (Nat.cast (BitVec.toNat (BitVec.ofInt (IntKind.bits IntKind.i64) (nOf l i n) &&& BitVec.ofInt (IntKind.bits IntKind.i64) 3)) : Int)
def evtZ : EvtV := (0, 0, 0, 0, 0, List.replicate 6 0)

def hTree (l : List Int) (odd i : Int) (at_ n_ : List Int) (h : List EvtV) : Option (Exit × St) :=
(bif decide (i < (Nat.cast (List.length l) : Int)) then
 (bif decide (i < 30) then
  (bif decide (0 ≤ i) && decide (i < (Nat.cast (List.length l) : Int)) then
   (bif decide (0 ≤ kOf l i) && decide (kOf l i < (Nat.cast 3 : Int)) && decide (kOf l i < (Nat.cast (List.length n_) : Int)) then
    (bif decide (0 ≤ kOf l i) && decide (kOf l i < (Nat.cast 3 : Int)) && decide (kOf l i < (Nat.cast (List.length at_) : Int)) then
     (bif decide (aOf l i at_ > 0) then
      (bif decide (0 ≤ kOf l i) && decide (kOf l i < (Nat.cast 3 : Int)) && decide (kOf l i < (Nat.cast (List.length n_) : Int)) then
       (bif decide (0 ≤ kOf l i) && decide (kOf l i < (Nat.cast 3 : Int)) && decide (kOf l i < (Nat.cast (List.length at_) : Int)) then
        (bif aOf l i at_ == 0 then
         (bif decide (0 ≤ kOf l i) && decide (kOf l i < (Nat.cast 3 : Int)) && decide (kOf l i < (Nat.cast (List.length at_) : Int)) then
          (bif i == whichOf odd then
           (bif howOf odd == 0 then
            (bif decide ((List.length h + List.length (List.set [evtZ] 0 (1, kOf l i, nOf l i n_, errOf l i n_, kOf l i, [0, 0, 0, 0, 0, 0]))) * 88 ≤ 140737488355328) then
             some (.normal, hSkel.fill hHoles (l, odd, IntKind.wrap .i64 (i + 1), List.set at_ (Int.toNat (kOf l i)) 1, n_, h ++ List.set [evtZ] 0 (1, kOf l i, nOf l i n_, errOf l i n_, kOf l i, [0, 0, 0, 0, 0, 0]), ()))
             else none)
            else (bif howOf odd == 1 then
             (bif decide ((List.length h + List.length (List.set [evtZ] 0 (1, kOf l i, IntKind.wrap .i64 (nOf l i n_ + 1), errOf l i n_, kOf l i, [0, 0, 0, 0, 0, 0]))) * 88 ≤ 140737488355328) then
              some (.normal, hSkel.fill hHoles (l, odd, IntKind.wrap .i64 (i + 1), List.set at_ (Int.toNat (kOf l i)) 1, n_, h ++ List.set [evtZ] 0 (1, kOf l i, IntKind.wrap .i64 (nOf l i n_ + 1), errOf l i n_, kOf l i, [0, 0, 0, 0, 0, 0]), ()))
              else none)
             else (bif howOf odd == 2 then
              (bif decide ((List.length h + List.length (List.set [evtZ] 0 (1, kOf l i, nOf l i n_, errOf l i n_, IntKind.wrap .i64 (kOf l i + 5), [0, 0, 0, 0, 0, 0]))) * 88 ≤ 140737488355328) then
               some (.normal, hSkel.fill hHoles (l, odd, IntKind.wrap .i64 (i + 1), List.set at_ (Int.toNat (kOf l i)) 1, n_, h ++ List.set [evtZ] 0 (1, kOf l i, nOf l i n_, errOf l i n_, IntKind.wrap .i64 (kOf l i + 5), [0, 0, 0, 0, 0, 0]), ()))
               else none)
              else (bif howOf odd == 3 then
               (bif decide ((List.length h + List.length (List.set [evtZ] 0 (4, kOf l i, nOf l i n_, errOf l i n_, kOf l i, [0, 0, 0, 0, 0, 0]))) * 88 ≤ 140737488355328) then
                some (.normal, hSkel.fill hHoles (l, odd, IntKind.wrap .i64 (i + 1), List.set at_ (Int.toNat (kOf l i)) 1, n_, h ++ List.set [evtZ] 0 (4, kOf l i, nOf l i n_, errOf l i n_, kOf l i, [0, 0, 0, 0, 0, 0]), ()))
                else none)
               else (bif howOf odd == 4 then
                (bif decide ((List.length h + List.length (List.set [evtZ] 0 (1, kOf l i, -1, errOf l i n_, kOf l i, [0, 0, 0, 0, 0, 0]))) * 88 ≤ 140737488355328) then
                 some (.normal, hSkel.fill hHoles (l, odd, IntKind.wrap .i64 (i + 1), List.set at_ (Int.toNat (kOf l i)) 1, n_, h ++ List.set [evtZ] 0 (1, kOf l i, -1, errOf l i n_, kOf l i, [0, 0, 0, 0, 0, 0]), ()))
                 else none)
                else (bif decide ((List.length h + List.length (List.set [evtZ] 0 (1, kOf l i, nOf l i n_, errOf l i n_, kOf l i, [0, 0, 0, 0, 0, 0]))) * 88 ≤ 140737488355328) then
                 some (.normal, hSkel.fill hHoles (l, odd, IntKind.wrap .i64 (i + 1), List.set at_ (Int.toNat (kOf l i)) 1, n_, h ++ List.set [evtZ] 0 (1, kOf l i, nOf l i n_, errOf l i n_, kOf l i, [0, 0, 0, 0, 0, 0]), ()))
                 else none))))))
           else (bif decide ((List.length h + List.length (List.set [evtZ] 0 (1, kOf l i, nOf l i n_, errOf l i n_, kOf l i, [0, 0, 0, 0, 0, 0]))) * 88 ≤ 140737488355328) then
            some (.normal, hSkel.fill hHoles (l, odd, IntKind.wrap .i64 (i + 1), List.set at_ (Int.toNat (kOf l i)) 1, n_, h ++ List.set [evtZ] 0 (1, kOf l i, nOf l i n_, errOf l i n_, kOf l i, [0, 0, 0, 0, 0, 0]), ()))
            else none))
          else none)
         else (bif decide (0 ≤ kOf l i) && decide (kOf l i < (Nat.cast 3 : Int)) && decide (kOf l i < (Nat.cast (List.length at_) : Int)) then
          (bif aOf l i at_ == 1 then
           (bif decide (0 ≤ i) && decide (i < (Nat.cast (List.length l) : Int)) then
            (bif decide (IntKind.wrap .i64 (Nat.cast (BitVec.toNat (BitVec.ofInt (IntKind.bits IntKind.i64) (Int.fdiv (List.getD l (Int.toNat i) 0) (2 ^ min (Int.toNat 8) (IntKind.bits IntKind.i64))) &&& BitVec.ofInt (IntKind.bits IntKind.i64) 3)) : Int) > 0) then
             (bif decide (0 ≤ kOf l i) && decide (kOf l i < (Nat.cast 3 : Int)) && decide (kOf l i < (Nat.cast (List.length at_) : Int)) then
              (bif i == whichOf odd then
               (bif howOf odd == 0 then
                (bif decide ((List.length h + List.length (List.set [evtZ] 0 (1, kOf l i, nOf l i n_, errOf l i n_, kOf l i, [0, 0, 0, 0, 0, 0]))) * 88 ≤ 140737488355328) then
                 some (.normal, hSkel.fill hHoles (l, odd, IntKind.wrap .i64 (i + 1), List.set at_ (Int.toNat (kOf l i)) 2, n_, h ++ List.set [evtZ] 0 (1, kOf l i, nOf l i n_, errOf l i n_, kOf l i, [0, 0, 0, 0, 0, 0]), ()))
                 else none)
                else (bif howOf odd == 1 then
                 (bif decide ((List.length h + List.length (List.set [evtZ] 0 (2, kOf l i, IntKind.wrap .i64 (nOf l i n_ + 1), errOf l i n_, kOf l i, [0, 0, 0, 0, 0, 0]))) * 88 ≤ 140737488355328) then
                  some (.normal, hSkel.fill hHoles (l, odd, IntKind.wrap .i64 (i + 1), List.set at_ (Int.toNat (kOf l i)) 2, n_, h ++ List.set [evtZ] 0 (2, kOf l i, IntKind.wrap .i64 (nOf l i n_ + 1), errOf l i n_, kOf l i, [0, 0, 0, 0, 0, 0]), ()))
                  else none)
                 else (bif howOf odd == 2 then
                  (bif decide ((List.length h + List.length (List.set [evtZ] 0 (2, kOf l i, nOf l i n_, errOf l i n_, IntKind.wrap .i64 (kOf l i + 5), [0, 0, 0, 0, 0, 0]))) * 88 ≤ 140737488355328) then
                   some (.normal, hSkel.fill hHoles (l, odd, IntKind.wrap .i64 (i + 1), List.set at_ (Int.toNat (kOf l i)) 2, n_, h ++ List.set [evtZ] 0 (2, kOf l i, nOf l i n_, errOf l i n_, IntKind.wrap .i64 (kOf l i + 5), [0, 0, 0, 0, 0, 0]), ()))
                   else none)
                  else (bif howOf odd == 3 then
                   (bif decide ((List.length h + List.length (List.set [evtZ] 0 (4, kOf l i, nOf l i n_, errOf l i n_, kOf l i, [0, 0, 0, 0, 0, 0]))) * 88 ≤ 140737488355328) then
                    some (.normal, hSkel.fill hHoles (l, odd, IntKind.wrap .i64 (i + 1), List.set at_ (Int.toNat (kOf l i)) 2, n_, h ++ List.set [evtZ] 0 (4, kOf l i, nOf l i n_, errOf l i n_, kOf l i, [0, 0, 0, 0, 0, 0]), ()))
                    else none)
                   else (bif howOf odd == 4 then
                    (bif decide ((List.length h + List.length (List.set [evtZ] 0 (2, kOf l i, -1, errOf l i n_, kOf l i, [0, 0, 0, 0, 0, 0]))) * 88 ≤ 140737488355328) then
                     some (.normal, hSkel.fill hHoles (l, odd, IntKind.wrap .i64 (i + 1), List.set at_ (Int.toNat (kOf l i)) 2, n_, h ++ List.set [evtZ] 0 (2, kOf l i, -1, errOf l i n_, kOf l i, [0, 0, 0, 0, 0, 0]), ()))
                     else none)
                    else (bif decide ((List.length h + List.length (List.set [evtZ] 0 (2, kOf l i, nOf l i n_, errOf l i n_, kOf l i, [0, 0, 0, 0, 0, 0]))) * 88 ≤ 140737488355328) then
                     some (.normal, hSkel.fill hHoles (l, odd, IntKind.wrap .i64 (i + 1), List.set at_ (Int.toNat (kOf l i)) 2, n_, h ++ List.set [evtZ] 0 (2, kOf l i, nOf l i n_, errOf l i n_, kOf l i, [0, 0, 0, 0, 0, 0]), ()))
                     else none))))))
               else (bif decide ((List.length h + List.length (List.set [evtZ] 0 (2, kOf l i, nOf l i n_, errOf l i n_, kOf l i, [0, 0, 0, 0, 0, 0]))) * 88 ≤ 140737488355328) then
                some (.normal, hSkel.fill hHoles (l, odd, IntKind.wrap .i64 (i + 1), List.set at_ (Int.toNat (kOf l i)) 2, n_, h ++ List.set [evtZ] 0 (2, kOf l i, nOf l i n_, errOf l i n_, kOf l i, [0, 0, 0, 0, 0, 0]), ()))
                else none))
              else none)
             else (bif decide (0 ≤ kOf l i) && decide (kOf l i < (Nat.cast 3 : Int)) && decide (kOf l i < (Nat.cast (List.length at_) : Int)) then
              (bif decide (0 ≤ kOf l i) && decide (kOf l i < (Nat.cast 3 : Int)) && decide (kOf l i < (Nat.cast (List.length n_) : Int)) then
               (bif decide (0 ≤ kOf l i) && decide (kOf l i < (Nat.cast 3 : Int)) && decide (kOf l i < (Nat.cast (List.length n_) : Int)) then
                (bif i == whichOf odd then
                 (bif howOf odd == 0 then
                  (bif decide ((List.length h + List.length (List.set [evtZ] 0 (1, kOf l i, nOf l i n_, errOf l i n_, kOf l i, [0, 0, 0, 0, 0, 0]))) * 88 ≤ 140737488355328) then
                   some (.normal, hSkel.fill hHoles (l, odd, IntKind.wrap .i64 (i + 1), List.set at_ (Int.toNat (kOf l i)) 0, List.set n_ (Int.toNat (kOf l i)) (IntKind.wrap .i64 (nOf l i n_ + 1)), h ++ List.set [evtZ] 0 (1, kOf l i, nOf l i n_, errOf l i n_, kOf l i, [0, 0, 0, 0, 0, 0]), ()))
                   else none)
                  else (bif howOf odd == 1 then
                   (bif decide ((List.length h + List.length (List.set [evtZ] 0 (3, kOf l i, IntKind.wrap .i64 (nOf l i n_ + 1), errOf l i n_, kOf l i, [0, 0, 0, 0, 0, 0]))) * 88 ≤ 140737488355328) then
                    some (.normal, hSkel.fill hHoles (l, odd, IntKind.wrap .i64 (i + 1), List.set at_ (Int.toNat (kOf l i)) 0, List.set n_ (Int.toNat (kOf l i)) (IntKind.wrap .i64 (nOf l i n_ + 1)), h ++ List.set [evtZ] 0 (3, kOf l i, IntKind.wrap .i64 (nOf l i n_ + 1), errOf l i n_, kOf l i, [0, 0, 0, 0, 0, 0]), ()))
                    else none)
                   else (bif howOf odd == 2 then
                    (bif decide ((List.length h + List.length (List.set [evtZ] 0 (3, kOf l i, nOf l i n_, errOf l i n_, IntKind.wrap .i64 (kOf l i + 5), [0, 0, 0, 0, 0, 0]))) * 88 ≤ 140737488355328) then
                     some (.normal, hSkel.fill hHoles (l, odd, IntKind.wrap .i64 (i + 1), List.set at_ (Int.toNat (kOf l i)) 0, List.set n_ (Int.toNat (kOf l i)) (IntKind.wrap .i64 (nOf l i n_ + 1)), h ++ List.set [evtZ] 0 (3, kOf l i, nOf l i n_, errOf l i n_, IntKind.wrap .i64 (kOf l i + 5), [0, 0, 0, 0, 0, 0]), ()))
                     else none)
                    else (bif howOf odd == 3 then
                     (bif decide ((List.length h + List.length (List.set [evtZ] 0 (4, kOf l i, nOf l i n_, errOf l i n_, kOf l i, [0, 0, 0, 0, 0, 0]))) * 88 ≤ 140737488355328) then
                      some (.normal, hSkel.fill hHoles (l, odd, IntKind.wrap .i64 (i + 1), List.set at_ (Int.toNat (kOf l i)) 0, List.set n_ (Int.toNat (kOf l i)) (IntKind.wrap .i64 (nOf l i n_ + 1)), h ++ List.set [evtZ] 0 (4, kOf l i, nOf l i n_, errOf l i n_, kOf l i, [0, 0, 0, 0, 0, 0]), ()))
                      else none)
                     else (bif howOf odd == 4 then
                      (bif decide ((List.length h + List.length (List.set [evtZ] 0 (3, kOf l i, -1, errOf l i n_, kOf l i, [0, 0, 0, 0, 0, 0]))) * 88 ≤ 140737488355328) then
                       some (.normal, hSkel.fill hHoles (l, odd, IntKind.wrap .i64 (i + 1), List.set at_ (Int.toNat (kOf l i)) 0, List.set n_ (Int.toNat (kOf l i)) (IntKind.wrap .i64 (nOf l i n_ + 1)), h ++ List.set [evtZ] 0 (3, kOf l i, -1, errOf l i n_, kOf l i, [0, 0, 0, 0, 0, 0]), ()))
                       else none)
                      else (bif decide ((List.length h + List.length (List.set [evtZ] 0 (3, kOf l i, nOf l i n_, errOf l i n_, kOf l i, [0, 0, 0, 0, 0, 0]))) * 88 ≤ 140737488355328) then
                       some (.normal, hSkel.fill hHoles (l, odd, IntKind.wrap .i64 (i + 1), List.set at_ (Int.toNat (kOf l i)) 0, List.set n_ (Int.toNat (kOf l i)) (IntKind.wrap .i64 (nOf l i n_ + 1)), h ++ List.set [evtZ] 0 (3, kOf l i, nOf l i n_, errOf l i n_, kOf l i, [0, 0, 0, 0, 0, 0]), ()))
                       else none))))))
                 else (bif decide ((List.length h + List.length (List.set [evtZ] 0 (3, kOf l i, nOf l i n_, errOf l i n_, kOf l i, [0, 0, 0, 0, 0, 0]))) * 88 ≤ 140737488355328) then
                  some (.normal, hSkel.fill hHoles (l, odd, IntKind.wrap .i64 (i + 1), List.set at_ (Int.toNat (kOf l i)) 0, List.set n_ (Int.toNat (kOf l i)) (IntKind.wrap .i64 (nOf l i n_ + 1)), h ++ List.set [evtZ] 0 (3, kOf l i, nOf l i n_, errOf l i n_, kOf l i, [0, 0, 0, 0, 0, 0]), ()))
                  else none))
                else none)
               else none)
              else none))
            else none)
           else (bif decide (0 ≤ kOf l i) && decide (kOf l i < (Nat.cast 3 : Int)) && decide (kOf l i < (Nat.cast (List.length at_) : Int)) then
            (bif decide (0 ≤ kOf l i) && decide (kOf l i < (Nat.cast 3 : Int)) && decide (kOf l i < (Nat.cast (List.length n_) : Int)) then
             (bif decide (0 ≤ kOf l i) && decide (kOf l i < (Nat.cast 3 : Int)) && decide (kOf l i < (Nat.cast (List.length n_) : Int)) then
              (bif i == whichOf odd then
               (bif howOf odd == 0 then
                (bif decide ((List.length h + List.length (List.set [evtZ] 0 (1, kOf l i, nOf l i n_, errOf l i n_, kOf l i, [0, 0, 0, 0, 0, 0]))) * 88 ≤ 140737488355328) then
                 some (.normal, hSkel.fill hHoles (l, odd, IntKind.wrap .i64 (i + 1), List.set at_ (Int.toNat (kOf l i)) 0, List.set n_ (Int.toNat (kOf l i)) (IntKind.wrap .i64 (nOf l i n_ + 1)), h ++ List.set [evtZ] 0 (1, kOf l i, nOf l i n_, errOf l i n_, kOf l i, [0, 0, 0, 0, 0, 0]), ()))
                 else none)
                else (bif howOf odd == 1 then
                 (bif decide ((List.length h + List.length (List.set [evtZ] 0 (3, kOf l i, IntKind.wrap .i64 (nOf l i n_ + 1), errOf l i n_, kOf l i, [0, 0, 0, 0, 0, 0]))) * 88 ≤ 140737488355328) then
                  some (.normal, hSkel.fill hHoles (l, odd, IntKind.wrap .i64 (i + 1), List.set at_ (Int.toNat (kOf l i)) 0, List.set n_ (Int.toNat (kOf l i)) (IntKind.wrap .i64 (nOf l i n_ + 1)), h ++ List.set [evtZ] 0 (3, kOf l i, IntKind.wrap .i64 (nOf l i n_ + 1), errOf l i n_, kOf l i, [0, 0, 0, 0, 0, 0]), ()))
                  else none)
                 else (bif howOf odd == 2 then
                  (bif decide ((List.length h + List.length (List.set [evtZ] 0 (3, kOf l i, nOf l i n_, errOf l i n_, IntKind.wrap .i64 (kOf l i + 5), [0, 0, 0, 0, 0, 0]))) * 88 ≤ 140737488355328) then
                   some (.normal, hSkel.fill hHoles (l, odd, IntKind.wrap .i64 (i + 1), List.set at_ (Int.toNat (kOf l i)) 0, List.set n_ (Int.toNat (kOf l i)) (IntKind.wrap .i64 (nOf l i n_ + 1)), h ++ List.set [evtZ] 0 (3, kOf l i, nOf l i n_, errOf l i n_, IntKind.wrap .i64 (kOf l i + 5), [0, 0, 0, 0, 0, 0]), ()))
                   else none)
                  else (bif howOf odd == 3 then
                   (bif decide ((List.length h + List.length (List.set [evtZ] 0 (4, kOf l i, nOf l i n_, errOf l i n_, kOf l i, [0, 0, 0, 0, 0, 0]))) * 88 ≤ 140737488355328) then
                    some (.normal, hSkel.fill hHoles (l, odd, IntKind.wrap .i64 (i + 1), List.set at_ (Int.toNat (kOf l i)) 0, List.set n_ (Int.toNat (kOf l i)) (IntKind.wrap .i64 (nOf l i n_ + 1)), h ++ List.set [evtZ] 0 (4, kOf l i, nOf l i n_, errOf l i n_, kOf l i, [0, 0, 0, 0, 0, 0]), ()))
                    else none)
                   else (bif howOf odd == 4 then
                    (bif decide ((List.length h + List.length (List.set [evtZ] 0 (3, kOf l i, -1, errOf l i n_, kOf l i, [0, 0, 0, 0, 0, 0]))) * 88 ≤ 140737488355328) then
                     some (.normal, hSkel.fill hHoles (l, odd, IntKind.wrap .i64 (i + 1), List.set at_ (Int.toNat (kOf l i)) 0, List.set n_ (Int.toNat (kOf l i)) (IntKind.wrap .i64 (nOf l i n_ + 1)), h ++ List.set [evtZ] 0 (3, kOf l i, -1, errOf l i n_, kOf l i, [0, 0, 0, 0, 0, 0]), ()))
                     else none)
                    else (bif decide ((List.length h + List.length (List.set [evtZ] 0 (3, kOf l i, nOf l i n_, errOf l i n_, kOf l i, [0, 0, 0, 0, 0, 0]))) * 88 ≤ 140737488355328) then
                     some (.normal, hSkel.fill hHoles (l, odd, IntKind.wrap .i64 (i + 1), List.set at_ (Int.toNat (kOf l i)) 0, List.set n_ (Int.toNat (kOf l i)) (IntKind.wrap .i64 (nOf l i n_ + 1)), h ++ List.set [evtZ] 0 (3, kOf l i, nOf l i n_, errOf l i n_, kOf l i, [0, 0, 0, 0, 0, 0]), ()))
                     else none))))))
               else (bif decide ((List.length h + List.length (List.set [evtZ] 0 (3, kOf l i, nOf l i n_, errOf l i n_, kOf l i, [0, 0, 0, 0, 0, 0]))) * 88 ≤ 140737488355328) then
                some (.normal, hSkel.fill hHoles (l, odd, IntKind.wrap .i64 (i + 1), List.set at_ (Int.toNat (kOf l i)) 0, List.set n_ (Int.toNat (kOf l i)) (IntKind.wrap .i64 (nOf l i n_ + 1)), h ++ List.set [evtZ] 0 (3, kOf l i, nOf l i n_, errOf l i n_, kOf l i, [0, 0, 0, 0, 0, 0]), ()))
                else none))
              else none)
             else none)
            else none))
          else none))
        else none)
       else none)
      else (bif decide (0 ≤ kOf l i) && decide (kOf l i < (Nat.cast 3 : Int)) && decide (kOf l i < (Nat.cast (List.length at_) : Int)) then
       (bif aOf l i at_ == 0 then
        (bif decide (0 ≤ kOf l i) && decide (kOf l i < (Nat.cast 3 : Int)) && decide (kOf l i < (Nat.cast (List.length at_) : Int)) then
         (bif i == whichOf odd then
          (bif howOf odd == 0 then
           (bif decide ((List.length h + List.length (List.set [evtZ] 0 (1, kOf l i, nOf l i n_, 0, 0, [0, 0, 0, 0, 0, 0]))) * 88 ≤ 140737488355328) then
            some (.normal, hSkel.fill hHoles (l, odd, IntKind.wrap .i64 (i + 1), List.set at_ (Int.toNat (kOf l i)) 1, n_, h ++ List.set [evtZ] 0 (1, kOf l i, nOf l i n_, 0, 0, [0, 0, 0, 0, 0, 0]), ()))
            else none)
           else (bif howOf odd == 1 then
            (bif decide ((List.length h + List.length (List.set [evtZ] 0 (1, kOf l i, IntKind.wrap .i64 (nOf l i n_ + 1), 0, 0, [0, 0, 0, 0, 0, 0]))) * 88 ≤ 140737488355328) then
             some (.normal, hSkel.fill hHoles (l, odd, IntKind.wrap .i64 (i + 1), List.set at_ (Int.toNat (kOf l i)) 1, n_, h ++ List.set [evtZ] 0 (1, kOf l i, IntKind.wrap .i64 (nOf l i n_ + 1), 0, 0, [0, 0, 0, 0, 0, 0]), ()))
             else none)
            else (bif howOf odd == 2 then
             (bif decide ((List.length h + List.length (List.set [evtZ] 0 (1, kOf l i, nOf l i n_, 0, 5, [0, 0, 0, 0, 0, 0]))) * 88 ≤ 140737488355328) then
              some (.normal, hSkel.fill hHoles (l, odd, IntKind.wrap .i64 (i + 1), List.set at_ (Int.toNat (kOf l i)) 1, n_, h ++ List.set [evtZ] 0 (1, kOf l i, nOf l i n_, 0, 5, [0, 0, 0, 0, 0, 0]), ()))
              else none)
             else (bif howOf odd == 3 then
              (bif decide ((List.length h + List.length (List.set [evtZ] 0 (4, kOf l i, nOf l i n_, 0, 0, [0, 0, 0, 0, 0, 0]))) * 88 ≤ 140737488355328) then
               some (.normal, hSkel.fill hHoles (l, odd, IntKind.wrap .i64 (i + 1), List.set at_ (Int.toNat (kOf l i)) 1, n_, h ++ List.set [evtZ] 0 (4, kOf l i, nOf l i n_, 0, 0, [0, 0, 0, 0, 0, 0]), ()))
               else none)
              else (bif howOf odd == 4 then
               (bif decide ((List.length h + List.length (List.set [evtZ] 0 (1, kOf l i, -1, 0, 0, [0, 0, 0, 0, 0, 0]))) * 88 ≤ 140737488355328) then
                some (.normal, hSkel.fill hHoles (l, odd, IntKind.wrap .i64 (i + 1), List.set at_ (Int.toNat (kOf l i)) 1, n_, h ++ List.set [evtZ] 0 (1, kOf l i, -1, 0, 0, [0, 0, 0, 0, 0, 0]), ()))
                else none)
               else (bif decide ((List.length h + List.length (List.set [evtZ] 0 (1, kOf l i, nOf l i n_, 0, 0, [0, 0, 0, 0, 0, 0]))) * 88 ≤ 140737488355328) then
                some (.normal, hSkel.fill hHoles (l, odd, IntKind.wrap .i64 (i + 1), List.set at_ (Int.toNat (kOf l i)) 1, n_, h ++ List.set [evtZ] 0 (1, kOf l i, nOf l i n_, 0, 0, [0, 0, 0, 0, 0, 0]), ()))
                else none))))))
          else (bif decide ((List.length h + List.length (List.set [evtZ] 0 (1, kOf l i, nOf l i n_, 0, 0, [0, 0, 0, 0, 0, 0]))) * 88 ≤ 140737488355328) then
           some (.normal, hSkel.fill hHoles (l, odd, IntKind.wrap .i64 (i + 1), List.set at_ (Int.toNat (kOf l i)) 1, n_, h ++ List.set [evtZ] 0 (1, kOf l i, nOf l i n_, 0, 0, [0, 0, 0, 0, 0, 0]), ()))
           else none))
         else none)
        else (bif decide (0 ≤ kOf l i) && decide (kOf l i < (Nat.cast 3 : Int)) && decide (kOf l i < (Nat.cast (List.length at_) : Int)) then
         (bif aOf l i at_ == 1 then
          (bif decide (0 ≤ i) && decide (i < (Nat.cast (List.length l) : Int)) then
           (bif decide (IntKind.wrap .i64 (Nat.cast (BitVec.toNat (BitVec.ofInt (IntKind.bits IntKind.i64) (Int.fdiv (List.getD l (Int.toNat i) 0) (2 ^ min (Int.toNat 8) (IntKind.bits IntKind.i64))) &&& BitVec.ofInt (IntKind.bits IntKind.i64) 3)) : Int) > 0) then
            (bif decide (0 ≤ kOf l i) && decide (kOf l i < (Nat.cast 3 : Int)) && decide (kOf l i < (Nat.cast (List.length at_) : Int)) then
             (bif i == whichOf odd then
              (bif howOf odd == 0 then
               (bif decide ((List.length h + List.length (List.set [evtZ] 0 (1, kOf l i, nOf l i n_, 0, 0, [0, 0, 0, 0, 0, 0]))) * 88 ≤ 140737488355328) then
                some (.normal, hSkel.fill hHoles (l, odd, IntKind.wrap .i64 (i + 1), List.set at_ (Int.toNat (kOf l i)) 2, n_, h ++ List.set [evtZ] 0 (1, kOf l i, nOf l i n_, 0, 0, [0, 0, 0, 0, 0, 0]), ()))
                else none)
               else (bif howOf odd == 1 then
                (bif decide ((List.length h + List.length (List.set [evtZ] 0 (2, kOf l i, IntKind.wrap .i64 (nOf l i n_ + 1), 0, 0, [0, 0, 0, 0, 0, 0]))) * 88 ≤ 140737488355328) then
                 some (.normal, hSkel.fill hHoles (l, odd, IntKind.wrap .i64 (i + 1), List.set at_ (Int.toNat (kOf l i)) 2, n_, h ++ List.set [evtZ] 0 (2, kOf l i, IntKind.wrap .i64 (nOf l i n_ + 1), 0, 0, [0, 0, 0, 0, 0, 0]), ()))
                 else none)
                else (bif howOf odd == 2 then
                 (bif decide ((List.length h + List.length (List.set [evtZ] 0 (2, kOf l i, nOf l i n_, 0, 5, [0, 0, 0, 0, 0, 0]))) * 88 ≤ 140737488355328) then
                  some (.normal, hSkel.fill hHoles (l, odd, IntKind.wrap .i64 (i + 1), List.set at_ (Int.toNat (kOf l i)) 2, n_, h ++ List.set [evtZ] 0 (2, kOf l i, nOf l i n_, 0, 5, [0, 0, 0, 0, 0, 0]), ()))
                  else none)
                 else (bif howOf odd == 3 then
                  (bif decide ((List.length h + List.length (List.set [evtZ] 0 (4, kOf l i, nOf l i n_, 0, 0, [0, 0, 0, 0, 0, 0]))) * 88 ≤ 140737488355328) then
                   some (.normal, hSkel.fill hHoles (l, odd, IntKind.wrap .i64 (i + 1), List.set at_ (Int.toNat (kOf l i)) 2, n_, h ++ List.set [evtZ] 0 (4, kOf l i, nOf l i n_, 0, 0, [0, 0, 0, 0, 0, 0]), ()))
                   else none)
                  else (bif howOf odd == 4 then
                   (bif decide ((List.length h + List.length (List.set [evtZ] 0 (2, kOf l i, -1, 0, 0, [0, 0, 0, 0, 0, 0]))) * 88 ≤ 140737488355328) then
                    some (.normal, hSkel.fill hHoles (l, odd, IntKind.wrap .i64 (i + 1), List.set at_ (Int.toNat (kOf l i)) 2, n_, h ++ List.set [evtZ] 0 (2, kOf l i, -1, 0, 0, [0, 0, 0, 0, 0, 0]), ()))
                    else none)
                   else (bif decide ((List.length h + List.length (List.set [evtZ] 0 (2, kOf l i, nOf l i n_, 0, 0, [0, 0, 0, 0, 0, 0]))) * 88 ≤ 140737488355328) then
                    some (.normal, hSkel.fill hHoles (l, odd, IntKind.wrap .i64 (i + 1), List.set at_ (Int.toNat (kOf l i)) 2, n_, h ++ List.set [evtZ] 0 (2, kOf l i, nOf l i n_, 0, 0, [0, 0, 0, 0, 0, 0]), ()))
                    else none))))))
              else (bif decide ((List.length h + List.length (List.set [evtZ] 0 (2, kOf l i, nOf l i n_, 0, 0, [0, 0, 0, 0, 0, 0]))) * 88 ≤ 140737488355328) then
               some (.normal, hSkel.fill hHoles (l, odd, IntKind.wrap .i64 (i + 1), List.set at_ (Int.toNat (kOf l i)) 2, n_, h ++ List.set [evtZ] 0 (2, kOf l i, nOf l i n_, 0, 0, [0, 0, 0, 0, 0, 0]), ()))
               else none))
             else none)
            else (bif decide (0 ≤ kOf l i) && decide (kOf l i < (Nat.cast 3 : Int)) && decide (kOf l i < (Nat.cast (List.length at_) : Int)) then
             (bif decide (0 ≤ kOf l i) && decide (kOf l i < (Nat.cast 3 : Int)) && decide (kOf l i < (Nat.cast (List.length n_) : Int)) then
              (bif decide (0 ≤ kOf l i) && decide (kOf l i < (Nat.cast 3 : Int)) && decide (kOf l i < (Nat.cast (List.length n_) : Int)) then
               (bif i == whichOf odd then
                (bif howOf odd == 0 then
                 (bif decide ((List.length h + List.length (List.set [evtZ] 0 (1, kOf l i, nOf l i n_, 0, 0, [0, 0, 0, 0, 0, 0]))) * 88 ≤ 140737488355328) then
                  some (.normal, hSkel.fill hHoles (l, odd, IntKind.wrap .i64 (i + 1), List.set at_ (Int.toNat (kOf l i)) 0, List.set n_ (Int.toNat (kOf l i)) (IntKind.wrap .i64 (nOf l i n_ + 1)), h ++ List.set [evtZ] 0 (1, kOf l i, nOf l i n_, 0, 0, [0, 0, 0, 0, 0, 0]), ()))
                  else none)
                 else (bif howOf odd == 1 then
                  (bif decide ((List.length h + List.length (List.set [evtZ] 0 (3, kOf l i, IntKind.wrap .i64 (nOf l i n_ + 1), 0, 0, [0, 0, 0, 0, 0, 0]))) * 88 ≤ 140737488355328) then
                   some (.normal, hSkel.fill hHoles (l, odd, IntKind.wrap .i64 (i + 1), List.set at_ (Int.toNat (kOf l i)) 0, List.set n_ (Int.toNat (kOf l i)) (IntKind.wrap .i64 (nOf l i n_ + 1)), h ++ List.set [evtZ] 0 (3, kOf l i, IntKind.wrap .i64 (nOf l i n_ + 1), 0, 0, [0, 0, 0, 0, 0, 0]), ()))
                   else none)
                  else (bif howOf odd == 2 then
                   (bif decide ((List.length h + List.length (List.set [evtZ] 0 (3, kOf l i, nOf l i n_, 0, 5, [0, 0, 0, 0, 0, 0]))) * 88 ≤ 140737488355328) then
                    some (.normal, hSkel.fill hHoles (l, odd, IntKind.wrap .i64 (i + 1), List.set at_ (Int.toNat (kOf l i)) 0, List.set n_ (Int.toNat (kOf l i)) (IntKind.wrap .i64 (nOf l i n_ + 1)), h ++ List.set [evtZ] 0 (3, kOf l i, nOf l i n_, 0, 5, [0, 0, 0, 0, 0, 0]), ()))
                    else none)
                   else (bif howOf odd == 3 then
                    (bif decide ((List.length h + List.length (List.set [evtZ] 0 (4, kOf l i, nOf l i n_, 0, 0, [0, 0, 0, 0, 0, 0]))) * 88 ≤ 140737488355328) then
                     some (.normal, hSkel.fill hHoles (l, odd, IntKind.wrap .i64 (i + 1), List.set at_ (Int.toNat (kOf l i)) 0, List.set n_ (Int.toNat (kOf l i)) (IntKind.wrap .i64 (nOf l i n_ + 1)), h ++ List.set [evtZ] 0 (4, kOf l i, nOf l i n_, 0, 0, [0, 0, 0, 0, 0, 0]), ()))
                     else none)
                    else (bif howOf odd == 4 then
                     (bif decide ((List.length h + List.length (List.set [evtZ] 0 (3, kOf l i, -1, 0, 0, [0, 0, 0, 0, 0, 0]))) * 88 ≤ 140737488355328) then
                      some (.normal, hSkel.fill hHoles (l, odd, IntKind.wrap .i64 (i + 1), List.set at_ (Int.toNat (kOf l i)) 0, List.set n_ (Int.toNat (kOf l i)) (IntKind.wrap .i64 (nOf l i n_ + 1)), h ++ List.set [evtZ] 0 (3, kOf l i, -1, 0, 0, [0, 0, 0, 0, 0, 0]), ()))
                      else none)
                     else (bif decide ((List.length h + List.length (List.set [evtZ] 0 (3, kOf l i, nOf l i n_, 0, 0, [0, 0, 0, 0, 0, 0]))) * 88 ≤ 140737488355328) then
                      some (.normal, hSkel.fill hHoles (l, odd, IntKind.wrap .i64 (i + 1), List.set at_ (Int.toNat (kOf l i)) 0, List.set n_ (Int.toNat (kOf l i)) (IntKind.wrap .i64 (nOf l i n_ + 1)), h ++ List.set [evtZ] 0 (3, kOf l i, nOf l i n_, 0, 0, [0, 0, 0, 0, 0, 0]), ()))
                      else none))))))
                else (bif decide ((List.length h + List.length (List.set [evtZ] 0 (3, kOf l i, nOf l i n_, 0, 0, [0, 0, 0, 0, 0, 0]))) * 88 ≤ 140737488355328) then
                 some (.normal, hSkel.fill hHoles (l, odd, IntKind.wrap .i64 (i + 1), List.set at_ (Int.toNat (kOf l i)) 0, List.set n_ (Int.toNat (kOf l i)) (IntKind.wrap .i64 (nOf l i n_ + 1)), h ++ List.set [evtZ] 0 (3, kOf l i, nOf l i n_, 0, 0, [0, 0, 0, 0, 0, 0]), ()))
                 else none))
               else none)
              else none)
             else none))
           else none)
          else (bif decide (0 ≤ kOf l i) && decide (kOf l i < (Nat.cast 3 : Int)) && decide (kOf l i < (Nat.cast (List.length at_) : Int)) then
           (bif decide (0 ≤ kOf l i) && decide (kOf l i < (Nat.cast 3 : Int)) && decide (kOf l i < (Nat.cast (List.length n_) : Int)) then
            (bif decide (0 ≤ kOf l i) && decide (kOf l i < (Nat.cast 3 : Int)) && decide (kOf l i < (Nat.cast (List.length n_) : Int)) then
             (bif i == whichOf odd then
              (bif howOf odd == 0 then
               (bif decide ((List.length h + List.length (List.set [evtZ] 0 (1, kOf l i, nOf l i n_, 0, 0, [0, 0, 0, 0, 0, 0]))) * 88 ≤ 140737488355328) then
                some (.normal, hSkel.fill hHoles (l, odd, IntKind.wrap .i64 (i + 1), List.set at_ (Int.toNat (kOf l i)) 0, List.set n_ (Int.toNat (kOf l i)) (IntKind.wrap .i64 (nOf l i n_ + 1)), h ++ List.set [evtZ] 0 (1, kOf l i, nOf l i n_, 0, 0, [0, 0, 0, 0, 0, 0]), ()))
                else none)
               else (bif howOf odd == 1 then
                (bif decide ((List.length h + List.length (List.set [evtZ] 0 (3, kOf l i, IntKind.wrap .i64 (nOf l i n_ + 1), 0, 0, [0, 0, 0, 0, 0, 0]))) * 88 ≤ 140737488355328) then
                 some (.normal, hSkel.fill hHoles (l, odd, IntKind.wrap .i64 (i + 1), List.set at_ (Int.toNat (kOf l i)) 0, List.set n_ (Int.toNat (kOf l i)) (IntKind.wrap .i64 (nOf l i n_ + 1)), h ++ List.set [evtZ] 0 (3, kOf l i, IntKind.wrap .i64 (nOf l i n_ + 1), 0, 0, [0, 0, 0, 0, 0, 0]), ()))
                 else none)
                else (bif howOf odd == 2 then
                 (bif decide ((List.length h + List.length (List.set [evtZ] 0 (3, kOf l i, nOf l i n_, 0, 5, [0, 0, 0, 0, 0, 0]))) * 88 ≤ 140737488355328) then
                  some (.normal, hSkel.fill hHoles (l, odd, IntKind.wrap .i64 (i + 1), List.set at_ (Int.toNat (kOf l i)) 0, List.set n_ (Int.toNat (kOf l i)) (IntKind.wrap .i64 (nOf l i n_ + 1)), h ++ List.set [evtZ] 0 (3, kOf l i, nOf l i n_, 0, 5, [0, 0, 0, 0, 0, 0]), ()))
                  else none)
                 else (bif howOf odd == 3 then
                  (bif decide ((List.length h + List.length (List.set [evtZ] 0 (4, kOf l i, nOf l i n_, 0, 0, [0, 0, 0, 0, 0, 0]))) * 88 ≤ 140737488355328) then
                   some (.normal, hSkel.fill hHoles (l, odd, IntKind.wrap .i64 (i + 1), List.set at_ (Int.toNat (kOf l i)) 0, List.set n_ (Int.toNat (kOf l i)) (IntKind.wrap .i64 (nOf l i n_ + 1)), h ++ List.set [evtZ] 0 (4, kOf l i, nOf l i n_, 0, 0, [0, 0, 0, 0, 0, 0]), ()))
                   else none)
                  else (bif howOf odd == 4 then
                   (bif decide ((List.length h + List.length (List.set [evtZ] 0 (3, kOf l i, -1, 0, 0, [0, 0, 0, 0, 0, 0]))) * 88 ≤ 140737488355328) then
                    some (.normal, hSkel.fill hHoles (l, odd, IntKind.wrap .i64 (i + 1), List.set at_ (Int.toNat (kOf l i)) 0, List.set n_ (Int.toNat (kOf l i)) (IntKind.wrap .i64 (nOf l i n_ + 1)), h ++ List.set [evtZ] 0 (3, kOf l i, -1, 0, 0, [0, 0, 0, 0, 0, 0]), ()))
                    else none)
                   else (bif decide ((List.length h + List.length (List.set [evtZ] 0 (3, kOf l i, nOf l i n_, 0, 0, [0, 0, 0, 0, 0, 0]))) * 88 ≤ 140737488355328) then
                    some (.normal, hSkel.fill hHoles (l, odd, IntKind.wrap .i64 (i + 1), List.set at_ (Int.toNat (kOf l i)) 0, List.set n_ (Int.toNat (kOf l i)) (IntKind.wrap .i64 (nOf l i n_ + 1)), h ++ List.set [evtZ] 0 (3, kOf l i, nOf l i n_, 0, 0, [0, 0, 0, 0, 0, 0]), ()))
                    else none))))))
              else (bif decide ((List.length h + List.length (List.set [evtZ] 0 (3, kOf l i, nOf l i n_, 0, 0, [0, 0, 0, 0, 0, 0]))) * 88 ≤ 140737488355328) then
               some (.normal, hSkel.fill hHoles (l, odd, IntKind.wrap .i64 (i + 1), List.set at_ (Int.toNat (kOf l i)) 0, List.set n_ (Int.toNat (kOf l i)) (IntKind.wrap .i64 (nOf l i n_ + 1)), h ++ List.set [evtZ] 0 (3, kOf l i, nOf l i n_, 0, 0, [0, 0, 0, 0, 0, 0]), ()))
               else none))
             else none)
            else none)
           else none))
         else none))
       else none))
     else none)
    else none)
   else none)
  else some ((.exit 0), hzSkel.fill [.ar 2000 false 31 evtT] (h, ())))
 else some ((.exit 0), hzSkel.fill [.ar 2000 false 31 evtT] (h, ())))

set_option maxRecDepth 100000 in
theorem h_round (l : List Int) (odd i : Int) (at_ n_ : List Int) (h : List EvtV) : (round cb0 p5 hShape hLoop (hSkel.fill hHoles (l, odd, i, at_, n_, h, ()))).run = hTree l odd i at_ n_ h := by kernel_rfl

theorem kOf_in (l : List Int) (i : Int) : 0 ≤ kOf l i ∧ kOf l i < 3 := by
  unfold kOf
  have h : (BitVec.toNat (BitVec.ofInt (IntKind.bits IntKind.i64) (List.getD l (Int.toNat i) 0) &&& BitVec.ofInt (IntKind.bits IntKind.i64) 255)) ≤ 255 := by
    rw [BitVec.toNat_and]
    exact Nat.le_trans Nat.and_le_right (by decide)
  generalize BitVec.toNat (BitVec.ofInt (IntKind.bits IntKind.i64) (List.getD l (Int.toNat i) 0) &&& BitVec.ofInt (IntKind.bits IntKind.i64) 255) = k at h
  have e : IntKind.wrap .i64 (Nat.cast k : Int) = k := wrap_small (by omega) (by omega)
  rw [e]
  exact ⟨Int.tmod_nonneg 3 (by omega), Int.tmod_lt_of_pos _ (by decide)⟩

structure HI (i : Int) (at_ n_ : List Int) (h : List EvtV) : Prop where
  i0 : 0 ≤ i
  i1 : i ≤ 30
  a3 : at_.length = 3
  n3 : n_.length = 3
  hl : (h.length : Int) ≤ i

def Next (l : List Int) (odd i : Int) (o : Option (Exit × St)) : Prop := ∃ at' n' h', o = some (.normal, hSkel.fill hHoles (l, odd, i + 1, at', n', h', ())) ∧ HI (i + 1) at' n' h'
theorem next_bif {l : List Int} {odd i : Int} {b : Bool} {x y : Option (Exit × St)} (hx : Next l odd i x) (hy : Next l odd i y) : Next l odd i (bif b then x else y) := by cases b; exact hy; exact hx
theorem next_leaf {l : List Int} {odd i : Int} {at' n' : List Int} {h : List EvtV} {v : EvtV} (i0 : 0 ≤ i) (i1 : i < 30) (a3 : at'.length = 3) (n3 : n'.length = 3) (hl : (h.length : Int) ≤ i) : Next l odd i (some (.normal, hSkel.fill hHoles (l, odd, i + 1, at', n', h ++ List.set [evtZ] 0 v, ()))) :=
  ⟨at', n', _, rfl, ⟨by omega, by omega, a3, n3, by simp; omega⟩⟩

theorem h_next {l : List Int} {odd i : Int} {at_ n_ : List Int} {h : List EvtV} (h1 : i < (l.length : Int)) (h2 : i < 30) (H : HI i at_ n_ h) : Next l odd i (hTree l odd i at_ n_ h) := by
  obtain ⟨i0, i1, a3, n3, hl⟩ := H
  obtain ⟨k0, k1⟩ := kOf_in l i
  have e1 : IntKind.wrap .i64 (i + 1) = i + 1 := wrap_small (by omega) (by omega)
  have hap : (h.length + 1) * 88 ≤ 140737488355328 := by omega
  have k1' : kOf l i < (Nat.cast 3 : Int) := k1
  unfold hTree
  simp only [h1, h2, i0, e1, k0, k1', a3, n3, List.length_set, List.length_singleton, hap, decide_true, Bool.and_self, cond_true]
  repeat' first
    | exact next_leaf i0 h2 (by simp [a3]) (by simp [n3]) hl
    | apply next_bif

theorem h_end {l : List Int} {odd i : Int} {at_ n_ : List Int} {h : List EvtV} (hn : ¬ (i < (l.length : Int) ∧ i < 30)) : hTree l odd i at_ n_ h = some (.exit 0, hzSkel.fill [.ar 2000 false 31 evtT] (h, ())) := by
  unfold hTree
  by_cases h1 : i < (l.length : Int)
  · have h2 : ¬ i < 30 := fun e => hn ⟨h1, e⟩
    simp only [h1, h2, decide_true, decide_false, cond_true, cond_false]
  · simp only [h1, decide_false, cond_false]

theorem h_step (l : List Int) (odd i : Int) (at_ n_ : List Int) (h : List EvtV) (H : HI i at_ n_ h) :
    (∃ x' : Holes hHoles, (round cb0 p5 hShape hLoop (hSkel.fill hHoles (l, odd, i, at_, n_, h, ()))).run = some (.normal, hSkel.fill hHoles x') ∧ (30 - x'.2.2.1).toNat < (30 - i).toNat ∧ HI x'.2.2.1 x'.2.2.2.1 x'.2.2.2.2.1 x'.2.2.2.2.2.1) ∨
    (∃ z : List EvtV, (round cb0 p5 hShape hLoop (hSkel.fill hHoles (l, odd, i, at_, n_, h, ()))).run = some (.exit 0, hzSkel.fill [.ar 2000 false 31 evtT] (z, ())) ∧ z.length ≤ 30) := by
  by_cases hlt : i < (l.length : Int) ∧ i < 30
  · left
    obtain ⟨a', n', h', e, k⟩ := h_next (odd := odd) hlt.1 hlt.2 H
    refine ⟨(l, odd, i + 1, a', n', h', ()), (h_round l odd i at_ n_ h).trans e, ?_, k⟩
    show (30 - (i + 1)).toNat < (30 - i).toNat
    omega
  · right
    refine ⟨h, (h_round l odd i at_ n_ h).trans (h_end hlt), ?_⟩
    have := H.hl
    have := H.i1
    omega

theorem h_ex : ∃ E : Holes hHoles → List EvtV, (∀ x : Holes hHoles, HI x.2.2.1 x.2.2.2.1 x.2.2.2.2.1 x.2.2.2.2.2.1 → (E x).length ≤ 30) ∧ ∀ g : Cfg, g.m0 = [] → LoopOk Try.prog g (loopO 1024 (hShape .normal) (hSkel.parse hHoles) fun x => .cond (tru (HI x.2.2.1 x.2.2.2.1 x.2.2.2.2.1 x.2.2.2.2.2.1)) (.ret (.exit 0, hzSkel.fill [.ar 2000 false 31 evtT] (E x, ()))) .no) hLoop := by
  refine LoopOk.ex (c := cb0) (X := Holes hHoles) (Z := List EvtV) eb0 p5 (fun g _ => LoOk.none l5) hShape (fun x => hSkel.fill hHoles x) (fun x => (30 - x.2.2.1).toNat) (fun s x h => Skel.parse_ok h) (fun x => HI x.2.2.1 x.2.2.2.1 x.2.2.2.2.1 x.2.2.2.2.2.1) (fun z => z.length ≤ 30) (.exit 0) (fun e => by cases e) (fun z => hzSkel.fill [.ar 2000 false 31 evtT] (z, ())) ?_
  rintro ⟨l, odd, i, at_, n_, h, _⟩ H
  exact h_step l odd i at_ n_ h H


noncomputable def madeE : Holes hHoles → List EvtV := Classical.choose h_ex
theorem madeE_len : ∀ x : Holes hHoles, HI x.2.2.1 x.2.2.2.1 x.2.2.2.2.1 x.2.2.2.2.2.1 → (madeE x).length ≤ 30 := (Classical.choose_spec h_ex).1
noncomputable def hF (x : Holes hHoles) : Br (Exit × St) := .cond (tru (HI x.2.2.1 x.2.2.2.1 x.2.2.2.2.1 x.2.2.2.2.2.1)) (.ret (.exit 0, hzSkel.fill [.ar 2000 false 31 evtT] (madeE x, ()))) .no
theorem h_loop : ∀ g : Cfg, g.m0 = [] → LoopOk Try.prog g (loopO 1024 (hShape .normal) (hSkel.parse hHoles) hF) hLoop := (Classical.choose_spec h_ex).2
noncomputable def pH : Par := { sh := fun _ => none, k := 3, lo := fun i => bif Nat.beq i 4 then some (loopO 1024 (hShape .normal) (hSkel.parse hHoles) hF) else none }
/-- The history. -/
noncomputable def made (l : List Int) (odd : Int) : List EvtV := madeE (l, odd, 0, List.replicate 3 (0 : Int), List.replicate 3 (0 : Int), [], ())

set_option maxRecDepth 100000 in
theorem made_eq (l : List Int) (odd : Int) : ((inl c0 pH Try.f14 (bodyOf Try.f14) 0 (argsD [(true, .sl i64), (true, i64)] (l, odd, ())) []).bind fun r => .ofOpt (outsD r.2.1 [.sl evtT] r.1)).run =
    bif tru (HI 0 (List.replicate 3 (0 : Int)) (List.replicate 3 (0 : Int)) []) then some (false, made l odd) else none := by kernel_rfl

theorem hI0 : HI 0 (List.replicate 3 (0 : Int)) (List.replicate 3 (0 : Int)) [] := ⟨by decide, by decide, by simp, by simp, by simp⟩
theorem made_len (l : List Int) (odd : Int) : (made l odd).length ≤ 30 := madeE_len (l, odd, 0, List.replicate 3 (0 : Int), List.replicate 3 (0 : Int), [], ()) hI0

theorem made_spec : TSpec Try.prog 14 [(true, .sl i64), (true, i64)] [.sl evtT] (fun _ => true) (fun xs => made xs.1 xs.2.1) := by
  refine TSpec.of_outs e0 Try.func14 (by kernel_rfl) (p := pH) (fun g hg => LoOk.one (a := hLoop) (by kernel_rfl) fun o ho => (h_loop g hg).of (by kernel_rfl) ho) fun xs _ => ?_
  refine (made_eq xs.1 xs.2.1).trans ?_
  rw [tru_iff.2 hI0]
  rfl

end Go.Proofs.Ytnhiplibodkciaa
