/- TicketPlays: its main loop. -/
import Derived.Test.YtnhiplibodkciaaTickC
namespace Go.Proofs.Ytnhiplibodkciaa
open Go.PI

def xOf (l : List Int) (i : Int) : Int := IntKind.wrap .i64 (IntKind.wrap .i64 (Nat.cast (BitVec.toNat (BitVec.ofInt (IntKind.bits IntKind.i64) (List.getD l (Int.toNat i) 0) &&& BitVec.ofInt (IntKind.bits IntKind.i64) 7)) : Int) - 1)
def bOf (l : List Int) (i : Int) : Int := IntKind.wrap .i64 (Nat.cast (BitVec.toNat (BitVec.ofInt (IntKind.bits IntKind.i64) (List.getD l (Int.toNat i) 0) &&& BitVec.ofInt (IntKind.bits IntKind.i64) 8)) : Int)

/-- What a round comes to. -/
def mTree (l : List Int) (who n i : Int) (w : List Int) : Option (Exit × St) :=
(bif decide (i < (Nat.cast (List.length l) : Int)) then
 (bif decide (i < 80) then
  (bif decide (0 ≤ i) && decide (i < (Nat.cast (List.length l) : Int)) then
   (bif inB (MainV.w (l, who, n, i, who, n, w, w, ())) 0 then
    (bif decide (0 ≤ i) && decide (i < (Nat.cast (List.length l) : Int)) then
     (bif decide (bOf l i > 0) then
      (bif decide (xOf l i < 0) then
       (bif decide (xOf l i < 0) then
        (bif who != who then
         some (.ret, only 144 2 .ff)
         else (bif (Nat.cast (List.length w) : Int) != (Nat.cast (List.length w) : Int) then
          some (.ret, only 144 2 .ff)
          else (bif n != n then
           some (.ret, only 144 2 .ff)
           else (bif kInv 0 (l, who, n, i, who, n, w, w, ()) then
            some (.normal, mSkel.fill mHoles (l, who, n, IntKind.wrap .i64 (i + 1), who, n, w, w, ()))
            else none))))
        else (bif who == xOf l i then
         some (.ret, only 144 2 .ff)
         else (bif decide (List.length w ≤ 9223372036854775807) then
          (bif List.any w fun (x : Int) => x == xOf l i then
           some (.ret, only 144 2 .ff)
           else (bif who == -1 then
            (bif (Nat.cast (List.length w) : Int) == 0 then
             some (.ret, only 144 2 .ff)
             else (bif decide ((List.length w + List.length (List.set (List.replicate 1 0) 0 (xOf l i))) * 8 ≤ 140737488355328) then
              some (.ret, only 144 2 .ff)
              else none))
            else (bif decide ((List.length w + List.length (List.set (List.replicate 1 0) 0 (xOf l i))) * 8 ≤ 140737488355328) then
             some (.ret, only 144 2 .ff)
             else none)))
          else none)))
       else (bif xOf l i == who || List.any (List.drop (Int.toNat 0) (MainV.w (l, who, n, i, who, n, w, w, ()))) fun (x : Int) => x == xOf l i then
        (bif decide (xOf l i < 0) then
         some (.ret, only 144 2 .ff)
         else (bif who == xOf l i then
          (bif who != who then
           some (.ret, only 144 2 .ff)
           else (bif (Nat.cast (List.length w) : Int) != (Nat.cast (List.length w) : Int) then
            some (.ret, only 144 2 .ff)
            else (bif n != n then
             some (.ret, only 144 2 .ff)
             else (bif kInv 0 (l, who, n, i, who, n, w, w, ()) then
              some (.normal, mSkel.fill mHoles (l, who, n, IntKind.wrap .i64 (i + 1), who, n, w, w, ()))
              else none))))
          else (bif decide (List.length w ≤ 9223372036854775807) then
           (bif List.any w fun (x : Int) => x == xOf l i then
            (bif who != who then
             some (.ret, only 144 2 .ff)
             else (bif (Nat.cast (List.length w) : Int) != (Nat.cast (List.length w) : Int) then
              some (.ret, only 144 2 .ff)
              else (bif n != n then
               some (.ret, only 144 2 .ff)
               else (bif kInv 0 (l, who, n, i, who, n, w, w, ()) then
                some (.normal, mSkel.fill mHoles (l, who, n, IntKind.wrap .i64 (i + 1), who, n, w, w, ()))
                else none))))
            else (bif who == -1 then
             (bif (Nat.cast (List.length w) : Int) == 0 then
              some (.ret, only 144 2 .ff)
              else (bif decide ((List.length w + List.length (List.set (List.replicate 1 0) 0 (xOf l i))) * 8 ≤ 140737488355328) then
               some (.ret, only 144 2 .ff)
               else none))
             else (bif decide ((List.length w + List.length (List.set (List.replicate 1 0) 0 (xOf l i))) * 8 ≤ 140737488355328) then
              some (.ret, only 144 2 .ff)
              else none)))
           else none)))
        else (bif decide (who < 0) then
         (bif decide (xOf l i < 0) then
          some (.ret, only 144 2 .ff)
          else (bif who == xOf l i then
           some (.ret, only 144 2 .ff)
           else (bif decide (List.length w ≤ 9223372036854775807) then
            (bif List.any w fun (x : Int) => x == xOf l i then
             some (.ret, only 144 2 .ff)
             else (bif who == -1 then
              (bif (Nat.cast (List.length w) : Int) == 0 then
               (bif xOf l i != xOf l i then
                some (.ret, only 144 2 .ff)
                else (bif (Nat.cast (List.length w) : Int) != (Nat.cast (List.length w) : Int) then
                 some (.ret, only 144 2 .ff)
                 else (bif IntKind.wrap .i64 (n + 1) != IntKind.wrap .i64 (n + 1) then
                  some (.ret, only 144 2 .ff)
                  else (bif kInv 0 (l, xOf l i, IntKind.wrap .i64 (n + 1), i, xOf l i, IntKind.wrap .i64 (n + 1), w, w, ()) then
                   some (.normal, mSkel.fill mHoles (l, xOf l i, IntKind.wrap .i64 (n + 1), IntKind.wrap .i64 (i + 1), xOf l i, IntKind.wrap .i64 (n + 1), w, w, ()))
                   else none))))
               else (bif decide ((List.length w + List.length (List.set (List.replicate 1 0) 0 (xOf l i))) * 8 ≤ 140737488355328) then
                some (.ret, only 144 2 .ff)
                else none))
              else (bif decide ((List.length w + List.length (List.set (List.replicate 1 0) 0 (xOf l i))) * 8 ≤ 140737488355328) then
               some (.ret, only 144 2 .ff)
               else none)))
            else none)))
         else (bif decide ((List.length w + List.length (List.set (List.replicate 1 0) 0 (xOf l i))) * 8 ≤ 140737488355328) then
          (bif decide (xOf l i < 0) then
           some (.ret, only 144 2 .ff)
           else (bif who == xOf l i then
            some (.ret, only 144 2 .ff)
            else (bif decide (List.length w ≤ 9223372036854775807) then
             (bif List.any w fun (x : Int) => x == xOf l i then
              some (.ret, only 144 2 .ff)
              else (bif who == -1 then
               (bif (Nat.cast (List.length w) : Int) == 0 then
                some (.ret, only 144 2 .ff)
                else (bif decide ((List.length w + List.length (List.set (List.replicate 1 0) 0 (xOf l i))) * 8 ≤ 140737488355328) then
                 (bif who != who then
                  some (.ret, only 144 2 .ff)
                  else (bif (Nat.cast (List.length (w ++ List.set (List.replicate 1 0) 0 (xOf l i))) : Int) != (Nat.cast (List.length (w ++ List.set (List.replicate 1 0) 0 (xOf l i))) : Int) then
                   some (.ret, only 144 2 .ff)
                   else (bif n != n then
                    some (.ret, only 144 2 .ff)
                    else (bif kInv 0 (l, who, n, i, who, n, w ++ List.set (List.replicate 1 0) 0 (xOf l i), w ++ List.set (List.replicate 1 0) 0 (xOf l i), ()) then
                     some (.normal, mSkel.fill mHoles (l, who, n, IntKind.wrap .i64 (i + 1), who, n, w ++ List.set (List.replicate 1 0) 0 (xOf l i), w ++ List.set (List.replicate 1 0) 0 (xOf l i), ()))
                     else none))))
                 else none))
               else (bif decide ((List.length w + List.length (List.set (List.replicate 1 0) 0 (xOf l i))) * 8 ≤ 140737488355328) then
                (bif who != who then
                 some (.ret, only 144 2 .ff)
                 else (bif (Nat.cast (List.length (w ++ List.set (List.replicate 1 0) 0 (xOf l i))) : Int) != (Nat.cast (List.length (w ++ List.set (List.replicate 1 0) 0 (xOf l i))) : Int) then
                  some (.ret, only 144 2 .ff)
                  else (bif n != n then
                   some (.ret, only 144 2 .ff)
                   else (bif kInv 0 (l, who, n, i, who, n, w ++ List.set (List.replicate 1 0) 0 (xOf l i), w ++ List.set (List.replicate 1 0) 0 (xOf l i), ()) then
                    some (.normal, mSkel.fill mHoles (l, who, n, IntKind.wrap .i64 (i + 1), who, n, w ++ List.set (List.replicate 1 0) 0 (xOf l i), w ++ List.set (List.replicate 1 0) 0 (xOf l i), ()))
                    else none))))
                else none)))
             else none)))
          else none))))
      else (bif decide (xOf l i ≥ 0) then
       (bif xOf l i == who then
        (bif decide ((Nat.cast (List.length w) : Int) > 0) then
         (bif decide (0 ≤ 0) && decide (0 < (Nat.cast (List.length w) : Int)) then
          (bif decide (0 ≤ 1) && decide (1 ≤ (Nat.cast (List.length w) : Int)) && decide ((Nat.cast (List.length w) : Int) ≤ (Nat.cast (List.length w) : Int)) then
           (bif decide ((List.length (List.replicate 0 0) + List.length (List.take (Int.toNat (Nat.cast (List.length w) : Int) - Int.toNat 1) (List.drop (0 + Int.toNat 1) w))) * 8 ≤ 140737488355328) then
            (bif decide (xOf l i < 0) then
             some (.ret, only 144 2 .ff)
             else (bif who != xOf l i then
              some (.ret, only 144 2 .ff)
              else (bif decide ((Nat.cast (List.length w) : Int) > 0) then
               (bif decide (0 ≤ 0) && decide (0 < (Nat.cast (List.length w) : Int)) then
                (bif decide (0 ≤ 1) && decide (1 ≤ (Nat.cast (List.length w) : Int)) && decide ((Nat.cast (List.length w) : Int) ≤ (Nat.cast (List.length w) : Int)) then
                 (bif decide (List.length (List.take (Int.toNat (Nat.cast (List.length w) : Int) - Int.toNat 1) (List.drop (0 + Int.toNat 1) w)) * 8 ≤ 140737488355328) then
                  (bif List.getD w (Int.toNat 0) 0 != List.getD w (Int.toNat 0) 0 then
                   some (.ret, only 144 2 .ff)
                   else (bif (Nat.cast (List.length (List.take (Int.toNat (Nat.cast (List.length w) : Int) - Int.toNat 1) (List.drop (0 + Int.toNat 1) w))) : Int) != (Nat.cast (List.length (List.replicate 0 0 ++ List.take (Int.toNat (Nat.cast (List.length w) : Int) - Int.toNat 1) (List.drop (0 + Int.toNat 1) w))) : Int) then
                    some (.ret, only 144 2 .ff)
                    else (bif IntKind.wrap .i64 (n + 1) != IntKind.wrap .i64 (n + 1) then
                     some (.ret, only 144 2 .ff)
                     else (bif kInv 0 (l, List.getD w (Int.toNat 0) 0, IntKind.wrap .i64 (n + 1), i, List.getD w (Int.toNat 0) 0, IntKind.wrap .i64 (n + 1), List.take (Int.toNat (Nat.cast (List.length w) : Int) - Int.toNat 1) (List.drop (0 + Int.toNat 1) w), List.replicate 0 0 ++ List.take (Int.toNat (Nat.cast (List.length w) : Int) - Int.toNat 1) (List.drop (0 + Int.toNat 1) w), ()) then
                      some (.normal, mSkel.fill mHoles (l, List.getD w (Int.toNat 0) 0, IntKind.wrap .i64 (n + 1), IntKind.wrap .i64 (i + 1), List.getD w (Int.toNat 0) 0, IntKind.wrap .i64 (n + 1), List.take (Int.toNat (Nat.cast (List.length w) : Int) - Int.toNat 1) (List.drop (0 + Int.toNat 1) w), List.replicate 0 0 ++ List.take (Int.toNat (Nat.cast (List.length w) : Int) - Int.toNat 1) (List.drop (0 + Int.toNat 1) w), ()))
                      else none))))
                  else none)
                 else none)
                else none)
               else (bif -1 != List.getD w (Int.toNat 0) 0 then
                some (.ret, only 144 2 .ff)
                else (bif (Nat.cast (List.length w) : Int) != (Nat.cast (List.length (List.replicate 0 0 ++ List.take (Int.toNat (Nat.cast (List.length w) : Int) - Int.toNat 1) (List.drop (0 + Int.toNat 1) w))) : Int) then
                 some (.ret, only 144 2 .ff)
                 else (bif n != IntKind.wrap .i64 (n + 1) then
                  some (.ret, only 144 2 .ff)
                  else (bif kInv 0 (l, List.getD w (Int.toNat 0) 0, IntKind.wrap .i64 (n + 1), i, -1, n, w, List.replicate 0 0 ++ List.take (Int.toNat (Nat.cast (List.length w) : Int) - Int.toNat 1) (List.drop (0 + Int.toNat 1) w), ()) then
                   some (.normal, mSkel.fill mHoles (l, List.getD w (Int.toNat 0) 0, IntKind.wrap .i64 (n + 1), IntKind.wrap .i64 (i + 1), -1, n, w, List.replicate 0 0 ++ List.take (Int.toNat (Nat.cast (List.length w) : Int) - Int.toNat 1) (List.drop (0 + Int.toNat 1) w), ()))
                   else none)))))))
            else none)
           else none)
          else none)
         else (bif decide (xOf l i < 0) then
          some (.ret, only 144 2 .ff)
          else (bif who != xOf l i then
           some (.ret, only 144 2 .ff)
           else (bif decide ((Nat.cast (List.length w) : Int) > 0) then
            (bif decide (0 ≤ 0) && decide (0 < (Nat.cast (List.length w) : Int)) then
             (bif decide (0 ≤ 1) && decide (1 ≤ (Nat.cast (List.length w) : Int)) && decide ((Nat.cast (List.length w) : Int) ≤ (Nat.cast (List.length w) : Int)) then
              (bif decide (List.length (List.take (Int.toNat (Nat.cast (List.length w) : Int) - Int.toNat 1) (List.drop (0 + Int.toNat 1) w)) * 8 ≤ 140737488355328) then
               (bif List.getD w (Int.toNat 0) 0 != -1 then
                some (.ret, only 144 2 .ff)
                else (bif (Nat.cast (List.length (List.take (Int.toNat (Nat.cast (List.length w) : Int) - Int.toNat 1) (List.drop (0 + Int.toNat 1) w))) : Int) != (Nat.cast (List.length w) : Int) then
                 some (.ret, only 144 2 .ff)
                 else (bif IntKind.wrap .i64 (n + 1) != n then
                  some (.ret, only 144 2 .ff)
                  else (bif kInv 0 (l, -1, n, i, List.getD w (Int.toNat 0) 0, IntKind.wrap .i64 (n + 1), List.take (Int.toNat (Nat.cast (List.length w) : Int) - Int.toNat 1) (List.drop (0 + Int.toNat 1) w), w, ()) then
                   some (.normal, mSkel.fill mHoles (l, -1, n, IntKind.wrap .i64 (i + 1), List.getD w (Int.toNat 0) 0, IntKind.wrap .i64 (n + 1), List.take (Int.toNat (Nat.cast (List.length w) : Int) - Int.toNat 1) (List.drop (0 + Int.toNat 1) w), w, ()))
                   else none))))
               else none)
              else none)
             else none)
            else (bif (Nat.cast (List.length w) : Int) != (Nat.cast (List.length w) : Int) then
             some (.ret, only 144 2 .ff)
             else (bif n != n then
              some (.ret, only 144 2 .ff)
              else (bif kInv 0 (l, -1, n, i, -1, n, w, w, ()) then
               some (.normal, mSkel.fill mHoles (l, -1, n, IntKind.wrap .i64 (i + 1), -1, n, w, w, ()))
               else none)))))))
        else (bif decide (xOf l i < 0) then
         (bif who != who then
          some (.ret, only 144 2 .ff)
          else (bif (Nat.cast (List.length w) : Int) != (Nat.cast (List.length w) : Int) then
           some (.ret, only 144 2 .ff)
           else (bif n != n then
            some (.ret, only 144 2 .ff)
            else (bif kInv 0 (l, who, n, i, who, n, w, w, ()) then
             some (.normal, mSkel.fill mHoles (l, who, n, IntKind.wrap .i64 (i + 1), who, n, w, w, ()))
             else none))))
         else (bif who != xOf l i then
          (bif who != who then
           some (.ret, only 144 2 .ff)
           else (bif (Nat.cast (List.length w) : Int) != (Nat.cast (List.length w) : Int) then
            some (.ret, only 144 2 .ff)
            else (bif n != n then
             some (.ret, only 144 2 .ff)
             else (bif kInv 0 (l, who, n, i, who, n, w, w, ()) then
              some (.normal, mSkel.fill mHoles (l, who, n, IntKind.wrap .i64 (i + 1), who, n, w, w, ()))
              else none))))
          else (bif decide ((Nat.cast (List.length w) : Int) > 0) then
           (bif decide (0 ≤ 0) && decide (0 < (Nat.cast (List.length w) : Int)) then
            (bif decide (0 ≤ 1) && decide (1 ≤ (Nat.cast (List.length w) : Int)) && decide ((Nat.cast (List.length w) : Int) ≤ (Nat.cast (List.length w) : Int)) then
             (bif decide (List.length (List.take (Int.toNat (Nat.cast (List.length w) : Int) - Int.toNat 1) (List.drop (0 + Int.toNat 1) w)) * 8 ≤ 140737488355328) then
              some (.ret, only 144 2 .ff)
              else none)
             else none)
            else none)
           else some (.ret, only 144 2 .ff)))))
       else (bif decide (xOf l i < 0) then
        (bif who != who then
         some (.ret, only 144 2 .ff)
         else (bif (Nat.cast (List.length w) : Int) != (Nat.cast (List.length w) : Int) then
          some (.ret, only 144 2 .ff)
          else (bif n != n then
           some (.ret, only 144 2 .ff)
           else (bif kInv 0 (l, who, n, i, who, n, w, w, ()) then
            some (.normal, mSkel.fill mHoles (l, who, n, IntKind.wrap .i64 (i + 1), who, n, w, w, ()))
            else none))))
        else (bif who != xOf l i then
         (bif who != who then
          some (.ret, only 144 2 .ff)
          else (bif (Nat.cast (List.length w) : Int) != (Nat.cast (List.length w) : Int) then
           some (.ret, only 144 2 .ff)
           else (bif n != n then
            some (.ret, only 144 2 .ff)
            else (bif kInv 0 (l, who, n, i, who, n, w, w, ()) then
             some (.normal, mSkel.fill mHoles (l, who, n, IntKind.wrap .i64 (i + 1), who, n, w, w, ()))
             else none))))
         else (bif decide ((Nat.cast (List.length w) : Int) > 0) then
          (bif decide (0 ≤ 0) && decide (0 < (Nat.cast (List.length w) : Int)) then
           (bif decide (0 ≤ 1) && decide (1 ≤ (Nat.cast (List.length w) : Int)) && decide ((Nat.cast (List.length w) : Int) ≤ (Nat.cast (List.length w) : Int)) then
            (bif decide (List.length (List.take (Int.toNat (Nat.cast (List.length w) : Int) - Int.toNat 1) (List.drop (0 + Int.toNat 1) w)) * 8 ≤ 140737488355328) then
             some (.ret, only 144 2 .ff)
             else none)
            else none)
           else none)
          else some (.ret, only 144 2 .ff))))))
     else none)
    else none)
   else none)
  else some ((.exit 0), only 144 2 .ff))
 else some ((.exit 0), only 144 2 .ff))

set_option maxRecDepth 100000 in
theorem m_round (l : List Int) (who n i : Int) (w : List Int) : (round db4 pK mShape mLoop (mSkel.fill mHoles (l, who, n, i, who, n, w, w, ()))).run = mTree l who n i w := by kernel_rfl

end Go.Proofs.Ytnhiplibodkciaa
