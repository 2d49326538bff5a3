/- Each Go function does what its Lean function says. -/
import Derived.Test.YtbmealjpegdhiaaD
namespace Go.Sx
open Go.Proofs
set_option linter.unusedVariables false
set_option linter.unusedSimpArgs false

theorem T_impl_OpOk_den (N : Nat) (o1 : Int × Int × Int × Int) :
    den (R := ODen (T_impl_OpOk_sg N).ps × RDen (T_impl_OpOk_sg N).rs) tab (T_impl_OpOk_ctx N) T_impl_OpOk_ann N (T_impl_OpOk_sg N) Try.f166 (o1, ()) some =
    (bif o1.1 == (1 : Int) then
    ((T_impl_isReg N o1.2.1).bind fun o2 =>
      (bif o2.2.1 then
        ((T_impl_isValue N o1.2.2.1).bind fun o3 =>
          (bif o3.2.1 then
            (some (α := ODen (T_impl_OpOk_sg N).ps × RDen (T_impl_OpOk_sg N).rs) ((), (o1.2.2.2 == (0 : Int), ())))
            else
            (some (α := ODen (T_impl_OpOk_sg N).ps × RDen (T_impl_OpOk_sg N).rs) ((), (false, ())))))
        else
        (some (α := ODen (T_impl_OpOk_sg N).ps × RDen (T_impl_OpOk_sg N).rs) ((), (false, ())))))
    else
    (bif o1.1 == (2 : Int) then
      (bif o1.1 == (2 : Int) then
        ((T_impl_isReg N o1.2.1).bind fun o4 =>
          (bif o4.2.1 then
            ((T_impl_isReg N o1.2.2.1).bind fun o5 =>
              (bif o5.2.1 then
                ((T_impl_isReg N o1.2.2.2).bind fun o6 =>
                  (some (α := ODen (T_impl_OpOk_sg N).ps × RDen (T_impl_OpOk_sg N).rs) ((), (o6.2.1, ()))))
                else
                (some (α := ODen (T_impl_OpOk_sg N).ps × RDen (T_impl_OpOk_sg N).rs) ((), (false, ())))))
            else
            (some (α := ODen (T_impl_OpOk_sg N).ps × RDen (T_impl_OpOk_sg N).rs) ((), (false, ())))))
        else
        (bif o1.1 == (5 : Int) then
          ((T_impl_isReg N o1.2.1).bind fun o7 =>
            (bif o7.2.1 then
              ((T_impl_isCell N o1.2.2.1).bind fun o8 =>
                (bif o8.2.1 then
                  (some (α := ODen (T_impl_OpOk_sg N).ps × RDen (T_impl_OpOk_sg N).rs) ((), (o1.2.2.2 == (0 : Int), ())))
                  else
                  (some (α := ODen (T_impl_OpOk_sg N).ps × RDen (T_impl_OpOk_sg N).rs) ((), (false, ())))))
              else
              (some (α := ODen (T_impl_OpOk_sg N).ps × RDen (T_impl_OpOk_sg N).rs) ((), (false, ())))))
          else
          (bif o1.1 == (6 : Int) then
            ((T_impl_isCell N o1.2.1).bind fun o9 =>
              (bif o9.2.1 then
                ((T_impl_isReg N o1.2.2.1).bind fun o10 =>
                  (bif o10.2.1 then
                    (some (α := ODen (T_impl_OpOk_sg N).ps × RDen (T_impl_OpOk_sg N).rs) ((), (o1.2.2.2 == (0 : Int), ())))
                    else
                    (some (α := ODen (T_impl_OpOk_sg N).ps × RDen (T_impl_OpOk_sg N).rs) ((), (false, ())))))
                else
                (some (α := ODen (T_impl_OpOk_sg N).ps × RDen (T_impl_OpOk_sg N).rs) ((), (false, ())))))
            else
            (bif o1.1 == (7 : Int) then
              ((T_impl_isReg N o1.2.1).bind fun o11 =>
                (bif o11.2.1 then
                  ((T_impl_within N o1.2.2.1 (1 : Int) (20 : Int)).bind fun o12 =>
                    (bif o12.2.1 then
                      (some (α := ODen (T_impl_OpOk_sg N).ps × RDen (T_impl_OpOk_sg N).rs) ((), (o1.2.2.2 == (0 : Int), ())))
                      else
                      (some (α := ODen (T_impl_OpOk_sg N).ps × RDen (T_impl_OpOk_sg N).rs) ((), (false, ())))))
                  else
                  (some (α := ODen (T_impl_OpOk_sg N).ps × RDen (T_impl_OpOk_sg N).rs) ((), (false, ())))))
              else
              (bif o1.1 == (8 : Int) then
                (bif o1.1 == (8 : Int) then
                  ((T_impl_isReg N o1.2.1).bind fun o13 =>
                    (bif o13.2.1 then
                      (bif o1.2.2.1 == (0 : Int) then
                        (some (α := ODen (T_impl_OpOk_sg N).ps × RDen (T_impl_OpOk_sg N).rs) ((), (o1.2.2.2 == (0 : Int), ())))
                        else
                        (some (α := ODen (T_impl_OpOk_sg N).ps × RDen (T_impl_OpOk_sg N).rs) ((), (false, ()))))
                      else
                      (some (α := ODen (T_impl_OpOk_sg N).ps × RDen (T_impl_OpOk_sg N).rs) ((), (false, ())))))
                  else
                  (bif o1.1 == (9 : Int) then
                    (bif o1.1 == (9 : Int) then
                      (bif o1.2.1 == (0 : Int) then
                        (bif o1.2.2.1 == (0 : Int) then
                          (some (α := ODen (T_impl_OpOk_sg N).ps × RDen (T_impl_OpOk_sg N).rs) ((), (o1.2.2.2 == (0 : Int), ())))
                          else
                          (some (α := ODen (T_impl_OpOk_sg N).ps × RDen (T_impl_OpOk_sg N).rs) ((), (false, ()))))
                        else
                        (some (α := ODen (T_impl_OpOk_sg N).ps × RDen (T_impl_OpOk_sg N).rs) ((), (false, ()))))
                      else
                      (bif o1.1 == (12 : Int) then
                        ((T_impl_isKey N o1.2.1).bind fun o14 =>
                          (bif o14.2.1 then
                            ((T_impl_isReg N o1.2.2.1).bind fun o15 =>
                              (bif o15.2.1 then
                                ((T_impl_isReg N o1.2.2.2).bind fun o16 =>
                                  (some (α := ODen (T_impl_OpOk_sg N).ps × RDen (T_impl_OpOk_sg N).rs) ((), (o16.2.1, ()))))
                                else
                                (some (α := ODen (T_impl_OpOk_sg N).ps × RDen (T_impl_OpOk_sg N).rs) ((), (false, ())))))
                            else
                            (some (α := ODen (T_impl_OpOk_sg N).ps × RDen (T_impl_OpOk_sg N).rs) ((), (false, ())))))
                        else
                        (bif o1.1 == (13 : Int) then
                          ((T_impl_isReg N o1.2.1).bind fun o17 =>
                            (bif o17.2.1 then
                              ((T_impl_isKey N o1.2.2.1).bind fun o18 =>
                                (bif o18.2.1 then
                                  (some (α := ODen (T_impl_OpOk_sg N).ps × RDen (T_impl_OpOk_sg N).rs) ((), (o1.2.2.2 == (0 : Int), ())))
                                  else
                                  (some (α := ODen (T_impl_OpOk_sg N).ps × RDen (T_impl_OpOk_sg N).rs) ((), (false, ())))))
                              else
                              (some (α := ODen (T_impl_OpOk_sg N).ps × RDen (T_impl_OpOk_sg N).rs) ((), (false, ())))))
                          else
                          (bif o1.1 == (14 : Int) then
                            ((T_impl_isKey N o1.2.1).bind fun o19 =>
                              (bif o19.2.1 then
                                ((T_impl_isReg N o1.2.2.1).bind fun o20 =>
                                  (bif o20.2.1 then
                                    (some (α := ODen (T_impl_OpOk_sg N).ps × RDen (T_impl_OpOk_sg N).rs) ((), (o1.2.2.2 == (0 : Int), ())))
                                    else
                                    (some (α := ODen (T_impl_OpOk_sg N).ps × RDen (T_impl_OpOk_sg N).rs) ((), (false, ())))))
                                else
                                (some (α := ODen (T_impl_OpOk_sg N).ps × RDen (T_impl_OpOk_sg N).rs) ((), (false, ())))))
                            else
                            (some (α := ODen (T_impl_OpOk_sg N).ps × RDen (T_impl_OpOk_sg N).rs) ((), (false, ())))))))
                    else
                    (bif o1.1 == (10 : Int) then
                      (bif o1.1 == (10 : Int) then
                        (bif o1.2.1 == (0 : Int) then
                          (bif o1.2.2.1 == (0 : Int) then
                            (some (α := ODen (T_impl_OpOk_sg N).ps × RDen (T_impl_OpOk_sg N).rs) ((), (o1.2.2.2 == (0 : Int), ())))
                            else
                            (some (α := ODen (T_impl_OpOk_sg N).ps × RDen (T_impl_OpOk_sg N).rs) ((), (false, ()))))
                          else
                          (some (α := ODen (T_impl_OpOk_sg N).ps × RDen (T_impl_OpOk_sg N).rs) ((), (false, ()))))
                        else
                        (bif o1.1 == (12 : Int) then
                          ((T_impl_isKey N o1.2.1).bind fun o21 =>
                            (bif o21.2.1 then
                              ((T_impl_isReg N o1.2.2.1).bind fun o22 =>
                                (bif o22.2.1 then
                                  ((T_impl_isReg N o1.2.2.2).bind fun o23 =>
                                    (some (α := ODen (T_impl_OpOk_sg N).ps × RDen (T_impl_OpOk_sg N).rs) ((), (o23.2.1, ()))))
                                  else
                                  (some (α := ODen (T_impl_OpOk_sg N).ps × RDen (T_impl_OpOk_sg N).rs) ((), (false, ())))))
                              else
                              (some (α := ODen (T_impl_OpOk_sg N).ps × RDen (T_impl_OpOk_sg N).rs) ((), (false, ())))))
                          else
                          (bif o1.1 == (13 : Int) then
                            ((T_impl_isReg N o1.2.1).bind fun o24 =>
                              (bif o24.2.1 then
                                ((T_impl_isKey N o1.2.2.1).bind fun o25 =>
                                  (bif o25.2.1 then
                                    (some (α := ODen (T_impl_OpOk_sg N).ps × RDen (T_impl_OpOk_sg N).rs) ((), (o1.2.2.2 == (0 : Int), ())))
                                    else
                                    (some (α := ODen (T_impl_OpOk_sg N).ps × RDen (T_impl_OpOk_sg N).rs) ((), (false, ())))))
                                else
                                (some (α := ODen (T_impl_OpOk_sg N).ps × RDen (T_impl_OpOk_sg N).rs) ((), (false, ())))))
                            else
                            (bif o1.1 == (14 : Int) then
                              ((T_impl_isKey N o1.2.1).bind fun o26 =>
                                (bif o26.2.1 then
                                  ((T_impl_isReg N o1.2.2.1).bind fun o27 =>
                                    (bif o27.2.1 then
                                      (some (α := ODen (T_impl_OpOk_sg N).ps × RDen (T_impl_OpOk_sg N).rs) ((), (o1.2.2.2 == (0 : Int), ())))
                                      else
                                      (some (α := ODen (T_impl_OpOk_sg N).ps × RDen (T_impl_OpOk_sg N).rs) ((), (false, ())))))
                                  else
                                  (some (α := ODen (T_impl_OpOk_sg N).ps × RDen (T_impl_OpOk_sg N).rs) ((), (false, ())))))
                              else
                              (some (α := ODen (T_impl_OpOk_sg N).ps × RDen (T_impl_OpOk_sg N).rs) ((), (false, ())))))))
                      else
                      (bif o1.1 == (11 : Int) then
                        (bif o1.2.1 == (0 : Int) then
                          (bif o1.2.2.1 == (0 : Int) then
                            (some (α := ODen (T_impl_OpOk_sg N).ps × RDen (T_impl_OpOk_sg N).rs) ((), (o1.2.2.2 == (0 : Int), ())))
                            else
                            (some (α := ODen (T_impl_OpOk_sg N).ps × RDen (T_impl_OpOk_sg N).rs) ((), (false, ()))))
                          else
                          (some (α := ODen (T_impl_OpOk_sg N).ps × RDen (T_impl_OpOk_sg N).rs) ((), (false, ()))))
                        else
                        (bif o1.1 == (12 : Int) then
                          ((T_impl_isKey N o1.2.1).bind fun o28 =>
                            (bif o28.2.1 then
                              ((T_impl_isReg N o1.2.2.1).bind fun o29 =>
                                (bif o29.2.1 then
                                  ((T_impl_isReg N o1.2.2.2).bind fun o30 =>
                                    (some (α := ODen (T_impl_OpOk_sg N).ps × RDen (T_impl_OpOk_sg N).rs) ((), (o30.2.1, ()))))
                                  else
                                  (some (α := ODen (T_impl_OpOk_sg N).ps × RDen (T_impl_OpOk_sg N).rs) ((), (false, ())))))
                              else
                              (some (α := ODen (T_impl_OpOk_sg N).ps × RDen (T_impl_OpOk_sg N).rs) ((), (false, ())))))
                          else
                          (bif o1.1 == (13 : Int) then
                            ((T_impl_isReg N o1.2.1).bind fun o31 =>
                              (bif o31.2.1 then
                                ((T_impl_isKey N o1.2.2.1).bind fun o32 =>
                                  (bif o32.2.1 then
                                    (some (α := ODen (T_impl_OpOk_sg N).ps × RDen (T_impl_OpOk_sg N).rs) ((), (o1.2.2.2 == (0 : Int), ())))
                                    else
                                    (some (α := ODen (T_impl_OpOk_sg N).ps × RDen (T_impl_OpOk_sg N).rs) ((), (false, ())))))
                                else
                                (some (α := ODen (T_impl_OpOk_sg N).ps × RDen (T_impl_OpOk_sg N).rs) ((), (false, ())))))
                            else
                            (bif o1.1 == (14 : Int) then
                              ((T_impl_isKey N o1.2.1).bind fun o33 =>
                                (bif o33.2.1 then
                                  ((T_impl_isReg N o1.2.2.1).bind fun o34 =>
                                    (bif o34.2.1 then
                                      (some (α := ODen (T_impl_OpOk_sg N).ps × RDen (T_impl_OpOk_sg N).rs) ((), (o1.2.2.2 == (0 : Int), ())))
                                      else
                                      (some (α := ODen (T_impl_OpOk_sg N).ps × RDen (T_impl_OpOk_sg N).rs) ((), (false, ())))))
                                  else
                                  (some (α := ODen (T_impl_OpOk_sg N).ps × RDen (T_impl_OpOk_sg N).rs) ((), (false, ())))))
                              else
                              (some (α := ODen (T_impl_OpOk_sg N).ps × RDen (T_impl_OpOk_sg N).rs) ((), (false, ()))))))))))
                else
                (bif o1.1 == (15 : Int) then
                  (bif o1.1 == (15 : Int) then
                    ((T_impl_isReg N o1.2.1).bind fun o35 =>
                      (bif o35.2.1 then
                        (bif o1.2.2.1 == (0 : Int) then
                          (some (α := ODen (T_impl_OpOk_sg N).ps × RDen (T_impl_OpOk_sg N).rs) ((), (o1.2.2.2 == (0 : Int), ())))
                          else
                          (some (α := ODen (T_impl_OpOk_sg N).ps × RDen (T_impl_OpOk_sg N).rs) ((), (false, ()))))
                        else
                        (some (α := ODen (T_impl_OpOk_sg N).ps × RDen (T_impl_OpOk_sg N).rs) ((), (false, ())))))
                    else
                    (bif o1.1 == (9 : Int) then
                      (bif o1.1 == (9 : Int) then
                        (bif o1.2.1 == (0 : Int) then
                          (bif o1.2.2.1 == (0 : Int) then
                            (some (α := ODen (T_impl_OpOk_sg N).ps × RDen (T_impl_OpOk_sg N).rs) ((), (o1.2.2.2 == (0 : Int), ())))
                            else
                            (some (α := ODen (T_impl_OpOk_sg N).ps × RDen (T_impl_OpOk_sg N).rs) ((), (false, ()))))
                          else
                          (some (α := ODen (T_impl_OpOk_sg N).ps × RDen (T_impl_OpOk_sg N).rs) ((), (false, ()))))
                        else
                        (bif o1.1 == (12 : Int) then
                          ((T_impl_isKey N o1.2.1).bind fun o36 =>
                            (bif o36.2.1 then
                              ((T_impl_isReg N o1.2.2.1).bind fun o37 =>
                                (bif o37.2.1 then
                                  ((T_impl_isReg N o1.2.2.2).bind fun o38 =>
                                    (some (α := ODen (T_impl_OpOk_sg N).ps × RDen (T_impl_OpOk_sg N).rs) ((), (o38.2.1, ()))))
                                  else
                                  (some (α := ODen (T_impl_OpOk_sg N).ps × RDen (T_impl_OpOk_sg N).rs) ((), (false, ())))))
                              else
                              (some (α := ODen (T_impl_OpOk_sg N).ps × RDen (T_impl_OpOk_sg N).rs) ((), (false, ())))))
                          else
                          (bif o1.1 == (13 : Int) then
                            ((T_impl_isReg N o1.2.1).bind fun o39 =>
                              (bif o39.2.1 then
                                ((T_impl_isKey N o1.2.2.1).bind fun o40 =>
                                  (bif o40.2.1 then
                                    (some (α := ODen (T_impl_OpOk_sg N).ps × RDen (T_impl_OpOk_sg N).rs) ((), (o1.2.2.2 == (0 : Int), ())))
                                    else
                                    (some (α := ODen (T_impl_OpOk_sg N).ps × RDen (T_impl_OpOk_sg N).rs) ((), (false, ())))))
                                else
                                (some (α := ODen (T_impl_OpOk_sg N).ps × RDen (T_impl_OpOk_sg N).rs) ((), (false, ())))))
                            else
                            (bif o1.1 == (14 : Int) then
                              ((T_impl_isKey N o1.2.1).bind fun o41 =>
                                (bif o41.2.1 then
                                  ((T_impl_isReg N o1.2.2.1).bind fun o42 =>
                                    (bif o42.2.1 then
                                      (some (α := ODen (T_impl_OpOk_sg N).ps × RDen (T_impl_OpOk_sg N).rs) ((), (o1.2.2.2 == (0 : Int), ())))
                                      else
                                      (some (α := ODen (T_impl_OpOk_sg N).ps × RDen (T_impl_OpOk_sg N).rs) ((), (false, ())))))
                                  else
                                  (some (α := ODen (T_impl_OpOk_sg N).ps × RDen (T_impl_OpOk_sg N).rs) ((), (false, ())))))
                              else
                              (some (α := ODen (T_impl_OpOk_sg N).ps × RDen (T_impl_OpOk_sg N).rs) ((), (false, ())))))))
                      else
                      (bif o1.1 == (10 : Int) then
                        (bif o1.1 == (10 : Int) then
                          (bif o1.2.1 == (0 : Int) then
                            (bif o1.2.2.1 == (0 : Int) then
                              (some (α := ODen (T_impl_OpOk_sg N).ps × RDen (T_impl_OpOk_sg N).rs) ((), (o1.2.2.2 == (0 : Int), ())))
                              else
                              (some (α := ODen (T_impl_OpOk_sg N).ps × RDen (T_impl_OpOk_sg N).rs) ((), (false, ()))))
                            else
                            (some (α := ODen (T_impl_OpOk_sg N).ps × RDen (T_impl_OpOk_sg N).rs) ((), (false, ()))))
                          else
                          (bif o1.1 == (12 : Int) then
                            ((T_impl_isKey N o1.2.1).bind fun o43 =>
                              (bif o43.2.1 then
                                ((T_impl_isReg N o1.2.2.1).bind fun o44 =>
                                  (bif o44.2.1 then
                                    ((T_impl_isReg N o1.2.2.2).bind fun o45 =>
                                      (some (α := ODen (T_impl_OpOk_sg N).ps × RDen (T_impl_OpOk_sg N).rs) ((), (o45.2.1, ()))))
                                    else
                                    (some (α := ODen (T_impl_OpOk_sg N).ps × RDen (T_impl_OpOk_sg N).rs) ((), (false, ())))))
                                else
                                (some (α := ODen (T_impl_OpOk_sg N).ps × RDen (T_impl_OpOk_sg N).rs) ((), (false, ())))))
                            else
                            (bif o1.1 == (13 : Int) then
                              ((T_impl_isReg N o1.2.1).bind fun o46 =>
                                (bif o46.2.1 then
                                  ((T_impl_isKey N o1.2.2.1).bind fun o47 =>
                                    (bif o47.2.1 then
                                      (some (α := ODen (T_impl_OpOk_sg N).ps × RDen (T_impl_OpOk_sg N).rs) ((), (o1.2.2.2 == (0 : Int), ())))
                                      else
                                      (some (α := ODen (T_impl_OpOk_sg N).ps × RDen (T_impl_OpOk_sg N).rs) ((), (false, ())))))
                                  else
                                  (some (α := ODen (T_impl_OpOk_sg N).ps × RDen (T_impl_OpOk_sg N).rs) ((), (false, ())))))
                              else
                              (bif o1.1 == (14 : Int) then
                                ((T_impl_isKey N o1.2.1).bind fun o48 =>
                                  (bif o48.2.1 then
                                    ((T_impl_isReg N o1.2.2.1).bind fun o49 =>
                                      (bif o49.2.1 then
                                        (some (α := ODen (T_impl_OpOk_sg N).ps × RDen (T_impl_OpOk_sg N).rs) ((), (o1.2.2.2 == (0 : Int), ())))
                                        else
                                        (some (α := ODen (T_impl_OpOk_sg N).ps × RDen (T_impl_OpOk_sg N).rs) ((), (false, ())))))
                                    else
                                    (some (α := ODen (T_impl_OpOk_sg N).ps × RDen (T_impl_OpOk_sg N).rs) ((), (false, ())))))
                                else
                                (some (α := ODen (T_impl_OpOk_sg N).ps × RDen (T_impl_OpOk_sg N).rs) ((), (false, ())))))))
                        else
                        (bif o1.1 == (11 : Int) then
                          (bif o1.2.1 == (0 : Int) then
                            (bif o1.2.2.1 == (0 : Int) then
                              (some (α := ODen (T_impl_OpOk_sg N).ps × RDen (T_impl_OpOk_sg N).rs) ((), (o1.2.2.2 == (0 : Int), ())))
                              else
                              (some (α := ODen (T_impl_OpOk_sg N).ps × RDen (T_impl_OpOk_sg N).rs) ((), (false, ()))))
                            else
                            (some (α := ODen (T_impl_OpOk_sg N).ps × RDen (T_impl_OpOk_sg N).rs) ((), (false, ()))))
                          else
                          (bif o1.1 == (12 : Int) then
                            ((T_impl_isKey N o1.2.1).bind fun o50 =>
                              (bif o50.2.1 then
                                ((T_impl_isReg N o1.2.2.1).bind fun o51 =>
                                  (bif o51.2.1 then
                                    ((T_impl_isReg N o1.2.2.2).bind fun o52 =>
                                      (some (α := ODen (T_impl_OpOk_sg N).ps × RDen (T_impl_OpOk_sg N).rs) ((), (o52.2.1, ()))))
                                    else
                                    (some (α := ODen (T_impl_OpOk_sg N).ps × RDen (T_impl_OpOk_sg N).rs) ((), (false, ())))))
                                else
                                (some (α := ODen (T_impl_OpOk_sg N).ps × RDen (T_impl_OpOk_sg N).rs) ((), (false, ())))))
                            else
                            (bif o1.1 == (13 : Int) then
                              ((T_impl_isReg N o1.2.1).bind fun o53 =>
                                (bif o53.2.1 then
                                  ((T_impl_isKey N o1.2.2.1).bind fun o54 =>
                                    (bif o54.2.1 then
                                      (some (α := ODen (T_impl_OpOk_sg N).ps × RDen (T_impl_OpOk_sg N).rs) ((), (o1.2.2.2 == (0 : Int), ())))
                                      else
                                      (some (α := ODen (T_impl_OpOk_sg N).ps × RDen (T_impl_OpOk_sg N).rs) ((), (false, ())))))
                                  else
                                  (some (α := ODen (T_impl_OpOk_sg N).ps × RDen (T_impl_OpOk_sg N).rs) ((), (false, ())))))
                              else
                              (bif o1.1 == (14 : Int) then
                                ((T_impl_isKey N o1.2.1).bind fun o55 =>
                                  (bif o55.2.1 then
                                    ((T_impl_isReg N o1.2.2.1).bind fun o56 =>
                                      (bif o56.2.1 then
                                        (some (α := ODen (T_impl_OpOk_sg N).ps × RDen (T_impl_OpOk_sg N).rs) ((), (o1.2.2.2 == (0 : Int), ())))
                                        else
                                        (some (α := ODen (T_impl_OpOk_sg N).ps × RDen (T_impl_OpOk_sg N).rs) ((), (false, ())))))
                                    else
                                    (some (α := ODen (T_impl_OpOk_sg N).ps × RDen (T_impl_OpOk_sg N).rs) ((), (false, ())))))
                                else
                                (some (α := ODen (T_impl_OpOk_sg N).ps × RDen (T_impl_OpOk_sg N).rs) ((), (false, ()))))))))))
                  else
                  (bif o1.1 == (16 : Int) then
                    ((T_impl_isReg N o1.2.1).bind fun o57 =>
                      (bif o57.2.1 then
                        (bif o1.2.2.1 == (0 : Int) then
                          (some (α := ODen (T_impl_OpOk_sg N).ps × RDen (T_impl_OpOk_sg N).rs) ((), (o1.2.2.2 == (0 : Int), ())))
                          else
                          (some (α := ODen (T_impl_OpOk_sg N).ps × RDen (T_impl_OpOk_sg N).rs) ((), (false, ()))))
                        else
                        (some (α := ODen (T_impl_OpOk_sg N).ps × RDen (T_impl_OpOk_sg N).rs) ((), (false, ())))))
                    else
                    (bif o1.1 == (9 : Int) then
                      (bif o1.1 == (9 : Int) then
                        (bif o1.2.1 == (0 : Int) then
                          (bif o1.2.2.1 == (0 : Int) then
                            (some (α := ODen (T_impl_OpOk_sg N).ps × RDen (T_impl_OpOk_sg N).rs) ((), (o1.2.2.2 == (0 : Int), ())))
                            else
                            (some (α := ODen (T_impl_OpOk_sg N).ps × RDen (T_impl_OpOk_sg N).rs) ((), (false, ()))))
                          else
                          (some (α := ODen (T_impl_OpOk_sg N).ps × RDen (T_impl_OpOk_sg N).rs) ((), (false, ()))))
                        else
                        (bif o1.1 == (12 : Int) then
                          ((T_impl_isKey N o1.2.1).bind fun o58 =>
                            (bif o58.2.1 then
                              ((T_impl_isReg N o1.2.2.1).bind fun o59 =>
                                (bif o59.2.1 then
                                  ((T_impl_isReg N o1.2.2.2).bind fun o60 =>
                                    (some (α := ODen (T_impl_OpOk_sg N).ps × RDen (T_impl_OpOk_sg N).rs) ((), (o60.2.1, ()))))
                                  else
                                  (some (α := ODen (T_impl_OpOk_sg N).ps × RDen (T_impl_OpOk_sg N).rs) ((), (false, ())))))
                              else
                              (some (α := ODen (T_impl_OpOk_sg N).ps × RDen (T_impl_OpOk_sg N).rs) ((), (false, ())))))
                          else
                          (bif o1.1 == (13 : Int) then
                            ((T_impl_isReg N o1.2.1).bind fun o61 =>
                              (bif o61.2.1 then
                                ((T_impl_isKey N o1.2.2.1).bind fun o62 =>
                                  (bif o62.2.1 then
                                    (some (α := ODen (T_impl_OpOk_sg N).ps × RDen (T_impl_OpOk_sg N).rs) ((), (o1.2.2.2 == (0 : Int), ())))
                                    else
                                    (some (α := ODen (T_impl_OpOk_sg N).ps × RDen (T_impl_OpOk_sg N).rs) ((), (false, ())))))
                                else
                                (some (α := ODen (T_impl_OpOk_sg N).ps × RDen (T_impl_OpOk_sg N).rs) ((), (false, ())))))
                            else
                            (bif o1.1 == (14 : Int) then
                              ((T_impl_isKey N o1.2.1).bind fun o63 =>
                                (bif o63.2.1 then
                                  ((T_impl_isReg N o1.2.2.1).bind fun o64 =>
                                    (bif o64.2.1 then
                                      (some (α := ODen (T_impl_OpOk_sg N).ps × RDen (T_impl_OpOk_sg N).rs) ((), (o1.2.2.2 == (0 : Int), ())))
                                      else
                                      (some (α := ODen (T_impl_OpOk_sg N).ps × RDen (T_impl_OpOk_sg N).rs) ((), (false, ())))))
                                  else
                                  (some (α := ODen (T_impl_OpOk_sg N).ps × RDen (T_impl_OpOk_sg N).rs) ((), (false, ())))))
                              else
                              (some (α := ODen (T_impl_OpOk_sg N).ps × RDen (T_impl_OpOk_sg N).rs) ((), (false, ())))))))
                      else
                      (bif o1.1 == (10 : Int) then
                        (bif o1.1 == (10 : Int) then
                          (bif o1.2.1 == (0 : Int) then
                            (bif o1.2.2.1 == (0 : Int) then
                              (some (α := ODen (T_impl_OpOk_sg N).ps × RDen (T_impl_OpOk_sg N).rs) ((), (o1.2.2.2 == (0 : Int), ())))
                              else
                              (some (α := ODen (T_impl_OpOk_sg N).ps × RDen (T_impl_OpOk_sg N).rs) ((), (false, ()))))
                            else
                            (some (α := ODen (T_impl_OpOk_sg N).ps × RDen (T_impl_OpOk_sg N).rs) ((), (false, ()))))
                          else
                          (bif o1.1 == (12 : Int) then
                            ((T_impl_isKey N o1.2.1).bind fun o65 =>
                              (bif o65.2.1 then
                                ((T_impl_isReg N o1.2.2.1).bind fun o66 =>
                                  (bif o66.2.1 then
                                    ((T_impl_isReg N o1.2.2.2).bind fun o67 =>
                                      (some (α := ODen (T_impl_OpOk_sg N).ps × RDen (T_impl_OpOk_sg N).rs) ((), (o67.2.1, ()))))
                                    else
                                    (some (α := ODen (T_impl_OpOk_sg N).ps × RDen (T_impl_OpOk_sg N).rs) ((), (false, ())))))
                                else
                                (some (α := ODen (T_impl_OpOk_sg N).ps × RDen (T_impl_OpOk_sg N).rs) ((), (false, ())))))
                            else
                            (bif o1.1 == (13 : Int) then
                              ((T_impl_isReg N o1.2.1).bind fun o68 =>
                                (bif o68.2.1 then
                                  ((T_impl_isKey N o1.2.2.1).bind fun o69 =>
                                    (bif o69.2.1 then
                                      (some (α := ODen (T_impl_OpOk_sg N).ps × RDen (T_impl_OpOk_sg N).rs) ((), (o1.2.2.2 == (0 : Int), ())))
                                      else
                                      (some (α := ODen (T_impl_OpOk_sg N).ps × RDen (T_impl_OpOk_sg N).rs) ((), (false, ())))))
                                  else
                                  (some (α := ODen (T_impl_OpOk_sg N).ps × RDen (T_impl_OpOk_sg N).rs) ((), (false, ())))))
                              else
                              (bif o1.1 == (14 : Int) then
                                ((T_impl_isKey N o1.2.1).bind fun o70 =>
                                  (bif o70.2.1 then
                                    ((T_impl_isReg N o1.2.2.1).bind fun o71 =>
                                      (bif o71.2.1 then
                                        (some (α := ODen (T_impl_OpOk_sg N).ps × RDen (T_impl_OpOk_sg N).rs) ((), (o1.2.2.2 == (0 : Int), ())))
                                        else
                                        (some (α := ODen (T_impl_OpOk_sg N).ps × RDen (T_impl_OpOk_sg N).rs) ((), (false, ())))))
                                    else
                                    (some (α := ODen (T_impl_OpOk_sg N).ps × RDen (T_impl_OpOk_sg N).rs) ((), (false, ())))))
                                else
                                (some (α := ODen (T_impl_OpOk_sg N).ps × RDen (T_impl_OpOk_sg N).rs) ((), (false, ())))))))
                        else
                        (bif o1.1 == (11 : Int) then
                          (bif o1.2.1 == (0 : Int) then
                            (bif o1.2.2.1 == (0 : Int) then
                              (some (α := ODen (T_impl_OpOk_sg N).ps × RDen (T_impl_OpOk_sg N).rs) ((), (o1.2.2.2 == (0 : Int), ())))
                              else
                              (some (α := ODen (T_impl_OpOk_sg N).ps × RDen (T_impl_OpOk_sg N).rs) ((), (false, ()))))
                            else
                            (some (α := ODen (T_impl_OpOk_sg N).ps × RDen (T_impl_OpOk_sg N).rs) ((), (false, ()))))
                          else
                          (bif o1.1 == (12 : Int) then
                            ((T_impl_isKey N o1.2.1).bind fun o72 =>
                              (bif o72.2.1 then
                                ((T_impl_isReg N o1.2.2.1).bind fun o73 =>
                                  (bif o73.2.1 then
                                    ((T_impl_isReg N o1.2.2.2).bind fun o74 =>
                                      (some (α := ODen (T_impl_OpOk_sg N).ps × RDen (T_impl_OpOk_sg N).rs) ((), (o74.2.1, ()))))
                                    else
                                    (some (α := ODen (T_impl_OpOk_sg N).ps × RDen (T_impl_OpOk_sg N).rs) ((), (false, ())))))
                                else
                                (some (α := ODen (T_impl_OpOk_sg N).ps × RDen (T_impl_OpOk_sg N).rs) ((), (false, ())))))
                            else
                            (bif o1.1 == (13 : Int) then
                              ((T_impl_isReg N o1.2.1).bind fun o75 =>
                                (bif o75.2.1 then
                                  ((T_impl_isKey N o1.2.2.1).bind fun o76 =>
                                    (bif o76.2.1 then
                                      (some (α := ODen (T_impl_OpOk_sg N).ps × RDen (T_impl_OpOk_sg N).rs) ((), (o1.2.2.2 == (0 : Int), ())))
                                      else
                                      (some (α := ODen (T_impl_OpOk_sg N).ps × RDen (T_impl_OpOk_sg N).rs) ((), (false, ())))))
                                  else
                                  (some (α := ODen (T_impl_OpOk_sg N).ps × RDen (T_impl_OpOk_sg N).rs) ((), (false, ())))))
                              else
                              (bif o1.1 == (14 : Int) then
                                ((T_impl_isKey N o1.2.1).bind fun o77 =>
                                  (bif o77.2.1 then
                                    ((T_impl_isReg N o1.2.2.1).bind fun o78 =>
                                      (bif o78.2.1 then
                                        (some (α := ODen (T_impl_OpOk_sg N).ps × RDen (T_impl_OpOk_sg N).rs) ((), (o1.2.2.2 == (0 : Int), ())))
                                        else
                                        (some (α := ODen (T_impl_OpOk_sg N).ps × RDen (T_impl_OpOk_sg N).rs) ((), (false, ())))))
                                    else
                                    (some (α := ODen (T_impl_OpOk_sg N).ps × RDen (T_impl_OpOk_sg N).rs) ((), (false, ())))))
                                else
                                (some (α := ODen (T_impl_OpOk_sg N).ps × RDen (T_impl_OpOk_sg N).rs) ((), (false, ()))))))))))))))))
      else
      (bif o1.1 == (3 : Int) then
        (bif o1.1 == (3 : Int) then
          ((T_impl_isReg N o1.2.1).bind fun o79 =>
            (bif o79.2.1 then
              ((T_impl_isReg N o1.2.2.1).bind fun o80 =>
                (bif o80.2.1 then
                  ((T_impl_isReg N o1.2.2.2).bind fun o81 =>
                    (some (α := ODen (T_impl_OpOk_sg N).ps × RDen (T_impl_OpOk_sg N).rs) ((), (o81.2.1, ()))))
                  else
                  (some (α := ODen (T_impl_OpOk_sg N).ps × RDen (T_impl_OpOk_sg N).rs) ((), (false, ())))))
              else
              (some (α := ODen (T_impl_OpOk_sg N).ps × RDen (T_impl_OpOk_sg N).rs) ((), (false, ())))))
          else
          (bif o1.1 == (5 : Int) then
            ((T_impl_isReg N o1.2.1).bind fun o82 =>
              (bif o82.2.1 then
                ((T_impl_isCell N o1.2.2.1).bind fun o83 =>
                  (bif o83.2.1 then
                    (some (α := ODen (T_impl_OpOk_sg N).ps × RDen (T_impl_OpOk_sg N).rs) ((), (o1.2.2.2 == (0 : Int), ())))
                    else
                    (some (α := ODen (T_impl_OpOk_sg N).ps × RDen (T_impl_OpOk_sg N).rs) ((), (false, ())))))
                else
                (some (α := ODen (T_impl_OpOk_sg N).ps × RDen (T_impl_OpOk_sg N).rs) ((), (false, ())))))
            else
            (bif o1.1 == (6 : Int) then
              ((T_impl_isCell N o1.2.1).bind fun o84 =>
                (bif o84.2.1 then
                  ((T_impl_isReg N o1.2.2.1).bind fun o85 =>
                    (bif o85.2.1 then
                      (some (α := ODen (T_impl_OpOk_sg N).ps × RDen (T_impl_OpOk_sg N).rs) ((), (o1.2.2.2 == (0 : Int), ())))
                      else
                      (some (α := ODen (T_impl_OpOk_sg N).ps × RDen (T_impl_OpOk_sg N).rs) ((), (false, ())))))
                  else
                  (some (α := ODen (T_impl_OpOk_sg N).ps × RDen (T_impl_OpOk_sg N).rs) ((), (false, ())))))
              else
              (bif o1.1 == (7 : Int) then
                ((T_impl_isReg N o1.2.1).bind fun o86 =>
                  (bif o86.2.1 then
                    ((T_impl_within N o1.2.2.1 (1 : Int) (20 : Int)).bind fun o87 =>
                      (bif o87.2.1 then
                        (some (α := ODen (T_impl_OpOk_sg N).ps × RDen (T_impl_OpOk_sg N).rs) ((), (o1.2.2.2 == (0 : Int), ())))
                        else
                        (some (α := ODen (T_impl_OpOk_sg N).ps × RDen (T_impl_OpOk_sg N).rs) ((), (false, ())))))
                    else
                    (some (α := ODen (T_impl_OpOk_sg N).ps × RDen (T_impl_OpOk_sg N).rs) ((), (false, ())))))
                else
                (bif o1.1 == (8 : Int) then
                  (bif o1.1 == (8 : Int) then
                    ((T_impl_isReg N o1.2.1).bind fun o88 =>
                      (bif o88.2.1 then
                        (bif o1.2.2.1 == (0 : Int) then
                          (some (α := ODen (T_impl_OpOk_sg N).ps × RDen (T_impl_OpOk_sg N).rs) ((), (o1.2.2.2 == (0 : Int), ())))
                          else
                          (some (α := ODen (T_impl_OpOk_sg N).ps × RDen (T_impl_OpOk_sg N).rs) ((), (false, ()))))
                        else
                        (some (α := ODen (T_impl_OpOk_sg N).ps × RDen (T_impl_OpOk_sg N).rs) ((), (false, ())))))
                    else
                    (bif o1.1 == (9 : Int) then
                      (bif o1.1 == (9 : Int) then
                        (bif o1.2.1 == (0 : Int) then
                          (bif o1.2.2.1 == (0 : Int) then
                            (some (α := ODen (T_impl_OpOk_sg N).ps × RDen (T_impl_OpOk_sg N).rs) ((), (o1.2.2.2 == (0 : Int), ())))
                            else
                            (some (α := ODen (T_impl_OpOk_sg N).ps × RDen (T_impl_OpOk_sg N).rs) ((), (false, ()))))
                          else
                          (some (α := ODen (T_impl_OpOk_sg N).ps × RDen (T_impl_OpOk_sg N).rs) ((), (false, ()))))
                        else
                        (bif o1.1 == (12 : Int) then
                          ((T_impl_isKey N o1.2.1).bind fun o89 =>
                            (bif o89.2.1 then
                              ((T_impl_isReg N o1.2.2.1).bind fun o90 =>
                                (bif o90.2.1 then
                                  ((T_impl_isReg N o1.2.2.2).bind fun o91 =>
                                    (some (α := ODen (T_impl_OpOk_sg N).ps × RDen (T_impl_OpOk_sg N).rs) ((), (o91.2.1, ()))))
                                  else
                                  (some (α := ODen (T_impl_OpOk_sg N).ps × RDen (T_impl_OpOk_sg N).rs) ((), (false, ())))))
                              else
                              (some (α := ODen (T_impl_OpOk_sg N).ps × RDen (T_impl_OpOk_sg N).rs) ((), (false, ())))))
                          else
                          (bif o1.1 == (13 : Int) then
                            ((T_impl_isReg N o1.2.1).bind fun o92 =>
                              (bif o92.2.1 then
                                ((T_impl_isKey N o1.2.2.1).bind fun o93 =>
                                  (bif o93.2.1 then
                                    (some (α := ODen (T_impl_OpOk_sg N).ps × RDen (T_impl_OpOk_sg N).rs) ((), (o1.2.2.2 == (0 : Int), ())))
                                    else
                                    (some (α := ODen (T_impl_OpOk_sg N).ps × RDen (T_impl_OpOk_sg N).rs) ((), (false, ())))))
                                else
                                (some (α := ODen (T_impl_OpOk_sg N).ps × RDen (T_impl_OpOk_sg N).rs) ((), (false, ())))))
                            else
                            (bif o1.1 == (14 : Int) then
                              ((T_impl_isKey N o1.2.1).bind fun o94 =>
                                (bif o94.2.1 then
                                  ((T_impl_isReg N o1.2.2.1).bind fun o95 =>
                                    (bif o95.2.1 then
                                      (some (α := ODen (T_impl_OpOk_sg N).ps × RDen (T_impl_OpOk_sg N).rs) ((), (o1.2.2.2 == (0 : Int), ())))
                                      else
                                      (some (α := ODen (T_impl_OpOk_sg N).ps × RDen (T_impl_OpOk_sg N).rs) ((), (false, ())))))
                                  else
                                  (some (α := ODen (T_impl_OpOk_sg N).ps × RDen (T_impl_OpOk_sg N).rs) ((), (false, ())))))
                              else
                              (some (α := ODen (T_impl_OpOk_sg N).ps × RDen (T_impl_OpOk_sg N).rs) ((), (false, ())))))))
                      else
                      (bif o1.1 == (10 : Int) then
                        (bif o1.1 == (10 : Int) then
                          (bif o1.2.1 == (0 : Int) then
                            (bif o1.2.2.1 == (0 : Int) then
                              (some (α := ODen (T_impl_OpOk_sg N).ps × RDen (T_impl_OpOk_sg N).rs) ((), (o1.2.2.2 == (0 : Int), ())))
                              else
                              (some (α := ODen (T_impl_OpOk_sg N).ps × RDen (T_impl_OpOk_sg N).rs) ((), (false, ()))))
                            else
                            (some (α := ODen (T_impl_OpOk_sg N).ps × RDen (T_impl_OpOk_sg N).rs) ((), (false, ()))))
                          else
                          (bif o1.1 == (12 : Int) then
                            ((T_impl_isKey N o1.2.1).bind fun o96 =>
                              (bif o96.2.1 then
                                ((T_impl_isReg N o1.2.2.1).bind fun o97 =>
                                  (bif o97.2.1 then
                                    ((T_impl_isReg N o1.2.2.2).bind fun o98 =>
                                      (some (α := ODen (T_impl_OpOk_sg N).ps × RDen (T_impl_OpOk_sg N).rs) ((), (o98.2.1, ()))))
                                    else
                                    (some (α := ODen (T_impl_OpOk_sg N).ps × RDen (T_impl_OpOk_sg N).rs) ((), (false, ())))))
                                else
                                (some (α := ODen (T_impl_OpOk_sg N).ps × RDen (T_impl_OpOk_sg N).rs) ((), (false, ())))))
                            else
                            (bif o1.1 == (13 : Int) then
                              ((T_impl_isReg N o1.2.1).bind fun o99 =>
                                (bif o99.2.1 then
                                  ((T_impl_isKey N o1.2.2.1).bind fun o100 =>
                                    (bif o100.2.1 then
                                      (some (α := ODen (T_impl_OpOk_sg N).ps × RDen (T_impl_OpOk_sg N).rs) ((), (o1.2.2.2 == (0 : Int), ())))
                                      else
                                      (some (α := ODen (T_impl_OpOk_sg N).ps × RDen (T_impl_OpOk_sg N).rs) ((), (false, ())))))
                                  else
                                  (some (α := ODen (T_impl_OpOk_sg N).ps × RDen (T_impl_OpOk_sg N).rs) ((), (false, ())))))
                              else
                              (bif o1.1 == (14 : Int) then
                                ((T_impl_isKey N o1.2.1).bind fun o101 =>
                                  (bif o101.2.1 then
                                    ((T_impl_isReg N o1.2.2.1).bind fun o102 =>
                                      (bif o102.2.1 then
                                        (some (α := ODen (T_impl_OpOk_sg N).ps × RDen (T_impl_OpOk_sg N).rs) ((), (o1.2.2.2 == (0 : Int), ())))
                                        else
                                        (some (α := ODen (T_impl_OpOk_sg N).ps × RDen (T_impl_OpOk_sg N).rs) ((), (false, ())))))
                                    else
                                    (some (α := ODen (T_impl_OpOk_sg N).ps × RDen (T_impl_OpOk_sg N).rs) ((), (false, ())))))
                                else
                                (some (α := ODen (T_impl_OpOk_sg N).ps × RDen (T_impl_OpOk_sg N).rs) ((), (false, ())))))))
                        else
                        (bif o1.1 == (11 : Int) then
                          (bif o1.2.1 == (0 : Int) then
                            (bif o1.2.2.1 == (0 : Int) then
                              (some (α := ODen (T_impl_OpOk_sg N).ps × RDen (T_impl_OpOk_sg N).rs) ((), (o1.2.2.2 == (0 : Int), ())))
                              else
                              (some (α := ODen (T_impl_OpOk_sg N).ps × RDen (T_impl_OpOk_sg N).rs) ((), (false, ()))))
                            else
                            (some (α := ODen (T_impl_OpOk_sg N).ps × RDen (T_impl_OpOk_sg N).rs) ((), (false, ()))))
                          else
                          (bif o1.1 == (12 : Int) then
                            ((T_impl_isKey N o1.2.1).bind fun o103 =>
                              (bif o103.2.1 then
                                ((T_impl_isReg N o1.2.2.1).bind fun o104 =>
                                  (bif o104.2.1 then
                                    ((T_impl_isReg N o1.2.2.2).bind fun o105 =>
                                      (some (α := ODen (T_impl_OpOk_sg N).ps × RDen (T_impl_OpOk_sg N).rs) ((), (o105.2.1, ()))))
                                    else
                                    (some (α := ODen (T_impl_OpOk_sg N).ps × RDen (T_impl_OpOk_sg N).rs) ((), (false, ())))))
                                else
                                (some (α := ODen (T_impl_OpOk_sg N).ps × RDen (T_impl_OpOk_sg N).rs) ((), (false, ())))))
                            else
                            (bif o1.1 == (13 : Int) then
                              ((T_impl_isReg N o1.2.1).bind fun o106 =>
                                (bif o106.2.1 then
                                  ((T_impl_isKey N o1.2.2.1).bind fun o107 =>
                                    (bif o107.2.1 then
                                      (some (α := ODen (T_impl_OpOk_sg N).ps × RDen (T_impl_OpOk_sg N).rs) ((), (o1.2.2.2 == (0 : Int), ())))
                                      else
                                      (some (α := ODen (T_impl_OpOk_sg N).ps × RDen (T_impl_OpOk_sg N).rs) ((), (false, ())))))
                                  else
                                  (some (α := ODen (T_impl_OpOk_sg N).ps × RDen (T_impl_OpOk_sg N).rs) ((), (false, ())))))
                              else
                              (bif o1.1 == (14 : Int) then
                                ((T_impl_isKey N o1.2.1).bind fun o108 =>
                                  (bif o108.2.1 then
                                    ((T_impl_isReg N o1.2.2.1).bind fun o109 =>
                                      (bif o109.2.1 then
                                        (some (α := ODen (T_impl_OpOk_sg N).ps × RDen (T_impl_OpOk_sg N).rs) ((), (o1.2.2.2 == (0 : Int), ())))
                                        else
                                        (some (α := ODen (T_impl_OpOk_sg N).ps × RDen (T_impl_OpOk_sg N).rs) ((), (false, ())))))
                                    else
                                    (some (α := ODen (T_impl_OpOk_sg N).ps × RDen (T_impl_OpOk_sg N).rs) ((), (false, ())))))
                                else
                                (some (α := ODen (T_impl_OpOk_sg N).ps × RDen (T_impl_OpOk_sg N).rs) ((), (false, ()))))))))))
                  else
                  (bif o1.1 == (15 : Int) then
                    (bif o1.1 == (15 : Int) then
                      ((T_impl_isReg N o1.2.1).bind fun o110 =>
                        (bif o110.2.1 then
                          (bif o1.2.2.1 == (0 : Int) then
                            (some (α := ODen (T_impl_OpOk_sg N).ps × RDen (T_impl_OpOk_sg N).rs) ((), (o1.2.2.2 == (0 : Int), ())))
                            else
                            (some (α := ODen (T_impl_OpOk_sg N).ps × RDen (T_impl_OpOk_sg N).rs) ((), (false, ()))))
                          else
                          (some (α := ODen (T_impl_OpOk_sg N).ps × RDen (T_impl_OpOk_sg N).rs) ((), (false, ())))))
                      else
                      (bif o1.1 == (9 : Int) then
                        (bif o1.1 == (9 : Int) then
                          (bif o1.2.1 == (0 : Int) then
                            (bif o1.2.2.1 == (0 : Int) then
                              (some (α := ODen (T_impl_OpOk_sg N).ps × RDen (T_impl_OpOk_sg N).rs) ((), (o1.2.2.2 == (0 : Int), ())))
                              else
                              (some (α := ODen (T_impl_OpOk_sg N).ps × RDen (T_impl_OpOk_sg N).rs) ((), (false, ()))))
                            else
                            (some (α := ODen (T_impl_OpOk_sg N).ps × RDen (T_impl_OpOk_sg N).rs) ((), (false, ()))))
                          else
                          (bif o1.1 == (12 : Int) then
                            ((T_impl_isKey N o1.2.1).bind fun o111 =>
                              (bif o111.2.1 then
                                ((T_impl_isReg N o1.2.2.1).bind fun o112 =>
                                  (bif o112.2.1 then
                                    ((T_impl_isReg N o1.2.2.2).bind fun o113 =>
                                      (some (α := ODen (T_impl_OpOk_sg N).ps × RDen (T_impl_OpOk_sg N).rs) ((), (o113.2.1, ()))))
                                    else
                                    (some (α := ODen (T_impl_OpOk_sg N).ps × RDen (T_impl_OpOk_sg N).rs) ((), (false, ())))))
                                else
                                (some (α := ODen (T_impl_OpOk_sg N).ps × RDen (T_impl_OpOk_sg N).rs) ((), (false, ())))))
                            else
                            (bif o1.1 == (13 : Int) then
                              ((T_impl_isReg N o1.2.1).bind fun o114 =>
                                (bif o114.2.1 then
                                  ((T_impl_isKey N o1.2.2.1).bind fun o115 =>
                                    (bif o115.2.1 then
                                      (some (α := ODen (T_impl_OpOk_sg N).ps × RDen (T_impl_OpOk_sg N).rs) ((), (o1.2.2.2 == (0 : Int), ())))
                                      else
                                      (some (α := ODen (T_impl_OpOk_sg N).ps × RDen (T_impl_OpOk_sg N).rs) ((), (false, ())))))
                                  else
                                  (some (α := ODen (T_impl_OpOk_sg N).ps × RDen (T_impl_OpOk_sg N).rs) ((), (false, ())))))
                              else
                              (bif o1.1 == (14 : Int) then
                                ((T_impl_isKey N o1.2.1).bind fun o116 =>
                                  (bif o116.2.1 then
                                    ((T_impl_isReg N o1.2.2.1).bind fun o117 =>
                                      (bif o117.2.1 then
                                        (some (α := ODen (T_impl_OpOk_sg N).ps × RDen (T_impl_OpOk_sg N).rs) ((), (o1.2.2.2 == (0 : Int), ())))
                                        else
                                        (some (α := ODen (T_impl_OpOk_sg N).ps × RDen (T_impl_OpOk_sg N).rs) ((), (false, ())))))
                                    else
                                    (some (α := ODen (T_impl_OpOk_sg N).ps × RDen (T_impl_OpOk_sg N).rs) ((), (false, ())))))
                                else
                                (some (α := ODen (T_impl_OpOk_sg N).ps × RDen (T_impl_OpOk_sg N).rs) ((), (false, ())))))))
                        else
                        (bif o1.1 == (10 : Int) then
                          (bif o1.1 == (10 : Int) then
                            (bif o1.2.1 == (0 : Int) then
                              (bif o1.2.2.1 == (0 : Int) then
                                (some (α := ODen (T_impl_OpOk_sg N).ps × RDen (T_impl_OpOk_sg N).rs) ((), (o1.2.2.2 == (0 : Int), ())))
                                else
                                (some (α := ODen (T_impl_OpOk_sg N).ps × RDen (T_impl_OpOk_sg N).rs) ((), (false, ()))))
                              else
                              (some (α := ODen (T_impl_OpOk_sg N).ps × RDen (T_impl_OpOk_sg N).rs) ((), (false, ()))))
                            else
                            (bif o1.1 == (12 : Int) then
                              ((T_impl_isKey N o1.2.1).bind fun o118 =>
                                (bif o118.2.1 then
                                  ((T_impl_isReg N o1.2.2.1).bind fun o119 =>
                                    (bif o119.2.1 then
                                      ((T_impl_isReg N o1.2.2.2).bind fun o120 =>
                                        (some (α := ODen (T_impl_OpOk_sg N).ps × RDen (T_impl_OpOk_sg N).rs) ((), (o120.2.1, ()))))
                                      else
                                      (some (α := ODen (T_impl_OpOk_sg N).ps × RDen (T_impl_OpOk_sg N).rs) ((), (false, ())))))
                                  else
                                  (some (α := ODen (T_impl_OpOk_sg N).ps × RDen (T_impl_OpOk_sg N).rs) ((), (false, ())))))
                              else
                              (bif o1.1 == (13 : Int) then
                                ((T_impl_isReg N o1.2.1).bind fun o121 =>
                                  (bif o121.2.1 then
                                    ((T_impl_isKey N o1.2.2.1).bind fun o122 =>
                                      (bif o122.2.1 then
                                        (some (α := ODen (T_impl_OpOk_sg N).ps × RDen (T_impl_OpOk_sg N).rs) ((), (o1.2.2.2 == (0 : Int), ())))
                                        else
                                        (some (α := ODen (T_impl_OpOk_sg N).ps × RDen (T_impl_OpOk_sg N).rs) ((), (false, ())))))
                                    else
                                    (some (α := ODen (T_impl_OpOk_sg N).ps × RDen (T_impl_OpOk_sg N).rs) ((), (false, ())))))
                                else
                                (bif o1.1 == (14 : Int) then
                                  ((T_impl_isKey N o1.2.1).bind fun o123 =>
                                    (bif o123.2.1 then
                                      ((T_impl_isReg N o1.2.2.1).bind fun o124 =>
                                        (bif o124.2.1 then
                                          (some (α := ODen (T_impl_OpOk_sg N).ps × RDen (T_impl_OpOk_sg N).rs) ((), (o1.2.2.2 == (0 : Int), ())))
                                          else
                                          (some (α := ODen (T_impl_OpOk_sg N).ps × RDen (T_impl_OpOk_sg N).rs) ((), (false, ())))))
                                      else
                                      (some (α := ODen (T_impl_OpOk_sg N).ps × RDen (T_impl_OpOk_sg N).rs) ((), (false, ())))))
                                  else
                                  (some (α := ODen (T_impl_OpOk_sg N).ps × RDen (T_impl_OpOk_sg N).rs) ((), (false, ())))))))
                          else
                          (bif o1.1 == (11 : Int) then
                            (bif o1.2.1 == (0 : Int) then
                              (bif o1.2.2.1 == (0 : Int) then
                                (some (α := ODen (T_impl_OpOk_sg N).ps × RDen (T_impl_OpOk_sg N).rs) ((), (o1.2.2.2 == (0 : Int), ())))
                                else
                                (some (α := ODen (T_impl_OpOk_sg N).ps × RDen (T_impl_OpOk_sg N).rs) ((), (false, ()))))
                              else
                              (some (α := ODen (T_impl_OpOk_sg N).ps × RDen (T_impl_OpOk_sg N).rs) ((), (false, ()))))
                            else
                            (bif o1.1 == (12 : Int) then
                              ((T_impl_isKey N o1.2.1).bind fun o125 =>
                                (bif o125.2.1 then
                                  ((T_impl_isReg N o1.2.2.1).bind fun o126 =>
                                    (bif o126.2.1 then
                                      ((T_impl_isReg N o1.2.2.2).bind fun o127 =>
                                        (some (α := ODen (T_impl_OpOk_sg N).ps × RDen (T_impl_OpOk_sg N).rs) ((), (o127.2.1, ()))))
                                      else
                                      (some (α := ODen (T_impl_OpOk_sg N).ps × RDen (T_impl_OpOk_sg N).rs) ((), (false, ())))))
                                  else
                                  (some (α := ODen (T_impl_OpOk_sg N).ps × RDen (T_impl_OpOk_sg N).rs) ((), (false, ())))))
                              else
                              (bif o1.1 == (13 : Int) then
                                ((T_impl_isReg N o1.2.1).bind fun o128 =>
                                  (bif o128.2.1 then
                                    ((T_impl_isKey N o1.2.2.1).bind fun o129 =>
                                      (bif o129.2.1 then
                                        (some (α := ODen (T_impl_OpOk_sg N).ps × RDen (T_impl_OpOk_sg N).rs) ((), (o1.2.2.2 == (0 : Int), ())))
                                        else
                                        (some (α := ODen (T_impl_OpOk_sg N).ps × RDen (T_impl_OpOk_sg N).rs) ((), (false, ())))))
                                    else
                                    (some (α := ODen (T_impl_OpOk_sg N).ps × RDen (T_impl_OpOk_sg N).rs) ((), (false, ())))))
                                else
                                (bif o1.1 == (14 : Int) then
                                  ((T_impl_isKey N o1.2.1).bind fun o130 =>
                                    (bif o130.2.1 then
                                      ((T_impl_isReg N o1.2.2.1).bind fun o131 =>
                                        (bif o131.2.1 then
                                          (some (α := ODen (T_impl_OpOk_sg N).ps × RDen (T_impl_OpOk_sg N).rs) ((), (o1.2.2.2 == (0 : Int), ())))
                                          else
                                          (some (α := ODen (T_impl_OpOk_sg N).ps × RDen (T_impl_OpOk_sg N).rs) ((), (false, ())))))
                                      else
                                      (some (α := ODen (T_impl_OpOk_sg N).ps × RDen (T_impl_OpOk_sg N).rs) ((), (false, ())))))
                                  else
                                  (some (α := ODen (T_impl_OpOk_sg N).ps × RDen (T_impl_OpOk_sg N).rs) ((), (false, ()))))))))))
                    else
                    (bif o1.1 == (16 : Int) then
                      ((T_impl_isReg N o1.2.1).bind fun o132 =>
                        (bif o132.2.1 then
                          (bif o1.2.2.1 == (0 : Int) then
                            (some (α := ODen (T_impl_OpOk_sg N).ps × RDen (T_impl_OpOk_sg N).rs) ((), (o1.2.2.2 == (0 : Int), ())))
                            else
                            (some (α := ODen (T_impl_OpOk_sg N).ps × RDen (T_impl_OpOk_sg N).rs) ((), (false, ()))))
                          else
                          (some (α := ODen (T_impl_OpOk_sg N).ps × RDen (T_impl_OpOk_sg N).rs) ((), (false, ())))))
                      else
                      (bif o1.1 == (9 : Int) then
                        (bif o1.1 == (9 : Int) then
                          (bif o1.2.1 == (0 : Int) then
                            (bif o1.2.2.1 == (0 : Int) then
                              (some (α := ODen (T_impl_OpOk_sg N).ps × RDen (T_impl_OpOk_sg N).rs) ((), (o1.2.2.2 == (0 : Int), ())))
                              else
                              (some (α := ODen (T_impl_OpOk_sg N).ps × RDen (T_impl_OpOk_sg N).rs) ((), (false, ()))))
                            else
                            (some (α := ODen (T_impl_OpOk_sg N).ps × RDen (T_impl_OpOk_sg N).rs) ((), (false, ()))))
                          else
                          (bif o1.1 == (12 : Int) then
                            ((T_impl_isKey N o1.2.1).bind fun o133 =>
                              (bif o133.2.1 then
                                ((T_impl_isReg N o1.2.2.1).bind fun o134 =>
                                  (bif o134.2.1 then
                                    ((T_impl_isReg N o1.2.2.2).bind fun o135 =>
                                      (some (α := ODen (T_impl_OpOk_sg N).ps × RDen (T_impl_OpOk_sg N).rs) ((), (o135.2.1, ()))))
                                    else
                                    (some (α := ODen (T_impl_OpOk_sg N).ps × RDen (T_impl_OpOk_sg N).rs) ((), (false, ())))))
                                else
                                (some (α := ODen (T_impl_OpOk_sg N).ps × RDen (T_impl_OpOk_sg N).rs) ((), (false, ())))))
                            else
                            (bif o1.1 == (13 : Int) then
                              ((T_impl_isReg N o1.2.1).bind fun o136 =>
                                (bif o136.2.1 then
                                  ((T_impl_isKey N o1.2.2.1).bind fun o137 =>
                                    (bif o137.2.1 then
                                      (some (α := ODen (T_impl_OpOk_sg N).ps × RDen (T_impl_OpOk_sg N).rs) ((), (o1.2.2.2 == (0 : Int), ())))
                                      else
                                      (some (α := ODen (T_impl_OpOk_sg N).ps × RDen (T_impl_OpOk_sg N).rs) ((), (false, ())))))
                                  else
                                  (some (α := ODen (T_impl_OpOk_sg N).ps × RDen (T_impl_OpOk_sg N).rs) ((), (false, ())))))
                              else
                              (bif o1.1 == (14 : Int) then
                                ((T_impl_isKey N o1.2.1).bind fun o138 =>
                                  (bif o138.2.1 then
                                    ((T_impl_isReg N o1.2.2.1).bind fun o139 =>
                                      (bif o139.2.1 then
                                        (some (α := ODen (T_impl_OpOk_sg N).ps × RDen (T_impl_OpOk_sg N).rs) ((), (o1.2.2.2 == (0 : Int), ())))
                                        else
                                        (some (α := ODen (T_impl_OpOk_sg N).ps × RDen (T_impl_OpOk_sg N).rs) ((), (false, ())))))
                                    else
                                    (some (α := ODen (T_impl_OpOk_sg N).ps × RDen (T_impl_OpOk_sg N).rs) ((), (false, ())))))
                                else
                                (some (α := ODen (T_impl_OpOk_sg N).ps × RDen (T_impl_OpOk_sg N).rs) ((), (false, ())))))))
                        else
                        (bif o1.1 == (10 : Int) then
                          (bif o1.1 == (10 : Int) then
                            (bif o1.2.1 == (0 : Int) then
                              (bif o1.2.2.1 == (0 : Int) then
                                (some (α := ODen (T_impl_OpOk_sg N).ps × RDen (T_impl_OpOk_sg N).rs) ((), (o1.2.2.2 == (0 : Int), ())))
                                else
                                (some (α := ODen (T_impl_OpOk_sg N).ps × RDen (T_impl_OpOk_sg N).rs) ((), (false, ()))))
                              else
                              (some (α := ODen (T_impl_OpOk_sg N).ps × RDen (T_impl_OpOk_sg N).rs) ((), (false, ()))))
                            else
                            (bif o1.1 == (12 : Int) then
                              ((T_impl_isKey N o1.2.1).bind fun o140 =>
                                (bif o140.2.1 then
                                  ((T_impl_isReg N o1.2.2.1).bind fun o141 =>
                                    (bif o141.2.1 then
                                      ((T_impl_isReg N o1.2.2.2).bind fun o142 =>
                                        (some (α := ODen (T_impl_OpOk_sg N).ps × RDen (T_impl_OpOk_sg N).rs) ((), (o142.2.1, ()))))
                                      else
                                      (some (α := ODen (T_impl_OpOk_sg N).ps × RDen (T_impl_OpOk_sg N).rs) ((), (false, ())))))
                                  else
                                  (some (α := ODen (T_impl_OpOk_sg N).ps × RDen (T_impl_OpOk_sg N).rs) ((), (false, ())))))
                              else
                              (bif o1.1 == (13 : Int) then
                                ((T_impl_isReg N o1.2.1).bind fun o143 =>
                                  (bif o143.2.1 then
                                    ((T_impl_isKey N o1.2.2.1).bind fun o144 =>
                                      (bif o144.2.1 then
                                        (some (α := ODen (T_impl_OpOk_sg N).ps × RDen (T_impl_OpOk_sg N).rs) ((), (o1.2.2.2 == (0 : Int), ())))
                                        else
                                        (some (α := ODen (T_impl_OpOk_sg N).ps × RDen (T_impl_OpOk_sg N).rs) ((), (false, ())))))
                                    else
                                    (some (α := ODen (T_impl_OpOk_sg N).ps × RDen (T_impl_OpOk_sg N).rs) ((), (false, ())))))
                                else
                                (bif o1.1 == (14 : Int) then
                                  ((T_impl_isKey N o1.2.1).bind fun o145 =>
                                    (bif o145.2.1 then
                                      ((T_impl_isReg N o1.2.2.1).bind fun o146 =>
                                        (bif o146.2.1 then
                                          (some (α := ODen (T_impl_OpOk_sg N).ps × RDen (T_impl_OpOk_sg N).rs) ((), (o1.2.2.2 == (0 : Int), ())))
                                          else
                                          (some (α := ODen (T_impl_OpOk_sg N).ps × RDen (T_impl_OpOk_sg N).rs) ((), (false, ())))))
                                      else
                                      (some (α := ODen (T_impl_OpOk_sg N).ps × RDen (T_impl_OpOk_sg N).rs) ((), (false, ())))))
                                  else
                                  (some (α := ODen (T_impl_OpOk_sg N).ps × RDen (T_impl_OpOk_sg N).rs) ((), (false, ())))))))
                          else
                          (bif o1.1 == (11 : Int) then
                            (bif o1.2.1 == (0 : Int) then
                              (bif o1.2.2.1 == (0 : Int) then
                                (some (α := ODen (T_impl_OpOk_sg N).ps × RDen (T_impl_OpOk_sg N).rs) ((), (o1.2.2.2 == (0 : Int), ())))
                                else
                                (some (α := ODen (T_impl_OpOk_sg N).ps × RDen (T_impl_OpOk_sg N).rs) ((), (false, ()))))
                              else
                              (some (α := ODen (T_impl_OpOk_sg N).ps × RDen (T_impl_OpOk_sg N).rs) ((), (false, ()))))
                            else
                            (bif o1.1 == (12 : Int) then
                              ((T_impl_isKey N o1.2.1).bind fun o147 =>
                                (bif o147.2.1 then
                                  ((T_impl_isReg N o1.2.2.1).bind fun o148 =>
                                    (bif o148.2.1 then
                                      ((T_impl_isReg N o1.2.2.2).bind fun o149 =>
                                        (some (α := ODen (T_impl_OpOk_sg N).ps × RDen (T_impl_OpOk_sg N).rs) ((), (o149.2.1, ()))))
                                      else
                                      (some (α := ODen (T_impl_OpOk_sg N).ps × RDen (T_impl_OpOk_sg N).rs) ((), (false, ())))))
                                  else
                                  (some (α := ODen (T_impl_OpOk_sg N).ps × RDen (T_impl_OpOk_sg N).rs) ((), (false, ())))))
                              else
                              (bif o1.1 == (13 : Int) then
                                ((T_impl_isReg N o1.2.1).bind fun o150 =>
                                  (bif o150.2.1 then
                                    ((T_impl_isKey N o1.2.2.1).bind fun o151 =>
                                      (bif o151.2.1 then
                                        (some (α := ODen (T_impl_OpOk_sg N).ps × RDen (T_impl_OpOk_sg N).rs) ((), (o1.2.2.2 == (0 : Int), ())))
                                        else
                                        (some (α := ODen (T_impl_OpOk_sg N).ps × RDen (T_impl_OpOk_sg N).rs) ((), (false, ())))))
                                    else
                                    (some (α := ODen (T_impl_OpOk_sg N).ps × RDen (T_impl_OpOk_sg N).rs) ((), (false, ())))))
                                else
                                (bif o1.1 == (14 : Int) then
                                  ((T_impl_isKey N o1.2.1).bind fun o152 =>
                                    (bif o152.2.1 then
                                      ((T_impl_isReg N o1.2.2.1).bind fun o153 =>
                                        (bif o153.2.1 then
                                          (some (α := ODen (T_impl_OpOk_sg N).ps × RDen (T_impl_OpOk_sg N).rs) ((), (o1.2.2.2 == (0 : Int), ())))
                                          else
                                          (some (α := ODen (T_impl_OpOk_sg N).ps × RDen (T_impl_OpOk_sg N).rs) ((), (false, ())))))
                                      else
                                      (some (α := ODen (T_impl_OpOk_sg N).ps × RDen (T_impl_OpOk_sg N).rs) ((), (false, ())))))
                                  else
                                  (some (α := ODen (T_impl_OpOk_sg N).ps × RDen (T_impl_OpOk_sg N).rs) ((), (false, ()))))))))))))))))
        else
        (bif o1.1 == (4 : Int) then
          ((T_impl_isReg N o1.2.1).bind fun o154 =>
            (bif o154.2.1 then
              ((T_impl_isReg N o1.2.2.1).bind fun o155 =>
                (bif o155.2.1 then
                  ((T_impl_isReg N o1.2.2.2).bind fun o156 =>
                    (some (α := ODen (T_impl_OpOk_sg N).ps × RDen (T_impl_OpOk_sg N).rs) ((), (o156.2.1, ()))))
                  else
                  (some (α := ODen (T_impl_OpOk_sg N).ps × RDen (T_impl_OpOk_sg N).rs) ((), (false, ())))))
              else
              (some (α := ODen (T_impl_OpOk_sg N).ps × RDen (T_impl_OpOk_sg N).rs) ((), (false, ())))))
          else
          (bif o1.1 == (5 : Int) then
            ((T_impl_isReg N o1.2.1).bind fun o157 =>
              (bif o157.2.1 then
                ((T_impl_isCell N o1.2.2.1).bind fun o158 =>
                  (bif o158.2.1 then
                    (some (α := ODen (T_impl_OpOk_sg N).ps × RDen (T_impl_OpOk_sg N).rs) ((), (o1.2.2.2 == (0 : Int), ())))
                    else
                    (some (α := ODen (T_impl_OpOk_sg N).ps × RDen (T_impl_OpOk_sg N).rs) ((), (false, ())))))
                else
                (some (α := ODen (T_impl_OpOk_sg N).ps × RDen (T_impl_OpOk_sg N).rs) ((), (false, ())))))
            else
            (bif o1.1 == (6 : Int) then
              ((T_impl_isCell N o1.2.1).bind fun o159 =>
                (bif o159.2.1 then
                  ((T_impl_isReg N o1.2.2.1).bind fun o160 =>
                    (bif o160.2.1 then
                      (some (α := ODen (T_impl_OpOk_sg N).ps × RDen (T_impl_OpOk_sg N).rs) ((), (o1.2.2.2 == (0 : Int), ())))
                      else
                      (some (α := ODen (T_impl_OpOk_sg N).ps × RDen (T_impl_OpOk_sg N).rs) ((), (false, ())))))
                  else
                  (some (α := ODen (T_impl_OpOk_sg N).ps × RDen (T_impl_OpOk_sg N).rs) ((), (false, ())))))
              else
              (bif o1.1 == (7 : Int) then
                ((T_impl_isReg N o1.2.1).bind fun o161 =>
                  (bif o161.2.1 then
                    ((T_impl_within N o1.2.2.1 (1 : Int) (20 : Int)).bind fun o162 =>
                      (bif o162.2.1 then
                        (some (α := ODen (T_impl_OpOk_sg N).ps × RDen (T_impl_OpOk_sg N).rs) ((), (o1.2.2.2 == (0 : Int), ())))
                        else
                        (some (α := ODen (T_impl_OpOk_sg N).ps × RDen (T_impl_OpOk_sg N).rs) ((), (false, ())))))
                    else
                    (some (α := ODen (T_impl_OpOk_sg N).ps × RDen (T_impl_OpOk_sg N).rs) ((), (false, ())))))
                else
                (bif o1.1 == (8 : Int) then
                  (bif o1.1 == (8 : Int) then
                    ((T_impl_isReg N o1.2.1).bind fun o163 =>
                      (bif o163.2.1 then
                        (bif o1.2.2.1 == (0 : Int) then
                          (some (α := ODen (T_impl_OpOk_sg N).ps × RDen (T_impl_OpOk_sg N).rs) ((), (o1.2.2.2 == (0 : Int), ())))
                          else
                          (some (α := ODen (T_impl_OpOk_sg N).ps × RDen (T_impl_OpOk_sg N).rs) ((), (false, ()))))
                        else
                        (some (α := ODen (T_impl_OpOk_sg N).ps × RDen (T_impl_OpOk_sg N).rs) ((), (false, ())))))
                    else
                    (bif o1.1 == (9 : Int) then
                      (bif o1.1 == (9 : Int) then
                        (bif o1.2.1 == (0 : Int) then
                          (bif o1.2.2.1 == (0 : Int) then
                            (some (α := ODen (T_impl_OpOk_sg N).ps × RDen (T_impl_OpOk_sg N).rs) ((), (o1.2.2.2 == (0 : Int), ())))
                            else
                            (some (α := ODen (T_impl_OpOk_sg N).ps × RDen (T_impl_OpOk_sg N).rs) ((), (false, ()))))
                          else
                          (some (α := ODen (T_impl_OpOk_sg N).ps × RDen (T_impl_OpOk_sg N).rs) ((), (false, ()))))
                        else
                        (bif o1.1 == (12 : Int) then
                          ((T_impl_isKey N o1.2.1).bind fun o164 =>
                            (bif o164.2.1 then
                              ((T_impl_isReg N o1.2.2.1).bind fun o165 =>
                                (bif o165.2.1 then
                                  ((T_impl_isReg N o1.2.2.2).bind fun o166 =>
                                    (some (α := ODen (T_impl_OpOk_sg N).ps × RDen (T_impl_OpOk_sg N).rs) ((), (o166.2.1, ()))))
                                  else
                                  (some (α := ODen (T_impl_OpOk_sg N).ps × RDen (T_impl_OpOk_sg N).rs) ((), (false, ())))))
                              else
                              (some (α := ODen (T_impl_OpOk_sg N).ps × RDen (T_impl_OpOk_sg N).rs) ((), (false, ())))))
                          else
                          (bif o1.1 == (13 : Int) then
                            ((T_impl_isReg N o1.2.1).bind fun o167 =>
                              (bif o167.2.1 then
                                ((T_impl_isKey N o1.2.2.1).bind fun o168 =>
                                  (bif o168.2.1 then
                                    (some (α := ODen (T_impl_OpOk_sg N).ps × RDen (T_impl_OpOk_sg N).rs) ((), (o1.2.2.2 == (0 : Int), ())))
                                    else
                                    (some (α := ODen (T_impl_OpOk_sg N).ps × RDen (T_impl_OpOk_sg N).rs) ((), (false, ())))))
                                else
                                (some (α := ODen (T_impl_OpOk_sg N).ps × RDen (T_impl_OpOk_sg N).rs) ((), (false, ())))))
                            else
                            (bif o1.1 == (14 : Int) then
                              ((T_impl_isKey N o1.2.1).bind fun o169 =>
                                (bif o169.2.1 then
                                  ((T_impl_isReg N o1.2.2.1).bind fun o170 =>
                                    (bif o170.2.1 then
                                      (some (α := ODen (T_impl_OpOk_sg N).ps × RDen (T_impl_OpOk_sg N).rs) ((), (o1.2.2.2 == (0 : Int), ())))
                                      else
                                      (some (α := ODen (T_impl_OpOk_sg N).ps × RDen (T_impl_OpOk_sg N).rs) ((), (false, ())))))
                                  else
                                  (some (α := ODen (T_impl_OpOk_sg N).ps × RDen (T_impl_OpOk_sg N).rs) ((), (false, ())))))
                              else
                              (some (α := ODen (T_impl_OpOk_sg N).ps × RDen (T_impl_OpOk_sg N).rs) ((), (false, ())))))))
                      else
                      (bif o1.1 == (10 : Int) then
                        (bif o1.1 == (10 : Int) then
                          (bif o1.2.1 == (0 : Int) then
                            (bif o1.2.2.1 == (0 : Int) then
                              (some (α := ODen (T_impl_OpOk_sg N).ps × RDen (T_impl_OpOk_sg N).rs) ((), (o1.2.2.2 == (0 : Int), ())))
                              else
                              (some (α := ODen (T_impl_OpOk_sg N).ps × RDen (T_impl_OpOk_sg N).rs) ((), (false, ()))))
                            else
                            (some (α := ODen (T_impl_OpOk_sg N).ps × RDen (T_impl_OpOk_sg N).rs) ((), (false, ()))))
                          else
                          (bif o1.1 == (12 : Int) then
                            ((T_impl_isKey N o1.2.1).bind fun o171 =>
                              (bif o171.2.1 then
                                ((T_impl_isReg N o1.2.2.1).bind fun o172 =>
                                  (bif o172.2.1 then
                                    ((T_impl_isReg N o1.2.2.2).bind fun o173 =>
                                      (some (α := ODen (T_impl_OpOk_sg N).ps × RDen (T_impl_OpOk_sg N).rs) ((), (o173.2.1, ()))))
                                    else
                                    (some (α := ODen (T_impl_OpOk_sg N).ps × RDen (T_impl_OpOk_sg N).rs) ((), (false, ())))))
                                else
                                (some (α := ODen (T_impl_OpOk_sg N).ps × RDen (T_impl_OpOk_sg N).rs) ((), (false, ())))))
                            else
                            (bif o1.1 == (13 : Int) then
                              ((T_impl_isReg N o1.2.1).bind fun o174 =>
                                (bif o174.2.1 then
                                  ((T_impl_isKey N o1.2.2.1).bind fun o175 =>
                                    (bif o175.2.1 then
                                      (some (α := ODen (T_impl_OpOk_sg N).ps × RDen (T_impl_OpOk_sg N).rs) ((), (o1.2.2.2 == (0 : Int), ())))
                                      else
                                      (some (α := ODen (T_impl_OpOk_sg N).ps × RDen (T_impl_OpOk_sg N).rs) ((), (false, ())))))
                                  else
                                  (some (α := ODen (T_impl_OpOk_sg N).ps × RDen (T_impl_OpOk_sg N).rs) ((), (false, ())))))
                              else
                              (bif o1.1 == (14 : Int) then
                                ((T_impl_isKey N o1.2.1).bind fun o176 =>
                                  (bif o176.2.1 then
                                    ((T_impl_isReg N o1.2.2.1).bind fun o177 =>
                                      (bif o177.2.1 then
                                        (some (α := ODen (T_impl_OpOk_sg N).ps × RDen (T_impl_OpOk_sg N).rs) ((), (o1.2.2.2 == (0 : Int), ())))
                                        else
                                        (some (α := ODen (T_impl_OpOk_sg N).ps × RDen (T_impl_OpOk_sg N).rs) ((), (false, ())))))
                                    else
                                    (some (α := ODen (T_impl_OpOk_sg N).ps × RDen (T_impl_OpOk_sg N).rs) ((), (false, ())))))
                                else
                                (some (α := ODen (T_impl_OpOk_sg N).ps × RDen (T_impl_OpOk_sg N).rs) ((), (false, ())))))))
                        else
                        (bif o1.1 == (11 : Int) then
                          (bif o1.2.1 == (0 : Int) then
                            (bif o1.2.2.1 == (0 : Int) then
                              (some (α := ODen (T_impl_OpOk_sg N).ps × RDen (T_impl_OpOk_sg N).rs) ((), (o1.2.2.2 == (0 : Int), ())))
                              else
                              (some (α := ODen (T_impl_OpOk_sg N).ps × RDen (T_impl_OpOk_sg N).rs) ((), (false, ()))))
                            else
                            (some (α := ODen (T_impl_OpOk_sg N).ps × RDen (T_impl_OpOk_sg N).rs) ((), (false, ()))))
                          else
                          (bif o1.1 == (12 : Int) then
                            ((T_impl_isKey N o1.2.1).bind fun o178 =>
                              (bif o178.2.1 then
                                ((T_impl_isReg N o1.2.2.1).bind fun o179 =>
                                  (bif o179.2.1 then
                                    ((T_impl_isReg N o1.2.2.2).bind fun o180 =>
                                      (some (α := ODen (T_impl_OpOk_sg N).ps × RDen (T_impl_OpOk_sg N).rs) ((), (o180.2.1, ()))))
                                    else
                                    (some (α := ODen (T_impl_OpOk_sg N).ps × RDen (T_impl_OpOk_sg N).rs) ((), (false, ())))))
                                else
                                (some (α := ODen (T_impl_OpOk_sg N).ps × RDen (T_impl_OpOk_sg N).rs) ((), (false, ())))))
                            else
                            (bif o1.1 == (13 : Int) then
                              ((T_impl_isReg N o1.2.1).bind fun o181 =>
                                (bif o181.2.1 then
                                  ((T_impl_isKey N o1.2.2.1).bind fun o182 =>
                                    (bif o182.2.1 then
                                      (some (α := ODen (T_impl_OpOk_sg N).ps × RDen (T_impl_OpOk_sg N).rs) ((), (o1.2.2.2 == (0 : Int), ())))
                                      else
                                      (some (α := ODen (T_impl_OpOk_sg N).ps × RDen (T_impl_OpOk_sg N).rs) ((), (false, ())))))
                                  else
                                  (some (α := ODen (T_impl_OpOk_sg N).ps × RDen (T_impl_OpOk_sg N).rs) ((), (false, ())))))
                              else
                              (bif o1.1 == (14 : Int) then
                                ((T_impl_isKey N o1.2.1).bind fun o183 =>
                                  (bif o183.2.1 then
                                    ((T_impl_isReg N o1.2.2.1).bind fun o184 =>
                                      (bif o184.2.1 then
                                        (some (α := ODen (T_impl_OpOk_sg N).ps × RDen (T_impl_OpOk_sg N).rs) ((), (o1.2.2.2 == (0 : Int), ())))
                                        else
                                        (some (α := ODen (T_impl_OpOk_sg N).ps × RDen (T_impl_OpOk_sg N).rs) ((), (false, ())))))
                                    else
                                    (some (α := ODen (T_impl_OpOk_sg N).ps × RDen (T_impl_OpOk_sg N).rs) ((), (false, ())))))
                                else
                                (some (α := ODen (T_impl_OpOk_sg N).ps × RDen (T_impl_OpOk_sg N).rs) ((), (false, ()))))))))))
                  else
                  (bif o1.1 == (15 : Int) then
                    (bif o1.1 == (15 : Int) then
                      ((T_impl_isReg N o1.2.1).bind fun o185 =>
                        (bif o185.2.1 then
                          (bif o1.2.2.1 == (0 : Int) then
                            (some (α := ODen (T_impl_OpOk_sg N).ps × RDen (T_impl_OpOk_sg N).rs) ((), (o1.2.2.2 == (0 : Int), ())))
                            else
                            (some (α := ODen (T_impl_OpOk_sg N).ps × RDen (T_impl_OpOk_sg N).rs) ((), (false, ()))))
                          else
                          (some (α := ODen (T_impl_OpOk_sg N).ps × RDen (T_impl_OpOk_sg N).rs) ((), (false, ())))))
                      else
                      (bif o1.1 == (9 : Int) then
                        (bif o1.1 == (9 : Int) then
                          (bif o1.2.1 == (0 : Int) then
                            (bif o1.2.2.1 == (0 : Int) then
                              (some (α := ODen (T_impl_OpOk_sg N).ps × RDen (T_impl_OpOk_sg N).rs) ((), (o1.2.2.2 == (0 : Int), ())))
                              else
                              (some (α := ODen (T_impl_OpOk_sg N).ps × RDen (T_impl_OpOk_sg N).rs) ((), (false, ()))))
                            else
                            (some (α := ODen (T_impl_OpOk_sg N).ps × RDen (T_impl_OpOk_sg N).rs) ((), (false, ()))))
                          else
                          (bif o1.1 == (12 : Int) then
                            ((T_impl_isKey N o1.2.1).bind fun o186 =>
                              (bif o186.2.1 then
                                ((T_impl_isReg N o1.2.2.1).bind fun o187 =>
                                  (bif o187.2.1 then
                                    ((T_impl_isReg N o1.2.2.2).bind fun o188 =>
                                      (some (α := ODen (T_impl_OpOk_sg N).ps × RDen (T_impl_OpOk_sg N).rs) ((), (o188.2.1, ()))))
                                    else
                                    (some (α := ODen (T_impl_OpOk_sg N).ps × RDen (T_impl_OpOk_sg N).rs) ((), (false, ())))))
                                else
                                (some (α := ODen (T_impl_OpOk_sg N).ps × RDen (T_impl_OpOk_sg N).rs) ((), (false, ())))))
                            else
                            (bif o1.1 == (13 : Int) then
                              ((T_impl_isReg N o1.2.1).bind fun o189 =>
                                (bif o189.2.1 then
                                  ((T_impl_isKey N o1.2.2.1).bind fun o190 =>
                                    (bif o190.2.1 then
                                      (some (α := ODen (T_impl_OpOk_sg N).ps × RDen (T_impl_OpOk_sg N).rs) ((), (o1.2.2.2 == (0 : Int), ())))
                                      else
                                      (some (α := ODen (T_impl_OpOk_sg N).ps × RDen (T_impl_OpOk_sg N).rs) ((), (false, ())))))
                                  else
                                  (some (α := ODen (T_impl_OpOk_sg N).ps × RDen (T_impl_OpOk_sg N).rs) ((), (false, ())))))
                              else
                              (bif o1.1 == (14 : Int) then
                                ((T_impl_isKey N o1.2.1).bind fun o191 =>
                                  (bif o191.2.1 then
                                    ((T_impl_isReg N o1.2.2.1).bind fun o192 =>
                                      (bif o192.2.1 then
                                        (some (α := ODen (T_impl_OpOk_sg N).ps × RDen (T_impl_OpOk_sg N).rs) ((), (o1.2.2.2 == (0 : Int), ())))
                                        else
                                        (some (α := ODen (T_impl_OpOk_sg N).ps × RDen (T_impl_OpOk_sg N).rs) ((), (false, ())))))
                                    else
                                    (some (α := ODen (T_impl_OpOk_sg N).ps × RDen (T_impl_OpOk_sg N).rs) ((), (false, ())))))
                                else
                                (some (α := ODen (T_impl_OpOk_sg N).ps × RDen (T_impl_OpOk_sg N).rs) ((), (false, ())))))))
                        else
                        (bif o1.1 == (10 : Int) then
                          (bif o1.1 == (10 : Int) then
                            (bif o1.2.1 == (0 : Int) then
                              (bif o1.2.2.1 == (0 : Int) then
                                (some (α := ODen (T_impl_OpOk_sg N).ps × RDen (T_impl_OpOk_sg N).rs) ((), (o1.2.2.2 == (0 : Int), ())))
                                else
                                (some (α := ODen (T_impl_OpOk_sg N).ps × RDen (T_impl_OpOk_sg N).rs) ((), (false, ()))))
                              else
                              (some (α := ODen (T_impl_OpOk_sg N).ps × RDen (T_impl_OpOk_sg N).rs) ((), (false, ()))))
                            else
                            (bif o1.1 == (12 : Int) then
                              ((T_impl_isKey N o1.2.1).bind fun o193 =>
                                (bif o193.2.1 then
                                  ((T_impl_isReg N o1.2.2.1).bind fun o194 =>
                                    (bif o194.2.1 then
                                      ((T_impl_isReg N o1.2.2.2).bind fun o195 =>
                                        (some (α := ODen (T_impl_OpOk_sg N).ps × RDen (T_impl_OpOk_sg N).rs) ((), (o195.2.1, ()))))
                                      else
                                      (some (α := ODen (T_impl_OpOk_sg N).ps × RDen (T_impl_OpOk_sg N).rs) ((), (false, ())))))
                                  else
                                  (some (α := ODen (T_impl_OpOk_sg N).ps × RDen (T_impl_OpOk_sg N).rs) ((), (false, ())))))
                              else
                              (bif o1.1 == (13 : Int) then
                                ((T_impl_isReg N o1.2.1).bind fun o196 =>
                                  (bif o196.2.1 then
                                    ((T_impl_isKey N o1.2.2.1).bind fun o197 =>
                                      (bif o197.2.1 then
                                        (some (α := ODen (T_impl_OpOk_sg N).ps × RDen (T_impl_OpOk_sg N).rs) ((), (o1.2.2.2 == (0 : Int), ())))
                                        else
                                        (some (α := ODen (T_impl_OpOk_sg N).ps × RDen (T_impl_OpOk_sg N).rs) ((), (false, ())))))
                                    else
                                    (some (α := ODen (T_impl_OpOk_sg N).ps × RDen (T_impl_OpOk_sg N).rs) ((), (false, ())))))
                                else
                                (bif o1.1 == (14 : Int) then
                                  ((T_impl_isKey N o1.2.1).bind fun o198 =>
                                    (bif o198.2.1 then
                                      ((T_impl_isReg N o1.2.2.1).bind fun o199 =>
                                        (bif o199.2.1 then
                                          (some (α := ODen (T_impl_OpOk_sg N).ps × RDen (T_impl_OpOk_sg N).rs) ((), (o1.2.2.2 == (0 : Int), ())))
                                          else
                                          (some (α := ODen (T_impl_OpOk_sg N).ps × RDen (T_impl_OpOk_sg N).rs) ((), (false, ())))))
                                      else
                                      (some (α := ODen (T_impl_OpOk_sg N).ps × RDen (T_impl_OpOk_sg N).rs) ((), (false, ())))))
                                  else
                                  (some (α := ODen (T_impl_OpOk_sg N).ps × RDen (T_impl_OpOk_sg N).rs) ((), (false, ())))))))
                          else
                          (bif o1.1 == (11 : Int) then
                            (bif o1.2.1 == (0 : Int) then
                              (bif o1.2.2.1 == (0 : Int) then
                                (some (α := ODen (T_impl_OpOk_sg N).ps × RDen (T_impl_OpOk_sg N).rs) ((), (o1.2.2.2 == (0 : Int), ())))
                                else
                                (some (α := ODen (T_impl_OpOk_sg N).ps × RDen (T_impl_OpOk_sg N).rs) ((), (false, ()))))
                              else
                              (some (α := ODen (T_impl_OpOk_sg N).ps × RDen (T_impl_OpOk_sg N).rs) ((), (false, ()))))
                            else
                            (bif o1.1 == (12 : Int) then
                              ((T_impl_isKey N o1.2.1).bind fun o200 =>
                                (bif o200.2.1 then
                                  ((T_impl_isReg N o1.2.2.1).bind fun o201 =>
                                    (bif o201.2.1 then
                                      ((T_impl_isReg N o1.2.2.2).bind fun o202 =>
                                        (some (α := ODen (T_impl_OpOk_sg N).ps × RDen (T_impl_OpOk_sg N).rs) ((), (o202.2.1, ()))))
                                      else
                                      (some (α := ODen (T_impl_OpOk_sg N).ps × RDen (T_impl_OpOk_sg N).rs) ((), (false, ())))))
                                  else
                                  (some (α := ODen (T_impl_OpOk_sg N).ps × RDen (T_impl_OpOk_sg N).rs) ((), (false, ())))))
                              else
                              (bif o1.1 == (13 : Int) then
                                ((T_impl_isReg N o1.2.1).bind fun o203 =>
                                  (bif o203.2.1 then
                                    ((T_impl_isKey N o1.2.2.1).bind fun o204 =>
                                      (bif o204.2.1 then
                                        (some (α := ODen (T_impl_OpOk_sg N).ps × RDen (T_impl_OpOk_sg N).rs) ((), (o1.2.2.2 == (0 : Int), ())))
                                        else
                                        (some (α := ODen (T_impl_OpOk_sg N).ps × RDen (T_impl_OpOk_sg N).rs) ((), (false, ())))))
                                    else
                                    (some (α := ODen (T_impl_OpOk_sg N).ps × RDen (T_impl_OpOk_sg N).rs) ((), (false, ())))))
                                else
                                (bif o1.1 == (14 : Int) then
                                  ((T_impl_isKey N o1.2.1).bind fun o205 =>
                                    (bif o205.2.1 then
                                      ((T_impl_isReg N o1.2.2.1).bind fun o206 =>
                                        (bif o206.2.1 then
                                          (some (α := ODen (T_impl_OpOk_sg N).ps × RDen (T_impl_OpOk_sg N).rs) ((), (o1.2.2.2 == (0 : Int), ())))
                                          else
                                          (some (α := ODen (T_impl_OpOk_sg N).ps × RDen (T_impl_OpOk_sg N).rs) ((), (false, ())))))
                                      else
                                      (some (α := ODen (T_impl_OpOk_sg N).ps × RDen (T_impl_OpOk_sg N).rs) ((), (false, ())))))
                                  else
                                  (some (α := ODen (T_impl_OpOk_sg N).ps × RDen (T_impl_OpOk_sg N).rs) ((), (false, ()))))))))))
                    else
                    (bif o1.1 == (16 : Int) then
                      ((T_impl_isReg N o1.2.1).bind fun o207 =>
                        (bif o207.2.1 then
                          (bif o1.2.2.1 == (0 : Int) then
                            (some (α := ODen (T_impl_OpOk_sg N).ps × RDen (T_impl_OpOk_sg N).rs) ((), (o1.2.2.2 == (0 : Int), ())))
                            else
                            (some (α := ODen (T_impl_OpOk_sg N).ps × RDen (T_impl_OpOk_sg N).rs) ((), (false, ()))))
                          else
                          (some (α := ODen (T_impl_OpOk_sg N).ps × RDen (T_impl_OpOk_sg N).rs) ((), (false, ())))))
                      else
                      (bif o1.1 == (9 : Int) then
                        (bif o1.1 == (9 : Int) then
                          (bif o1.2.1 == (0 : Int) then
                            (bif o1.2.2.1 == (0 : Int) then
                              (some (α := ODen (T_impl_OpOk_sg N).ps × RDen (T_impl_OpOk_sg N).rs) ((), (o1.2.2.2 == (0 : Int), ())))
                              else
                              (some (α := ODen (T_impl_OpOk_sg N).ps × RDen (T_impl_OpOk_sg N).rs) ((), (false, ()))))
                            else
                            (some (α := ODen (T_impl_OpOk_sg N).ps × RDen (T_impl_OpOk_sg N).rs) ((), (false, ()))))
                          else
                          (bif o1.1 == (12 : Int) then
                            ((T_impl_isKey N o1.2.1).bind fun o208 =>
                              (bif o208.2.1 then
                                ((T_impl_isReg N o1.2.2.1).bind fun o209 =>
                                  (bif o209.2.1 then
                                    ((T_impl_isReg N o1.2.2.2).bind fun o210 =>
                                      (some (α := ODen (T_impl_OpOk_sg N).ps × RDen (T_impl_OpOk_sg N).rs) ((), (o210.2.1, ()))))
                                    else
                                    (some (α := ODen (T_impl_OpOk_sg N).ps × RDen (T_impl_OpOk_sg N).rs) ((), (false, ())))))
                                else
                                (some (α := ODen (T_impl_OpOk_sg N).ps × RDen (T_impl_OpOk_sg N).rs) ((), (false, ())))))
                            else
                            (bif o1.1 == (13 : Int) then
                              ((T_impl_isReg N o1.2.1).bind fun o211 =>
                                (bif o211.2.1 then
                                  ((T_impl_isKey N o1.2.2.1).bind fun o212 =>
                                    (bif o212.2.1 then
                                      (some (α := ODen (T_impl_OpOk_sg N).ps × RDen (T_impl_OpOk_sg N).rs) ((), (o1.2.2.2 == (0 : Int), ())))
                                      else
                                      (some (α := ODen (T_impl_OpOk_sg N).ps × RDen (T_impl_OpOk_sg N).rs) ((), (false, ())))))
                                  else
                                  (some (α := ODen (T_impl_OpOk_sg N).ps × RDen (T_impl_OpOk_sg N).rs) ((), (false, ())))))
                              else
                              (bif o1.1 == (14 : Int) then
                                ((T_impl_isKey N o1.2.1).bind fun o213 =>
                                  (bif o213.2.1 then
                                    ((T_impl_isReg N o1.2.2.1).bind fun o214 =>
                                      (bif o214.2.1 then
                                        (some (α := ODen (T_impl_OpOk_sg N).ps × RDen (T_impl_OpOk_sg N).rs) ((), (o1.2.2.2 == (0 : Int), ())))
                                        else
                                        (some (α := ODen (T_impl_OpOk_sg N).ps × RDen (T_impl_OpOk_sg N).rs) ((), (false, ())))))
                                    else
                                    (some (α := ODen (T_impl_OpOk_sg N).ps × RDen (T_impl_OpOk_sg N).rs) ((), (false, ())))))
                                else
                                (some (α := ODen (T_impl_OpOk_sg N).ps × RDen (T_impl_OpOk_sg N).rs) ((), (false, ())))))))
                        else
                        (bif o1.1 == (10 : Int) then
                          (bif o1.1 == (10 : Int) then
                            (bif o1.2.1 == (0 : Int) then
                              (bif o1.2.2.1 == (0 : Int) then
                                (some (α := ODen (T_impl_OpOk_sg N).ps × RDen (T_impl_OpOk_sg N).rs) ((), (o1.2.2.2 == (0 : Int), ())))
                                else
                                (some (α := ODen (T_impl_OpOk_sg N).ps × RDen (T_impl_OpOk_sg N).rs) ((), (false, ()))))
                              else
                              (some (α := ODen (T_impl_OpOk_sg N).ps × RDen (T_impl_OpOk_sg N).rs) ((), (false, ()))))
                            else
                            (bif o1.1 == (12 : Int) then
                              ((T_impl_isKey N o1.2.1).bind fun o215 =>
                                (bif o215.2.1 then
                                  ((T_impl_isReg N o1.2.2.1).bind fun o216 =>
                                    (bif o216.2.1 then
                                      ((T_impl_isReg N o1.2.2.2).bind fun o217 =>
                                        (some (α := ODen (T_impl_OpOk_sg N).ps × RDen (T_impl_OpOk_sg N).rs) ((), (o217.2.1, ()))))
                                      else
                                      (some (α := ODen (T_impl_OpOk_sg N).ps × RDen (T_impl_OpOk_sg N).rs) ((), (false, ())))))
                                  else
                                  (some (α := ODen (T_impl_OpOk_sg N).ps × RDen (T_impl_OpOk_sg N).rs) ((), (false, ())))))
                              else
                              (bif o1.1 == (13 : Int) then
                                ((T_impl_isReg N o1.2.1).bind fun o218 =>
                                  (bif o218.2.1 then
                                    ((T_impl_isKey N o1.2.2.1).bind fun o219 =>
                                      (bif o219.2.1 then
                                        (some (α := ODen (T_impl_OpOk_sg N).ps × RDen (T_impl_OpOk_sg N).rs) ((), (o1.2.2.2 == (0 : Int), ())))
                                        else
                                        (some (α := ODen (T_impl_OpOk_sg N).ps × RDen (T_impl_OpOk_sg N).rs) ((), (false, ())))))
                                    else
                                    (some (α := ODen (T_impl_OpOk_sg N).ps × RDen (T_impl_OpOk_sg N).rs) ((), (false, ())))))
                                else
                                (bif o1.1 == (14 : Int) then
                                  ((T_impl_isKey N o1.2.1).bind fun o220 =>
                                    (bif o220.2.1 then
                                      ((T_impl_isReg N o1.2.2.1).bind fun o221 =>
                                        (bif o221.2.1 then
                                          (some (α := ODen (T_impl_OpOk_sg N).ps × RDen (T_impl_OpOk_sg N).rs) ((), (o1.2.2.2 == (0 : Int), ())))
                                          else
                                          (some (α := ODen (T_impl_OpOk_sg N).ps × RDen (T_impl_OpOk_sg N).rs) ((), (false, ())))))
                                      else
                                      (some (α := ODen (T_impl_OpOk_sg N).ps × RDen (T_impl_OpOk_sg N).rs) ((), (false, ())))))
                                  else
                                  (some (α := ODen (T_impl_OpOk_sg N).ps × RDen (T_impl_OpOk_sg N).rs) ((), (false, ())))))))
                          else
                          (bif o1.1 == (11 : Int) then
                            (bif o1.2.1 == (0 : Int) then
                              (bif o1.2.2.1 == (0 : Int) then
                                (some (α := ODen (T_impl_OpOk_sg N).ps × RDen (T_impl_OpOk_sg N).rs) ((), (o1.2.2.2 == (0 : Int), ())))
                                else
                                (some (α := ODen (T_impl_OpOk_sg N).ps × RDen (T_impl_OpOk_sg N).rs) ((), (false, ()))))
                              else
                              (some (α := ODen (T_impl_OpOk_sg N).ps × RDen (T_impl_OpOk_sg N).rs) ((), (false, ()))))
                            else
                            (bif o1.1 == (12 : Int) then
                              ((T_impl_isKey N o1.2.1).bind fun o222 =>
                                (bif o222.2.1 then
                                  ((T_impl_isReg N o1.2.2.1).bind fun o223 =>
                                    (bif o223.2.1 then
                                      ((T_impl_isReg N o1.2.2.2).bind fun o224 =>
                                        (some (α := ODen (T_impl_OpOk_sg N).ps × RDen (T_impl_OpOk_sg N).rs) ((), (o224.2.1, ()))))
                                      else
                                      (some (α := ODen (T_impl_OpOk_sg N).ps × RDen (T_impl_OpOk_sg N).rs) ((), (false, ())))))
                                  else
                                  (some (α := ODen (T_impl_OpOk_sg N).ps × RDen (T_impl_OpOk_sg N).rs) ((), (false, ())))))
                              else
                              (bif o1.1 == (13 : Int) then
                                ((T_impl_isReg N o1.2.1).bind fun o225 =>
                                  (bif o225.2.1 then
                                    ((T_impl_isKey N o1.2.2.1).bind fun o226 =>
                                      (bif o226.2.1 then
                                        (some (α := ODen (T_impl_OpOk_sg N).ps × RDen (T_impl_OpOk_sg N).rs) ((), (o1.2.2.2 == (0 : Int), ())))
                                        else
                                        (some (α := ODen (T_impl_OpOk_sg N).ps × RDen (T_impl_OpOk_sg N).rs) ((), (false, ())))))
                                    else
                                    (some (α := ODen (T_impl_OpOk_sg N).ps × RDen (T_impl_OpOk_sg N).rs) ((), (false, ())))))
                                else
                                (bif o1.1 == (14 : Int) then
                                  ((T_impl_isKey N o1.2.1).bind fun o227 =>
                                    (bif o227.2.1 then
                                      ((T_impl_isReg N o1.2.2.1).bind fun o228 =>
                                        (bif o228.2.1 then
                                          (some (α := ODen (T_impl_OpOk_sg N).ps × RDen (T_impl_OpOk_sg N).rs) ((), (o1.2.2.2 == (0 : Int), ())))
                                          else
                                          (some (α := ODen (T_impl_OpOk_sg N).ps × RDen (T_impl_OpOk_sg N).rs) ((), (false, ())))))
                                      else
                                      (some (α := ODen (T_impl_OpOk_sg N).ps × RDen (T_impl_OpOk_sg N).rs) ((), (false, ())))))
                                  else
                                  (some (α := ODen (T_impl_OpOk_sg N).ps × RDen (T_impl_OpOk_sg N).rs) ((), (false, ()))))))))))))))))))) := by kernel_rfl

theorem T_impl_OpOk_ok (N : Nat) : chkBody Try.f166 (T_impl_OpOk_sg N).ps = true := by kernel_rfl

theorem T_impl_OpOk_callable : Callable Try.prog 166 := callable_of Try.func166 (show chkFn Try.f166 = true by kernel_rfl)

theorem T_impl_OpOk_good (N : Nat) : Good Try.prog 166 (T_impl_OpOk_sg N) :=
  good_body mixedOk tabOk (ctx_cons (T_impl_isReg_good N) T_impl_isReg_callable (ctx_cons (T_impl_isValue_good N) T_impl_isValue_callable (ctx_cons (T_impl_isCell_good N) T_impl_isCell_callable (ctx_cons (T_impl_within_good N) T_impl_within_callable (ctx_cons (T_impl_isKey_good N) T_impl_isKey_callable ctx_nil))))) Try.func166 (T_impl_OpOk_ok N) (fun d _ h => ⟨N, (T_impl_OpOk_den N d.1).trans h⟩)

noncomputable def T_impl_Touches_sg (N : Nat) : Sig := Sig.of [.v (.prod (.int .i64) (.prod (.int .i64) (.prod (.int .i64) (.int .i64)))) true] [.v (.int .i64) false] (fun d => T_impl_Touches N d.1)

def T_impl_Touches_ann : Nat → List Ghost
  | _ => []

noncomputable def T_impl_Touches_ctx (N : Nat) : Ctx := [(166, T_impl_OpOk_sg N)]

theorem T_impl_Touches_den (N : Nat) (o1 : Int × Int × Int × Int) :
    den (R := ODen (T_impl_Touches_sg N).ps × RDen (T_impl_Touches_sg N).rs) tab (T_impl_Touches_ctx N) T_impl_Touches_ann N (T_impl_Touches_sg N) Try.f135 (o1, ()) some =
    ((T_impl_OpOk N o1).bind fun o2 =>
    (bif !o2.2.1 then
      (some (α := ODen (T_impl_Touches_sg N).ps × RDen (T_impl_Touches_sg N).rs) ((), ((0 : Int), ())))
      else
      (bif o1.1 == (5 : Int) then
        (bif o1.1 == (5 : Int) then
          (some (α := ODen (T_impl_Touches_sg N).ps × RDen (T_impl_Touches_sg N).rs) ((), ((1 : Int), ())))
          else
          (bif o1.1 == (12 : Int) then
            (bif o1.1 == (12 : Int) then
              (some (α := ODen (T_impl_Touches_sg N).ps × RDen (T_impl_Touches_sg N).rs) ((), ((2 : Int), ())))
              else
              (some (α := ODen (T_impl_Touches_sg N).ps × RDen (T_impl_Touches_sg N).rs) ((), ((0 : Int), ()))))
            else
            (bif o1.1 == (13 : Int) then
              (bif o1.1 == (13 : Int) then
                (some (α := ODen (T_impl_Touches_sg N).ps × RDen (T_impl_Touches_sg N).rs) ((), ((2 : Int), ())))
                else
                (some (α := ODen (T_impl_Touches_sg N).ps × RDen (T_impl_Touches_sg N).rs) ((), ((0 : Int), ()))))
              else
              (bif o1.1 == (14 : Int) then
                (bif o1.1 == (14 : Int) then
                  (some (α := ODen (T_impl_Touches_sg N).ps × RDen (T_impl_Touches_sg N).rs) ((), ((2 : Int), ())))
                  else
                  (some (α := ODen (T_impl_Touches_sg N).ps × RDen (T_impl_Touches_sg N).rs) ((), ((0 : Int), ()))))
                else
                (bif o1.1 == (15 : Int) then
                  (bif o1.1 == (15 : Int) then
                    (some (α := ODen (T_impl_Touches_sg N).ps × RDen (T_impl_Touches_sg N).rs) ((), ((2 : Int), ())))
                    else
                    (some (α := ODen (T_impl_Touches_sg N).ps × RDen (T_impl_Touches_sg N).rs) ((), ((0 : Int), ()))))
                  else
                  (bif o1.1 == (16 : Int) then
                    (some (α := ODen (T_impl_Touches_sg N).ps × RDen (T_impl_Touches_sg N).rs) ((), ((2 : Int), ())))
                    else
                    (some (α := ODen (T_impl_Touches_sg N).ps × RDen (T_impl_Touches_sg N).rs) ((), ((0 : Int), ())))))))))
        else
        (bif o1.1 == (6 : Int) then
          (some (α := ODen (T_impl_Touches_sg N).ps × RDen (T_impl_Touches_sg N).rs) ((), ((1 : Int), ())))
          else
          (bif o1.1 == (12 : Int) then
            (bif o1.1 == (12 : Int) then
              (some (α := ODen (T_impl_Touches_sg N).ps × RDen (T_impl_Touches_sg N).rs) ((), ((2 : Int), ())))
              else
              (some (α := ODen (T_impl_Touches_sg N).ps × RDen (T_impl_Touches_sg N).rs) ((), ((0 : Int), ()))))
            else
            (bif o1.1 == (13 : Int) then
              (bif o1.1 == (13 : Int) then
                (some (α := ODen (T_impl_Touches_sg N).ps × RDen (T_impl_Touches_sg N).rs) ((), ((2 : Int), ())))
                else
                (some (α := ODen (T_impl_Touches_sg N).ps × RDen (T_impl_Touches_sg N).rs) ((), ((0 : Int), ()))))
              else
              (bif o1.1 == (14 : Int) then
                (bif o1.1 == (14 : Int) then
                  (some (α := ODen (T_impl_Touches_sg N).ps × RDen (T_impl_Touches_sg N).rs) ((), ((2 : Int), ())))
                  else
                  (some (α := ODen (T_impl_Touches_sg N).ps × RDen (T_impl_Touches_sg N).rs) ((), ((0 : Int), ()))))
                else
                (bif o1.1 == (15 : Int) then
                  (bif o1.1 == (15 : Int) then
                    (some (α := ODen (T_impl_Touches_sg N).ps × RDen (T_impl_Touches_sg N).rs) ((), ((2 : Int), ())))
                    else
                    (some (α := ODen (T_impl_Touches_sg N).ps × RDen (T_impl_Touches_sg N).rs) ((), ((0 : Int), ()))))
                  else
                  (bif o1.1 == (16 : Int) then
                    (some (α := ODen (T_impl_Touches_sg N).ps × RDen (T_impl_Touches_sg N).rs) ((), ((2 : Int), ())))
                    else
                    (some (α := ODen (T_impl_Touches_sg N).ps × RDen (T_impl_Touches_sg N).rs) ((), ((0 : Int), ())))))))))))) := by kernel_rfl

theorem T_impl_Touches_ok (N : Nat) : chkBody Try.f135 (T_impl_Touches_sg N).ps = true := by kernel_rfl

theorem T_impl_Touches_callable : Callable Try.prog 135 := callable_of Try.func135 (show chkFn Try.f135 = true by kernel_rfl)

theorem T_impl_Touches_good (N : Nat) : Good Try.prog 135 (T_impl_Touches_sg N) :=
  good_body mixedOk tabOk (ctx_cons (T_impl_OpOk_good N) T_impl_OpOk_callable ctx_nil) Try.func135 (T_impl_Touches_ok N) (fun d _ h => ⟨N, (T_impl_Touches_den N d.1).trans h⟩)

noncomputable def T_impl_opens_sg (N : Nat) : Sig := Sig.of [.v (.prod (.int .i64) (.prod (.int .i64) (.prod (.int .i64) (.int .i64)))) true] [.v (.int .i64) false] (fun d => T_impl_opens N d.1)

def T_impl_opens_ann : Nat → List Ghost
  | _ => []

noncomputable def T_impl_opens_ctx (N : Nat) : Ctx := []

theorem T_impl_opens_den (N : Nat) (o1 : Int × Int × Int × Int) :
    den (R := ODen (T_impl_opens_sg N).ps × RDen (T_impl_opens_sg N).rs) tab (T_impl_opens_ctx N) T_impl_opens_ann N (T_impl_opens_sg N) Try.f182 (o1, ()) some =
    (bif o1.1 == (8 : Int) then
    (some (α := ODen (T_impl_opens_sg N).ps × RDen (T_impl_opens_sg N).rs) ((), ((1 : Int), ())))
    else
    (bif o1.1 == (9 : Int) then
      (some (α := ODen (T_impl_opens_sg N).ps × RDen (T_impl_opens_sg N).rs) ((), ((-1 : Int), ())))
      else
      (some (α := ODen (T_impl_opens_sg N).ps × RDen (T_impl_opens_sg N).rs) ((), ((0 : Int), ()))))) := by kernel_rfl

theorem T_impl_opens_ok (N : Nat) : chkBody Try.f182 (T_impl_opens_sg N).ps = true := by kernel_rfl

theorem T_impl_opens_callable : Callable Try.prog 182 := callable_of Try.func182 (show chkFn Try.f182 = true by kernel_rfl)

theorem T_impl_opens_good (N : Nat) : Good Try.prog 182 (T_impl_opens_sg N) :=
  good_body mixedOk tabOk ctx_nil Try.func182 (T_impl_opens_ok N) (fun d _ h => ⟨N, (T_impl_opens_den N d.1).trans h⟩)

noncomputable def T_impl_isBalanced_sg (N : Nat) : Sig := Sig.of [.v (.slice (.prod (.int .i64) (.prod (.int .i64) (.prod (.int .i64) (.int .i64))))) false] [.v (.bool) false] (fun d => T_impl_isBalanced N d.1)

def T_impl_isBalanced_ann : Nat → List Ghost
  | 3 => [.canon [3, 6, 7, 8, 9]]
  | 4 => [.canon [3, 5, 6, 7, 8]]
  | 5 => [.canon [3, 6, 7, 8]]
  | 6 => [.canon [3, 6, 7, 8, 17]]
  | 7 => [.canon [2]]
  | 8 => [.canon [3, 6, 7, 8]]
  | 100003 => [.canon [3, 6, 7, 8]]
  | _ => []

noncomputable def T_impl_isBalanced_ctx (N : Nat) : Ctx := [(182, T_impl_opens_sg N)]

def T_impl_isBalanced_lp0_sh (n2 : Int) (t3 : List (Int × Int × Int × Int)) (t5 : Int) : St := { env := [(3, .s (.one (.val (.int .i64) (n2 : Int)))), (6, .s (.one (.val (.slice (.prod (.int .i64) (.prod (.int .i64) (.prod (.int .i64) (.int .i64))))) (t3 : List (Int × Int × Int × Int))))), (7, .s (.one (.val (.int .i64) (ilen t3 : Int)))), (8, .s (.one (.val (.int .i64) (t5 : Int))))], objs := [], nx := 0 }

def T_impl_isBalanced_lp0_e0 (t3 : List (Int × Int × Int × Int)) : St := { env := [(2, .s (.one (.val (.bool) (false : Bool))))], objs := [], nx := 0 }

def T_impl_isBalanced_lp0_e1 (t3 : List (Int × Int × Int × Int)) (n8 : Int) (t9 : Int) (t10 : Bool) : St := { env := [(3, .s (.one (.val (.int .i64) (n8 : Int)))), (6, .s (.one (.val (.slice (.prod (.int .i64) (.prod (.int .i64) (.prod (.int .i64) (.int .i64))))) (t3 : List (Int × Int × Int × Int))))), (7, .s (.one (.val (.int .i64) (ilen t3 : Int)))), (8, .s (.one (.val (.int .i64) (t9 : Int)))), (9, .s (.one (.val (.bool) (t10 : Bool))))], objs := [], nx := 0 }

noncomputable def T_impl_isBalanced_lp0_m (N : Nat) {R : Type} (n : Nat) (st : St) (K : Ex → St → Option R) : Option R := loopN (roundG (T_impl_isBalanced_ann 100003) fun st k => sx tab (T_impl_isBalanced_ctx N) T_impl_isBalanced_ann N (nthLoop Try.f167 0) st k) n st K

theorem T_impl_isBalanced_lp0_step (N : Nat) {R : Type} (n : Nat) (K : Ex → St → Option R) (n2 : Int) (t3 : List (Int × Int × Int × Int)) (t5 : Int) :
    T_impl_isBalanced_lp0_m N (n + 1) (T_impl_isBalanced_lp0_sh n2 t3 t5) K =
    (bif decide (t5 < (ilen t3)) then
    (bif inb t5 (List.length t3) then
      ((T_impl_opens N (List.getD t3 (Int.toNat t5) ((0 : Int), ((0 : Int), ((0 : Int), (0 : Int)))))).bind fun o11 =>
        (bif decide ((iadd .i64 n2 o11.2.1) < (0 : Int)) then
          (K .ret (T_impl_isBalanced_lp0_e0 t3))
          else
          (T_impl_isBalanced_lp0_m N n (T_impl_isBalanced_lp0_sh (iadd .i64 n2 o11.2.1) t3 (iadd .i64 t5 (1 : Int))) K))) else none)
    else
    (K (.exit 0) (T_impl_isBalanced_lp0_e1 t3 n2 t5 (decide (t5 < (ilen t3)))))) := by kernel_rfl

theorem T_impl_isBalanced_lp0_eq (N : Nat) {R : Type} (t3 : List (Int × Int × Int × Int)) (K : Ex → St → Option R) : ∀ (n : Nat) (n2 : Int) (t5 : Int), T_impl_isBalanced_lp0_m N n (T_impl_isBalanced_lp0_sh n2 t3 t5) K = T_impl_isBalanced_lp0 N t3 (K .ret (T_impl_isBalanced_lp0_e0 t3)) (fun n8 t9 t10 => (K (.exit 0) (T_impl_isBalanced_lp0_e1 t3 n8 t9 t10))) n n2 t5
  | 0, _, _ => rfl
  | n + 1, n2, t5 => by rw [T_impl_isBalanced_lp0_step, T_impl_isBalanced_lp0]; (try simp only [T_impl_isBalanced_lp0_eq N t3 K n])

theorem T_impl_isBalanced_c1 (N : Nat) (code1 : List (Int × Int × Int × Int)) :
    ((ctxK (R := ODen (T_impl_isBalanced_sg N).ps × RDen (T_impl_isBalanced_sg N).rs) tab (T_impl_isBalanced_ctx N) T_impl_isBalanced_ann N (theCode Try.f167) [1, 1, 0, 1, 0] (retK tab (T_impl_isBalanced_sg N) Try.f167.results.toList some)) .ret (T_impl_isBalanced_lp0_e0 code1)) =
    (some (α := ODen (T_impl_isBalanced_sg N).ps × RDen (T_impl_isBalanced_sg N).rs) ((), (false, ()))) := by kernel_rfl

theorem T_impl_isBalanced_c2 (N : Nat) (code1 : List (Int × Int × Int × Int)) (n12 : Int) (t13 : Int) (t14 : Bool) :
    ((ctxK (R := ODen (T_impl_isBalanced_sg N).ps × RDen (T_impl_isBalanced_sg N).rs) tab (T_impl_isBalanced_ctx N) T_impl_isBalanced_ann N (theCode Try.f167) [1, 1, 0, 1, 0] (retK tab (T_impl_isBalanced_sg N) Try.f167.results.toList some)) (.exit 0) (T_impl_isBalanced_lp0_e1 code1 n12 t13 t14)) =
    (some (α := ODen (T_impl_isBalanced_sg N).ps × RDen (T_impl_isBalanced_sg N).rs) ((), (n12 == (0 : Int), ()))) := by kernel_rfl

theorem T_impl_isBalanced_den (N : Nat) (code1 : List (Int × Int × Int × Int)) :
    den (R := ODen (T_impl_isBalanced_sg N).ps × RDen (T_impl_isBalanced_sg N).rs) tab (T_impl_isBalanced_ctx N) T_impl_isBalanced_ann N (T_impl_isBalanced_sg N) Try.f167 (code1, ()) some =
    (T_impl_isBalanced_lp0 N code1
    (some (α := ODen (T_impl_isBalanced_sg N).ps × RDen (T_impl_isBalanced_sg N).rs) ((), (false, ())))
    (fun n12 t13 t14 =>
      (some (α := ODen (T_impl_isBalanced_sg N).ps × RDen (T_impl_isBalanced_sg N).rs) ((), (n12 == (0 : Int), ()))))
     N (0 : Int) (0 : Int)) := by
  have h : den (R := ODen (T_impl_isBalanced_sg N).ps × RDen (T_impl_isBalanced_sg N).rs) tab (T_impl_isBalanced_ctx N) T_impl_isBalanced_ann N (T_impl_isBalanced_sg N) Try.f167 (code1, ()) some =
    (T_impl_isBalanced_lp0_m N N (T_impl_isBalanced_lp0_sh (0 : Int) code1 (0 : Int)) (ctxK (R := ODen (T_impl_isBalanced_sg N).ps × RDen (T_impl_isBalanced_sg N).rs) tab (T_impl_isBalanced_ctx N) T_impl_isBalanced_ann N (theCode Try.f167) [1, 1, 0, 1, 0] (retK tab (T_impl_isBalanced_sg N) Try.f167.results.toList some))) := by kernel_rfl
  rw [h]
  (try simp only [T_impl_isBalanced_lp0_eq, T_impl_isBalanced_c1, T_impl_isBalanced_c2]) <;> rfl

theorem T_impl_isBalanced_ok (N : Nat) : chkBody Try.f167 (T_impl_isBalanced_sg N).ps = true := by kernel_rfl

theorem T_impl_isBalanced_callable : Callable Try.prog 167 := callable_of Try.func167 (show chkFn Try.f167 = true by kernel_rfl)

theorem T_impl_isBalanced_good (N : Nat) : Good Try.prog 167 (T_impl_isBalanced_sg N) :=
  good_body mixedOk tabOk (ctx_cons (T_impl_opens_good N) T_impl_opens_callable ctx_nil) Try.func167 (T_impl_isBalanced_ok N) (fun d _ h => ⟨N, (T_impl_isBalanced_den N d.1).trans h⟩)

noncomputable def T_impl_DepthAt_sg (N : Nat) : Sig := Sig.of [.v (.slice (.prod (.int .i64) (.prod (.int .i64) (.prod (.int .i64) (.int .i64))))) false, .v (.int .i64) false] [.v (.int .i64) false] (fun d => T_impl_DepthAt N d.1 d.2.1)

def T_impl_DepthAt_ann : Nat → List Ghost
  | 3 => [.canon [1, 5, 8, 9, 10, 11]]
  | 4 => [.canon [1, 5, 6, 7, 8, 9, 10]]
  | 5 => [.canon [1, 5, 7, 8, 9, 10, 17]]
  | 6 => [.canon [1, 5, 8, 9, 10]]
  | 7 => [.canon [1, 5, 8, 9, 10]]
  | 100003 => [.canon [1, 5, 8, 9, 10]]
  | _ => []

noncomputable def T_impl_DepthAt_ctx (N : Nat) : Ctx := [(182, T_impl_opens_sg N)]

def T_impl_DepthAt_lp0_sh (i3 : Int) (n4 : Int) (t5 : List (Int × Int × Int × Int)) (t7 : Int) : St := { env := [(1, .s (.one (.val (.int .i64) (i3 : Int)))), (5, .s (.one (.val (.int .i64) (n4 : Int)))), (8, .s (.one (.val (.slice (.prod (.int .i64) (.prod (.int .i64) (.prod (.int .i64) (.int .i64))))) (t5 : List (Int × Int × Int × Int))))), (9, .s (.one (.val (.int .i64) (ilen t5 : Int)))), (10, .s (.one (.val (.int .i64) (t7 : Int))))], objs := [], nx := 0 }

def T_impl_DepthAt_lp0_e0 (i3 : Int) (t5 : List (Int × Int × Int × Int)) (n10 : Int) (t11 : Int) (t12 : Bool) : St := { env := [(1, .s (.one (.val (.int .i64) (i3 : Int)))), (5, .s (.one (.val (.int .i64) (n10 : Int)))), (8, .s (.one (.val (.slice (.prod (.int .i64) (.prod (.int .i64) (.prod (.int .i64) (.int .i64))))) (t5 : List (Int × Int × Int × Int))))), (9, .s (.one (.val (.int .i64) (ilen t5 : Int)))), (10, .s (.one (.val (.int .i64) (t11 : Int)))), (11, .s (.one (.val (.bool) (t12 : Bool))))], objs := [], nx := 0 }

noncomputable def T_impl_DepthAt_lp0_m (N : Nat) {R : Type} (n : Nat) (st : St) (K : Ex → St → Option R) : Option R := loopN (roundG (T_impl_DepthAt_ann 100003) fun st k => sx tab (T_impl_DepthAt_ctx N) T_impl_DepthAt_ann N (nthLoop Try.f168 0) st k) n st K

theorem T_impl_DepthAt_lp0_step (N : Nat) {R : Type} (n : Nat) (K : Ex → St → Option R) (i3 : Int) (n4 : Int) (t5 : List (Int × Int × Int × Int)) (t7 : Int) :
    T_impl_DepthAt_lp0_m N (n + 1) (T_impl_DepthAt_lp0_sh i3 n4 t5 t7) K =
    (bif decide (t7 < (ilen t5)) then
    (bif inb t7 (List.length t5) then
      (bif decide (t7 < i3) then
        ((T_impl_opens N (List.getD t5 (Int.toNat t7) ((0 : Int), ((0 : Int), ((0 : Int), (0 : Int)))))).bind fun o13 =>
          (T_impl_DepthAt_lp0_m N n (T_impl_DepthAt_lp0_sh i3 (iadd .i64 n4 o13.2.1) t5 (iadd .i64 t7 (1 : Int))) K))
        else
        (T_impl_DepthAt_lp0_m N n (T_impl_DepthAt_lp0_sh i3 n4 t5 (iadd .i64 t7 (1 : Int))) K)) else none)
    else
    (K (.exit 0) (T_impl_DepthAt_lp0_e0 i3 t5 n4 t7 (decide (t7 < (ilen t5)))))) := by kernel_rfl

theorem T_impl_DepthAt_lp0_eq (N : Nat) {R : Type} (i3 : Int) (t5 : List (Int × Int × Int × Int)) (K : Ex → St → Option R) : ∀ (n : Nat) (n4 : Int) (t7 : Int), T_impl_DepthAt_lp0_m N n (T_impl_DepthAt_lp0_sh i3 n4 t5 t7) K = T_impl_DepthAt_lp0 N i3 t5 (fun n10 t11 t12 => (K (.exit 0) (T_impl_DepthAt_lp0_e0 i3 t5 n10 t11 t12))) n n4 t7
  | 0, _, _ => rfl
  | n + 1, n4, t7 => by rw [T_impl_DepthAt_lp0_step, T_impl_DepthAt_lp0]; (try simp only [T_impl_DepthAt_lp0_eq N i3 t5 K n])

theorem T_impl_DepthAt_c1 (N : Nat) (i2 : Int) (code1 : List (Int × Int × Int × Int)) (n14 : Int) (t15 : Int) (t16 : Bool) :
    ((ctxK (R := ODen (T_impl_DepthAt_sg N).ps × RDen (T_impl_DepthAt_sg N).rs) tab (T_impl_DepthAt_ctx N) T_impl_DepthAt_ann N (theCode Try.f168) [1, 1, 0, 1, 0] (retK tab (T_impl_DepthAt_sg N) Try.f168.results.toList some)) (.exit 0) (T_impl_DepthAt_lp0_e0 i2 code1 n14 t15 t16)) =
    (some (α := ODen (T_impl_DepthAt_sg N).ps × RDen (T_impl_DepthAt_sg N).rs) ((), (n14, ()))) := by kernel_rfl

theorem T_impl_DepthAt_den (N : Nat) (code1 : List (Int × Int × Int × Int)) (i2 : Int) :
    den (R := ODen (T_impl_DepthAt_sg N).ps × RDen (T_impl_DepthAt_sg N).rs) tab (T_impl_DepthAt_ctx N) T_impl_DepthAt_ann N (T_impl_DepthAt_sg N) Try.f168 (code1, i2, ()) some =
    (T_impl_DepthAt_lp0 N i2 code1
    (fun n14 t15 t16 =>
      (some (α := ODen (T_impl_DepthAt_sg N).ps × RDen (T_impl_DepthAt_sg N).rs) ((), (n14, ()))))
     N (0 : Int) (0 : Int)) := by
  have h : den (R := ODen (T_impl_DepthAt_sg N).ps × RDen (T_impl_DepthAt_sg N).rs) tab (T_impl_DepthAt_ctx N) T_impl_DepthAt_ann N (T_impl_DepthAt_sg N) Try.f168 (code1, i2, ()) some =
    (T_impl_DepthAt_lp0_m N N (T_impl_DepthAt_lp0_sh i2 (0 : Int) code1 (0 : Int)) (ctxK (R := ODen (T_impl_DepthAt_sg N).ps × RDen (T_impl_DepthAt_sg N).rs) tab (T_impl_DepthAt_ctx N) T_impl_DepthAt_ann N (theCode Try.f168) [1, 1, 0, 1, 0] (retK tab (T_impl_DepthAt_sg N) Try.f168.results.toList some))) := by kernel_rfl
  rw [h]
  (try simp only [T_impl_DepthAt_lp0_eq, T_impl_DepthAt_c1]) <;> rfl

theorem T_impl_DepthAt_ok (N : Nat) : chkBody Try.f168 (T_impl_DepthAt_sg N).ps = true := by kernel_rfl

theorem T_impl_DepthAt_callable : Callable Try.prog 168 := callable_of Try.func168 (show chkFn Try.f168 = true by kernel_rfl)

theorem T_impl_DepthAt_good (N : Nat) : Good Try.prog 168 (T_impl_DepthAt_sg N) :=
  good_body mixedOk tabOk (ctx_cons (T_impl_opens_good N) T_impl_opens_callable ctx_nil) Try.func168 (T_impl_DepthAt_ok N) (fun d _ h => ⟨N, (T_impl_DepthAt_den N d.1 d.2.1).trans h⟩)

noncomputable def T_impl_CodeOk_sg (N : Nat) : Sig := Sig.of [.v (.slice (.prod (.int .i64) (.prod (.int .i64) (.prod (.int .i64) (.int .i64))))) false] [.v (.bool) false] (fun d => T_impl_CodeOk N d.1)

def T_impl_CodeOk_ann : Nat → List Ghost
  | 5 => [.canon [0, 3, 14, 15, 16, 17]]
  | 6 => [.canon [0, 3, 4, 5, 14, 15, 16]]
  | 7 => [.canon [0, 3, 4, 5, 14, 15, 16, 23]]
  | 8 => [.canon [2]]
  | 9 => [.canon [0, 3, 4, 5, 14, 15, 16, 25]]
  | 10 => [.canon [0, 3, 4, 5, 14, 15, 16, 25, 26]]
  | 11 => [.canon [0, 3, 14, 15, 16, 48]]
  | 12 => [.canon [2]]
  | 13 => [.canon [0, 3, 4, 14, 15, 16, 49]]
  | 14 => [.canon [0, 3, 4, 14, 15, 16]]
  | 15 => [.canon [0, 3, 14, 15, 16, 60]]
  | 16 => [.canon [2]]
  | 17 => [.canon [0, 3, 14, 15, 16]]
  | 100005 => [.canon [0, 3, 14, 15, 16]]
  | _ => []

noncomputable def T_impl_CodeOk_ctx (N : Nat) : Ctx := [(167, T_impl_isBalanced_sg N), (166, T_impl_OpOk_sg N), (168, T_impl_DepthAt_sg N)]

def T_impl_CodeOk_lp0_sh (code3 : List (Int × Int × Int × Int)) (forks4 : Int) (t7 : Int) : St := { env := [(0, .s (.one (.val (.slice (.prod (.int .i64) (.prod (.int .i64) (.prod (.int .i64) (.int .i64))))) (code3 : List (Int × Int × Int × Int))))), (3, .s (.one (.val (.int .i64) (forks4 : Int)))), (14, .s (.one (.val (.slice (.prod (.int .i64) (.prod (.int .i64) (.prod (.int .i64) (.int .i64))))) (code3 : List (Int × Int × Int × Int))))), (15, .s (.one (.val (.int .i64) (ilen code3 : Int)))), (16, .s (.one (.val (.int .i64) (t7 : Int))))], objs := [], nx := 0 }

def T_impl_CodeOk_lp0_e0 (code3 : List (Int × Int × Int × Int)) : St := { env := [(2, .s (.one (.val (.bool) (false : Bool))))], objs := [], nx := 0 }

def T_impl_CodeOk_lp0_e1 (code3 : List (Int × Int × Int × Int)) (forks14 : Int) (t15 : Int) (t16 : Bool) : St := { env := [(0, .s (.one (.val (.slice (.prod (.int .i64) (.prod (.int .i64) (.prod (.int .i64) (.int .i64))))) (code3 : List (Int × Int × Int × Int))))), (3, .s (.one (.val (.int .i64) (forks14 : Int)))), (14, .s (.one (.val (.slice (.prod (.int .i64) (.prod (.int .i64) (.prod (.int .i64) (.int .i64))))) (code3 : List (Int × Int × Int × Int))))), (15, .s (.one (.val (.int .i64) (ilen code3 : Int)))), (16, .s (.one (.val (.int .i64) (t15 : Int)))), (17, .s (.one (.val (.bool) (t16 : Bool))))], objs := [], nx := 0 }

noncomputable def T_impl_CodeOk_lp0_m (N : Nat) {R : Type} (n : Nat) (st : St) (K : Ex → St → Option R) : Option R := loopN (roundG (T_impl_CodeOk_ann 100005) fun st k => sx tab (T_impl_CodeOk_ctx N) T_impl_CodeOk_ann N (nthLoop Try.f136 0) st k) n st K

theorem T_impl_CodeOk_lp0_step (N : Nat) {R : Type} (n : Nat) (K : Ex → St → Option R) (code3 : List (Int × Int × Int × Int)) (forks4 : Int) (t7 : Int) :
    T_impl_CodeOk_lp0_m N (n + 1) (T_impl_CodeOk_lp0_sh code3 forks4 t7) K =
    (bif decide (t7 < (ilen code3)) then
    (bif inb t7 (List.length code3) then
      ((T_impl_OpOk N (List.getD code3 (Int.toNat t7) ((0 : Int), ((0 : Int), ((0 : Int), (0 : Int)))))).bind fun o17 =>
        (bif !o17.2.1 then
          (K .ret (T_impl_CodeOk_lp0_e0 code3))
          else
          (bif (List.getD code3 (Int.toNat t7) ((0 : Int), ((0 : Int), ((0 : Int), (0 : Int))))).1 == (7 : Int) then
            (bif decide ((iadd .i64 (iadd .i64 t7 (1 : Int)) (List.getD code3 (Int.toNat t7) ((0 : Int), ((0 : Int), ((0 : Int), (0 : Int))))).2.2.1) > (ilen code3)) then
              (K .ret (T_impl_CodeOk_lp0_e0 code3))
              else
              (bif (((decide ((0 : Int) ≤ (iadd .i64 (iadd .i64 t7 (1 : Int)) (List.getD code3 (Int.toNat t7) ((0 : Int), ((0 : Int), ((0 : Int), (0 : Int))))).2.2.1))) && (decide ((iadd .i64 (iadd .i64 t7 (1 : Int)) (List.getD code3 (Int.toNat t7) ((0 : Int), ((0 : Int), ((0 : Int), (0 : Int))))).2.2.1) ≤ ((List.length code3) : Int)))) && (decide ((0 : Int) ≤ (iadd .i64 t7 (1 : Int))))) && (decide ((iadd .i64 t7 (1 : Int)) ≤ (iadd .i64 (iadd .i64 t7 (1 : Int)) (List.getD code3 (Int.toNat t7) ((0 : Int), ((0 : Int), ((0 : Int), (0 : Int))))).2.2.1))) then
                ((T_impl_isBalanced N (List.drop (Int.toNat (iadd .i64 t7 (1 : Int))) (List.take (Int.toNat (iadd .i64 (iadd .i64 t7 (1 : Int)) (List.getD code3 (Int.toNat t7) ((0 : Int), ((0 : Int), ((0 : Int), (0 : Int))))).2.2.1)) code3))).bind fun o18 =>
                  (bif !o18.2.1 then
                    (K .ret (T_impl_CodeOk_lp0_e0 code3))
                    else
                    (T_impl_CodeOk_lp0_m N n (T_impl_CodeOk_lp0_sh code3 forks4 (iadd .i64 t7 (1 : Int))) K))) else none))
            else
            (bif (List.getD code3 (Int.toNat t7) ((0 : Int), ((0 : Int), ((0 : Int), (0 : Int))))).1 == (11 : Int) then
              (bif decide ((iadd .i64 forks4 (1 : Int)) > (1 : Int)) then
                (K .ret (T_impl_CodeOk_lp0_e0 code3))
                else
                ((T_impl_DepthAt N code3 t7).bind fun o19 =>
                  (bif o19.2.1 != (0 : Int) then
                    (K .ret (T_impl_CodeOk_lp0_e0 code3))
                    else
                    (T_impl_CodeOk_lp0_m N n (T_impl_CodeOk_lp0_sh code3 (iadd .i64 forks4 (1 : Int)) (iadd .i64 t7 (1 : Int))) K))))
              else
              (T_impl_CodeOk_lp0_m N n (T_impl_CodeOk_lp0_sh code3 forks4 (iadd .i64 t7 (1 : Int))) K))))) else none)
    else
    (K (.exit 0) (T_impl_CodeOk_lp0_e1 code3 forks4 t7 (decide (t7 < (ilen code3)))))) := by kernel_rfl

theorem T_impl_CodeOk_lp0_eq (N : Nat) {R : Type} (code3 : List (Int × Int × Int × Int)) (K : Ex → St → Option R) : ∀ (n : Nat) (forks4 : Int) (t7 : Int), T_impl_CodeOk_lp0_m N n (T_impl_CodeOk_lp0_sh code3 forks4 t7) K = T_impl_CodeOk_lp0 N code3 (K .ret (T_impl_CodeOk_lp0_e0 code3)) (fun forks14 t15 t16 => (K (.exit 0) (T_impl_CodeOk_lp0_e1 code3 forks14 t15 t16))) n forks4 t7
  | 0, _, _ => rfl
  | n + 1, forks4, t7 => by rw [T_impl_CodeOk_lp0_step, T_impl_CodeOk_lp0]; (try simp only [T_impl_CodeOk_lp0_eq N code3 K n])

theorem T_impl_CodeOk_c1 (N : Nat) (code1 : List (Int × Int × Int × Int)) :
    ((ctxK (R := ODen (T_impl_CodeOk_sg N).ps × RDen (T_impl_CodeOk_sg N).rs) tab (T_impl_CodeOk_ctx N) T_impl_CodeOk_ann N (theCode Try.f136) [1, 1, 1, 0, 1, 0] (retK tab (T_impl_CodeOk_sg N) Try.f136.results.toList some)) .ret (T_impl_CodeOk_lp0_e0 code1)) =
    (some (α := ODen (T_impl_CodeOk_sg N).ps × RDen (T_impl_CodeOk_sg N).rs) ((), (false, ()))) := by kernel_rfl

theorem T_impl_CodeOk_c2 (N : Nat) (code1 : List (Int × Int × Int × Int)) (forks20 : Int) (t21 : Int) (t22 : Bool) :
    ((ctxK (R := ODen (T_impl_CodeOk_sg N).ps × RDen (T_impl_CodeOk_sg N).rs) tab (T_impl_CodeOk_ctx N) T_impl_CodeOk_ann N (theCode Try.f136) [1, 1, 1, 0, 1, 0] (retK tab (T_impl_CodeOk_sg N) Try.f136.results.toList some)) (.exit 0) (T_impl_CodeOk_lp0_e1 code1 forks20 t21 t22)) =
    (some (α := ODen (T_impl_CodeOk_sg N).ps × RDen (T_impl_CodeOk_sg N).rs) ((), (true, ()))) := by kernel_rfl

theorem T_impl_CodeOk_den (N : Nat) (code1 : List (Int × Int × Int × Int)) :
    den (R := ODen (T_impl_CodeOk_sg N).ps × RDen (T_impl_CodeOk_sg N).rs) tab (T_impl_CodeOk_ctx N) T_impl_CodeOk_ann N (T_impl_CodeOk_sg N) Try.f136 (code1, ()) some =
    (bif decide ((ilen code1) > (24 : Int)) then
    (some (α := ODen (T_impl_CodeOk_sg N).ps × RDen (T_impl_CodeOk_sg N).rs) ((), (false, ())))
    else
    ((T_impl_isBalanced N code1).bind fun o2 =>
      (bif !o2.2.1 then
        (some (α := ODen (T_impl_CodeOk_sg N).ps × RDen (T_impl_CodeOk_sg N).rs) ((), (false, ())))
        else
        (T_impl_CodeOk_lp0 N code1
          (some (α := ODen (T_impl_CodeOk_sg N).ps × RDen (T_impl_CodeOk_sg N).rs) ((), (false, ())))
          (fun forks20 t21 t22 =>
            (some (α := ODen (T_impl_CodeOk_sg N).ps × RDen (T_impl_CodeOk_sg N).rs) ((), (true, ()))))
           N (0 : Int) (0 : Int))))) := by
  have h : den (R := ODen (T_impl_CodeOk_sg N).ps × RDen (T_impl_CodeOk_sg N).rs) tab (T_impl_CodeOk_ctx N) T_impl_CodeOk_ann N (T_impl_CodeOk_sg N) Try.f136 (code1, ()) some =
    (bif decide ((ilen code1) > (24 : Int)) then
    (some (α := ODen (T_impl_CodeOk_sg N).ps × RDen (T_impl_CodeOk_sg N).rs) ((), (false, ())))
    else
    ((T_impl_isBalanced N code1).bind fun o2 =>
      (bif !o2.2.1 then
        (some (α := ODen (T_impl_CodeOk_sg N).ps × RDen (T_impl_CodeOk_sg N).rs) ((), (false, ())))
        else
        (T_impl_CodeOk_lp0_m N N (T_impl_CodeOk_lp0_sh code1 (0 : Int) (0 : Int)) (ctxK (R := ODen (T_impl_CodeOk_sg N).ps × RDen (T_impl_CodeOk_sg N).rs) tab (T_impl_CodeOk_ctx N) T_impl_CodeOk_ann N (theCode Try.f136) [1, 1, 1, 0, 1, 0] (retK tab (T_impl_CodeOk_sg N) Try.f136.results.toList some)))))) := by kernel_rfl
  rw [h]
  (try simp only [T_impl_CodeOk_lp0_eq, T_impl_CodeOk_c1, T_impl_CodeOk_c2]) <;> rfl

theorem T_impl_CodeOk_ok (N : Nat) : chkBody Try.f136 (T_impl_CodeOk_sg N).ps = true := by kernel_rfl

theorem T_impl_CodeOk_callable : Callable Try.prog 136 := callable_of Try.func136 (show chkFn Try.f136 = true by kernel_rfl)

theorem T_impl_CodeOk_good (N : Nat) : Good Try.prog 136 (T_impl_CodeOk_sg N) :=
  good_body mixedOk tabOk (ctx_cons (T_impl_isBalanced_good N) T_impl_isBalanced_callable (ctx_cons (T_impl_OpOk_good N) T_impl_OpOk_callable (ctx_cons (T_impl_DepthAt_good N) T_impl_DepthAt_callable ctx_nil))) Try.func136 (T_impl_CodeOk_ok N) (fun d _ h => ⟨N, (T_impl_CodeOk_den N d.1).trans h⟩)

noncomputable def T_impl_KidOk_sg (N : Nat) : Sig := Sig.of [.v (.slice (.prod (.int .i64) (.prod (.int .i64) (.prod (.int .i64) (.int .i64))))) false] [.v (.bool) false] (fun d => T_impl_KidOk N d.1)

def T_impl_KidOk_ann : Nat → List Ghost
  | 2 => [.canon [0, 5, 6, 7, 8]]
  | 3 => [.canon [0, 4, 5, 6, 7]]
  | 4 => [.canon [0, 5, 6, 7, 18]]
  | 5 => [.canon [2]]
  | 6 => [.canon [0, 5, 6, 7]]
  | 100002 => [.canon [0, 5, 6, 7]]
  | _ => []

noncomputable def T_impl_KidOk_ctx (N : Nat) : Ctx := [(135, T_impl_Touches_sg N), (136, T_impl_CodeOk_sg N)]

def T_impl_KidOk_lp0_sh (code2 : List (Int × Int × Int × Int)) (t5 : Int) : St := { env := [(0, .s (.one (.val (.slice (.prod (.int .i64) (.prod (.int .i64) (.prod (.int .i64) (.int .i64))))) (code2 : List (Int × Int × Int × Int))))), (5, .s (.one (.val (.slice (.prod (.int .i64) (.prod (.int .i64) (.prod (.int .i64) (.int .i64))))) (code2 : List (Int × Int × Int × Int))))), (6, .s (.one (.val (.int .i64) (ilen code2 : Int)))), (7, .s (.one (.val (.int .i64) (t5 : Int))))], objs := [], nx := 0 }

def T_impl_KidOk_lp0_e0 (code2 : List (Int × Int × Int × Int)) : St := { env := [(2, .s (.one (.val (.bool) (false : Bool))))], objs := [], nx := 0 }

def T_impl_KidOk_lp0_e1 (code2 : List (Int × Int × Int × Int)) (t8 : Int) (t9 : Bool) : St := { env := [(0, .s (.one (.val (.slice (.prod (.int .i64) (.prod (.int .i64) (.prod (.int .i64) (.int .i64))))) (code2 : List (Int × Int × Int × Int))))), (5, .s (.one (.val (.slice (.prod (.int .i64) (.prod (.int .i64) (.prod (.int .i64) (.int .i64))))) (code2 : List (Int × Int × Int × Int))))), (6, .s (.one (.val (.int .i64) (ilen code2 : Int)))), (7, .s (.one (.val (.int .i64) (t8 : Int)))), (8, .s (.one (.val (.bool) (t9 : Bool))))], objs := [], nx := 0 }

noncomputable def T_impl_KidOk_lp0_m (N : Nat) {R : Type} (n : Nat) (st : St) (K : Ex → St → Option R) : Option R := loopN (roundG (T_impl_KidOk_ann 100002) fun st k => sx tab (T_impl_KidOk_ctx N) T_impl_KidOk_ann N (nthLoop Try.f73 0) st k) n st K

theorem T_impl_KidOk_lp0_step (N : Nat) {R : Type} (n : Nat) (K : Ex → St → Option R) (code2 : List (Int × Int × Int × Int)) (t5 : Int) :
    T_impl_KidOk_lp0_m N (n + 1) (T_impl_KidOk_lp0_sh code2 t5) K =
    (bif decide (t5 < (ilen code2)) then
    (bif inb t5 (List.length code2) then
      (bif (List.getD code2 (Int.toNat t5) ((0 : Int), ((0 : Int), ((0 : Int), (0 : Int))))).1 == (11 : Int) then
        (K .ret (T_impl_KidOk_lp0_e0 code2))
        else
        ((T_impl_Touches N (List.getD code2 (Int.toNat t5) ((0 : Int), ((0 : Int), ((0 : Int), (0 : Int)))))).bind fun o10 =>
          (bif o10.2.1 == (2 : Int) then
            (K .ret (T_impl_KidOk_lp0_e0 code2))
            else
            (T_impl_KidOk_lp0_m N n (T_impl_KidOk_lp0_sh code2 (iadd .i64 t5 (1 : Int))) K)))) else none)
    else
    (K (.exit 0) (T_impl_KidOk_lp0_e1 code2 t5 (decide (t5 < (ilen code2)))))) := by kernel_rfl

theorem T_impl_KidOk_lp0_eq (N : Nat) {R : Type} (code2 : List (Int × Int × Int × Int)) (K : Ex → St → Option R) : ∀ (n : Nat) (t5 : Int), T_impl_KidOk_lp0_m N n (T_impl_KidOk_lp0_sh code2 t5) K = T_impl_KidOk_lp0 N code2 (K .ret (T_impl_KidOk_lp0_e0 code2)) (fun t8 t9 => (K (.exit 0) (T_impl_KidOk_lp0_e1 code2 t8 t9))) n t5
  | 0, _ => rfl
  | n + 1, t5 => by rw [T_impl_KidOk_lp0_step, T_impl_KidOk_lp0]; (try simp only [T_impl_KidOk_lp0_eq N code2 K n])

theorem T_impl_KidOk_c1 (N : Nat) (code1 : List (Int × Int × Int × Int)) :
    ((ctxK (R := ODen (T_impl_KidOk_sg N).ps × RDen (T_impl_KidOk_sg N).rs) tab (T_impl_KidOk_ctx N) T_impl_KidOk_ann N (theCode Try.f73) [1, 0, 1, 0] (retK tab (T_impl_KidOk_sg N) Try.f73.results.toList some)) .ret (T_impl_KidOk_lp0_e0 code1)) =
    (some (α := ODen (T_impl_KidOk_sg N).ps × RDen (T_impl_KidOk_sg N).rs) ((), (false, ()))) := by kernel_rfl

theorem T_impl_KidOk_c2 (N : Nat) (code1 : List (Int × Int × Int × Int)) (t11 : Int) (t12 : Bool) :
    ((ctxK (R := ODen (T_impl_KidOk_sg N).ps × RDen (T_impl_KidOk_sg N).rs) tab (T_impl_KidOk_ctx N) T_impl_KidOk_ann N (theCode Try.f73) [1, 0, 1, 0] (retK tab (T_impl_KidOk_sg N) Try.f73.results.toList some)) (.exit 0) (T_impl_KidOk_lp0_e1 code1 t11 t12)) =
    ((T_impl_CodeOk N code1).bind fun o13 =>
    (some (α := ODen (T_impl_KidOk_sg N).ps × RDen (T_impl_KidOk_sg N).rs) ((), (o13.2.1, ())))) := by kernel_rfl

theorem T_impl_KidOk_den (N : Nat) (code1 : List (Int × Int × Int × Int)) :
    den (R := ODen (T_impl_KidOk_sg N).ps × RDen (T_impl_KidOk_sg N).rs) tab (T_impl_KidOk_ctx N) T_impl_KidOk_ann N (T_impl_KidOk_sg N) Try.f73 (code1, ()) some =
    (T_impl_KidOk_lp0 N code1
    (some (α := ODen (T_impl_KidOk_sg N).ps × RDen (T_impl_KidOk_sg N).rs) ((), (false, ())))
    (fun t11 t12 =>
      ((T_impl_CodeOk N code1).bind fun o13 =>
        (some (α := ODen (T_impl_KidOk_sg N).ps × RDen (T_impl_KidOk_sg N).rs) ((), (o13.2.1, ())))))
     N (0 : Int)) := by
  have h : den (R := ODen (T_impl_KidOk_sg N).ps × RDen (T_impl_KidOk_sg N).rs) tab (T_impl_KidOk_ctx N) T_impl_KidOk_ann N (T_impl_KidOk_sg N) Try.f73 (code1, ()) some =
    (T_impl_KidOk_lp0_m N N (T_impl_KidOk_lp0_sh code1 (0 : Int)) (ctxK (R := ODen (T_impl_KidOk_sg N).ps × RDen (T_impl_KidOk_sg N).rs) tab (T_impl_KidOk_ctx N) T_impl_KidOk_ann N (theCode Try.f73) [1, 0, 1, 0] (retK tab (T_impl_KidOk_sg N) Try.f73.results.toList some))) := by kernel_rfl
  rw [h]
  (try simp only [T_impl_KidOk_lp0_eq, T_impl_KidOk_c1, T_impl_KidOk_c2]) <;> rfl

theorem T_impl_KidOk_ok (N : Nat) : chkBody Try.f73 (T_impl_KidOk_sg N).ps = true := by kernel_rfl

theorem T_impl_KidOk_callable : Callable Try.prog 73 := callable_of Try.func73 (show chkFn Try.f73 = true by kernel_rfl)

theorem T_impl_KidOk_good (N : Nat) : Good Try.prog 73 (T_impl_KidOk_sg N) :=
  good_body mixedOk tabOk (ctx_cons (T_impl_Touches_good N) T_impl_Touches_callable (ctx_cons (T_impl_CodeOk_good N) T_impl_CodeOk_callable ctx_nil)) Try.func73 (T_impl_KidOk_ok N) (fun d _ h => ⟨N, (T_impl_KidOk_den N d.1).trans h⟩)

noncomputable def T_impl_AltsOk_1_sg (N : Nat) : Sig := Sig.of [.v (.slice (.prod (.int .i64) (.prod (.int .i64) (.prod (.int .i64) (.int .i64))))) true] [.v (.bool) false] (fun d => T_impl_AltsOk_1 N d.1)

def T_impl_AltsOk_1_ann : Nat → List Ghost
  | _ => []

noncomputable def T_impl_AltsOk_1_ctx (N : Nat) : Ctx := [(73, T_impl_KidOk_sg N)]

theorem T_impl_AltsOk_1_den (N : Nat) (k1 : List (Int × Int × Int × Int)) :
    den (R := ODen (T_impl_AltsOk_1_sg N).ps × RDen (T_impl_AltsOk_1_sg N).rs) tab (T_impl_AltsOk_1_ctx N) T_impl_AltsOk_1_ann N (T_impl_AltsOk_1_sg N) Try.f72 (k1, ()) some =
    ((T_impl_KidOk N k1).bind fun o2 =>
    (some (α := ODen (T_impl_AltsOk_1_sg N).ps × RDen (T_impl_AltsOk_1_sg N).rs) ((), (!o2.2.1, ())))) := by kernel_rfl

theorem T_impl_AltsOk_1_ok (N : Nat) : chkBody Try.f72 (T_impl_AltsOk_1_sg N).ps = true := by kernel_rfl

theorem T_impl_AltsOk_1_callable : Callable Try.prog 72 := callable_of Try.func72 (show chkFn Try.f72 = true by kernel_rfl)

theorem T_impl_AltsOk_1_good (N : Nat) : Good Try.prog 72 (T_impl_AltsOk_1_sg N) :=
  good_body mixedOk tabOk (ctx_cons (T_impl_KidOk_good N) T_impl_KidOk_callable ctx_nil) Try.func72 (T_impl_AltsOk_1_ok N) (fun d _ h => ⟨N, (T_impl_AltsOk_1_den N d.1).trans h⟩)

noncomputable def T_slices_IndexFunc___impl_Kid_impl_Kid___impl_AltsOk_1_sg (N : Nat) : Sig := Sig.of [.v (.slice (.slice (.prod (.int .i64) (.prod (.int .i64) (.prod (.int .i64) (.int .i64)))))) false, .clos 72 0] [.v (.int .i64) false] (fun d => T_slices_IndexFunc___impl_Kid_impl_Kid___impl_AltsOk_1 N d.1)

def T_slices_IndexFunc___impl_Kid_impl_Kid___impl_AltsOk_1_ann : Nat → List Ghost
  | 2 => [.canon [0, 1, 7, 8, 9]]
  | 3 => [.canon [0, 1, 5, 7, 8]]
  | 4 => [.canon [0, 1, 5, 7, 8, 16]]
  | 5 => [.canon [1, 4]]
  | 6 => [.canon [0, 1, 7, 8]]
  | 100002 => [.canon [0, 1, 7, 8]]
  | _ => []

noncomputable def T_slices_IndexFunc___impl_Kid_impl_Kid___impl_AltsOk_1_ctx (N : Nat) : Ctx := [(72, T_impl_AltsOk_1_sg N)]

def T_slices_IndexFunc___impl_Kid_impl_Kid___impl_AltsOk_1_lp0_sh (s2 : List (List (Int × Int × Int × Int))) (t4 : Int) : St := { env := [(0, .s (.one (.val (.slice (.slice (.prod (.int .i64) (.prod (.int .i64) (.prod (.int .i64) (.int .i64)))))) (s2 : List (List (Int × Int × Int × Int)))))), (1, .s (.one (.clos 72 []))), (7, .s (.one (.val (.int .i64) (ilen s2 : Int)))), (8, .s (.one (.val (.int .i64) (t4 : Int))))], objs := [], nx := 0 }

def T_slices_IndexFunc___impl_Kid_impl_Kid___impl_AltsOk_1_lp0_e0 (s2 : List (List (Int × Int × Int × Int))) (t7 : Int) : St := { env := [(1, .s (.one (.clos 72 []))), (4, .s (.one (.val (.int .i64) (t7 : Int))))], objs := [], nx := 0 }

def T_slices_IndexFunc___impl_Kid_impl_Kid___impl_AltsOk_1_lp0_e1 (s2 : List (List (Int × Int × Int × Int))) (t8 : Int) (t9 : Bool) : St := { env := [(0, .s (.one (.val (.slice (.slice (.prod (.int .i64) (.prod (.int .i64) (.prod (.int .i64) (.int .i64)))))) (s2 : List (List (Int × Int × Int × Int)))))), (1, .s (.one (.clos 72 []))), (7, .s (.one (.val (.int .i64) (ilen s2 : Int)))), (8, .s (.one (.val (.int .i64) (t8 : Int)))), (9, .s (.one (.val (.bool) (t9 : Bool))))], objs := [], nx := 0 }

noncomputable def T_slices_IndexFunc___impl_Kid_impl_Kid___impl_AltsOk_1_lp0_m (N : Nat) {R : Type} (n : Nat) (st : St) (K : Ex → St → Option R) : Option R := loopN (roundG (T_slices_IndexFunc___impl_Kid_impl_Kid___impl_AltsOk_1_ann 100002) fun st k => sx tab (T_slices_IndexFunc___impl_Kid_impl_Kid___impl_AltsOk_1_ctx N) T_slices_IndexFunc___impl_Kid_impl_Kid___impl_AltsOk_1_ann N (nthLoop Try.f134 0) st k) n st K

theorem T_slices_IndexFunc___impl_Kid_impl_Kid___impl_AltsOk_1_lp0_step (N : Nat) {R : Type} (n : Nat) (K : Ex → St → Option R) (s2 : List (List (Int × Int × Int × Int))) (t4 : Int) :
    T_slices_IndexFunc___impl_Kid_impl_Kid___impl_AltsOk_1_lp0_m N (n + 1) (T_slices_IndexFunc___impl_Kid_impl_Kid___impl_AltsOk_1_lp0_sh s2 t4) K =
    (bif decide (t4 < (ilen s2)) then
    (bif inb t4 (List.length s2) then
      ((T_impl_AltsOk_1 N (List.getD s2 (Int.toNat t4) ([] : List (Int × Int × Int × Int)))).bind fun o10 =>
        (bif o10.2.1 then
          (K .ret (T_slices_IndexFunc___impl_Kid_impl_Kid___impl_AltsOk_1_lp0_e0 s2 t4))
          else
          (T_slices_IndexFunc___impl_Kid_impl_Kid___impl_AltsOk_1_lp0_m N n (T_slices_IndexFunc___impl_Kid_impl_Kid___impl_AltsOk_1_lp0_sh s2 (iadd .i64 t4 (1 : Int))) K))) else none)
    else
    (K (.exit 0) (T_slices_IndexFunc___impl_Kid_impl_Kid___impl_AltsOk_1_lp0_e1 s2 t4 (decide (t4 < (ilen s2)))))) := by kernel_rfl

theorem T_slices_IndexFunc___impl_Kid_impl_Kid___impl_AltsOk_1_lp0_eq (N : Nat) {R : Type} (s2 : List (List (Int × Int × Int × Int))) (K : Ex → St → Option R) : ∀ (n : Nat) (t4 : Int), T_slices_IndexFunc___impl_Kid_impl_Kid___impl_AltsOk_1_lp0_m N n (T_slices_IndexFunc___impl_Kid_impl_Kid___impl_AltsOk_1_lp0_sh s2 t4) K = T_slices_IndexFunc___impl_Kid_impl_Kid___impl_AltsOk_1_lp0 N s2 (fun t7 => (K .ret (T_slices_IndexFunc___impl_Kid_impl_Kid___impl_AltsOk_1_lp0_e0 s2 t7))) (fun t8 t9 => (K (.exit 0) (T_slices_IndexFunc___impl_Kid_impl_Kid___impl_AltsOk_1_lp0_e1 s2 t8 t9))) n t4
  | 0, _ => rfl
  | n + 1, t4 => by rw [T_slices_IndexFunc___impl_Kid_impl_Kid___impl_AltsOk_1_lp0_step, T_slices_IndexFunc___impl_Kid_impl_Kid___impl_AltsOk_1_lp0]; (try simp only [T_slices_IndexFunc___impl_Kid_impl_Kid___impl_AltsOk_1_lp0_eq N s2 K n])

theorem T_slices_IndexFunc___impl_Kid_impl_Kid___impl_AltsOk_1_c1 (N : Nat) (s1 : List (List (Int × Int × Int × Int))) (t11 : Int) :
    ((ctxK (R := ODen (T_slices_IndexFunc___impl_Kid_impl_Kid___impl_AltsOk_1_sg N).ps × RDen (T_slices_IndexFunc___impl_Kid_impl_Kid___impl_AltsOk_1_sg N).rs) tab (T_slices_IndexFunc___impl_Kid_impl_Kid___impl_AltsOk_1_ctx N) T_slices_IndexFunc___impl_Kid_impl_Kid___impl_AltsOk_1_ann N (theCode Try.f134) [1, 0, 1, 0] (retK tab (T_slices_IndexFunc___impl_Kid_impl_Kid___impl_AltsOk_1_sg N) Try.f134.results.toList some)) .ret (T_slices_IndexFunc___impl_Kid_impl_Kid___impl_AltsOk_1_lp0_e0 s1 t11)) =
    (some (α := ODen (T_slices_IndexFunc___impl_Kid_impl_Kid___impl_AltsOk_1_sg N).ps × RDen (T_slices_IndexFunc___impl_Kid_impl_Kid___impl_AltsOk_1_sg N).rs) ((), (t11, ()))) := by kernel_rfl

theorem T_slices_IndexFunc___impl_Kid_impl_Kid___impl_AltsOk_1_c2 (N : Nat) (s1 : List (List (Int × Int × Int × Int))) (t12 : Int) (t13 : Bool) :
    ((ctxK (R := ODen (T_slices_IndexFunc___impl_Kid_impl_Kid___impl_AltsOk_1_sg N).ps × RDen (T_slices_IndexFunc___impl_Kid_impl_Kid___impl_AltsOk_1_sg N).rs) tab (T_slices_IndexFunc___impl_Kid_impl_Kid___impl_AltsOk_1_ctx N) T_slices_IndexFunc___impl_Kid_impl_Kid___impl_AltsOk_1_ann N (theCode Try.f134) [1, 0, 1, 0] (retK tab (T_slices_IndexFunc___impl_Kid_impl_Kid___impl_AltsOk_1_sg N) Try.f134.results.toList some)) (.exit 0) (T_slices_IndexFunc___impl_Kid_impl_Kid___impl_AltsOk_1_lp0_e1 s1 t12 t13)) =
    (some (α := ODen (T_slices_IndexFunc___impl_Kid_impl_Kid___impl_AltsOk_1_sg N).ps × RDen (T_slices_IndexFunc___impl_Kid_impl_Kid___impl_AltsOk_1_sg N).rs) ((), ((-1 : Int), ()))) := by kernel_rfl

theorem T_slices_IndexFunc___impl_Kid_impl_Kid___impl_AltsOk_1_den (N : Nat) (s1 : List (List (Int × Int × Int × Int))) :
    den (R := ODen (T_slices_IndexFunc___impl_Kid_impl_Kid___impl_AltsOk_1_sg N).ps × RDen (T_slices_IndexFunc___impl_Kid_impl_Kid___impl_AltsOk_1_sg N).rs) tab (T_slices_IndexFunc___impl_Kid_impl_Kid___impl_AltsOk_1_ctx N) T_slices_IndexFunc___impl_Kid_impl_Kid___impl_AltsOk_1_ann N (T_slices_IndexFunc___impl_Kid_impl_Kid___impl_AltsOk_1_sg N) Try.f134 (s1, ()) some =
    (T_slices_IndexFunc___impl_Kid_impl_Kid___impl_AltsOk_1_lp0 N s1
    (fun t11 =>
      (some (α := ODen (T_slices_IndexFunc___impl_Kid_impl_Kid___impl_AltsOk_1_sg N).ps × RDen (T_slices_IndexFunc___impl_Kid_impl_Kid___impl_AltsOk_1_sg N).rs) ((), (t11, ()))))
    (fun t12 t13 =>
      (some (α := ODen (T_slices_IndexFunc___impl_Kid_impl_Kid___impl_AltsOk_1_sg N).ps × RDen (T_slices_IndexFunc___impl_Kid_impl_Kid___impl_AltsOk_1_sg N).rs) ((), ((-1 : Int), ()))))
     N (0 : Int)) := by
  have h : den (R := ODen (T_slices_IndexFunc___impl_Kid_impl_Kid___impl_AltsOk_1_sg N).ps × RDen (T_slices_IndexFunc___impl_Kid_impl_Kid___impl_AltsOk_1_sg N).rs) tab (T_slices_IndexFunc___impl_Kid_impl_Kid___impl_AltsOk_1_ctx N) T_slices_IndexFunc___impl_Kid_impl_Kid___impl_AltsOk_1_ann N (T_slices_IndexFunc___impl_Kid_impl_Kid___impl_AltsOk_1_sg N) Try.f134 (s1, ()) some =
    (T_slices_IndexFunc___impl_Kid_impl_Kid___impl_AltsOk_1_lp0_m N N (T_slices_IndexFunc___impl_Kid_impl_Kid___impl_AltsOk_1_lp0_sh s1 (0 : Int)) (ctxK (R := ODen (T_slices_IndexFunc___impl_Kid_impl_Kid___impl_AltsOk_1_sg N).ps × RDen (T_slices_IndexFunc___impl_Kid_impl_Kid___impl_AltsOk_1_sg N).rs) tab (T_slices_IndexFunc___impl_Kid_impl_Kid___impl_AltsOk_1_ctx N) T_slices_IndexFunc___impl_Kid_impl_Kid___impl_AltsOk_1_ann N (theCode Try.f134) [1, 0, 1, 0] (retK tab (T_slices_IndexFunc___impl_Kid_impl_Kid___impl_AltsOk_1_sg N) Try.f134.results.toList some))) := by kernel_rfl
  rw [h]
  (try simp only [T_slices_IndexFunc___impl_Kid_impl_Kid___impl_AltsOk_1_lp0_eq, T_slices_IndexFunc___impl_Kid_impl_Kid___impl_AltsOk_1_c1, T_slices_IndexFunc___impl_Kid_impl_Kid___impl_AltsOk_1_c2]) <;> rfl

theorem T_slices_IndexFunc___impl_Kid_impl_Kid___impl_AltsOk_1_ok (N : Nat) : chkBody Try.f134 (T_slices_IndexFunc___impl_Kid_impl_Kid___impl_AltsOk_1_sg N).ps = true := by kernel_rfl

theorem T_slices_IndexFunc___impl_Kid_impl_Kid___impl_AltsOk_1_callable : Callable Try.prog 134 := callable_of Try.func134 (show chkFn Try.f134 = true by kernel_rfl)

theorem T_slices_IndexFunc___impl_Kid_impl_Kid___impl_AltsOk_1_good (N : Nat) : Good Try.prog 134 (T_slices_IndexFunc___impl_Kid_impl_Kid___impl_AltsOk_1_sg N) :=
  good_body mixedOk tabOk (ctx_cons (T_impl_AltsOk_1_good N) T_impl_AltsOk_1_callable ctx_nil) Try.func134 (T_slices_IndexFunc___impl_Kid_impl_Kid___impl_AltsOk_1_ok N) (fun d _ h => ⟨N, (T_slices_IndexFunc___impl_Kid_impl_Kid___impl_AltsOk_1_den N d.1).trans h⟩)

noncomputable def T_slices_ContainsFunc___impl_Kid_impl_Kid___impl_AltsOk_1_sg (N : Nat) : Sig := Sig.of [.v (.slice (.slice (.prod (.int .i64) (.prod (.int .i64) (.prod (.int .i64) (.int .i64)))))) false, .clos 72 0] [.v (.bool) false] (fun d => T_slices_ContainsFunc___impl_Kid_impl_Kid___impl_AltsOk_1 N d.1)

def T_slices_ContainsFunc___impl_Kid_impl_Kid___impl_AltsOk_1_ann : Nat → List Ghost
  | _ => []

noncomputable def T_slices_ContainsFunc___impl_Kid_impl_Kid___impl_AltsOk_1_ctx (N : Nat) : Ctx := [(134, T_slices_IndexFunc___impl_Kid_impl_Kid___impl_AltsOk_1_sg N)]

theorem T_slices_ContainsFunc___impl_Kid_impl_Kid___impl_AltsOk_1_den (N : Nat) (s1 : List (List (Int × Int × Int × Int))) :
    den (R := ODen (T_slices_ContainsFunc___impl_Kid_impl_Kid___impl_AltsOk_1_sg N).ps × RDen (T_slices_ContainsFunc___impl_Kid_impl_Kid___impl_AltsOk_1_sg N).rs) tab (T_slices_ContainsFunc___impl_Kid_impl_Kid___impl_AltsOk_1_ctx N) T_slices_ContainsFunc___impl_Kid_impl_Kid___impl_AltsOk_1_ann N (T_slices_ContainsFunc___impl_Kid_impl_Kid___impl_AltsOk_1_sg N) Try.f71 (s1, ()) some =
    ((T_slices_IndexFunc___impl_Kid_impl_Kid___impl_AltsOk_1 N s1).bind fun o2 =>
    (some (α := ODen (T_slices_ContainsFunc___impl_Kid_impl_Kid___impl_AltsOk_1_sg N).ps × RDen (T_slices_ContainsFunc___impl_Kid_impl_Kid___impl_AltsOk_1_sg N).rs) ((), (decide (o2.2.1 ≥ (0 : Int)), ())))) := by kernel_rfl

theorem T_slices_ContainsFunc___impl_Kid_impl_Kid___impl_AltsOk_1_ok (N : Nat) : chkBody Try.f71 (T_slices_ContainsFunc___impl_Kid_impl_Kid___impl_AltsOk_1_sg N).ps = true := by kernel_rfl

theorem T_slices_ContainsFunc___impl_Kid_impl_Kid___impl_AltsOk_1_callable : Callable Try.prog 71 := callable_of Try.func71 (show chkFn Try.f71 = true by kernel_rfl)

theorem T_slices_ContainsFunc___impl_Kid_impl_Kid___impl_AltsOk_1_good (N : Nat) : Good Try.prog 71 (T_slices_ContainsFunc___impl_Kid_impl_Kid___impl_AltsOk_1_sg N) :=
  good_body mixedOk tabOk (ctx_cons (T_slices_IndexFunc___impl_Kid_impl_Kid___impl_AltsOk_1_good N) T_slices_IndexFunc___impl_Kid_impl_Kid___impl_AltsOk_1_callable ctx_nil) Try.func71 (T_slices_ContainsFunc___impl_Kid_impl_Kid___impl_AltsOk_1_ok N) (fun d _ h => ⟨N, (T_slices_ContainsFunc___impl_Kid_impl_Kid___impl_AltsOk_1_den N d.1).trans h⟩)

noncomputable def T_impl_AltsOk_sg (N : Nat) : Sig := Sig.of [.v (.slice (.slice (.prod (.int .i64) (.prod (.int .i64) (.prod (.int .i64) (.int .i64)))))) false, .v (.slice (.int .i64)) false, .v (.slice (.int .i64)) false] [.v (.bool) false] (fun d => T_impl_AltsOk N d.1 d.2.1 d.2.2.1)

def T_impl_AltsOk_ann : Nat → List Ghost
  | _ => []

noncomputable def T_impl_AltsOk_ctx (N : Nat) : Ctx := [(70, T_impl_areValues_sg N), (71, T_slices_ContainsFunc___impl_Kid_impl_Kid___impl_AltsOk_1_sg N)]

theorem T_impl_AltsOk_den (N : Nat) (l1 : List (List (Int × Int × Int × Int))) (regs2 : List Int) (cells3 : List Int) :
    den (R := ODen (T_impl_AltsOk_sg N).ps × RDen (T_impl_AltsOk_sg N).rs) tab (T_impl_AltsOk_ctx N) T_impl_AltsOk_ann N (T_impl_AltsOk_sg N) Try.f21 (l1, regs2, cells3, ()) some =
    (bif decide ((ilen l1) ≤ (4 : Int)) then
    ((T_impl_areValues N regs2 (4 : Int)).bind fun o4 =>
      (bif o4.2.1 then
        ((T_impl_areValues N cells3 (8 : Int)).bind fun o5 =>
          (bif o5.2.1 then
            ((T_slices_ContainsFunc___impl_Kid_impl_Kid___impl_AltsOk_1 N l1).bind fun o6 =>
              (some (α := ODen (T_impl_AltsOk_sg N).ps × RDen (T_impl_AltsOk_sg N).rs) ((), (!o6.2.1, ()))))
            else
            (some (α := ODen (T_impl_AltsOk_sg N).ps × RDen (T_impl_AltsOk_sg N).rs) ((), (false, ())))))
        else
        (some (α := ODen (T_impl_AltsOk_sg N).ps × RDen (T_impl_AltsOk_sg N).rs) ((), (false, ())))))
    else
    (some (α := ODen (T_impl_AltsOk_sg N).ps × RDen (T_impl_AltsOk_sg N).rs) ((), (false, ())))) := by kernel_rfl

theorem T_impl_AltsOk_ok (N : Nat) : chkBody Try.f21 (T_impl_AltsOk_sg N).ps = true := by kernel_rfl

theorem T_impl_AltsOk_callable : Callable Try.prog 21 := callable_of Try.func21 (show chkFn Try.f21 = true by kernel_rfl)

theorem T_impl_AltsOk_good (N : Nat) : Good Try.prog 21 (T_impl_AltsOk_sg N) :=
  good_body mixedOk tabOk (ctx_cons (T_impl_areValues_good N) T_impl_areValues_callable (ctx_cons (T_slices_ContainsFunc___impl_Kid_impl_Kid___impl_AltsOk_1_good N) T_slices_ContainsFunc___impl_Kid_impl_Kid___impl_AltsOk_1_callable ctx_nil)) Try.func21 (T_impl_AltsOk_ok N) (fun d _ h => ⟨N, (T_impl_AltsOk_den N d.1 d.2.1 d.2.2.1).trans h⟩)

noncomputable def T_laws_eqOp_sg (N : Nat) : Sig := Sig.of [.v (.prod (.int .i64) (.prod (.int .i64) (.prod (.int .i64) (.int .i64)))) true, .v (.prod (.int .i64) (.prod (.int .i64) (.prod (.int .i64) (.int .i64)))) true] [.v (.bool) false] (fun d => T_laws_eqOp N d.1 d.2.1)

def T_laws_eqOp_ann : Nat → List Ghost
  | _ => []

noncomputable def T_laws_eqOp_ctx (N : Nat) : Ctx := []

theorem T_laws_eqOp_den (N : Nat) (a1 : Int × Int × Int × Int) (b2 : Int × Int × Int × Int) :
    den (R := ODen (T_laws_eqOp_sg N).ps × RDen (T_laws_eqOp_sg N).rs) tab (T_laws_eqOp_ctx N) T_laws_eqOp_ann N (T_laws_eqOp_sg N) Try.f169 (a1, b2, ()) some =
    (bif a1.1 != b2.1 then
    (some (α := ODen (T_laws_eqOp_sg N).ps × RDen (T_laws_eqOp_sg N).rs) ((), (false, ())))
    else
    (bif a1.2.1 != b2.2.1 then
      (some (α := ODen (T_laws_eqOp_sg N).ps × RDen (T_laws_eqOp_sg N).rs) ((), (false, ())))
      else
      (bif a1.2.2.1 != b2.2.2.1 then
        (some (α := ODen (T_laws_eqOp_sg N).ps × RDen (T_laws_eqOp_sg N).rs) ((), (false, ())))
        else
        (bif a1.2.2.2 != b2.2.2.2 then
          (some (α := ODen (T_laws_eqOp_sg N).ps × RDen (T_laws_eqOp_sg N).rs) ((), (false, ())))
          else
          (some (α := ODen (T_laws_eqOp_sg N).ps × RDen (T_laws_eqOp_sg N).rs) ((), (true, ()))))))) := by kernel_rfl

theorem T_laws_eqOp_ok (N : Nat) : chkBody Try.f169 (T_laws_eqOp_sg N).ps = true := by kernel_rfl

theorem T_laws_eqOp_callable : Callable Try.prog 169 := callable_of Try.func169 (show chkFn Try.f169 = true by kernel_rfl)

theorem T_laws_eqOp_good (N : Nat) : Good Try.prog 169 (T_laws_eqOp_sg N) :=
  good_body mixedOk tabOk ctx_nil Try.func169 (T_laws_eqOp_ok N) (fun d _ h => ⟨N, (T_laws_eqOp_den N d.1 d.2.1).trans h⟩)

noncomputable def T_laws_eqOpS_sg (N : Nat) : Sig := Sig.of [.v (.slice (.prod (.int .i64) (.prod (.int .i64) (.prod (.int .i64) (.int .i64))))) false, .v (.slice (.prod (.int .i64) (.prod (.int .i64) (.prod (.int .i64) (.int .i64))))) false] [.v (.bool) false] (fun d => T_laws_eqOpS N d.1 d.2.1)

def T_laws_eqOpS_ann : Nat → List Ghost
  | 4 => [.canon [0, 1, 5, 14]]
  | 5 => [.canon [0, 1, 5]]
  | 6 => [.canon [0, 1, 5, 26]]
  | 7 => [.canon [4]]
  | 100004 => [.canon [0, 1, 5]]
  | _ => []

noncomputable def T_laws_eqOpS_ctx (N : Nat) : Ctx := [(169, T_laws_eqOp_sg N)]

def T_laws_eqOpS_lp0_sh (a3 : List (Int × Int × Int × Int)) (b4 : List (Int × Int × Int × Int)) (i5 : Int) : St := { env := [(0, .s (.one (.val (.slice (.prod (.int .i64) (.prod (.int .i64) (.prod (.int .i64) (.int .i64))))) (a3 : List (Int × Int × Int × Int))))), (1, .s (.one (.val (.slice (.prod (.int .i64) (.prod (.int .i64) (.prod (.int .i64) (.int .i64))))) (b4 : List (Int × Int × Int × Int))))), (5, .s (.one (.val (.int .i64) (i5 : Int))))], objs := [], nx := 0 }

def T_laws_eqOpS_lp0_e0 (a3 : List (Int × Int × Int × Int)) (b4 : List (Int × Int × Int × Int)) : St := { env := [(4, .s (.one (.val (.bool) (false : Bool))))], objs := [], nx := 0 }

def T_laws_eqOpS_lp0_e1 (a3 : List (Int × Int × Int × Int)) (b4 : List (Int × Int × Int × Int)) (i7 : Int) (t8 : Bool) : St := { env := [(0, .s (.one (.val (.slice (.prod (.int .i64) (.prod (.int .i64) (.prod (.int .i64) (.int .i64))))) (a3 : List (Int × Int × Int × Int))))), (1, .s (.one (.val (.slice (.prod (.int .i64) (.prod (.int .i64) (.prod (.int .i64) (.int .i64))))) (b4 : List (Int × Int × Int × Int))))), (5, .s (.one (.val (.int .i64) (i7 : Int)))), (14, .s (.one (.val (.bool) (t8 : Bool))))], objs := [], nx := 0 }

noncomputable def T_laws_eqOpS_lp0_m (N : Nat) {R : Type} (n : Nat) (st : St) (K : Ex → St → Option R) : Option R := loopN (roundG (T_laws_eqOpS_ann 100004) fun st k => sx tab (T_laws_eqOpS_ctx N) T_laws_eqOpS_ann N (nthLoop Try.f137 0) st k) n st K

theorem T_laws_eqOpS_lp0_step (N : Nat) {R : Type} (n : Nat) (K : Ex → St → Option R) (a3 : List (Int × Int × Int × Int)) (b4 : List (Int × Int × Int × Int)) (i5 : Int) :
    T_laws_eqOpS_lp0_m N (n + 1) (T_laws_eqOpS_lp0_sh a3 b4 i5) K =
    (bif decide (i5 < (ilen a3)) then
    (bif inb i5 (List.length a3) then
      (bif inb i5 (List.length b4) then
        ((T_laws_eqOp N (List.getD a3 (Int.toNat i5) ((0 : Int), ((0 : Int), ((0 : Int), (0 : Int))))) (List.getD b4 (Int.toNat i5) ((0 : Int), ((0 : Int), ((0 : Int), (0 : Int)))))).bind fun o9 =>
          (bif !o9.2.1 then
            (K .ret (T_laws_eqOpS_lp0_e0 a3 b4))
            else
            (T_laws_eqOpS_lp0_m N n (T_laws_eqOpS_lp0_sh a3 b4 (iadd .i64 i5 (1 : Int))) K))) else none) else none)
    else
    (K (.exit 0) (T_laws_eqOpS_lp0_e1 a3 b4 i5 (decide (i5 < (ilen a3)))))) := by kernel_rfl

theorem T_laws_eqOpS_lp0_eq (N : Nat) {R : Type} (a3 : List (Int × Int × Int × Int)) (b4 : List (Int × Int × Int × Int)) (K : Ex → St → Option R) : ∀ (n : Nat) (i5 : Int), T_laws_eqOpS_lp0_m N n (T_laws_eqOpS_lp0_sh a3 b4 i5) K = T_laws_eqOpS_lp0 N a3 b4 (K .ret (T_laws_eqOpS_lp0_e0 a3 b4)) (fun i7 t8 => (K (.exit 0) (T_laws_eqOpS_lp0_e1 a3 b4 i7 t8))) n i5
  | 0, _ => rfl
  | n + 1, i5 => by rw [T_laws_eqOpS_lp0_step, T_laws_eqOpS_lp0]; (try simp only [T_laws_eqOpS_lp0_eq N a3 b4 K n])

theorem T_laws_eqOpS_c1 (N : Nat) (a1 : List (Int × Int × Int × Int)) (b2 : List (Int × Int × Int × Int)) :
    ((ctxK (R := ODen (T_laws_eqOpS_sg N).ps × RDen (T_laws_eqOpS_sg N).rs) tab (T_laws_eqOpS_ctx N) T_laws_eqOpS_ann N (theCode Try.f137) [1, 1, 0, 1, 0] (retK tab (T_laws_eqOpS_sg N) Try.f137.results.toList some)) .ret (T_laws_eqOpS_lp0_e0 a1 b2)) =
    (some (α := ODen (T_laws_eqOpS_sg N).ps × RDen (T_laws_eqOpS_sg N).rs) ((), (false, ()))) := by kernel_rfl

theorem T_laws_eqOpS_c2 (N : Nat) (a1 : List (Int × Int × Int × Int)) (b2 : List (Int × Int × Int × Int)) (i10 : Int) (t11 : Bool) :
    ((ctxK (R := ODen (T_laws_eqOpS_sg N).ps × RDen (T_laws_eqOpS_sg N).rs) tab (T_laws_eqOpS_ctx N) T_laws_eqOpS_ann N (theCode Try.f137) [1, 1, 0, 1, 0] (retK tab (T_laws_eqOpS_sg N) Try.f137.results.toList some)) (.exit 0) (T_laws_eqOpS_lp0_e1 a1 b2 i10 t11)) =
    (some (α := ODen (T_laws_eqOpS_sg N).ps × RDen (T_laws_eqOpS_sg N).rs) ((), (true, ()))) := by kernel_rfl

theorem T_laws_eqOpS_den (N : Nat) (a1 : List (Int × Int × Int × Int)) (b2 : List (Int × Int × Int × Int)) :
    den (R := ODen (T_laws_eqOpS_sg N).ps × RDen (T_laws_eqOpS_sg N).rs) tab (T_laws_eqOpS_ctx N) T_laws_eqOpS_ann N (T_laws_eqOpS_sg N) Try.f137 (a1, b2, ()) some =
    (bif (ilen a1) != (ilen b2) then
    (some (α := ODen (T_laws_eqOpS_sg N).ps × RDen (T_laws_eqOpS_sg N).rs) ((), (false, ())))
    else
    (T_laws_eqOpS_lp0 N a1 b2
      (some (α := ODen (T_laws_eqOpS_sg N).ps × RDen (T_laws_eqOpS_sg N).rs) ((), (false, ())))
      (fun i10 t11 =>
        (some (α := ODen (T_laws_eqOpS_sg N).ps × RDen (T_laws_eqOpS_sg N).rs) ((), (true, ()))))
       N (0 : Int))) := by
  have h : den (R := ODen (T_laws_eqOpS_sg N).ps × RDen (T_laws_eqOpS_sg N).rs) tab (T_laws_eqOpS_ctx N) T_laws_eqOpS_ann N (T_laws_eqOpS_sg N) Try.f137 (a1, b2, ()) some =
    (bif (ilen a1) != (ilen b2) then
    (some (α := ODen (T_laws_eqOpS_sg N).ps × RDen (T_laws_eqOpS_sg N).rs) ((), (false, ())))
    else
    (T_laws_eqOpS_lp0_m N N (T_laws_eqOpS_lp0_sh a1 b2 (0 : Int)) (ctxK (R := ODen (T_laws_eqOpS_sg N).ps × RDen (T_laws_eqOpS_sg N).rs) tab (T_laws_eqOpS_ctx N) T_laws_eqOpS_ann N (theCode Try.f137) [1, 1, 0, 1, 0] (retK tab (T_laws_eqOpS_sg N) Try.f137.results.toList some)))) := by kernel_rfl
  rw [h]
  (try simp only [T_laws_eqOpS_lp0_eq, T_laws_eqOpS_c1, T_laws_eqOpS_c2]) <;> rfl

theorem T_laws_eqOpS_ok (N : Nat) : chkBody Try.f137 (T_laws_eqOpS_sg N).ps = true := by kernel_rfl

theorem T_laws_eqOpS_callable : Callable Try.prog 137 := callable_of Try.func137 (show chkFn Try.f137 = true by kernel_rfl)

theorem T_laws_eqOpS_good (N : Nat) : Good Try.prog 137 (T_laws_eqOpS_sg N) :=
  good_body mixedOk tabOk (ctx_cons (T_laws_eqOp_good N) T_laws_eqOp_callable ctx_nil) Try.func137 (T_laws_eqOpS_ok N) (fun d _ h => ⟨N, (T_laws_eqOpS_den N d.1 d.2.1).trans h⟩)

noncomputable def T_laws_eqKid_sg (N : Nat) : Sig := Sig.of [.v (.slice (.prod (.int .i64) (.prod (.int .i64) (.prod (.int .i64) (.int .i64))))) true, .v (.slice (.prod (.int .i64) (.prod (.int .i64) (.prod (.int .i64) (.int .i64))))) true] [.v (.bool) false] (fun d => T_laws_eqKid N d.1 d.2.1)

def T_laws_eqKid_ann : Nat → List Ghost
  | _ => []

noncomputable def T_laws_eqKid_ctx (N : Nat) : Ctx := [(137, T_laws_eqOpS_sg N)]

theorem T_laws_eqKid_den (N : Nat) (a1 : List (Int × Int × Int × Int)) (b2 : List (Int × Int × Int × Int)) :
    den (R := ODen (T_laws_eqKid_sg N).ps × RDen (T_laws_eqKid_sg N).rs) tab (T_laws_eqKid_ctx N) T_laws_eqKid_ann N (T_laws_eqKid_sg N) Try.f74 (a1, b2, ()) some =
    ((T_laws_eqOpS N a1 b2).bind fun o3 =>
    (bif !o3.2.1 then
      (some (α := ODen (T_laws_eqKid_sg N).ps × RDen (T_laws_eqKid_sg N).rs) ((), (false, ())))
      else
      (some (α := ODen (T_laws_eqKid_sg N).ps × RDen (T_laws_eqKid_sg N).rs) ((), (true, ()))))) := by kernel_rfl

theorem T_laws_eqKid_ok (N : Nat) : chkBody Try.f74 (T_laws_eqKid_sg N).ps = true := by kernel_rfl

theorem T_laws_eqKid_callable : Callable Try.prog 74 := callable_of Try.func74 (show chkFn Try.f74 = true by kernel_rfl)

theorem T_laws_eqKid_good (N : Nat) : Good Try.prog 74 (T_laws_eqKid_sg N) :=
  good_body mixedOk tabOk (ctx_cons (T_laws_eqOpS_good N) T_laws_eqOpS_callable ctx_nil) Try.func74 (T_laws_eqKid_ok N) (fun d _ h => ⟨N, (T_laws_eqKid_den N d.1 d.2.1).trans h⟩)

noncomputable def T_laws_eqKidS_sg (N : Nat) : Sig := Sig.of [.v (.slice (.slice (.prod (.int .i64) (.prod (.int .i64) (.prod (.int .i64) (.int .i64)))))) false, .v (.slice (.slice (.prod (.int .i64) (.prod (.int .i64) (.prod (.int .i64) (.int .i64)))))) false] [.v (.bool) false] (fun d => T_laws_eqKidS N d.1 d.2.1)

def T_laws_eqKidS_ann : Nat → List Ghost
  | 4 => [.canon [0, 1, 5, 14]]
  | 5 => [.canon [0, 1, 5]]
  | 6 => [.canon [0, 1, 5, 26]]
  | 7 => [.canon [4]]
  | 100004 => [.canon [0, 1, 5]]
  | _ => []

noncomputable def T_laws_eqKidS_ctx (N : Nat) : Ctx := [(74, T_laws_eqKid_sg N)]

def T_laws_eqKidS_lp0_sh (a3 : List (List (Int × Int × Int × Int))) (b4 : List (List (Int × Int × Int × Int))) (i5 : Int) : St := { env := [(0, .s (.one (.val (.slice (.slice (.prod (.int .i64) (.prod (.int .i64) (.prod (.int .i64) (.int .i64)))))) (a3 : List (List (Int × Int × Int × Int)))))), (1, .s (.one (.val (.slice (.slice (.prod (.int .i64) (.prod (.int .i64) (.prod (.int .i64) (.int .i64)))))) (b4 : List (List (Int × Int × Int × Int)))))), (5, .s (.one (.val (.int .i64) (i5 : Int))))], objs := [], nx := 0 }

def T_laws_eqKidS_lp0_e0 (a3 : List (List (Int × Int × Int × Int))) (b4 : List (List (Int × Int × Int × Int))) : St := { env := [(4, .s (.one (.val (.bool) (false : Bool))))], objs := [], nx := 0 }

def T_laws_eqKidS_lp0_e1 (a3 : List (List (Int × Int × Int × Int))) (b4 : List (List (Int × Int × Int × Int))) (i7 : Int) (t8 : Bool) : St := { env := [(0, .s (.one (.val (.slice (.slice (.prod (.int .i64) (.prod (.int .i64) (.prod (.int .i64) (.int .i64)))))) (a3 : List (List (Int × Int × Int × Int)))))), (1, .s (.one (.val (.slice (.slice (.prod (.int .i64) (.prod (.int .i64) (.prod (.int .i64) (.int .i64)))))) (b4 : List (List (Int × Int × Int × Int)))))), (5, .s (.one (.val (.int .i64) (i7 : Int)))), (14, .s (.one (.val (.bool) (t8 : Bool))))], objs := [], nx := 0 }

noncomputable def T_laws_eqKidS_lp0_m (N : Nat) {R : Type} (n : Nat) (st : St) (K : Ex → St → Option R) : Option R := loopN (roundG (T_laws_eqKidS_ann 100004) fun st k => sx tab (T_laws_eqKidS_ctx N) T_laws_eqKidS_ann N (nthLoop Try.f22 0) st k) n st K

theorem T_laws_eqKidS_lp0_step (N : Nat) {R : Type} (n : Nat) (K : Ex → St → Option R) (a3 : List (List (Int × Int × Int × Int))) (b4 : List (List (Int × Int × Int × Int))) (i5 : Int) :
    T_laws_eqKidS_lp0_m N (n + 1) (T_laws_eqKidS_lp0_sh a3 b4 i5) K =
    (bif decide (i5 < (ilen a3)) then
    (bif inb i5 (List.length a3) then
      (bif inb i5 (List.length b4) then
        ((T_laws_eqKid N (List.getD a3 (Int.toNat i5) ([] : List (Int × Int × Int × Int))) (List.getD b4 (Int.toNat i5) ([] : List (Int × Int × Int × Int)))).bind fun o9 =>
          (bif !o9.2.1 then
            (K .ret (T_laws_eqKidS_lp0_e0 a3 b4))
            else
            (T_laws_eqKidS_lp0_m N n (T_laws_eqKidS_lp0_sh a3 b4 (iadd .i64 i5 (1 : Int))) K))) else none) else none)
    else
    (K (.exit 0) (T_laws_eqKidS_lp0_e1 a3 b4 i5 (decide (i5 < (ilen a3)))))) := by kernel_rfl

theorem T_laws_eqKidS_lp0_eq (N : Nat) {R : Type} (a3 : List (List (Int × Int × Int × Int))) (b4 : List (List (Int × Int × Int × Int))) (K : Ex → St → Option R) : ∀ (n : Nat) (i5 : Int), T_laws_eqKidS_lp0_m N n (T_laws_eqKidS_lp0_sh a3 b4 i5) K = T_laws_eqKidS_lp0 N a3 b4 (K .ret (T_laws_eqKidS_lp0_e0 a3 b4)) (fun i7 t8 => (K (.exit 0) (T_laws_eqKidS_lp0_e1 a3 b4 i7 t8))) n i5
  | 0, _ => rfl
  | n + 1, i5 => by rw [T_laws_eqKidS_lp0_step, T_laws_eqKidS_lp0]; (try simp only [T_laws_eqKidS_lp0_eq N a3 b4 K n])

theorem T_laws_eqKidS_c1 (N : Nat) (a1 : List (List (Int × Int × Int × Int))) (b2 : List (List (Int × Int × Int × Int))) :
    ((ctxK (R := ODen (T_laws_eqKidS_sg N).ps × RDen (T_laws_eqKidS_sg N).rs) tab (T_laws_eqKidS_ctx N) T_laws_eqKidS_ann N (theCode Try.f22) [1, 1, 0, 1, 0] (retK tab (T_laws_eqKidS_sg N) Try.f22.results.toList some)) .ret (T_laws_eqKidS_lp0_e0 a1 b2)) =
    (some (α := ODen (T_laws_eqKidS_sg N).ps × RDen (T_laws_eqKidS_sg N).rs) ((), (false, ()))) := by kernel_rfl

theorem T_laws_eqKidS_c2 (N : Nat) (a1 : List (List (Int × Int × Int × Int))) (b2 : List (List (Int × Int × Int × Int))) (i10 : Int) (t11 : Bool) :
    ((ctxK (R := ODen (T_laws_eqKidS_sg N).ps × RDen (T_laws_eqKidS_sg N).rs) tab (T_laws_eqKidS_ctx N) T_laws_eqKidS_ann N (theCode Try.f22) [1, 1, 0, 1, 0] (retK tab (T_laws_eqKidS_sg N) Try.f22.results.toList some)) (.exit 0) (T_laws_eqKidS_lp0_e1 a1 b2 i10 t11)) =
    (some (α := ODen (T_laws_eqKidS_sg N).ps × RDen (T_laws_eqKidS_sg N).rs) ((), (true, ()))) := by kernel_rfl

theorem T_laws_eqKidS_den (N : Nat) (a1 : List (List (Int × Int × Int × Int))) (b2 : List (List (Int × Int × Int × Int))) :
    den (R := ODen (T_laws_eqKidS_sg N).ps × RDen (T_laws_eqKidS_sg N).rs) tab (T_laws_eqKidS_ctx N) T_laws_eqKidS_ann N (T_laws_eqKidS_sg N) Try.f22 (a1, b2, ()) some =
    (bif (ilen a1) != (ilen b2) then
    (some (α := ODen (T_laws_eqKidS_sg N).ps × RDen (T_laws_eqKidS_sg N).rs) ((), (false, ())))
    else
    (T_laws_eqKidS_lp0 N a1 b2
      (some (α := ODen (T_laws_eqKidS_sg N).ps × RDen (T_laws_eqKidS_sg N).rs) ((), (false, ())))
      (fun i10 t11 =>
        (some (α := ODen (T_laws_eqKidS_sg N).ps × RDen (T_laws_eqKidS_sg N).rs) ((), (true, ()))))
       N (0 : Int))) := by
  have h : den (R := ODen (T_laws_eqKidS_sg N).ps × RDen (T_laws_eqKidS_sg N).rs) tab (T_laws_eqKidS_ctx N) T_laws_eqKidS_ann N (T_laws_eqKidS_sg N) Try.f22 (a1, b2, ()) some =
    (bif (ilen a1) != (ilen b2) then
    (some (α := ODen (T_laws_eqKidS_sg N).ps × RDen (T_laws_eqKidS_sg N).rs) ((), (false, ())))
    else
    (T_laws_eqKidS_lp0_m N N (T_laws_eqKidS_lp0_sh a1 b2 (0 : Int)) (ctxK (R := ODen (T_laws_eqKidS_sg N).ps × RDen (T_laws_eqKidS_sg N).rs) tab (T_laws_eqKidS_ctx N) T_laws_eqKidS_ann N (theCode Try.f22) [1, 1, 0, 1, 0] (retK tab (T_laws_eqKidS_sg N) Try.f22.results.toList some)))) := by kernel_rfl
  rw [h]
  (try simp only [T_laws_eqKidS_lp0_eq, T_laws_eqKidS_c1, T_laws_eqKidS_c2]) <;> rfl

theorem T_laws_eqKidS_ok (N : Nat) : chkBody Try.f22 (T_laws_eqKidS_sg N).ps = true := by kernel_rfl

theorem T_laws_eqKidS_callable : Callable Try.prog 22 := callable_of Try.func22 (show chkFn Try.f22 = true by kernel_rfl)

theorem T_laws_eqKidS_good (N : Nat) : Good Try.prog 22 (T_laws_eqKidS_sg N) :=
  good_body mixedOk tabOk (ctx_cons (T_laws_eqKid_good N) T_laws_eqKid_callable ctx_nil) Try.func22 (T_laws_eqKidS_ok N) (fun d _ h => ⟨N, (T_laws_eqKidS_den N d.1 d.2.1).trans h⟩)

noncomputable def T_laws_eqIntS_sg (N : Nat) : Sig := Sig.of [.v (.slice (.int .i64)) false, .v (.slice (.int .i64)) false] [.v (.bool) false] (fun d => T_laws_eqIntS N d.1 d.2.1)

def T_laws_eqIntS_ann : Nat → List Ghost
  | 4 => [.canon [0, 1, 5, 14]]
  | 5 => [.canon [0, 1, 5]]
  | 6 => [.canon [0, 1, 5, 25]]
  | 7 => [.canon [4]]
  | 100004 => [.canon [0, 1, 5]]
  | _ => []

noncomputable def T_laws_eqIntS_ctx (N : Nat) : Ctx := []

def T_laws_eqIntS_lp0_sh (a3 : List Int) (b4 : List Int) (i5 : Int) : St := { env := [(0, .s (.one (.val (.slice (.int .i64)) (a3 : List Int)))), (1, .s (.one (.val (.slice (.int .i64)) (b4 : List Int)))), (5, .s (.one (.val (.int .i64) (i5 : Int))))], objs := [], nx := 0 }

def T_laws_eqIntS_lp0_e0 (a3 : List Int) (b4 : List Int) : St := { env := [(4, .s (.one (.val (.bool) (false : Bool))))], objs := [], nx := 0 }

def T_laws_eqIntS_lp0_e1 (a3 : List Int) (b4 : List Int) (i6 : Int) (t7 : Bool) : St := { env := [(0, .s (.one (.val (.slice (.int .i64)) (a3 : List Int)))), (1, .s (.one (.val (.slice (.int .i64)) (b4 : List Int)))), (5, .s (.one (.val (.int .i64) (i6 : Int)))), (14, .s (.one (.val (.bool) (t7 : Bool))))], objs := [], nx := 0 }

noncomputable def T_laws_eqIntS_lp0_m (N : Nat) {R : Type} (n : Nat) (st : St) (K : Ex → St → Option R) : Option R := loopN (roundG (T_laws_eqIntS_ann 100004) fun st k => sx tab (T_laws_eqIntS_ctx N) T_laws_eqIntS_ann N (nthLoop Try.f23 0) st k) n st K

theorem T_laws_eqIntS_lp0_step (N : Nat) {R : Type} (n : Nat) (K : Ex → St → Option R) (a3 : List Int) (b4 : List Int) (i5 : Int) :
    T_laws_eqIntS_lp0_m N (n + 1) (T_laws_eqIntS_lp0_sh a3 b4 i5) K =
    (bif decide (i5 < (ilen a3)) then
    (bif inb i5 (List.length a3) then
      (bif inb i5 (List.length b4) then
        (bif (List.getD a3 (Int.toNat i5) (0 : Int)) != (List.getD b4 (Int.toNat i5) (0 : Int)) then
          (K .ret (T_laws_eqIntS_lp0_e0 a3 b4))
          else
          (T_laws_eqIntS_lp0_m N n (T_laws_eqIntS_lp0_sh a3 b4 (iadd .i64 i5 (1 : Int))) K)) else none) else none)
    else
    (K (.exit 0) (T_laws_eqIntS_lp0_e1 a3 b4 i5 (decide (i5 < (ilen a3)))))) := by kernel_rfl

theorem T_laws_eqIntS_lp0_eq (N : Nat) {R : Type} (a3 : List Int) (b4 : List Int) (K : Ex → St → Option R) : ∀ (n : Nat) (i5 : Int), T_laws_eqIntS_lp0_m N n (T_laws_eqIntS_lp0_sh a3 b4 i5) K = T_laws_eqIntS_lp0 N a3 b4 (K .ret (T_laws_eqIntS_lp0_e0 a3 b4)) (fun i6 t7 => (K (.exit 0) (T_laws_eqIntS_lp0_e1 a3 b4 i6 t7))) n i5
  | 0, _ => rfl
  | n + 1, i5 => by rw [T_laws_eqIntS_lp0_step, T_laws_eqIntS_lp0]; (try simp only [T_laws_eqIntS_lp0_eq N a3 b4 K n])

theorem T_laws_eqIntS_c1 (N : Nat) (a1 : List Int) (b2 : List Int) :
    ((ctxK (R := ODen (T_laws_eqIntS_sg N).ps × RDen (T_laws_eqIntS_sg N).rs) tab (T_laws_eqIntS_ctx N) T_laws_eqIntS_ann N (theCode Try.f23) [1, 1, 0, 1, 0] (retK tab (T_laws_eqIntS_sg N) Try.f23.results.toList some)) .ret (T_laws_eqIntS_lp0_e0 a1 b2)) =
    (some (α := ODen (T_laws_eqIntS_sg N).ps × RDen (T_laws_eqIntS_sg N).rs) ((), (false, ()))) := by kernel_rfl

theorem T_laws_eqIntS_c2 (N : Nat) (a1 : List Int) (b2 : List Int) (i8 : Int) (t9 : Bool) :
    ((ctxK (R := ODen (T_laws_eqIntS_sg N).ps × RDen (T_laws_eqIntS_sg N).rs) tab (T_laws_eqIntS_ctx N) T_laws_eqIntS_ann N (theCode Try.f23) [1, 1, 0, 1, 0] (retK tab (T_laws_eqIntS_sg N) Try.f23.results.toList some)) (.exit 0) (T_laws_eqIntS_lp0_e1 a1 b2 i8 t9)) =
    (some (α := ODen (T_laws_eqIntS_sg N).ps × RDen (T_laws_eqIntS_sg N).rs) ((), (true, ()))) := by kernel_rfl

theorem T_laws_eqIntS_den (N : Nat) (a1 : List Int) (b2 : List Int) :
    den (R := ODen (T_laws_eqIntS_sg N).ps × RDen (T_laws_eqIntS_sg N).rs) tab (T_laws_eqIntS_ctx N) T_laws_eqIntS_ann N (T_laws_eqIntS_sg N) Try.f23 (a1, b2, ()) some =
    (bif (ilen a1) != (ilen b2) then
    (some (α := ODen (T_laws_eqIntS_sg N).ps × RDen (T_laws_eqIntS_sg N).rs) ((), (false, ())))
    else
    (T_laws_eqIntS_lp0 N a1 b2
      (some (α := ODen (T_laws_eqIntS_sg N).ps × RDen (T_laws_eqIntS_sg N).rs) ((), (false, ())))
      (fun i8 t9 =>
        (some (α := ODen (T_laws_eqIntS_sg N).ps × RDen (T_laws_eqIntS_sg N).rs) ((), (true, ()))))
       N (0 : Int))) := by
  have h : den (R := ODen (T_laws_eqIntS_sg N).ps × RDen (T_laws_eqIntS_sg N).rs) tab (T_laws_eqIntS_ctx N) T_laws_eqIntS_ann N (T_laws_eqIntS_sg N) Try.f23 (a1, b2, ()) some =
    (bif (ilen a1) != (ilen b2) then
    (some (α := ODen (T_laws_eqIntS_sg N).ps × RDen (T_laws_eqIntS_sg N).rs) ((), (false, ())))
    else
    (T_laws_eqIntS_lp0_m N N (T_laws_eqIntS_lp0_sh a1 b2 (0 : Int)) (ctxK (R := ODen (T_laws_eqIntS_sg N).ps × RDen (T_laws_eqIntS_sg N).rs) tab (T_laws_eqIntS_ctx N) T_laws_eqIntS_ann N (theCode Try.f23) [1, 1, 0, 1, 0] (retK tab (T_laws_eqIntS_sg N) Try.f23.results.toList some)))) := by kernel_rfl
  rw [h]
  (try simp only [T_laws_eqIntS_lp0_eq, T_laws_eqIntS_c1, T_laws_eqIntS_c2]) <;> rfl

theorem T_laws_eqIntS_ok (N : Nat) : chkBody Try.f23 (T_laws_eqIntS_sg N).ps = true := by kernel_rfl

theorem T_laws_eqIntS_callable : Callable Try.prog 23 := callable_of Try.func23 (show chkFn Try.f23 = true by kernel_rfl)

theorem T_laws_eqIntS_good (N : Nat) : Good Try.prog 23 (T_laws_eqIntS_sg N) :=
  good_body mixedOk tabOk ctx_nil Try.func23 (T_laws_eqIntS_ok N) (fun d _ h => ⟨N, (T_laws_eqIntS_den N d.1 d.2.1).trans h⟩)

noncomputable def T_laws_FnExactAltsOk_sg (N : Nat) : Sig := Sig.of [.v (.slice (.slice (.prod (.int .i64) (.prod (.int .i64) (.prod (.int .i64) (.int .i64)))))) false, .v (.slice (.int .i64)) false, .v (.slice (.int .i64)) false] [.v (.bool) false] (fun d => T_laws_FnExactAltsOk N d.1 d.2.1 d.2.2.1)

def T_laws_FnExactAltsOk_ann : Nat → List Ghost
  | _ => []

noncomputable def T_laws_FnExactAltsOk_ctx (N : Nat) : Ctx := [(17, T_laws_szKidS_sg N), (19, T_laws_toKidS_sg N), (20, T_laws_toIntS_sg N), (18, T_spec_AltsOk_sg N), (21, T_impl_AltsOk_sg N), (22, T_laws_eqKidS_sg N), (23, T_laws_eqIntS_sg N)]

theorem T_laws_FnExactAltsOk_den (N : Nat) (aL1 : List (List (Int × Int × Int × Int))) (aRegs2 : List Int) (aCells3 : List Int) :
    den (R := ODen (T_laws_FnExactAltsOk_sg N).ps × RDen (T_laws_FnExactAltsOk_sg N).rs) tab (T_laws_FnExactAltsOk_ctx N) T_laws_FnExactAltsOk_ann N (T_laws_FnExactAltsOk_sg N) Try.f4 (aL1, aRegs2, aCells3, ()) some =
    (bif decide ((ilen aRegs2) > (1048576 : Int)) then
    (some (α := ODen (T_laws_FnExactAltsOk_sg N).ps × RDen (T_laws_FnExactAltsOk_sg N).rs) ((), (true, ())))
    else
    (bif decide ((ilen aCells3) > (1048576 : Int)) then
      (some (α := ODen (T_laws_FnExactAltsOk_sg N).ps × RDen (T_laws_FnExactAltsOk_sg N).rs) ((), (true, ())))
      else
      ((T_laws_szKidS N aL1 (1048576 : Int)).bind fun o4 =>
        (bif decide (o4.2.1 < (0 : Int)) then
          (some (α := ODen (T_laws_FnExactAltsOk_sg N).ps × RDen (T_laws_FnExactAltsOk_sg N).rs) ((), (true, ())))
          else
          ((T_laws_toKidS N aL1).bind fun o5 =>
            ((T_laws_toIntS N aRegs2).bind fun o6 =>
              ((T_laws_toIntS N aCells3).bind fun o7 =>
                ((T_spec_AltsOk N o5.2.1 o6.2.1 o7.2.1).bind fun o8 =>
                  ((T_laws_toKidS N aL1).bind fun o9 =>
                    ((T_laws_toIntS N aRegs2).bind fun o10 =>
                      ((T_laws_toIntS N aCells3).bind fun o11 =>
                        ((T_impl_AltsOk N o9.2.1 o10.2.1 o11.2.1).bind fun o12 =>
                          (bif !(beq o12.2.1 o8.2.1) then
                            (some (α := ODen (T_laws_FnExactAltsOk_sg N).ps × RDen (T_laws_FnExactAltsOk_sg N).rs) ((), (false, ())))
                            else
                            ((T_laws_toKidS N aL1).bind fun o13 =>
                              ((T_laws_eqKidS N o9.2.1 o13.2.1).bind fun o14 =>
                                (bif !o14.2.1 then
                                  (some (α := ODen (T_laws_FnExactAltsOk_sg N).ps × RDen (T_laws_FnExactAltsOk_sg N).rs) ((), (false, ())))
                                  else
                                  ((T_laws_toIntS N aRegs2).bind fun o15 =>
                                    ((T_laws_eqIntS N o10.2.1 o15.2.1).bind fun o16 =>
                                      (bif !o16.2.1 then
                                        (some (α := ODen (T_laws_FnExactAltsOk_sg N).ps × RDen (T_laws_FnExactAltsOk_sg N).rs) ((), (false, ())))
                                        else
                                        ((T_laws_toIntS N aCells3).bind fun o17 =>
                                          ((T_laws_eqIntS N o11.2.1 o17.2.1).bind fun o18 =>
                                            (bif !o18.2.1 then
                                              (some (α := ODen (T_laws_FnExactAltsOk_sg N).ps × RDen (T_laws_FnExactAltsOk_sg N).rs) ((), (false, ())))
                                              else
                                              (some (α := ODen (T_laws_FnExactAltsOk_sg N).ps × RDen (T_laws_FnExactAltsOk_sg N).rs) ((), (true, ()))))))))))))))))))))))))) := by kernel_rfl

theorem T_laws_FnExactAltsOk_ok (N : Nat) : chkBody Try.f4 (T_laws_FnExactAltsOk_sg N).ps = true := by kernel_rfl

theorem T_laws_FnExactAltsOk_callable : Callable Try.prog 4 := callable_of Try.func4 (show chkFn Try.f4 = true by kernel_rfl)

theorem T_laws_FnExactAltsOk_good (N : Nat) : Good Try.prog 4 (T_laws_FnExactAltsOk_sg N) :=
  good_body mixedOk tabOk (ctx_cons (T_laws_szKidS_good N) T_laws_szKidS_callable (ctx_cons (T_laws_toKidS_good N) T_laws_toKidS_callable (ctx_cons (T_laws_toIntS_good N) T_laws_toIntS_callable (ctx_cons (T_spec_AltsOk_good N) T_spec_AltsOk_callable (ctx_cons (T_impl_AltsOk_good N) T_impl_AltsOk_callable (ctx_cons (T_laws_eqKidS_good N) T_laws_eqKidS_callable (ctx_cons (T_laws_eqIntS_good N) T_laws_eqIntS_callable ctx_nil))))))) Try.func4 (T_laws_FnExactAltsOk_ok N) (fun d _ h => ⟨N, (T_laws_FnExactAltsOk_den N d.1 d.2.1 d.2.2.1).trans h⟩)

end Go.Sx
