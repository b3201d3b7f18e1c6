/- Walks, by program (lift5.py): the code does what the lifted functions say. -/
import Derived.Test.YtmpgicplgjmjkaaGreatDoorTPi
import Derived.Test.YtmpgicplgjmjkaaGreatDoorTCh
set_option linter.all false
namespace Go.Vx
open Go.Proofs
set_option maxRecDepth 100000
set_option maxHeartbeats 8000000
set_option linter.unusedVariables false
set_option linter.unusedSimpArgs false
attribute [local irreducible] chk aA au aO oH

theorem KH dU n r (h:yB dU n=some r):Pf 88 [vb dU,vi n] (vi r):=by
  unfold yB at h;refine bf Tryz.func88 λctr hc=>?_;revert h;refine bT 1 [] 0 [] (Wq ?_);intro h;intros;refine bR h (ctr+1) [(4,20)] [] (λ_ u=>Fa [] []) (λx uc ug ut ht hu hp h=>?_) (λf h=>?_)
  . refine Wx [] 0 [] Wz
  revert h;refine bT 1 [] 0 [] (Wq ?_);intro h;intros;refine Tr.block ?_;refine Tr.rounds 25 ?_;refine kX h (ctr+2) [(4,3),(1,16)] [(6,1)] (λ_ u1=>Fa [(8,vi 1)] []) (λx dQ iN iG ht hu hp h=>?_) (λf h=>?_)
  . refine kX h dQ [(4,3),(1,16)] [(6,1)] (λ_ u2=>Fa [(8,vi 2)] []) (λx lD qW pU ht hu hp h=>?_) (λf h=>?_)
    . refine kX h lD [(4,3),(1,16)] [(6,1)] (λ_ u3=>Fa [(8,vi 3)] []) (λx oV BD zT ht hu hp h=>?_) (λf h=>?_)
      . refine kX h oV [(4,3),(1,16)] [(6,1)] (λ_ u4=>Fa [(8,vi 4)] []) (λx yN MQ JN ht hu hp h=>?_) (λf h=>?_)
        . refine kX h yN [(4,3),(1,16)] [(6,1)] (λ_ u5=>Fa [(8,vi 5)] []) (λx NK XU UN ht hu hp h=>?_) (λf h=>?_)
          . refine kX h NK [(4,3),(1,16)] [(6,1)] (λ_ u6=>Fa [(8,vi 6)] []) (λx Zf u6g u6t ht hu hp h=>?_) (λf h=>?_)
            . refine kX h Zf [(4,3),(1,16)] [(6,1)] (λ_ u7=>Fa [(8,vi 7)] []) (λx u7c u7g u7t ht hu hp h=>?_) (λf h=>?_)
              . refine kX h u7c [(4,3),(1,16)] [(6,1)] (λ_ u8=>Fa [(8,vi 8)] []) (λx u8c u8g u8t ht hu hp h=>?_) (λf h=>?_)
                . refine kX h u8c [(4,3),(1,16)] [(6,1)] (λ_ u9=>Fa [(8,vi 9)] []) (λx u9c u9g u9t ht hu hp h=>?_) (λf h=>?_)
                  . refine kX h u9c [(4,3),(1,16)] [(6,1)] (λ_ u10=>Fa [(8,vi 10)] []) (λx apG aur aus ht hu hp h=>?_) (λf h=>?_)
                    . refine kX h apG [(4,3),(1,16)] [(6,1)] (λ_ u11=>Fa [(8,vi 11)] []) (λx aut ayQ ayR ht hu hp h=>?_) (λf h=>?_)
                      . refine kX h aut [(4,3),(1,16)] [(6,1)] (λ_ u12=>Fa [(8,vi 12)] []) (λx auu ayS ayT ht hu hp h=>?_) (λf h=>?_)
                        . refine kX h auu [(4,3),(1,16)] [(6,1)] (λ_ u13=>Fa [(8,vi 13)] []) (λx auv ayU ayV ht hu hp h=>?_) (λf h=>?_)
                          . refine kX h auv [(4,3),(1,16)] [(6,1)] (λ_ u14=>Fa [(8,vi 14)] []) (λx auw ayW ayX ht hu hp h=>?_) (λf h=>?_)
                            . refine kX h auw [(4,3),(1,16)] [(6,1)] (λ_ u15=>Fa [(8,vi 15)] []) (λx auy ayY ayZ ht hu hp h=>?_) (λf h=>?_)
                              . refine kX h auy [(4,3),(1,16)] [(6,1)] (λ_ u16=>Fa [(8,vi 16)] []) (λx auz ay0 ay1 ht hu hp h=>?_) (λf h=>?_)
                                . refine kX h auz [(4,3),(1,16)] [(6,1)] (λ_ u17=>Fa [(8,vi 17)] []) (λx auA ay2 ay3 ht hu hp h=>?_) (λf h=>?_)
                                  . refine kX h auA [(4,3),(1,16)] [(6,1)] (λ_ u18=>Fa [(8,vi 18)] []) (λx auB ay4 ay5 ht hu hp h=>?_) (λf h=>?_)
                                    . refine kX h auB [(4,3),(1,16)] [(6,1)] (λ_ u19=>Fa [(8,vi 19)] []) (λx auC ay6 ay7 ht hu hp h=>?_) (λf h=>?_)
                                      . refine kX h auC [(4,3),(1,16)] [(6,1)] (λ_ u20=>Fa [(8,vi 20)] []) (λx auD ay8 ay9 ht hu hp h=>?_) (λf h=>?_)
                                        . refine kX h auD [(4,3),(1,16)] [(6,1)] (λ_ u21=>Fa [(8,vi 21)] []) (λx auE aza azb ht hu hp h=>?_) (λf h=>?_)
                                          . refine kX h auE [(4,3),(1,16)] [(6,1)] (λ_ u22=>Fa [(8,vi 22)] []) (λx azc aBd aBe ht hu hp h=>?_) (λf h=>?_)
                                            . refine kX h azc [(4,3),(1,16)] [(6,1)] (λ_ u23=>Fa [(8,vi 23)] []) (λx azd aBf aBg ht hu hp h=>?_) (λf h=>?_)
                                              . refine kX h azd [(4,3),(1,16)] [(6,1)] (λ_ u24=>Fa [(8,vi 24)] []) (λx aBh aBi aBj ht hu hp h=>?_) (λf h=>?_)
                                                . refine Wx [] 0 [] Wz
                                                refine Wx [] 0 [] Wz
                                              refine Wx [] 0 [] Wz
                                            refine Wx [] 0 [] Wz
                                          refine Wx [] 0 [] Wz
                                        refine Wx [] 0 [] Wz
                                      refine Wx [] 0 [] Wz
                                    refine Wx [] 0 [] Wz
                                  refine Wx [] 0 [] Wz
                                refine Wx [] 0 [] Wz
                              refine Wx [] 0 [] Wz
                            refine Wx [] 0 [] Wz
                          refine Wx [] 0 [] Wz
                        refine Wx [] 0 [] Wz
                      refine Wx [] 0 [] Wz
                    refine Wx [] 0 [] Wz
                  refine Wx [] 0 [] Wz
                refine Wx [] 0 [] Wz
              refine Wx [] 0 [] Wz
            refine Wx [] 0 [] Wz
          refine Wx [] 0 [] Wz
        refine Wx [] 0 [] Wz
      refine Wx [] 0 [] Wz
    refine Wx [] 0 [] Wz
  refine Wx [] 0 [] Wz

end Go.Vx
