/- Walks, by program (lift5.py): the code does what the lifted functions say. -/
import Derived.Test.YtckmalogclklmaaGreatDoorTHead
import Derived.Test.YtckmalogclklmaaGreatDoorTDg
import Derived.Test.YtckmalogclklmaaGreatDoorTSd
import Derived.Test.YtckmalogclklmaaGreatDoorTCh
set_option linter.all false
namespace Go.Vx
open Go.Proofs
set_option maxRecDepth 100000
set_option maxHeartbeats 8000000
set_option linter.unusedVariables false
set_option linter.unusedSimpArgs false
attribute [local irreducible] chk ay av aM lI

theorem Xh eT n r (h:JC eT n=some r):Pf 65 [vb eT,vi n] (vi r):=by
  unfold JC at h
  refine bC Tryz.func65 fun ctr hc=>?_
  revert h;refine bE 1 [] 0 [] (Wq ?_);intro h;intros
  refine bq h (ctr+1) [(4,20)] [] (fun _ u=>Fa [] []) (fun x uc ug ut ht hu hp h=>?_) (fun f h=>?_)
  · cases h
  · revert h;refine bE 1 [] 0 [] (Wq ?_);intro h;intros
    refine Tr.block ?_
    refine Tr.rounds 25 ?_
    refine iO h (ctr+2) [(4,3),(1,16)] [(6,1)] (fun _ u1=>Fa [(8,vi 1)] []) (fun x cu fJ fE ht hu hp h=>?_) (fun f h=>?_)
    · refine iO h cu [(4,3),(1,16)] [(6,1)] (fun _ u2=>Fa [(8,vi 2)] []) (fun x jB ny mF ht hu hp h=>?_) (fun f h=>?_)
      · refine iO h jB [(4,3),(1,16)] [(6,1)] (fun _ u3=>Fa [(8,vi 3)] []) (fun x nA vN vo ht hu hp h=>?_) (fun f h=>?_)
        · refine iO h nA [(4,3),(1,16)] [(6,1)] (fun _ u4=>Fa [(8,vi 4)] []) (fun x sw EM DR ht hu hp h=>?_) (fun f h=>?_)
          · refine iO h sw [(4,3),(1,16)] [(6,1)] (fun _ u5=>Fa [(8,vi 5)] []) (fun x GU Pg NK ht hu hp h=>?_) (fun f h=>?_)
            · refine iO h GU [(4,3),(1,16)] [(6,1)] (fun _ u6=>Fa [(8,vi 6)] []) (fun x Tc u6g ZH ht hu hp h=>?_) (fun f h=>?_)
              · refine iO h Tc [(4,3),(1,16)] [(6,1)] (fun _ u7=>Fa [(8,vi 7)] []) (fun x u7c u7g u7t ht hu hp h=>?_) (fun f h=>?_)
                · refine iO h u7c [(4,3),(1,16)] [(6,1)] (fun _ u8=>Fa [(8,vi 8)] []) (fun x u8c u8g u8t ht hu hp h=>?_) (fun f h=>?_)
                  · refine iO h u8c [(4,3),(1,16)] [(6,1)] (fun _ u9=>Fa [(8,vi 9)] []) (fun x u9c u9g u9t ht hu hp h=>?_) (fun f h=>?_)
                    · refine iO h u9c [(4,3),(1,16)] [(6,1)] (fun _ u10=>Fa [(8,vi 10)] []) (fun x afS ajh aji ht hu hp h=>?_) (fun f h=>?_)
                      · refine iO h afS [(4,3),(1,16)] [(6,1)] (fun _ u11=>Fa [(8,vi 11)] []) (fun x ajj aoA aoB ht hu hp h=>?_) (fun f h=>?_)
                        · refine iO h ajj [(4,3),(1,16)] [(6,1)] (fun _ u12=>Fa [(8,vi 12)] []) (fun x ajk aoC aoD ht hu hp h=>?_) (fun f h=>?_)
                          · refine iO h ajk [(4,3),(1,16)] [(6,1)] (fun _ u13=>Fa [(8,vi 13)] []) (fun x ajl aoE aoF ht hu hp h=>?_) (fun f h=>?_)
                            · refine iO h ajl [(4,3),(1,16)] [(6,1)] (fun _ u14=>Fa [(8,vi 14)] []) (fun x ajm aoG aoH ht hu hp h=>?_) (fun f h=>?_)
                              · refine iO h ajm [(4,3),(1,16)] [(6,1)] (fun _ u15=>Fa [(8,vi 15)] []) (fun x ajn aoI aoJ ht hu hp h=>?_) (fun f h=>?_)
                                · refine iO h ajn [(4,3),(1,16)] [(6,1)] (fun _ u16=>Fa [(8,vi 16)] []) (fun x ajo aoK aoL ht hu hp h=>?_) (fun f h=>?_)
                                  · refine iO h ajo [(4,3),(1,16)] [(6,1)] (fun _ u17=>Fa [(8,vi 17)] []) (fun x ajp aoM aoN ht hu hp h=>?_) (fun f h=>?_)
                                    · refine iO h ajp [(4,3),(1,16)] [(6,1)] (fun _ u18=>Fa [(8,vi 18)] []) (fun x ajq aoO aoP ht hu hp h=>?_) (fun f h=>?_)
                                      · refine iO h ajq [(4,3),(1,16)] [(6,1)] (fun _ u19=>Fa [(8,vi 19)] []) (fun x ajr aoQ aoR ht hu hp h=>?_) (fun f h=>?_)
                                        · refine iO h ajr [(4,3),(1,16)] [(6,1)] (fun _ u20=>Fa [(8,vi 20)] []) (fun x ajs aoS aoT ht hu hp h=>?_) (fun f h=>?_)
                                          · refine iO h ajs [(4,3),(1,16)] [(6,1)] (fun _ u21=>Fa [(8,vi 21)] []) (fun x ajt aoU aoV ht hu hp h=>?_) (fun f h=>?_)
                                            · refine iO h ajt [(4,3),(1,16)] [(6,1)] (fun _ u22=>Fa [(8,vi 22)] []) (fun x aoW aq7 aq8 ht hu hp h=>?_) (fun f h=>?_)
                                              · refine iO h aoW [(4,3),(1,16)] [(6,1)] (fun _ u23=>Fa [(8,vi 23)] []) (fun x aoX aq9 ara ht hu hp h=>?_) (fun f h=>?_)
                                                · refine iO h aoX [(4,3),(1,16)] [(6,1)] (fun _ u24=>Fa [(8,vi 24)] []) (fun x arb ard arf ht hu hp h=>?_) (fun f h=>?_)
                                                  · refine Wx [] 0 [] Wz
                                                  · refine Wx [] 0 [] Wz
                                                · refine Wx [] 0 [] Wz
                                              · refine Wx [] 0 [] Wz
                                            · refine Wx [] 0 [] Wz
                                          · refine Wx [] 0 [] Wz
                                        · refine Wx [] 0 [] Wz
                                      · refine Wx [] 0 [] Wz
                                    · refine Wx [] 0 [] Wz
                                  · refine Wx [] 0 [] Wz
                                · refine Wx [] 0 [] Wz
                              · refine Wx [] 0 [] Wz
                            · refine Wx [] 0 [] Wz
                          · refine Wx [] 0 [] Wz
                        · refine Wx [] 0 [] Wz
                      · refine Wx [] 0 [] Wz
                    · refine Wx [] 0 [] Wz
                  · refine Wx [] 0 [] Wz
                · refine Wx [] 0 [] Wz
              · refine Wx [] 0 [] Wz
            · refine Wx [] 0 [] Wz
          · refine Wx [] 0 [] Wz
        · refine Wx [] 0 [] Wz
      · refine Wx [] 0 [] Wz
    · refine Wx [] 0 [] Wz

end Go.Vx
