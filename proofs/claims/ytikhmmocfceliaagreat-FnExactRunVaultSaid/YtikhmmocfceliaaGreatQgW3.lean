/- The walks of functions: the code comes to the answers that QgD tells. Written by a program of ours. -/
import Derived.Test.YtikhmmocfceliaaGreatQgW2
set_option linter.all false
set_option maxHeartbeats 4000000
set_option linter.unusedVariables false
set_option maxRecDepth 100000
namespace Go.Ev
variable {C:Bl}

/- (loop.example/g00149/impl.Vault).tick -/
def AbU:=[X_ 2 0,X_ 3 1,a_ 4 (zV 259 260 261),a_ 5 [iV 0,iV 0]]
def AbV:List Cf:=[L_ 16 2 6,L_ 17 3 7,⟨some 18,.p (.build [iV 0,iV 0,.own 1155 0 4 [],.own 1156 0 2 [],.own 1157 0 1 [],.bool false,iV 0,iV 0,iV 0,iV 0,iV 0,.own 1164 0 1 [],iV 0,iV 0] [(0,6,.t 16),(6,7,.t 17)]),none⟩,X_ 19 18,a_ 6 [.undef],s_ 6 19 1]
def AbW:=tk [l_ 21 6 1,f_ 22 2 0,L_ 23 22 3,f_ 24 3 4,l_ 25 24 1] (.alt [l_ 21 6 1] (q_ 26 82 [.t 23,.t 25]) (tk [m_ 20 26,e_ 27 20 0,e_ 28 20 1,iQ 29 (.nilc (.t 21)),f_ 30 29 0,f_ 31 30 0] (.alt [e_ 28 20 1] (s_ 31 27 3) .fin .stop)) .stop)
def AbX:=[f_ 32 3 6,l_ 33 32 1,B_ .eql 34 33 1]
def AbY:=[l_ 35 6 1,iQ 36 (.nilc (.t 35)),f_ 37 36 0,L_ 38 37 6,q_ 39 470 [.t 38],e_ 40 39 0,e_ 41 39 1,s_ 4 40 6,s_ 5 41 2]
def AbZ:=[iQ 42 (.fn 472 [.t 3,.t 6]),m_ 7 42]
def Aca:=[l_ 43 6 1,iQ 44 (.nilc (.t 43)),f_ 45 44 0,f_ 46 45 0,f_ 47 46 2,l_ 48 47 1,q_ 49 66 [.t 48],n_ 50 49,i_ 51 0]
def Acb:=[b_ .lss 52 51 50]
def Acc:=[x_ 53 49 51 4,L_ 54 53 4,a_ 9 [iV 0,iV 0,iV 0,.bool false],s_ 9 54 4]
def Acd:=[f_ 55 9 3,l_ 56 55 1,N_ 57 56]
def BP:=[l_ 58 6 1,f_ 59 9 0,l_ 60 59 1,q_ 61 471 [.t 58,.t 60,.c (.bool false)],m_ 10 61]
def BQ:=tk [l_ 63 6 1,iQ 64 (.nilc (.t 63)),f_ 65 64 0,f_ 66 65 0,L_ 67 66 3,f_ 68 9 0,l_ 69 68 1] (.alt [] (q_ 70 77 [.t 67,.t 69]) (tk [m_ 62 70,e_ 71 62 0,e_ 72 62 1,m_ 11 71,m_ 12 72] .fin) .stop)
def BR:=[m_ 73 10,B_ .eql 74 73 0]
def BS:=tk [l_ 75 6 1,l_ 76 6 1,iQ 77 (.nilc (.t 76)),f_ 78 77 0,f_ 79 78 0,L_ 80 79 3,m_ 81 11] (.alt [l_ 75 6 1] (q_ 82 78 [.t 80,.t 81]) (tk [iQ 83 (.nilc (.t 75)),f_ 84 83 0,f_ 85 84 0] (.alt [] (s_ 85 82 3) .fin .stop)) .stop)
def BT:List Cf:=[m_ 86 7,⟨some 87,.callv (.t 86) [],none⟩]
def BU:=[l_ 88 6 1,iQ 89 (.nilc (.t 88)),f_ 90 89 0,L_ 91 90 6,q_ 92 470 [.t 91],e_ 93 92 0,e_ 94 92 1,s_ 4 93 6,s_ 5 94 2]
def BV:=[B_ .add 95 51 1,m_ 51 95]
def AbS:IR:=(sr Acb (.seq (.ite (.t 52) .skip (.exit 0)) (.seq (.block 1 (sr Acc (.seq (sr Acd (iz 57 (.exit 1))) (sr BP (.seq (sd BQ (sr BR (iz 74 (.draw BS)))) (sr BT (iz 87 (rr BU)))))))) (.reg BV))))
def BW:=[l_ 96 6 1,iQ 97 (.nilc (.t 96)),f_ 98 97 0,f_ 99 98 3,l_ 100 99 1,q_ 101 469 [.t 100],n_ 102 101,i_ 103 0]
def BX:=[b_ .lss 104 103 102]
def BY:=[x_ 105 101 103 2,L_ 106 105 2,a_ 14 [iV 0,.bool false],s_ 14 106 2]
def BZ:=[f_ 107 14 1,l_ 108 107 1,N_ 109 108]
def CA:=[l_ 110 6 1,f_ 111 14 0,l_ 112 111 1,q_ 113 471 [.t 110,.t 112,.c (.bool false)],m_ 15 113]
def CB:=[m_ 114 15,B_ .eql 115 114 0]
def CC:=tk [l_ 116 6 1,l_ 117 6 1,iQ 118 (.nilc (.t 117)),f_ 119 118 0,f_ 120 119 3,l_ 121 120 1,iQ 122 (.fn 474 [.t 14])] (.alt [l_ 116 6 1] (q_ 123 473 [.t 121,.t 122]) (tk [iQ 124 (.nilc (.t 116)),f_ 125 124 0,f_ 126 125 3] (.alt [] (s_ 126 123 1) .fin .stop)) .stop)
def CD:List Cf:=[m_ 127 7,⟨some 128,.callv (.t 127) [],none⟩]
def CE:=[l_ 129 6 1,iQ 130 (.nilc (.t 129)),f_ 131 130 0,L_ 132 131 6,q_ 133 470 [.t 132],e_ 134 133 0,e_ 135 133 1,s_ 4 134 6,s_ 5 135 2]
def CF:=[B_ .add 136 103 1,m_ 103 136]
def AbT:IR:=(sr BX (.seq (.ite (.t 104) .skip (.exit 2)) (.seq (.block 3 (sr BY (.seq (sr BZ (iz 109 (.exit 3))) (sr CA (.seq (sr CB (iz 115 (.draw CC))) (sr CD (iz 128 (rr CE)))))))) (.reg CF))))
def CG:=[l_ 137 6 1,iQ 138 (.nilc (.t 137)),f_ 139 138 0,L_ 140 139 6,iQ 141 (.build [iV 0,iV 0] []),s_ 4 140 6,s_ 5 141 2]
def c467:Dv:=⟨2,142,[.cell 4 6 true,.cell 5 2 true],sr AbU (sr AbV (sd AbW (.seq (sr AbX (iz 34 (rr AbY))) (sr AbZ (.seq (sr Aca (Im 0 AbS)) (.seq (sr BW (Im 2 AbT)) (rr CG)))))))⟩
def K467 (D:Bl):Prop:=∀a0 a1 r,g467 a0 a1=some r→D 467 ⟨[.agg (Av a0 (Aq 1024000) (Aq 1024001) (Aq 1024002)),.agg (Ao a1)],[]⟩ ⟨.tup [.agg (Av r.1 (Aq 0) (Aq 1) (Aq 2)),.agg (Ax r.2)],[],[]⟩
abbrev Eu:=fun x0 (r:List (Nat×List V))=>(192,Ao x0)::(256,At 0 0 (Aq 259) [] (Aq 260) [] (Aq 261) [] false)::(320,[iV 0,iV 0])::(384,[.ptr 1216 0])::r
abbrev Fi:=fun (r:List (Nat×V))=>(4,.ptr 256 0)::(5,.ptr 320 0)::(6,.ptr 384 0)::(7,.clo 472 [.ptr 192 0,.ptr 384 0])::r
abbrev bG:=fun (r:List (Nat×List V))=>(256,At 0 0 (Aq 259) [] (Aq 260) [] (Aq 261) [] false)::(320,[iV 0,iV 0])::r
abbrev Lq:=fun (r:List (Nat×V))=>(4,.ptr 256 0)::(5,.ptr 320 0)::r
theorem F467 (H66:K66 C) (H77:K77 C) (H78:K78 C) (H82:K82 C) (H469:HT C) (H470:HU C) (H471:HV C) (H472:K472 C) (H473:K473 C) (H474:K474 C):K467 (FO C c467):=by
 intro a0 a1 r h0
 refine f0 (Ba 6 (Lq [(2,.ptr 128 0),(3,.ptr 192 0)]) (bG [(128,Av a0 (Aq 1024000) (Aq 1024001) (Aq 1024002)),(192,Ao a1)]) (Bj 3 (Ar (st (c_ (v:=.agg (Da a0.Ac.clock a0.Ac.next (Aq 1024000) a0.Ac.Af (Aq 1024001) a0.Ad (Aq 1024002) a0.Aj a0.Am a1.kind a1.id a1.ttl a1.Db a1.clock u_ a1.Bi a1.stop 0)) (Bn ⟨tv,tv,tv⟩ rfl ⟨⟨rfl,rfl,nl rfl⟩,⟨rfl,rfl,nl rfl⟩,tv⟩) (o_ (Ba 4 (Lq [(2,.ptr 128 0),(3,.ptr 192 0),(6,.ptr 384 0)]) (Eu a1 [(128,Av a0 (Aq 1024000) (Aq 1024001) (Aq 1024002)),(1216,Da a0.Ac.clock a0.Ac.next (Aq 1024000) a0.Ac.Af (Aq 1024001) a0.Ad (Aq 1024002) a0.Aj a0.Am a1.kind a1.id a1.ttl a1.Db a1.clock u_ a1.Bi a1.stop 0)]) (Aw (bb h0 fun r1 e2 h0=>Bj 5 (Bq (cG (H82 a0.Ac a1.clock r1 e2) (ar (Az rfl (af (af rfl)))) (dw [(3,.ptr 192 0),(4,.ptr 256 0),(5,.ptr 320 0),(6,.ptr 384 0),(21,.ptr 1216 0),(26,.tup [.agg (Cp r1.1 (Aq 1664)),oI 1665 r1.2])] [(192,Ao a1),(256,At 0 0 (Aq 259) [] (Aq 260) [] (Aq 261) [] false),(320,[iV 0,iV 0]),(384,[.ptr 1216 0]),(1216,Da a0.Ac.clock a0.Ac.next (Aq 1024000) a0.Ac.Af (Aq 1024001) a0.Ad (Aq 1024002) a0.Aj a0.Am a1.kind a1.id a1.ttl a1.Db a1.clock u_ a1.Bi a1.stop 0)] hB (d_ (Bj 6 (Bq (Ck (Gm rfl rfl tv rfl rfl rfl (nl rfl) (d0 hB (d_ (Ba 1 (Lq [(3,.ptr 192 0),(6,.ptr 384 0)]) (Eu a1 [(1216,Da r1.1.clock r1.1.next (Aq 1664) r1.1.Af (Aq 1024001) a0.Ad (Aq 1024002) a0.Aj a0.Am a1.kind a1.id a1.ttl a1.Db a1.clock u_ a1.Bi a1.stop 0)]) (Aw (Aw ?_)))))) Bg))))) Bg)))))))))))
 refine Ba 4 (Lq [(3,.ptr 192 0),(6,.ptr 384 0),(34,.bool (a1.stop==1))]) (Eu a1 [(1216,Da r1.1.clock r1.1.next (Aq 1664) r1.1.Af (Aq 1024001) a0.Ad (Aq 1024002) a0.Aj a0.Am a1.kind a1.id a1.ttl a1.Db a1.clock u_ a1.Bi a1.stop 0)]) (Cs h0 (fun c3 h0=>?_) (fun c3 h0=>?_))
 ·refine Bj 5 (Ar (bb h0 fun r4 e5 h0=>dG [] [] [1664,1024001,1024002] (H470 (Ap.mk r1.1 a0.Ad a0.Aj a0.Am) r4 e5) (Az (ar (Az rfl (af (af (af (ar (Az rfl (Az rfl rfl)))))))) rfl) (sw ⟨Lq [(39,.tup [.agg (Av r4.1 (Aq 2496) (Aq 2497) (Aq 2498)),.agg (Ax r4.2)])],bG [],[]⟩ (Cj (by kernel_rfl)) (c_ (Bn ⟨tv,tv⟩ rfl tv) (o_ (Ba 4 (Lq []) [(256,Av r4.1 (Aq 2496) (Aq 2497) (Aq 2498)),(320,Ax r4.2)] ?_))))))
  obtain rfl:=sj h0
  exact Hj (Dk rfl rfl rfl rfl rfl tv)
 ·refine Ba 6 (Fi []) (Eu a1 [(1216,Da r1.1.clock r1.1.next (Aq 1664) r1.1.Af (Aq 1024001) a0.Ad (Aq 1024002) a0.Aj a0.Am a1.kind a1.id a1.ttl a1.Db a1.clock u_ a1.Bi a1.stop 0)]) (Bj 8 (Ar (bb h0 fun r6 e7 h0=>Vp (H66 r1.1.Af r6 e7) (af rfl) (bJ rfl (o_ (Ba 2 (Fi [(49,Ae 3136 r6),(50,iV (r6.length:Int)),(51,iV 0)]) (Eu a1 [(1216,Da r1.1.clock r1.1.next (Aq 1664) r1.1.Af (Aq 1024001) a0.Ad (Aq 1024002) a0.Aj a0.Am a1.kind a1.id a1.ttl a1.Db a1.clock u_ a1.Bi a1.stop 0)]) (Bu (bb h0 fun r182 e183 h0=>Cv (R:=(fun S=>∃p108:Int,∃p109:Int,∃p110:List Aa,∃p111:List Ag,∃p112:List Int,∃p113:Bool,∃p114:Int,∃p115:Int,∃p116:Int,∃p117:Int,∃p118:Int,∃p119:List Int,∃p120:Int,∃p121:Int,.inl (p108,p109,p110,p111,p112,p113,p114,p115,p116,p117,p118,p119,p120,p121)=r182∧S=⟨Fi [],Eu a1 [(1216,Da p108 p109 (Aq 1664) p110 (Aq 1024001) p111 (Aq 1024002) p112 p113 p114 p115 p116 p117 p118 u_ p119 p120 p121)],[]⟩)) (Km a1 r6) (fun s S=>match s with | (p43,p44,p45,p46,p47,p48,p49,p50,p51,p52,p53,p54,p55,p56,p57)=>S=⟨Fi [(49,Ae 3136 r6),(50,iV (r6.length:Int)),(51,iV p43)],Eu a1 [(1216,Da p44 p45 (Aq 1664) p46 (Aq 1024001) p47 (Aq 1024002) p48 p49 p50 p51 p52 p53 p54 u_ p55 p56 p57)],[]⟩) e183 _ (Cj (by kernel_rfl)) rfl 0 (fun _=>rfl) ?_ ?_))))))))
  ·rintro S _ hfg ⟨p108,p109,p110,p111,p112,p113,p114,p115,p116,p117,p118,p119,p120,p121,rfl,rfl⟩
   refine Cb _ hfg (Bj 7 (Ar (bb h0 fun r184 e185 h0=>Vp (H469 p111 r184 e185) (af rfl) (bJ rfl (o_ (Ba 2 (Fi [(101,Bs 6464 r184),(102,iV (r184.length:Int)),(103,iV 0)]) (Eu a1 [(1216,Da p108 p109 (Aq 1664) p110 (Aq 1024001) p111 (Aq 1024002) p112 p113 p114 p115 p116 p117 p118 u_ p119 p120 p121)]) (Bu (bb h0 fun r344 e345 h0=>Cv (R:=(fun S=>∃p278:Int,∃p279:Int,∃p280:List Aa,∃p281:List Ag,∃p282:List Int,∃p283:Bool,∃p284:Int,∃p285:Int,∃p286:Int,∃p287:Int,∃p288:Int,∃p289:List Int,∃p290:Int,∃p291:Int,.inl (p278,p279,p280,p281,p282,p283,p284,p285,p286,p287,p288,p289,p290,p291)=r344∧S=⟨Lq [(6,.ptr 384 0)],bG [(384,[.ptr 1216 0]),(1216,Da p278 p279 (Aq 1664) p280 (Aq 1024001) p281 (Aq 1024002) p282 p283 p284 p285 p286 p287 p288 u_ p289 p290 p291)],[]⟩)) (Iw a1 r184) (fun s S=>match s with | (p217,p218,p219,p220,p221,p222,p223,p224,p225,p226,p227,p228,p229,p230,p231)=>S=⟨Fi [(101,Bs 6464 r184),(102,iV (r184.length:Int)),(103,iV p217)],Eu a1 [(1216,Da p218 p219 (Aq 1664) p220 (Aq 1024001) p221 (Aq 1024002) p222 p223 p224 p225 p226 p227 p228 u_ p229 p230 p231)],[]⟩) e345 _ (Cj (by kernel_rfl)) rfl 2 (fun _=>rfl) ?_ ?_))))))))
   ·rintro S _ hfg ⟨p278,p279,p280,p281,p282,p283,p284,p285,p286,p287,p288,p289,p290,p291,rfl,rfl⟩
    refine Cb _ hfg ?_
    obtain rfl:=sj h0
    exact Cy 10
   ·rintro ⟨p217,p218,p219,p220,p221,p222,p223,p224,p225,p226,p227,p228,p229,p230,p231⟩ o1 _ K1 rfl h1 hx1 hK1 hE1 hR1
    refine Ba 3 (Fi [(101,Bs 6464 r184),(102,iV (r184.length:Int)),(103,iV p217),(104,.bool (decide (p217<(r184.length:Int))))]) (Eu a1 [(1216,Da p218 p219 (Aq 1664) p220 (Aq 1024001) p221 (Aq 1024002) p222 p223 p224 p225 p226 p227 p228 u_ p229 p230 p231)]) (Aw (Cs h1 (fun c292 h1=>?_) (fun c292 h1=>?_)))
    ·refine Ot 3 (Lc (fun S=>∃p309:Int,∃p310:Int,∃p311:List Aa,∃p312:List Ag,∃p313:List Int,∃p314:Bool,∃p315:Int,∃p316:Int,∃p317:Int,∃p318:Int,∃p319:Int,∃p320:List Int,∃p321:Int,∃p322:Int,S=⟨Fi [(101,Bs 6464 r184),(102,iV (r184.length:Int)),(103,iV p217)],Eu a1 [(1216,Da p309 p310 (Aq 1664) p311 (Aq 1024001) p312 (Aq 1024002) p313 p314 p315 p316 p317 p318 p319 u_ p320 p321 p322)],[]⟩∧Up p217 p309 p310 p311 p312 p313 p314 p315 p316 p317 p318 p319 p320 p321 p322=some o1) ?_ (fun J323=>?_))
     ·rintro _ ⟨p309,p310,p311,p312,p313,p314,p315,p316,p317,p318,p319,p320,p321,p322,rfl,h1⟩
      refine Bj 4 ?_
      obtain rfl:=sj h1
      exact kn hK1 rfl rfl
     ·refine Aw ?_
      refine Ar (bb h1 fun y324 e325 h1=>Zb rfl rfl e325 (bb h1 fun y326 e327 h1=>lo_ rfl rfl e327 (o_ (Ba 10 (Fi [(14,.ptr 896 0),(101,Bs 6464 r184),(102,iV (r184.length:Int)),(103,iV p217),(109,.bool (!y326.Jx))]) (Eu a1 [(896,Ca y326),(1216,Da p218 p219 (Aq 1664) p220 (Aq 1024001) p221 (Aq 1024002) p222 p223 p224 p225 p226 p227 p228 u_ p229 p230 p231)]) (Cs h1 (fun c328 h1=>?_) (fun c328 h1=>?_))))))
      ·refine ex_ rfl ?_
       exact jn J323 ⟨_,_,_,_,_,_,_,_,_,_,_,_,_,_,rfl,h1⟩
      ·refine Bj 6 (Ar (bb h1 fun r329 e330 h1=>c2_ [1216] [] [1664,1024001,1024002] (H471 (Dd.mk (Ap.mk (As.mk p218 p219 p220) p221 p222 p223) (Ai.mk p224 p225 p226 p227 p228 p229 p230) p231) y326.Br false r329 e330) (sw ⟨Fi [(14,.ptr 896 0),(101,Bs 6464 r184),(102,iV (r184.length:Int)),(103,iV p217),(113,iV r329.1)],Eu a1 [(896,Ca y326),(1216,Fq r329.2 (Aq 7232) (Aq 7233) (Aq 7234) u_)],[]⟩ (Cj (by kernel_rfl)) (Bm rfl tv (o_ (Ba 7 (Fi [(14,.ptr 896 0),(101,Bs 6464 r184),(102,iV (r184.length:Int)),(103,iV p217),(115,.bool (r329.1==0))]) (Eu a1 [(896,Ca y326),(1216,Fq r329.2 (Aq 7232) (Aq 7233) (Aq 7234) u_)]) (Lw (cb:=(r329.1==0)) (fun S=>∃p334:List Ag,S=⟨Fi [(101,Bs 6464 r184),(102,iV (r184.length:Int)),(103,iV p217)],Eu a1 [(1216,Da r329.2.v.Ac.clock r329.2.v.Ac.next (Aq 7232) r329.2.v.Ac.Af (Aq 7872) p334 (Aq 7234) r329.2.v.Aj r329.2.v.Am r329.2.a.kind r329.2.a.id r329.2.a.ttl r329.2.a.Db r329.2.a.clock u_ r329.2.a.Bi r329.2.a.stop r329.2.Gu)],[]⟩∧Rh a1 p217 r329 p334=some o1) rfl ?_ (fun c341 J340=>?_) (fun c341 J340=>?_))))))))
       ·rintro _ ⟨p334,rfl,h1⟩
        refine Bj 3 (Ar (bb h1 fun r335 e336 h1=>st (He (r:=.bool r335) rfl false (H472 a1 (Dd.mk (Ap.mk r329.2.v.Ac p334 r329.2.v.Aj r329.2.v.Am) r329.2.a r329.2.Gu) r335 e336) tv rfl rfl (fun _=>rfl) (o_ (Ba 1 (Fi [(101,Bs 6464 r184),(102,iV (r184.length:Int)),(103,iV p217),(128,.bool r335)]) (Eu a1 [(1216,Da r329.2.v.Ac.clock r329.2.v.Ac.next (Aq 7232) r329.2.v.Ac.Af (Aq 7872) p334 (Aq 7234) r329.2.v.Aj r329.2.v.Am r329.2.a.kind r329.2.a.id r329.2.a.ttl r329.2.a.Db r329.2.a.clock u_ r329.2.a.Bi r329.2.a.stop r329.2.Gu)]) (Cs h1 (fun c337 h1=>?_) (fun c337 h1=>?_)))))))
        ·refine Bj 5 (Ar (bb h1 fun r338 e339 h1=>dG [] [] [7232,7872,7234] (H470 (Ap.mk r329.2.v.Ac p334 r329.2.v.Aj r329.2.v.Am) r338 e339) (Az (ar (Az rfl (af (af (af (ar (Az rfl (Az rfl rfl)))))))) rfl) (sw ⟨Lq [(133,.tup [.agg (Av r338.1 (Aq 8512) (Aq 8513) (Aq 8514)),.agg (Ax r338.2)])],bG [],[]⟩ (Cj (by kernel_rfl)) (c_ (Bn ⟨tv,tv⟩ rfl tv) (o_ (Ba 4 (Lq []) [(256,Av r338.1 (Aq 8512) (Aq 8513) (Aq 8514)),(320,Ax r338.2)] ?_))))))
         obtain rfl:=sj h1
         obtain rfl:=hx1 _ rfl
         obtain rfl:=sj h0
         exact Hj (hR1 _ (Dk rfl rfl rfl rfl rfl tv))
        ·refine Hb (Qq ?_)
         exact J323 _ _ (Zw [] [(7232,1664),(7872,1024001),(7234,1024002)] rfl (by kernel_rfl)) ⟨_,_,_,_,_,_,_,_,_,_,_,_,_,_,rfl,h1⟩
       ·replace h1:=ip c341 h1
        refine bb h1 fun r342 e343 h1=>Bj 7 (Bq (Ck (Ef [] [] [7233] false (H473 r329.2.v.Ad 474 [.iptr (Ca y326)] (fun z474_0=>DU z474_0 y326) (⟨fun _ _ _ _ _=>rfl,fun _ _ _ _ _=>rfl,rfl,fun _ _ _ n=>by cases n<;>rfl,fun _=>rfl⟩) (fun z474_0 r h=>H474 z474_0 y326 r h) r342 e343) ⟨tv,tv,tv⟩ (by kernel_rfl) (by kernel_rfl) (by kernel_rfl) (by kernel_rfl) (fun _=>Az (af rfl) rfl) (dw [(4,.ptr 256 0),(5,.ptr 320 0),(6,.ptr 384 0),(7,.clo 472 [.ptr 192 0,.ptr 384 0]),(101,Bs 6464 r184),(102,iV (r184.length:Int)),(103,iV p217),(116,.ptr 1216 0),(123,Bs 7872 r342)] [(192,Ao a1),(256,At 0 0 (Aq 259) [] (Aq 260) [] (Aq 261) [] false),(320,[iV 0,iV 0]),(384,[.ptr 1216 0]),(1216,[iV r329.2.v.Ac.clock,iV r329.2.v.Ac.next,Ae 7232 r329.2.v.Ac.Af,.undef,oI 7234 r329.2.v.Aj,.bool r329.2.v.Am,iV r329.2.a.kind,iV r329.2.a.id,iV r329.2.a.ttl,iV r329.2.a.Db,iV r329.2.a.clock,lI r329.2.a.Bi,iV r329.2.a.stop,iV r329.2.Gu])] hB (d_ (Bj 3 (Bq (Ck (Gm rfl rfl tv rfl rfl rfl (nl rfl) (d0 tv (Gf ?_))) Bg)))))) Bg))
        exact jn J340 ⟨_,rfl,h1⟩
       ·replace h1:=Kn c341 h1
        refine Hb ?_
        exact J340 _ _ (Zw [] [(7233,7872)] rfl (by kernel_rfl)) ⟨_,rfl,h1⟩
    ·obtain rfl:=sj h1
     obtain rfl:=hx1 _ rfl
     refine In rfl ?_
     exact jn hE1 ⟨_,_,_,_,_,_,_,_,_,_,_,_,_,_,rfl,rfl⟩
  ·rintro ⟨p43,p44,p45,p46,p47,p48,p49,p50,p51,p52,p53,p54,p55,p56,p57⟩ o1 _ K1 rfl h1 hx1 hK1 hE1 hR1
   refine Ba 3 (Fi [(49,Ae 3136 r6),(50,iV (r6.length:Int)),(51,iV p43),(52,.bool (decide (p43<(r6.length:Int))))]) (Eu a1 [(1216,Da p44 p45 (Aq 1664) p46 (Aq 1024001) p47 (Aq 1024002) p48 p49 p50 p51 p52 p53 p54 u_ p55 p56 p57)]) (Aw (Cs h1 (fun LX h1=>?_) (fun LX h1=>?_)))
   ·refine Ot 3 (Lc (fun S=>∃p143:Int,∃p144:Int,∃p145:List Aa,∃p146:List Ag,∃p147:List Int,∃p148:Bool,∃p149:Int,∃p150:Int,∃p151:Int,∃p152:Int,∃p153:Int,∃p154:List Int,∃p155:Int,∃p156:Int,S=⟨Fi [(49,Ae 3136 r6),(50,iV (r6.length:Int)),(51,iV p43)],Eu a1 [(1216,Da p143 p144 (Aq 1664) p145 (Aq 1024001) p146 (Aq 1024002) p147 p148 p149 p150 p151 p152 p153 u_ p154 p155 p156)],[]⟩∧Uo p43 p143 p144 p145 p146 p147 p148 p149 p150 p151 p152 p153 p154 p155 p156=some o1) ?_ (fun J157=>?_))
    ·rintro _ ⟨p143,p144,p145,p146,p147,p148,p149,p150,p151,p152,p153,p154,p155,p156,rfl,h1⟩
     refine Bj 4 ?_
     obtain rfl:=sj h1
     exact kn hK1 rfl rfl
    ·refine Aw ?_
     refine Ar (bb h1 fun y158 e159 h1=>Zb rfl rfl e159 (bb h1 fun y160 e161 h1=>lo_ rfl rfl e161 (o_ (Ba 10 (Fi [(9,.ptr 576 0),(49,Ae 3136 r6),(50,iV (r6.length:Int)),(51,iV p43),(57,.bool (!y160.Cl))]) (Eu a1 [(576,Ab y160),(1216,Da p44 p45 (Aq 1664) p46 (Aq 1024001) p47 (Aq 1024002) p48 p49 p50 p51 p52 p53 p54 u_ p55 p56 p57)]) (Cs h1 (fun VJ h1=>?_) (fun VJ h1=>?_))))))
     ·refine ex_ rfl ?_
      exact jn J157 ⟨_,_,_,_,_,_,_,_,_,_,_,_,_,_,rfl,h1⟩
     ·refine Bj 6 (Ar (bb h1 fun r163 e164 h1=>c2_ [1216] [] [1664,1024001,1024002] (H471 (Dd.mk (Ap.mk (As.mk p44 p45 p46) p47 p48 p49) (Ai.mk p50 p51 p52 p53 p54 p55 p56) p57) y160.id false r163 e164) (sw ⟨Fi [(9,.ptr 576 0),(49,Ae 3136 r6),(50,iV (r6.length:Int)),(51,iV p43),(61,iV r163.1)],Eu a1 [(576,Ab y160),(1216,Fq r163.2 (Aq 3904) (Aq 3905) (Aq 3906) u_)],[]⟩ (Cj (by kernel_rfl)) (Bm rfl tv (o_ (Ba 1 (Fi [(9,.ptr 576 0),(10,iV r163.1),(49,Ae 3136 r6),(50,iV (r6.length:Int)),(51,iV p43)]) (Eu a1 [(576,Ab y160),(1216,Fq r163.2 (Aq 3904) (Aq 3905) (Aq 3906) u_)]) (Aw (Aw (bb h1 fun r165 e166 h1=>Bj 7 (Bq (cG (H77 r163.2.v.Ac y160.id r165 e166) rfl (dw [(4,.ptr 256 0),(5,.ptr 320 0),(6,.ptr 384 0),(7,.clo 472 [.ptr 192 0,.ptr 384 0]),(10,iV r163.1),(49,Ae 3136 r6),(50,iV (r6.length:Int)),(51,iV p43),(70,.tup [iV r165.1,.bool r165.2])] [(192,Ao a1),(256,At 0 0 (Aq 259) [] (Aq 260) [] (Aq 261) [] false),(320,[iV 0,iV 0]),(384,[.ptr 1216 0]),(1216,Fq r163.2 (Aq 3904) (Aq 3905) (Aq 3906) u_)] tv (d_ (Ba 6 (Fi [(10,iV r163.1),(11,iV r165.1),(49,Ae 3136 r6),(50,iV (r6.length:Int)),(51,iV p43)]) (Eu a1 [(1216,Fq r163.2 (Aq 3904) (Aq 3905) (Aq 3906) u_)]) (Aw (Ar ?_))))) Bg)))))))))))
      refine o_ (Ba 3 (Fi [(11,iV r165.1),(49,Ae 3136 r6),(50,iV (r6.length:Int)),(51,iV p43),(74,.bool (r163.1==0))]) (Eu a1 [(1216,Fq r163.2 (Aq 3904) (Aq 3905) (Aq 3906) u_)]) (Lw (cb:=(r163.1==0)) (fun S=>∃p170:Int,∃p171:Int,∃p172:List Aa,S=⟨Fi [(49,Ae 3136 r6),(50,iV (r6.length:Int)),(51,iV p43)],Eu a1 [(1216,Da p170 p171 (Aq 5248) p172 (Aq 3905) r163.2.v.Ad (Aq 3906) r163.2.v.Aj r163.2.v.Am r163.2.a.kind r163.2.a.id r163.2.a.ttl r163.2.a.Db r163.2.a.clock u_ r163.2.a.Bi r163.2.a.stop r163.2.Gu)],[]⟩∧Rg a1 p43 r163 p170 p171 p172=some o1) rfl ?_ (fun c179 J178=>?_) (fun c179 J178=>?_)))
      ·rintro _ ⟨p170,p171,p172,rfl,h1⟩
       refine Bj 3 (Ar (bb h1 fun r173 e174 h1=>st (He (r:=.bool r173) rfl false (H472 a1 (Dd.mk (Ap.mk (As.mk p170 p171 p172) r163.2.v.Ad r163.2.v.Aj r163.2.v.Am) r163.2.a r163.2.Gu) r173 e174) tv rfl rfl (fun _=>rfl) (o_ (Ba 1 (Fi [(49,Ae 3136 r6),(50,iV (r6.length:Int)),(51,iV p43),(87,.bool r173)]) (Eu a1 [(1216,Da p170 p171 (Aq 5248) p172 (Aq 3905) r163.2.v.Ad (Aq 3906) r163.2.v.Aj r163.2.v.Am r163.2.a.kind r163.2.a.id r163.2.a.ttl r163.2.a.Db r163.2.a.clock u_ r163.2.a.Bi r163.2.a.stop r163.2.Gu)]) (Cs h1 (fun c175 h1=>?_) (fun c175 h1=>?_)))))))
       ·refine Bj 5 (Ar (bb h1 fun r176 e177 h1=>dG [] [] [5248,3905,3906] (H470 (Ap.mk (As.mk p170 p171 p172) r163.2.v.Ad r163.2.v.Aj r163.2.v.Am) r176 e177) (Az (ar (Az rfl (af (af (af (ar (Az rfl (Az rfl rfl)))))))) rfl) (sw ⟨Lq [(92,.tup [.agg (Av r176.1 (Aq 5888) (Aq 5889) (Aq 5890)),.agg (Ax r176.2)])],bG [],[]⟩ (Cj (by kernel_rfl)) (c_ (Bn ⟨tv,tv⟩ rfl tv) (o_ (Ba 4 (Lq []) [(256,Av r176.1 (Aq 5888) (Aq 5889) (Aq 5890)),(320,Ax r176.2)] ?_))))))
        obtain rfl:=sj h1
        obtain rfl:=hx1 _ rfl
        obtain rfl:=sj h0
        exact Hj (hR1 _ (Dk rfl rfl rfl rfl rfl tv))
       ·refine Hb (Qq ?_)
        exact J157 _ _ (Zw [] [(5248,1664),(3905,1024001),(3906,1024002)] rfl (by kernel_rfl)) ⟨_,_,_,_,_,_,_,_,_,_,_,_,_,_,rfl,h1⟩
      ·replace h1:=ip c179 h1
       refine bb h1 fun r180 e181 h1=>Bj 7 (Bq (cG (H78 r163.2.v.Ac r165.1 r180 e181) (ar (Az rfl (af rfl))) (dw [(4,.ptr 256 0),(5,.ptr 320 0),(6,.ptr 384 0),(7,.clo 472 [.ptr 192 0,.ptr 384 0]),(49,Ae 3136 r6),(50,iV (r6.length:Int)),(51,iV p43),(75,.ptr 1216 0),(82,.agg (Cp r180 (Aq 5248)))] [(192,Ao a1),(256,At 0 0 (Aq 259) [] (Aq 260) [] (Aq 261) [] false),(320,[iV 0,iV 0]),(384,[.ptr 1216 0]),(1216,Fq r163.2 (Aq 3904) (Aq 3905) (Aq 3906) u_)] hB (d_ (Bj 3 (Bq (Ck (Gm rfl rfl tv rfl rfl rfl (nl rfl) (d0 tv (Gf ?_))) Bg))))) Bg))
       exact jn J178 ⟨_,_,_,rfl,h1⟩
      ·replace h1:=Kn c179 h1
       refine Hb ?_
       exact J178 _ _ (Zw [] [(3904,5248)] rfl (by kernel_rfl)) ⟨_,_,_,rfl,h1⟩
   ·obtain rfl:=sj h1
    obtain rfl:=hx1 _ rfl
    refine In rfl ?_
    exact jn hE1 ⟨_,_,_,_,_,_,_,_,_,_,_,_,_,_,rfl,rfl⟩

/- (loop.example/g00149/impl.Vault).step -/
def Abl:=[X_ 2 0,X_ 3 1,a_ 4 (zV 259 260 261),a_ 5 [iV 0,iV 0]]
def Abm:=[L_ 6 2 6,q_ 7 463 [.t 6],s_ 2 7 6]
def Abn:=[f_ 9 3 0,l_ 10 9 1,q_ 11 63 [.t 10,.c (iV 1),.c (iV 6)],N_ 12 11,m_ 8 12]
def Abo:=[L_ 13 2 6,q_ 14 464 [.t 13,.c (iV 16)],e_ 15 14 0,e_ 16 14 1,s_ 4 15 6,s_ 5 16 2]
def Abp:=[f_ 18 2 5,l_ 19 18 1,m_ 20 19,fT 20 21 3 0,lT 20 22 21 1 false,pT 20 23 (.bin .neq (.t 22) (.c (iV 6))),pa 24 20 23,m_ 17 24]
def Abq:=[L_ 25 2 6,q_ 26 464 [.t 25,.c (iV 14)],e_ 27 26 0,e_ 28 26 1,s_ 4 27 6,s_ 5 28 2]
def Abr:=[f_ 29 3 0,l_ 30 29 1]
def Abs:=[B_ .eql 32 30 1,m_ 31 32]
def Abt:=[L_ 33 2 6,L_ 34 3 7,q_ 35 465 [.t 33,.t 34],e_ 36 35 0,e_ 37 35 1,s_ 4 36 6,s_ 5 37 2]
def Abu:=[B_ .eql 39 30 2,m_ 38 39]
def AX:=tk [L_ 40 2 6,f_ 41 2 0,L_ 42 41 3,f_ 43 3 1,l_ 44 43 1,f_ 45 3 2,l_ 46 45 1] (.alt [L_ 40 2 6] (q_ 47 80 [.t 42,.t 44,.t 46]) (tk [e_ 48 47 0,e_ 49 47 1] (.alt [] (q_ 50 466 [.t 40,.t 48,.t 49]) (tk [e_ 51 50 0,e_ 52 50 1] (.alt [] (s_ 4 51 6) (.alt [] (s_ 5 52 2) .fin .stop) .stop)) .stop)) .stop)
def AY:=[B_ .eql 54 30 3,m_ 53 54]
def AZ:=tk [L_ 55 2 6,f_ 56 2 0,L_ 57 56 3,f_ 58 3 1,l_ 59 58 1] (.alt [L_ 55 2 6] (q_ 60 75 [.t 57,.t 59]) (tk [e_ 61 60 0,e_ 62 60 1] (.alt [] (q_ 63 466 [.t 55,.t 61,.t 62]) (tk [e_ 64 63 0,e_ 65 63 1] (.alt [] (s_ 4 64 6) (.alt [] (s_ 5 65 2) .fin .stop) .stop)) .stop)) .stop)
def BA:=[B_ .eql 67 30 4,m_ 66 67]
def BB:=[L_ 68 2 6,L_ 69 3 7,q_ 70 467 [.t 68,.t 69],e_ 71 70 0,e_ 72 70 1,s_ 4 71 6,s_ 5 72 2]
def BC:=[f_ 73 3 0,l_ 74 73 1,B_ .eql 75 74 5,f_ 76 2 5,s_ 76 75 1]
def BD:=[L_ 77 2 6,iQ 78 (.build [iV 0,iV 0] []),s_ 4 77 6,s_ 5 78 2]
def c459:Dv:=⟨2,79,[.cell 4 6 true,.cell 5 2 true],sr Abl (sr Abm (.seq (.block 0 (sr Abn (.ite (.t 8) (rr Abo) (sr Abp (iz 17 (rr Abq)))))) (.seq (sr Abr (.block 1 (sr Abs (.ite (.t 31) (rr Abt) (sr Abu (.ite (.t 38) (sd AX .ret) (sr AY (.ite (.t 53) (sd AZ .ret) (sr BA (iz 66 (rr BB))))))))))) (sr BC (rr BD)))))⟩
def K459 (D:Bl):Prop:=∀a0 a1 r,rS a0 a1=some r→D 459 ⟨[.agg (Bv a0),.agg (Ao a1)],[]⟩ ⟨.tup [.agg (Av r.1 (Aq 0) (Aq 1) (Aq 2)),.agg (Ax r.2)],[],[]⟩
abbrev Td:=fun x0 x1 (r:List (Nat×List V))=>(128,Av x0 (Aq 448) (Aq 449) (Aq 450))::(192,Ao x1)::(256,At 0 0 (Aq 259) [] (Aq 260) [] (Aq 261) [] false)::(320,[iV 0,iV 0])::r
abbrev Qb:=fun (r:List (Nat×V))=>(2,.ptr 128 0)::(3,.ptr 192 0)::(4,.ptr 256 0)::(5,.ptr 320 0)::r
theorem F459 (H63:K63 C) (H75:K75 C) (H80:K80 C) (H463:K463 C) (H464:tJ C) (H465:K465 C) (H466:K466 C) (H467:K467 C):K459 (FO C c459):=by
 intro a0 a1 r h0
 refine f0 (Ba 6 (Qb []) [(128,Bv a0),(192,Ao a1),(256,At 0 0 (Aq 259) [] (Aq 260) [] (Aq 261) [] false),(320,[iV 0,iV 0])] (Bj 2 (Ar (bb h0 fun r1 e2 h0=>Vp (H463 a0 r1 e2) (ar (Az rfl (af (af (af (Az rfl rfl)))))) (o_ (Ba 2 (Qb []) (Td r1 a1 []) (Bj 5 (Ar (bb h0 fun r3 e4 h0=>Sn (H63 a1.kind 1 6 r3 e4) (o_ (Ba 3 (Qb [(8,.bool (!r3))]) (Td r1 a1 []) (Cs h0 (fun c5 h0=>?_) (fun c5 h0=>?_)))))))))))))
 ·refine Bj 2 (Ar (bb h0 fun r6 e7 h0=>dG [] [] [448,449,450] (H464 r1 16 r6 e7) (Az (ar (Az rfl (af (af (af (ar (Az rfl (Az rfl rfl)))))))) rfl) (o_ ?_)))
  obtain rfl:=sj h0
  exact Cy 6
 ·refine gK_ 10 (Qb [(17,.bool (bif r1.Am then (a1.kind != 6) else false))]) (Td r1 a1 []) (Cs h0 (fun c8 h0=>?_) (fun c8 h0=>?_))
  ·refine Bj 2 (Ar (bb h0 fun r9 e10 h0=>dG [] [] [448,449,450] (H464 r1 14 r9 e10) (Az (ar (Az rfl (af (af (af (ar (Az rfl (Az rfl rfl)))))))) rfl) (o_ ?_)))
   obtain rfl:=sj h0
   exact Cy 6
  ·refine Ba 14 (Qb [(30,iV a1.kind),(31,.bool (a1.kind==1))]) (Td r1 a1 []) (Cs h0 (fun c11 h0=>?_) (fun c11 h0=>?_))
   ·refine Bj 3 (Ar (bb h0 fun r12 e13 h0=>dG [] [] [448,449,450] (H465 r1 a1 r12 e13) (Az (ar (Az rfl (af (af (af (ar (Az rfl (Az rfl rfl)))))))) rfl) (o_ ?_)))
    obtain rfl:=sj h0
    exact Cy 6
   ·refine Ba 4 (Qb [(30,iV a1.kind),(38,.bool (a1.kind==2))]) (Td r1 a1 []) (Cs h0 (fun c14 h0=>?_) (fun c14 h0=>?_))
    ·refine Aw (bb h0 fun r15 e16 h0=>bb h0 fun r17 e18 h0=>Bj 7 (Bq (cG (H80 r1.Ac a1.id a1.ttl r15 e16) (ar (Az rfl (af (Az rfl rfl)))) (dw [(2,.ptr 128 0),(4,.ptr 256 0),(5,.ptr 320 0),(40,.agg (Av r1 (Aq 448) (Aq 449) (Aq 450))),(47,.tup [.agg (Cp r15.1 (Aq 3008)),iV r15.2])] [(128,Av r1 (Aq 448) (Aq 449) (Aq 450)),(256,At 0 0 (Aq 259) [] (Aq 260) [] (Aq 261) [] false),(320,[iV 0,iV 0])] hB (d_ (Bj 2 (Bq (Ck (Ef [] [] [448,449,450,3008] false (H466 r1 r15.1 r15.2 r17 e18) ⟨tv,tv,tv,tv⟩ (by kernel_rfl) (by kernel_rfl) (by kernel_rfl) (by kernel_rfl) (fun _=>Az (ar (Az rfl (af (af (af (ar (Az rfl (Az rfl rfl)))))))) rfl) (dw [(4,.ptr 256 0),(5,.ptr 320 0),(50,.tup [.agg (Av r17.1 (Aq 3200) (Aq 3201) (Aq 3202)),.agg (Ax r17.2)])] [(256,At 0 0 (Aq 259) [] (Aq 260) [] (Aq 261) [] false),(320,[iV 0,iV 0])] tv (d_ (Bj 2 (Bq (Ck (Gm rfl rfl tv rfl rfl rfl (nl rfl) (d0 tv (Ck (Gm rfl rfl tv rfl rfl rfl (nl rfl) (d0 tv ?_)) Bg))) Bg)))))) Bg))))) Bg)))
     refine d_ ?_
     obtain rfl:=sj h0
     exact Cy 2
    ·refine Ba 4 (Qb [(30,iV a1.kind),(53,.bool (a1.kind==3))]) (Td r1 a1 []) (Cs h0 (fun c19 h0=>?_) (fun c19 h0=>?_))
     ·refine Aw (bb h0 fun r20 e21 h0=>bb h0 fun r22 e23 h0=>Bj 5 (Bq (cG (H75 r1.Ac a1.id r20 e21) (ar (Az rfl (af (Az rfl rfl)))) (dw [(2,.ptr 128 0),(4,.ptr 256 0),(5,.ptr 320 0),(55,.agg (Av r1 (Aq 448) (Aq 449) (Aq 450))),(60,.tup [.agg (Cp r20.1 (Aq 3840)),iV r20.2])] [(128,Av r1 (Aq 448) (Aq 449) (Aq 450)),(256,At 0 0 (Aq 259) [] (Aq 260) [] (Aq 261) [] false),(320,[iV 0,iV 0])] hB (d_ (Bj 2 (Bq (Ck (Ef [] [] [448,449,450,3840] false (H466 r1 r20.1 r20.2 r22 e23) ⟨tv,tv,tv,tv⟩ (by kernel_rfl) (by kernel_rfl) (by kernel_rfl) (by kernel_rfl) (fun _=>Az (ar (Az rfl (af (af (af (ar (Az rfl (Az rfl rfl)))))))) rfl) (dw [(4,.ptr 256 0),(5,.ptr 320 0),(63,.tup [.agg (Av r22.1 (Aq 4032) (Aq 4033) (Aq 4034)),.agg (Ax r22.2)])] [(256,At 0 0 (Aq 259) [] (Aq 260) [] (Aq 261) [] false),(320,[iV 0,iV 0])] tv (d_ (Bj 2 (Bq (Ck (Gm rfl rfl tv rfl rfl rfl (nl rfl) (d0 tv (Ck (Gm rfl rfl tv rfl rfl rfl (nl rfl) (d0 tv (d_ (Ba 1 [(4,.ptr 256 0),(5,.ptr 320 0)] [(256,Av r22.1 (Aq 4032) (Aq 4033) (Aq 4034)),(320,Ax r22.2)] ?_)))) Bg))) Bg)))))) Bg))))) Bg)))
      obtain rfl:=sj h0
      exact Hj (Dk rfl rfl rfl rfl rfl tv)
     ·refine Ba 4 (Qb [(66,.bool (a1.kind==4))]) (Td r1 a1 []) (Cs h0 (fun c24 h0=>?_) (fun c24 h0=>?_))
      ·refine Bj 3 (Ar (bb h0 fun r25 e26 h0=>dG [] [] [448,449,450] (H467 r1 a1 r25 e26) (Az (ar (Az rfl (af (af (af (ar (Az rfl (Az rfl rfl)))))))) rfl) (o_ ?_)))
       obtain rfl:=sj h0
       exact Cy 6
      ·obtain rfl:=sj h0
       exact Cy 18

/- loop.example/g00149/impl.RunVault -/
def XV:List Cf:=[a_ 2 (zV 131 132 133),⟨some 3,.nilS 2,none⟩,i_ 4 0]
def XW:=[m_ 12 0,q_ 13 455 [.t 12],N_ 14 13,m_ 11 14]
def XX:List Cf:=[iQ 15 (.build (zV 963 964 965) []),s_ 2 15 6,⟨some 3,.nilS 2,none⟩,i_ 4 2]
def XY:=[m_ 17 0,n_ 18 17,B_ .gtr 19 18 120,m_ 16 19]
def XZ:List Cf:=[iQ 20 (.build (zV 1283 1284 1285) []),s_ 2 20 6,⟨some 3,.nilS 2,none⟩,i_ 4 6]
def YA:=[m_ 22 0,q_ 23 456 [.t 22,.c (.clo 457 [])],N_ 24 23,m_ 21 24]
def YB:List Cf:=[iQ 25 (.build (zV 1603 1604 1605) []),s_ 2 25 6,⟨some 3,.nilS 2,none⟩,i_ 4 1]
def YC:=[q_ 26 458 [],a_ 5 (zV 323 324 325),s_ 5 26 6]
def YD:List Cf:=[⟨some 6,.nilS 2,none⟩]
def YE:=[m_ 27 0,n_ 28 27,i_ 29 0]
def AA:=[b_ .lss 30 29 28]
def AB:=[x_ 31 27 29 7,L_ 32 31 7,a_ 8 [iV 0,iV 0,iV 0,iV 0,iV 0,.own 518 0 1 [],iV 0],s_ 8 32 7]
def AC:=[L_ 34 5 6,L_ 35 8 7,q_ 36 459 [.t 34,.t 35],m_ 33 36,e_ 37 33 0,e_ 38 33 1,a_ 9 (zV 579 580 581),a_ 10 [iV 0,iV 0],s_ 9 37 6,s_ 10 38 2]
def AD:=[L_ 39 9 6,s_ 5 39 6]
def AE:List Cf:=[m_ 40 6,L_ 41 10 2,⟨some 42,.mkS 2 [iV 0,iV 0] 1 [(0,.t 41)],none⟩,⟨some 43,.app 2 16 (.t 40) (.t 42),none⟩,m_ 6 43]
def AF:=[B_ .add 44 29 1,m_ 29 44]
def XU:IR:=(sr AA (.seq (.ite (.t 30) .skip (.exit 1)) (.seq (.block 2 (sr AB (sr AC (sr AD (.reg AE))))) (.reg AF))))
def AG:=[L_ 45 5 6,m_ 46 6,s_ 2 45 6,m_ 3 46,i_ 4 0]
def c438:Dv:=⟨1,47,[.cell 2 6 true,.t 3,.t 4],sr XV (.seq (.block 0 (sr XW (.ite (.t 11) (rr XX) (sr XY (.ite (.t 16) (rr XZ) (sr YA (iz 21 (rr YB)))))))) (sr YC (sr YD (.seq (sr YE (Im 1 XU)) (rr AG)))))⟩
def K438 (D:Bl):Prop:=∀a0 r,DQ a0=some r→D 438 ⟨[An a0],[]⟩ ⟨.tup [.agg (Av r.1 (Aq 0) (Aq 1) (Aq 2)),Ah 3 r.2.1,iV r.2.2],[],[]⟩
abbrev Ka:=fun (r:List (Nat×List V))=>(128,At 0 0 (Aq 131) [] (Aq 132) [] (Aq 133) [] false)::r
abbrev Wn:=fun x0 (r:List (Nat×V))=>(2,.ptr 128 0)::(5,.ptr 320 0)::(27,An x0)::r
theorem F438 (H455:K455 C) (H456:K456 C) (H457:K457 C) (H458:K458 C) (H459:K459 C):K438 (FO C c438):=by
 intro a0 r h0
 refine f0 (Ba 5 [(0,An a0),(2,.ptr 128 0)] (Ka []) (Bj 4 (Ar (bb h0 fun r1 e2 h0=>Sn (H455 a0 r1 e2) (o_ (Ba 3 [(0,An a0),(2,.ptr 128 0),(11,.bool (!r1))] (Ka []) (Cs h0 (fun c3 h0=>?_) (fun c3 h0=>?_))))))))
 ·obtain rfl:=sj h0
  exact Cy 7
 ·refine Aw (Ar (st (Bm rfl tv (Nh rfl (o_ (Ba 3 [(0,An a0),(2,.ptr 128 0),(16,.bool (decide ((a0.length:Int)>120)))] (Ka []) (Cs h0 (fun c4 h0=>?_) (fun c4 h0=>?_))))))))
  ·obtain rfl:=sj h0
   exact Cy 7
  ·refine Aw (Ar (st (Bm rfl tv (bb h0 fun r5 e6 h0=>st (Cq (r:=.bool r5) false (H456 a0 457 [] (fun z457_0=>rR z457_0) (⟨fun _ _ _ _ _=>rfl,fun _ _ _ _ _=>rfl,rfl,fun _ _ _ n=>by cases n<;>rfl,fun _=>rfl⟩) (fun z457_0 r h=>H457 z457_0 r h) r5 e6) ⟨tv,tv,tv⟩ rfl rfl (fun _=>rfl) (o_ (Ba 3 [(0,An a0),(2,.ptr 128 0),(21,.bool (!r5))] (Ka []) (Cs h0 (fun c7 h0=>?_) (fun c7 h0=>?_)))))))))
   ·obtain rfl:=sj h0
    exact Cy 7
   ·refine Ot 4 (Ar (bb h0 fun r8 e9 h0=>Vp (H458  r8 e9) (ar (Az rfl (af (af (af (Az rfl rfl)))))) (o_ (Ba 7 [(0,An a0),(2,.ptr 128 0),(5,.ptr 320 0),(6,.own 384 0 2 ([].map Ax))] (Ka [(320,Av r8 (Aq 1664) (Aq 1665) (Aq 1666))]) (Bj 3 (Ar (Nh rfl (o_ (Ba 2 (Wn a0 [(6,.own 384 0 2 ([].map Ax)),(28,iV (a0.length:Int)),(29,iV 0)]) (Ka [(320,Av r8 (Aq 1664) (Aq 1665) (Aq 1666))]) (Bu (bb h0 fun r51 e52 h0=>Cv (R:=(fun S=>∃p38:List Ak,∃p39:Int,∃p40:Int,∃p41:List Aa,∃p42:List Ag,∃p43:List Int,∃p44:Bool,(p38,p39,p40,p41,p42,p43,p44)=r51∧S=⟨[(2,.ptr 128 0),(5,.ptr 320 0),(6,Ah 384 p38)],Ka [(320,At p39 p40 (Aq 1664) p41 (Aq 1665) p42 (Aq 1666) p43 p44)],[]⟩)) (Ui a0) (fun s S=>match s with | (p16,p17,p18,p19,p20,p21,p22,p23)=>S=⟨Wn a0 [(6,Ah 384 p16),(28,iV (a0.length:Int)),(29,iV p17)],Ka [(320,At p18 p19 (Aq 1664) p20 (Aq 1665) p21 (Aq 1666) p22 p23)],[]⟩) e52 _ (Cj (by kernel_rfl)) rfl 1 (fun _=>rfl) ?_ ?_)))))))))))
    ·rintro S _ hfg ⟨p38,p39,p40,p41,p42,p43,p44,rfl,rfl⟩
     refine Cb _ hfg ?_
     obtain rfl:=sj h0
     exact Cy 8
    ·rintro ⟨p16,p17,p18,p19,p20,p21,p22,p23⟩ o1 _ K1 rfl h1 hx1 hK1 hE1 hR1
     refine Ba 3 (Wn a0 [(6,Ah 384 p16),(28,iV (a0.length:Int)),(29,iV p17),(30,.bool (decide (p17<(a0.length:Int))))]) (Ka [(320,At p18 p19 (Aq 1664) p20 (Aq 1665) p21 (Aq 1666) p22 p23)]) (Aw (Cs h1 (fun c45 h1=>?_) (fun c45 h1=>?_)))
     ·refine Ot 5 (Ar (bb h1 fun y46 e47 h1=>Ti rfl rfl e47 (o_ (Ba 4 (Wn a0 [(6,Ah 384 p16),(8,.ptr 512 0),(28,iV (a0.length:Int)),(29,iV p17)]) (Ka [(320,At p18 p19 (Aq 1664) p20 (Aq 1665) p21 (Aq 1666) p22 p23),(512,Ao y46)]) (Bj 3 (Ar (bb h1 fun r48 e49 h1=>Vp (H459 (Ap.mk (As.mk p18 p19 p20) p21 p22 p23) y46 r48 e49) (ar (Az rfl (af (af (af (ar (Az rfl (Az rfl rfl)))))))) (o_ (Ba 13 (Wn a0 [(6,Ah 384 p16),(10,.ptr 640 0),(28,iV (a0.length:Int)),(29,iV p17)]) (Ka [(320,Av r48.1 (Aq 2304) (Aq 2305) (Aq 2306)),(640,Ax r48.2)]) (Bj 3 (Ar (gg h1 fun HI h1=>st (Lb (e:=Ax) (l0:=p16) (l1:=([r48.2]:List Ak)) rfl rfl tv rfl (by decide) HI (o_ (Ba 3 (Wn a0 [(6,Ah 384 (p16++([r48.2]:List Ak))),(28,iV (a0.length:Int)),(29,iV p17)]) (Ka [(320,Av r48.1 (Aq 2304) (Aq 2305) (Aq 2306))]) (Bj 3 ?_))))))))))))))))
      obtain rfl:=sj h1
      exact hK1 _ rfl _ _ (Zw [] [(2304,1664),(2305,1665),(2306,1666)] rfl (by kernel_rfl)) rfl
     ·obtain rfl:=sj h1
      obtain rfl:=hx1 _ rfl
      refine In rfl ?_
      exact jn hE1 ⟨_,_,_,_,_,_,_,rfl,rfl⟩

/- loop.example/g00149/laws.szIntS -/
def c91_r0:=[i_ 4 0]
def c91_r1:=[m_ 5 1,m_ 6 0,n_ 7 6,b_ .sub 8 5 7,m_ 1 8]
def c91_r2:=[m_ 9 1,B_ .lss 10 9 0]
def c91_r3:=[i_ 4 (-1)]
def c91_r4:=[m_ 11 1,m_ 4 11]
def c91:Dv:=⟨2,12,[.t 4],sr c91_r0 (sr c91_r1 (.seq (sr c91_r2 (iz 10 (rr c91_r3))) (rr c91_r4)))⟩
def K91 (D:Bl):Prop:=∀a0 a1 r,g91 a0 a1=some r→D 91 ⟨[lI a0,iV a1],[]⟩ ⟨iV r,[],[]⟩
theorem F91:K91 (FO C c91):=by
 intro a0 a1 r h0
 refine f0 (Ba 3 [(0,lI a0),(1,iV a1)] [] (Bj 3 (Ar (Nh rfl (o_ (Ba 9 [(1,iV (wi (a1-(a0.length:Int)))),(10,.bool (decide ((wi (a1-(a0.length:Int)))<0)))] [] (Cs h0 (fun c1 h0=>?_) (fun c1 h0=>?_))))))))
 ·obtain rfl:=sj h0
  exact Cy 4
 ·obtain rfl:=sj h0
  exact Cy 7

/- loop.example/g00149/laws.szVaultAct -/
def Aay:=[X_ 2 0,i_ 4 0]
def Aaz:=[f_ 5 2 5,l_ 6 5 1,m_ 7 1,q_ 8 91 [.t 6,.t 7],m_ 1 8]
def AaA:=[m_ 9 1,B_ .lss 10 9 0]
def AaB:=[i_ 4 (-1)]
def AaC:=[m_ 11 1,m_ 4 11]
def c450:Dv:=⟨2,12,[.t 4],sr Aay (sr Aaz (.seq (sr AaA (iz 10 (rr AaB))) (rr AaC)))⟩
def K450 (D:Bl):Prop:=∀a0 a1 r,g450 a0 a1=some r→D 450 ⟨[.agg (Ao a0),iV a1],[]⟩ ⟨iV r,[],[]⟩
theorem F450 (H91:K91 C):K450 (FO C c450):=by
 intro a0 a1 r h0
 refine f0 (Ba 4 [(1,iV a1),(2,.ptr 128 0)] [(128,Ao a0)] (Bj 4 (Ar (bb h0 fun r1 e2 h0=>Sn (H91 a0.Bi a1 r1 e2) (o_ (Ba 8 [(1,iV r1),(10,.bool (decide (r1<0)))] [] (Cs h0 (fun c3 h0=>?_) (fun c3 h0=>?_))))))))
 ·obtain rfl:=sj h0
  exact Cy 4
 ·obtain rfl:=sj h0
  exact Cy 7

/- loop.example/g00149/laws.szVaultActS -/
def YG:=[i_ 4 0]
def YH:=[m_ 6 1,m_ 7 0,n_ 8 7,b_ .sub 9 6 8,m_ 1 9]
def YI:=[m_ 10 1,B_ .lss 11 10 0]
def YJ:=[i_ 4 (-1)]
def YK:=[i_ 5 0]
def YL:=[m_ 12 5,m_ 13 0,n_ 14 13,b_ .lss 15 12 14]
def YM:=[m_ 18 0,m_ 19 5,x_ 20 18 19 7,L_ 21 20 7,m_ 22 1,q_ 23 450 [.t 21,.t 22],m_ 1 23]
def YN:=[m_ 24 1,B_ .lss 25 24 0]
def YO:=[i_ 4 (-1)]
def YP:=[m_ 16 5,B_ .add 17 16 1,m_ 5 17]
def YF:IR:=(.seq (sr YL (.ite (.t 15) .skip (.exit 0))) (.seq (.block 1 (sr YM (sr YN (iz 25 (rr YO))))) (.reg YP)))
def AH:=[m_ 26 1,m_ 4 26]
def c443:Dv:=⟨2,27,[.t 4],sr YG (sr YH (.seq (sr YI (iz 11 (rr YJ))) (.seq (sr YK (Im 0 YF)) (rr AH))))⟩
def K443 (D:Bl):Prop:=∀a0 a1 r,g443 a0 a1=some r→D 443 ⟨[An a0,iV a1],[]⟩ ⟨iV r,[],[]⟩
theorem F443 (H450:K450 C):K443 (FO C c443):=by
 intro a0 a1 r h0
 refine f0 (Aw (Ar (st (Ff tv (Cz (Cb ⟨[(0,An a0),(1,iV a1)],[],[]⟩ (Cj (by kernel_rfl)) (Aw (Ar (st (Bm rfl tv (st (Bm rfl tv (st (c_ (Mv (e:=Ao) (l0:=a0) rfl rfl tv) (st (c_ (Bn t3 rfl tv) (st (Bm rfl tv (Cz (Cb ⟨[(0,An a0),(1,iV (wi (a1-(a0.length:Int))))],[],[]⟩ (Cj (by kernel_rfl)) (Aw (Aw (Ar (st (Bm rfl tv (st (c_ (Bn t3 rfl tv) (Cz (Cb ⟨[(0,An a0),(1,iV (wi (a1-(a0.length:Int)))),(11,.bool (decide ((wi (a1-(a0.length:Int)))<0)))],[],[]⟩ (Cj (by kernel_rfl)) (Gk (cb:=(decide ((wi (a1-(a0.length:Int)))<0))) rfl (fun c1=>?_) (fun c1=>?_)))))))))))))))))))))))))))))))
 ·replace h0:=ip c1 h0
  refine Aw (Ar (st (Ff tv (Cz (Cb ⟨[(4,iV (-1))],[],[]⟩ (Cj (by kernel_rfl)) ?_)))))
  obtain rfl:=sj h0
  exact Hj (Dk rfl rfl rfl rfl rfl tv)
 ·replace h0:=Kn c1 h0
  refine Hb (Cb ⟨[(0,An a0),(1,iV (wi (a1-(a0.length:Int))))],[],[]⟩ (Cj (by kernel_rfl)) (Aw (Aw (Ar (st (Ff tv (Cz (Cb ⟨[(0,An a0),(1,iV (wi (a1-(a0.length:Int)))),(5,iV 0)],[],[]⟩ (Cj (by kernel_rfl)) (Bu ?_)))))))))
  obtain ⟨r25,e26,h0⟩:=bnd h0
  refine Cv (R:=(fun S=>∃p18:Int,.inl p18=r25∧S=⟨[(1,iV p18)],[],[]⟩)) (Uj a0) (fun s S=>match s with | (p8,p9)=>S=⟨[(0,An a0),(1,iV p8),(5,iV p9)],[],[]⟩) e26 ⟨[(0,An a0),(1,iV (wi (a1-(a0.length:Int)))),(5,iV 0)],[],[]⟩ (Cj (by kernel_rfl)) rfl 0 (fun _=>rfl) ?_ ?_
  ·rintro S _ hfg ⟨p18,rfl,rfl⟩
   refine Cb ⟨[(1,iV p18)],[],[]⟩ (lS hfg (by kernel_rfl)) (Aw (Ar (st (Bm rfl tv (st (Bm rfl tv (Cz (Cb ⟨[(4,iV p18)],[],[]⟩ (Cj (by kernel_rfl)) ?_))))))))
   obtain rfl:=sj h0
   exact Hj (Dk rfl rfl rfl rfl rfl tv)
  ·rintro ⟨p8,p9⟩ o1 _ K1 rfl h1 hx1 hK1 hE1 hR1
   refine Aw (Aw (Ar (st (Bm rfl tv (st (Bm rfl tv (st (c_ (Mv (e:=Ao) (l0:=a0) rfl rfl tv) (st (c_ (Bn t3 rfl tv) (Cz (Cb ⟨[(0,An a0),(1,iV p8),(5,iV p9),(15,.bool (decide (p9<(a0.length:Int))))],[],[]⟩ (Cj (by kernel_rfl)) (Gk (cb:=(decide (p9<(a0.length:Int)))) rfl (fun c19=>?_) (fun c19=>?_))))))))))))))
   ·replace h1:=ip c19 h1
    refine Hb (Cb ⟨[(0,An a0),(1,iV p8),(5,iV p9)],[],[]⟩ (Cj (by kernel_rfl)) (Aw (Bu (Aw (Ar (st (Bm rfl tv (st (Bm rfl tv ?_)))))))))
    obtain ⟨y20,e21,h1⟩:=bnd h1
    refine st (c_ (Ly (e:=Ao) (y:=y20) rfl rfl tv rfl rfl tv e21) (st (c_ (v:=.agg (Ao y20)) (Bn ⟨tv,tv⟩ rfl (nl rfl)) (st (Bm rfl tv ?_)))))
    obtain ⟨r22,e23,h1⟩:=bnd h1
    refine st (Cq (r:=iV r22) false (H450 y20 p8 r22 e23) ⟨tv,tv,tv⟩ rfl rfl (fun _=>rfl) (st (Bm rfl tv (Cz (Cb ⟨[(0,An a0),(1,iV r22),(5,iV p9)],[],[]⟩ (Cj (by kernel_rfl)) (Aw (Ar (st (Bm rfl tv (st (c_ (Bn t3 rfl tv) (Cz (Cb ⟨[(0,An a0),(1,iV r22),(5,iV p9),(25,.bool (decide (r22<0)))],[],[]⟩ (Cj (by kernel_rfl)) (Gk (cb:=(decide (r22<0))) rfl (fun c24=>?_) (fun c24=>?_)))))))))))))))
    ·replace h1:=ip c24 h1
     refine Aw (Ar (st (Ff tv (Cz (Cb ⟨[(4,iV (-1))],[],[]⟩ (Cj (by kernel_rfl)) ?_)))))
     obtain rfl:=sj h1
     obtain rfl:=hx1 _ rfl
     obtain rfl:=sj h0
     exact Hj (hR1 _ (Dk rfl rfl rfl rfl rfl tv))
    ·replace h1:=Kn c24 h1
     refine Hb (Qq (Cb ⟨[(0,An a0),(1,iV r22),(5,iV p9)],[],[]⟩ (Cj (by kernel_rfl)) (Ar (st (Bm rfl tv (st (c_ (Bn t3 rfl tv) (st (Bm rfl tv (Cz ?_))))))))))
     obtain rfl:=sj h1
     exact hK1 _ rfl _ ⟨[(0,An a0),(1,iV r22),(5,iV (wi (p9+1)))],[],[]⟩ (Cj (by kernel_rfl)) rfl
   ·replace h1:=Kn c19 h1
    obtain rfl:=sj h1
    obtain rfl:=hx1 _ rfl
    refine In rfl ?_
    exact hE1 _ ⟨[(1,iV p8)],[],[]⟩ (Cj (by kernel_rfl)) ⟨_,rfl,rfl⟩

/- loop.example/g00149/laws.toIntS -/
def c43_r0:List Cf:=[⟨some 2,.nilS 1,none⟩]
def c43_r1:List Cf:=[m_ 5 0,n_ 6 5,⟨some 7,.make 1 8 [iV 0] (.t 6) (.t 6),none⟩,m_ 3 7]
def c43_r2:=[i_ 4 0]
def c43_r3:=[m_ 8 4,m_ 9 0,n_ 10 9,b_ .lss 11 8 10]
def c43_r4:=[m_ 14 3,m_ 15 4,m_ 16 0,m_ 17 4,x_ 18 16 17 1,l_ 19 18 1,x_ 20 14 15 1,s_ 20 19 1]
def c43_r5:=[m_ 12 4,B_ .add 13 12 1,m_ 4 13]
def c43_l0:IR:=(.seq (sr c43_r3 (.ite (.t 11) .skip (.exit 0))) (.seq (.block 1 (.reg c43_r4)) (.reg c43_r5)))
def c43_r6:=[m_ 21 3,m_ 2 21]
def c43:Dv:=⟨1,22,[.t 2],sr c43_r0 (sr c43_r1 (.seq (sr c43_r2 (Im 0 c43_l0)) (rr c43_r6)))⟩
def K43 (D:Bl):Prop:=∀a0 r,g43 a0=some r→D 43 ⟨[lI a0],[]⟩ ⟨oI 0 r,[],[]⟩
theorem F43:K43 (FO C c43):=by
 intro a0 r h0
 refine f0 (Ba 3 [(0,lI a0)] [] (Aw (Ar (st (Bm rfl tv (Nh rfl (gg h0 fun c1 h0=>gg h0 fun c2 h0=>st (make_ (e:=eI) 0 rfl rfl c1 rfl c2 rfl (o_ (Ba 7 [(0,lI a0),(3,oI 448 (List.replicate (a0.length:Int).toNat 0)),(4,iV 0)] [] (Bu (bb h0 fun r29 e30 h0=>Cv (R:=(fun S=>∃p21:List Int,p21=r29∧S=⟨[(3,oI 448 p21)],[],[]⟩)) (aE a0) (fun s S=>match s with | (p10,p11)=>S=⟨[(0,lI a0),(3,oI 448 p10),(4,iV p11)],[],[]⟩) e30 _ (Cj (by kernel_rfl)) rfl 0 (fun _=>rfl) ?_ ?_))))))))))))
 ·rintro S _ hfg ⟨p21,rfl,rfl⟩
  refine Cb _ hfg ?_
  obtain rfl:=sj h0
  exact Cy 5
 ·rintro ⟨p10,p11⟩ o1 _ K1 rfl h1 hx1 hK1 hE1 hR1
  refine Bj 4 (Ar (Nh rfl (o_ (Ba 2 [(0,lI a0),(3,oI 448 p10),(4,iV p11),(11,.bool (decide (p11<(a0.length:Int))))] [] (Cs h1 (fun c22 h1=>?_) (fun c22 h1=>?_))))))
  ·refine Bj 8 (Ar (bb h1 fun y23 e24 h1=>Ti rfl rfl e24 (st (c_ (Bn ⟨tv,tv⟩ rfl (nl rfl)) (bb h1 fun y25 e26 h1=>Zb rfl rfl e26 (bb h1 fun y27 e28 h1=>kG y23 rfl rfl e28 (o_ (Ba 2 [(0,lI a0),(3,oI 448 (p10.set p11.toNat y23)),(4,iV p11)] [] (Bj 4 ?_)))))))))
   obtain rfl:=sj h1
   exact kn hK1 rfl rfl
  ·obtain rfl:=sj h1
   obtain rfl:=hx1 _ rfl
   refine In rfl ?_
   exact jn hE1 ⟨_,rfl,rfl⟩

/- loop.example/g00149/laws.toVaultAct -/
def AaD:=[X_ 1 0,a_ 2 [iV 0,iV 0,iV 0,iV 0,iV 0,.own 134 0 1 [],iV 0]]
def AaE:=[a_ 3 [iV 0,iV 0,iV 0,iV 0,iV 0,.own 198 0 1 [],iV 0]]
def AaF:=[f_ 4 1 0,l_ 5 4 1,f_ 6 3 0,s_ 6 5 1]
def AaG:=[f_ 7 1 1,l_ 8 7 1,f_ 9 3 1,s_ 9 8 1]
def AaH:=[f_ 10 1 2,l_ 11 10 1,f_ 12 3 2,s_ 12 11 1]
def AaI:=[f_ 13 1 3,l_ 14 13 1,f_ 15 3 3,s_ 15 14 1]
def AaJ:=[f_ 16 1 4,l_ 17 16 1,f_ 18 3 4,s_ 18 17 1]
def AaK:=[f_ 19 1 5,l_ 20 19 1,q_ 21 43 [.t 20],f_ 22 3 5,s_ 22 21 1]
def AaL:=[f_ 23 1 6,l_ 24 23 1,f_ 25 3 6,s_ 25 24 1]
def AaM:=[L_ 26 3 7,s_ 2 26 7]
def c451:Dv:=⟨1,27,[.cell 2 7 true],sr AaD (sr AaE (sr AaF (sr AaG (sr AaH (sr AaI (sr AaJ (sr AaK (sr AaL (rr AaM)))))))))⟩
def K451 (D:Bl):Prop:=∀a0 r,g451 a0=some r→D 451 ⟨[.agg (Ao a0)],[]⟩ ⟨.agg (aW r (Aq 0)),[],[]⟩
theorem F451 (H43:K43 C):K451 (FO C c451):=by
 intro a0 r h0
 refine f0 (Ba 22 [(1,.ptr 64 0),(2,.ptr 128 0),(3,.ptr 192 0)] [(64,Ao a0),(128,Nk 0 0 0 0 0 (Aq 134) [] 0),(192,Nk a0.kind a0.id 0 0 0 (Aq 198) [] 0)] (Bj 2 (Ar ?_)))
 refine o_ (Ba 18 [(1,.ptr 64 0),(2,.ptr 128 0),(3,.ptr 192 0)] [(64,Ao a0),(128,Nk 0 0 0 0 0 (Aq 134) [] 0),(192,Nk a0.kind a0.id a0.ttl a0.Db a0.clock (Aq 198) [] 0)] (Bj 3 (Ar (bb h0 fun r1 e2 h0=>Vp (H43 a0.Bi r1 e2) (af rfl) (o_ ?_)))))
 obtain rfl:=sj h0
 exact Cy 16

/- loop.example/g00149/laws.toVaultActS -/
def YR:List Cf:=[⟨some 2,.nilS 7,none⟩]
def YS:List Cf:=[m_ 5 0,n_ 6 5,⟨some 7,.make 7 72 [iV 0,iV 0,iV 0,iV 0,iV 0,.lst 1 [],iV 0] (.t 6) (.t 6),none⟩,m_ 3 7]
def YT:=[i_ 4 0]
def YU:=[m_ 8 4,m_ 9 0,n_ 10 9,b_ .lss 11 8 10]
def YV:=[m_ 14 3,m_ 15 4,m_ 16 0,m_ 17 4,x_ 18 16 17 7,L_ 19 18 7,q_ 20 451 [.t 19],x_ 21 14 15 7,s_ 21 20 7]
def YW:=[m_ 12 4,B_ .add 13 12 1,m_ 4 13]
def YQ:IR:=(.seq (sr YU (.ite (.t 11) .skip (.exit 0))) (.seq (.block 1 (.reg YV)) (.reg YW)))
def YX:=[m_ 22 3,m_ 2 22]
def c444:Dv:=⟨1,23,[.t 2],sr YR (sr YS (.seq (sr YT (Im 0 YQ)) (rr YX)))⟩
def K444 (D:Bl):Prop:=∀a0 r,mO a0=some r→D 444 ⟨[An a0],[]⟩ ⟨Bd 32 r,[],[]⟩
theorem F444 (H451:K451 C):K444 (FO C c444):=by
 intro a0 r h0
 refine f0 (Aw (Ar (st (eA (Cz (Cb ⟨[(0,An a0)],[],[]⟩ (Zw [] [(128,160)] rfl (by kernel_rfl)) (Aw (Ar (st (Bm rfl tv (st (c_ (Mv (e:=Ao) (l0:=a0) rfl rfl tv) ?_))))))))))))
 obtain ⟨c1,h0⟩:=kX h0
 obtain ⟨c2,h0⟩:=kX h0
 refine st (makeD_ (e:=Ao) (Ai.mk 0 0 0 0 0 ([]:List Int) 0) rfl rfl c1 rfl c2 rfl (st (Bm rfl tv (Cz ?_))))
 obtain ⟨v3,e4,h0⟩:=bl h0
 refine Cb ⟨[(0,An a0),(3,Bd 480 v3)],[],[]⟩ (Cj (by subst e4; kernel_rfl)) (Aw (Aw (Ar (st (Ff tv (Cz (Cb ⟨[(0,An a0),(3,Bd 480 v3),(4,iV 0)],[],[]⟩ (Cj (by kernel_rfl)) (Bu ?_))))))))
 obtain ⟨r37,e38,h0⟩:=bnd h0
 refine Cv (R:=(fun S=>∃p27:List Ai,p27=r37∧S=⟨[(3,Bd 480 p27)],[],[]⟩)) (Uk a0) (fun s S=>match s with | (p14,p15)=>S=⟨[(0,An a0),(3,Bd 480 p14),(4,iV p15)],[],[]⟩) e38 ⟨[(0,An a0),(3,Bd 480 v3),(4,iV 0)],[],[]⟩ (Cj (by kernel_rfl)) rfl 0 (fun _=>rfl) ?_ ?_
 ·rintro S _ hfg ⟨p27,rfl,rfl⟩
  refine Cb ⟨[(3,Bd 480 p27)],[],[]⟩ (lS hfg (by kernel_rfl)) (Aw (Ar (st (Bm rfl tv (st (Bm rfl tv (Cz (Cb ⟨[(2,Bd 480 p27)],[],[]⟩ (Cj (by kernel_rfl)) ?_))))))))
  obtain rfl:=sj h0
  exact Hj (Dk rfl rfl rfl rfl rfl tv)
 ·rintro ⟨p14,p15⟩ o1 _ K1 rfl h1 hx1 hK1 hE1 hR1
  refine Aw (Aw (Ar (st (Bm rfl tv (st (Bm rfl tv (st (c_ (Mv (e:=Ao) (l0:=a0) rfl rfl tv) (st (c_ (Bn t3 rfl tv) (Cz (Cb ⟨[(0,An a0),(3,Bd 480 p14),(4,iV p15),(11,.bool (decide (p15<(a0.length:Int))))],[],[]⟩ (Cj (by kernel_rfl)) (Gk (cb:=(decide (p15<(a0.length:Int)))) rfl (fun c28=>?_) (fun c28=>?_))))))))))))))
  ·replace h1:=ip c28 h1
   refine Hb (Cb ⟨[(0,An a0),(3,Bd 480 p14),(4,iV p15)],[],[]⟩ (Cj (by kernel_rfl)) (Aw (Bu (Ar (st (Bm rfl tv (st (Bm rfl tv (st (Bm rfl tv (st (Bm rfl tv ?_))))))))))))
   obtain ⟨y29,e30,h1⟩:=bnd h1
   refine st (c_ (Ly (e:=Ao) (y:=y29) rfl rfl tv rfl rfl tv e30) (st (c_ (v:=.agg (Ao y29)) (Bn ⟨tv,tv⟩ rfl (nl rfl)) ?_)))
   obtain ⟨r31,e32,h1⟩:=bnd h1
   refine st (Cq (r:=.agg (aW r31 (Aq 0))) false (H451 y29 r31 e32) ⟨tv,tv⟩ rfl rfl (fun _=>(Az rfl (Az rfl (Az rfl (Az rfl (Az rfl (Az (oV (fun _=>rfl)) (Az rfl rfl)))))))) ?_)
   obtain ⟨y33,e34,h1⟩:=bnd h1
   refine st (c_ (Fb (e:=Ao) (y:=y33) rfl rfl tv rfl rfl tv e34) ?_)
   obtain ⟨y35,e36,h1⟩:=bnd h1
   refine st (bY (y':=r31) rfl rfl tv rfl rfl rfl rfl e36 (nl rfl) rfl (Az Ov (Az Ov (Az Ov (Az Ov (Az Ov (Az (own_ok (fun _=>rfl)) (Az Ov rfl))))))) rfl rfl (Cz (Qq (Cb ⟨[(0,An a0),(3,Bd 480 (p14.set p15.toNat r31)),(4,iV p15)],[],[]⟩ (fg ⟨rfl,congrArg (fun z=>some ((.own 480 0 7 z:V))) Ay,rfl,tv⟩ tv) (Ar (st (Bm rfl tv (st (c_ (Bn t3 rfl tv) (st (Bm rfl tv (Cz ?_))))))))))))
   obtain rfl:=sj h1
   exact hK1 _ rfl _ ⟨[(0,An a0),(3,Bd 480 (p14.set p15.toNat r31)),(4,iV (wi (p15+1)))],[],[]⟩ (Cj (by kernel_rfl)) rfl
  ·replace h1:=Kn c28 h1
   obtain rfl:=sj h1
   obtain rfl:=hx1 _ rfl
   refine In rfl ?_
   exact hE1 _ ⟨[(3,Bd 480 p14)],[],[]⟩ (Cj (by kernel_rfl)) ⟨_,rfl,rfl⟩

/- loop.example/g00149/laws.eqVaultReply -/
def AaN:=[X_ 2 0,X_ 3 1,k_ 4 (.bool false)]
def AaO:=[f_ 5 2 0,l_ 6 5 1,f_ 7 3 0,l_ 8 7 1,b_ .neq 9 6 8]
def AaP:=[k_ 4 (.bool false)]
def AaQ:=[f_ 10 2 1,l_ 11 10 1,f_ 12 3 1,l_ 13 12 1,b_ .neq 14 11 13]
def AaR:=[k_ 4 (.bool false)]
def AaS:=[k_ 4 (.bool true)]
def c452:Dv:=⟨2,15,[.t 4],sr AaN (.seq (sr AaO (iz 9 (rr AaP))) (.seq (sr AaQ (iz 14 (rr AaR))) (rr AaS)))⟩
def K452 (D:Bl):Prop:=∀a0 a1 r,g452 a0 a1=some r→D 452 ⟨[.agg (Ax a0),.agg (Ax a1)],[]⟩ ⟨.bool r,[],[]⟩
theorem F452:K452 (FO C c452):=by
 intro a0 a1 r h0
 refine f0 (Ba 14 [(2,.ptr 128 0),(3,.ptr 192 0),(9,.bool (a0.code_ != a1.code_))] [(128,Ax a0),(192,Ax a1)] (Cs h0 (fun c1 h0=>?_) (fun c1 h0=>?_)))
 ·obtain rfl:=sj h0
  exact Cy 4
 ·refine Ba 10 [(14,.bool (a0.id != a1.id))] [] (Cs h0 (fun c2 h0=>?_) (fun c2 h0=>?_))
  ·obtain rfl:=sj h0
   exact Cy 4
  ·obtain rfl:=sj h0
   exact Cy 6

/- loop.example/g00149/laws.eqVaultReplyS -/
def YZ:=[k_ 4 (.bool false)]
def ZA:=[m_ 6 0,n_ 7 6,m_ 8 1,n_ 9 8,b_ .neq 10 7 9]
def ZB:=[k_ 4 (.bool false)]
def ZC:=[i_ 5 0]
def ZD:=[m_ 11 5,m_ 12 0,n_ 13 12,b_ .lss 14 11 13]
def ZE:=tk [m_ 17 0,m_ 18 5,x_ 19 17 18 2,L_ 20 19 2,m_ 21 1,m_ 22 5,x_ 23 21 22 2,L_ 24 23 2] (.alt [] (q_ 25 452 [.t 20,.t 24]) (tk [N_ 26 25] .fin) .stop)
def ZF:=[k_ 4 (.bool false)]
def ZG:=[m_ 15 5,B_ .add 16 15 1,m_ 5 16]
def YY:IR:=(.seq (sr ZD (.ite (.t 14) .skip (.exit 0))) (.seq (.block 1 (sd ZE (iz 26 (rr ZF)))) (.reg ZG)))
def ZH:=[k_ 4 (.bool true)]
def c445:Dv:=⟨2,27,[.t 4],sr YZ (.seq (sr ZA (iz 10 (rr ZB))) (.seq (sr ZC (Im 0 YY)) (rr ZH)))⟩
def K445 (D:Bl):Prop:=∀a0 a1 r,rQ a0 a1=some r→D 445 ⟨[Be a0,Be a1],[]⟩ ⟨.bool r,[],[]⟩
theorem F445 (H452:K452 C):K445 (FO C c445):=by
 intro a0 a1 r h0
 refine f0 (Aw (Ar (st (Ff tv (Cz (Cb ⟨[(0,Be a0),(1,Be a1)],[],[]⟩ (Cj (by kernel_rfl)) (Aw (Aw (Ar (st (Bm rfl tv (st (c_ (Mv (e:=Ax) (l0:=a0) rfl rfl tv) (st (Bm rfl tv (st (c_ (Mv (e:=Ax) (l0:=a1) rfl rfl tv) (st (c_ (Bn t3 rfl tv) (Cz (Cb ⟨[(0,Be a0),(1,Be a1),(10,.bool ((a0.length:Int) != (a1.length:Int)))],[],[]⟩ (Cj (by kernel_rfl)) (Gk (cb:=((a0.length:Int) != (a1.length:Int))) rfl (fun c1=>?_) (fun c1=>?_)))))))))))))))))))))))
 ·replace h0:=ip c1 h0
  refine Aw (Ar (st (Ff tv (Cz (Cb ⟨[(4,.bool false)],[],[]⟩ (Cj (by kernel_rfl)) ?_)))))
  obtain rfl:=sj h0
  exact Hj (Dk rfl rfl rfl rfl rfl tv)
 ·replace h0:=Kn c1 h0
  refine Hb (Cb ⟨[(0,Be a0),(1,Be a1)],[],[]⟩ (Cj (by kernel_rfl)) (Aw (Aw (Ar (st (Ff tv (Cz (Cb ⟨[(0,Be a0),(1,Be a1),(5,iV 0)],[],[]⟩ (Cj (by kernel_rfl)) (Bu ?_)))))))))
  obtain ⟨r28,e29,h0⟩:=bnd h0
  refine Cv (R:=(fun S=>.inl ()=r28∧S=⟨[],[],[]⟩)) (Ul a0 a1) (fun s S=>match s with | p10=>S=⟨[(0,Be a0),(1,Be a1),(5,iV p10)],[],[]⟩) e29 ⟨[(0,Be a0),(1,Be a1),(5,iV 0)],[],[]⟩ (Cj (by kernel_rfl)) rfl 0 (fun _=>rfl) ?_ ?_
  ·rintro S _ hfg ⟨rfl,rfl⟩
   refine Cb ⟨[],[],[]⟩ (lS hfg (by kernel_rfl)) (Aw (Ar (st (Ff tv (Cz (Cb ⟨[(4,.bool true)],[],[]⟩ (Cj (by kernel_rfl)) ?_))))))
   obtain rfl:=sj h0
   exact Hj (Dk rfl rfl rfl rfl rfl tv)
  ·rintro p10 o1 _ K1 rfl h1 hx1 hK1 hE1 hR1
   refine Aw (Aw (Ar (st (Bm rfl tv (st (Bm rfl tv (st (c_ (Mv (e:=Ax) (l0:=a0) rfl rfl tv) (st (c_ (Bn t3 rfl tv) (Cz (Cb ⟨[(0,Be a0),(1,Be a1),(5,iV p10),(14,.bool (decide (p10<(a0.length:Int))))],[],[]⟩ (Cj (by kernel_rfl)) (Gk (cb:=(decide (p10<(a0.length:Int)))) rfl (fun c20=>?_) (fun c20=>?_))))))))))))))
   ·replace h1:=ip c20 h1
    refine Hb (Cb ⟨[(0,Be a0),(1,Be a1),(5,iV p10)],[],[]⟩ (Cj (by kernel_rfl)) (Aw (Bu (Aw ?_))))
    obtain ⟨y21,e22,h1⟩:=bnd h1
    obtain ⟨y23,e24,h1⟩:=bnd h1
    obtain ⟨r25,e26,h1⟩:=bnd h1
    refine Bq (Al tv (Bm rfl tv (⟨tv,Al tv (Bm rfl tv (⟨tv,Al tv (c_ (Ly (e:=Ax) (y:=y21) rfl rfl tv rfl rfl tv e22) (⟨tv,Al tv (c_ (v:=.agg (Ax y21)) (Bn ⟨tv,tv⟩ rfl (nl rfl)) (⟨tv,Al tv (Bm rfl tv (⟨tv,Al tv (Bm rfl tv (⟨tv,Al tv (c_ (Ly (e:=Ax) (y:=y23) rfl rfl tv rfl rfl tv e24) (⟨tv,Al tv (c_ (v:=.agg (Ax y23)) (Bn ⟨tv,tv⟩ rfl (nl rfl)) (⟨tv,Ck (Cq (r:=.bool r25) false (H452 y21 y23 r25 e26) ⟨tv,tv,tv⟩ rfl rfl (fun _=>rfl) (fG ⟨[(0,Be a0),(1,Be a1),(5,iV p10),(25,.bool r25)],[],[]⟩ (Cj (by kernel_rfl)) ⟨[],tv,tv,Al tv (c_ (Bn ⟨tv,tv⟩ rfl tv) (⟨tv,Gf (Cb ⟨[(0,Be a0),(1,Be a1),(5,iV p10),(26,.bool (!r25))],[],[]⟩ (Cj (by kernel_rfl)) (Gk (cb:=(!r25)) rfl (fun Xz=>?_) (fun Xz=>?_)))⟩))⟩)) Bg⟩))⟩))⟩))⟩))⟩))⟩))⟩))⟩)))
    ·replace h1:=ip Xz h1
     refine Aw (Ar (st (Ff tv (Cz (Cb ⟨[(4,.bool false)],[],[]⟩ (Cj (by kernel_rfl)) ?_)))))
     obtain rfl:=sj h1
     obtain rfl:=hx1 _ rfl
     obtain rfl:=sj h0
     exact Hj (hR1 _ (Dk rfl rfl rfl rfl rfl tv))
    ·replace h1:=Kn Xz h1
     refine Hb (Qq (Cb ⟨[(0,Be a0),(1,Be a1),(5,iV p10)],[],[]⟩ (Cj (by kernel_rfl)) (Ar (st (Bm rfl tv (st (c_ (Bn t3 rfl tv) (st (Bm rfl tv (Cz ?_))))))))))
     obtain rfl:=sj h1
     exact hK1 _ rfl _ ⟨[(0,Be a0),(1,Be a1),(5,iV (wi (p10+1)))],[],[]⟩ (Cj (by kernel_rfl)) rfl
   ·replace h1:=Kn c20 h1
    obtain rfl:=sj h1
    obtain rfl:=hx1 _ rfl
    refine In rfl ?_
    exact hE1 _ ⟨[],[],[]⟩ (Cj (by kernel_rfl)) ⟨rfl,rfl⟩

/- loop.example/g00149/laws.eqVaultAct -/
def AaT:=[X_ 2 0,X_ 3 1,k_ 4 (.bool false)]
def AaU:=[f_ 5 2 0,l_ 6 5 1,f_ 7 3 0,l_ 8 7 1,b_ .neq 9 6 8]
def AaV:=[k_ 4 (.bool false)]
def AaW:=[f_ 10 2 1,l_ 11 10 1,f_ 12 3 1,l_ 13 12 1,b_ .neq 14 11 13]
def AaX:=[k_ 4 (.bool false)]
def AaY:=[f_ 15 2 2,l_ 16 15 1,f_ 17 3 2,l_ 18 17 1,b_ .neq 19 16 18]
def AaZ:=[k_ 4 (.bool false)]
def Aba:=[f_ 20 2 3,l_ 21 20 1,f_ 22 3 3,l_ 23 22 1,b_ .neq 24 21 23]
def Abb:=[k_ 4 (.bool false)]
def Abc:=[f_ 25 2 4,l_ 26 25 1,f_ 27 3 4,l_ 28 27 1,b_ .neq 29 26 28]
def AR:=[k_ 4 (.bool false)]
def AS:=[f_ 30 2 5,l_ 31 30 1,f_ 32 3 5,l_ 33 32 1,q_ 34 36 [.t 31,.t 33],N_ 35 34]
def AT:=[k_ 4 (.bool false)]
def AU:=[f_ 36 2 6,l_ 37 36 1,f_ 38 3 6,l_ 39 38 1,b_ .neq 40 37 39]
def AV:=[k_ 4 (.bool false)]
def AW:=[k_ 4 (.bool true)]
def c453:Dv:=⟨2,41,[.t 4],sr AaT (.seq (sr AaU (iz 9 (rr AaV))) (.seq (sr AaW (iz 14 (rr AaX))) (.seq (sr AaY (iz 19 (rr AaZ))) (.seq (sr Aba (iz 24 (rr Abb))) (.seq (sr Abc (iz 29 (rr AR))) (.seq (sr AS (iz 35 (rr AT))) (.seq (sr AU (iz 40 (rr AV))) (rr AW))))))))⟩
def K453 (D:Bl):Prop:=∀a0 a1 r,g453 a0 a1=some r→D 453 ⟨[.agg (Ao a0),.agg (Ao a1)],[]⟩ ⟨.bool r,[],[]⟩
abbrev Wo:=fun x0 x1 (r:List (Nat×List V))=>(128,Ao x0)::(192,Ao x1)::r
abbrev Wp:=fun (r:List (Nat×V))=>(2,.ptr 128 0)::(3,.ptr 192 0)::r
theorem F453 (H36:K36 C):K453 (FO C c453):=by
 intro a0 a1 r h0
 refine f0 (Ba 14 (Wp [(9,.bool (a0.kind != a1.kind))]) (Wo a0 a1 []) (Cs h0 (fun c1 h0=>?_) (fun c1 h0=>?_)))
 ·obtain rfl:=sj h0
  exact Cy 4
 ·refine Ba 10 (Wp [(14,.bool (a0.id != a1.id))]) (Wo a0 a1 []) (Cs h0 (fun c2 h0=>?_) (fun c2 h0=>?_))
  ·obtain rfl:=sj h0
   exact Cy 4
  ·refine Ba 10 (Wp [(19,.bool (a0.ttl != a1.ttl))]) (Wo a0 a1 []) (Cs h0 (fun c3 h0=>?_) (fun c3 h0=>?_))
   ·obtain rfl:=sj h0
    exact Cy 4
   ·refine Ba 10 (Wp [(24,.bool (a0.Db != a1.Db))]) (Wo a0 a1 []) (Cs h0 (fun c4 h0=>?_) (fun c4 h0=>?_))
    ·obtain rfl:=sj h0
     exact Cy 4
    ·refine Ba 10 (Wp [(29,.bool (a0.clock != a1.clock))]) (Wo a0 a1 []) (Cs h0 (fun c5 h0=>?_) (fun c5 h0=>?_))
     ·obtain rfl:=sj h0
      exact Cy 4
     ·refine Bj 8 (Ar (bb h0 fun r6 e7 h0=>Sn (H36 a0.Bi a1.Bi r6 e7) (o_ (Ba 2 (Wp [(35,.bool (!r6))]) (Wo a0 a1 []) (Cs h0 (fun c8 h0=>?_) (fun c8 h0=>?_))))))
      ·obtain rfl:=sj h0
       exact Cy 4
      ·refine Ba 10 [(40,.bool (a0.stop != a1.stop))] [] (Cs h0 (fun c9 h0=>?_) (fun c9 h0=>?_))
       ·obtain rfl:=sj h0
        exact Cy 4
       ·obtain rfl:=sj h0
        exact Cy 6

/- loop.example/g00149/laws.eqVaultActS -/
def ZJ:=[k_ 4 (.bool false)]
def ZK:=[m_ 6 0,n_ 7 6,m_ 8 1,n_ 9 8,b_ .neq 10 7 9]
def ZL:=[k_ 4 (.bool false)]
def ZM:=[i_ 5 0]
def ZN:=[m_ 11 5,m_ 12 0,n_ 13 12,b_ .lss 14 11 13]
def ZO:=tk [m_ 17 0,m_ 18 5,x_ 19 17 18 7,L_ 20 19 7,m_ 21 1,m_ 22 5,x_ 23 21 22 7,L_ 24 23 7] (.alt [] (q_ 25 453 [.t 20,.t 24]) (tk [N_ 26 25] .fin) .stop)
def ZP:=[k_ 4 (.bool false)]
def ZQ:=[m_ 15 5,B_ .add 16 15 1,m_ 5 16]
def ZI:IR:=(.seq (sr ZN (.ite (.t 14) .skip (.exit 0))) (.seq (.block 1 (sd ZO (iz 26 (rr ZP)))) (.reg ZQ)))
def ZR:=[k_ 4 (.bool true)]
def c446:Dv:=⟨2,27,[.t 4],sr ZJ (.seq (sr ZK (iz 10 (rr ZL))) (.seq (sr ZM (Im 0 ZI)) (rr ZR)))⟩
def K446 (D:Bl):Prop:=∀a0 a1 r,g446 a0 a1=some r→D 446 ⟨[An a0,An a1],[]⟩ ⟨.bool r,[],[]⟩
theorem F446 (H453:K453 C):K446 (FO C c446):=by
 intro a0 a1 r h0
 refine f0 (Aw (Ar (st (Ff tv (Cz (Cb ⟨[(0,An a0),(1,An a1)],[],[]⟩ (Cj (by kernel_rfl)) (Aw (Aw (Ar (st (Bm rfl tv (st (c_ (Mv (e:=Ao) (l0:=a0) rfl rfl tv) (st (Bm rfl tv (st (c_ (Mv (e:=Ao) (l0:=a1) rfl rfl tv) (st (c_ (Bn t3 rfl tv) (Cz (Cb ⟨[(0,An a0),(1,An a1),(10,.bool ((a0.length:Int) != (a1.length:Int)))],[],[]⟩ (Cj (by kernel_rfl)) (Gk (cb:=((a0.length:Int) != (a1.length:Int))) rfl (fun c1=>?_) (fun c1=>?_)))))))))))))))))))))))
 ·replace h0:=ip c1 h0
  refine Aw (Ar (st (Ff tv (Cz (Cb ⟨[(4,.bool false)],[],[]⟩ (Cj (by kernel_rfl)) ?_)))))
  obtain rfl:=sj h0
  exact Hj (Dk rfl rfl rfl rfl rfl tv)
 ·replace h0:=Kn c1 h0
  refine Hb (Cb ⟨[(0,An a0),(1,An a1)],[],[]⟩ (Cj (by kernel_rfl)) (Aw (Aw (Ar (st (Ff tv (Cz (Cb ⟨[(0,An a0),(1,An a1),(5,iV 0)],[],[]⟩ (Cj (by kernel_rfl)) (Bu ?_)))))))))
  obtain ⟨r28,e29,h0⟩:=bnd h0
  refine Cv (R:=(fun S=>.inl ()=r28∧S=⟨[],[],[]⟩)) (Um a0 a1) (fun s S=>match s with | p10=>S=⟨[(0,An a0),(1,An a1),(5,iV p10)],[],[]⟩) e29 ⟨[(0,An a0),(1,An a1),(5,iV 0)],[],[]⟩ (Cj (by kernel_rfl)) rfl 0 (fun _=>rfl) ?_ ?_
  ·rintro S _ hfg ⟨rfl,rfl⟩
   refine Cb ⟨[],[],[]⟩ (lS hfg (by kernel_rfl)) (Aw (Ar (st (Ff tv (Cz (Cb ⟨[(4,.bool true)],[],[]⟩ (Cj (by kernel_rfl)) ?_))))))
   obtain rfl:=sj h0
   exact Hj (Dk rfl rfl rfl rfl rfl tv)
  ·rintro p10 o1 _ K1 rfl h1 hx1 hK1 hE1 hR1
   refine Aw (Aw (Ar (st (Bm rfl tv (st (Bm rfl tv (st (c_ (Mv (e:=Ao) (l0:=a0) rfl rfl tv) (st (c_ (Bn t3 rfl tv) (Cz (Cb ⟨[(0,An a0),(1,An a1),(5,iV p10),(14,.bool (decide (p10<(a0.length:Int))))],[],[]⟩ (Cj (by kernel_rfl)) (Gk (cb:=(decide (p10<(a0.length:Int)))) rfl (fun c20=>?_) (fun c20=>?_))))))))))))))
   ·replace h1:=ip c20 h1
    refine Hb (Cb ⟨[(0,An a0),(1,An a1),(5,iV p10)],[],[]⟩ (Cj (by kernel_rfl)) (Aw (Bu (Aw ?_))))
    obtain ⟨y21,e22,h1⟩:=bnd h1
    obtain ⟨y23,e24,h1⟩:=bnd h1
    obtain ⟨r25,e26,h1⟩:=bnd h1
    refine Bq (Al tv (Bm rfl tv (⟨tv,Al tv (Bm rfl tv (⟨tv,Al tv (c_ (Ly (e:=Ao) (y:=y21) rfl rfl tv rfl rfl tv e22) (⟨tv,Al tv (c_ (v:=.agg (Ao y21)) (Bn ⟨tv,tv⟩ rfl (nl rfl)) (⟨tv,Al tv (Bm rfl tv (⟨tv,Al tv (Bm rfl tv (⟨tv,Al tv (c_ (Ly (e:=Ao) (y:=y23) rfl rfl tv rfl rfl tv e24) (⟨tv,Al tv (c_ (v:=.agg (Ao y23)) (Bn ⟨tv,tv⟩ rfl (nl rfl)) (⟨tv,Ck (Cq (r:=.bool r25) false (H453 y21 y23 r25 e26) ⟨tv,tv,tv⟩ rfl rfl (fun _=>rfl) (fG ⟨[(0,An a0),(1,An a1),(5,iV p10),(25,.bool r25)],[],[]⟩ (Cj (by kernel_rfl)) ⟨[],tv,tv,Al tv (c_ (Bn ⟨tv,tv⟩ rfl tv) (⟨tv,Gf (Cb ⟨[(0,An a0),(1,An a1),(5,iV p10),(26,.bool (!r25))],[],[]⟩ (Cj (by kernel_rfl)) (Gk (cb:=(!r25)) rfl (fun Xz=>?_) (fun Xz=>?_)))⟩))⟩)) Bg⟩))⟩))⟩))⟩))⟩))⟩))⟩))⟩)))
    ·replace h1:=ip Xz h1
     refine Aw (Ar (st (Ff tv (Cz (Cb ⟨[(4,.bool false)],[],[]⟩ (Cj (by kernel_rfl)) ?_)))))
     obtain rfl:=sj h1
     obtain rfl:=hx1 _ rfl
     obtain rfl:=sj h0
     exact Hj (hR1 _ (Dk rfl rfl rfl rfl rfl tv))
    ·replace h1:=Kn Xz h1
     refine Hb (Qq (Cb ⟨[(0,An a0),(1,An a1),(5,iV p10)],[],[]⟩ (Cj (by kernel_rfl)) (Ar (st (Bm rfl tv (st (c_ (Bn t3 rfl tv) (st (Bm rfl tv (Cz ?_))))))))))
     obtain rfl:=sj h1
     exact hK1 _ rfl _ ⟨[(0,An a0),(1,An a1),(5,iV (wi (p10+1)))],[],[]⟩ (Cj (by kernel_rfl)) rfl
   ·replace h1:=Kn c20 h1
    obtain rfl:=sj h1
    obtain rfl:=hx1 _ rfl
    refine In rfl ?_
    exact hE1 _ ⟨[],[],[]⟩ (Cj (by kernel_rfl)) ⟨rfl,rfl⟩

/- loop.example/g00149/laws.markVaultActS -/
def ZT:=[i_ 4 0]
def ZU:=[i_ 5 0]
def ZV:=[m_ 6 5,m_ 7 0,n_ 8 7,b_ .lss 9 6 8]
def ZW:=[m_ 12 0,m_ 13 5,m_ 14 1,x_ 15 12 13 7,f_ 16 15 0,s_ 16 14 1]
def ZX:=[m_ 17 1,B_ .add 18 17 1,m_ 1 18]
def ZY:=[m_ 19 0,m_ 20 5,m_ 21 1,x_ 22 19 20 7,f_ 23 22 1,s_ 23 21 1]
def ZZ:=[m_ 24 1,B_ .add 25 24 1,m_ 1 25]
def Aaa:=[m_ 26 0,m_ 27 5,m_ 28 1,x_ 29 26 27 7,f_ 30 29 2,s_ 30 28 1]
def Aab:=[m_ 31 1,B_ .add 32 31 1,m_ 1 32]
def Aac:=[m_ 33 0,m_ 34 5,m_ 35 1,x_ 36 33 34 7,f_ 37 36 3,s_ 37 35 1]
def AI:=[m_ 38 1,B_ .add 39 38 1,m_ 1 39]
def AJ:=[m_ 40 0,m_ 41 5,m_ 42 1,x_ 43 40 41 7,f_ 44 43 4,s_ 44 42 1]
def AK:=[m_ 45 1,B_ .add 46 45 1,m_ 1 46]
def AL:=[m_ 47 0,m_ 48 5,x_ 49 47 48 7,f_ 50 49 5,l_ 51 50 1,m_ 52 1,q_ 53 37 [.t 51,.t 52],m_ 1 53]
def AM:=[m_ 54 0,m_ 55 5,m_ 56 1,x_ 57 54 55 7,f_ 58 57 6,s_ 58 56 1]
def AN:=[m_ 59 1,B_ .add 60 59 1,m_ 1 60]
def AO:=[m_ 10 5,B_ .add 11 10 1,m_ 5 11]
def ZS:IR:=(.seq (sr ZV (.ite (.t 9) .skip (.exit 0))) (.seq (.block 1 (sr ZW (sr ZX (sr ZY (sr ZZ (sr Aaa (sr Aab (sr Aac (sr AI (sr AJ (sr AK (sr AL (sr AM (.reg AN)))))))))))))) (.reg AO)))
def AP:=[m_ 61 1,m_ 4 61]
def c447:Dv:=⟨2,62,[.t 4],sr ZT (.seq (sr ZU (Im 0 ZS)) (rr AP))⟩
def K447 (D:Bl):Prop:=∀a0 a1 r,g447 a0 a1=some r→D 447 ⟨[Bd 2097184 a0,iV a1],[]⟩ ⟨iV r.1,[],[(0,7,r.2.map Ao)]⟩
theorem F447 (H37:K37 C):K447 (FO C c447):=by
 intro a0 a1 r h0
 refine f0 (Aw (Ar (st (Ff tv (Cz (Cb ⟨[(0,Bd 2097184 a0),(1,iV a1)],[],[]⟩ (Cj (by kernel_rfl)) (Aw (Aw (Ar (st (Ff tv (Cz (Cb ⟨[(0,Bd 2097184 a0),(1,iV a1),(5,iV 0)],[],[]⟩ (Cj (by kernel_rfl)) (Bu ?_))))))))))))))
 obtain ⟨r153,e154,h0⟩:=bnd h0
 refine Cv (R:=(fun S=>∃p103:List Ai,∃p104:Int,(p103,p104)=r153∧S=⟨[(0,Bd 2097184 p103),(1,iV p104)],[],[]⟩)) (Re) (fun s S=>match s with | (p49,p50,p51)=>S=⟨[(0,Bd 2097184 p49),(1,iV p50),(5,iV p51)],[],[]⟩) e154 ⟨[(0,Bd 2097184 a0),(1,iV a1),(5,iV 0)],[],[]⟩ (Cj (by kernel_rfl)) rfl 0 (fun _=>rfl) ?_ ?_
 ·rintro S _ hfg ⟨p103,p104,rfl,rfl⟩
  refine Cb ⟨[(0,Bd 2097184 p103),(1,iV p104)],[],[]⟩ (lS hfg (by kernel_rfl)) (Aw (Ar (st (Bm rfl tv (st (Bm rfl tv (Cz (Cb ⟨[(0,Bd 2097184 p103),(4,iV p104)],[],[]⟩ (Cj (by kernel_rfl)) ?_))))))))
  obtain rfl:=sj h0
  exact Hj (Dk rfl rfl rfl rfl rfl ⟨⟨rfl,Jc (fun _=>rfl)⟩,tv⟩)
 ·rintro ⟨p49,p50,p51⟩ o1 _ K1 rfl h1 hx1 hK1 hE1 hR1
  refine Aw (Aw (Ar (st (Bm rfl tv (st (Bm rfl tv (st (c_ (CO (e:=Ao) (l0:=p49) rfl rfl tv) (st (c_ (Bn t3 rfl tv) (Cz (Cb ⟨[(0,Bd 2097184 p49),(1,iV p50),(5,iV p51),(9,.bool (decide (p51<(p49.length:Int))))],[],[]⟩ (Cj (by kernel_rfl)) (Gk (cb:=(decide (p51<(p49.length:Int)))) rfl (fun c105=>?_) (fun c105=>?_))))))))))))))
  ·replace h1:=ip c105 h1
   refine Hb (Cb ⟨[(0,Bd 2097184 p49),(1,iV p50),(5,iV p51)],[],[]⟩ (Cj (by kernel_rfl)) (Aw (Bu (Aw (Ar (st (Bm rfl tv (st (Bm rfl tv (st (Bm rfl tv ?_)))))))))))
   obtain ⟨y106,e107,h1⟩:=bnd h1
   refine st (c_ (Fb (e:=Ao) (y:=y106) rfl rfl tv rfl rfl tv e107) (st (c_ (Bn ⟨tv,tv⟩ rfl tv) ?_)))
   obtain ⟨y108,e109,h1⟩:=bnd h1
   refine st (bY (y':=(Ai.mk p50 y108.id y108.ttl y108.Db y108.clock y108.Bi y108.stop)) rfl rfl tv rfl rfl rfl rfl e109 (nl rfl) rfl (Az Ov rfl) rfl rfl (Cz (Cb ⟨[(0,Bd 2097184 (p49.set p51.toNat (Ai.mk p50 y108.id y108.ttl y108.Db y108.clock y108.Bi y108.stop))),(1,iV p50),(5,iV p51)],[],[]⟩ (fg ⟨congrArg (fun z=>some ((.own 2097184 0 7 z:V))) Ay,rfl,rfl,tv⟩ tv) (Aw (Ar (st (Bm rfl tv (st (c_ (Bn t3 rfl tv) (st (Bm rfl tv (Cz ?_))))))))))))
   obtain ⟨v110,e111,h1⟩:=bl h1
   refine Cb ⟨[(0,Bd 2097184 v110),(1,iV (wi (p50+1))),(5,iV p51)],[],[]⟩ (Cj (by subst e111; kernel_rfl)) (Aw (Ar (st (Bm rfl tv (st (Bm rfl tv (st (Bm rfl tv ?_))))))))
   obtain ⟨y112,e113,h1⟩:=bnd h1
   refine st (c_ (Fb (e:=Ao) (y:=y112) rfl rfl tv rfl rfl tv e113) (st (c_ (Bn ⟨tv,tv⟩ rfl tv) ?_)))
   obtain ⟨y114,e115,h1⟩:=bnd h1
   refine st (bY (y':=(Ai.mk y114.kind (wi (p50+1)) y114.ttl y114.Db y114.clock y114.Bi y114.stop)) rfl rfl tv rfl rfl rfl rfl e115 (nl rfl) rfl (Az Ov rfl) rfl rfl (Cz (Cb ⟨[(0,Bd 2097184 (v110.set p51.toNat (Ai.mk y114.kind (wi (p50+1)) y114.ttl y114.Db y114.clock y114.Bi y114.stop))),(1,iV (wi (p50+1))),(5,iV p51)],[],[]⟩ (fg ⟨congrArg (fun z=>some ((.own 2097184 0 7 z:V))) Ay,rfl,rfl,tv⟩ tv) (Aw (Ar (st (Bm rfl tv (st (c_ (Bn t3 rfl tv) (st (Bm rfl tv (Cz ?_))))))))))))
   obtain ⟨v116,e117,h1⟩:=bl h1
   refine Cb ⟨[(0,Bd 2097184 v116),(1,iV (wi ((wi (p50+1))+1))),(5,iV p51)],[],[]⟩ (Cj (by subst e117; kernel_rfl)) (Aw (Ar (st (Bm rfl tv (st (Bm rfl tv (st (Bm rfl tv ?_))))))))
   obtain ⟨y118,e119,h1⟩:=bnd h1
   refine st (c_ (Fb (e:=Ao) (y:=y118) rfl rfl tv rfl rfl tv e119) (st (c_ (Bn ⟨tv,tv⟩ rfl tv) ?_)))
   obtain ⟨y120,e121,h1⟩:=bnd h1
   refine st (bY (y':=(Ai.mk y120.kind y120.id (wi ((wi (p50+1))+1)) y120.Db y120.clock y120.Bi y120.stop)) rfl rfl tv rfl rfl rfl rfl e121 (nl rfl) rfl (Az Ov rfl) rfl rfl (Cz (Cb ⟨[(0,.own 2097184 0 7 ((v116.set p51.toNat (Ai.mk y120.kind y120.id (wi ((wi (p50+1))+1)) y120.Db y120.clock y120.Bi y120.stop)).map Ao)),(1,iV (wi ((wi (p50+1))+1))),(5,iV p51)],[],[]⟩ (fg ⟨congrArg (fun z=>some ((.own 2097184 0 7 z:V))) Ay,rfl,rfl,tv⟩ tv) (Aw (Ar (st (Bm rfl tv (st (c_ (Bn t3 rfl tv) (st (Bm rfl tv (Cz ?_))))))))))))
   obtain ⟨v122,e123,h1⟩:=bl h1
   obtain ⟨v124,e125,h1⟩:=bl h1
   refine Cb ⟨[(0,Bd 2097184 v122),(1,iV v124),(5,iV p51)],[],[]⟩ (Cj (by subst e123 e125; kernel_rfl)) (Aw (Ar (st (Bm rfl tv (st (Bm rfl tv (st (Bm rfl tv ?_))))))))
   obtain ⟨y126,e127,h1⟩:=bnd h1
   refine st (c_ (Fb (e:=Ao) (y:=y126) rfl rfl tv rfl rfl tv e127) (st (c_ (Bn ⟨tv,tv⟩ rfl tv) ?_)))
   obtain ⟨y128,e129,h1⟩:=bnd h1
   refine st (bY (y':=(Ai.mk y128.kind y128.id y128.ttl v124 y128.clock y128.Bi y128.stop)) rfl rfl tv rfl rfl rfl rfl e129 (nl rfl) rfl (Az Ov rfl) rfl rfl (Cz (Cb ⟨[(0,Bd 2097184 (v122.set p51.toNat (Ai.mk y128.kind y128.id y128.ttl v124 y128.clock y128.Bi y128.stop))),(1,iV v124),(5,iV p51)],[],[]⟩ (fg ⟨congrArg (fun z=>some ((.own 2097184 0 7 z:V))) Ay,rfl,rfl,tv⟩ tv) (Aw (Ar (st (Bm rfl tv (st (c_ (Bn t3 rfl tv) (st (Bm rfl tv (Cz ?_))))))))))))
   obtain ⟨v130,e131,h1⟩:=bl h1
   refine Cb ⟨[(0,Bd 2097184 v130),(1,iV (wi (v124+1))),(5,iV p51)],[],[]⟩ (Cj (by subst e131; kernel_rfl)) (Aw (Ar (st (Bm rfl tv (st (Bm rfl tv (st (Bm rfl tv ?_))))))))
   obtain ⟨y132,e133,h1⟩:=bnd h1
   refine st (c_ (Fb (e:=Ao) (y:=y132) rfl rfl tv rfl rfl tv e133) (st (c_ (Bn ⟨tv,tv⟩ rfl tv) ?_)))
   obtain ⟨y134,e135,h1⟩:=bnd h1
   refine st (bY (y':=(Ai.mk y134.kind y134.id y134.ttl y134.Db (wi (v124+1)) y134.Bi y134.stop)) rfl rfl tv rfl rfl rfl rfl e135 (nl rfl) rfl (Az Ov rfl) rfl rfl (Cz (Cb ⟨[(0,Bd 2097184 (v130.set p51.toNat (Ai.mk y134.kind y134.id y134.ttl y134.Db (wi (v124+1)) y134.Bi y134.stop))),(1,iV (wi (v124+1))),(5,iV p51)],[],[]⟩ (fg ⟨congrArg (fun z=>some ((.own 2097184 0 7 z:V))) Ay,rfl,rfl,tv⟩ tv) (Aw (Ar (st (Bm rfl tv (st (c_ (Bn t3 rfl tv) (st (Bm rfl tv (Cz ?_))))))))))))
   obtain ⟨v136,e137,h1⟩:=bl h1
   refine Cb ⟨[(0,Bd 2097184 v136),(1,iV (wi ((wi (v124+1))+1))),(5,iV p51)],[],[]⟩ (Cj (by subst e137; kernel_rfl)) (Aw (Ar (st (Bm rfl tv (st (Bm rfl tv ?_))))))
   obtain ⟨y138,e139,h1⟩:=bnd h1
   refine st (c_ (Fb (e:=Ao) (y:=y138) rfl rfl tv rfl rfl tv e139) (st (c_ (Bn ⟨tv,tv⟩ rfl tv) ?_)))
   obtain ⟨y140,e141,h1⟩:=bnd h1
   refine st (c_ (cloadD (e:=Ao) (y:=y140) (v:=.nrow 2097184 (0+p51.toNat) 5 1 (y140.Bi.map eI)) rfl rfl tv rfl rfl e141 rfl (nl rfl) rfl) (st (Bm rfl tv ?_)))
   obtain ⟨r142,e143,h1⟩:=bnd h1
   obtain ⟨c144,h1⟩:=kX h1
   refine st (callN_ (e0:=Ao) (L0:=v136) (e:=eI) (xs:=y140.Bi) (xs':=r142.2) (y:=y140) (r:=iV r142.1) (H37 y140.Bi (wi ((wi (v124+1))+1)) r142 e143) ⟨tv,tv,tv⟩ ⟨.inl ⟨rfl,rfl⟩,⟨.inr ⟨rfl,rfl,rfl⟩,tv⟩⟩ rfl rfl e141 rfl rfl c144 (fun _=>rfl) (sw ⟨[(0,Bd 2097184 (v136.set p51.toNat (Ai.mk y140.kind y140.id y140.ttl y140.Db y140.clock r142.2 y140.stop))),(5,iV p51),(53,iV r142.1)],[],[]⟩ (fg ⟨congrArg (fun z=>some ((z:V))) (setN_eq (y:=y140) (y':=(Ai.mk y140.kind y140.id y140.ttl y140.Db y140.clock r142.2 y140.stop)) e141 rfl),rfl,rfl,tv⟩ tv) (Bm rfl tv (Cz ?_))))
   obtain ⟨v145,e146,h1⟩:=bl h1
   refine Cb ⟨[(0,Bd 2097184 v145),(1,iV r142.1),(5,iV p51)],[],[]⟩ (Cj (by subst e146; kernel_rfl)) (Aw (Ar (st (Bm rfl tv (st (Bm rfl tv (st (Bm rfl tv ?_))))))))
   obtain ⟨y147,e148,h1⟩:=bnd h1
   refine st (c_ (Fb (e:=Ao) (y:=y147) rfl rfl tv rfl rfl tv e148) (st (c_ (Bn ⟨tv,tv⟩ rfl tv) ?_)))
   obtain ⟨y149,e150,h1⟩:=bnd h1
   refine st (bY (y':=(Ai.mk y149.kind y149.id y149.ttl y149.Db y149.clock y149.Bi r142.1)) rfl rfl tv rfl rfl rfl rfl e150 (nl rfl) rfl (Az Ov rfl) rfl rfl (Cz (Cb ⟨[(0,Bd 2097184 (v145.set p51.toNat (Ai.mk y149.kind y149.id y149.ttl y149.Db y149.clock y149.Bi r142.1))),(1,iV r142.1),(5,iV p51)],[],[]⟩ (fg ⟨congrArg (fun z=>some ((.own 2097184 0 7 z:V))) Ay,rfl,rfl,tv⟩ tv) (Ar (st (Bm rfl tv (st (c_ (Bn t3 rfl tv) (st (Bm rfl tv (Cz (Qq ?_))))))))))))
   obtain ⟨v151,e152,h1⟩:=bl h1
   refine Cb ⟨[(0,Bd 2097184 v151),(1,iV (wi (r142.1+1))),(5,iV p51)],[],[]⟩ (Cj (by subst e152; kernel_rfl)) (Ar (st (Bm rfl tv (st (c_ (Bn t3 rfl tv) (st (Bm rfl tv (Cz ?_))))))))
   obtain rfl:=sj h1
   exact hK1 _ rfl _ ⟨[(0,Bd 2097184 v151),(1,iV (wi (r142.1+1))),(5,iV (wi (p51+1)))],[],[]⟩ (Cj (by kernel_rfl)) rfl
  ·replace h1:=Kn c105 h1
   obtain rfl:=sj h1
   obtain rfl:=hx1 _ rfl
   refine In rfl ?_
   exact hE1 _ ⟨[(0,Bd 2097184 p49),(1,iV p50)],[],[]⟩ (Cj (by kernel_rfl)) ⟨_,_,rfl,rfl⟩

/- loop.example/g00149/laws.markVaultReplyS -/
def Aae:=[i_ 4 0]
def Aaf:=[i_ 5 0]
def Aag:=[m_ 6 5,m_ 7 0,n_ 8 7,b_ .lss 9 6 8]
def Aah:=[m_ 12 0,m_ 13 5,m_ 14 1,x_ 15 12 13 2,f_ 16 15 0,s_ 16 14 1]
def Aai:=[m_ 17 1,B_ .add 18 17 1,m_ 1 18]
def Aaj:=[m_ 19 0,m_ 20 5,m_ 21 1,x_ 22 19 20 2,f_ 23 22 1,s_ 23 21 1]
def Aak:=[m_ 24 1,B_ .add 25 24 1,m_ 1 25]
def Aal:=[m_ 10 5,B_ .add 11 10 1,m_ 5 11]
def Aad:IR:=(.seq (sr Aag (.ite (.t 9) .skip (.exit 0))) (.seq (.block 1 (sr Aah (sr Aai (sr Aaj (.reg Aak))))) (.reg Aal)))
def Aam:=[m_ 26 1,m_ 4 26]
def c448:Dv:=⟨2,27,[.t 4],sr Aae (.seq (sr Aaf (Im 0 Aad)) (rr Aam))⟩
def K448 (D:Bl):Prop:=∀a0 a1 r,g448 a0 a1=some r→D 448 ⟨[Ah 2097152 a0,iV a1],[]⟩ ⟨iV r.1,[],[(0,2,r.2.map Ax)]⟩
theorem F448:K448 (FO C c448):=by
 intro a0 a1 r h0
 refine f0 (Aw (Ar (st (Ff tv (Cz (Cb ⟨[(0,Ah 2097152 a0),(1,iV a1)],[],[]⟩ (Cj (by kernel_rfl)) (Aw (Aw (Ar (st (Ff tv (Cz (Cb ⟨[(0,Ah 2097152 a0),(1,iV a1),(5,iV 0)],[],[]⟩ (Cj (by kernel_rfl)) (Bu ?_))))))))))))))
 obtain ⟨r42,e43,h0⟩:=bnd h0
 refine Cv (R:=(fun S=>∃p29:List Ak,∃p30:Int,(p29,p30)=r42∧S=⟨[(0,Ah 2097152 p29),(1,iV p30)],[],[]⟩)) (Un) (fun s S=>match s with | (p12,p13,p14)=>S=⟨[(0,Ah 2097152 p12),(1,iV p13),(5,iV p14)],[],[]⟩) e43 ⟨[(0,Ah 2097152 a0),(1,iV a1),(5,iV 0)],[],[]⟩ (Cj (by kernel_rfl)) rfl 0 (fun _=>rfl) ?_ ?_
 ·rintro S _ hfg ⟨p29,p30,rfl,rfl⟩
  refine Cb ⟨[(0,Ah 2097152 p29),(1,iV p30)],[],[]⟩ (lS hfg (by kernel_rfl)) (Aw (Ar (st (Bm rfl tv (st (Bm rfl tv (Cz (Cb ⟨[(0,Ah 2097152 p29),(4,iV p30)],[],[]⟩ (Cj (by kernel_rfl)) ?_))))))))
  obtain rfl:=sj h0
  exact Hj (Dk rfl rfl rfl rfl rfl ⟨⟨rfl,Jc (fun _=>rfl)⟩,tv⟩)
 ·rintro ⟨p12,p13,p14⟩ o1 _ K1 rfl h1 hx1 hK1 hE1 hR1
  refine Aw (Aw (Ar (st (Bm rfl tv (st (Bm rfl tv (st (c_ (CO (e:=Ax) (l0:=p12) rfl rfl tv) (st (c_ (Bn t3 rfl tv) (Cz (Cb ⟨[(0,Ah 2097152 p12),(1,iV p13),(5,iV p14),(9,.bool (decide (p14<(p12.length:Int))))],[],[]⟩ (Cj (by kernel_rfl)) (Gk (cb:=(decide (p14<(p12.length:Int)))) rfl (fun c31=>?_) (fun c31=>?_))))))))))))))
  ·replace h1:=ip c31 h1
   refine Hb (Cb ⟨[(0,Ah 2097152 p12),(1,iV p13),(5,iV p14)],[],[]⟩ (Cj (by kernel_rfl)) (Aw (Bu (Aw (Ar (st (Bm rfl tv (st (Bm rfl tv (st (Bm rfl tv ?_)))))))))))
   obtain ⟨y32,e33,h1⟩:=bnd h1
   refine st (c_ (Fb (e:=Ax) (y:=y32) rfl rfl tv rfl rfl tv e33) (st (c_ (Bn ⟨tv,tv⟩ rfl tv) ?_)))
   obtain ⟨y34,e35,h1⟩:=bnd h1
   refine st (Hc (y':=(Ak.mk p13 y34.id)) rfl rfl tv rfl rfl rfl rfl e35 (nl rfl) rfl rfl rfl rfl (Cz (Cb ⟨[(0,Ah 2097152 (p12.set p14.toNat (Ak.mk p13 y34.id))),(1,iV p13),(5,iV p14)],[],[]⟩ (fg ⟨congrArg (fun z=>some ((.own 2097152 0 2 z:V))) Ay,rfl,rfl,tv⟩ tv) (Aw (Ar (st (Bm rfl tv (st (c_ (Bn t3 rfl tv) (st (Bm rfl tv (Cz (Cb ⟨[(0,Ah 2097152 (p12.set p14.toNat (Ak.mk p13 y34.id))),(1,iV (wi (p13+1))),(5,iV p14)],[],[]⟩ (Cj (by kernel_rfl)) (Aw (Ar (st (Bm rfl tv (st (Bm rfl tv (st (Bm rfl tv ?_)))))))))))))))))))))
   obtain ⟨y36,e37,h1⟩:=bnd h1
   refine st (c_ (Fb (e:=Ax) (y:=y36) rfl rfl tv rfl rfl tv e37) (st (c_ (Bn ⟨tv,tv⟩ rfl tv) ?_)))
   obtain ⟨y38,e39,h1⟩:=bnd h1
   refine st (Hc (y':=(Ak.mk y38.code_ (wi (p13+1)))) rfl rfl tv rfl rfl rfl rfl e39 (nl rfl) rfl rfl rfl rfl (Cz (Cb ⟨[(0,Ah 2097152 ((p12.set p14.toNat (Ak.mk p13 y34.id)).set p14.toNat (Ak.mk y38.code_ (wi (p13+1))))),(1,iV (wi (p13+1))),(5,iV p14)],[],[]⟩ (fg ⟨congrArg (fun z=>some ((.own 2097152 0 2 z:V))) Ay,rfl,rfl,tv⟩ tv) (Ar (st (Bm rfl tv (st (c_ (Bn t3 rfl tv) (st (Bm rfl tv (Cz (Qq ?_))))))))))))
   obtain ⟨v40,e41,h1⟩:=bl h1
   refine Cb ⟨[(0,Ah 2097152 v40),(1,iV (wi ((wi (p13+1))+1))),(5,iV p14)],[],[]⟩ (Cj (by subst e41; kernel_rfl)) (Ar (st (Bm rfl tv (st (c_ (Bn t3 rfl tv) (st (Bm rfl tv (Cz ?_))))))))
   obtain rfl:=sj h1
   exact hK1 _ rfl _ ⟨[(0,Ah 2097152 v40),(1,iV (wi ((wi (p13+1))+1))),(5,iV (wi (p14+1)))],[],[]⟩ (Cj (by kernel_rfl)) rfl
  ·replace h1:=Kn c31 h1
   obtain rfl:=sj h1
   obtain rfl:=hx1 _ rfl
   refine In rfl ?_
   exact hE1 _ ⟨[(0,Ah 2097152 p12),(1,iV p13)],[],[]⟩ (Cj (by kernel_rfl)) ⟨_,_,rfl,rfl⟩

/- loop.example/g00149/laws.heldVaultReplyS -/
def Aao:=[i_ 4 0]
def Aap:=[i_ 5 0]
def Aaq:=[m_ 6 5,m_ 7 0,n_ 8 7,b_ .lss 9 6 8]
def Aar:=[m_ 12 0,m_ 13 5,x_ 14 12 13 2,f_ 15 14 0,l_ 16 15 1,m_ 17 1,b_ .neq 18 16 17]
def Aas:=[i_ 4 (-1)]
def Aat:=[m_ 19 1,B_ .add 20 19 1,m_ 1 20]
def Aau:=[m_ 21 0,m_ 22 5,x_ 23 21 22 2,f_ 24 23 1,l_ 25 24 1,m_ 26 1,b_ .neq 27 25 26]
def Aav:=[i_ 4 (-1)]
def Aaw:=[m_ 28 1,B_ .add 29 28 1,m_ 1 29]
def Aax:=[m_ 10 5,B_ .add 11 10 1,m_ 5 11]
def Aan:IR:=(.seq (sr Aaq (.ite (.t 9) .skip (.exit 0))) (.seq (.block 1 (.seq (sr Aar (iz 18 (rr Aas))) (sr Aat (.seq (sr Aau (iz 27 (rr Aav))) (.reg Aaw))))) (.reg Aax)))
def AQ:=[m_ 30 1,m_ 4 30]
def c449:Dv:=⟨2,31,[.t 4],sr Aao (.seq (sr Aap (Im 0 Aan)) (rr AQ))⟩
def K449 (D:Bl):Prop:=∀a0 a1 r,DR a0 a1=some r→D 449 ⟨[Be a0,iV a1],[]⟩ ⟨iV r,[],[]⟩
theorem F449:K449 (FO C c449):=by
 intro a0 a1 r h0
 refine f0 (Aw (Ar (st (Ff tv (Cz (Cb ⟨[(0,Be a0),(1,iV a1)],[],[]⟩ (Cj (by kernel_rfl)) (Aw (Aw (Ar (st (Ff tv (Cz (Cb ⟨[(0,Be a0),(1,iV a1),(5,iV 0)],[],[]⟩ (Cj (by kernel_rfl)) (Bu ?_))))))))))))))
 obtain ⟨r27,e28,h0⟩:=bnd h0
 refine Cv (R:=(fun S=>∃p19:Int,.inl p19=r27∧S=⟨[(1,iV p19)],[],[]⟩)) (Rf a0) (fun s S=>match s with | (p8,p9)=>S=⟨[(0,Be a0),(1,iV p8),(5,iV p9)],[],[]⟩) e28 ⟨[(0,Be a0),(1,iV a1),(5,iV 0)],[],[]⟩ (Cj (by kernel_rfl)) rfl 0 (fun _=>rfl) ?_ ?_
 ·rintro S _ hfg ⟨p19,rfl,rfl⟩
  refine Cb ⟨[(1,iV p19)],[],[]⟩ (lS hfg (by kernel_rfl)) (Aw (Ar (st (Bm rfl tv (st (Bm rfl tv (Cz (Cb ⟨[(4,iV p19)],[],[]⟩ (Cj (by kernel_rfl)) ?_))))))))
  obtain rfl:=sj h0
  exact Hj (Dk rfl rfl rfl rfl rfl tv)
 ·rintro ⟨p8,p9⟩ o1 _ K1 rfl h1 hx1 hK1 hE1 hR1
  refine Aw (Aw (Ar (st (Bm rfl tv (st (Bm rfl tv (st (c_ (Mv (e:=Ax) (l0:=a0) rfl rfl tv) (st (c_ (Bn t3 rfl tv) (Cz (Cb ⟨[(0,Be a0),(1,iV p8),(5,iV p9),(9,.bool (decide (p9<(a0.length:Int))))],[],[]⟩ (Cj (by kernel_rfl)) (Gk (cb:=(decide (p9<(a0.length:Int)))) rfl (fun c20=>?_) (fun c20=>?_))))))))))))))
  ·replace h1:=ip c20 h1
   refine Hb (Cb ⟨[(0,Be a0),(1,iV p8),(5,iV p9)],[],[]⟩ (Cj (by kernel_rfl)) (Aw (Bu (Aw (Aw (Ar (st (Bm rfl tv (st (Bm rfl tv ?_))))))))))
   obtain ⟨y21,e22,h1⟩:=bnd h1
   refine st (c_ (Ly (e:=Ax) (y:=y21) rfl rfl tv rfl rfl tv e22) (st (c_ (Bn ⟨tv,tv⟩ rfl (nl rfl)) (st (c_ (Bn ⟨tv,tv⟩ rfl (nl rfl)) (st (Bm rfl tv (st (c_ (Bn t3 rfl tv) (Cz (Cb ⟨[(0,Be a0),(1,iV p8),(5,iV p9),(18,.bool (y21.code_ != p8))],[],[]⟩ (Cj (by kernel_rfl)) (Gk (cb:=(y21.code_ != p8)) rfl (fun c23=>?_) (fun c23=>?_)))))))))))))
   ·replace h1:=ip c23 h1
    refine Aw (Ar (st (Ff tv (Cz (Cb ⟨[(4,iV (-1))],[],[]⟩ (Cj (by kernel_rfl)) ?_)))))
    obtain rfl:=sj h1
    obtain rfl:=hx1 _ rfl
    obtain rfl:=sj h0
    exact Hj (hR1 _ (Dk rfl rfl rfl rfl rfl tv))
   ·replace h1:=Kn c23 h1
    refine Hb (Cb ⟨[(0,Be a0),(1,iV p8),(5,iV p9)],[],[]⟩ (Cj (by kernel_rfl)) (Aw (Ar (st (Bm rfl tv (st (c_ (Bn t3 rfl tv) (st (Bm rfl tv (Cz (Cb ⟨[(0,Be a0),(1,iV (wi (p8+1))),(5,iV p9)],[],[]⟩ (Cj (by kernel_rfl)) (Aw (Aw (Ar (st (Bm rfl tv (st (Bm rfl tv ?_))))))))))))))))))
    obtain ⟨y24,e25,h1⟩:=bnd h1
    refine st (c_ (Ly (e:=Ax) (y:=y24) rfl rfl tv rfl rfl tv e25) (st (c_ (Bn ⟨tv,tv⟩ rfl (nl rfl)) (st (c_ (Bn ⟨tv,tv⟩ rfl (nl rfl)) (st (Bm rfl tv (st (c_ (Bn t3 rfl tv) (Cz (Cb ⟨[(0,Be a0),(1,iV (wi (p8+1))),(5,iV p9),(27,.bool (y24.id != (wi (p8+1))))],[],[]⟩ (Cj (by kernel_rfl)) (Gk (cb:=(y24.id != (wi (p8+1)))) rfl (fun qS=>?_) (fun qS=>?_)))))))))))))
    ·replace h1:=ip qS h1
     refine Aw (Ar (st (Ff tv (Cz (Cb ⟨[(4,iV (-1))],[],[]⟩ (Cj (by kernel_rfl)) ?_)))))
     obtain rfl:=sj h1
     obtain rfl:=hx1 _ rfl
     obtain rfl:=sj h0
     exact Hj (hR1 _ (Dk rfl rfl rfl rfl rfl tv))
    ·replace h1:=Kn qS h1
     refine Hb (Cb ⟨[(0,Be a0),(1,iV (wi (p8+1))),(5,iV p9)],[],[]⟩ (Cj (by kernel_rfl)) (Ar (st (Bm rfl tv (st (c_ (Bn t3 rfl tv) (st (Bm rfl tv (Cz (Qq (Cb ⟨[(0,Be a0),(1,iV (wi ((wi (p8+1))+1))),(5,iV p9)],[],[]⟩ (Cj (by kernel_rfl)) (Ar (st (Bm rfl tv (st (c_ (Bn t3 rfl tv) (st (Bm rfl tv (Cz ?_)))))))))))))))))))
     obtain rfl:=sj h1
     exact hK1 _ rfl _ ⟨[(0,Be a0),(1,iV (wi ((wi (p8+1))+1))),(5,iV (wi (p9+1)))],[],[]⟩ (Cj (by kernel_rfl)) rfl
  ·replace h1:=Kn c20 h1
   obtain rfl:=sj h1
   obtain rfl:=hx1 _ rfl
   refine In rfl ?_
   exact hE1 _ ⟨[(1,iV p8)],[],[]⟩ (Cj (by kernel_rfl)) ⟨_,rfl,rfl⟩

/- loop.example/g00149/laws.FnExactRunVault -/
def XJ:=[k_ 2 (.bool false)]
def XK:=[i_ 3 1048576]
def XL:=[m_ 17 0,m_ 18 3,q_ 19 443 [.t 17,.t 18],m_ 3 19]
def XM:=[m_ 20 3,B_ .lss 21 20 0]
def XN:=[k_ 2 (.bool true)]
def XO:=[m_ 23 0,q_ 24 444 [.t 23],q_ 25 50 [.t 24],m_ 22 25,e_ 26 22 0,e_ 27 22 1,e_ 28 22 2,a_ 4 (zV 259 260 261),s_ 4 26 6,m_ 5 27,m_ 6 28]
def XP:=[m_ 29 0,q_ 30 444 [.t 29],m_ 7 30]
def XQ:=[m_ 32 7,q_ 33 438 [.t 32],m_ 31 33,e_ 34 31 0,e_ 35 31 1,e_ 36 31 2,a_ 8 (zV 515 516 517),s_ 8 34 6,m_ 9 35,m_ 10 36]
def XS:List Cf:=[L_ 37 8 6,L_ 38 4 6,q_ 39 49 [.t 37,.t 38],N_ 40 39,m_ 41 40,mF 41 42 9,mF 41 43 5,⟨some 44,.call 445 [.t 42,.t 43],some (41,false)⟩,pF 41 45 (.un .not (.t 44)),po 46 41 45,m_ 47 46,mF 47 48 10,mF 47 49 6,pF 47 50 (.bin .neq (.t 48) (.t 49)),po 51 47 50]
def XT:=[k_ 2 (.bool false)]
def yT:=[m_ 52 7,m_ 53 0,q_ 54 444 [.t 53],q_ 55 446 [.t 52,.t 54],N_ 56 55]
def yU:=[k_ 2 (.bool false)]
def yV:=[i_ 11 1]
def yW:=[m_ 57 7,m_ 58 11,q_ 59 447 [.t 57,.t 58],m_ 11 59]
def yX:List Cf:=[m_ 60 11,B_ .lss 61 60 0,m_ 62 61,lF 62 63 8 6 true,lF 62 64 4 6 true,⟨some 65,.call 49 [.t 63,.t 64],some (62,false)⟩,pF 62 66 (.un .not (.t 65)),po 67 62 66,m_ 68 67,mF 68 69 9,mF 68 70 5,⟨some 71,.call 445 [.t 69,.t 70],some (68,false)⟩,pF 68 72 (.un .not (.t 71)),po 73 68 72,m_ 74 73,mF 74 75 10,mF 74 76 6,pF 74 77 (.bin .neq (.t 75) (.t 76)),po 78 74 77]
def yY:=[k_ 2 (.bool false)]
def yZ:=[i_ 12 1]
def zA:=[L_ 79 8 6,m_ 80 12,q_ 81 252 [.t 79,.t 80],m_ 12 81]
def zB:=[m_ 82 9,m_ 83 12,q_ 84 448 [.t 82,.t 83],m_ 12 84]
def zC:=[i_ 13 1]
def zD:=[L_ 85 8 6,m_ 86 13,q_ 87 259 [.t 85,.t 86],m_ 13 87]
def zE:=[m_ 88 13,B_ .lss 89 88 0]
def zF:=[k_ 2 (.bool false)]
def zG:=[m_ 90 9,m_ 91 13,q_ 92 449 [.t 90,.t 91],m_ 13 92]
def zH:=[m_ 93 13,B_ .lss 94 93 0]
def zI:=[k_ 2 (.bool false)]
def zJ:=[m_ 95 13,m_ 96 12,b_ .neq 97 95 96]
def zK:=[k_ 2 (.bool false)]
def zL:=[m_ 99 0,q_ 100 444 [.t 99],q_ 101 438 [.t 100],m_ 98 101,e_ 102 98 0,e_ 103 98 1,e_ 104 98 2,a_ 14 (zV 899 900 901),s_ 14 102 6,m_ 15 103,m_ 16 104]
def zM:List Cf:=[L_ 105 14 6,L_ 106 4 6,q_ 107 49 [.t 105,.t 106],N_ 108 107,m_ 109 108,mF 109 110 15,mF 109 111 5,⟨some 112,.call 445 [.t 110,.t 111],some (109,false)⟩,pF 109 113 (.un .not (.t 112)),po 114 109 113,m_ 115 114,mF 115 116 16,mF 115 117 6,pF 115 118 (.bin .neq (.t 116) (.t 117)),po 119 115 118]
def zN:=[k_ 2 (.bool false)]
def zO:=[i_ 13 1]
def zP:=[L_ 120 8 6,m_ 121 13,q_ 122 259 [.t 120,.t 121],m_ 13 122]
def zQ:=[m_ 123 13,B_ .lss 124 123 0]
def zR:=[k_ 2 (.bool false)]
def zS:=[m_ 125 9,m_ 126 13,q_ 127 449 [.t 125,.t 126],m_ 13 127]
def zU:=[m_ 128 13,B_ .lss 129 128 0]
def zW:=[k_ 2 (.bool false)]
def zX:=[m_ 130 13,m_ 131 12,b_ .neq 132 130 131]
def zY:=[k_ 2 (.bool false)]
def zZ:=[k_ 2 (.bool true)]
def c436:Dv:=⟨1,133,[.t 2],sr XJ (sr XK (sr XL (.seq (sr XM (iz 21 (rr XN))) (sr XO (sr XP (sr XQ (.seq (sr XS (iz 51 (rr XT))) (.seq (sr yT (iz 56 (rr yU))) (sr yV (sr yW (.seq (sr yX (iz 78 (rr yY))) (sr yZ (sr zA (sr zB (sr zC (sr zD (.seq (sr zE (iz 89 (rr zF))) (sr zG (.seq (sr zH (iz 94 (rr zI))) (.seq (sr zJ (iz 97 (rr zK))) (sr zL (.seq (sr zM (iz 119 (rr zN))) (sr zO (sr zP (.seq (sr zQ (iz 124 (rr zR))) (sr zS (.seq (sr zU (iz 129 (rr zW))) (.seq (sr zX (iz 132 (rr zY))) (rr zZ)))))))))))))))))))))))))))))⟩
def K436 (D:Bl):Prop:=∀a0 r,g436 a0=some r→D 436 ⟨[An a0],[]⟩ ⟨.bool r,[],[]⟩
theorem F436 (H49:K49 C) (H50:K50 C) (H252:K252 C) (H259:K259 C) (H438:K438 C) (H443:K443 C) (H444:K444 C) (H445:K445 C) (H446:K446 C) (H447:K447 C) (H448:K448 C) (H449:K449 C):K436 (FO C c436):=by
 intro a0 r h0
 refine f0 (Aw (Ar (st (Ff tv (Cz (Cb ⟨[(0,An a0)],[],[]⟩ (Cj (by kernel_rfl)) (Aw (Ar (st (Ff tv (Cz (Cb ⟨[(0,An a0),(3,iV 1048576)],[],[]⟩ (Cj (by kernel_rfl)) (Aw (Ar (st (Bm rfl tv (st (Bm rfl tv ?_))))))))))))))))))
 obtain ⟨r1,e2,h0⟩:=bnd h0
 refine st (Cq (r:=iV r1) false (H443 a0 1048576 r1 e2) ⟨tv,tv,tv⟩ rfl rfl (fun _=>rfl) (st (Bm rfl tv (Cz (Cb ⟨[(0,An a0),(3,iV r1)],[],[]⟩ (Cj (by kernel_rfl)) (Aw (Aw (Ar (st (Bm rfl tv (st (c_ (Bn t3 rfl tv) (Cz (Cb ⟨[(0,An a0),(21,.bool (decide (r1<0)))],[],[]⟩ (Cj (by kernel_rfl)) (Gk (cb:=(decide (r1<0))) rfl (fun c3=>?_) (fun c3=>?_))))))))))))))))
 ·replace h0:=ip c3 h0
  refine Aw (Ar (st (Ff tv (Cz (Cb ⟨[(2,.bool true)],[],[]⟩ (Cj (by kernel_rfl)) ?_)))))
  obtain rfl:=sj h0
  exact Hj (Dk rfl rfl rfl rfl rfl tv)
 ·replace h0:=Kn c3 h0
  refine Hb (Cb ⟨[(0,An a0)],[],[]⟩ (Cj (by kernel_rfl)) (Aw (Ar (st (Bm rfl tv ?_)))))
  obtain ⟨r4,e5,h0⟩:=bnd h0
  refine st (Cq (r:=Bd 32 r4) false (H444 a0 r4 e5) ⟨tv,tv⟩ rfl rfl (fun _=>(Az (fl1d rfl) rfl)) ?_)
  obtain ⟨r6,e7,h0⟩:=bnd h0
  refine st (Cq (r:=.tup [.agg (Av r6.1 (Aq 0) (Aq 1) (Aq 2)),Ah 3 r6.2.1,iV r6.2.2]) false (H50 r4 r6 e7) ⟨tv,tv⟩ rfl rfl (fun _=>(Az rfl (Az rfl (Az (oV (fun _=>rfl)) (Az (oV (fun _=>rfl)) (Az (oV (fun _=>rfl)) (Az rfl (Az (oV (fun _=>rfl)) (Az rfl rfl))))))))) (st (Bm rfl tv (st (c_ (Bn ⟨tv,tv⟩ rfl tv) (st (c_ (Bn ⟨tv,tv⟩ rfl tv) (st (c_ (Bn ⟨tv,tv⟩ rfl tv) (st (Hp (sw ⟨[(0,An a0),(4,.ptr 256 0),(26,.agg (Av r6.1 (Aq 1600) (Aq 1601) (Aq 1602))),(27,Ah 1603 r6.2.1),(28,iV r6.2.2)],[(256,At 0 0 (Aq 259) [] (Aq 260) [] (Aq 261) [] false)],[]⟩ (Cj (by kernel_rfl)) (Gm rfl rfl tv rfl rfl rfl (nl rfl) (st (Bm rfl tv (st (Bm rfl tv (Cz (Cb ⟨[(0,An a0),(4,.ptr 256 0),(5,Ah 1603 r6.2.1),(6,iV r6.2.2)],[(256,Av r6.1 (Aq 1600) (Aq 1601) (Aq 1602))],[]⟩ (Cj (by kernel_rfl)) (Aw (Ar (st (Bm rfl tv ?_)))))))))))))))))))))))
  obtain ⟨r8,e9,h0⟩:=bnd h0
  refine st (Cq (r:=Bd 32 r8) false (H444 a0 r8 e9) ⟨tv,tv⟩ rfl rfl (fun _=>(Az (fl1d rfl) rfl)) (st (Bm rfl tv (Cz (Cb ⟨[(0,An a0),(4,.ptr 256 0),(5,Ah 1603 r6.2.1),(6,iV r6.2.2),(7,Bd 1952 r8)],[(256,Av r6.1 (Aq 1600) (Aq 1601) (Aq 1602))],[]⟩ (Cj (by kernel_rfl)) (Aw (Ar (st (Bm rfl tv ?_)))))))))
  obtain ⟨r10,e11,h0⟩:=bnd h0
  refine st (Cq (r:=.tup [.agg (Av r10.1 (Aq 0) (Aq 1) (Aq 2)),Ah 3 r10.2.1,iV r10.2.2]) false (H438 r8 r10 e11) ⟨tv,tv⟩ rfl rfl (fun _=>(Az rfl (Az rfl (Az (oV (fun _=>rfl)) (Az (oV (fun _=>rfl)) (Az (oV (fun _=>rfl)) (Az rfl (Az (oV (fun _=>rfl)) (Az rfl rfl))))))))) (st (Bm rfl tv (st (c_ (Bn ⟨tv,tv⟩ rfl tv) (st (c_ (Bn ⟨tv,tv⟩ rfl tv) (st (c_ (Bn ⟨tv,tv⟩ rfl tv) (st (Hp (st (Gm rfl rfl tv rfl rfl rfl (nl rfl) (sw ⟨[(0,An a0),(4,.ptr 256 0),(5,Ah 1603 r6.2.1),(6,iV r6.2.2),(7,Bd 1952 r8),(8,.ptr 512 0),(35,Ah 2115 r10.2.1),(36,iV r10.2.2)],[(256,Av r6.1 (Aq 1600) (Aq 1601) (Aq 1602)),(512,Av r10.1 (Aq 2112) (Aq 2113) (Aq 2114))],[]⟩ (Cj (by kernel_rfl)) (Bm rfl tv (st (Bm rfl tv (Cz (Cb ⟨[(0,An a0),(4,.ptr 256 0),(5,Ah 1603 r6.2.1),(6,iV r6.2.2),(7,Bd 1952 r8),(8,.ptr 512 0),(9,Ah 2115 r10.2.1),(10,iV r10.2.2)],[(256,Av r6.1 (Aq 1600) (Aq 1601) (Aq 1602)),(512,Av r10.1 (Aq 2112) (Aq 2113) (Aq 2114))],[]⟩ (Cj (by kernel_rfl)) (Aw (Aw (Ar (st (c_ (v:=.agg (Av r10.1 (Aq 2112) (Aq 2113) (Aq 2114))) (Bn ⟨tv,tv⟩ rfl (nl rfl)) (st (c_ (v:=.agg (Av r6.1 (Aq 1600) (Aq 1601) (Aq 1602))) (Bn ⟨tv,tv⟩ rfl (nl rfl)) ?_))))))))))))))))))))))))))
  obtain ⟨r12,e13,h0⟩:=bnd h0
  refine st (Cq (r:=.bool r12) false (H49 r10.1 r6.1 r12 e13) ⟨tv,tv,tv⟩ rfl rfl (fun _=>rfl) (st (c_ (Bn ⟨tv,tv⟩ rfl tv) (st (Bm rfl tv (st (Cw (u:=Ah 2115 r10.2.1) rfl (fun hg=>(Eb (v:=Ah 2115 r10.2.1) rfl tv)) (st (Cw (u:=Ah 1603 r6.2.1) rfl (fun hg=>(Eb (v:=Ah 1603 r6.2.1) rfl tv)) ?_)))))))))
  obtain ⟨r14,e15,h0⟩:=bnd h0
  refine sw ⟨[(0,An a0),(4,.ptr 256 0),(5,Ah 1603 r6.2.1),(6,iV r6.2.2),(7,Bd 1952 r8),(8,.ptr 512 0),(9,Ah 2115 r10.2.1),(10,iV r10.2.2),(41,.bool (!r12)),(42,.may ((!r12)==false) (Ah 2115 r10.2.1)),(43,.may ((!r12)==false) (Ah 1603 r6.2.1))],[(256,Av r6.1 (Aq 1600) (Aq 1601) (Aq 1602)),(512,Av r10.1 (Aq 2112) (Aq 2113) (Aq 2114))],[]⟩ (Cj (by kernel_rfl)) (Mh (r:=.bool r14) rfl false (fun hg=>H445 r10.2.1 r6.2.1 r14 (ip hg e15)) ⟨(fun hg=>hg),(fun hg=>hg),tv⟩ (fun _=>rfl) (fun _=>rfl) (fun _=>rfl) (fun h=>nomatch h) (st (Cw (u:=.bool (!r14)) rfl (fun hg=>(Bn ⟨(fun _=>hg),tv⟩ rfl tv)) (st (Fw rfl rfl rfl tv (fun h=>HJ h) rfl (st (Bm rfl tv (st (Cw (u:=iV r10.2.2) rfl (fun hg=>(Eb (v:=iV r10.2.2) rfl tv)) (st (Cw (u:=iV r6.2.2) rfl (fun hg=>(Eb (v:=iV r6.2.2) rfl tv)) (st (Cw (u:=.bool (r10.2.2 != r6.2.2)) rfl (fun hg=>(Bn ⟨(fun _=>hg),(fun _=>hg),tv⟩ rfl tv)) (st (Fw rfl rfl rfl tv (fun h=>HJ h) rfl (Cz ?_))))))))))))))))
  obtain ⟨v16,e17,h0⟩:=bl h0
  refine Cb ⟨[(0,An a0),(4,.ptr 256 0),(5,Ah 1603 r6.2.1),(6,iV r6.2.2),(7,Bd 1952 r8),(8,.ptr 512 0),(9,Ah 2115 r10.2.1),(10,iV r10.2.2),(51,.bool v16)],[(256,Av r6.1 (Aq 1600) (Aq 1601) (Aq 1602)),(512,Av r10.1 (Aq 2112) (Aq 2113) (Aq 2114))],[]⟩ (Cj (by subst e17; kernel_rfl)) (Gk (cb:=v16) rfl (fun c18=>?_) (fun c18=>?_))
  ·replace h0:=ip c18 h0
   refine Aw (Ar (st (Ff tv (Cz (Cb ⟨[(2,.bool false)],[],[]⟩ (Cj (by kernel_rfl)) ?_)))))
   obtain rfl:=sj h0
   exact Hj (Dk rfl rfl rfl rfl rfl tv)
  ·replace h0:=Kn c18 h0
   refine Hb (Cb ⟨[(0,An a0),(4,.ptr 256 0),(5,Ah 1603 r6.2.1),(6,iV r6.2.2),(7,Bd 1952 r8),(8,.ptr 512 0),(9,Ah 2115 r10.2.1),(10,iV r10.2.2)],[(256,Av r6.1 (Aq 1600) (Aq 1601) (Aq 1602)),(512,Av r10.1 (Aq 2112) (Aq 2113) (Aq 2114))],[]⟩ (Cj (by kernel_rfl)) (Aw (Aw (Ar (st (Bm rfl tv (st (Bm rfl tv ?_))))))))
   obtain ⟨r19,e20,h0⟩:=bnd h0
   refine st (Cq (r:=Bd 32 r19) false (H444 a0 r19 e20) ⟨tv,tv⟩ rfl rfl (fun _=>(Az (fl1d rfl) rfl)) ?_)
   obtain ⟨r21,e22,h0⟩:=bnd h0
   refine st (Cq (r:=.bool r21) false (H446 r8 r19 r21 e22) ⟨tv,tv,tv⟩ rfl rfl (fun _=>rfl) (st (c_ (Bn ⟨tv,tv⟩ rfl tv) (Cz (Cb ⟨[(0,An a0),(4,.ptr 256 0),(5,Ah 1603 r6.2.1),(6,iV r6.2.2),(7,Bd 1952 r8),(8,.ptr 512 0),(9,Ah 2115 r10.2.1),(10,iV r10.2.2),(56,.bool (!r21))],[(256,Av r6.1 (Aq 1600) (Aq 1601) (Aq 1602)),(512,Av r10.1 (Aq 2112) (Aq 2113) (Aq 2114))],[]⟩ (Cj (by kernel_rfl)) (Gk (cb:=(!r21)) rfl (fun c23=>?_) (fun c23=>?_)))))))
   ·replace h0:=ip c23 h0
    refine Aw (Ar (st (Ff tv (Cz (Cb ⟨[(2,.bool false)],[],[]⟩ (Cj (by kernel_rfl)) ?_)))))
    obtain rfl:=sj h0
    exact Hj (Dk rfl rfl rfl rfl rfl tv)
   ·replace h0:=Kn c23 h0
    refine Hb (Cb ⟨[(0,An a0),(4,.ptr 256 0),(5,Ah 1603 r6.2.1),(6,iV r6.2.2),(7,Bd 1952 r8),(8,.ptr 512 0),(9,Ah 2115 r10.2.1),(10,iV r10.2.2)],[(256,Av r6.1 (Aq 1600) (Aq 1601) (Aq 1602)),(512,Av r10.1 (Aq 2112) (Aq 2113) (Aq 2114))],[]⟩ (Cj (by kernel_rfl)) (Aw (Ar (st (Ff tv (Cz (Cb ⟨[(0,An a0),(4,.ptr 256 0),(5,Ah 1603 r6.2.1),(6,iV r6.2.2),(7,Bd 1952 r8),(8,.ptr 512 0),(9,Ah 2115 r10.2.1),(10,iV r10.2.2),(11,iV 1)],[(256,Av r6.1 (Aq 1600) (Aq 1601) (Aq 1602)),(512,Av r10.1 (Aq 2112) (Aq 2113) (Aq 2114))],[]⟩ (Cj (by kernel_rfl)) (Aw (Ar (st (Bm rfl tv (st (Bm rfl tv ?_)))))))))))))
    obtain ⟨r24,e25,h0⟩:=bnd h0
    obtain ⟨qS,h0⟩:=kX h0
    refine st (Ef [] [1952] [] true (H447 r8 1 r24 e25) ⟨tv,tv,tv⟩ (by kernel_rfl) (by kernel_rfl) (by kernel_rfl) (by kernel_rfl) (fun h=>nomatch h) (sw ⟨[(0,An a0),(4,.ptr 256 0),(5,Ah 1603 r6.2.1),(6,iV r6.2.2),(8,.ptr 512 0),(9,Ah 2115 r10.2.1),(10,iV r10.2.2),(59,iV r24.1)],[(256,Av r6.1 (Aq 1600) (Aq 1601) (Aq 1602)),(512,Av r10.1 (Aq 2112) (Aq 2113) (Aq 2114))],[]⟩ (Cj (by kernel_rfl)) (Bm rfl tv (Cz (Cb ⟨[(0,An a0),(4,.ptr 256 0),(5,Ah 1603 r6.2.1),(6,iV r6.2.2),(8,.ptr 512 0),(9,Ah 2115 r10.2.1),(10,iV r10.2.2),(11,iV r24.1)],[(256,Av r6.1 (Aq 1600) (Aq 1601) (Aq 1602)),(512,Av r10.1 (Aq 2112) (Aq 2113) (Aq 2114))],[]⟩ (Cj (by kernel_rfl)) (Aw (Aw (Ar (st (Bm rfl tv (st (c_ (Bn t3 rfl tv) (st (Bm rfl tv (st (Cw (u:=.agg (Av r10.1 (Aq 2112) (Aq 2113) (Aq 2114))) rfl (fun hg=>(Bn ⟨tv,tv⟩ rfl (nl rfl))) (st (Cw (u:=.agg (Av r6.1 (Aq 1600) (Aq 1601) (Aq 1602))) rfl (fun hg=>(Bn ⟨tv,tv⟩ rfl (nl rfl))) ?_))))))))))))))))))
    obtain ⟨r27,e28,h0⟩:=bnd h0
    refine st (Mh (r:=.bool r27) rfl false (fun hg=>H49 r10.1 r6.1 r27 (ip hg e28)) ⟨(fun hg=>hg),(fun hg=>hg),tv⟩ (fun _=>rfl) (fun _=>rfl) (fun _=>rfl) (fun h=>nomatch h) (st (Cw (u:=.bool (!r27)) rfl (fun hg=>(Bn ⟨(fun _=>hg),tv⟩ rfl tv)) (st (Fw rfl rfl rfl tv (fun h=>HJ h) rfl (st (Bm rfl tv (st (Cw (u:=Ah 2115 r10.2.1) rfl (fun hg=>(Eb (v:=Ah 2115 r10.2.1) rfl tv)) (st (Cw (u:=Ah 1603 r6.2.1) rfl (fun hg=>(Eb (v:=Ah 1603 r6.2.1) rfl tv)) ?_)))))))))))
    obtain ⟨r29,e30,h0⟩:=bnd h0
    refine sw ⟨[(0,An a0),(4,.ptr 256 0),(5,Ah 1603 r6.2.1),(6,iV r6.2.2),(8,.ptr 512 0),(9,Ah 2115 r10.2.1),(10,iV r10.2.2),(68,.bool (bif (decide (r24.1<0)) then true else (!r27))),(69,.may ((bif (decide (r24.1<0)) then true else (!r27))==false) (Ah 2115 r10.2.1)),(70,.may ((bif (decide (r24.1<0)) then true else (!r27))==false) (Ah 1603 r6.2.1))],[(256,Av r6.1 (Aq 1600) (Aq 1601) (Aq 1602)),(512,Av r10.1 (Aq 2112) (Aq 2113) (Aq 2114))],[]⟩ (Cj (by kernel_rfl)) (Mh (r:=.bool r29) rfl false (fun hg=>H445 r10.2.1 r6.2.1 r29 (ip hg e30)) ⟨(fun hg=>hg),(fun hg=>hg),tv⟩ (fun _=>rfl) (fun _=>rfl) (fun _=>rfl) (fun h=>nomatch h) (st (Cw (u:=.bool (!r29)) rfl (fun hg=>(Bn ⟨(fun _=>hg),tv⟩ rfl tv)) (st (Fw rfl rfl rfl tv (fun h=>HJ h) rfl (st (Bm rfl tv (st (Cw (u:=iV r10.2.2) rfl (fun hg=>(Eb (v:=iV r10.2.2) rfl tv)) (st (Cw (u:=iV r6.2.2) rfl (fun hg=>(Eb (v:=iV r6.2.2) rfl tv)) (st (Cw (u:=.bool (r10.2.2 != r6.2.2)) rfl (fun hg=>(Bn ⟨(fun _=>hg),(fun _=>hg),tv⟩ rfl tv)) (st (Fw rfl rfl rfl tv (fun h=>HJ h) rfl (Cz ?_))))))))))))))))
    obtain ⟨v31,e32,h0⟩:=bl h0
    refine Cb ⟨[(0,An a0),(4,.ptr 256 0),(5,Ah 1603 r6.2.1),(6,iV r6.2.2),(8,.ptr 512 0),(9,Ah 2115 r10.2.1),(78,.bool v31)],[(256,Av r6.1 (Aq 1600) (Aq 1601) (Aq 1602)),(512,Av r10.1 (Aq 2112) (Aq 2113) (Aq 2114))],[]⟩ (Cj (by subst e32; kernel_rfl)) (Gk (cb:=v31) rfl (fun c33=>?_) (fun c33=>?_))
    ·replace h0:=ip c33 h0
     refine Aw (Ar (st (Ff tv (Cz (Cb ⟨[(2,.bool false)],[],[]⟩ (Cj (by kernel_rfl)) ?_)))))
     obtain rfl:=sj h0
     exact Hj (Dk rfl rfl rfl rfl rfl tv)
    ·replace h0:=Kn c33 h0
     refine Hb (Cb ⟨[(0,An a0),(4,.ptr 256 0),(5,Ah 1603 r6.2.1),(6,iV r6.2.2),(8,.ptr 512 0),(9,Ah 2115 r10.2.1)],[(256,Av r6.1 (Aq 1600) (Aq 1601) (Aq 1602)),(512,Av r10.1 (Aq 2112) (Aq 2113) (Aq 2114))],[]⟩ (Cj (by kernel_rfl)) (Aw (Ar (st (Ff tv (Cz (Cb ⟨[(0,An a0),(4,.ptr 256 0),(5,Ah 1603 r6.2.1),(6,iV r6.2.2),(8,.ptr 512 0),(9,Ah 2115 r10.2.1),(12,iV 1)],[(256,Av r6.1 (Aq 1600) (Aq 1601) (Aq 1602)),(512,Av r10.1 (Aq 2112) (Aq 2113) (Aq 2114))],[]⟩ (Cj (by kernel_rfl)) (Aw (Ar (st (c_ (v:=.agg (Av r10.1 (Aq 2112) (Aq 2113) (Aq 2114))) (Bn ⟨tv,tv⟩ rfl (nl rfl)) (st (Bm rfl tv ?_)))))))))))))
     obtain ⟨r34,e35,h0⟩:=bnd h0
     obtain ⟨HH,h0⟩:=kX h0
     obtain ⟨c37,h0⟩:=kX h0
     obtain ⟨c38,h0⟩:=kX h0
     refine st (Ef [] [2112,2113,2114] [] false (H252 r10.1 1 r34 e35) ⟨tv,tv,tv⟩ (by kernel_rfl) (by kernel_rfl) (by kernel_rfl) (by kernel_rfl) (fun _=>Az rfl (Az (cH (fun _=>rfl)) (Az (cH (fun _=>rfl)) (Az (cH (fun _=>rfl)) rfl)))) (sw ⟨[(0,An a0),(4,.ptr 256 0),(5,Ah 1603 r6.2.1),(6,iV r6.2.2),(8,.ptr 512 0),(9,Ah 2115 r10.2.1),(81,iV r34.1)],[(256,Av r6.1 (Aq 1600) (Aq 1601) (Aq 1602)),(512,At r10.1.Ac.clock r10.1.Ac.next (Aq 2112) r34.2.1 (Aq 2113) r34.2.2.1 (Aq 2114) r34.2.2.2 r10.1.Am)],[]⟩ (fg ⟨rfl,rfl,rfl,rfl,rfl,rfl,rfl,tv⟩ ⟨rfl,cg3 (fun z0 z1 z2=>some (([iV r10.1.Ac.clock,iV r10.1.Ac.next,z0,z1,z2,.bool r10.1.Am]:List V))) (Fa HH) (Fa c37) (Fa c38),tv⟩) (Bm rfl tv (Cz (Cb ⟨[(0,An a0),(4,.ptr 256 0),(5,Ah 1603 r6.2.1),(6,iV r6.2.2),(8,.ptr 512 0),(9,Ah 2115 r10.2.1),(12,iV r34.1)],[(256,Av r6.1 (Aq 1600) (Aq 1601) (Aq 1602)),(512,At r10.1.Ac.clock r10.1.Ac.next (Aq 2112) r34.2.1 (Aq 2113) r34.2.2.1 (Aq 2114) r34.2.2.2 r10.1.Am)],[]⟩ (Cj (by kernel_rfl)) (Aw (Ar (st (Bm rfl tv (st (Bm rfl tv ?_)))))))))))
     obtain ⟨r39,e40,h0⟩:=bnd h0
     obtain ⟨c41,h0⟩:=kX h0
     refine st (Ef [] [2115] [] false (H448 r10.2.1 r34.1 r39 e40) ⟨tv,tv,tv⟩ (by kernel_rfl) (by kernel_rfl) (by kernel_rfl) (by kernel_rfl) (fun _=>Az rfl (Az (cH (fun _=>rfl)) rfl)) (sw ⟨[(0,An a0),(4,.ptr 256 0),(5,Ah 1603 r6.2.1),(6,iV r6.2.2),(8,.ptr 512 0),(9,Ah 2115 r39.2),(84,iV r39.1)],[(256,Av r6.1 (Aq 1600) (Aq 1601) (Aq 1602)),(512,At r10.1.Ac.clock r10.1.Ac.next (Aq 2112) r34.2.1 (Aq 2113) r34.2.2.1 (Aq 2114) r34.2.2.2 r10.1.Am)],[]⟩ (fg ⟨rfl,rfl,rfl,rfl,rfl,congrArg (fun z=>some ((z:V))) (Fa c41),rfl,tv⟩ ⟨rfl,rfl,tv⟩) (Bm rfl tv (Cz (Cb ⟨[(0,An a0),(4,.ptr 256 0),(5,Ah 1603 r6.2.1),(6,iV r6.2.2),(8,.ptr 512 0),(9,Ah 2115 r39.2),(12,iV r39.1)],[(256,Av r6.1 (Aq 1600) (Aq 1601) (Aq 1602)),(512,At r10.1.Ac.clock r10.1.Ac.next (Aq 2112) r34.2.1 (Aq 2113) r34.2.2.1 (Aq 2114) r34.2.2.2 r10.1.Am)],[]⟩ (Cj (by kernel_rfl)) (Aw (Ar (st (Ff tv (Cz (Cb ⟨[(0,An a0),(4,.ptr 256 0),(5,Ah 1603 r6.2.1),(6,iV r6.2.2),(8,.ptr 512 0),(9,Ah 2115 r39.2),(12,iV r39.1),(13,iV 1)],[(256,Av r6.1 (Aq 1600) (Aq 1601) (Aq 1602)),(512,At r10.1.Ac.clock r10.1.Ac.next (Aq 2112) r34.2.1 (Aq 2113) r34.2.2.1 (Aq 2114) r34.2.2.2 r10.1.Am)],[]⟩ (Cj (by kernel_rfl)) (Aw (Ar (st (c_ (v:=.agg (At r10.1.Ac.clock r10.1.Ac.next (Aq 2112) r34.2.1 (Aq 2113) r34.2.2.1 (Aq 2114) r34.2.2.2 r10.1.Am)) (Bn ⟨tv,tv⟩ rfl (nl rfl)) (st (Bm rfl tv ?_)))))))))))))))))
     obtain ⟨r42,e43,h0⟩:=bnd h0
     refine st (Cq (r:=iV r42) false (H259 (Ap.mk (As.mk r10.1.Ac.clock r10.1.Ac.next r34.2.1) r34.2.2.1 r34.2.2.2 r10.1.Am) 1 r42 e43) ⟨tv,tv,tv⟩ rfl rfl (fun _=>rfl) (st (Bm rfl tv (Cz (Cb ⟨[(0,An a0),(4,.ptr 256 0),(5,Ah 1603 r6.2.1),(6,iV r6.2.2),(8,.ptr 512 0),(9,Ah 2115 r39.2),(12,iV r39.1),(13,iV r42)],[(256,Av r6.1 (Aq 1600) (Aq 1601) (Aq 1602)),(512,At r10.1.Ac.clock r10.1.Ac.next (Aq 2112) r34.2.1 (Aq 2113) r34.2.2.1 (Aq 2114) r34.2.2.2 r10.1.Am)],[]⟩ (Cj (by kernel_rfl)) (Aw (Aw (Ar (st (Bm rfl tv (st (c_ (Bn t3 rfl tv) (Cz (Cb ⟨[(0,An a0),(4,.ptr 256 0),(5,Ah 1603 r6.2.1),(6,iV r6.2.2),(8,.ptr 512 0),(9,Ah 2115 r39.2),(12,iV r39.1),(13,iV r42),(89,.bool (decide (r42<0)))],[(256,Av r6.1 (Aq 1600) (Aq 1601) (Aq 1602)),(512,At r10.1.Ac.clock r10.1.Ac.next (Aq 2112) r34.2.1 (Aq 2113) r34.2.2.1 (Aq 2114) r34.2.2.2 r10.1.Am)],[]⟩ (Cj (by kernel_rfl)) (Gk (cb:=(decide (r42<0))) rfl (fun c44=>?_) (fun c44=>?_))))))))))))))))
     ·replace h0:=ip c44 h0
      refine Aw (Ar (st (Ff tv (Cz (Cb ⟨[(2,.bool false)],[],[]⟩ (Cj (by kernel_rfl)) ?_)))))
      obtain rfl:=sj h0
      exact Hj (Dk rfl rfl rfl rfl rfl tv)
     ·replace h0:=Kn c44 h0
      refine Hb (Cb ⟨[(0,An a0),(4,.ptr 256 0),(5,Ah 1603 r6.2.1),(6,iV r6.2.2),(8,.ptr 512 0),(9,Ah 2115 r39.2),(12,iV r39.1),(13,iV r42)],[(256,Av r6.1 (Aq 1600) (Aq 1601) (Aq 1602)),(512,At r10.1.Ac.clock r10.1.Ac.next (Aq 2112) r34.2.1 (Aq 2113) r34.2.2.1 (Aq 2114) r34.2.2.2 r10.1.Am)],[]⟩ (Cj (by kernel_rfl)) (Aw (Ar (st (Bm rfl tv (st (Bm rfl tv ?_)))))))
      obtain ⟨r45,e46,h0⟩:=bnd h0
      refine st (Cq (r:=iV r45) false (H449 r39.2 r42 r45 e46) ⟨tv,tv,tv⟩ rfl rfl (fun _=>rfl) (st (Bm rfl tv (Cz (Cb ⟨[(0,An a0),(4,.ptr 256 0),(5,Ah 1603 r6.2.1),(6,iV r6.2.2),(8,.ptr 512 0),(9,Ah 2115 r39.2),(12,iV r39.1),(13,iV r45)],[(256,Av r6.1 (Aq 1600) (Aq 1601) (Aq 1602)),(512,At r10.1.Ac.clock r10.1.Ac.next (Aq 2112) r34.2.1 (Aq 2113) r34.2.2.1 (Aq 2114) r34.2.2.2 r10.1.Am)],[]⟩ (Cj (by kernel_rfl)) (Aw (Aw (Ar (st (Bm rfl tv (st (c_ (Bn t3 rfl tv) (Cz (Cb ⟨[(0,An a0),(4,.ptr 256 0),(5,Ah 1603 r6.2.1),(6,iV r6.2.2),(8,.ptr 512 0),(9,Ah 2115 r39.2),(12,iV r39.1),(13,iV r45),(94,.bool (decide (r45<0)))],[(256,Av r6.1 (Aq 1600) (Aq 1601) (Aq 1602)),(512,At r10.1.Ac.clock r10.1.Ac.next (Aq 2112) r34.2.1 (Aq 2113) r34.2.2.1 (Aq 2114) r34.2.2.2 r10.1.Am)],[]⟩ (Cj (by kernel_rfl)) (Gk (cb:=(decide (r45<0))) rfl (fun c47=>?_) (fun c47=>?_))))))))))))))))
      ·replace h0:=ip c47 h0
       refine Aw (Ar (st (Ff tv (Cz (Cb ⟨[(2,.bool false)],[],[]⟩ (Cj (by kernel_rfl)) ?_)))))
       obtain rfl:=sj h0
       exact Hj (Dk rfl rfl rfl rfl rfl tv)
      ·replace h0:=Kn c47 h0
       refine Hb (Cb ⟨[(0,An a0),(4,.ptr 256 0),(5,Ah 1603 r6.2.1),(6,iV r6.2.2),(8,.ptr 512 0),(9,Ah 2115 r39.2),(12,iV r39.1),(13,iV r45)],[(256,Av r6.1 (Aq 1600) (Aq 1601) (Aq 1602)),(512,At r10.1.Ac.clock r10.1.Ac.next (Aq 2112) r34.2.1 (Aq 2113) r34.2.2.1 (Aq 2114) r34.2.2.2 r10.1.Am)],[]⟩ (Cj (by kernel_rfl)) (Aw (Aw (Ar (st (Bm rfl tv (st (Bm rfl tv (st (c_ (Bn t3 rfl tv) (Cz (Cb ⟨[(0,An a0),(4,.ptr 256 0),(5,Ah 1603 r6.2.1),(6,iV r6.2.2),(8,.ptr 512 0),(9,Ah 2115 r39.2),(12,iV r39.1),(97,.bool (r45 != r39.1))],[(256,Av r6.1 (Aq 1600) (Aq 1601) (Aq 1602)),(512,At r10.1.Ac.clock r10.1.Ac.next (Aq 2112) r34.2.1 (Aq 2113) r34.2.2.1 (Aq 2114) r34.2.2.2 r10.1.Am)],[]⟩ (Cj (by kernel_rfl)) (Gk (cb:=(r45 != r39.1)) rfl (fun c48=>?_) (fun c48=>?_))))))))))))))
       ·replace h0:=ip c48 h0
        refine Aw (Ar (st (Ff tv (Cz (Cb ⟨[(2,.bool false)],[],[]⟩ (Cj (by kernel_rfl)) ?_)))))
        obtain rfl:=sj h0
        exact Hj (Dk rfl rfl rfl rfl rfl tv)
       ·replace h0:=Kn c48 h0
        refine Hb (Cb ⟨[(0,An a0),(4,.ptr 256 0),(5,Ah 1603 r6.2.1),(6,iV r6.2.2),(8,.ptr 512 0),(9,Ah 2115 r39.2),(12,iV r39.1)],[(256,Av r6.1 (Aq 1600) (Aq 1601) (Aq 1602)),(512,At r10.1.Ac.clock r10.1.Ac.next (Aq 2112) r34.2.1 (Aq 2113) r34.2.2.1 (Aq 2114) r34.2.2.2 r10.1.Am)],[]⟩ (Cj (by kernel_rfl)) (Aw (Ar (st (Bm rfl tv ?_)))))
        obtain ⟨r49,e50,h0⟩:=bnd h0
        refine st (Cq (r:=Bd 32 r49) false (H444 a0 r49 e50) ⟨tv,tv⟩ rfl rfl (fun _=>(Az (fl1d rfl) rfl)) ?_)
        obtain ⟨r51,e52,h0⟩:=bnd h0
        refine st (Cq (r:=.tup [.agg (Av r51.1 (Aq 0) (Aq 1) (Aq 2)),Ah 3 r51.2.1,iV r51.2.2]) false (H438 r49 r51 e52) ⟨tv,tv⟩ rfl rfl (fun _=>(Az rfl (Az rfl (Az (oV (fun _=>rfl)) (Az (oV (fun _=>rfl)) (Az (oV (fun _=>rfl)) (Az rfl (Az (oV (fun _=>rfl)) (Az rfl rfl))))))))) (st (Bm rfl tv (st (c_ (Bn ⟨tv,tv⟩ rfl tv) (st (c_ (Bn ⟨tv,tv⟩ rfl tv) (st (c_ (Bn ⟨tv,tv⟩ rfl tv) (st (Hp (sw ⟨[(4,.ptr 256 0),(5,Ah 1603 r6.2.1),(6,iV r6.2.2),(8,.ptr 512 0),(9,Ah 2115 r39.2),(12,iV r39.1),(14,.ptr 896 0),(102,.agg (Av r51.1 (Aq 6464) (Aq 6465) (Aq 6466))),(103,Ah 6467 r51.2.1),(104,iV r51.2.2)],[(256,Av r6.1 (Aq 1600) (Aq 1601) (Aq 1602)),(512,At r10.1.Ac.clock r10.1.Ac.next (Aq 2112) r34.2.1 (Aq 2113) r34.2.2.1 (Aq 2114) r34.2.2.2 r10.1.Am),(896,At 0 0 (Aq 899) [] (Aq 900) [] (Aq 901) [] false)],[]⟩ (Cj (by kernel_rfl)) (Gm rfl rfl tv rfl rfl rfl (nl rfl) (st (Bm rfl tv (st (Bm rfl tv (Cz (Cb ⟨[(4,.ptr 256 0),(5,Ah 1603 r6.2.1),(6,iV r6.2.2),(8,.ptr 512 0),(9,Ah 2115 r39.2),(12,iV r39.1),(14,.ptr 896 0),(15,Ah 6467 r51.2.1),(16,iV r51.2.2)],[(256,Av r6.1 (Aq 1600) (Aq 1601) (Aq 1602)),(512,At r10.1.Ac.clock r10.1.Ac.next (Aq 2112) r34.2.1 (Aq 2113) r34.2.2.1 (Aq 2114) r34.2.2.2 r10.1.Am),(896,Av r51.1 (Aq 6464) (Aq 6465) (Aq 6466))],[]⟩ (Cj (by kernel_rfl)) (Aw (Aw (Ar (st (c_ (v:=.agg (Av r51.1 (Aq 6464) (Aq 6465) (Aq 6466))) (Bn ⟨tv,tv⟩ rfl (nl rfl)) (st (c_ (v:=.agg (Av r6.1 (Aq 1600) (Aq 1601) (Aq 1602))) (Bn ⟨tv,tv⟩ rfl (nl rfl)) ?_))))))))))))))))))))))))))
        obtain ⟨r53,e54,h0⟩:=bnd h0
        refine st (Cq (r:=.bool r53) false (H49 r51.1 r6.1 r53 e54) ⟨tv,tv,tv⟩ rfl rfl (fun _=>rfl) (st (c_ (Bn ⟨tv,tv⟩ rfl tv) (st (Bm rfl tv (st (Cw (u:=Ah 6467 r51.2.1) rfl (fun hg=>(Eb (v:=Ah 6467 r51.2.1) rfl tv)) (st (Cw (u:=Ah 1603 r6.2.1) rfl (fun hg=>(Eb (v:=Ah 1603 r6.2.1) rfl tv)) ?_)))))))))
        obtain ⟨r55,e56,h0⟩:=bnd h0
        refine sw ⟨[(6,iV r6.2.2),(8,.ptr 512 0),(9,Ah 2115 r39.2),(12,iV r39.1),(16,iV r51.2.2),(109,.bool (!r53)),(110,.may ((!r53)==false) (Ah 6467 r51.2.1)),(111,.may ((!r53)==false) (Ah 1603 r6.2.1))],[(512,At r10.1.Ac.clock r10.1.Ac.next (Aq 2112) r34.2.1 (Aq 2113) r34.2.2.1 (Aq 2114) r34.2.2.2 r10.1.Am)],[]⟩ (Cj (by kernel_rfl)) (Mh (r:=.bool r55) rfl false (fun hg=>H445 r51.2.1 r6.2.1 r55 (ip hg e56)) ⟨(fun hg=>hg),(fun hg=>hg),tv⟩ (fun _=>rfl) (fun _=>rfl) (fun _=>rfl) (fun h=>nomatch h) (st (Cw (u:=.bool (!r55)) rfl (fun hg=>(Bn ⟨(fun _=>hg),tv⟩ rfl tv)) (st (Fw rfl rfl rfl tv (fun h=>HJ h) rfl (st (Bm rfl tv (st (Cw (u:=iV r51.2.2) rfl (fun hg=>(Eb (v:=iV r51.2.2) rfl tv)) (st (Cw (u:=iV r6.2.2) rfl (fun hg=>(Eb (v:=iV r6.2.2) rfl tv)) (st (Cw (u:=.bool (r51.2.2 != r6.2.2)) rfl (fun hg=>(Bn ⟨(fun _=>hg),(fun _=>hg),tv⟩ rfl tv)) (st (Fw rfl rfl rfl tv (fun h=>HJ h) rfl (Cz ?_))))))))))))))))
        obtain ⟨v57,e58,h0⟩:=bl h0
        refine Cb ⟨[(8,.ptr 512 0),(9,Ah 2115 r39.2),(12,iV r39.1),(119,.bool v57)],[(512,At r10.1.Ac.clock r10.1.Ac.next (Aq 2112) r34.2.1 (Aq 2113) r34.2.2.1 (Aq 2114) r34.2.2.2 r10.1.Am)],[]⟩ (Cj (by subst e58; kernel_rfl)) (Gk (cb:=v57) rfl (fun c59=>?_) (fun c59=>?_))
        ·replace h0:=ip c59 h0
         refine Aw (Ar (st (Ff tv (Cz (Cb ⟨[(2,.bool false)],[],[]⟩ (Cj (by kernel_rfl)) ?_)))))
         obtain rfl:=sj h0
         exact Hj (Dk rfl rfl rfl rfl rfl tv)
        ·replace h0:=Kn c59 h0
         refine Hb (Cb ⟨[(8,.ptr 512 0),(9,Ah 2115 r39.2),(12,iV r39.1)],[(512,At r10.1.Ac.clock r10.1.Ac.next (Aq 2112) r34.2.1 (Aq 2113) r34.2.2.1 (Aq 2114) r34.2.2.2 r10.1.Am)],[]⟩ (Cj (by kernel_rfl)) (Aw (Ar (st (Ff tv (Cz (Cb ⟨[(8,.ptr 512 0),(9,Ah 2115 r39.2),(12,iV r39.1),(13,iV 1)],[(512,At r10.1.Ac.clock r10.1.Ac.next (Aq 2112) r34.2.1 (Aq 2113) r34.2.2.1 (Aq 2114) r34.2.2.2 r10.1.Am)],[]⟩ (Cj (by kernel_rfl)) (Aw (Ar (st (c_ (v:=.agg (At r10.1.Ac.clock r10.1.Ac.next (Aq 2112) r34.2.1 (Aq 2113) r34.2.2.1 (Aq 2114) r34.2.2.2 r10.1.Am)) (Bn ⟨tv,tv⟩ rfl (nl rfl)) (st (Bm rfl tv ?_)))))))))))))
         obtain ⟨r60,e61,h0⟩:=bnd h0
         refine st (Cq (r:=iV r60) false (H259 (Ap.mk (As.mk r10.1.Ac.clock r10.1.Ac.next r34.2.1) r34.2.2.1 r34.2.2.2 r10.1.Am) 1 r60 e61) ⟨tv,tv,tv⟩ rfl rfl (fun _=>rfl) (st (Bm rfl tv (Cz (Cb ⟨[(9,Ah 2115 r39.2),(12,iV r39.1),(13,iV r60)],[],[]⟩ (Cj (by kernel_rfl)) (Aw (Aw (Ar (st (Bm rfl tv (st (c_ (Bn t3 rfl tv) (Cz (Cb ⟨[(9,Ah 2115 r39.2),(12,iV r39.1),(13,iV r60),(124,.bool (decide (r60<0)))],[],[]⟩ (Cj (by kernel_rfl)) (Gk (cb:=(decide (r60<0))) rfl (fun c62=>?_) (fun c62=>?_))))))))))))))))
         ·replace h0:=ip c62 h0
          refine Aw (Ar (st (Ff tv (Cz (Cb ⟨[(2,.bool false)],[],[]⟩ (Cj (by kernel_rfl)) ?_)))))
          obtain rfl:=sj h0
          exact Hj (Dk rfl rfl rfl rfl rfl tv)
         ·replace h0:=Kn c62 h0
          refine Hb (Cb ⟨[(9,Ah 2115 r39.2),(12,iV r39.1),(13,iV r60)],[],[]⟩ (Cj (by kernel_rfl)) (Aw (Ar (st (Bm rfl tv (st (Bm rfl tv ?_)))))))
          obtain ⟨r63,e64,h0⟩:=bnd h0
          refine st (Cq (r:=iV r63) false (H449 r39.2 r60 r63 e64) ⟨tv,tv,tv⟩ rfl rfl (fun _=>rfl) (st (Bm rfl tv (Cz (Cb ⟨[(12,iV r39.1),(13,iV r63)],[],[]⟩ (Cj (by kernel_rfl)) (Aw (Aw (Ar (st (Bm rfl tv (st (c_ (Bn t3 rfl tv) (Cz (Cb ⟨[(12,iV r39.1),(13,iV r63),(129,.bool (decide (r63<0)))],[],[]⟩ (Cj (by kernel_rfl)) (Gk (cb:=(decide (r63<0))) rfl (fun c65=>?_) (fun c65=>?_))))))))))))))))
          ·replace h0:=ip c65 h0
           refine Aw (Ar (st (Ff tv (Cz (Cb ⟨[(2,.bool false)],[],[]⟩ (Cj (by kernel_rfl)) ?_)))))
           obtain rfl:=sj h0
           exact Hj (Dk rfl rfl rfl rfl rfl tv)
          ·replace h0:=Kn c65 h0
           refine Hb (Cb ⟨[(12,iV r39.1),(13,iV r63)],[],[]⟩ (Cj (by kernel_rfl)) (Aw (Aw (Ar (st (Bm rfl tv (st (Bm rfl tv (st (c_ (Bn t3 rfl tv) (Cz (Cb ⟨[(132,.bool (r63 != r39.1))],[],[]⟩ (Cj (by kernel_rfl)) (Gk (cb:=(r63 != r39.1)) rfl (fun c66=>?_) (fun c66=>?_))))))))))))))
           ·replace h0:=ip c66 h0
            refine Aw (Ar (st (Ff tv (Cz (Cb ⟨[(2,.bool false)],[],[]⟩ (Cj (by kernel_rfl)) ?_)))))
            obtain rfl:=sj h0
            exact Hj (Dk rfl rfl rfl rfl rfl tv)
           ·replace h0:=Kn c66 h0
            refine Hb (Cb ⟨[],[],[]⟩ (Cj (by kernel_rfl)) (Aw (Ar (st (Ff tv (Cz (Cb ⟨[(2,.bool true)],[],[]⟩ (Cj (by kernel_rfl)) ?_)))))))
            obtain rfl:=sj h0
            exact Hj (Dk rfl rfl rfl rfl rfl tv)
end Go.Ev
