/- Texts. -/
import Derived.Test.YtlfclppjhkeljaaGreatPwhSo0
import Derived.Test.YtlfclppjhkeljaaGreatPwhVeT
set_option linter.all false
open Int renaming tdiv→Y3
open List renaming replicate→Ym
open Sum renaming inl→Yu,inr→Yr,elim→YR
set_option maxRecDepth 100000
namespace Go.Vd
noncomputable section
def ZdC(x:Int×Int):List Value:=[.int .i64 x.1,.int .i64 x.2]
def ZH(x:Int×Int×Int):List Value:=[.int .i64 x.1,.int .i64 x.2.1,.int .i64 x.2.2]
def Zaf(x:Int×Int×Int):List Value:=[.int .i64 x.1,.int .i64 x.2.1,.int .u64 x.2.2]
def Zad(x:Int×Int):List Value:=[.int .i64 x.1,.int .u64 x.2]
def Zc(x:Int×Int×Int):List Value:=[.int .i64 x.1,.int .u64 x.2.1,.int .i64 x.2.2]
def Zh(x:Int×Int×Int×Int):List Value:=[.int .u32 x.1,.int .u64 x.2.1,.int .u32 x.2.2.1,.int .u32 x.2.2.2]
def Z9(x:Int×Int×Int×Int×Int×Int×Int):List Value:=[.int .u32 x.1,.int .u64 x.2.1,.int .u32 x.2.2.1,.int .u32 x.2.2.2.1,.int .i64 x.2.2.2.2.1,.int .i64 x.2.2.2.2.2.1,.int .i64 x.2.2.2.2.2.2]
def ZG(x:Int×Int):List Value:=[.int .u64 x.1,.int .i64 x.2]
def ZW(x:Int×Int×Int):List Value:=[.int .u64 x.1,.int .i64 x.2.1,.int .i64 x.2.2]
def ZV(x:Int×Int):List Value:=[.int .u64 x.1,.int .u32 x.2]
def ZdQ(x:Int)(O:Int):Option (Bool):=
 if x≥0 then (some (decide (x<O))) else (some false)
def ZeN(Z:Int)(aa:Int)(O:Int)(V:Int):Option (Er):=
 ((((ZdQ Z V).bind λac=>if ac=true then (((ZdQ aa V).bind λad=>some (!ad))) else (some true)):Option (Bool)).bind λab=>if ab=true then (some (Er.no 7)) else (if O<0 then (some (Er.no 8)) else (if O>2147483647 then (some (Er.no 8)) else (some Er.nil))))
def ZaA(V:Int)(at_:Int)(O:Er):Option (Er):=
 if O=Er.nil then (some Er.nil) else (some (Er.at V at_ O))
def Zc9(Z:Int)(Arcs:Yd)(O:Int):Option ((Int)⊕((Er)⊕(Unit))):=
 if O<(Arcs.length:Int) then (G (0≤O) (((ZeN ((gt Arcs O).1) ((gt Arcs O).2.1) ((gt Arcs O).2.2) Z).bind λV=>if V=Er.nil then (G ((O+1)≤9223372036854775807) (some (Yu (O+1)))) else (((ZaA 4 O V).bind λaa=>(some aa).map λv=>Yr (Yu v)))))) else (some (Yr (Yr ())))
def Zed(O:Int)(Arcs:Yd):Option (Er):=
 ((if O<0 then (some true) else (if O>65536 then (some true) else (some (decide ((Arcs.length:Int)>262144)))):Option (Bool)).bind λV=>if V=true then (some (Er.no 9)) else (((ZB (λzz_=>Zc9 O Arcs zz_) 0).bind (YR some λZ=>some Er.nil))))
def ZeR(x:Int):Option (Bool):=
 some (!decide (x=x))
def ZcK(x:Int)(y:Int):Option (Int):=
 ((ZeR x).bind λV=>((ZeR y).bind λO=>if V=true then (if O=true then (some 0) else (some (-1))) else (if O=true then (some 1) else (if x<y then (some (-1)) else (if x>y then (some 1) else (some 0))))))
def Zc0(V:Yg)(O:Int):Option ((Int)⊕((Int)⊕(Unit))):=
 if O<(V.length:Int) then (G (0≤O) (if (gt V O)=0 then (G ((O+1)≤9223372036854775807) (some (Yu (O+1)))) else ((some (gt V O)).map λv=>Yr (Yu v)))) else (some (Yr (Yr ())))
def Zf8(O:Yg):Option (Int):=
 ((ZB (λzz_=>Zc0 O zz_) 0).bind (YR some λV=>some 0))
def Zcg(O:Int)(Z:Int)(ab:Int)(V:Int)(aa:Int)(ac:Int):Option (Int):=
 ((ZcK O V).bind λad=>((ZcK Z aa).bind λae=>((ZcK ab ac).bind λaf=>((Zf8 [ad,ae,af]).bind λag=>some ag))))
def Zdq(O:Int)(Z:Int)(ab:Int)(V:Int)(aa:Int)(ac:Int):Option (Bool):=
 if O=V then (some (decide (Z=aa))) else (some false)
def Zbe(k3:Int)(V:Yd)(k1:Int)(O:Int):Option ((Yd×Int×Int)⊕(Yd×Int)):=
 if O<((V.drop k3.toNat).length:Int) then (G (0≤O) (G (-9223372036854775808≤(O-1)/\(O-1)≤9223372036854775807) (G (0≤(O-1)/\(O-1)<((V.drop k3.toNat).length:Int)) (((Zdq ((gt (V.drop k3.toNat) O).1) ((gt (V.drop k3.toNat) O).2.1) ((gt (V.drop k3.toNat) O).2.2) ((gt (V.drop k3.toNat) (O-1)).1) ((gt (V.drop k3.toNat) (O-1)).2.1) ((gt (V.drop k3.toNat) (O-1)).2.2)).bind λZ=>if (!Z)=true then (G (0≤k1/\k1<(V.length:Int)) (G ((k1+1)≤9223372036854775807) (G ((O+1)≤9223372036854775807) (some (Yu ((V.set k1.toNat ((gt (V.drop k3.toNat) O).1,(gt (V.drop k3.toNat) O).2.1,(gt (V.drop k3.toNat) O).2.2)),(k1+1),(O+1))))))) else (G ((O+1)≤9223372036854775807) (some (Yu (V,k1,(O+1)))))))))) else (some (Yr (V,k1)))
def Zbd(s:Yd)(k3:Int):Option ((Int)⊕((Yd×Yd)⊕(Unit))):=
 if k3<(s.length:Int) then (G (0≤k3) (G (-9223372036854775808≤(k3-1)/\(k3-1)≤9223372036854775807) (G (0≤(k3-1)/\(k3-1)<(s.length:Int)) (((Zdq ((gt s k3).1) ((gt s k3).2.1) ((gt s k3).2.2) ((gt s (k3-1)).1) ((gt s (k3-1)).2.1) ((gt s (k3-1)).2.2)).bind λV=>if V=true then (G (0≤k3/\k3≤(s.length:Int)) (((ZB (λzz_=>Zbe k3 zz_.1 zz_.2.1 zz_.2.2) (s,k3,1)).bind λO=>G (0≤O.2/\O.2≤(O.1.length:Int)) (G ((0:Int)<(O.1.length:Int)) (G (0≤O.2/\O.2≤((O.1.take O.2.toNat++Ym (O.1.length-O.2.toNat) ((0,0,0):Int×Int×Int)).length:Int)) ((some (((O.1.take O.2.toNat++Ym (O.1.length-O.2.toNat) ((0,0,0):Int×Int×Int)).take O.2.toNat),(O.1.take O.2.toNat++Ym (O.1.length-O.2.toNat) ((0,0,0):Int×Int×Int)))).map λv=>Yr (Yu v))))))) else (G ((k3+1)≤9223372036854775807) (some (Yu (k3+1))))))))) else (some (Yr (Yr ())))
def ZbP(s:Yd):Option (Yd×Yd):=
 if (s.length:Int)<2 then (some (s,s)) else (((ZB (λzz_=>Zbd s zz_) 1).bind (YR some λO=>some (s,s))))
def ZdT(Arcs:Yd)(O:Int)(c1:Yd):Option ((Int×Yd)⊕(Yd)):=
 if O<(Arcs.length:Int) then (G (0≤O) (if ((gt Arcs O).1)=((gt Arcs O).2.1) then (G ((O+1)≤9223372036854775807) (some (Yu ((O+1),c1)))) else (G (c1.length+1≤9382499223278) (G ((O+1)≤9223372036854775807) (some (Yu ((O+1),(c1++[((gt Arcs O).1,(gt Arcs O).2.1,(gt Arcs O).2.2)])))))))) else (some (Yr c1))
def ZeM(O:Int)(Arcs:Yd):Option (Int×Yd×Er):=
 ((Zed O Arcs).bind λZ=>if Z=Er.nil then (((ZB (λzz_=>ZdT Arcs zz_.1 zz_.2) (0,[])).bind λV=>G (V.length≤1000000000000) (((ZeS (λ(a_ b_:Int×Int×Int)=>Zcg a_.1 a_.2.1 a_.2.2 b_.1 b_.2.1 b_.2.2) V).bind λaa=>((ZbP aa).bind λab=>some (O,ab.1,Er.nil)))))) else (some (0,[],Z)))
def Zda(V:Int×Yd×Er)(O:Int)(Z:Yh):Option ((Int×Yh)⊕(Yh)):=
 if O<(V.2.1.length:Int) then (G (0≤O) (G (0≤(gt V.2.1 O).1/\(gt V.2.1 O).1<(Z.length:Int)) (G (0≤(gt V.2.1 O).2.2/\(gt V.2.1 O).2.2≤18446744073709551615) (G (((gt Z ((gt V.2.1 O).1)).2.1).length+1≤9382499223278) (G (0≤(gt V.2.1 O).2.1/\(gt V.2.1 O).2.1<((Z.set ((gt V.2.1 O).1).toNat ((gt Z ((gt V.2.1 O).1)).1,((gt Z ((gt V.2.1 O).1)).2.1++[((gt V.2.1 O).2.1,(gt V.2.1 O).2.2,(-1))]),(gt Z ((gt V.2.1 O).1)).2.2)).length:Int)) (G ((gt V.2.1 O).2.2≤18446744073709551615) (G (((gt (Z.set ((gt V.2.1 O).1).toNat ((gt Z ((gt V.2.1 O).1)).1,((gt Z ((gt V.2.1 O).1)).2.1++[((gt V.2.1 O).2.1,(gt V.2.1 O).2.2,(-1))]),(gt Z ((gt V.2.1 O).1)).2.2)) ((gt V.2.1 O).2.1)).2.2).length+1≤9382499223278) (G ((O+1)≤9223372036854775807) (some (Yu ((O+1),((Z.set ((gt V.2.1 O).1).toNat ((gt Z ((gt V.2.1 O).1)).1,((gt Z ((gt V.2.1 O).1)).2.1++[((gt V.2.1 O).2.1,(gt V.2.1 O).2.2,(-1))]),(gt Z ((gt V.2.1 O).1)).2.2)).set ((gt V.2.1 O).2.1).toNat ((gt (Z.set ((gt V.2.1 O).1).toNat ((gt Z ((gt V.2.1 O).1)).1,((gt Z ((gt V.2.1 O).1)).2.1++[((gt V.2.1 O).2.1,(gt V.2.1 O).2.2,(-1))]),(gt Z ((gt V.2.1 O).1)).2.2)) ((gt V.2.1 O).2.1)).1,(gt (Z.set ((gt V.2.1 O).1).toNat ((gt Z ((gt V.2.1 O).1)).1,((gt Z ((gt V.2.1 O).1)).2.1++[((gt V.2.1 O).2.1,(gt V.2.1 O).2.2,(-1))]),(gt Z ((gt V.2.1 O).1)).2.2)) ((gt V.2.1 O).2.1)).2.1,((gt (Z.set ((gt V.2.1 O).1).toNat ((gt Z ((gt V.2.1 O).1)).1,((gt Z ((gt V.2.1 O).1)).2.1++[((gt V.2.1 O).2.1,(gt V.2.1 O).2.2,(-1))]),(gt Z ((gt V.2.1 O).1)).2.2)) ((gt V.2.1 O).2.1)).2.2++[((gt V.2.1 O).1,(gt V.2.1 O).2.2,(-1))])))))))))))))) else (some (Yr Z))
def Zdp(V:Int)(Arcs:Yd):Option ((Er)⊕(Yh×Int×Int)):=
 ((ZeM V Arcs).bind λO=>if O.2.2=Er.nil then (G (0≤O.1/\56*O.1≤281474976710656) (((ZB (λzz_=>Zda O zz_.1 zz_.2) (0,(Ym O.1.toNat (false,[],[])))).bind λZ=>some (Yr (Z,O.1,(O.2.1.length:Int)))))) else (some (Yu O.2.2)))
def Zb4(V:Int)(low:Int)(O:Int):Option (Int):=
 some (max low (min V O))
def Ze9(Hops:Int)(Settles:Int)(Z:Int)(O:Int)(V:Int):Option (Int×Int×Int×Int×Int):=
 ((Zb4 Hops 0 1048576).bind λaa=>((Zb4 Settles 0 1048576).bind λab=>((Zb4 Z (-1000) 1000).bind λac=>((Zb4 O (-1000) 1000).bind λad=>((Zb4 V (-1000) 1000).bind λae=>some (aa,ab,ac,ad,ae))))))
def Zec(ac:Int)(Arcs:Yd)(Hops:Int)(Settles:Int)(ab:Int)(Z:Int)(aa:Int):Option (Int×Int×Int×Int×Int×Yh×Int×Int):=
 ((Zdp ac Arcs).bind (YR (λ(_:Er)=>none) (λ(V:Yh×Int×Int)=>((Ze9 Hops Settles ab Z aa).bind λO=>some (O.1,O.2.1,O.2.2.1,O.2.2.2.1,O.2.2.2.2,V.1,V.2.1,V.2.2)))))
def Zcf(list:Yg)(Z:Int)(O:Int)(V:Yg):Option ((Int×Yg)⊕((Er)⊕(Unit))):=
 if O<(list.length:Int) then (G (0≤O) (((if (gt list O)<0 then (some true) else (if (gt list O)≥Z then (some true) else (G (0≤(gt list O)/\(gt list O)<(V.length:Int)) (some (decide ((gt V (gt list O))>0))))):Option (Bool)).bind λaa=>if aa=true then (((ZaA 3 O (Er.no 20)).bind λab=>(some ab).map λv=>Yr (Yu v))) else (G (0≤(gt list O)/\(gt list O)<(V.length:Int)) (G ((O+1)≤9223372036854775807) (some (Yu ((O+1),(V.set (gt list O).toNat 1))))))))) else (some (Yr (Yr ())))
def Zb2(list:Yg)(O:Int):Option (Er):=
 if (list.length:Int)=O then (G (0≤O/\8*O≤281474976710656) (((ZB (λzz_=>Zcf list O zz_.1 zz_.2) (0,(Ym O.toNat (0:Int)))).bind (YR some λV=>some Er.nil)))) else (some (Er.no 20))
def ZR(V:Yh)(Z:Int)(aa:Int)(O:Int):Option (Bool):=
 if O≥0 then (if O<(V.length:Int) then (G (0≤O) (some (!(gt V O).1))) else (some false)) else (some false)
def Zc3(s:Yd):Option (Yd):=
 G (([]:Yd).length+s.length≤9382499223278) (some (([]:Yd)++s))
def Zao(V:Yh)(Z:Int)(aa:Int)(O:Int):Option (Yd):=
 ((ZR V Z aa O).bind λac=>if (!ac)=true then (some []) else (G (0≤O/\O<(V.length:Int)) (((Zc3 ((gt V O).2.1)).bind λab=>some ab))))
def Zdw(l:Yd)(V:Yd)(O:Int):Option ((Yd×Int)⊕(Yd)):=
 if O<(l.length:Int) then (G (0≤O) (G (V.length+1≤9382499223278) (G ((O+1)≤9223372036854775807) (some (Yu ((V++[((gt l O).1,(gt l O).2.1,(gt l O).2.2)]),(O+1))))))) else (some (Yr V))
def ZdR(l:Yd):Option (Yd):=
 ((ZB (λzz_=>Zdw l zz_.1 zz_.2) ([],0)).bind λO=>some O)
def ZaM(V:Yh)(Z:Int)(aa:Int)(O:Int):Option (Yd):=
 ((ZR V Z aa O).bind λac=>if (!ac)=true then (some []) else (G (0≤O/\O<(V.length:Int)) (((Zc3 ((gt V O).2.2)).bind λab=>some ab))))
def ZeF(O:Yh)(V:Int)(Z:Int)(aa:Int):Option (Er):=
 ((ZR O V Z aa).bind λab=>if (!ab)=true then (some (Er.no 7)) else (some Er.nil))
def Zcv(O:Int):Option (Int):=
 some (min (max O 0) 1048576)
def Zd3(Hops:Int)(Settles:Int)(ab:Int)(Z:Int)(aa:Int):Option (Int×Int):=
 ((Zcv Hops).bind λO=>((Zcv Settles).bind λV=>some (O,V)))
def ZcX(aa:Yh)(ab:Int)(ac:Int)(ad:Int)(ae:Int)(O:Yf)(af:Int->Option (Int×Int×Int))(V:Int)(Z:Int):Option (Yf):=
 G (O.length+1≤14073748835123) (some (O++[(V,Z)]))
def Zbl(q:Yf):Option (Int):=
 some (q.length:Int)
def Zat(q:Yf)(i:Int)(j:Int):Option (Bool):=
 G (0≤i/\i<(q.length:Int)) (G (0≤j/\j<(q.length:Int)) (if ((gt q i).1)<((gt q j).1) then (some true) else (if ((gt q i).1)=((gt q j).1) then (some (decide (((gt q i).2)<((gt q j).2)))) else (some false))))
def Zaw(q:Yf)(i:Int)(j:Int):Option (Yf):=
 G (0≤j/\j<(q.length:Int)) (G (0≤i/\i<(q.length:Int)) (G (j<((q.set i.toNat ((gt q j).1,(gt q j).2)).length:Int)) (some ((q.set i.toNat ((gt q j).1,(gt q j).2)).set j.toNat ((gt q i).1,(gt q i).2)))))
def Zbv(V:Yf)(O:Int):Option ((Yf×Int)⊕(Yf)):=
 G (-9223372036854775808≤(O-1)/\(O-1)≤9223372036854775807) (G (-9223372036854775808≤(Y3 (O-1) 2)/\(Y3 (O-1) 2)≤9223372036854775807) (((if (Y3 (O-1) 2)=O then (some true) else (((Zat V O (Y3 (O-1) 2)).bind λaa=>some (!aa))):Option (Bool)).bind λZ=>if Z=true then (some (Yr V)) else (((Zaw V (Y3 (O-1) 2) O).bind λab=>some (Yu (ab,(Y3 (O-1) 2))))))))
def Zcb(Z:Yh)(aa:Int)(ab:Int)(ac:Int)(ad:Int)(O:Yf)(ae:Int->Option (Int×Int×Int))(j:Int):Option (Yf):=
 ((ZB (λzz_=>Zbv zz_.1 zz_.2) (O,j)).bind λV=>some V)
def ZbA(V:Yh)(Z:Int)(aa:Int)(ab:Int)(ac:Int)(ag:Yf)(ad:Int->Option (Int×Int×Int))(af:Int)(ah:Int):Option (Yf):=
 ((ZcX V Z aa ab ac ag ad af ah).bind λae=>((Zbl ae).bind λO=>G (-9223372036854775808≤(O-1)/\(O-1)≤9223372036854775807) (((Zcb V Z aa ab ac ae ad (O-1)).bind λai=>some ai))))
def ZbB(ab:Yh)(ac:Int)(ad:Int)(ae:Int)(af:Int)(ag:Yf)(Z:Int->Option (Int×Int×Int))(V:Int)(O:Int)(hops:Int)(aa:Int):Option ((Int->Option (Int×Int×Int))×Yf):=
 ((ZbA ab ac ad ae af ag (λx=>if x=V then some (O,hops,aa) else Z x) O V).bind λah=>some ((λx=>if x=V then some (O,hops,aa) else Z x),ah))
def ZaX(aa:Int)(V:Yf)(O:Int):Option ((Yf×Int)⊕(Int×Yf)):=
 G (-9223372036854775808≤(2*O)/\(2*O)≤9223372036854775807) (G (-9223372036854775808≤((2*O)+1)/\((2*O)+1)≤9223372036854775807) (((if ((2*O)+1)≥aa then (some true) else (some (decide (((2*O)+1)<0))):Option (Bool)).bind λab=>if ab=true then (some (Yr (O,V))) else (G (-9223372036854775808≤(((2*O)+1)+1)/\(((2*O)+1)+1)≤9223372036854775807) (((if (((2*O)+1)+1)<aa then (((Zat V (((2*O)+1)+1) ((2*O)+1)).bind λad=>some ad)) else (some false):Option (Bool)).bind λac=>((if ac=true then (some (((2*O)+1)+1)) else (some ((2*O)+1)):Option (Int)).bind λZ=>((Zat V Z O).bind λae=>if (!ae)=true then (some (Yr (O,V))) else (((Zaw V O Z).bind λaf=>some (Yu (af,Z))))))))))))
def ZbD(ab:Yh)(ac:Int)(ad:Int)(ae:Int)(af:Int)(Z:Yf)(ag:Int->Option (Int×Int×Int))(O:Int)(aa:Int):Option (Bool×Yf):=
 ((ZB (λzz_=>ZaX aa zz_.1 zz_.2) (Z,O)).bind λV=>some ((decide (V.1>O)),V.2))
def Zdk(V:Yh)(Z:Int)(aa:Int)(ab:Int)(ac:Int)(O:Yf)(ad:Int->Option (Int×Int×Int)):Option (Int×Int×Yf):=
 G (-9223372036854775808≤((O.length:Int)-1)/\((O.length:Int)-1)≤9223372036854775807) (G (0≤((O.length:Int)-1)/\((O.length:Int)-1)<(O.length:Int)) (G (0≤((O.length:Int)-1)/\((O.length:Int)-1)≤(O.length:Int)) (some ((gt O ((O.length:Int)-1)).1,(gt O ((O.length:Int)-1)).2,(O.take ((O.length:Int)-1).toNat)))))
def ZbR(Z:Yh)(aa:Int)(ab:Int)(ac:Int)(ad:Int)(ae:Yf)(af:Int->Option (Int×Int×Int)):Option (Int×Int×Yf×Yf):=
 ((Zbl ae).bind λO=>G (-9223372036854775808≤(O-1)/\(O-1)≤9223372036854775807) (((Zaw ae 0 (O-1)).bind λah=>((ZbD Z aa ab ac ad ah af 0 (O-1)).bind λag=>((Zdk Z aa ab ac ad ag.2 af).bind λV=>some (V.1,V.2.1,ag.2,V.2.2))))))
def Zbs(aa:Yh)(ab:Int)(ac:Int)(ad:Int)(ae:Int)(V:Int->Option (Int×Int×Int))(Z:Yf):Option ((Yf)⊕((Int×Int×Int×Int×Bool×Yf)⊕(Yf))):=
 if (Z.length:Int)>0 then (((ZbR aa ab ac ad ae Z V).bind λO=>if (((V O.2.1).getD ((0,0,0):Int×Int×Int)).2.2)=0 then (if (((V O.2.1).getD ((0,0,0):Int×Int×Int)).1)=O.1 then ((some (O.2.1,((V O.2.1).getD ((0,0,0):Int×Int×Int)).1,((V O.2.1).getD ((0,0,0):Int×Int×Int)).2.1,((V O.2.1).getD ((0,0,0):Int×Int×Int)).2.2,true,O.2.2.2)).map λv=>Yr (Yu v)) else (some (Yu O.2.2.2))) else (some (Yu O.2.2.2)))) else (some (Yr (Yr Z)))
def Zb9(V:Yh)(Z:Int)(aa:Int)(ab:Int)(ac:Int)(ad:Yf)(ae:Int->Option (Int×Int×Int)):Option (Int×Int×Int×Int×Bool×Yf):=
 ((ZB (λzz_=>Zbs V Z aa ab ac ae zz_) ad).bind (YR some λO=>some (0,0,0,0,false,O)))
def Za4(af:Yh)(ag:Int)(ah:Int)(ac:Int)(ai:Int)(aa:Int)(hops:Int)(V:Yd)(ab:Yf)(Z:Int->Option (Int×Int×Int))(O:Int):Option ((Yf×(Int->Option (Int×Int×Int))×Int)⊕((Int->Option (Int×Int×Int))×Yf)):=
 if O<(V.length:Int) then (G (0≤O) (G (0≤(aa+((gt V O).2.1))/\(aa+((gt V O).2.1))≤18446744073709551615) (G (-9223372036854775808≤(hops+1)/\(hops+1)≤9223372036854775807) (((if ((gt V O).1)=ac then (some true) else (if (((Z ((gt V O).1)).getD ((0,0,0):Int×Int×Int)).2.2)>0 then (some true) else (if (Z ((gt V O).1)).isSome=true then (some (decide ((((Z ((gt V O).1)).getD ((0,0,0):Int×Int×Int)).1)≤(aa+((gt V O).2.1))))) else (some false))):Option (Bool)).bind λae=>if ae=true then (G ((O+1)≤9223372036854775807) (some (Yu (ab,Z,(O+1))))) else (((ZbB af ag ah ac ai ab Z ((gt V O).1) (aa+((gt V O).2.1)) (hops+1) 0).bind λad=>G ((O+1)≤9223372036854775807) (some (Yu (ad.2,ad.1,(O+1))))))))))) else (some (Yr (Z,ab)))
def ZbH(aa:Yh)(ab:Int)(ac:Int)(ag:Int)(ad:Int)(ae:Yf)(af:Int->Option (Int×Int×Int))(V:Int)(O:Int)(hops:Int)(ai:Int):Option ((Int->Option (Int×Int×Int))×Yf):=
 if hops≥ad then (some ((λx=>if x=V then some (O,hops,1) else af x),ae)) else (((Zao aa ab ac V).bind λah=>((ZB (λzz_=>Za4 aa ab ac ag ad O hops ah zz_.1 zz_.2.1 zz_.2.2) (ae,(λx=>if x=V then some (O,hops,1) else af x),0)).bind λZ=>some (Z.1,Z.2))))
def ZbI(ab:Yh)(ac:Int)(ad:Int)(ae:Int)(af:Int)(most:Int)(settles:Int)(aa:Yf)(Z:Int->Option (Int×Int×Int))(V:Int):Option ((Yf×(Int->Option (Int×Int×Int))×Int)⊕(((Int->Option (Int×Int×Int))×Yf)⊕((Int->Option (Int×Int×Int))×Yf))):=
 if V<(max 0 settles) then (((Zb9 ab ac ad ae af aa Z).bind λO=>((if (!O.2.2.2.2.1)=true then (some true) else (some (decide (O.2.1>most))):Option (Bool)).bind λah=>if ah=true then ((some (Z,O.2.2.2.2.2)).map λv=>Yr (Yu v)) else (((ZbH ab ac ad ae af O.2.2.2.2.2 Z O.1 O.2.1 O.2.2.1 O.2.2.2.1).bind λag=>G (-9223372036854775808≤(V+1)/\(V+1)≤9223372036854775807) (some (Yu (ag.2,ag.1,(V+1))))))))) else (some (Yr (Yr (Z,aa))))
def Zcy(V:Yh)(Z:Int)(aa:Int)(ab:Int)(ac:Int)(ae:Yf)(af:Int->Option (Int×Int×Int))(u:Int)(most:Int)(settles:Int):Option ((Int->Option (Int×Int×Int))×Yf):=
 ((ZbB V Z aa ab ac ae af u 0 0 0).bind λad=>((ZB (λzz_=>ZbI V Z aa ab ac most settles zz_.1 zz_.2.1 zz_.2.2) (ad.2,ad.1,0)).bind (YR some λO=>some (O.1,O.2))))
def ZcT(V:Yh)(Z:Int)(aa:Int)(goals:Yg)(O:Int):Option ((Int)⊕((Yg×Er)⊕(Unit))):=
 if O<(goals.length:Int) then (G (0≤O) (((ZR V Z aa (gt goals O)).bind λab=>if (!ab)=true then (((ZaA 3 O (Er.no 7)).bind λac=>(some ([],ac)).map λv=>Yr (Yu v))) else (G ((O+1)≤9223372036854775807) (some (Yu (O+1))))))) else (some (Yr (Yr ())))
def ZcU(goals:Yg)(Z:(Int->Option (Int×Int×Int))×Yf)(V:Yg)(O:Int):Option ((Yg×Int)⊕(Yg)):=
 if O<(goals.length:Int) then (G (0≤O) (if (Z.1 (gt goals O)).isSome=true then (G (V.length + [((Z.1 (gt goals O)).getD ((0,0,0):Int×Int×Int)).1].length≤28147497670656) (G ((O+1)≤9223372036854775807) (some (Yu ((V++[((Z.1 (gt goals O)).getD ((0,0,0):Int×Int×Int)).1]),(O+1)))))) else (G (V.length+1≤28147497670656) (G ((O+1)≤9223372036854775807) (some (Yu ((V++[18446744073709551615]),(O+1)))))))) else (some (Yr V))
def ZdM(O:Yh)(V:Int)(Z:Int)(u:Int)(skip:Int)(goals:Yg)(most:Int)(hops:Int)(settles:Int):Option (Yg×Er):=
 ((ZR O V Z u).bind λac=>if (!ac)=true then (some ([],(Er.no 7))) else (((ZB (λzz_=>ZcT O V Z goals zz_) 0).bind (YR some λad=>((Zcy O V Z skip hops [] ((λ_=>none):Int->Option (Int×Int×Int)) u most settles).bind λab=>((ZB (λzz_=>ZcU goals ab zz_.1 zz_.2) ([],0)).bind λaa=>some (aa,Er.nil)))))))
def Zdc(O:Int)(aa:Int)(Z:Int)(V:Int):Option (Int):=
 some (IntKind.i64.wrap (O-V))
def ZaF(x:Yd)(target:Int)(V:Int)(O:Int):Option ((Int×Int)⊕(Int)):=
 if O<V then (G (-9223372036854775808≤(O+V)/\(O+V)≤9223372036854775807) (G (0≤(O+V)/\(O+V)≤18446744073709551615) (G (-9223372036854775808≤((O+V) / 2)/\((O+V) / 2)≤9223372036854775807) (G (0≤((O+V) / 2)/\((O+V) / 2)<(x.length:Int)) (((Zdc ((gt x ((O+V) / 2)).1) ((gt x ((O+V) / 2)).2.1) ((gt x ((O+V) / 2)).2.2) target).bind λZ=>if Z<0 then (G ((((O+V) / 2)+1)≤9223372036854775807) (some (Yu (V,(((O+V) / 2)+1))))) else (some (Yu (((O+V) / 2),O))))))))) else (some (Yr O))
def ZbL(x:Yd)(target:Int):Option (Int×Bool):=
 ((ZB (λzz_=>ZaF x target zz_.1 zz_.2) ((x.length:Int),0)).bind λO=>if O<(x.length:Int) then (G (0≤O) (((Zdc ((gt x O).1) ((gt x O).2.1) ((gt x O).2.2) target).bind λV=>some (O,(decide (V=0)))))) else (some (O,false)))
def Zce(l:Yd)(V:Int):Option (Int×Bool):=
 ((ZbL l V).bind λO=>some (O.1,O.2))
def ZaC(O:Yh)(Z:Int)(aa:Int)(u:Int)(w:Int):Option (Int×Bool):=
 ((ZR O Z aa u).bind λab=>if (!ab)=true then (some (0,false)) else (G (0≤u/\u<(O.length:Int)) (((Zce ((gt O u).2.1) w).bind λV=>if (!V.2)=true then (some (0,false)) else (G (0≤V.1/\V.1<(((gt O u).2.1).length:Int)) (some ((gt ((gt O u).2.1) V.1).2.1,true)))))))
def Zcl(ac:Int)(V:Int)(out:Yd)(aa:Yd)(Z:Yg)(ab:Int)(O:Int):Option ((Yd×Yg×Int×Int)⊕(Yd×Yg×Int)):=
 if O<(out.length:Int) then (G (0≤O) (if ((gt out O).1)=ac then (G ((O+1)≤9223372036854775807) (some (Yu (aa,Z,ab,(O+1))))) else (G (Z.length+1≤28147497670656) (G (0≤(V+((gt out O).2.1))/\(V+((gt out O).2.1))≤18446744073709551615) (G ((V+((gt out O).2.1))≤18446744073709551615) (G (aa.length+1≤9382499223278) (G ((O+1)≤9223372036854775807) (some (Yu ((aa++[(ac,(gt out O).1,(V+((gt out O).2.1)))]),(Z++[(gt out O).1]),(max ab (V+((gt out O).2.1))),(O+1))))))))))) else (some (Yr (aa,Z,ab)))
def Zco(ac:Yh)(ad:Int)(ae:Int)(V:Yd×Yg×Int)(aa:Yg×Er)(Z:Yd)(O:Int):Option ((Yd×Int)⊕(Yd)):=
 if O<(V.1.length:Int) then (G (0≤O) (((ZaC ac ad ae ((gt V.1 O).1) ((gt V.1 O).2.1)).bind λab=>if ((gt V.1 O).2.2)≤140737488355328 then (G (O<(aa.1.length:Int)) (if (gt aa.1 O)>((gt V.1 O).2.2) then (if ab.2=true then (if ab.1≤((gt V.1 O).2.2) then (G ((O+1)≤9223372036854775807) (some (Yu (Z,(O+1))))) else (G (Z.length+1≤9382499223278) (G ((O+1)≤9223372036854775807) (some (Yu ((Z++[((gt V.1 O).1,(gt V.1 O).2.1,(gt V.1 O).2.2)]),(O+1))))))) else (G (Z.length+1≤9382499223278) (G ((O+1)≤9223372036854775807) (some (Yu ((Z++[((gt V.1 O).1,(gt V.1 O).2.1,(gt V.1 O).2.2)]),(O+1))))))) else (G ((O+1)≤9223372036854775807) (some (Yu (Z,(O+1))))))) else (G ((O+1)≤9223372036854775807) (some (Yu (Z,(O+1)))))))) else (some (Yr Z))
def Zea(Z:Yh)(aa:Int)(ab:Int)(V:Int)(ad:Int)(ag:Int)(af:Int)(out:Yd)(hops:Int)(settles:Int):Option (Yd):=
 ((ZB (λzz_=>Zcl V ad out zz_.1 zz_.2.1 zz_.2.2.1 zz_.2.2.2) ([],[],0,0)).bind λO=>if (O.2.1.length:Int)=0 then (some []) else (((ZdM Z aa ab V af O.2.1 O.2.2 hops settles).bind λac=>if ac.2=Er.nil then (((ZB (λzz_=>Zco Z aa ab O ac zz_.1 zz_.2) ([],0)).bind λae=>some ae)) else (some []))))
def Zcz(ac:Yh)(ad:Int)(ae:Int)(af:Int)(ab:Int×Int)(ag:Yd)(V:Yd)(Z:Yd)(O:Int):Option ((Yd×Int)⊕(Yd)):=
 if O<(V.length:Int) then (G (0≤O) (((Zea ac ad ae ((gt V O).1) ((gt V O).2.1) ((gt V O).2.2) af ag ab.1 ab.2).bind λaa=>G (Z.length+aa.length≤9382499223278) (G ((O+1)≤9223372036854775807) (some (Yu ((Z++aa),(O+1)))))))) else (some (Yr Z))
def Zdx(O:Yh)(V:Int)(Z:Int)(aa:Int)(Hops:Int)(Settles:Int)(ae:Int)(ac:Int)(ad:Int):Option (Yd×Er):=
 ((ZeF O V Z aa).bind λab=>if ab=Er.nil then (((Zd3 Hops Settles ae ac ad).bind λag=>((Zao O V Z aa).bind λah=>((ZaM O V Z aa).bind λai=>((ZB (λzz_=>Zcz O V Z aa ag ah ai zz_.1 zz_.2) ([],0)).bind λaf=>some (af,Er.nil)))))) else (some ([],ab)))
def ZbY(l:Yd)(V:Int):Option (Yd):=
 ((Zce l V).bind λO=>if (!O.2)=true then (some l) else (G (-9223372036854775808≤(O.1+1)/\(O.1+1)≤9223372036854775807) (G (0≤O.1/\O.1≤(O.1+1)/\(O.1+1)≤(l.length:Int)/\(l.length:Int)≤1000000000) (some (l.take O.1.toNat++l.drop (O.1+1).toNat)))))
def Zaq(Z:Yh)(V:Int)(aa:Yh)(O:Int):Option ((Yh×Int)⊕(Yh)):=
 if O<(((gt Z V).2.1).length:Int) then (G (0≤O) (G (0≤(gt ((gt Z V).2.1) O).1/\(gt ((gt Z V).2.1) O).1<(aa.length:Int)) (G (((gt ((gt Z V).2.1) O).1)≠V) (((ZbY ((gt aa ((gt ((gt Z V).2.1) O).1)).2.2) V).bind λab=>G ((O+1)≤9223372036854775807) (some (Yu ((aa.set ((gt ((gt Z V).2.1) O).1).toNat ((gt aa ((gt ((gt Z V).2.1) O).1)).1,(gt aa ((gt ((gt Z V).2.1) O).1)).2.1,ab)),(O+1))))))))) else (some (Yr aa))
def Zal(Z:Yh)(V:Int)(o2:Yh)(O:Int):Option ((Yh×Int)⊕(Yh)):=
 if O<(((gt Z V).2.2).length:Int) then (G (0≤O) (G (0≤(gt ((gt Z V).2.2) O).1/\(gt ((gt Z V).2.2) O).1<(o2.length:Int)) (G (((gt ((gt Z V).2.2) O).1)≠V) (((ZbY ((gt o2 ((gt ((gt Z V).2.2) O).1)).2.1) V).bind λaa=>G ((O+1)≤9223372036854775807) (some (Yu ((o2.set ((gt ((gt Z V).2.2) O).1).toNat ((gt o2 ((gt ((gt Z V).2.2) O).1)).1,aa,(gt o2 ((gt ((gt Z V).2.2) O).1)).2.2)),(O+1))))))))) else (some (Yr o2))
def Za0(V:Yh)(Z:Int)(aa:Int)(O:Int):Option (Er×Yh×Int×Int):=
 ((ZR V Z aa O).bind λad=>if (!ad)=true then (some ((Er.no 7),V,Z,aa)) else (G (0≤O/\O<(V.length:Int)) (((ZB (λzz_=>Zaq V O zz_.1 zz_.2) (V,0)).bind λac=>((ZB (λzz_=>Zal V O zz_.1 zz_.2) (ac,0)).bind λab=>G (-9223372036854775808≤((((gt V O).2.1).length:Int)+(((gt V O).2.2).length:Int))/\((((gt V O).2.1).length:Int)+(((gt V O).2.2).length:Int))≤9223372036854775807) (G (-9223372036854775808≤(aa-((((gt V O).2.1).length:Int)+(((gt V O).2.2).length:Int)))/\(aa-((((gt V O).2.1).length:Int)+(((gt V O).2.2).length:Int)))≤9223372036854775807) (G (-9223372036854775808≤(Z-1)/\(Z-1)≤9223372036854775807) (G (O<(ab.length:Int)) (some (Er.nil,(ab.set O.toNat (true,[],[])),(Z-1),(aa-((((gt V O).2.1).length:Int)+(((gt V O).2.2).length:Int)))))))))))))
def ZbF(l:Yd)(V:Int)(aa:Int)(Z:Int):Option (Yd):=
 ((Zce l V).bind λO=>if O.2=true then (G (0≤O.1/\O.1<(l.length:Int)) (some (l.set O.1.toNat (V,aa,Z)))) else (G (0≤O.1/\O.1≤(l.length:Int)/\(l.length:Int)≤1000000000) (some (l.take O.1.toNat++([(V,aa,Z)]++l.drop O.1.toNat)))))
def ZbE(O:Yh)(ab:Int)(V:Int)(u:Int)(w:Int)(aa:Int)(via:Int):Option (Bool×Er×Yh×Int):=
 ((((ZR O ab V u).bind λai=>if ai=true then (((ZR O ab V w).bind λaj=>some (!aj))) else (some true)):Option (Bool)).bind λaf=>if af=true then (some (false,(Er.no 7),O,V)) else (if u=w then (some (false,(Er.no 1),O,V)) else (if aa>140737488355328 then (some (false,(Er.no 8),O,V)) else (((if via<(-1) then (some true) else (if via≥(O.length:Int) then (some true) else (if via≥0 then (G (0≤via/\via<(O.length:Int)) (some (!(gt O via).1))) else (some false))):Option (Bool)).bind λag=>if ag=true then (some (false,(Er.no 1),O,V)) else (((ZaC O ab V u w).bind λad=>((if ad.2=true then (some (true,(decide (ad.1≤aa)))) else (some (false,false)):Option (Bool×Bool)).bind λac=>if ac.2=true then (some (false,Er.nil,O,V)) else (((if (!ac.1)=true then (G (-9223372036854775808≤(V+1)/\(V+1)≤9223372036854775807) (some (V+1))) else (some V):Option (Int)).bind λae=>G (0≤u/\u<(O.length:Int)) (((ZbF ((gt O u).2.1) w aa via).bind λZ=>G (0≤w/\w<((O.set u.toNat ((gt O u).1,Z,(gt O u).2.2)).length:Int)) (((ZbF ((gt (O.set u.toNat ((gt O u).1,Z,(gt O u).2.2)) w).2.2) u aa via).bind λah=>some (true,Er.nil,((O.set u.toNat ((gt O u).1,Z,(gt O u).2.2)).set w.toNat ((gt (O.set u.toNat ((gt O u).1,Z,(gt O u).2.2)) w).1,(gt (O.set u.toNat ((gt O u).1,Z,(gt O u).2.2)) w).2.1,ah)),ae)))))))))))))))
def ZbS(ad:Int)(Z:Yd×Er)(ac:Er×Yh×Int×Int)(aa:Yh)(ab:Int)(O:Int):Option ((Yh×Int×Int)⊕((Yd×Er×Yh×Int×Int)⊕(Yh×Int))):=
 if O<(Z.1.length:Int) then (G (0≤O) (((ZbE aa ac.2.2.1 ab ((gt Z.1 O).1) ((gt Z.1 O).2.1) ((gt Z.1 O).2.2) ad).bind λV=>if V.2.1=Er.nil then (G ((O+1)≤9223372036854775807) (some (Yu (V.2.2.1,V.2.2.2,(O+1))))) else ((some ([],V.2.1,V.2.2.1,ac.2.2.1,V.2.2.2)).map λv=>Yr (Yu v))))) else (some (Yr (Yr (aa,ab))))
def Zb0(Z:Yh)(aa:Int)(ab:Int)(ac:Int)(Hops:Int)(Settles:Int)(ag:Int)(ae:Int)(af:Int):Option (Yd×Er×Yh×Int×Int):=
 ((Zdx Z aa ab ac Hops Settles ag ae af).bind λV=>if V.2=Er.nil then (((Za0 Z aa ab ac).bind λO=>if O.1=Er.nil then (((ZB (λzz_=>ZbS ac V O zz_.1 zz_.2.1 zz_.2.2) (O.2.1,O.2.2.2,0)).bind (YR some λad=>some (V.1,Er.nil,ad.1,O.2.2.1,ad.2)))) else (some ([],O.1,O.2.1,O.2.2.1,O.2.2.2)))) else (some ([],V.2,Z,aa,ab)))
def ZaP(V:Yh)(Z:Int)(O:Int):Option (Int):=
 some O
def Zdu(ac:Int)(ae:Int)(af:Int)(ag:Int)(ah:Int)(Z:Yh)(aa:Int)(ab:Int)(ad:Yi)(O:Int):Option (Er):=
 ((ZaP Z aa ab).bind λV=>G (-9223372036854775808≤(O+V)/\(O+V)≤9223372036854775807) (if (O+V)>1048576 then (some (Er.no 9)) else (some Er.nil)))
def Zbm(ag:Int)(ah:Int)(ai:Int)(aj:Int)(ak:Int)(ad:Yh)(ae:Int)(af:Int)(ac:Yi)(ab:Int)(aa:Int):Option (Int×Er×Yh×Int×Int×Yi×Int):=
 ((Zao ad ae af aa).bind λam=>((ZdR am).bind λV=>((ZaM ad ae af aa).bind λan=>((ZdR an).bind λZ=>G (ac.length+1≤4021071095456) (G (-9223372036854775808≤((V.length:Int)+(Z.length:Int))/\((V.length:Int)+(Z.length:Int))≤9223372036854775807) (G (-9223372036854775808≤(ab+((V.length:Int)+(Z.length:Int)))/\(ab+((V.length:Int)+(Z.length:Int)))≤9223372036854775807) (((Zb0 ad ae af aa ag ah ai aj ak).bind λO=>if O.2.1=Er.nil then (((Zdu ag ah ai aj ak O.2.2.1 O.2.2.2.1 O.2.2.2.2 (ac++[(aa,V,Z)]) (ab+((V.length:Int)+(Z.length:Int)))).bind λal=>some (aa,al,O.2.2.1,O.2.2.2.1,O.2.2.2.2,(ac++[(aa,V,Z)]),(ab+((V.length:Int)+(Z.length:Int)))))) else (some (0,O.2.1,O.2.2.1,O.2.2.2.1,O.2.2.2.2,(ac++[(aa,V,Z)]),(ab+((V.length:Int)+(Z.length:Int)))))))))))))
def Zdg(l:Yd)(ranks:Yg)(O:Int)(V:Yc):Option ((Int×Yc)⊕(Yc)):=
 if O<(l.length:Int) then (G (0≤O) (G (0≤(gt l O).1/\(gt l O).1<(ranks.length:Int)) (G (0≤(gt ranks ((gt l O).1))/\(gt ranks ((gt l O).1))≤4294967295) (G (V.length + [((gt ranks ((gt l O).1)),(gt l O).2.1,4294967295,4294967295)].length≤9382499223278) (G ((O+1)≤9223372036854775807) (some (Yu ((O+1),(V++[((gt ranks ((gt l O).1)),(gt l O).2.1,4294967295,4294967295)]))))))))) else (some (Yr V))
def Zb3(l:Yd)(ranks:Yg):Option (Yc):=
 ((ZB (λzz_=>Zdg l ranks zz_.1 zz_.2) (0,[])).bind λO=>some O)
def Zee(x:Int):Option (Bool):=
 some (!decide (x=x))
def Zei(x:Int)(y:Int):Option (Int):=
 ((Zee x).bind λV=>((Zee y).bind λO=>if V=true then (if O=true then (some 0) else (some (-1))) else (if O=true then (some 1) else (if x<y then (some (-1)) else (if x>y then (some 1) else (some 0))))))
def ZdS(O:Int)(ab:Int)(Z:Int)(aa:Int)(x:Int):Option (Int):=
 ((Zei O x).bind λV=>some V)
def Zav(x:Yc)(target:Int)(V:Int)(O:Int):Option ((Int×Int)⊕(Int)):=
 if O<V then (G (-9223372036854775808≤(O+V)/\(O+V)≤9223372036854775807) (G (0≤(O+V)/\(O+V)≤18446744073709551615) (G (-9223372036854775808≤((O+V) / 2)/\((O+V) / 2)≤9223372036854775807) (G (0≤((O+V) / 2)/\((O+V) / 2)<(x.length:Int)) (((ZdS ((gt x ((O+V) / 2)).1) ((gt x ((O+V) / 2)).2.1) ((gt x ((O+V) / 2)).2.2.1) ((gt x ((O+V) / 2)).2.2.2) target).bind λZ=>if Z<0 then (G ((((O+V) / 2)+1)≤9223372036854775807) (some (Yu (V,(((O+V) / 2)+1))))) else (some (Yu (((O+V) / 2),O))))))))) else (some (Yr O))
def ZaI(x:Yc)(target:Int):Option (Int×Bool):=
 ((ZB (λzz_=>Zav x target zz_.1 zz_.2) ((x.length:Int),0)).bind λO=>if O<(x.length:Int) then (G (0≤O) (((ZdS ((gt x O).1) ((gt x O).2.1) ((gt x O).2.2.1) ((gt x O).2.2.2) target).bind λV=>some (O,(decide (V=0)))))) else (some (O,false)))
def ZdA(l:Yc)(O:Yg)(m:Int)(x:Int):Option (Int):=
 G (0≤m/\m<(O.length:Int)) (G ((m+1)≤9223372036854775807) (G (0≤(m+1)/\(m+1)<(O.length:Int)) (G (0≤(gt O m)/\(gt O m)≤(gt O (m+1))/\(gt O (m+1))≤(l.length:Int)) (G (0≤x/\x≤4294967295) (((ZaI ((l.take (gt O (m+1)).toNat).drop (gt O m).toNat) x).bind λV=>G (0≤V.1/\V.1≤4294967295) (G (0≤((gt O m)+V.1)/\((gt O m)+V.1)≤4294967295) (some ((gt O m)+V.1)))))))))
def Zc7(ad:Yg)(ab:Yg)(O:Yc)(aa:Yg)(Z:Yc)(l:Int)(m:Int)(tail:Int)(head:Int):Option (Yc):=
 G ((O.length:Int)≤4294967295) (((ZdA Z aa m tail).bind λV=>G (0≤((O.length:Int)+V)/\((O.length:Int)+V)≤4294967295) (((ZdA (O.set l.toNat ((gt O l).1,(gt O l).2.1,((O.length:Int)+V),(gt O l).2.2.2)) ab m head).bind λac=>some ((O.set l.toNat ((gt O l).1,(gt O l).2.1,((O.length:Int)+V),(gt O l).2.2.2)).set l.toNat ((gt (O.set l.toNat ((gt O l).1,(gt O l).2.1,((O.length:Int)+V),(gt O l).2.2.2)) l).1,(gt (O.set l.toNat ((gt O l).1,(gt O l).2.1,((O.length:Int)+V),(gt O l).2.2.2)) l).2.1,(gt (O.set l.toNat ((gt O l).1,(gt O l).2.1,((O.length:Int)+V),(gt O l).2.2.2)) l).2.2.1,ac))))))
def Zcx(ad:Yg)(ab:Yg)(V:Yc)(aa:Yg)(O:Yc)(l:Int)(m:Int)(tail:Int)(head:Int):Option (Yc):=
 G ((V.length:Int)≤4294967295) (((ZdA O aa m tail).bind λZ=>G (0≤((V.length:Int)+Z)/\((V.length:Int)+Z)≤4294967295) (((ZdA V ab m head).bind λac=>some ((O.set l.toNat ((gt O l).1,(gt O l).2.1,((V.length:Int)+Z),(gt O l).2.2.2)).set l.toNat ((gt (O.set l.toNat ((gt O l).1,(gt O l).2.1,((V.length:Int)+Z),(gt O l).2.2.2)) l).1,(gt (O.set l.toNat ((gt O l).1,(gt O l).2.1,((V.length:Int)+Z),(gt O l).2.2.2)) l).2.1,(gt (O.set l.toNat ((gt O l).1,(gt O l).2.1,((V.length:Int)+Z),(gt O l).2.2.2)) l).2.2.1,ac))))))
def Zba(V:Yi)(O:Int)(Z:Yg):Option ((Int×Yg)⊕(Yg)):=
 if O<(V.length:Int) then (G (0≤O) (G (0≤(gt V O).1/\(gt V O).1<(Z.length:Int)) (G ((O+1)≤9223372036854775807) (some (Yu ((O+1),(Z.set ((gt V O).1).toNat O))))))) else (some (Yr Z))
def Za6(ai:Yi)(ac:Yg)(m2:Yi)(O:Int)(ae:Yg)(af:Yg)(V:Yc)(ag:Yg)(Z:Yc):Option ((Yi×Int×Yg×Yg×Yc×Yg×Yc)⊕(Yi×Yg×Yg×Yc×Yg×Yc)):=
 if O<(ai.length:Int) then (G (0≤O/\O<(m2.length:Int)) (G (0≤(gt m2 O).1/\(gt m2 O).1≤4294967295) (G (ae.length+1≤56294995341721) (G (((gt m2 O).2.1).length≤1000000000000) (((ZeS (Zd6 ac) ((gt m2 O).2.1)).bind λad=>G (((gt m2 O).2.2).length≤1000000000000) (((ZeS (Zd6 ac) ((gt m2 O).2.2)).bind λah=>((Zb3 ad ac).bind λaa=>G (V.length+aa.length≤9382499223278) (((Zb3 ah ac).bind λab=>G (Z.length+ab.length≤9382499223278) (G (0≤((V++aa).length:Int)/\((V++aa).length:Int)≤4294967295) (G (af.length+1≤56294995341721) (G (0≤((Z++ab).length:Int)/\((Z++ab).length:Int)≤4294967295) (G (ag.length+1≤56294995341721) (G ((O+1)≤9223372036854775807) (some (Yu (((m2.set O.toNat ((gt m2 O).1,ad,(gt m2 O).2.2)).set O.toNat ((gt (m2.set O.toNat ((gt m2 O).1,ad,(gt m2 O).2.2)) O).1,(gt (m2.set O.toNat ((gt m2 O).1,ad,(gt m2 O).2.2)) O).2.1,ah)),(O+1),(ae++[(gt m2 O).1]),(af++[((V++aa).length:Int)]),(V++aa),(ag++[((Z++ab).length:Int)]),(Z++ab)))))))))))))))))))) else (some (Yr (m2,ae,af,V,ag,Z)))
def Za5(ab:Yg)(O:Yi×Yg×Yg×Yc×Yg×Yc)(Z:Int)(ac:Yc)(V:Int)(aa:Yc):Option ((Int×Yc)⊕(Yc)):=
 if V<(((gt O.1 Z).2.1).length:Int) then (G (0≤V) (if ((gt ((gt O.1 Z).2.1) V).2.2)≥0 then (G (Z<(O.2.2.1.length:Int)) (G (-9223372036854775808≤(gt O.2.2.1 Z)/\(gt O.2.2.1 Z)≤9223372036854775807) (G (-9223372036854775808≤((gt O.2.2.1 Z)+V)/\((gt O.2.2.1 Z)+V)≤9223372036854775807) (G (0≤((gt O.2.2.1 Z)+V)/\((gt O.2.2.1 Z)+V)<(aa.length:Int)) (G (0≤(gt ((gt O.1 Z).2.1) V).2.2/\(gt ((gt O.1 Z).2.1) V).2.2<(ab.length:Int)) (G (0≤(gt ((gt O.1 Z).2.1) V).1/\(gt ((gt O.1 Z).2.1) V).1<(ab.length:Int)) (((Zc7 O.2.1 O.2.2.1 aa O.2.2.2.2.1 ac ((gt O.2.2.1 Z)+V) (gt ab ((gt ((gt O.1 Z).2.1) V).2.2)) Z (gt ab ((gt ((gt O.1 Z).2.1) V).1))).bind λad=>G ((V+1)≤9223372036854775807) (some (Yu ((V+1),ad))))))))))) else (G ((V+1)≤9223372036854775807) (some (Yu ((V+1),aa)))))) else (some (Yr aa))
def Za9(ab:Yg)(O:Yi×Yg×Yg×Yc×Yg×Yc)(Z:Int)(ac:Yc)(V:Int)(aa:Yc):Option ((Int×Yc)⊕(Yc)):=
 if V<(((gt O.1 Z).2.2).length:Int) then (G (0≤V) (if ((gt ((gt O.1 Z).2.2) V).2.2)≥0 then (G (Z<(O.2.2.2.2.1.length:Int)) (G (-9223372036854775808≤(gt O.2.2.2.2.1 Z)/\(gt O.2.2.2.2.1 Z)≤9223372036854775807) (G (-9223372036854775808≤((gt O.2.2.2.2.1 Z)+V)/\((gt O.2.2.2.2.1 Z)+V)≤9223372036854775807) (G (0≤((gt O.2.2.2.2.1 Z)+V)/\((gt O.2.2.2.2.1 Z)+V)<(aa.length:Int)) (G (0≤(gt ((gt O.1 Z).2.2) V).2.2/\(gt ((gt O.1 Z).2.2) V).2.2<(ab.length:Int)) (G (0≤(gt ((gt O.1 Z).2.2) V).1/\(gt ((gt O.1 Z).2.2) V).1<(ab.length:Int)) (((Zcx O.2.1 O.2.2.1 ac O.2.2.2.2.1 aa ((gt O.2.2.2.2.1 Z)+V) (gt ab ((gt ((gt O.1 Z).2.2) V).2.2)) (gt ab ((gt ((gt O.1 Z).2.2) V).1)) Z).bind λad=>G ((V+1)≤9223372036854775807) (some (Yu ((V+1),ad))))))))))) else (G ((V+1)≤9223372036854775807) (some (Yu ((V+1),aa)))))) else (some (Yr aa))
def ZbQ(ab:Yg)(Z:Yi×Yg×Yg×Yc×Yg×Yc)(O:Int)(aa:Yc)(V:Yc):Option ((Int×Yc×Yc)⊕(Yc×Yc)):=
 if O<(Z.1.length:Int) then (G (0≤O) (((ZB (λzz_=>Za5 ab Z O V zz_.1 zz_.2) (0,aa)).bind λac=>((ZB (λzz_=>Za9 ab Z O ac zz_.1 zz_.2) (0,V)).bind λad=>G ((O+1)≤9223372036854775807) (some (Yu ((O+1),ac,ad))))))) else (some (Yr (aa,V)))
def ZcL(ab:Int)(ad:Int)(ae:Int)(af:Int)(ag:Int)(ah:Yh)(ai:Int)(aj:Int)(V:Yi)(ac:Int):Option (Yg×Yg×Yc×Yg×Yc×Yi):=
 G (0≤(V.length:Int)/\8*(V.length:Int)≤281474976710656) (((ZB (λzz_=>Zba V zz_.1 zz_.2) (0,(Ym V.length (0:Int)))).bind λaa=>((ZB (λzz_=>Za6 V aa zz_.1 zz_.2.1 zz_.2.2.1 zz_.2.2.2.1 zz_.2.2.2.2.1 zz_.2.2.2.2.2.1 zz_.2.2.2.2.2.2) (V,0,[],[0],[],[0],[])).bind λO=>((ZB (λzz_=>ZbQ aa O zz_.1 zz_.2.1 zz_.2.2) (0,O.2.2.2.1,O.2.2.2.2.2)).bind λZ=>some (O.2.1,O.2.2.1,Z.1,O.2.2.2.2.1,Z.2,O.1)))))
def Zcp(list:Yg)(y69:Int×Int×Int×Int×Int×Yh×Int×Int)(V:Int)(Z:Yh)(m2:Int)(aa:Int)(ab:Yi)(ac:Int):Option ((Int×Yh×Int×Int×Yi×Int)⊕((Yg×Yg×Yc×Yg×Yc×Er)⊕(Yh×Int×Int×Yi×Int))):=
 if V<(list.length:Int) then (G (0≤V) (((Zbm y69.1 y69.2.1 y69.2.2.1 y69.2.2.2.1 y69.2.2.2.2.1 Z m2 aa ab ac (gt list V)).bind λO=>if O.2.1=Er.nil then (G ((V+1)≤9223372036854775807) (some (Yu ((V+1),O.2.2.1,O.2.2.2.1,O.2.2.2.2.1,O.2.2.2.2.2.1,O.2.2.2.2.2.2)))) else ((some ([],[],[],[],[],O.2.1)).map λv=>Yr (Yu v))))) else (some (Yr (Yr (Z,m2,aa,ab,ac))))
def ZcJ(Z:Int)(Arcs:Yd)(list:Yg)(Hops:Int)(Settles:Int)(ad:Int)(ab:Int)(ac:Int):Option (Yg×Yg×Yc×Yg×Yc×Er):=
 ((Zec Z Arcs Hops Settles ad ab ac).bind λy69=>((Zb2 list Z).bind λaa=>if aa=Er.nil then (((ZB (λzz_=>Zcp list y69 zz_.1 zz_.2.1 zz_.2.2.1 zz_.2.2.2.1 zz_.2.2.2.2.1 zz_.2.2.2.2.2) (0,y69.2.2.2.2.2.1,y69.2.2.2.2.2.2.1,y69.2.2.2.2.2.2.2,[],0)).bind (YR some λO=>((ZcL y69.1 y69.2.1 y69.2.2.1 y69.2.2.2.1 y69.2.2.2.2.1 O.1 O.2.1 O.2.2.1 O.2.2.2.1 O.2.2.2.2).bind λV=>some (V.1,V.2.1,V.2.2.1,V.2.2.2.1,V.2.2.2.2.1,Er.nil))))) else (some ([],[],[],[],[],aa))))
def Zch(O:Int):Option (Int):=
 some O
def Zb1(V:Int)(at_:Int)(Z:Int)(O:Yf):Option (Int×Yf):=
 G ([(V,at_)].length+O.length≤14073748835123) (some (Z,([(V,at_)]++O)))
def ZaN(V:Int)(Arcs:Yd)(O:Int):Option ((Int)⊕((Int×Yf)⊕(Unit))):=
 if O<(Arcs.length:Int) then (G (0≤O) (((if ((gt Arcs O).1)<0 then (some true) else (if ((gt Arcs O).1)≥V then (some true) else (if ((gt Arcs O).2.1)<0 then (some true) else (some (decide (((gt Arcs O).2.1)≥V))))):Option (Bool)).bind λac=>if ac=true then (((Zch 7).bind λad=>((Zb1 4 O ad []).bind λZ=>(some (Z.1,Z.2)).map λv=>Yr (Yu v)))) else (((if ((gt Arcs O).2.2)<0 then (some true) else (some (decide (((gt Arcs O).2.2)>2147483647))):Option (Bool)).bind λab=>if ab=true then (((Zch 8).bind λae=>((Zb1 4 O ae []).bind λaa=>(some (aa.1,aa.2)).map λv=>Yr (Yu v)))) else (G ((O+1)≤9223372036854775807) (some (Yu (O+1))))))))) else (some (Yr (Yr ())))
def Zbc(O:Int)(Arcs:Yd):Option (Int×Yf):=
 ((if O<0 then (some true) else (if O>65536 then (some true) else (some (decide ((Arcs.length:Int)>262144)))):Option (Bool)).bind λV=>if V=true then (((Zch 9).bind λZ=>some (Z,[]))) else (((ZB (λzz_=>ZaN O Arcs zz_) 0).bind (YR some λaa=>some (0,[])))))
def Zbu(O:Int)(V:Yf):Option (Bool):=
 if O=0 then (some (decide ((V.length:Int)>0))) else (some true)
def Zcu(O:Int)(Arcs:Yd)(most:Int):Option (Bool):=
 ((Zbc O Arcs).bind λV=>((Zbu V.1 V.2).bind λZ=>if Z=true then (some false) else (if O≤most then (some (decide ((Arcs.length:Int)≤2000))) else (some false))))
def Zct(O:Int)(Arcs:Yd)(most:Int):Option (Bool):=
 ((Zcu O Arcs most).bind λV=>if V=true then (some (decide ((Arcs.length:Int)≤200))) else (some false))
def ZaO(l:Yg)(V:Yg)(O:Int):Option ((Yg×Int)⊕(Yg)):=
 if O<(l.length:Int) then (G (0≤O) (G (V.length+1≤28147497670656) (G ((O+1)≤9223372036854775807) (some (Yu ((V++[(gt l O)]),(O+1))))))) else (some (Yr V))
def Zbb(l:Yg):Option (Yg):=
 ((ZB (λzz_=>ZaO l zz_.1 zz_.2) ([],0)).bind λO=>some O)
def Zc4(l:Yg)(O:Int):Option ((Int)⊕((Er)⊕(Unit))):=
 if O<((l.length:Int)-1) then (G (-9223372036854775808≤(O+1)/\(O+1)≤9223372036854775807) (G (0≤(O+1)/\(O+1)<(l.length:Int)) (G (0≤O/\O<(l.length:Int)) (if (gt l (O+1))<(gt l O) then (((ZaA 3 O (Er.no 14)).bind λV=>(some V).map λv=>Yr (Yu v))) else (G ((O+1)≤9223372036854775807) (some (Yu (O+1)))))))) else (some (Yr (Yr ())))
def Zdo(l:Yg)(O:Int):Option (Er):=
 G ((0:Int)<(l.length:Int)) (if (gt l 0)=0 then (G (-9223372036854775808≤((l.length:Int)-1)/\((l.length:Int)-1)≤9223372036854775807) (((ZB (λzz_=>Zc4 l zz_) 0).bind (YR some λV=>G (0≤((l.length:Int)-1)/\((l.length:Int)-1)<(l.length:Int)) (G (-9223372036854775808≤(gt l ((l.length:Int)-1))/\(gt l ((l.length:Int)-1))≤9223372036854775807) (if (gt l ((l.length:Int)-1))=O then (some Er.nil) else (some (Er.no 14)))))))) else (some (Er.no 14)))
def Zdy(l:Yg)(O:Int)(V:Yg):Option ((Int×Yg)⊕((Er)⊕(Unit))):=
 if O<(l.length:Int) then (G (0≤O) (((G (-9223372036854775808≤(gt l O)/\(gt l O)≤9223372036854775807) (if (gt l O)≥(l.length:Int) then (some true) else (G (0≤(gt l O)/\(gt l O)<(V.length:Int)) (some (decide ((gt V (gt l O))>0))))):Option (Bool)).bind λZ=>if Z=true then (((ZaA 3 O (Er.no 20)).bind λaa=>(some aa).map λv=>Yr (Yu v))) else (G (0≤(gt l O)/\(gt l O)<(V.length:Int)) (G ((O+1)≤9223372036854775807) (some (Yu ((O+1),(V.set (gt l O).toNat 1))))))))) else (some (Yr (Yr ())))
def Zeq(l:Yg):Option (Er):=
 G (0≤(l.length:Int)/\8*(l.length:Int)≤281474976710656) (((ZB (λzz_=>Zdy l zz_.1 zz_.2) (0,(Ym l.length (0:Int)))).bind (YR some λO=>some Er.nil)))
def Zff(Z:Yg)(ab:Yg)(aa:Yc)(V:Yg)(O:Yc):Option (Unit):=
 some ()
def ZcP(ok_:Ya->Bool)(V:Yg)(aa:Yc)(O:Int)(ac:Ya)(ab:Int)(Z:Int):Option ((Ya×Int×Int)⊕(Ya×Int)):=
 if Z<(((aa.take (gt V (O+1)).toNat).drop (gt V O).toNat).length:Int) then (G (0≤Z) (G (-9223372036854775808≤(gt ((aa.take (gt V (O+1)).toNat).drop (gt V O).toNat) Z).1/\(gt ((aa.take (gt V (O+1)).toNat).drop (gt V O).toNat) Z).1≤9223372036854775807) (G (ok_ (ac++[(ab,(gt ((aa.take (gt V (O+1)).toNat).drop (gt V O).toNat) Z).1,(gt ((aa.take (gt V (O+1)).toNat).drop (gt V O).toNat) Z).2.1,(gt ((aa.take (gt V (O+1)).toNat).drop (gt V O).toNat) Z).2.2.1,(gt ((aa.take (gt V (O+1)).toNat).drop (gt V O).toNat) Z).2.2.2,O,(gt ((aa.take (gt V (O+1)).toNat).drop (gt V O).toNat) Z).1,O)])=true) (G (-9223372036854775808≤(ab+1)/\(ab+1)≤9223372036854775807) (G ((Z+1)≤9223372036854775807) (some (Yu ((ac++[(ab,(gt ((aa.take (gt V (O+1)).toNat).drop (gt V O).toNat) Z).1,(gt ((aa.take (gt V (O+1)).toNat).drop (gt V O).toNat) Z).2.1,(gt ((aa.take (gt V (O+1)).toNat).drop (gt V O).toNat) Z).2.2.1,(gt ((aa.take (gt V (O+1)).toNat).drop (gt V O).toNat) Z).2.2.2,O,(gt ((aa.take (gt V (O+1)).toNat).drop (gt V O).toNat) Z).1,O)]),(ab+1),(Z+1))))))))) else (some (Yr (ac,ab)))
def ZbZ(ok_:Ya->Bool)(l:Yg)(V:Yg)(aa:Yc)(ac:Ya)(O:Int)(Z:Int):Option ((Ya×Int×Int)⊕(Ya×Int)):=
 if O<(l.length:Int) then (G (0≤O/\O<(V.length:Int)) (G ((O+1)≤9223372036854775807) (G (0≤(O+1)/\(O+1)<(V.length:Int)) (G (0≤(gt V O)/\(gt V O)≤(gt V (O+1))/\(gt V (O+1))≤(aa.length:Int)) (((ZB (λzz_=>ZcP ok_ V aa O zz_.1 zz_.2.1 zz_.2.2) (ac,Z,0)).bind λab=>some (Yu (ab.1,(O+1),ab.2)))))))) else (some (Yr (ac,Z)))
def ZcR(ok_:Ya->Bool)(V:Yg)(aa:Yc)(O:Int)(ac:Ya)(ab:Int)(Z:Int):Option ((Ya×Int×Int)⊕(Ya×Int)):=
 if Z<(((aa.take (gt V (O+1)).toNat).drop (gt V O).toNat).length:Int) then (G (0≤Z) (G (-9223372036854775808≤(gt ((aa.take (gt V (O+1)).toNat).drop (gt V O).toNat) Z).1/\(gt ((aa.take (gt V (O+1)).toNat).drop (gt V O).toNat) Z).1≤9223372036854775807) (G (ok_ (ac++[(ab,(gt ((aa.take (gt V (O+1)).toNat).drop (gt V O).toNat) Z).1,(gt ((aa.take (gt V (O+1)).toNat).drop (gt V O).toNat) Z).2.1,(gt ((aa.take (gt V (O+1)).toNat).drop (gt V O).toNat) Z).2.2.1,(gt ((aa.take (gt V (O+1)).toNat).drop (gt V O).toNat) Z).2.2.2,(gt ((aa.take (gt V (O+1)).toNat).drop (gt V O).toNat) Z).1,O,O)])=true) (G (-9223372036854775808≤(ab+1)/\(ab+1)≤9223372036854775807) (G ((Z+1)≤9223372036854775807) (some (Yu ((ac++[(ab,(gt ((aa.take (gt V (O+1)).toNat).drop (gt V O).toNat) Z).1,(gt ((aa.take (gt V (O+1)).toNat).drop (gt V O).toNat) Z).2.1,(gt ((aa.take (gt V (O+1)).toNat).drop (gt V O).toNat) Z).2.2.1,(gt ((aa.take (gt V (O+1)).toNat).drop (gt V O).toNat) Z).2.2.2,(gt ((aa.take (gt V (O+1)).toNat).drop (gt V O).toNat) Z).1,O,O)]),(ab+1),(Z+1))))))))) else (some (Yr (ac,ab)))
def ZbW(ok_:Ya->Bool)(l:Yg)(V:Yg)(Z:Yc)(ab:Ya)(ac:Int)(O:Int):Option ((Ya×Int×Int)⊕(Ya)):=
 if O<(l.length:Int) then (G (0≤O/\O<(V.length:Int)) (G ((O+1)≤9223372036854775807) (G (0≤(O+1)/\(O+1)<(V.length:Int)) (G (0≤(gt V O)/\(gt V O)≤(gt V (O+1))/\(gt V (O+1))≤(Z.length:Int)) (((ZB (λzz_=>ZcR ok_ V Z O zz_.1 zz_.2.1 zz_.2.2) (ab,ac,0)).bind λaa=>some (Yu (aa.1,aa.2,(O+1))))))))) else (some (Yr ab))
def ZeD(ok_:Ya->Bool)(ad:Ya)(l:Yg)(V:Yg)(Z:Yc)(aa:Yg)(ab:Yc):Option (Ya):=
 ((ZB (λzz_=>ZbZ ok_ l V Z zz_.1 zz_.2.1 zz_.2.2) (ad,0,0)).bind λO=>((ZB (λzz_=>ZbW ok_ l aa ab zz_.1 zz_.2.1 zz_.2.2) (O.1,O.2,0)).bind λac=>some ac))
def ZdP(Z:Int)(aa:Int)(O:Int)(V:Int):Option (Bool):=
 if O=4294967295 then (some (decide (V=4294967295))) else (some false)
def Zen(V:Yg)(af:Yg)(O:Yc)(ae:Yg)(ad:Yc)(all:Yb)(i:Int):Option (Bool):=
 G (0≤i/\i<(all.length:Int)) (((G (-9223372036854775808≤(gt all i).1/\(gt all i).1≤9223372036854775807) (if ((gt all i).1)≥(V.length:Int) then (some true) else (some (decide (((gt all i).1)≤((gt all i).2.2.2.2.2.2))))):Option (Bool)).bind λZ=>if Z=true then (some false) else (((if i>0 then (if i=(O.length:Int) then (some false) else (G (-9223372036854775808≤(i-1)/\(i-1)≤9223372036854775807) (G (0≤(i-1)/\(i-1)<(all.length:Int)) (if ((gt all (i-1)).2.2.2.2.2.2)=((gt all i).2.2.2.2.2.2) then (G ((i-1)≤9223372036854775807) (some (decide (((gt all (i-1)).1)≥((gt all i).1))))) else (some false))))) else (some false):Option (Bool)).bind λaa=>if aa=true then (some false) else (((ZdP ((gt all i).1) ((gt all i).2.1) ((gt all i).2.2.1) ((gt all i).2.2.2.1)).bind λac=>if ac=true then (some true) else (G (-9223372036854775808≤(gt all i).2.2.1/\(gt all i).2.2.1≤9223372036854775807) (G (-9223372036854775808≤(gt all i).2.2.2.1/\(gt all i).2.2.2.1≤9223372036854775807) (((if ((gt all i).2.2.1)<(O.length:Int) then (some true) else (if ((gt all i).2.2.1)≥(all.length:Int) then (some true) else (some (decide (((gt all i).2.2.2.1)≥(O.length:Int))))):Option (Bool)).bind λab=>if ab=true then (some false) else (G (0≤(gt all i).2.2.1/\(gt all i).2.2.1<(all.length:Int)) (G (0≤(gt all i).2.2.2.1/\(gt all i).2.2.2.1<(all.length:Int)) (if ((gt all ((gt all i).2.2.1)).2.2.2.2.1)=((gt all i).2.2.2.2.1) then (if ((gt all ((gt all i).2.2.2.1)).2.2.2.2.2.1)=((gt all i).2.2.2.2.2.1) then (some (decide (((gt all ((gt all i).2.2.1)).2.2.2.2.2.2)=((gt all ((gt all i).2.2.2.1)).2.2.2.2.2.2)))) else (some false)) else (some false))))))))))))))
def Zeb(all:Yb)(i:Int):Option (Bool):=
 G (0≤i/\i<(all.length:Int)) (((ZdP ((gt all i).1) ((gt all i).2.1) ((gt all i).2.2.1) ((gt all i).2.2.2.1)).bind λO=>if O=true then (some (decide (((gt all i).2.1)≤2147483647))) else (G (0≤(gt all i).2.2.1/\(gt all i).2.2.1<(all.length:Int)) (G (0≤(gt all i).2.2.2.1/\(gt all i).2.2.2.1<(all.length:Int)) (if ((gt all i).2.1)≤140737488355328 then (if ((gt all ((gt all i).2.2.1)).2.1)≤140737488355328 then (if ((gt all ((gt all i).2.2.2.1)).2.1)≤140737488355328 then (G (0≤(((gt all ((gt all i).2.2.1)).2.1)+((gt all ((gt all i).2.2.2.1)).2.1))/\(((gt all ((gt all i).2.2.1)).2.1)+((gt all ((gt all i).2.2.2.1)).2.1))≤18446744073709551615) (some (decide ((((gt all ((gt all i).2.2.1)).2.1)+((gt all ((gt all i).2.2.2.1)).2.1))=((gt all i).2.1))))) else (some false)) else (some false)) else (some false))))))
def ZaD(O:Int×Int×Int×Int×Int×Int×Int×Int)(V:Yb):Option (Yb):=
 G (V.length+1≤4691249611434) (some (V++[(O.2.1,O.2.2.1,O.2.2.2.1,O.2.2.2.2.1,O.2.2.2.2.2.1,O.2.2.2.2.2.2.1,O.2.2.2.2.2.2.2)]))
def ZdL(ab:Yg)(ad:Yg)(ac:Yc)(aa:Yg)(Z:Yc)(V:Yb)(O:Int):Option ((Int)⊕((Yb×Er)⊕(Unit))):=
 if O<(V.length:Int) then (((Zen ab ad ac aa Z V O).bind λae=>if (!ae)=true then (((ZaA 4 O (Er.no 14)).bind λaf=>(some ([],af)).map λv=>Yr (Yu v))) else (((Zeb V O).bind λag=>if (!ag)=true then (((ZaA 4 O (Er.no 8)).bind λah=>(some ([],ah)).map λv=>Yr (Yu v))) else (G (-9223372036854775808≤(O+1)/\(O+1)≤9223372036854775807) (some (Yu (O+1)))))))) else (some (Yr (Yr ())))
def ZeO(O:Yg)(ab:Yg)(Z:Yc)(aa:Yg)(V:Yc):Option (Yb×Er):=
 ((if (O.length:Int)>65536 then (some true) else (G (-9223372036854775808≤((Z.length:Int)+(V.length:Int))/\((Z.length:Int)+(V.length:Int))≤9223372036854775807) (some (decide (((Z.length:Int)+(V.length:Int))>1048576)))):Option (Bool)).bind λag=>if ag=true then (some ([],(Er.no 9))) else (((G (((O.length:Int)+1)≤9223372036854775807) (if (ab.length:Int)=((O.length:Int)+1) then (some (!decide ((aa.length:Int)=((O.length:Int)+1)))) else (some true)):Option (Bool)).bind λah=>if ah=true then (some ([],(Er.no 14))) else (((Zdo ab (Z.length:Int)).bind λae=>if ae=Er.nil then (((Zdo aa (V.length:Int)).bind λaf=>if af=Er.nil then (((Zeq O).bind λad=>if ad=Er.nil then (((Zff O ab Z aa V).bind λak=>((ZeD (λtr_=>(Zej (λx_ zz_=>ZaD x_ zz_) [] tr_).isSome) [] O ab Z aa V).bind λai=>((Zej (λx_ zz_=>ZaD x_ zz_) [] ai).bind λac=>((ZB (λzz_=>ZdL O ab Z aa V ac zz_) 0).bind (YR some λaj=>some (ac,Er.nil))))))) else (some ([],ad)))) else (some ([],af)))) else (some ([],ae)))))))
def Zbp(Z:Yg)(ab:Yg)(aa:Yc)(V:Yg)(O:Yc):Option (Er):=
 ((ZeO Z ab aa V O).bind λac=>some ac.2)
def Zby(s:Yg):Option (Yg):=
 G (([]:Yg).length+s.length≤56294995341721) (some (([]:Yg)++s))
def Zdr(i:Int)(x:Int)(O:Int):Option (Int):=
 if i=4294967295 then (some i) else (if i<x then (G (0≤(i+O)/\(i+O)≤4294967295) (some (i+O))) else (G (0≤(i-x)/\(i-x)≤4294967295) (some (i-x))))
def Zdb(l:Yc)(x:Int)(Z:Int)(V:Yc)(O:Int):Option ((Yc×Int)⊕(Yc)):=
 if O<(l.length:Int) then (G (0≤O) (((Zdr ((gt l O).2.2.2) x Z).bind λaa=>((Zdr ((gt l O).2.2.1) x Z).bind λab=>G (V.length+1≤9382499223278) (G ((O+1)≤9223372036854775807) (some (Yu ((V++[((gt l O).1,(gt l O).2.1,aa,ab)]),(O+1))))))))) else (some (Yr V))
def Zdm(l:Yc)(x:Int)(V:Int):Option (Yc):=
 ((ZB (λzz_=>Zdb l x V zz_.1 zz_.2) ([],0)).bind λO=>some O)
def ZeQ(aa:Yg)(ab:Yg)(V:Yc)(Z:Yg)(O:Yc):Option (Yg×Yg×Yc×Yg×Yc×Er):=
 ((Zbp aa ab V Z O).bind λac=>if ac=Er.nil then (G ((V.length:Int)≤4294967295) (G ((O.length:Int)≤4294967295) (((Zby aa).bind λad=>((Zby Z).bind λae=>((Zdm O (V.length:Int) (O.length:Int)).bind λaf=>((Zby ab).bind λag=>((Zdm V (V.length:Int) (O.length:Int)).bind λah=>some (ad,ae,af,ag,ah,Er.nil))))))))) else (some ([],[],[],[],[],ac)))
def Zcm(V:Yg)(aa:Yc)(O:Int)(w0:Ye)(Z:Int):Option ((Ye×Int)⊕(Ye)):=
 if Z<(((aa.take (gt V (O+1)).toNat).drop (gt V O).toNat).length:Int) then (G (0≤Z) (G (O<(w0.length:Int)) (G (-9223372036854775808≤(gt ((aa.take (gt V (O+1)).toNat).drop (gt V O).toNat) Z).1/\(gt ((aa.take (gt V (O+1)).toNat).drop (gt V O).toNat) Z).1≤9223372036854775807) (G ((gt w0 O).length+1≤14073748835123) (G ((Z+1)≤9223372036854775807) (some (Yu ((w0.set O.toNat ((gt w0 O)++[((gt ((aa.take (gt V (O+1)).toNat).drop (gt V O).toNat) Z).1,(gt ((aa.take (gt V (O+1)).toNat).drop (gt V O).toNat) Z).2.1)])),(Z+1))))))))) else (some (Yr w0))
def Zcj(V:Yg)(aa:Yc)(O:Int)(ab:Ye)(Z:Int):Option ((Ye×Int)⊕(Ye)):=
 if Z<(((aa.take (gt V (O+1)).toNat).drop (gt V O).toNat).length:Int) then (G (0≤Z) (G (0≤(gt ((aa.take (gt V (O+1)).toNat).drop (gt V O).toNat) Z).1/\(gt ((aa.take (gt V (O+1)).toNat).drop (gt V O).toNat) Z).1<(ab.length:Int)) (G ((gt ab ((gt ((aa.take (gt V (O+1)).toNat).drop (gt V O).toNat) Z).1)).length+1≤14073748835123) (G ((Z+1)≤9223372036854775807) (some (Yu ((ab.set ((gt ((aa.take (gt V (O+1)).toNat).drop (gt V O).toNat) Z).1).toNat ((gt ab ((gt ((aa.take (gt V (O+1)).toNat).drop (gt V O).toNat) Z).1))++[(O,(gt ((aa.take (gt V (O+1)).toNat).drop (gt V O).toNat) Z).2.1)])),(Z+1)))))))) else (some (Yr ab))
def Zdf(ad:Yg)(Z:Yg)(ab:Yc)(V:Yg)(aa:Yc)(O:Int)(ac:Ye):Option ((Int×Ye)⊕(Ye)):=
 if O<(ad.length:Int) then (G (0≤O/\O<(Z.length:Int)) (G ((O+1)≤9223372036854775807) (G (0≤(O+1)/\(O+1)<(Z.length:Int)) (G (0≤(gt Z O)/\(gt Z O)≤(gt Z (O+1))/\(gt Z (O+1))≤(ab.length:Int)) (((ZB (λzz_=>Zcm Z ab O zz_.1 zz_.2) (ac,0)).bind λae=>G (O<(V.length:Int)) (G ((O+1)<(V.length:Int)) (G (0≤(gt V O)/\(gt V O)≤(gt V (O+1))/\(gt V (O+1))≤(aa.length:Int)) (((ZB (λzz_=>Zcj V aa O zz_.1 zz_.2) (ae,0)).bind λaf=>some (Yu ((O+1),af)))))))))))) else (some (Yr ac))
def Zds(O:Yg)(ab:Yg)(aa:Yc)(Z:Yg)(V:Yc):Option (Ye):=
 G (0≤(O.length:Int)/\24*(O.length:Int)≤281474976710656) (((ZB (λzz_=>Zdf O ab aa Z V zz_.1 zz_.2) (0,(Ym O.length ([]:Yf)))).bind λac=>some ac))
def Ze8(O:Int):Option ((Unit)⊕(Yg)):=
 ((if O<0 then (some true) else (some (decide (O>65536))):Option (Bool)).bind λV=>if V=true then (some (Yu ())) else (G (0≤O/\8*O≤281474976710656) (some (Yr (Ym O.toNat (0:Int))))))
def Zar(Z:Yf)(V:Yg)(O:Int):Option (Er):=
 G (-9223372036854775808≤O/\O≤9223372036854775807) (if O≥(V.length:Int) then (some (Er.no 7)) else (some Er.nil))
def Zbf(Z:Yf)(V:Yg)(O:Int):Option (Int×Bool):=
 ((((Zar Z V O).bind λab=>if ab=Er.nil then (G (0≤O/\O<(V.length:Int)) (some (decide ((gt V O)=0)))) else (some true)):Option (Bool)).bind λaa=>if aa=true then (some (0,false)) else (G (0≤O/\O<(V.length:Int)) (G (-9223372036854775808≤((gt V O)-1)/\((gt V O)-1)≤9223372036854775807) (G (0≤((gt V O)-1)/\((gt V O)-1)<(Z.length:Int)) (some ((gt Z ((gt V O)-1)).1,true))))))
def Zau(V:Yf)(Z:Yg)(i:Int)(key:Int)(O:Int):Option (Yf×Yg):=
 G (0≤i/\i<(V.length:Int)) (G ((i+1)≤9223372036854775807) (G (0≤O/\O<(Z.length:Int)) (some ((V.set i.toNat (key,O)),(Z.set O.toNat (i+1))))))
def Zbx(key:Int)(V:Int)(O:Int)(Z:Int):Option (Bool):=
 if key<O then (some true) else (if key=O then (some (decide (V<Z))) else (some false))
def ZbX(aa:Yf)(i:Int)(V:Yf)(Z:Yg)(O:Int):Option ((Yf×Yg×Int)⊕(Yf×Yg×Int)):=
 if O>0 then (G (-9223372036854775808≤(O-1)/\(O-1)≤9223372036854775807) (G (-9223372036854775808≤(Y3 (O-1) 4)/\(Y3 (O-1) 4)≤9223372036854775807) (G (0≤(Y3 (O-1) 4)/\(Y3 (O-1) 4)<(V.length:Int)) (((Zbx ((gt aa i).1) ((gt aa i).2) ((gt V (Y3 (O-1) 4)).1) ((gt V (Y3 (O-1) 4)).2)).bind λac=>if (!ac)=true then (some (Yr (V,Z,O))) else (((Zau V Z O ((gt V (Y3 (O-1) 4)).1) ((gt V (Y3 (O-1) 4)).2)).bind λab=>some (Yu (ab.1,ab.2,(Y3 (O-1) 4)))))))))) else (some (Yr (V,Z,O)))
def Za8(O:Yf)(aa:Yg)(i:Int):Option (Yf×Yg):=
 G (0≤i/\i<(O.length:Int)) (((ZB (λzz_=>ZbX O i zz_.1 zz_.2.1 zz_.2.2) (O,aa,i)).bind λV=>((Zau V.1 V.2.1 V.2.2 ((gt O i).1) ((gt O i).2)).bind λZ=>some (Z.1,Z.2))))
def Zbk(aa:Yf)(V:Int)(O:Int)(Z:Int):Option ((Int×Int)⊕(Int)):=
 if O<4 then (G (-9223372036854775808≤(V*4)/\(V*4)≤9223372036854775807) (G (-9223372036854775808≤((V*4)+1)/\((V*4)+1)≤9223372036854775807) (G (-9223372036854775808≤(((V*4)+1)+O)/\(((V*4)+1)+O)≤9223372036854775807) (if (((V*4)+1)+O)<(aa.length:Int) then (if Z<0 then (G (-9223372036854775808≤(O+1)/\(O+1)≤9223372036854775807) (some (Yu ((O+1),(((V*4)+1)+O))))) else (G (0≤(((V*4)+1)+O)) (G (0≤Z/\Z<(aa.length:Int)) (((Zbx ((gt aa (((V*4)+1)+O)).1) ((gt aa (((V*4)+1)+O)).2) ((gt aa Z).1) ((gt aa Z).2)).bind λab=>if ab=true then (G (-9223372036854775808≤(O+1)/\(O+1)≤9223372036854775807) (some (Yu ((O+1),(((V*4)+1)+O))))) else (G (-9223372036854775808≤(O+1)/\(O+1)≤9223372036854775807) (some (Yu ((O+1),Z))))))))) else (G (-9223372036854775808≤(O+1)/\(O+1)≤9223372036854775807) (some (Yu ((O+1),Z)))))))) else (some (Yr Z))
def Zb8(ab:Yf)(i:Int)(V:Yf)(aa:Yg)(Z:Int):Option ((Yf×Yg×Int)⊕(Yf×Yg×Int)):=
 ((ZB (λzz_=>Zbk V Z zz_.1 zz_.2) (0,(-1))).bind λO=>((if O<0 then (some true) else (G (0≤O/\O<(V.length:Int)) (((Zbx ((gt V O).1) ((gt V O).2) ((gt ab i).1) ((gt ab i).2)).bind λae=>some (!ae)))):Option (Bool)).bind λad=>if ad=true then (some (Yr (V,aa,Z))) else (G (0≤O/\O<(V.length:Int)) (((Zau V aa Z ((gt V O).1) ((gt V O).2)).bind λac=>some (Yu (ac.1,ac.2,O)))))))
def Zbw(O:Yf)(aa:Yg)(i:Int):Option (Yf×Yg):=
 G (0≤i/\i<(O.length:Int)) (((ZB (λzz_=>Zb8 O i zz_.1 zz_.2.1 zz_.2.2) (O,aa,i)).bind λV=>((Zau V.1 V.2.1 V.2.2 ((gt O i).1) ((gt O i).2)).bind λZ=>some (Z.1,Z.2))))
def Zdz(Z:Yf)(V:Yg)(O:Int)(key:Int):Option (Er×Yg×Yf):=
 ((Zar Z V O).bind λad=>if ad=Er.nil then (G (0≤O/\O<(V.length:Int)) (G (-9223372036854775808≤((gt V O)-1)/\((gt V O)-1)≤9223372036854775807) (((if ((gt V O)-1)<0 then (G (Z.length+1≤14073748835123) (some ((Z++[(0,0)]),(Z.length:Int)))) else (some (Z,((gt V O)-1))):Option (Yf×Int)).bind λab=>((Zau ab.1 V ab.2 key O).bind λae=>((Za8 ae.1 ae.2 ab.2).bind λaa=>G (O<(aa.2.length:Int)) (G (-9223372036854775808≤((gt aa.2 O)-1)/\((gt aa.2 O)-1)≤9223372036854775807) (((Zbw aa.1 aa.2 ((gt aa.2 O)-1)).bind λac=>some (Er.nil,ac.2,ac.1)))))))))) else (some (ad,V,Z)))
def Zcn(O:Yf)(V:Yg)(aa:Int)(key:Int):Option (Er×Yg×Yf):=
 ((Zbf O V aa).bind λab=>((if ab.2=true then (some (decide (ab.1≤key))) else (some false):Option (Bool)).bind λac=>if ac=true then (some (Er.nil,V,O)) else (((Zdz O V aa key).bind λZ=>some (Z.1,Z.2.1,Z.2.2)))))
def ZcA(O:Yf)(V:Yg):Option (Int×Int×Bool):=
 if (O.length:Int)=0 then (some (0,0,false)) else (G ((0:Int)<(O.length:Int)) (some ((gt O 0).2,(gt O 0).1,true)))
def Zcs(O:Yf)(V:Yg)(Z:Int):Option (Bool×Yg×Yf):=
 ((Zbf O V Z).bind λad=>if (!ad.2)=true then (some (false,V,O)) else (G (0≤Z/\Z<(V.length:Int)) (G (-9223372036854775808≤((gt V Z)-1)/\((gt V Z)-1)≤9223372036854775807) (G (-9223372036854775808≤((O.length:Int)-1)/\((O.length:Int)-1)≤9223372036854775807) (G (0≤((O.length:Int)-1)/\((O.length:Int)-1)<(O.length:Int)) (G (0≤((O.length:Int)-1)/\((O.length:Int)-1)≤(O.length:Int)) (if ((gt V Z)-1)<((O.length:Int)-1) then (((Zau (O.take ((O.length:Int)-1).toNat) (V.set Z.toNat 0) ((gt V Z)-1) ((gt O ((O.length:Int)-1)).1) ((gt O ((O.length:Int)-1)).2)).bind λab=>((Za8 ab.1 ab.2 ((gt V Z)-1)).bind λaa=>G (0≤(gt O ((O.length:Int)-1)).2/\(gt O ((O.length:Int)-1)).2<(aa.2.length:Int)) (G (-9223372036854775808≤((gt aa.2 ((gt O ((O.length:Int)-1)).2))-1)/\((gt aa.2 ((gt O ((O.length:Int)-1)).2))-1)≤9223372036854775807) (((Zbw aa.1 aa.2 ((gt aa.2 ((gt O ((O.length:Int)-1)).2))-1)).bind λac=>some (true,ac.2,ac.1))))))) else (some (true,(V.set Z.toNat 0),(O.take ((O.length:Int)-1).toNat))))))))))
def ZaR(V:Yf)(Z:Yg):Option (Int×Int×Bool×Yg×Yf):=
 ((ZcA V Z).bind λO=>if O.2.2=true then (((Zcs V Z O.1).bind λaa=>some (O.1,O.2.1,O.2.2,aa.2.1,aa.2.2))) else (some (O.1,O.2.1,O.2.2,Z,V)))
def Zca(out:Ye)(O:Int)(V:Yg):Option ((Int×Yg)⊕(Yg)):=
 if O<((Ym out.length (0:Int)).length:Int) then (G (0≤O/\O<(V.length:Int)) (G ((O+1)≤9223372036854775807) (some (Yu ((O+1),(V.set O.toNat 18446744073709551615)))))) else (some (Yr V))
def Zbj(out:Ye)(ae:Int)(O:Int×Int×Bool×Yg×Yf)(V:Int)(Z:Yg)(aa:Yf)(ab:Yg):Option ((Int×Yg×Yf×Yg)⊕(Yg×Yf×Yg)):=
 if V<((gt out O.1).length:Int) then (G (0≤V) (((if ((gt (gt out O.1) V).1)>ae then (G (0≤(O.2.1+((gt (gt out O.1) V).2))/\(O.2.1+((gt (gt out O.1) V).2))≤18446744073709551615) (G (0≤(gt (gt out O.1) V).1/\(gt (gt out O.1) V).1<(Z.length:Int)) (some (decide ((O.2.1+((gt (gt out O.1) V).2))<(gt Z ((gt (gt out O.1) V).1))))))) else (some false):Option (Bool)).bind λad=>if ad=true then (G (0≤(O.2.1+((gt (gt out O.1) V).2))/\(O.2.1+((gt (gt out O.1) V).2))≤18446744073709551615) (G (0≤(gt (gt out O.1) V).1/\(gt (gt out O.1) V).1<(Z.length:Int)) (G ((gt (gt out O.1) V).1≤4294967295) (G ((gt (gt out O.1) V).1<((Z.set ((gt (gt out O.1) V).1).toNat (O.2.1+((gt (gt out O.1) V).2))).length:Int)) (((Zcn aa ab ((gt (gt out O.1) V).1) (gt (Z.set ((gt (gt out O.1) V).1).toNat (O.2.1+((gt (gt out O.1) V).2))) ((gt (gt out O.1) V).1))).bind λac=>G ((V+1)≤9223372036854775807) (some (Yu ((V+1),(Z.set ((gt (gt out O.1) V).1).toNat (O.2.1+((gt (gt out O.1) V).2))),ac.2.2,ac.2.1))))))))) else (G ((V+1)≤9223372036854775807) (some (Yu ((V+1),Z,aa,ab))))))) else (some (Yr (Z,aa,ab)))
def Zcd(out:Ye)(ac:Int)(Z:Yg)(aa:Yf)(ab:Yg):Option ((Yg×Yf×Yg)⊕((Yg)⊕(Empty))):=
 ((ZaR aa ab).bind λO=>if (!O.2.2.1)=true then ((some Z).map λv=>Yr (Yu v)) else (G (0≤O.1/\O.1<(out.length:Int)) (((ZB (λzz_=>Zbj out ac O zz_.1 zz_.2.1 zz_.2.2.1 zz_.2.2.2) (0,Z,O.2.2.2.2,O.2.2.2.1)).bind λV=>some (Yu (V.1,V.2.1,V.2.2))))))
def Zci(out:Ye)(Z:Int)(u:Int):Option (Yg):=
 G (0≤(out.length:Int)/\8*(out.length:Int)≤281474976710656) (((ZB (λzz_=>Zca out zz_.1 zz_.2) (0,(Ym out.length (0:Int)))).bind λO=>((Ze8 (out.length:Int)).bind (YR (λ(_:Unit)=>none) (λ(aa:Yg)=>G (0≤u/\u<(O.length:Int)) (G (u≤4294967295) (((Zcn [] aa u 0).bind λV=>((ZB (λzz_=>Zcd out Z zz_.1 zz_.2.1 zz_.2.2) ((O.set u.toNat 0),V.2.2,V.2.1)).bind (YR some λ_=>none))))))))))
def ZcS(V:Yg)(aa:Yg)(Z:Yg)(O:Int):Option ((Yg×Int)⊕(Yg)):=
 if O<(aa.length:Int) then (G (0≤O) (G (O<(V.length:Int)) (G (0≤(gt V O)/\(gt V O)<(Z.length:Int)) (G ((O+1)≤9223372036854775807) (some (Yu ((Z.set (gt V O).toNat (gt aa O)),(O+1)))))))) else (some (Yr Z))
def ZcN(O:Yg)(ac:Ye)(V:Int)(Z:List (Yg)):Option ((Int×List (Yg))⊕(List (Yg))):=
 if V<(O.length:Int) then (G (0≤V) (G (0≤(O.length:Int)/\8*(O.length:Int)≤281474976710656) (((Zci ac (-1) V).bind λab=>((ZB (λzz_=>ZcS O ab zz_.1 zz_.2) ((Ym O.length (0:Int)),0)).bind λaa=>G (0≤(gt O V)/\(gt O V)<(Z.length:Int)) (G ((V+1)≤9223372036854775807) (some (Yu ((V+1),(Z.set (gt O V).toNat aa)))))))))) else (some (Yr Z))
def Zc1(O:Yg)(ab:Yg)(aa:Yc)(Z:Yg)(V:Yc):Option (List (Yg)×Er):=
 ((Zbp O ab aa Z V).bind λac=>if ac=Er.nil then (G (-9223372036854775808≤((O.length:Int)*(O.length:Int))/\((O.length:Int)*(O.length:Int))≤9223372036854775807) (if ((O.length:Int)*(O.length:Int))>1048576 then (some ([],(Er.no 9))) else (((Zds O ab aa Z V).bind λae=>G (0≤(O.length:Int)/\24*(O.length:Int)≤281474976710656) (((ZB (λzz_=>ZcN O ae zz_.1 zz_.2) (0,(Ym O.length ([]:Yg)))).bind λad=>some (ad,Er.nil))))))) else (some ([],ac)))
def ZbV(V:Yg)(ab:Yc)(aa:Yg)(ac:Yc)(O:Int)(ad:Int)(ae:Yg)(Z:Int):Option ((Int)⊕(((Int)⊕((Bool)⊕(Unit)))⊕(Unit))):=
 if Z<(((ab.take (gt V (O+1)).toNat).drop (gt V O).toNat).length:Int) then (G (0≤Z) (if ((gt ((ac.take (gt aa (O+1)).toNat).drop (gt aa O).toNat) ad).1)=((gt ((ab.take (gt V (O+1)).toNat).drop (gt V O).toNat) Z).1) then (G ((Z+1)≤9223372036854775807) (some (Yu (Z+1)))) else (G (0≤(gt ((ab.take (gt V (O+1)).toNat).drop (gt V O).toNat) Z).1/\(gt ((ab.take (gt V (O+1)).toNat).drop (gt V O).toNat) Z).1<(ae.length:Int)) (G (0≤(((gt ((ac.take (gt aa (O+1)).toNat).drop (gt aa O).toNat) ad).2.1)+((gt ((ab.take (gt V (O+1)).toNat).drop (gt V O).toNat) Z).2.1))/\(((gt ((ac.take (gt aa (O+1)).toNat).drop (gt aa O).toNat) ad).2.1)+((gt ((ab.take (gt V (O+1)).toNat).drop (gt V O).toNat) Z).2.1))≤18446744073709551615) (if (gt ae ((gt ((ab.take (gt V (O+1)).toNat).drop (gt V O).toNat) Z).1))>(((gt ((ac.take (gt aa (O+1)).toNat).drop (gt aa O).toNat) ad).2.1)+((gt ((ab.take (gt V (O+1)).toNat).drop (gt V O).toNat) Z).2.1)) then (((some false).map λv=>Yr (Yu v)).map λv=>Yr (Yu v)) else (G ((Z+1)≤9223372036854775807) (some (Yu (Z+1))))))))) else (some (Yr (Yr ())))
def ZbO(out:Ye)(Z:Yg)(ac:Yc)(V:Yg)(ab:Yc)(O:Int)(aa:Int):Option ((Int)⊕((Bool)⊕(Unit))):=
 if aa<(((ab.take (gt V (O+1)).toNat).drop (gt V O).toNat).length:Int) then (G (0≤aa) (G (O<(Z.length:Int)) (G ((O+1)<(Z.length:Int)) (G (0≤(gt Z O)/\(gt Z O)≤(gt Z (O+1))/\(gt Z (O+1))≤(ac.length:Int)) (if (((ac.take (gt Z (O+1)).toNat).drop (gt Z O).toNat).length:Int)=0 then ((some true).map λv=>Yr (Yu v)) else (G (-9223372036854775808≤(gt ((ab.take (gt V (O+1)).toNat).drop (gt V O).toNat) aa).1/\(gt ((ab.take (gt V (O+1)).toNat).drop (gt V O).toNat) aa).1≤9223372036854775807) (((Zci out O ((gt ((ab.take (gt V (O+1)).toNat).drop (gt V O).toNat) aa).1)).bind λad=>((ZB (λzz_=>ZbV Z ac V ab O aa ad zz_) 0).bind (YR some λae=>G ((aa+1)≤9223372036854775807) (some (Yu (aa+1))))))))))))) else (some (Yr (Yr ())))
def ZcV(out:Ye)(ac:Yg)(ab:Yg)(aa:Yc)(V:Yg)(Z:Yc)(O:Int):Option (Bool):=
 G (0≤O/\O<(V.length:Int)) (G ((O+1)≤9223372036854775807) (G (0≤(O+1)/\(O+1)<(V.length:Int)) (G (0≤(gt V O)/\(gt V O)≤(gt V (O+1))/\(gt V (O+1))≤(Z.length:Int)) (((ZB (λzz_=>ZbO out ab aa V Z O zz_) 0).bind (YR some λad=>some true))))))
def Zc5(V:Yg)(ac:Yg)(ab:Yc)(aa:Yg)(Z:Yc)(af:Ye)(O:Int):Option ((Int)⊕((Er)⊕(Unit))):=
 if O<(V.length:Int) then (((ZcV af V ac ab aa Z O).bind λad=>if (!ad)=true then (((ZaA 3 O (Er.no 15)).bind λae=>(some ae).map λv=>Yr (Yu v))) else (G (-9223372036854775808≤(O+1)/\(O+1)≤9223372036854775807) (some (Yu (O+1)))))) else (some (Yr (Yr ())))
def Zdn(Z:Yg)(ab:Yg)(aa:Yc)(V:Yg)(O:Yc):Option (Er):=
 ((Zbp Z ab aa V O).bind λac=>if ac=Er.nil then (((Zds Z ab aa V O).bind λad=>((ZB (λzz_=>Zc5 Z ab aa V O ad zz_) 0).bind (YR some λae=>some Er.nil)))) else (some ac))
def ZaL(aa:Int)(V:Int)(ab:List (Yg))(Z:List (Yg))(O:Int):Option ((List (Yg)×Int)⊕(List (Yg))):=
 if O<((gt (ab.set V.toNat (Ym aa.toNat (0:Int))) V).length:Int) then (if V=O then (G (-9223372036854775808≤(O+1)/\(O+1)≤9223372036854775807) (some (Yu (Z,(O+1))))) else (G (V<(Z.length:Int)) (G (0≤O/\O<((gt Z V).length:Int)) (G ((O+1)≤9223372036854775807) (some (Yu ((Z.set V.toNat ((gt Z V).set O.toNat 18446744073709551615)),(O+1)))))))) else (some (Yr Z))
def Zak(V:Int)(O:Int)(Z:List (Yg)):Option ((Int×List (Yg))⊕(List (Yg))):=
 if O<((Ym V.toNat ([]:Yg)).length:Int) then (G (0≤V/\8*V≤281474976710656) (G (0≤O/\O<(Z.length:Int)) (G (O<((Z.set O.toNat (Ym V.toNat (0:Int))).length:Int)) (((ZB (λzz_=>ZaL V O Z zz_.1 zz_.2) ((Z.set O.toNat (Ym V.toNat (0:Int))),0)).bind λaa=>G ((O+1)≤9223372036854775807) (some (Yu ((O+1),aa)))))))) else (some (Yr Z))
def Zap(Arcs:Yd)(V:List (Yg))(O:Int):Option ((List (Yg)×Int)⊕(List (Yg))):=
 if O<(Arcs.length:Int) then (G (0≤O) (G (0≤(gt Arcs O).1/\(gt Arcs O).1<(V.length:Int)) (G (0≤(gt Arcs O).2.1/\(gt Arcs O).2.1<((gt V ((gt Arcs O).1)).length:Int)) (G (0≤(gt Arcs O).2.2/\(gt Arcs O).2.2≤18446744073709551615) (G ((O+1)≤9223372036854775807) (some (Yu ((V.set ((gt Arcs O).1).toNat ((gt V ((gt Arcs O).1)).set ((gt Arcs O).2.1).toNat (min (gt (gt V ((gt Arcs O).1)) ((gt Arcs O).2.1)) ((gt Arcs O).2.2)))),(O+1))))))))) else (some (Yr V))
def Zaj(Z:Int)(ab:List (Yg))(aa:Int)(O:List (Yg))(V:Int):Option ((List (Yg)×Int)⊕(List (Yg))):=
 if V<(ab.length:Int) then (((G (0≤aa/\aa<(O.length:Int)) (G (0≤Z/\Z<((gt O aa).length:Int)) (if (gt (gt O aa) Z)=18446744073709551615 then (some false) else (G (Z<(O.length:Int)) (G (0≤V/\V<((gt O Z).length:Int)) (some (!decide ((gt (gt O Z) V)=18446744073709551615))))))):Option (Bool)).bind λac=>if ac=true then (G (0≤aa/\aa<(O.length:Int)) (G (0≤V/\V<((gt O aa).length:Int)) (G (0≤Z/\Z<((gt O aa).length:Int)) (G (Z<(O.length:Int)) (G (V<((gt O Z).length:Int)) (G (0≤((gt (gt O aa) Z)+(gt (gt O Z) V))/\((gt (gt O aa) Z)+(gt (gt O Z) V))≤18446744073709551615) (G ((V+1)≤9223372036854775807) (some (Yu ((O.set aa.toNat ((gt O aa).set V.toNat (min (gt (gt O aa) V) ((gt (gt O aa) Z)+(gt (gt O Z) V))))),(V+1))))))))))) else (G (-9223372036854775808≤(V+1)/\(V+1)≤9223372036854775807) (some (Yu (O,(V+1))))))) else (some (Yr O))
def ZaK(Z:List (Yg))(aa:Int)(V:List (Yg))(O:Int):Option ((List (Yg)×Int)⊕(List (Yg))):=
 if O<(Z.length:Int) then (((ZB (λzz_=>Zaj aa V O zz_.1 zz_.2) (V,0)).bind λab=>G (-9223372036854775808≤(O+1)/\(O+1)≤9223372036854775807) (some (Yu (ab,(O+1)))))) else (some (Yr V))
def ZaJ(Z:List (Yg))(V:List (Yg))(O:Int):Option ((List (Yg)×Int)⊕(List (Yg))):=
 if O<(Z.length:Int) then (((ZB (λzz_=>ZaK V O zz_.1 zz_.2) (V,0)).bind λaa=>G (-9223372036854775808≤(O+1)/\(O+1)≤9223372036854775807) (some (Yu (aa,(O+1)))))) else (some (Yr V))
def ZaZ(O:Int)(Arcs:Yd):Option (List (Yg)):=
 G (0≤O/\24*O≤281474976710656) (((ZB (λzz_=>Zak O zz_.1 zz_.2) (0,(Ym O.toNat ([]:Yg)))).bind λaa=>((ZB (λzz_=>Zap Arcs zz_.1 zz_.2) (aa,0)).bind λV=>((ZB (λzz_=>ZaJ V zz_.1 zz_.2) (V,0)).bind λZ=>some Z))))
def ZaS(a:Yg)(b:Yg)(O:Int):Option ((Int)⊕((Bool)⊕(Unit))):=
 if O<(a.length:Int) then (G (0≤O) (G (O<(b.length:Int)) (if (gt a O)=(gt b O) then (G ((O+1)≤9223372036854775807) (some (Yu (O+1)))) else ((some false).map λv=>Yr (Yu v))))) else (some (Yr (Yr ())))
def Zbo(a:Yg)(b:Yg):Option (Bool):=
 if (a.length:Int)=(b.length:Int) then (((ZB (λzz_=>ZaS a b zz_) 0).bind (YR some λO=>some true))) else (some false)
def ZaE(a:List (Yg))(b:List (Yg))(O:Int):Option ((Int)⊕((Bool)⊕(Unit))):=
 if O<(a.length:Int) then (G (0≤O) (G (O<(b.length:Int)) (((Zbo (gt a O) (gt b O)).bind λV=>if (!V)=true then ((some false).map λv=>Yr (Yu v)) else (G ((O+1)≤9223372036854775807) (some (Yu (O+1)))))))) else (some (Yr (Yr ())))
def Zax(a:List (Yg))(b:List (Yg)):Option (Bool):=
 if (a.length:Int)=(b.length:Int) then (((ZB (λzz_=>ZaE a b zz_) 0).bind (YR some λO=>some true))) else (some false)
def Zbt(m:List (Yg))(V:Int)(O:Int)(Z:Yg):Option ((Int×Yg)⊕(Yg)):=
 if O<(m.length:Int) then (G (0≤O) (G (0≤V/\V<((gt m O).length:Int)) (G (Z.length+1≤28147497670656) (G ((O+1)≤9223372036854775807) (some (Yu ((O+1),(Z++[(gt (gt m O) V)])))))))) else (some (Yr Z))
def Zbr(m:List (Yg))(V:List (Yg))(O:Int):Option ((List (Yg)×Int)⊕(List (Yg))):=
 if O<(m.length:Int) then (((ZB (λzz_=>Zbt m O zz_.1 zz_.2) (0,[])).bind λZ=>G (V.length+1≤9382499223278) (G (-9223372036854775808≤(O+1)/\(O+1)≤9223372036854775807) (some (Yu ((V++[Z]),(O+1))))))) else (some (Yr V))
def Zcc(m:List (Yg)):Option (List (Yg)):=
 ((ZB (λzz_=>Zbr m zz_.1 zz_.2) ([],0)).bind λO=>some O)
def ZcC(V:Yh)(O:Int)(Z:Int):Option (Int):=
 some O
def Z7(list:Yg)(Hops:Int)(Settles:Int)(ah:Int)(af:Int)(ag:Int)(O:Int)(Z:Yh)(o2:Int)(aa:Int)(ab:Int)(V:Int):Option ((Int×Yh×Int×Int×Int×Int)⊕((Bool)⊕(Yh×Int×Int×Int×Int))):=
 if O<(list.length:Int) then (G (0≤O) (((Zao Z o2 aa (gt list O)).bind λad=>G (-9223372036854775808≤(ab+(ad.length:Int))/\(ab+(ad.length:Int))≤9223372036854775807) (((ZaM Z o2 aa (gt list O)).bind λae=>G (-9223372036854775808≤(V+(ae.length:Int))/\(V+(ae.length:Int))≤9223372036854775807) (((Zb0 Z o2 aa (gt list O) Hops Settles ah af ag).bind λac=>if ac.2.1=Er.nil then (G ((O+1)≤9223372036854775807) (some (Yu ((O+1),ac.2.2.1,ac.2.2.2.1,ac.2.2.2.2,(ab+(ad.length:Int)),(V+(ae.length:Int)))))) else ((some false).map λv=>Yr (Yu v))))))))) else (some (Yr (Yr (Z,o2,aa,ab,V))))
def Zaz(aa:Int)(Arcs:Yd)(list:Yg)(Hops:Int)(Settles:Int)(ag:Int)(ae:Int)(af:Int):Option (Bool):=
 ((ZcJ 2 [(1,0,6)] [0,1] 0 0 0 0 0).bind λab=>((if ab.2.2.2.2.2=Er.nil then (if (ab.2.2.2.2.1.length:Int)=1 then (G ((0:Int)<(ab.2.2.2.2.1.length:Int)) (some (!decide (((gt ab.2.2.2.2.1 0).2.1)=6)))) else (some true)) else (some true):Option (Bool)).bind λai=>if ai=true then (some false) else (((((Zct aa Arcs 9).bind λal=>if al=true then (some (decide ((list.length:Int)>20))) else (some true)):Option (Bool)).bind λaj=>if aj=true then (some true) else (((Zbb list).bind λam=>((ZcJ aa Arcs am Hops Settles ag ae af).bind λO=>if O.2.2.2.2.2=Er.nil then (((ZeQ O.1 O.2.1 O.2.2.1 O.2.2.2.1 O.2.2.2.2.1).bind λV=>((Zc1 O.1 O.2.1 O.2.2.1 O.2.2.2.1 O.2.2.2.2.1).bind λac=>((Zc1 V.1 V.2.1 V.2.2.1 V.2.2.2.1 V.2.2.2.2.1).bind λah=>((Zdp aa Arcs).bind (YR (λ(_:Er)=>none) (λ(ad:Yh×Int×Int)=>((if V.2.2.2.2.2=Er.nil then (if ac.2=Er.nil then (if ah.2=Er.nil then (((Zdn O.1 O.2.1 O.2.2.1 O.2.2.2.1 O.2.2.2.2.1).bind λan=>if an=Er.nil then (((Zdn V.1 V.2.1 V.2.2.1 V.2.2.2.1 V.2.2.2.2.1).bind λao=>if ao=Er.nil then (((ZaZ aa Arcs).bind λap=>((Zax ac.1 ap).bind λaq=>if aq=true then (((Zcc ac.1).bind λau=>((Zax ah.1 au).bind λav=>some (!av)))) else (some true)))) else (some true))) else (some true))) else (some true)) else (some true)) else (some true):Option (Bool)).bind λak=>if ak=true then (some false) else (((ZB (λzz_=>Z7 list Hops Settles ag ae af zz_.1 zz_.2.1 zz_.2.2.1 zz_.2.2.2.1 zz_.2.2.2.2.1 zz_.2.2.2.2.2) (0,ad.1,ad.2.1,ad.2.2,0,0)).bind (YR some λZ=>if Z.2.2.2.1=(O.2.2.1.length:Int) then (if Z.2.2.2.2=(O.2.2.2.2.1.length:Int) then (((ZcC Z.1 Z.2.1 Z.2.2.1).bind λaw=>if aw=0 then (((ZaP Z.1 Z.2.1 Z.2.2.1).bind λax=>some (decide (ax=0)))) else (some false))) else (some false)) else (some false)))))))))))) else (some (decide ((O.1.length:Int)=0))))))))))
end
end Go.Vd
