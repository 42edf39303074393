import Derived.Test.YtbchkjfnakabkaaGreatDoorYCD
import Derived.Test.YtbchkjfnakabkaaGreatDoorR4
set_option linter.unusedSimpArgs false
set_option linter.unusedVariables false
set_option maxHeartbeats 16000000
set_option maxRecDepth 100000
namespace Go.Proofs.YtbchkjfnakabkaaGreatDoor
open Go.RowKit PX PC
theorem Zgy(w:World)(S:ByteArray):Calls Tryz.prog 48 #[.string S] w λe w'=>∃ rb,e=.returned (.pointer (some ⟨rb,0,none⟩))/\w.heap.size<=rb/\RdAt w' rb S 0 0/\Later w w':=by
 go_enter Tryz.func48,Tryz.ntmps48
 go_wp2_with fail
 go_ret
 exact⟨w.heap.size,rfl,Nat.le_refl _,Zd w _,(Later.refl w).alloc _⟩
def Zg1:Vol:=⟨0,0,0,0⟩
def Jb:Cfg:=⟨0,[],[],[],[],[],Zg1,0,0,[],[],⟨#[]⟩,0,0⟩
def Q8:List Value:=[.int .i64 0,.slice none 0 0,.slice none 0 0,.slice none 0 0,.slice none 0 0,.slice none 0 0,.int .i64 0,.int .i64 0,.int .i64 0,.int .i64 0,.int .i64 0,.int .i64 0,.slice none 0 0,.slice none 0 0,.string ⟨#[]⟩,.int .i64 0,.int .i64 0]
theorem Zcq(w:World):CfgIn w Q8 Jb:=⟨⟨_,_,_,_,_,_,_,rfl,RowAt.nil w 2,RowAt.nil w 2,RowAt.nil w 3,RowAt.nil w 5,RowAt.nil w 4,RowAt.nil w 5,RowAt.nil w 1⟩⟩
def DE(S:ByteArray)(w:World)(e:Ending)(w':World):Prop:=
 ∃ cs,e=.returned (.tuple #[.agg cs.toArray,.int .i64 (if Yj S.data.toList=none then 110 else 0)])/\CfgIn w' cs ((Yj S.data.toList).getD Jb)/\Later w w'
theorem V4{fn:Func}{p q:Tmp}{ty:TypeId}(h:fn.results=#[.cell p ty,.tmp q])(tmps:Array Value)(P:Program)(w:World)(g:Nat)(t:TypeId)(cs:Array Value)(fr:Nat × Nat)(fs:Array Field)
 (hp:tmps.getD p undef=.pointer (some ⟨g,0,none⟩)) (hg:w.heap[g]?=some (.cells cs t fr))
 (hu:P.underlying ty=some (.struct fs)) (hi:(P.info? ty).map (·.size)=some cs.size) :
 (results fn tmps).run P w=.ok (.tuple #[.agg cs,tmps.getD q undef]) w:=by
 have q3:tmps[p]?.getD undef=.pointer (some ⟨g,0,none⟩):=by simpa using hp
 simp[results,h,q3,asAddr,run_loadVar_row w g t ty cs fr (.struct fs) hg hu rfl hi]
theorem tup2{x a b:Value}(h:a=b):Ending.returned (.tuple #[x,a])=.returned (.tuple #[x,b]):=by rw[h]
theorem Zat:(Tryz.prog.info? 32).map (·.size)=some 17:=by kernel_rfl
theorem Wz(S MB:ByteArray)(rt:Bool)(h1:(if S.size<4 then(⟨#[]⟩:ByteArray) else S.extract 0 4)=MB)(h2:(MB.toList==[67,83,84,49])=rt):(rt=true↔S.data.toList.take 4=WQ)/\(rt=true->¬ S.size<4):=by
 have hl:=UE S;by_cases h4:S.size<4
 ·rw[if_pos h4]at h1;subst h1;have:rt=false:=by rw[<-h2,ByteArray.toList_eq];rfl
  rw[this];refine⟨⟨λe=>(by cases e),λe=>?_⟩,λe=>(by cases e)⟩;have:=congrArg List.length e;rw[List.length_take,hl]at this;have h4':WQ.length=4:=rfl;omega
 ·rw[if_neg h4]at h1
  have hm:MB.toList=S.data.toList.take 4:=by
   rw[<-h1,ByteArray.toList_eq];simp[ByteArray.data_extract,Array.toList_extract,List.extract_eq_take_drop]
  rw[hm]at h2;refine⟨?_,λ_=>h4⟩;rw[<-h2,beq_iff_eq];rfl
theorem Zdw{S MB:ByteArray}{rt:Bool}{t0:RSt}{c:Cfg}(h1:(if S.size<4 then(⟨#[]⟩:ByteArray) else S.extract 0 4)=MB)(h2:(MB.toList==[67,83,84,49])=rt)(h3:(if S.size<4 then(none:RSt) else some (S.data.toList.drop 4))=t0)
 (hr:rt=true) (hg:cfgG t0=(c,some [])):Yj S.data.toList=some c:=by
 obtain⟨g1,g2⟩:=Wz S MB rt h1 h2;rw[if_neg (g2 hr)]at h3;rw[Yj,if_pos (g1.1 hr),h3,hg,if_pos rfl]
theorem Zac{S MB:ByteArray}{rt:Bool}{t0 t:RSt}{c:Cfg}(h1:(if S.size<4 then(⟨#[]⟩:ByteArray) else S.extract 0 4)=MB)(h2:(MB.toList==[67,83,84,49])=rt)(h3:(if S.size<4 then(none:RSt) else some (S.data.toList.drop 4))=t0)
 (hg:cfgG t0=(c,t)) (hr:rt=false\/t≠some []):Yj S.data.toList=none:=by
 obtain⟨g1,g2⟩:=Wz S MB rt h1 h2;rw[Yj]
 cases rt with
 |false=>rw[if_neg (λe=>by have:=g1.2 e;cases this)]
 |true=>
  rw[if_neg (g2 rfl)]at h3;rw[if_pos (g1.1 rfl),h3,hg,if_neg];rcases hr with hr|hr
  ·cases hr
  ·exact hr
theorem RowHi.val{α:Type}{B:Nat}{w:World}{k:Nat}{v:Value}{f:α->List Value}{l:List α}(h:RowHi B w k v (l.map f)):∃ a cap,v=.slice a l.length cap:=by
 obtain⟨a,cap,h1,-⟩:=h;exact⟨a,cap,by rw[h1,List.length_map]⟩
def Two(rb cb rp:Nat)(k:Nat):Prop:=k=rb\/k=cb
def Zi7(rb cb rp:Nat)(k:Nat):Prop:=k=rb\/k=cb\/k=rp
abbrev OnlyT(rb cb rp:Nat)(w w':World):Prop:=Only (Two rb cb rp) w w'
abbrev OnlyU(rb cb rp:Nat)(w w':World):Prop:=Only (Zi7 rb cb rp) w w'
theorem OnlyT.u{rb cb rp:Nat}{a b:World}(h:OnlyT rb cb rp a b):OnlyU rb cb rp a b:=h.mono λk _ hk=>by rcases hk with hk|hk;exact .inl hk;exact .inr (.inl hk)
theorem OnlyU.setR{rb cb rp:Nat}{a w:World}(h:OnlyU rb cb rp a w)(C:Array Value):OnlyU rb cb rp a (w.setRow rp C):=Only.setRow h (.inl (show Zi7 rb cb rp rp from .inr (.inr rfl))) C
theorem OnlyT.of{rb cb rp:Nat}{a b:World}(h:Zp rb a b):OnlyT rb cb rp a b:=h.mono λk _ hk=>.inl hk
theorem OnlyT.then{rb cb rp:Nat}{a b c:World}(h:OnlyT rb cb rp a b)(k:OnlyT rb cb rp b c):OnlyT rb cb rp a c:=h.trans (k.mono λq _ hq=>.inl hq)
theorem OnlyT.setC{rb cb rp:Nat}{a w:World}(h:OnlyT rb cb rp a w)(j:Nat)(u:Value):OnlyT rb cb rp a (w.setCell ⟨cb,j,none⟩ u):=h.setCell (.inl (show Two rb cb rp cb from .inr rfl)) u
theorem OnlyT.thenP{rb cb rp:Nat}{a b c:World}(h:OnlyT rb cb rp a b)(k:Zp rb b c):OnlyT rb cb rp a c:=h.then (OnlyT.of k)
theorem ZbD(w:World)(S:ByteArray)(hS:S.size<=9223372036854775807):Calls Tryz.prog 17 #[.string S] w (DE S w):=by
 obtain⟨t0,ht0⟩:∃ t0,(if S.size<4 then(none:RSt) else some (S.data.toList.drop 4))=t0:=⟨_,rfl⟩
 obtain⟨MB,hMB⟩:∃ MB,(if S.size<4 then(⟨#[]⟩:ByteArray) else S.extract 0 4)=MB:=⟨_,rfl⟩
 obtain⟨qa,hqa⟩:∃ x,(getN 1 t0).1=x:=⟨_,rfl⟩
 obtain⟨t1,ht1⟩:∃ x,(getN 1 t0).2=x:=⟨_,rfl⟩
 obtain⟨qf,hqf⟩:∃ x,(getL YJ t1).1=x:=⟨_,rfl⟩
 obtain⟨t2,ht2⟩:∃ x,(getL YJ t1).2=x:=⟨_,rfl⟩
 obtain⟨qp,hqp⟩:∃ x,(getL YI t2).1=x:=⟨_,rfl⟩
 obtain⟨t3,ht3⟩:∃ x,(getL YI t2).2=x:=⟨_,rfl⟩
 obtain⟨qwn,hqwn⟩:∃ x,(getL winG t3).1=x:=⟨_,rfl⟩
 obtain⟨t4,ht4⟩:∃ x,(getL winG t3).2=x:=⟨_,rfl⟩
 obtain⟨qpo,hqpo⟩:∃ x,(getL porG t4).1=x:=⟨_,rfl⟩
 obtain⟨t5,ht5⟩:∃ x,(getL porG t4).2=x:=⟨_,rfl⟩
 obtain⟨qv,hqv⟩:∃ x,(getL volG t5).1=x:=⟨_,rfl⟩
 obtain⟨t6,ht6⟩:∃ x,(getL volG t5).2=x:=⟨_,rfl⟩
 obtain⟨qx,hqx⟩:∃ x,(getN 2 t6).1=x:=⟨_,rfl⟩
 obtain⟨t7,ht7⟩:∃ x,(getN 2 t6).2=x:=⟨_,rfl⟩
 obtain⟨qy,hqy⟩:∃ x,(getN 2 t7).1=x:=⟨_,rfl⟩
 obtain⟨t8,ht8⟩:∃ x,(getN 2 t7).2=x:=⟨_,rfl⟩
 obtain⟨qz,hqz⟩:∃ x,(getN 2 t8).1=x:=⟨_,rfl⟩
 obtain⟨t9,ht9⟩:∃ x,(getN 2 t8).2=x:=⟨_,rfl⟩
 obtain⟨qbo,hqbo⟩:∃ x,(getN 2 t9).1=x:=⟨_,rfl⟩
 obtain⟨t10,ht10⟩:∃ x,(getN 2 t9).2=x:=⟨_,rfl⟩
 obtain⟨qsc,hqsc⟩:∃ x,(getN 2 t10).1=x:=⟨_,rfl⟩
 obtain⟨t11,ht11⟩:∃ x,(getN 2 t10).2=x:=⟨_,rfl⟩
 obtain⟨qr,hqr⟩:∃ x,(getL ruG t11).1=x:=⟨_,rfl⟩
 obtain⟨t12,ht12⟩:∃ x,(getL ruG t11).2=x:=⟨_,rfl⟩
 obtain⟨qk,hqk⟩:∃ x,(getL getT t12).1=x:=⟨_,rfl⟩
 obtain⟨t13,ht13⟩:∃ x,(getL getT t12).2=x:=⟨_,rfl⟩
 obtain⟨ql,hql⟩:∃ x,(getT t13).1=x:=⟨_,rfl⟩
 obtain⟨t14,ht14⟩:∃ x,(getT t13).2=x:=⟨_,rfl⟩
 obtain⟨qm,hqm⟩:∃ x,(getN 2 t14).1=x:=⟨_,rfl⟩
 obtain⟨t15,ht15⟩:∃ x,(getN 2 t14).2=x:=⟨_,rfl⟩
 obtain⟨qn,hqn⟩:∃ x,(getN 2 t15).1=x:=⟨_,rfl⟩
 obtain⟨t16,ht16⟩:∃ x,(getN 2 t15).2=x:=⟨_,rfl⟩
 have HG:Hid (cfgG t0=(⟨qa,qf,qp,qwn,qpo,qv,⟨0,qx,qy,qz⟩,qbo,qsc,qr,qk,ql,qm,qn⟩,t16)):=Hd (by
  simp only[cfgG,hqa,ht1,hqf,ht2,hqp,ht3,hqwn,ht4,hqpo,ht5,hqv,ht6,hqx,ht7,hqy,ht8,hqz,ht9,hqbo,ht10,hqsc,ht11,hqr,ht12,hqk,ht13,hql,ht14,hqm,ht15,hqn,ht16])
 have r2:=Hd (And.intro (And.intro (And.intro hqx ht7) (And.intro hqy ht8)) (And.intro (And.intro hqz ht9) (And.intro (And.intro hqbo ht10) (And.intro hqsc ht11))));have n3:=Hd (And.intro (And.intro hqm ht15) (And.intro hqn ht16));have j2:=Hd (λw1=>Zgy w1 S);have y2:=Hd (λw1 rb h=>BH w1 rb S h hS);rw[ht0,hMB]at y2;have q2:=Hd hMB;have m2:=Hd ht0;have H0:=Hd (λw1 rb rc (h:RIn w1 rb S t0) (hc:w1.cell? ⟨rc,0,none⟩=some (.pointer (some ⟨rb,0,none⟩)))=>EX w1 rb rc S t0 h hS hc);rw[hqa,ht1]at H0;have H1:=Hd (λw1 rb rc ob (h:RIn w1 rb S t1) (hc:w1.cell? ⟨rc,0,none⟩=some (.pointer (some ⟨rb,0,none⟩))) (nrc:rc≠rb) (hob:FnAt w1 ob 49 rc) (nob:ob≠rb)=>Bk w1 rb rc ob S t1 h hS hc nrc hob nob);rw[hqf,ht2]at H1;have H2:=Hd (λw1 rb rc ob (h:RIn w1 rb S t2) (hc:w1.cell? ⟨rc,0,none⟩=some (.pointer (some ⟨rb,0,none⟩))) (nrc:rc≠rb) (hob:FnAt w1 ob 49 rc) (nob:ob≠rb)=>Bj w1 rb rc ob S t2 h hS hc nrc hob nob);rw[hqp,ht3]at H2;have H3:=Hd (λw1 rb rc ob (h:RIn w1 rb S t3) (hc:w1.cell? ⟨rc,0,none⟩=some (.pointer (some ⟨rb,0,none⟩))) (nrc:rc≠rb) (hob:FnAt w1 ob 49 rc) (nob:ob≠rb)=>ZbP w1 rb rc ob S t3 h hS hc nrc hob nob);rw[hqwn,ht4]at H3;have H4:=Hd (λw1 rb rc ob (h:RIn w1 rb S t4) (hc:w1.cell? ⟨rc,0,none⟩=some (.pointer (some ⟨rb,0,none⟩))) (nrc:rc≠rb) (hob:FnAt w1 ob 49 rc) (nob:ob≠rb)=>ZbR w1 rb rc ob S t4 h hS hc nrc hob nob);rw[hqpo,ht5]at H4;have H5:=Hd (λw1 rb rc ob tb (h:RIn w1 rb S t5) (hc:w1.cell? ⟨rc,0,none⟩=some (.pointer (some ⟨rb,0,none⟩))) (nrc:rc≠rb) (hob:FnAt w1 ob 49 rc) (nob:ob≠rb) (htb:FnAt w1 tb 51 rc) (ntb:tb≠rb)=>ZbQ w1 rb rc ob tb S t5 h hS hc nrc hob nob htb ntb);rw[hqv,ht6]at H5;have I2:=Hd (λw1 rb rc ob xb (h:RIn w1 rb S t11) (hc:w1.cell? ⟨rc,0,none⟩=some (.pointer (some ⟨rb,0,none⟩))) (nrc:rc≠rb) (hob:FnAt w1 ob 49 rc) (nob:ob≠rb) (hxb:FnAt w1 xb 52 rc) (nxb:xb≠rb)=>ZdW w1 rb rc ob xb S t11 h hS hc nrc hob nob hxb nxb);rw[hqr,ht12]at I2;have L2:=Hd (λw1 rb rc  (h:RIn w1 rb S t12) (hc:w1.cell? ⟨rc,0,none⟩=some (.pointer (some ⟨rb,0,none⟩))) (nrc:rc≠rb)  => ZbS w1 rb rc  S t12 h hS hc nrc );rw[hqk,ht13]at L2;have A2:=Hd (λw1 rb rc (h:RIn w1 rb S t13) (hc:w1.cell? ⟨rc,0,none⟩=some (.pointer (some ⟨rb,0,none⟩)))=>Zdg w1 rb rc S t13 h hS hc);rw[hql,ht14]at A2
 obtain⟨PT,hPT⟩:∃ PT,DE S w=PT:=⟨_,rfl⟩
 rw[hPT];have Z1:=Hd hPT;clear hPT hqa ht1 hqf ht2 hqp ht3 hqwn ht4 hqpo ht5 hqv ht6 hqx ht7 hqy ht8 hqz ht9 hqbo ht10 hqsc ht11 hqr ht12 hqk ht13 hql ht14 hqm ht15 hqn ht16 ht0 hMB
 obtain⟨ZC,hZC⟩:∃ ZC:Array Value,#[.int .i64 0,.slice none 0 0,.slice none 0 0,.slice none 0 0,.slice none 0 0,.slice none 0 0,.int .i64 0,.int .i64 0,.int .i64 0,.int .i64 0,.int .i64 0,.int .i64 0,.slice none 0 0,.slice none 0 0,.string ⟨#[]⟩,.int .i64 0,.int .i64 0]=ZC:=⟨_,rfl⟩
 have S0:=Hd hZC
 go_enter Tryz.func17,Tryz.ntmps17
 go_upto_region 5 with(first
  |(go_at_call 48;(with_reducible refine(j2.out _).mono ?_);rintro e w1 ⟨rb,rfl,hrb,m0,hl1⟩)
  |fail)
 have hwl:w.heap.size<rb:=by simp at hrb;omega
 have hrl:rb<w1.heap.size:=Zb m0;have C1:w1.heap[w.heap.size]?=some (.cells ZC 32 (0,0)):=Later.block hl1 (Zd w _);have F2:Later w w1:=((Later.refl w).alloc _).trans hl1
 obtain⟨rc,hrc⟩:∃ rc,w1.heap.size=rc:=⟨_,rfl⟩
 obtain⟨rp,hrp⟩:∃ rp,w.heap.size=rp:=⟨_,rfl⟩
 rw[hrc,hrp]
 obtain⟨w5,hw5⟩:∃ w5,(((w1.alloc (.cells #[.pointer (some ⟨rb,0,none⟩)] 89)).alloc (.cells #[.func (.func 49) #[] #[.pointer (some ⟨rc,0,none⟩)]] 63)).alloc (.cells #[.func (.func 51) #[] #[.pointer (some ⟨rc,0,none⟩)]] 63)).alloc (.cells #[.func (.func 52) #[] #[.pointer (some ⟨rc,0,none⟩)]] 93)=w5:=⟨_,rfl⟩
 have T1:Later w1 w5:=by rw[<-hw5];exact(((Later.refl w1).alloc _).alloc _).alloc _|>.alloc _
 have b0:w5.heap[rc]?=some (.cells #[.pointer (some ⟨rb,0,none⟩)] 89 (0,0)):=by rw[<-hw5];exact Ze (Ze (Ze (Zq hrc) _) _) _
 have b1:w5.heap[rc+1]?=some (.cells #[.func (.func 49) #[] #[.pointer (some ⟨rc,0,none⟩)]] 63 (0,0)):=by rw[<-hw5];exact Ze (Ze (Zq (by simp;omega)) _) _
 have b2:w5.heap[rc+1+1]?=some (.cells #[.func (.func 51) #[] #[.pointer (some ⟨rc,0,none⟩)]] 63 (0,0)):=by rw[<-hw5];exact Ze (Zq (by simp;omega)) _
 have b3:w5.heap[rc+1+1+1]?=some (.cells #[.func (.func 52) #[] #[.pointer (some ⟨rc,0,none⟩)]] 93 (0,0)):=by rw[<-hw5];exact Zq (by simp;omega)
 rw[hw5];have N1:=m0.later T1;have n0:=T1.block C1;rw[hrp]at n0;have W0:Later w w5:=F2.trans T1;have W1:rc+1+1+1<w5.heap.size:=Zb b3;clear hw5 m0 hl1 T1 C1 F2 hrb hZC;have k0:=Za b0 0
 go_upto_region 6 with(first
  |(go_at_call 54;(with_reducible refine(y2.out _ _ N1).mono ?_);rintro e w6 ⟨rfl,hr6,ho6⟩)
  |fail)
 have c0:=(ho6.block rc (Zb b0) (show ¬IsPb rb rc from λe=>by have:rc=rb:=e;omega)).trans b0;have c1:=(ho6.block _ (Zb b1) (show ¬IsPb rb _ from λe=>by have:rc+1=rb:=e;omega)).trans b1;have c2:=(ho6.block _ (Zb b2) (show ¬IsPb rb _ from λe=>by have:rc+1+1=rb:=e;omega)).trans b2;have c3:=(ho6.block _ (Zb b3) (show ¬IsPb rb _ from λe=>by have:rc+1+1+1=rb:=e;omega)).trans b3;have gz6:=(ho6.block rp (Zb n0) (show ¬IsPb rb rp from λe=>by have:rp=rb:=e;omega)).trans n0;have S1:Later w w6:=Below.trans W0 (Only.below ho6 W0.size (λk hk=>by have:k=rb:=hk;omega));have T2:=ho6.size;clear b0 b1 b2 b3 k0 n0 ho6 N1 W0;have k0:w6.cell? ⟨rc,0,none⟩=some (.pointer (some ⟨rb,0,none⟩)):=Za c0 0;have k1:=Za c1 0
 obtain⟨rt,hrt⟩:∃ rt,(MB.toList==[67,83,84,49])=rt:=⟨_,rfl⟩
 rw[hrt];have n2:=Hd hrt;clear hrt
 go_upto_region 7 with(first
  |(go_at_call 49;(with_reducible refine(H0.out _ _ _ hr6 k0).mono ?_);rintro e w7 ⟨rfl,hr7,ho7⟩)
  |fail)
 obtain⟨cb,hcb⟩:∃ cb,w7.heap.size=cb:=⟨_,rfl⟩
 rw[hcb]
 obtain⟨w8,hw8⟩:∃ w8,w7.alloc (.cells #[.int .i64 qa,.slice none 0 0,.slice none 0 0,.slice none 0 0,.slice none 0 0,.slice none 0 0,.int .i64 0,.int .i64 0,.int .i64 0,.int .i64 0,.int .i64 0,.int .i64 0,.slice none 0 0,.slice none 0 0,.string ⟨#[]⟩,.int .i64 0,.int .i64 0] 32)=w8:=⟨_,rfl⟩
 have C0:Later w7 w8:=by rw[<-hw8];exact(Later.refl w7).alloc _
 have E1:w8.heap[cb]?=some (.cells #[.int .i64 qa,.slice none 0 0,.slice none 0 0,.slice none 0 0,.slice none 0 0,.slice none 0 0,.int .i64 0,.int .i64 0,.int .i64 0,.int .i64 0,.int .i64 0,.int .i64 0,.slice none 0 0,.slice none 0 0,.string ⟨#[]⟩,.int .i64 0,.int .i64 0] 32 (0,0)):=by rw[<-hw8];exact Zq hcb
 rw[hw8];have d0:=C0.block ((ho7.block rc (Zb c0) (show ¬IsPb rb rc from λe=>by have:rc=rb:=e;omega)).trans c0);have d1:=C0.block ((ho7.block _ (Zb c1) (show ¬IsPb rb _ from λe=>by have:rc+1=rb:=e;omega)).trans c1);have d2:=C0.block ((ho7.block _ (Zb c2) (show ¬IsPb rb _ from λe=>by have:rc+1+1=rb:=e;omega)).trans c2);have d3:=C0.block ((ho7.block _ (Zb c3) (show ¬IsPb rb _ from λe=>by have:rc+1+1+1=rb:=e;omega)).trans c3);have gz8:=C0.block ((ho7.block rp (Zb gz6) (show ¬IsPb rb rp from λe=>by have:rp=rb:=e;omega)).trans gz6);have N0:Later w w8:=(Below.trans S1 (Only.below ho7 S1.size (λk hk=>by have:k=rb:=hk;omega))).trans (Below.mono C0 (by have:=ho7.size;have:=S1.size;omega));have M2:=hr7.later C0;have hcl:rc+1+1+1<cb:=by have:=ho7.size;omega
 have hcl8:=Zb E1;have HC:=Hd (λ(w':World) (h1:OnlyT rb cb rp w8 w')=>show w'.cell? ⟨rc,0,none⟩=some (.pointer (some ⟨rb,0,none⟩)) from Za ((h1.block rc (Zb d0) (show ¬Two rb cb rp rc from by unfold Two;omega)).trans d0) 0);have i0:=Hd (λ(w':World) (h1:OnlyT rb cb rp w8 w')=>show FnAt w' (rc+1) 49 rc from Za ((h1.block _ (Zb d1) (show ¬Two rb cb rp _ from by unfold Two;omega)).trans d1) 0);have h0:=Hd (λ(w':World) (h1:OnlyT rb cb rp w8 w')=>show FnAt w' (rc+1+1) 51 rc from Za ((h1.block _ (Zb d2) (show ¬Two rb cb rp _ from by unfold Two;omega)).trans d2) 0);have s0:=Hd (λ(w':World) (h1:OnlyT rb cb rp w8 w')=>show FnAt w' (rc+1+1+1) 52 rc from Za ((h1.block _ (Zb d3) (show ¬Two rb cb rp _ from by unfold Two;omega)).trans d3) 0);have i3:=Hd (λ(w':World) (h1:OnlyT rb cb rp w8 w')=>show Later w w' from Below.trans N0 (Only.below h1 N0.size (λk hk=>by rcases hk with hk|hk<;>omega)));have P2:=Hd (λ(w':World) (h1:OnlyT rb cb rp w8 w')=>(h1.block rp (Zb gz8) (show ¬Two rb cb rp rp from by unfold Two;omega)).trans gz8);have hrw:w.heap.size<=rp:=by omega
 have hrp8:=Zb gz8;clear hw8 C0 d0 d1 d2 d3 gz8 N0 hr7 ho7 c0 c1 c2 c3 gz6 S1 T2 k0 k1 hr6 hcb W1;have f3:OnlyT rb cb rp w8 w8:=Only.refl _ _
 have e0:OnlyT rb cb rp w8 w8:=(by repeat(first|assumption|exact Only.refl _ _|refine Only.drew ?_|refine OnlyT.setC ?_ _ _|refine OnlyT.thenP ?_ (by assumption)|refine OnlyT.then ?_ (by assumption)))
 have k0:=HC.out _ e0;have k1:=i0.out _ e0;have k2:=h0.out _ e0;have k3:=s0.out _ e0;unfold FnAt at k1 k2 k3
 go_upto_region 8 with(first
  |(go_at_call 55;(with_reducible refine(H1.out _ _ _ (rc+1) M2 k0 (by omega) (i0.out _ e0) (by omega)).mono ?_);rintro e w9 ⟨v1,rfl,hrow,hrx,hox⟩;obtain⟨a1,p1,rfl⟩:=hrow.val;have a0:=(hox.block cb (Zb E1) (show ¬IsPb rb cb from λe=>by have:cb=rb:=e;omega)).trans E1;have z1:=Za a0 1;have z2:=Zc a0 1;have z3:=Zb a0)
  |fail)
 obtain⟨w10,hwm⟩:∃ x,(w9.setCell ⟨cb,1,none⟩ (.slice a1 qf.length p1))=x:=⟨_,rfl⟩
 rw[hwm];have f0:¬ cb=rb:=by omega
 have v0:w10.heap[cb]?=some (.cells #[.int .i64 qa,.slice a1 qf.length p1,.slice none 0 0,.slice none 0 0,.slice none 0 0,.slice none 0 0,.int .i64 0,.int .i64 0,.int .i64 0,.int .i64 0,.int .i64 0,.int .i64 0,.slice none 0 0,.slice none 0 0,.string ⟨#[]⟩,.int .i64 0,.int .i64 0] 32 (0,0)):=by rw[<-hwm];exact(Zf a0 1 _).trans rfl
 have R1:RIn w10 rb S t2:=by rw[<-hwm];exact(RIn.setOther hrx f0 1 _)
 have S2:OnlyT rb cb rp w8 w10:=by rw[<-hwm];exact OnlyT.setC (OnlyT.of hox) _ _
 have g0:w8.heap.size<=w10.heap.size:=S2.size;have j0:cb<w8.heap.size:=Zb E1;have A1:=Hd (λ(w':World) (h1:OnlyU rb cb rp w10 w')=>show RowAt w' 2 (.slice a1 qf.length p1) (qf.map Xx) from((hrow.only (r:=Two rb cb rp) (by rw[<-hwm];exact OnlyT.setC (Only.refl _ _) _ _) (λb hb _ hk=>by rcases hk with hk|hk<;>omega)).only h1 (λb hb _ hk=>by rcases hk with hk|hk|hk<;>omega)).row);clear hwm e0 k0 k1 k2 k3 hrow hrx hox a0 z1 z2 z3 g0 j0 E1 M2
 have e0:OnlyT rb cb rp w8 w10:=(by repeat(first|assumption|exact Only.refl _ _|refine Only.drew ?_|refine OnlyT.setC ?_ _ _|refine OnlyT.thenP ?_ (by assumption)|refine OnlyT.then ?_ (by assumption)))
 have k0:=HC.out _ e0;have k1:=i0.out _ e0;have k2:=h0.out _ e0;have k3:=s0.out _ e0;unfold FnAt at k1 k2 k3
 go_upto_region 9 with(first
  |(go_at_call 57;(with_reducible refine(H2.out _ _ _ (rc+1) R1 k0 (by omega) (i0.out _ e0) (by omega)).mono ?_);rintro e w11 ⟨v2,rfl,hrow,hrx,hox⟩;obtain⟨a2,p2,rfl⟩:=hrow.val;have a0:=(hox.block cb (Zb v0) (show ¬IsPb rb cb from λe=>by have:cb=rb:=e;omega)).trans v0;have z1:=Za a0 2;have z2:=Zc a0 2;have z3:=Zb a0)
  |fail)
 obtain⟨w12,hwm⟩:∃ x,(w11.setCell ⟨cb,2,none⟩ (.slice a2 qp.length p2))=x:=⟨_,rfl⟩
 rw[hwm];have f0:¬ cb=rb:=by omega
 have q0:w12.heap[cb]?=some (.cells #[.int .i64 qa,.slice a1 qf.length p1,.slice a2 qp.length p2,.slice none 0 0,.slice none 0 0,.slice none 0 0,.int .i64 0,.int .i64 0,.int .i64 0,.int .i64 0,.int .i64 0,.int .i64 0,.slice none 0 0,.slice none 0 0,.string ⟨#[]⟩,.int .i64 0,.int .i64 0] 32 (0,0)):=by rw[<-hwm];exact(Zf a0 2 _).trans rfl
 have i1:RIn w12 rb S t3:=by rw[<-hwm];exact(RIn.setOther hrx f0 2 _)
 have R2:OnlyT rb cb rp w10 w12:=by rw[<-hwm];exact OnlyT.setC (OnlyT.of hox) _ _
 have g0:w10.heap.size<=w12.heap.size:=R2.size;have j0:cb<w10.heap.size:=Zb v0;have j1:=Hd (λ(w':World) (h1:OnlyU rb cb rp w12 w')=>show RowAt w' 2 (.slice a2 qp.length p2) (qp.map XQ) from((hrow.only (r:=Two rb cb rp) (by rw[<-hwm];exact OnlyT.setC (Only.refl _ _) _ _) (λb hb _ hk=>by rcases hk with hk|hk<;>omega)).only h1 (λb hb _ hk=>by rcases hk with hk|hk|hk<;>omega)).row);clear hwm e0 k0 k1 k2 k3 hrow hrx hox a0 z1 z2 z3 g0 j0 v0 R1
 have e0:OnlyT rb cb rp w8 w12:=(by repeat(first|assumption|exact Only.refl _ _|refine Only.drew ?_|refine OnlyT.setC ?_ _ _|refine OnlyT.thenP ?_ (by assumption)|refine OnlyT.then ?_ (by assumption)))
 have k0:=HC.out _ e0;have k1:=i0.out _ e0;have k2:=h0.out _ e0;have k3:=s0.out _ e0;unfold FnAt at k1 k2 k3
 go_upto_region 10 with(first
  |(go_at_call 59;(with_reducible refine(H3.out _ _ _ (rc+1) i1 k0 (by omega) (i0.out _ e0) (by omega)).mono ?_);rintro e w13 ⟨v3,rfl,hrow,hrx,hox⟩;obtain⟨a3,p3,rfl⟩:=hrow.val;have a0:=(hox.block cb (Zb q0) (show ¬IsPb rb cb from λe=>by have:cb=rb:=e;omega)).trans q0;have z1:=Za a0 3;have z2:=Zc a0 3;have z3:=Zb a0)
  |fail)
 obtain⟨w14,hwm⟩:∃ x,(w13.setCell ⟨cb,3,none⟩ (.slice a3 qwn.length p3))=x:=⟨_,rfl⟩
 rw[hwm];have f0:¬ cb=rb:=by omega
 have A0:w14.heap[cb]?=some (.cells #[.int .i64 qa,.slice a1 qf.length p1,.slice a2 qp.length p2,.slice a3 qwn.length p3,.slice none 0 0,.slice none 0 0,.int .i64 0,.int .i64 0,.int .i64 0,.int .i64 0,.int .i64 0,.int .i64 0,.slice none 0 0,.slice none 0 0,.string ⟨#[]⟩,.int .i64 0,.int .i64 0] 32 (0,0)):=by rw[<-hwm];exact(Zf a0 3 _).trans rfl
 have I1:RIn w14 rb S t4:=by rw[<-hwm];exact(RIn.setOther hrx f0 3 _)
 have O2:OnlyT rb cb rp w12 w14:=by rw[<-hwm];exact OnlyT.setC (OnlyT.of hox) _ _
 have g0:w12.heap.size<=w14.heap.size:=O2.size;have j0:cb<w12.heap.size:=Zb q0;have m1:=Hd (λ(w':World) (h1:OnlyU rb cb rp w14 w')=>show RowAt w' 3 (.slice a3 qwn.length p3) (qwn.map winC) from((hrow.only (r:=Two rb cb rp) (by rw[<-hwm];exact OnlyT.setC (Only.refl _ _) _ _) (λb hb _ hk=>by rcases hk with hk|hk<;>omega)).only h1 (λb hb _ hk=>by rcases hk with hk|hk|hk<;>omega)).row);clear hwm e0 k0 k1 k2 k3 hrow hrx hox a0 z1 z2 z3 g0 j0 q0 i1
 have e0:OnlyT rb cb rp w8 w14:=(by repeat(first|assumption|exact Only.refl _ _|refine Only.drew ?_|refine OnlyT.setC ?_ _ _|refine OnlyT.thenP ?_ (by assumption)|refine OnlyT.then ?_ (by assumption)))
 have k0:=HC.out _ e0;have k1:=i0.out _ e0;have k2:=h0.out _ e0;have k3:=s0.out _ e0;unfold FnAt at k1 k2 k3
 go_upto_region 11 with(first
  |(go_at_call 61;(with_reducible refine(H4.out _ _ _ (rc+1) I1 k0 (by omega) (i0.out _ e0) (by omega)).mono ?_);rintro e w15 ⟨v4,rfl,hrow,hrx,hox⟩;obtain⟨a4,p4,rfl⟩:=hrow.val;have a0:=(hox.block cb (Zb A0) (show ¬IsPb rb cb from λe=>by have:cb=rb:=e;omega)).trans A0;have z1:=Za a0 4;have z2:=Zc a0 4;have z3:=Zb a0)
  |fail)
 obtain⟨w16,hwm⟩:∃ x,(w15.setCell ⟨cb,4,none⟩ (.slice a4 qpo.length p4))=x:=⟨_,rfl⟩
 rw[hwm];have f0:¬ cb=rb:=by omega
 have z0:w16.heap[cb]?=some (.cells #[.int .i64 qa,.slice a1 qf.length p1,.slice a2 qp.length p2,.slice a3 qwn.length p3,.slice a4 qpo.length p4,.slice none 0 0,.int .i64 0,.int .i64 0,.int .i64 0,.int .i64 0,.int .i64 0,.int .i64 0,.slice none 0 0,.slice none 0 0,.string ⟨#[]⟩,.int .i64 0,.int .i64 0] 32 (0,0)):=by rw[<-hwm];exact(Zf a0 4 _).trans rfl
 have s1:RIn w16 rb S t5:=by rw[<-hwm];exact(RIn.setOther hrx f0 4 _)
 have m3:OnlyT rb cb rp w14 w16:=by rw[<-hwm];exact OnlyT.setC (OnlyT.of hox) _ _
 have g0:w14.heap.size<=w16.heap.size:=m3.size;have j0:cb<w14.heap.size:=Zb A0;have y1:=Hd (λ(w':World) (h1:OnlyU rb cb rp w16 w')=>show RowAt w' 5 (.slice a4 qpo.length p4) (qpo.map porC) from((hrow.only (r:=Two rb cb rp) (by rw[<-hwm];exact OnlyT.setC (Only.refl _ _) _ _) (λb hb _ hk=>by rcases hk with hk|hk<;>omega)).only h1 (λb hb _ hk=>by rcases hk with hk|hk|hk<;>omega)).row);clear hwm e0 k0 k1 k2 k3 hrow hrx hox a0 z1 z2 z3 g0 j0 A0 I1
 have e0:OnlyT rb cb rp w8 w16:=(by repeat(first|assumption|exact Only.refl _ _|refine Only.drew ?_|refine OnlyT.setC ?_ _ _|refine OnlyT.thenP ?_ (by assumption)|refine OnlyT.then ?_ (by assumption)))
 have k0:=HC.out _ e0;have k1:=i0.out _ e0;have k2:=h0.out _ e0;have k3:=s0.out _ e0;unfold FnAt at k1 k2 k3
 go_upto_region 12 with(first
  |(go_at_call 63;(with_reducible refine(H5.out _ _ _ (rc+1) (rc+1+1) s1 k0 (by omega) (i0.out _ e0) (by omega) (h0.out _ e0) (by omega)).mono ?_);rintro e w17 ⟨v5,rfl,hrow,hrx,hox⟩;obtain⟨a5,p5,rfl⟩:=hrow.val;have a0:=(hox.block cb (Zb z0) (show ¬IsPb rb cb from λe=>by have:cb=rb:=e;omega)).trans z0;have z1:=Za a0 5;have z2:=Zc a0 5;have z3:=Zb a0)
  |fail)
 obtain⟨w18,hwm⟩:∃ x,(w17.setCell ⟨cb,5,none⟩ (.slice a5 qv.length p5))=x:=⟨_,rfl⟩
 rw[hwm];have f0:¬ cb=rb:=by omega
 have M0:w18.heap[cb]?=some (.cells #[.int .i64 qa,.slice a1 qf.length p1,.slice a2 qp.length p2,.slice a3 qwn.length p3,.slice a4 qpo.length p4,.slice a5 qv.length p5,.int .i64 0,.int .i64 0,.int .i64 0,.int .i64 0,.int .i64 0,.int .i64 0,.slice none 0 0,.slice none 0 0,.string ⟨#[]⟩,.int .i64 0,.int .i64 0] 32 (0,0)):=by rw[<-hwm];exact(Zf a0 5 _).trans rfl
 have K1:RIn w18 rb S t6:=by rw[<-hwm];exact(RIn.setOther hrx f0 5 _)
 have o3:OnlyT rb cb rp w16 w18:=by rw[<-hwm];exact OnlyT.setC (OnlyT.of hox) _ _
 have g0:w16.heap.size<=w18.heap.size:=o3.size;have j0:cb<w16.heap.size:=Zb z0;have q1:=Hd (λ(w':World) (h1:OnlyU rb cb rp w18 w')=>show RowAt w' 4 (.slice a5 qv.length p5) (qv.map volC) from((hrow.only (r:=Two rb cb rp) (by rw[<-hwm];exact OnlyT.setC (Only.refl _ _) _ _) (λb hb _ hk=>by rcases hk with hk|hk<;>omega)).only h1 (λb hb _ hk=>by rcases hk with hk|hk|hk<;>omega)).row);clear hwm e0 k0 k1 k2 k3 hrow hrx hox a0 z1 z2 z3 g0 j0 z0 s1
 have e0:OnlyT rb cb rp w8 w18:=(by repeat(first|assumption|exact Only.refl _ _|refine Only.drew ?_|refine OnlyT.setC ?_ _ _|refine OnlyT.thenP ?_ (by assumption)|refine OnlyT.then ?_ (by assumption)))
 have f0:¬ cb=rb:=by omega
 have F0:=Hd (λ(w1:World) (s:RSt) (h1:OnlyT rb cb rp w8 w1) (h2:RIn w1 rb S s)=>show Calls Tryz.prog 51 #[.pointer (some ⟨rc,0,none⟩)] w1 (ZZ rb S (.int .i64 (getN 2 s).1) (getN 2 s).2 w1) from B5 w1 rb rc S s h2 hS (HC.out w1 h1));have I0:=Hd (λ(w':World) (h1:Zp rb w18 w')=>(h1.block cb (Zb M0) (show ¬IsPb rb cb from f0)).trans M0);have o1:=Hd (λ(w':World) (h1:Zp rb w18 w')=>OnlyT.thenP e0 h1);have k2:=h0.out _ e0;unfold FnAt at k2;have O1:Zp rb w18 w18:=Only.refl _ _;have m0:=RIn.drewW K1
 obtain⟨wo,hwo⟩:∃ wo:World,wo=w18:=⟨_,rfl⟩
 go_upto_region 12 with fail
 go_cut [] from 43 to 50 (λwx=>wx.heap[cb]?=some (.cells #[.int .i64 qa,.slice a1 qf.length p1,.slice a2 qp.length p2,.slice a3 qwn.length p3,.slice a4 qpo.length p4,.slice a5 qv.length p5,.int .i64 0,.int .i64 (getN 2 t6).1,.int .i64 (getN 2 (getN 2 t6).2).1,.int .i64 (getN 2 (getN 2 (getN 2 t6).2).2).1,.int .i64 0,.int .i64 0,.slice none 0 0,.slice none 0 0,.string ⟨#[]⟩,.int .i64 0,.int .i64 0] 32 (0,0))/\RIn wx rb S (getN 2 (getN 2 (getN 2 t6).2).2).2/\OnlyT rb cb rp w18 wx)
 case first=>
  go_region_held3 (fun w'=>w'.cell? ⟨rc+1+1,0,none⟩=some (.func (.func 51) #[] #[.pointer (some ⟨rc,0,none⟩)]))
   (exact h0.out _ (by repeat(first|assumption|exact Only.refl _ _|refine Only.drew ?_|refine OnlyT.setC ?_ _ _|refine OnlyT.thenP ?_ (by assumption)|refine OnlyT.then ?_ (by assumption))))
   (first
    |(go_at_call 51;(with_reducible refine(F0.out _ _ (by repeat(first|assumption|exact Only.refl _ _|refine Only.drew ?_|refine OnlyT.setC ?_ _ _|refine OnlyT.thenP ?_ (by assumption)|refine OnlyT.then ?_ (by assumption))) (by assumption)).mono ?_);rintro e w2 ⟨rfl,hrx,hox⟩;have r1:=RIn.drewW hrx;have l0:Zp rb w18 w2:=(by repeat(first|assumption|refine Only.drew ?_|refine Only.thenP ?_ (by assumption)));have a0:=I0.out w2 l0;have z6:=Za a0 6;have y6:=Zc a0 6;have z7:=Za a0 7;have y7:=Zc a0 7;have z8:=Za a0 8;have y8:=Zc a0 8;have z9:=Za a0 9;have y9:=Zc a0 9;have C2:=Zb a0;have M1:=Hd a0;clear a0)
    |fail)
  all_goals
   go_wp2_with fail
   go_meet
   case rel=>
    have a0:=M1.out;exact⟨(Zf (Zf (Zf (Zf a0 6 _) 7 _) 8 _) 9 _).trans rfl,(RIn.setOther (RIn.setOther (RIn.setOther (RIn.setOther hrx f0 6 _) f0 7 _) f0 8 _) f0 9 _),(by repeat(first|assumption|exact Only.refl _ _|refine Only.drew ?_|refine OnlyT.setC ?_ _ _|refine OnlyT.thenP ?_ (by assumption)|refine OnlyT.then ?_ (by assumption)))⟩
 case rest=>
  obtain⟨hbc,hrc',hTc⟩:=hcut
  obtain⟨w19,hwm⟩:∃ x,wc=x:=⟨_,rfl⟩
  rw[hwm]at hbc hrc' hTc ⊢;obtain⟨⟨⟨e1,e2⟩,e3,e4⟩,⟨e5,e6⟩,-⟩:=r2.out;simp only[e1,e2,e3,e4,e5,e6]at hrc' hbc;have R0:w19.heap[cb]?=some (.cells #[.int .i64 qa,.slice a1 qf.length p1,.slice a2 qp.length p2,.slice a3 qwn.length p3,.slice a4 qpo.length p4,.slice a5 qv.length p5,.int .i64 0,.int .i64 qx,.int .i64 qy,.int .i64 qz,.int .i64 0,.int .i64 0,.slice none 0 0,.slice none 0 0,.string ⟨#[]⟩,.int .i64 0,.int .i64 0] 32 (0,0)):=hbc;have l1:RIn w19 rb S t9:=hrc';have hT6:OnlyT rb cb rp w18 w19:=hTc;clear hwm hbc hrc' hTc e0 f0 F0 I0 o1 k2 O1 m0 M0 K1 e1 e2 e3 e4 e5 e6
  have e0:OnlyT rb cb rp w8 w19:=(by repeat(first|assumption|exact Only.refl _ _|refine Only.drew ?_|refine OnlyT.setC ?_ _ _|refine OnlyT.thenP ?_ (by assumption)|refine OnlyT.then ?_ (by assumption)))
  have f0:¬ cb=rb:=by omega
  have F0:=Hd (λ(w1:World) (s:RSt) (h1:OnlyT rb cb rp w8 w1) (h2:RIn w1 rb S s)=>show Calls Tryz.prog 51 #[.pointer (some ⟨rc,0,none⟩)] w1 (ZZ rb S (.int .i64 (getN 2 s).1) (getN 2 s).2 w1) from B5 w1 rb rc S s h2 hS (HC.out w1 h1));have I0:=Hd (λ(w':World) (h1:Zp rb w19 w')=>(h1.block cb (Zb R0) (show ¬IsPb rb cb from f0)).trans R0);have o1:=Hd (λ(w':World) (h1:Zp rb w19 w')=>OnlyT.thenP e0 h1);have k2:=h0.out _ e0;unfold FnAt at k2;have O1:Zp rb w19 w19:=Only.refl _ _;have m0:=RIn.drewW l1
  obtain⟨wo,hwo⟩:∃ wo:World,wo=w19:=⟨_,rfl⟩
  go_upto_region 13 with fail
  go_cut [] from 51 to 56 (λwx=>wx.heap[cb]?=some (.cells #[.int .i64 qa,.slice a1 qf.length p1,.slice a2 qp.length p2,.slice a3 qwn.length p3,.slice a4 qpo.length p4,.slice a5 qv.length p5,.int .i64 0,.int .i64 qx,.int .i64 qy,.int .i64 qz,.int .i64 (getN 2 t9).1,.int .i64 (getN 2 (getN 2 t9).2).1,.slice none 0 0,.slice none 0 0,.string ⟨#[]⟩,.int .i64 0,.int .i64 0] 32 (0,0))/\RIn wx rb S (getN 2 (getN 2 t9).2).2/\OnlyT rb cb rp w19 wx)
  case first=>
   go_region_held3 (fun w'=>w'.cell? ⟨rc+1+1,0,none⟩=some (.func (.func 51) #[] #[.pointer (some ⟨rc,0,none⟩)]))
    (exact h0.out _ (by repeat(first|assumption|exact Only.refl _ _|refine Only.drew ?_|refine OnlyT.setC ?_ _ _|refine OnlyT.thenP ?_ (by assumption)|refine OnlyT.then ?_ (by assumption))))
    (first
     |(go_at_call 51;(with_reducible refine(F0.out _ _ (by repeat(first|assumption|exact Only.refl _ _|refine Only.drew ?_|refine OnlyT.setC ?_ _ _|refine OnlyT.thenP ?_ (by assumption)|refine OnlyT.then ?_ (by assumption))) (by assumption)).mono ?_);rintro e w2 ⟨rfl,hrx,hox⟩;have r1:=RIn.drewW hrx;have l0:Zp rb w19 w2:=(by repeat(first|assumption|refine Only.drew ?_|refine Only.thenP ?_ (by assumption)));have a0:=I0.out w2 l0;have z10:=Za a0 10;have y10:=Zc a0 10;have z11:=Za a0 11;have y11:=Zc a0 11;have C2:=Zb a0;have M1:=Hd a0;clear a0)
     |fail)
   all_goals
    go_wp2_with fail
    go_meet
    case rel=>
     have a0:=M1.out;exact⟨(Zf (Zf a0 10 _) 11 _).trans rfl,(RIn.setOther (RIn.setOther hrx f0 10 _) f0 11 _),(by repeat(first|assumption|exact Only.refl _ _|refine Only.drew ?_|refine OnlyT.setC ?_ _ _|refine OnlyT.thenP ?_ (by assumption)|refine OnlyT.then ?_ (by assumption)))⟩
  case rest=>
   obtain⟨hbc,hrc',hTc⟩:=hcut
   obtain⟨w20,hwm⟩:∃ x,wc=x:=⟨_,rfl⟩
   rw[hwm]at hbc hrc' hTc ⊢;obtain⟨-, -, ⟨e1,e2⟩,e3,e4⟩:=r2.out;simp only[e1,e2,e3,e4]at hrc' hbc;have y0:w20.heap[cb]?=some (.cells #[.int .i64 qa,.slice a1 qf.length p1,.slice a2 qp.length p2,.slice a3 qwn.length p3,.slice a4 qpo.length p4,.slice a5 qv.length p5,.int .i64 0,.int .i64 qx,.int .i64 qy,.int .i64 qz,.int .i64 qbo,.int .i64 qsc,.slice none 0 0,.slice none 0 0,.string ⟨#[]⟩,.int .i64 0,.int .i64 0] 32 (0,0)):=hbc;have F1:RIn w20 rb S t11:=hrc';have hT9:OnlyT rb cb rp w19 w20:=hTc;clear hwm hbc hrc' hTc e0 f0 F0 I0 o1 k2 O1 m0 R0 l1 e1 e2 e3 e4
   have e0:OnlyT rb cb rp w8 w20:=(by repeat(first|assumption|exact Only.refl _ _|refine Only.drew ?_|refine OnlyT.setC ?_ _ _|refine OnlyT.thenP ?_ (by assumption)|refine OnlyT.then ?_ (by assumption)))
   have k0:=HC.out _ e0;have k1:=i0.out _ e0;have k2:=h0.out _ e0;have k3:=s0.out _ e0;unfold FnAt at k1 k2 k3
   go_upto_region 15 with(first
    |(go_at_call 65;(with_reducible refine(I2.out _ _ _ (rc+1) (rc+1+1+1) F1 k0 (by omega) (i0.out _ e0) (by omega) (s0.out _ e0) (by omega)).mono ?_);rintro e w21 ⟨v11,rfl,hrow,hrx,hox⟩;obtain⟨a11,p11,rfl⟩:=hrow.val;have a0:=(hox.block cb (Zb y0) (show ¬IsPb rb cb from λe=>by have:cb=rb:=e;omega)).trans y0;have z1:=Za a0 12;have z2:=Zc a0 12;have z3:=Zb a0)
    |fail)
   obtain⟨w22,hwm⟩:∃ x,(w21.setCell ⟨cb,12,none⟩ (.slice a11 qr.length p11))=x:=⟨_,rfl⟩
   rw[hwm];have f0:¬ cb=rb:=by omega
   have p0:w22.heap[cb]?=some (.cells #[.int .i64 qa,.slice a1 qf.length p1,.slice a2 qp.length p2,.slice a3 qwn.length p3,.slice a4 qpo.length p4,.slice a5 qv.length p5,.int .i64 0,.int .i64 qx,.int .i64 qy,.int .i64 qz,.int .i64 qbo,.int .i64 qsc,.slice a11 qr.length p11,.slice none 0 0,.string ⟨#[]⟩,.int .i64 0,.int .i64 0] 32 (0,0)):=by rw[<-hwm];exact(Zf a0 12 _).trans rfl
   have L1:RIn w22 rb S t12:=by rw[<-hwm];exact(RIn.setOther hrx f0 12 _)
   have f2:OnlyT rb cb rp w20 w22:=by rw[<-hwm];exact OnlyT.setC (OnlyT.of hox) _ _
   have g0:w20.heap.size<=w22.heap.size:=f2.size;have j0:cb<w20.heap.size:=Zb y0;have T0:=Hd (λ(w':World) (h1:OnlyU rb cb rp w22 w')=>show RowAt w' 5 (.slice a11 qr.length p11) (qr.map ruC) from((hrow.only (r:=Two rb cb rp) (by rw[<-hwm];exact OnlyT.setC (Only.refl _ _) _ _) (λb hb _ hk=>by rcases hk with hk|hk<;>omega)).only h1 (λb hb _ hk=>by rcases hk with hk|hk|hk<;>omega)).row);clear hwm e0 k0 k1 k2 k3 hrow hrx hox a0 z1 z2 z3 g0 j0 y0 F1
   have e0:OnlyT rb cb rp w8 w22:=(by repeat(first|assumption|exact Only.refl _ _|refine Only.drew ?_|refine OnlyT.setC ?_ _ _|refine OnlyT.thenP ?_ (by assumption)|refine OnlyT.then ?_ (by assumption)))
   have k0:=HC.out _ e0;have k1:=i0.out _ e0;have k2:=h0.out _ e0;have k3:=s0.out _ e0;unfold FnAt at k1 k2 k3
   go_upto_region 16 with(first
    |(go_at_call 67;(with_reducible refine(L2.out _ _ _  L1 k0 (by omega) ).mono ?_);rintro e w23 ⟨v12,rfl,hrow,hrx,hox⟩;obtain⟨a12,p12,rfl⟩:=hrow.val;have a0:=(hox.block cb (Zb p0) (show ¬IsPb rb cb from λe=>by have:cb=rb:=e;omega)).trans p0;have z1:=Za a0 13;have z2:=Zc a0 13;have z3:=Zb a0)
    |fail)
   obtain⟨w24,hwm⟩:∃ x,(w23.setCell ⟨cb,13,none⟩ (.slice a12 qk.length p12))=x:=⟨_,rfl⟩
   rw[hwm];have f0:¬ cb=rb:=by omega
   have K0:w24.heap[cb]?=some (.cells #[.int .i64 qa,.slice a1 qf.length p1,.slice a2 qp.length p2,.slice a3 qwn.length p3,.slice a4 qpo.length p4,.slice a5 qv.length p5,.int .i64 0,.int .i64 qx,.int .i64 qy,.int .i64 qz,.int .i64 qbo,.int .i64 qsc,.slice a11 qr.length p11,.slice a12 qk.length p12,.string ⟨#[]⟩,.int .i64 0,.int .i64 0] 32 (0,0)):=by rw[<-hwm];exact(Zf a0 13 _).trans rfl
   have n1:RIn w24 rb S t13:=by rw[<-hwm];exact(RIn.setOther hrx f0 13 _)
   have o2:OnlyT rb cb rp w22 w24:=by rw[<-hwm];exact OnlyT.setC (OnlyT.of hox) _ _
   have g0:w22.heap.size<=w24.heap.size:=o2.size;have j0:cb<w22.heap.size:=Zb p0;have L0:=Hd (λ(w':World) (h1:OnlyU rb cb rp w24 w')=>show RowAt w' 1 (.slice a12 qk.length p12) (qk.map keyC) from((hrow.only (r:=Two rb cb rp) (by rw[<-hwm];exact OnlyT.setC (Only.refl _ _) _ _) (λb hb _ hk=>by rcases hk with hk|hk<;>omega)).only h1 (λb hb _ hk=>by rcases hk with hk|hk|hk<;>omega)).row);clear hwm e0 k0 k1 k2 k3 hrow hrx hox a0 z1 z2 z3 g0 j0 p0 L1
   have e0:OnlyT rb cb rp w8 w24:=(by repeat(first|assumption|exact Only.refl _ _|refine Only.drew ?_|refine OnlyT.setC ?_ _ _|refine OnlyT.thenP ?_ (by assumption)|refine OnlyT.then ?_ (by assumption)))
   have k0:=HC.out _ e0;have k3:=s0.out _ e0;unfold FnAt at k3
   go_upto_region 17 with(first
    |(go_at_call 52;(with_reducible refine(A2.out _ _ _ n1 k0).mono ?_);rintro e w25 ⟨rfl,hrx,hox⟩;have a0:=(hox.block cb (Zb K0) (show ¬IsPb rb cb from λe=>by have:cb=rb:=e;omega)).trans K0;have z1:=Za a0 14;have z2:=Zc a0 14;have z3:=Zb a0)
    |fail)
   obtain⟨w26,hwm⟩:∃ x,(w25.setCell ⟨cb,14,none⟩ (.string ql))=x:=⟨_,rfl⟩
   rw[hwm];have f0:¬ cb=rb:=by omega
   have P0:w26.heap[cb]?=some (.cells #[.int .i64 qa,.slice a1 qf.length p1,.slice a2 qp.length p2,.slice a3 qwn.length p3,.slice a4 qpo.length p4,.slice a5 qv.length p5,.int .i64 0,.int .i64 qx,.int .i64 qy,.int .i64 qz,.int .i64 qbo,.int .i64 qsc,.slice a11 qr.length p11,.slice a12 qk.length p12,.string ql,.int .i64 0,.int .i64 0] 32 (0,0)):=by rw[<-hwm];exact(Zf a0 14 _).trans rfl
   have J1:RIn w26 rb S t14:=by rw[<-hwm];exact(RIn.setOther hrx f0 14 _)
   have hT13:OnlyT rb cb rp w24 w26:=by rw[<-hwm];exact OnlyT.setC (OnlyT.of hox) _ _
   clear hwm e0 k0 k3 hrx hox a0 z1 z2 z3 K0 n1
   have e0:OnlyT rb cb rp w8 w26:=(by repeat(first|assumption|exact Only.refl _ _|refine Only.drew ?_|refine OnlyT.setC ?_ _ _|refine OnlyT.thenP ?_ (by assumption)|refine OnlyT.then ?_ (by assumption)))
   have f0:¬ cb=rb:=by omega
   have F0:=Hd (λ(w1:World) (s:RSt) (h1:OnlyT rb cb rp w8 w1) (h2:RIn w1 rb S s)=>show Calls Tryz.prog 51 #[.pointer (some ⟨rc,0,none⟩)] w1 (ZZ rb S (.int .i64 (getN 2 s).1) (getN 2 s).2 w1) from B5 w1 rb rc S s h2 hS (HC.out w1 h1));have I0:=Hd (λ(w':World) (h1:Zp rb w26 w')=>(h1.block cb (Zb P0) (show ¬IsPb rb cb from f0)).trans P0);have o1:=Hd (λ(w':World) (h1:Zp rb w26 w')=>OnlyT.thenP e0 h1);have k2:=h0.out _ e0;unfold FnAt at k2;have O1:Zp rb w26 w26:=Only.refl _ _;have m0:=RIn.drewW J1
   obtain⟨wo,hwo⟩:∃ wo:World,wo=w26:=⟨_,rfl⟩
   go_upto_region 17 with fail
   go_cut [] from 68 to 73 (λwx=>wx.heap[cb]?=some (.cells #[.int .i64 qa,.slice a1 qf.length p1,.slice a2 qp.length p2,.slice a3 qwn.length p3,.slice a4 qpo.length p4,.slice a5 qv.length p5,.int .i64 0,.int .i64 qx,.int .i64 qy,.int .i64 qz,.int .i64 qbo,.int .i64 qsc,.slice a11 qr.length p11,.slice a12 qk.length p12,.string ql,.int .i64 (getN 2 t14).1,.int .i64 (getN 2 (getN 2 t14).2).1] 32 (0,0))/\RIn wx rb S (getN 2 (getN 2 t14).2).2/\OnlyT rb cb rp w26 wx)
   case first=>
    go_region_held3 (fun w'=>w'.cell? ⟨rc+1+1,0,none⟩=some (.func (.func 51) #[] #[.pointer (some ⟨rc,0,none⟩)]))
     (exact h0.out _ (by repeat(first|assumption|exact Only.refl _ _|refine Only.drew ?_|refine OnlyT.setC ?_ _ _|refine OnlyT.thenP ?_ (by assumption)|refine OnlyT.then ?_ (by assumption))))
     (first
      |(go_at_call 51;(with_reducible refine(F0.out _ _ (by repeat(first|assumption|exact Only.refl _ _|refine Only.drew ?_|refine OnlyT.setC ?_ _ _|refine OnlyT.thenP ?_ (by assumption)|refine OnlyT.then ?_ (by assumption))) (by assumption)).mono ?_);rintro e w2 ⟨rfl,hrx,hox⟩;have r1:=RIn.drewW hrx;have l0:Zp rb w26 w2:=(by repeat(first|assumption|refine Only.drew ?_|refine Only.thenP ?_ (by assumption)));have a0:=I0.out w2 l0;have z15:=Za a0 15;have y15:=Zc a0 15;have z16:=Za a0 16;have y16:=Zc a0 16;have C2:=Zb a0;have M1:=Hd a0;clear a0)
      |fail)
    all_goals
     go_wp2_with fail
     go_meet
     case rel=>
      have a0:=M1.out;exact⟨(Zf (Zf a0 15 _) 16 _).trans rfl,(RIn.setOther (RIn.setOther hrx f0 15 _) f0 16 _),(by repeat(first|assumption|exact Only.refl _ _|refine Only.drew ?_|refine OnlyT.setC ?_ _ _|refine OnlyT.thenP ?_ (by assumption)|refine OnlyT.then ?_ (by assumption)))⟩
   case rest=>
    obtain⟨hbc,hrc',hTc⟩:=hcut
    obtain⟨w27,hwm⟩:∃ x,wc=x:=⟨_,rfl⟩
    rw[hwm]at hbc hrc' hTc ⊢;obtain⟨⟨e1,e2⟩,e3,e4⟩:=n3.out;simp only[e1,e2,e3,e4]at hrc' hbc;have r0:w27.heap[cb]?=some (.cells #[.int .i64 qa,.slice a1 qf.length p1,.slice a2 qp.length p2,.slice a3 qwn.length p3,.slice a4 qpo.length p4,.slice a5 qv.length p5,.int .i64 0,.int .i64 qx,.int .i64 qy,.int .i64 qz,.int .i64 qbo,.int .i64 qsc,.slice a11 qr.length p11,.slice a12 qk.length p12,.string ql,.int .i64 qm,.int .i64 qn] 32 (0,0)):=hbc;have P1:RIn w27 rb S t16:=hrc';have hT14:OnlyT rb cb rp w26 w27:=hTc;clear hwm hbc hrc' hTc e0 f0 F0 I0 o1 k2 O1 m0 P0 J1 e1 e2 e3 e4
    have e0:OnlyT rb cb rp w8 w27:=(by repeat(first|assumption|exact Only.refl _ _|refine Only.drew ?_|refine OnlyT.setC ?_ _ _|refine OnlyT.thenP ?_ (by assumption)|refine OnlyT.then ?_ (by assumption)))
    have k0:=HC.out _ e0;have HD:=Hd (ZeO w27 rb S t16 P1 hS)
    obtain⟨C,hC⟩:∃ C:Array Value,#[.int .i64 qa,.slice a1 qf.length p1,.slice a2 qp.length p2,.slice a3 qwn.length p3,.slice a4 qpo.length p4,.slice a5 qv.length p5,.int .i64 0,.int .i64 qx,.int .i64 qy,.int .i64 qz,.int .i64 qbo,.int .i64 qsc,.slice a11 qr.length p11,.slice a12 qk.length p12,.string ql,.int .i64 qm,.int .i64 qn]=C:=⟨_,rfl⟩
    rw[hC]at r0;have l3:=Hd hC;have O0:=Hd (show(Tryz.prog.info? 32).map (·.size)=some C.size by rw[<-hC];exact Zat);have o0:=Hd (show(Tryz.prog.info? 32).map (·.size)=some ZC.size by rw[<-S0.out];exact Zat);have j3:=Hd (show C.size=ZC.size by rw[<-hC,<-S0.out];rfl);have Z2:=Hd (show C.all (·.oneCell')=true by rw[<-hC];simp[Value.oneCell']);have s2:=Hd (show ZC.all (·.oneCell')=true by rw[<-S0.out];simp[Value.oneCell']);clear hC
    go_upto_region 19 with(first
     |(go_at_call 68;(with_reducible refine HD.out.mono ?_);rintro e wd ⟨q,m,rfl,hq,hod⟩)
     |fail)
    have K2:=(hod.block cb (Zb r0) (show ¬IsPb rb cb from λe=>by have:cb=rb:=e;omega)).trans r0;have E2:OnlyT rb cb rp w27 wd:=OnlyT.of hod;have C1:=P2.out wd (OnlyT.then e0 E2);have i2:=i3.out wd (OnlyT.then e0 E2);have J2:=Hd hq;have g3:=Hd K2;have f1:=Hd C1;clear hq K2 C1 hod k0 r0 P1;rcases(show(q != 0)=true\/((q != 0)=false/\rt=false)\/((q != 0)=false/\rt=true) by cases(q != 0)<;>cases rt<;>simp) with hqb|⟨hqb,rfl⟩|⟨hqb,rfl⟩
    ·have HN:=Hd (Zac (c:=⟨qa,qf,qp,qwn,qpo,qv,⟨0,qx,qy,qz⟩,qbo,qsc,qr,qk,ql,qm,qn⟩) q2.out n2.out m2.out HG.out (.inr (λe=>by have:=J2.out.2 e;rw[this]at hqb;simp at hqb)));have W2:=S0.out
     go_wp2_with (first
      |refine wpList_store_row rfl 32 (.tmp 2) (.tmp 85) rfl rp ZC rfl rfl 32 ZC f1.out o0.out rfl s2.out ?_
      |fail)
     refine bodyPost_ret (V4 rfl _ _ _ rp 32 ZC (0,0) _ rfl (setRow_heap _ _ _ _ _ _ f1.out) Tryz.underlying32 o0.out) rfl ?_;rw[<-Z1.out];refine⟨Q8,?_,?_,?_⟩
     ·have e1:(if Yj S.data.toList=none then(110:Int) else 0)=110:=by rw[HN.out];rfl
      have e2:Q8.toArray=ZC:=S0.out;rw[e1,e2];clear e1 e2;refine tup2 ?_;rfl
     ·rw[HN.out];exact Zcq _
     ·exact Xp i2 (by omega) _
    ·have HN:=Hd (Zac (c:=⟨qa,qf,qp,qwn,qpo,qv,⟨0,qx,qy,qz⟩,qbo,qsc,qr,qk,ql,qm,qn⟩) q2.out n2.out m2.out HG.out (.inl rfl));have W2:=S0.out
     go_wp2_with (first
      |refine wpList_store_row rfl 32 (.tmp 2) (.tmp 85) rfl rp ZC rfl rfl 32 ZC f1.out o0.out rfl s2.out ?_
      |fail)
     refine bodyPost_ret (V4 rfl _ _ _ rp 32 ZC (0,0) _ rfl (setRow_heap _ _ _ _ _ _ f1.out) Tryz.underlying32 o0.out) rfl ?_;rw[<-Z1.out];refine⟨Q8,?_,?_,?_⟩
     ·have e1:(if Yj S.data.toList=none then(110:Int) else 0)=110:=by rw[HN.out];rfl
      have e2:Q8.toArray=ZC:=S0.out;rw[e1,e2];clear e1 e2;refine tup2 ?_;rfl
     ·rw[HN.out];exact Zcq _
     ·exact Xp i2 (by omega) _
    ·have N2:q=0:=by simpa using hqb
     have l2:=HG.out;rw[J2.out.1 N2]at l2;have HN:=Hd (Zdw q2.out n2.out m2.out rfl l2);clear l2 N2
     go_wp2_with (first
      |refine wpList_load_row rfl 32 (.tmp 9) rfl cb rfl 32 C (0,0) _ g3.out Tryz.underlying32 rfl O0.out ?_
      |refine wpList_store_row rfl 32 (.tmp 2) (.tmp 86) rfl rp C rfl rfl 32 ZC f1.out O0.out j3.out.symm Z2.out ?_
      |fail)
     refine bodyPost_ret (V4 rfl _ _ _ rp 32 C (0,0) _ rfl (setRow_heap _ _ _ _ _ _ f1.out) Tryz.underlying32 O0.out) rfl ?_;rw[<-Z1.out];refine⟨[.int .i64 qa,.slice a1 qf.length p1,.slice a2 qp.length p2,.slice a3 qwn.length p3,.slice a4 qpo.length p4,.slice a5 qv.length p5,.int .i64 0,.int .i64 qx,.int .i64 qy,.int .i64 qz,.int .i64 qbo,.int .i64 qsc,.slice a11 qr.length p11,.slice a12 qk.length p12,.string ql,.int .i64 qm,.int .i64 qn],?_,?_,?_⟩
     ·have e1:(if Yj S.data.toList=none then(110:Int) else 0)=0:=by rw[HN.out];rfl
      rw[e1,l3.out];clear e1;refine tup2 ?_;rfl
     ·rw[HN.out];clear e0 f3;exact⟨⟨_,_,_,_,_,_,_,rfl,A1.out _ (OnlyU.setR (OnlyT.u (by repeat(first|assumption|exact Only.refl _ _|refine OnlyT.then ?_ (by assumption)))) _),j1.out _ (OnlyU.setR (OnlyT.u (by repeat(first|assumption|exact Only.refl _ _|refine OnlyT.then ?_ (by assumption)))) _),m1.out _ (OnlyU.setR (OnlyT.u (by repeat(first|assumption|exact Only.refl _ _|refine OnlyT.then ?_ (by assumption)))) _),y1.out _ (OnlyU.setR (OnlyT.u (by repeat(first|assumption|exact Only.refl _ _|refine OnlyT.then ?_ (by assumption)))) _),q1.out _ (OnlyU.setR (OnlyT.u (by repeat(first|assumption|exact Only.refl _ _|refine OnlyT.then ?_ (by assumption)))) _),T0.out _ (OnlyU.setR (OnlyT.u (by repeat(first|assumption|exact Only.refl _ _|refine OnlyT.then ?_ (by assumption)))) _),L0.out _ (OnlyU.setR (OnlyT.u (by repeat(first|assumption|exact Only.refl _ _|refine OnlyT.then ?_ (by assumption)))) _)⟩⟩
     ·exact Xp i2 (by omega) _
